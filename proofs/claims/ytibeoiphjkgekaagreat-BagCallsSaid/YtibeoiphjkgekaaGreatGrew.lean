/-
  A world that has grown: draws, and new blocks behind the old ones; all else as it was.
-/
import Derived.Sort.Grow
import Derived.Test.YtibeoiphjkgekaaGreatBase
namespace Go.Proofs.YtibeoiphjkgekaaGreat
namespace B
open Go.RowKit Go.Sort
structure Grew (w w' : World) : Prop where
  below : Below w.heap.size w w'
  drawn : w.drawn ≤ w'.drawn
theorem drewN_drawn (w : World) : ∀ n, (w.drewN n).drawn = w.drawn + n
  | 0 => rfl
  | n + 1 => by
    show (w.drewN n).drew.drawn = _
    show (w.drewN n).drawn + 1 = _
    rw [drewN_drawn w n]; omega
theorem Grew.refl (w : World) : Grew w w := ⟨Below.refl _ _, Nat.le_refl _⟩
theorem Grew.trans {a b c : World} (h : Grew a b) (k : Grew b c) : Grew a c := ⟨h.below.trans (k.below.mono h.below.size), Nat.le_trans h.drawn k.drawn⟩
theorem Grew.alloc {a w : World} (h : Grew a w) (o : Obj) : Grew a (w.alloc o) := ⟨h.below.alloc h.below.size o, h.drawn⟩
theorem Grew.drewN {a w : World} (h : Grew a w) (n : Nat) : Grew a (w.drewN n) := ⟨⟨h.below.os, h.below.tape, h.below.output, h.below.size, h.below.block⟩, Nat.le_trans h.drawn (by rw [drewN_drawn]; omega)⟩
theorem Grew.drew {a w : World} (h : Grew a w) : Grew a w.drew := h.drewN 1
theorem Grew.grow {w w' : World} (h : Grew w w') : ∃ q os, w' = Sort.grow (w.drewN q) os := by
  obtain ⟨hb, hd⟩ := h
  refine ⟨w'.drawn - w.drawn, w'.heap.extract w.heap.size w'.heap.size, ?_⟩
  have hh : w'.heap = w.heap ++ w'.heap.extract w.heap.size w'.heap.size := by
    refine Array.ext_getElem? fun i => ?_
    rw [Array.getElem?_append]
    split
    · rename_i hi; exact hb.block i hi
    · rename_i hi
      rw [Array.getElem?_extract]
      by_cases h2 : i < w'.heap.size
      · rw [if_pos (by omega)]; congr 1; omega
      · rw [if_neg (by omega), Array.getElem?_eq_none (by omega)]
  have e : (Sort.grow (w.drewN (w'.drawn - w.drawn)) (w'.heap.extract w.heap.size w'.heap.size)) = ⟨w.heap ++ w'.heap.extract w.heap.size w'.heap.size, w.tape, w.drawn + (w'.drawn - w.drawn), w.os, w.output⟩ := by
    unfold Sort.grow
    have h1 := drewN_drawn w (w'.drawn - w.drawn)
    have h2 : (w.drewN (w'.drawn - w.drawn)).heap = w.heap := World.heap_drewN _ _
    have h3 : ∀ n, (w.drewN n).tape = w.tape ∧ (w.drewN n).os = w.os ∧ (w.drewN n).output = w.output := by
      intro n
      induction n with
      | zero => exact ⟨rfl, rfl, rfl⟩
      | succ n ih => exact ih
    obtain ⟨h4, h5, h6⟩ := h3 (w'.drawn - w.drawn)
    rw [h1, h2, h4, h5, h6]
  rw [e, ← hh, show w.drawn + (w'.drawn - w.drawn) = w'.drawn by omega, ← hb.tape, ← hb.os, ← hb.output]
end B
end Go.Proofs.YtibeoiphjkgekaaGreat
