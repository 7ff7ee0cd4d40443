/-
  The first elements of a slice: s[:k].
-/
import Derived.Test.YtibeoiphjkgekaaGreatBase
namespace Go.Proofs.YtibeoiphjkgekaaGreat
namespace B
open Go.RowKit
theorem run_head {P : Program} {t e : TypeId} {s : Nat} (ht : P.underlying t = some (.slice e)) (he : P.elem t = e) (hs : ∀ W, (sizeOf e).run P W = .ok s W) (A : Option Addr) (n c k : Nat) (hk : k ≤ c) (kl : IntKind) (W : World) :
    (Instr.slice t (.slice A n c) none (some (.int kl (k : Int))) none).run P W = .ok (.slice (cutA A c 0 s) k c) W := by
  subst he
  rw [run_slice_h W t A n c ht kl (k : Int) (by omega) (by omega), hs]
  simp [Result.andThen, sliced, cutA]
theorem cutA_zero (A : Option Addr) (c s : Nat) : cutA A c 0 s = A := by
  unfold cutA
  split
  · rfl
  · cases A with
    | none => rfl
    | some a => simp [Addr.add]
theorem Rd.take {α : Type} {w : World} {size n k : Nat} {enc : α → List Value} {A : Option Addr} {l : List α} (h : Rd w size enc A n l) (hk : k ≤ n) : Rd w size enc A k (l.take k) := by
  refine ⟨by rw [List.length_take, h.len]; omega, fun hn => ?_⟩
  obtain ⟨b, o, e, hb, hc⟩ := h.cells (by omega)
  refine ⟨b, o, e, hb, fun i x hx => hc i x ?_⟩
  rw [List.getElem?_take] at hx
  split at hx
  · exact hx
  · cases hx
theorem Rd.some2 {α : Type} {w : World} {size n : Nat} {enc : α → List Value} {A : Option Addr} {l : List α} (h : Rd w size enc A n l) : A = none → n = 0 := by
  intro hA
  by_cases hn : n = 0
  · exact hn
  · obtain ⟨k, off, e, _⟩ := h.2 (by omega)
    rw [hA] at e; cases e
end B
end Go.Proofs.YtibeoiphjkgekaaGreat
