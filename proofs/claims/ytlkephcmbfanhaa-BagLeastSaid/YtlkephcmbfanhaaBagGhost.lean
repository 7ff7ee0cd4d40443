/-
  What the world is while own(a), append(.., b...), append(.., b...) are run in a drawn region.
-/
import Derived.Test.YtlkephcmbfanhaaBagParts
import Derived.Test.YtlkephcmbfanhaaAnyGhost
namespace Go.Proofs.Ytlkephcmbfanhaa
open Go.RowKit B K Go.Shelf
set_option linter.unusedVariables false
set_option linter.unusedSimpArgs false
def Gh (w0 : World) (a b : List P3) (l : Nat → Bool) (x : Nat → Value) (w : World) : Prop :=
  Below w0.heap.size w0 w ∧ (l 7 = true → l 3 = true) ∧ (l 11 = true → l 7 = true) ∧ (l 12 = true → l 11 = true ∧ x 12 = x 11) ∧
  (l 3 = true → l 7 = false → w.ownsRow w0.heap.size 23 3 (x 3) a.length (a.flatMap tripE)) ∧
  (l 7 = true → l 11 = false → w.ownsRow w0.heap.size 23 3 (x 7) (a ++ b).length ((a ++ b).flatMap tripE)) ∧
  (l 11 = true → w.ownsRow w0.heap.size 23 3 (x 11) ((a ++ b) ++ b).length (((a ++ b) ++ b).flatMap tripE))
section
variable {w0 w w' : World} {a b : List P3} {l : Nat → Bool} {x : Nat → Value} {v : Value}
theorem bne {p q : Bool} (h : p = true → q = true) (hq : q = false) : p = false := by
  cases p with
  | false => rfl
  | true => rw [h rfl] at hq; cases hq
theorem Gh.start (h3 : l 3 = false) (h7 : l 7 = false) (h11 : l 11 = false) (h12 : l 12 = false) (hb : Below w0.heap.size w0 w) : Gh w0 a b l x w := by
  refine ⟨hb, fun h => ?_, fun h => ?_, fun h => ?_, fun h => ?_, fun h => ?_, fun h => ?_⟩ <;> simp_all
theorem Gh.s3 (h : Gh w0 a b l x w) (hl : l 3 = false) (own : w'.ownsRow w.heap.size 23 3 v a.length (a.flatMap tripE)) (hb : Below w.heap.size w w') : Gh w0 a b (updB l 3) (upd x 3 v) w' := by
  obtain ⟨g1, g2, g3, g4, g5, g6, g7⟩ := h
  have e7 := bne g2 hl
  have e11 := bne g3 e7
  have e12 := bne (fun h => (g4 h).1) e11
  refine ⟨g1.trans (hb.mono g1.size), fun _ => rfl, fun h => ?_, fun h => ?_, fun _ _ => own_base own g1.size, fun h => ?_, fun h => ?_⟩
  · rw [show updB l 3 11 = l 11 from rfl, e11] at h; cases h
  · rw [show updB l 3 12 = l 12 from rfl, e12] at h; cases h
  · rw [show updB l 3 7 = l 7 from rfl, e7] at h; cases h
  · rw [show updB l 3 11 = l 11 from rfl, e11] at h; cases h
theorem Gh.s7 (h : Gh w0 a b l x w) (h3 : l 3 = true) (hl : l 7 = false) (own : w'.ownsRow w0.heap.size 23 3 v (a ++ b).length ((a ++ b).flatMap tripE)) (hb : Below w0.heap.size w w') : Gh w0 a b (updB l 7) (upd x 7 v) w' := by
  obtain ⟨g1, g2, g3, g4, g5, g6, g7⟩ := h
  have e11 := bne g3 hl
  have e12 := bne (fun h => (g4 h).1) e11
  refine ⟨g1.trans hb, fun _ => h3, fun h => ?_, fun h => ?_, fun _ h => ?_, fun _ _ => own, fun h => ?_⟩
  · rfl
  · rw [show updB l 7 12 = l 12 from rfl, e12] at h; cases h
  · cases h
  · rw [show updB l 7 11 = l 11 from rfl, e11] at h; cases h
theorem Gh.s11 (h : Gh w0 a b l x w) (h7 : l 7 = true) (hl : l 11 = false) (own : w'.ownsRow w0.heap.size 23 3 v ((a ++ b) ++ b).length (((a ++ b) ++ b).flatMap tripE)) (hb : Below w0.heap.size w w') : Gh w0 a b (updB l 11) (upd x 11 v) w' := by
  obtain ⟨g1, g2, g3, g4, g5, g6, g7⟩ := h
  have e12 := bne (fun h => (g4 h).1) hl
  refine ⟨g1.trans hb, g2, fun _ => h7, fun h => ?_, fun _ h => ?_, fun _ h => ?_, fun _ => own⟩
  · rw [show updB l 11 12 = l 12 from rfl, e12] at h; cases h
  · rw [show updB l 11 7 = l 7 from rfl, h7] at h; cases h
  · cases h
theorem Gh.s12 (h : Gh w0 a b l x w) (h11 : l 11 = true) : Gh w0 a b (updB l 12) (upd x 12 (x 11)) w := by
  obtain ⟨g1, g2, g3, g4, g5, g6, g7⟩ := h
  exact ⟨g1, g2, g3, fun _ => ⟨h11, rfl⟩, g5, g6, g7⟩
end
end Go.Proofs.Ytlkephcmbfanhaa
