/-
  A drawn region that reads a slice, makes a literal, appends it and stores the slice again: its worlds stand in a chain.
-/
import Derived.Test.YtonkkibnigdfbaaSpS
namespace Go.Proofs.Ytonkkibnigdfbaa
namespace B
open Go.RowKit
set_option linter.unusedVariables false
set_option linter.unusedSimpArgs false
/-- f1: the slice is read; fa: the literal is made; fb: appended; fc: stored -/
structure GCh (W0 W1 W2 W3 : World) (va vb : Value) (f1 fa fb fc : Bool) (xa xb : Value) (w : World) : Prop where
  c0 : fb = true → f1 = true
  c1 : fb = true → fa = true
  c2 : fc = true → fb = true
  s0 : fa = false → w = W0
  s1 : fa = true → fb = false → w = W1
  s2 : fb = true → fc = false → w = W2
  s3 : fc = true → w = W3
  e1 : fa = true → xa = va
  e2 : fb = true → xb = vb
section
variable {W0 W1 W2 W3 w w' : World} {va vb xa xb v : Value} {f1 fa fb fc : Bool}
theorem GCh.start (h1 : f1 = false) (ha : fa = false) (hb : fb = false) (hc : fc = false) : GCh W0 W1 W2 W3 va vb f1 fa fb fc xa xb W0 := by
  subst h1 ha hb hc
  exact ⟨fun h => (by cases h), fun h => (by cases h), fun h => (by cases h), fun _ => rfl, fun h => (by cases h), fun h => (by cases h), fun h => (by cases h), fun h => (by cases h), fun h => (by cases h)⟩
theorem GCh.rd (h : GCh W0 W1 W2 W3 va vb f1 fa fb fc xa xb w) : GCh W0 W1 W2 W3 va vb true fa fb fc xa xb w := ⟨fun _ => rfl, h.c1, h.c2, h.s0, h.s1, h.s2, h.s3, h.e1, h.e2⟩
theorem GCh.lit (h : GCh W0 W1 W2 W3 va vb f1 fa fb fc xa xb w) (hl : fa = false) (hw : w' = W1) (hv : v = va) : GCh W0 W1 W2 W3 va vb f1 true fb fc v xb w' := by
  have hb := bne2 h.c1 hl
  have hc := bne2 h.c2 hb
  subst hb hc
  exact ⟨fun h => (by cases h), fun _ => rfl, fun h => (by cases h), fun h => (by cases h), fun _ _ => hw, fun h => (by cases h), fun h => (by cases h), fun _ => hv, fun h => (by cases h)⟩
theorem GCh.app (h : GCh W0 W1 W2 W3 va vb f1 fa fb fc xa xb w) (hl : fb = false) (h1 : f1 = true) (ha : fa = true) (hw : w' = W2) (hv : v = vb) : GCh W0 W1 W2 W3 va vb f1 fa true fc xa v w' := by
  have hc := bne2 h.c2 hl
  subst hc
  exact ⟨fun _ => h1, fun _ => ha, fun h => (by cases h), fun h => (by rw [ha] at h; cases h), fun _ h => (by cases h), fun _ _ => hw, fun h => (by cases h), h.e1, fun _ => hv⟩
theorem GCh.put (h : GCh W0 W1 W2 W3 va vb f1 fa fb fc xa xb w) (hb : fb = true) (hw : w' = W3) : GCh W0 W1 W2 W3 va vb f1 fa fb true xa xb w' :=
  ⟨h.c0, h.c1, fun _ => hb, fun h1 => (by rw [h.c1 hb] at h1; cases h1), fun _ h2 => (by rw [hb] at h2; cases h2), fun _ h2 => (by cases h2), fun _ => hw, h.e1, h.e2⟩
theorem GCh.cases (h : GCh W0 W1 W2 W3 va vb f1 fa fb fc xa xb w) : w = W0 ∨ w = W1 ∨ w = W2 ∨ w = W3 := by
  cases ha : fa with
  | false => exact .inl (h.s0 ha)
  | true =>
    cases hb : fb with
    | false => exact .inr (.inl (h.s1 ha hb))
    | true =>
      cases hc : fc with
      | false => exact .inr (.inr (.inl (h.s2 hb hc)))
      | true => exact .inr (.inr (.inr (h.s3 hc)))
theorem GCh.bel {base : Nat} (h : GCh W0 W1 W2 W3 va vb f1 fa fb fc xa xb w) (b1 : Below base W0 W1) (b2 : Below base W0 W2) (b3 : Below base W0 W3) : Below base W0 w := by
  rcases h.cases with rfl | rfl | rfl | rfl
  · exact Below.refl _ _
  · exact b1
  · exact b2
  · exact b3
/-- ahead of the append -/
theorem GCh.ahead (h : GCh W0 W1 W2 W3 va vb f1 fa fb fc xa xb w) (h1 : f1 = false) : w = W0 ∨ w = W1 := by
  have hb := bne2 h.c0 h1
  cases ha : fa with
  | false => exact .inl (h.s0 ha)
  | true => exact .inr (h.s1 ha hb)
end
end B
end Go.Proofs.Ytonkkibnigdfbaa
