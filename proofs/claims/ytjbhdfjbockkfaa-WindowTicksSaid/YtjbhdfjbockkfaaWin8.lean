/-
  Walk: timetablelaw08.in.
-/
import Derived.Test.YtjbhdfjbockkfaaWinPlain4
import Derived.Deep.QuietTactic
import Derived.BigQuiet
import Derived.Deep.DeepCutAuto
namespace Go.Proofs.Ytjbhdfjbockkfaa
open Go.RowKit B Go.Shelf
set_option linter.unusedVariables false
set_option linter.unusedSimpArgs false
set_option maxHeartbeats 1000000
theorem in_any (f v n h x : Int) (w : World) (hT : W.chkT f v n = 0) (hh : W.chk h = 0) (hx : 0 ≤ x ∧ x ≤ 1099511627776) :
    Calls Try.prog 30 #[.agg #[.int .i64 f, .int .i64 v, .int .i64 n], .int .i64 h, .int .i64 x] w fun e w' => e = .returned (.bool (inT f v n h x)) ∧ Below w.heap.size w w' := by
  obtain ⟨h1, h2, h3⟩ := chkT_parts hT
  have h4 := W.chk_zero hh
  obtain ⟨u, hu⟩ : ∃ u, inT f v n h x = u := ⟨_, rfl⟩
  rw [hu]
  unfold inT at hu
  have hal : Below w.heap.size w (w.alloc (.cells #[.int .i64 f, .int .i64 v, .int .i64 n] 32)) := (Below.refl _ _).alloc (Nat.le_refl _) _
  clear hT hh
  go_enter Try.func30, Try.ntmps30
  by_cases c1 : x < f
  · rw [if_pos (.inl c1)] at hu
    subst hu
    go_wp2_with fail
    go_returns
    exact ⟨ret_bool rfl, hal⟩
  · by_cases c2 : h < f
    · rw [if_pos (.inr c2)] at hu
      subst hu
      have hd : decide (x < f) = false := decide_eq_false c1
      go_wp2_with fail
      go_returns
      exact ⟨ret_bool rfl, hal⟩
    · rw [if_neg (by omega)] at hu
      by_cases c3 : v = 0
      · rw [if_pos c3] at hu
        subst c3
        have hu := Lib.hid hu
        rename_i hz; clear hz
        go_wp2_with fail
        go_returns
        exact ⟨ret_bool (by rw [← hu.out]), hal⟩
      · rw [if_neg c3] at hu
        have q1 : (x - f) / v * v ≤ x - f := Int.ediv_mul_le _ c3
        have q0 : 0 ≤ (x - f) / v := Int.ediv_nonneg (by omega) (by omega)
        have q2 : 0 ≤ (x - f) / v * v := Int.mul_nonneg q0 (by omega)
        have q3 : (x - f) / v ≤ 1099511627776 := Int.le_trans (Int.ediv_le_self _ (by omega)) (by omega)
        have r1 : (h - f) / v * v ≤ h - f := Int.ediv_mul_le _ c3
        have r0 : 0 ≤ (h - f) / v := Int.ediv_nonneg (by omega) (by omega)
        have r2 : 0 ≤ (h - f) / v * v := Int.mul_nonneg r0 (by omega)
        have r3 : (h - f) / v ≤ 1099511627776 := Int.le_trans (Int.ediv_le_self _ (by omega)) (by omega)
        by_cases c4 : h < f + (x - f) / v * v
        · rw [if_pos c4] at hu
          have hu := Lib.hid hu
          rename_i hz; clear hz
          go_upto_region 8 with fail
          go_quiet (fail)
          go_wp2_with fail
          go_returns
          exact ⟨ret_bool (by rw [← hu.out]), ⟨hal.os, hal.tape, hal.output, hal.size, hal.block⟩⟩
        · rw [if_neg c4] at hu
          have hu := Lib.hid hu
          rename_i hz; clear hz
          go_wp2_with fail
          go_returns
          exact ⟨ret_bool (by rw [← hu.out]), hal⟩
end Go.Proofs.Ytjbhdfjbockkfaa
