/-
  Walks: the document's answer (timetableref01, timetableref08): Check, Count, Check of times, Good, asked.
-/
import Derived.Test.YtjbhdfjbockkfaaWin1
namespace Go.Proofs.Ytjbhdfjbockkfaa
open Go.RowKit B
set_option linter.unusedVariables false
set_option linter.unusedSimpArgs false
set_option maxHeartbeats 400000
theorem rchk_any (x : Int) (w : World) :
    Calls Try.prog 41 #[.int .i64 x] w fun e w' => e = .returned (.int .i64 (W.chk x)) ∧ w = w' := by
  go_enter Try.func41, Try.ntmps41
  by_cases h : 0 ≤ x ∧ x ≤ 1099511627776
  · obtain ⟨h1, h2⟩ := h
    go_wp2
    go_returns
    exact ⟨ret_int (W.chk_ok ⟨h1, h2⟩).symm, rfl⟩
  · go_wp2
    all_goals
      first
        | (exfalso; omega)
        | (go_returns; exact ⟨ret_int (W.chk_no h).symm, rfl⟩)
theorem rcount_any (f v u : Int) (w : World) :
    Calls Try.prog 42 #[.int .i64 f, .int .i64 v, .int .i64 u] w fun e w' => e = .returned (.int .i64 (W.count f v u)) ∧ w = w' := by
  go_enter Try.func42, Try.ntmps42
  by_cases hh : W.chk f = 0 ∧ W.chk v = 0 ∧ W.chk u = 0 ∧ f ≤ u
  · obtain ⟨h1, h2, h3, h4⟩ := hh
    have := W.chk_zero h1
    have := W.chk_zero h2
    have := W.chk_zero h3
    by_cases hv : v = 0
    · subst hv
      go_wp2_with (go_at_call 41; refine (rchk_any _ _).mono ?_; rintro e w' ⟨rfl, rfl⟩)
      go_returns
      exact ⟨ret_int (by unfold W.count; rw [if_pos ⟨h1, h2, h3, h4⟩, if_pos rfl]), rfl⟩
    · have hq0 : 0 ≤ (u - f) / v := Int.ediv_nonneg (by omega) (by omega)
      have hq1 : (u - f) / v ≤ 1099511627776 := Int.le_trans (Int.ediv_le_self _ (by omega)) (by omega)
      go_wp2_with (go_at_call 41; refine (rchk_any _ _).mono ?_; rintro e w' ⟨rfl, rfl⟩)
      go_returns
      exact ⟨ret_int (by unfold W.count; rw [if_pos ⟨h1, h2, h3, h4⟩, if_neg hv]), rfl⟩
  · have h0 : Hid (W.count f v u = 0) := by show _ = _; unfold W.count; rw [if_neg hh]
    rcases W.chk_cases f with h1 | h1 <;> rcases W.chk_cases v with h2 | h2 <;> rcases W.chk_cases u with h3 | h3
    all_goals
      go_wp2_with (go_at_call 41; refine (rchk_any _ _).mono ?_; rintro e w' ⟨rfl, rfl⟩)
      all_goals
        go_returns
        exact ⟨ret_int (by rw [h0.out]), rfl⟩
theorem rcheckT_any (f v n : Int) (w : World) :
    Calls Try.prog 21 #[.agg #[.int .i64 f, .int .i64 v, .int .i64 n]] w fun e w' => e = .returned (.int .i64 (W.chkT f v n)) ∧ Below w.heap.size w w' := by
  go_enter Try.func21, Try.ntmps21
  by_cases hv : v = 0
  · subst hv
    rcases W.chk_cases f with h | h
    all_goals
      go_wp2_with (go_at_call 41; refine (rchk_any _ _).mono ?_; rintro e w' ⟨rfl, rfl⟩)
      all_goals
        go_returns
        exact ⟨ret_int (by unfold W.chkT; first | (rw [if_pos (by omega)]) | (rw [if_neg (by omega)])), (Below.refl _ _).alloc (Nat.le_refl _) _⟩
  · have hv2 : (v != 0) = true := by simp [hv]
    rcases W.chk_cases f with h | h
    all_goals
      go_wp2_with (go_at_call 41; refine (rchk_any _ _).mono ?_; rintro e w' ⟨rfl, rfl⟩)
      all_goals
        go_returns
        exact ⟨ret_int (by unfold W.chkT; first | (rw [if_pos (by omega)]) | (rw [if_neg (by omega)])), (Below.refl _ _).alloc (Nat.le_refl _) _⟩
end Go.Proofs.Ytjbhdfjbockkfaa
