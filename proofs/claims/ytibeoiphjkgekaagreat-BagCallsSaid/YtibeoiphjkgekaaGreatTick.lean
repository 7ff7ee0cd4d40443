/-
  Walks: tick.Check, and what it leans on.
-/
import Derived.Test.YtibeoiphjkgekaaGreatBase
import Derived.Test.YtibeoiphjkgekaaGreatProg
import Derived.WalkLawsBesides
import Derived.Handy
import Derived.BigQuiet
import Derived.Deep.QuietTactic
namespace Go.Proofs.YtibeoiphjkgekaaGreat
namespace T
def chk (x : Int) : Int := if 0 ≤ x ∧ x ≤ 1099511627776 then 0 else 9
theorem chk_ok {x : Int} (h : 0 ≤ x ∧ x ≤ 1099511627776) : chk x = 0 := if_pos h
theorem chk_no {x : Int} (h : ¬ (0 ≤ x ∧ x ≤ 1099511627776)) : chk x = 9 := if_neg h
theorem chk_zero {x : Int} (h : chk x = 0) : 0 ≤ x ∧ x ≤ 1099511627776 := by
  unfold chk at h; split at h
  · assumption
  · omega
theorem chk_cases (x : Int) : chk x = 0 ∨ chk x = 9 := by unfold chk; split <;> simp
end T
open Go.RowKit B
set_option linter.unusedVariables false
theorem within_any (lo x hi : Int) (w : World) :
    Calls Tryz.prog 86 #[.int .i64 lo, .int .i64 x, .int .i64 hi] w fun e w' => e = .returned (.bool (decide (lo ≤ x ∧ x ≤ hi))) ∧ w = w' := by
  go_enter Tryz.func86, Tryz.ntmps86
  go_wp2
  all_goals go_returns
  · refine ⟨?_, rfl⟩; congr; symm; simp; omega
  · refine ⟨?_, rfl⟩; congr 2; simp; omega
theorem tcheck_any (x : Int) (w : World) :
    Calls Tryz.prog 73 #[.int .i64 x] w fun e w' => e = .returned (.int .i64 (T.chk x)) ∧ w = w' := by
  go_enter Tryz.func73, Tryz.ntmps73
  by_cases h : 0 ≤ x ∧ x ≤ 1099511627776
  · have hd : decide (0 ≤ x ∧ x ≤ 1099511627776) = true := by simpa using h
    go_wp2_with (go_at_call 86; refine (within_any _ _ _ _).mono ?_; rintro e w' ⟨rfl, rfl⟩)
    go_returns
    exact ⟨ret_int (T.chk_ok h).symm, rfl⟩
  · have hd : decide (0 ≤ x ∧ x ≤ 1099511627776) = false := by simpa using h
    go_wp2_with (go_at_call 86; refine (within_any _ _ _ _).mono ?_; rintro e w' ⟨rfl, rfl⟩)
    go_returns
    exact ⟨ret_int (T.chk_no h).symm, rfl⟩
end Go.Proofs.YtibeoiphjkgekaaGreat
