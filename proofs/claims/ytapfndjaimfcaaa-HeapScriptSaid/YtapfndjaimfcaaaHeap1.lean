/-
  Walks: cmp.Compare, cmp.Or, heap.order.
-/
import Derived.Test.YtapfndjaimfcaaaProg
import Derived.WalkLawsBesides
import Derived.Handy
import Derived.Deep.Cut
import Derived.Test.YtapfndjaimfcaaaStill
import Derived.Test.YtapfndjaimfcaaaGrew
import Derived.Test.YtapfndjaimfcaaaHeapPlain
namespace Go.Proofs.Ytapfndjaimfcaaa
open Go.RowKit B
set_option linter.unusedVariables false
set_option linter.unusedSimpArgs false
set_option maxHeartbeats 400000
namespace K
def cmpI (x y : Int) : Int := if x < y then -1 else if y < x then 1 else 0
def or2 (a b : Int) : Int := if a ≠ 0 then a else b
def ordI (a b : It) : Int := or2 (cmpI a.1 b.1) (cmpI a.2 b.2)
theorem cmpI_lt {x y : Int} : cmpI x y < 0 ↔ x < y := by unfold cmpI; split <;> (try split) <;> omega
theorem cmpI_zero {x y : Int} : cmpI x y = 0 ↔ x = y := by unfold cmpI; split <;> (try split) <;> omega
theorem or2_lt {a b : Int} : or2 a b < 0 ↔ a < 0 ∨ a = 0 ∧ b < 0 := by unfold or2; split <;> omega
theorem ordI_lt (a b : It) : decide (ordI a b < 0) = ltI a b := by
  rw [Bool.eq_iff_iff, decide_eq_true_eq, ltI_iff]
  unfold ordI
  rw [or2_lt, cmpI_lt, cmpI_zero, cmpI_lt]
end K
open K
theorem nanI_any (x : Int) (w : World) : Calls Try.prog 77 #[.int .i64 x] w fun e w' => e = .returned (.bool false) ∧ w = w' := by
  go_enter Try.func77, Try.ntmps77
  go_wp2
  go_returns
  exact ⟨rfl, rfl⟩
theorem nanL_any (x : Int) (w : World) : Calls Try.prog 76 #[.int .i64 x] w fun e w' => e = .returned (.bool false) ∧ w = w' := by
  go_enter Try.func76, Try.ntmps76
  go_wp2
  go_returns
  exact ⟨rfl, rfl⟩
theorem cmpI_any (x y : Int) (w : World) : Calls Try.prog 68 #[.int .i64 x, .int .i64 y] w fun e w' => e = .returned (.int .i64 (cmpI x y)) ∧ w' = w := by
  go_enter Try.func68, Try.ntmps68
  by_cases h1 : x < y
  · go_wp2_with (go_at_call 77; refine (nanI_any _ _).mono ?_; rintro e w' ⟨rfl, rfl⟩)
    go_returns
    exact ⟨ret_int (by unfold K.cmpI; rw [if_pos h1]), rfl⟩
  · by_cases h2 : y < x
    · go_wp2_with (go_at_call 77; refine (nanI_any _ _).mono ?_; rintro e w' ⟨rfl, rfl⟩)
      go_returns
      exact ⟨ret_int (by unfold K.cmpI; rw [if_neg (by omega), if_pos h2]), rfl⟩
    · go_wp2_with (go_at_call 77; refine (nanI_any _ _).mono ?_; rintro e w' ⟨rfl, rfl⟩)
      go_returns
      exact ⟨ret_int (by unfold K.cmpI; rw [if_neg (by omega), if_neg (by omega)]), rfl⟩
theorem cmpL_any (x y : Int) (w : World) : Calls Try.prog 67 #[.int .i64 x, .int .i64 y] w fun e w' => e = .returned (.int .i64 (cmpI x y)) ∧ w' = w := by
  go_enter Try.func67, Try.ntmps67
  by_cases h1 : x < y
  · go_wp2_with (go_at_call 76; refine (nanL_any _ _).mono ?_; rintro e w' ⟨rfl, rfl⟩)
    go_returns
    exact ⟨ret_int (by unfold K.cmpI; rw [if_pos h1]), rfl⟩
  · by_cases h2 : y < x
    · go_wp2_with (go_at_call 76; refine (nanL_any _ _).mono ?_; rintro e w' ⟨rfl, rfl⟩)
      go_returns
      exact ⟨ret_int (by unfold K.cmpI; rw [if_neg (by omega), if_pos h2]), rfl⟩
    · go_wp2_with (go_at_call 76; refine (nanL_any _ _).mono ?_; rintro e w' ⟨rfl, rfl⟩)
      go_returns
      exact ⟨ret_int (by unfold K.cmpI; rw [if_neg (by omega), if_neg (by omega)]), rfl⟩
theorem or_any (a b : Int) (bk : Nat) (w : World) (h0 : w.cell? ⟨bk, 0, none⟩ = some (.int .i64 a)) (h1 : w.cell? ⟨bk, 1, none⟩ = some (.int .i64 b)) :
    Calls Try.prog 66 #[.slice (some ⟨bk, 0, none⟩) 2 2] w fun e w' => e = .returned (.int .i64 (or2 a b)) ∧ w' = w := by
  by_cases ha : a = 0
  · subst ha
    by_cases hb : b = 0
    · subst hb
      go_enter Try.func66, Try.ntmps66
      go_wp2
      refine wp_loop_rounds 3 ?_
      rw [rounds_succ]
      go_wp2
      rw [rounds_succ]
      go_wp2
      rw [rounds_succ]
      go_wp2
      go_returns
      exact ⟨rfl, rfl⟩
    · have hb' : (b != 0) = true := by simp [hb]
      go_enter Try.func66, Try.ntmps66
      go_wp2
      refine wp_loop_rounds 2 ?_
      rw [rounds_succ]
      go_wp2
      rw [rounds_succ]
      go_wp2
      go_returns
      exact ⟨rfl, rfl⟩
  · have ha' : (a != 0) = true := by simp [ha]
    go_enter Try.func66, Try.ntmps66
    go_wp2
    refine wp_loop_rounds 1 ?_
    rw [rounds_succ]
    go_wp2
    go_returns
    exact ⟨ret_int (by unfold or2; rw [if_pos ha]), rfl⟩
set_option maxRecDepth 100000 in
theorem order_any (a b c d : Int) (w : World) : Calls Try.prog 55 #[.agg #[.int .i64 a, .int .i64 b], .agg #[.int .i64 c, .int .i64 d]] w fun e w' => e = .returned (.int .i64 (ordI (a, b) (c, d))) ∧ Grew w w' := by
  go_enter Try.func55, Try.ntmps55
  go_wp2_with fail
  refine wp_tail0 10 (by kernel_rfl) (by kernel_rfl) ?_
  simp only [List.take_succ_cons, List.take_zero, List.drop_succ_cons, List.drop_zero]
  repeat (first | still_step | still_call (cmpI_any _ _ _) | still_call (cmpL_any _ _ _))
  try refine wpStill_nil ?_
  go_wp2_with (go_at_call 66; refine (or_any (K.cmpI a c) (K.cmpI b d) _ _ (by simp [go_sem]) (by simp [go_sem])).mono ?_; rintro e w' ⟨rfl, rfl⟩)
  go_returns
  exact ⟨rfl, ((((Grew.refl w).alloc _).alloc _).alloc _).drewN 1⟩
end Go.Proofs.Ytapfndjaimfcaaa
