/-
  Walks: cmp.Compare, cmp.Or; pair.may, beats, compare; triple.pair, may, beats, compare.
-/
import Derived.Test.YtibeoiphjkgekaaGreatTick
import Derived.Test.YtibeoiphjkgekaaGreatBagWords
import Derived.Test.YtibeoiphjkgekaaGreatStill
import Derived.Test.YtibeoiphjkgekaaGreatGrew
namespace Go.Proofs.YtibeoiphjkgekaaGreat
open Go.RowKit B K
set_option linter.unusedVariables false
set_option linter.unusedSimpArgs false
set_option maxHeartbeats 400000
theorem nanI_any (x : Int) (w : World) : Calls Tryz.prog 87 #[.int .i64 x] w fun e w' => e = .returned (.bool false) ∧ w = w' := by
  go_enter Tryz.func87, Tryz.ntmps87
  go_wp2
  go_returns
  exact ⟨rfl, rfl⟩
theorem nanL_any (x : Int) (w : World) : Calls Tryz.prog 88 #[.int .i64 x] w fun e w' => e = .returned (.bool false) ∧ w = w' := by
  go_enter Tryz.func88, Tryz.ntmps88
  go_wp2
  go_returns
  exact ⟨rfl, rfl⟩
theorem cmpI_any (x y : Int) (w : World) : Calls Tryz.prog 75 #[.int .i64 x, .int .i64 y] w fun e w' => e = .returned (.int .i64 (cmpI x y)) ∧ w' = w := by
  go_enter Tryz.func75, Tryz.ntmps75
  by_cases h1 : x < y
  · go_wp2_with (go_at_call 87; refine (nanI_any _ _).mono ?_; rintro e w' ⟨rfl, rfl⟩)
    go_returns
    exact ⟨ret_int (by unfold K.cmpI; rw [if_pos h1]), rfl⟩
  · by_cases h2 : y < x
    · go_wp2_with (go_at_call 87; refine (nanI_any _ _).mono ?_; rintro e w' ⟨rfl, rfl⟩)
      go_returns
      exact ⟨ret_int (by unfold K.cmpI; rw [if_neg (by omega), if_pos h2]), rfl⟩
    · go_wp2_with (go_at_call 87; refine (nanI_any _ _).mono ?_; rintro e w' ⟨rfl, rfl⟩)
      go_returns
      exact ⟨ret_int (by unfold K.cmpI; rw [if_neg (by omega), if_neg (by omega)]), rfl⟩
theorem cmpL_any (x y : Int) (w : World) : Calls Tryz.prog 76 #[.int .i64 x, .int .i64 y] w fun e w' => e = .returned (.int .i64 (cmpI x y)) ∧ w' = w := by
  go_enter Tryz.func76, Tryz.ntmps76
  by_cases h1 : x < y
  · go_wp2_with (go_at_call 88; refine (nanL_any _ _).mono ?_; rintro e w' ⟨rfl, rfl⟩)
    go_returns
    exact ⟨ret_int (by unfold K.cmpI; rw [if_pos h1]), rfl⟩
  · by_cases h2 : y < x
    · go_wp2_with (go_at_call 88; refine (nanL_any _ _).mono ?_; rintro e w' ⟨rfl, rfl⟩)
      go_returns
      exact ⟨ret_int (by unfold K.cmpI; rw [if_neg (by omega), if_pos h2]), rfl⟩
    · go_wp2_with (go_at_call 88; refine (nanL_any _ _).mono ?_; rintro e w' ⟨rfl, rfl⟩)
      go_returns
      exact ⟨ret_int (by unfold K.cmpI; rw [if_neg (by omega), if_neg (by omega)]), rfl⟩
theorem or_any (a b : Int) (bk : Nat) (w : World) (h0 : w.cell? ⟨bk, 0, none⟩ = some (.int .i64 a)) (h1 : w.cell? ⟨bk, 1, none⟩ = some (.int .i64 b)) :
    Calls Tryz.prog 74 #[.slice (some ⟨bk, 0, none⟩) 2 2] w fun e w' => e = .returned (.int .i64 (or2 a b)) ∧ w' = w := by
  by_cases ha : a = 0
  · subst ha
    by_cases hb : b = 0
    · subst hb
      go_enter Tryz.func74, Tryz.ntmps74
      go_wp2
      refine wp_loop_rounds 3 ?_
      rw [rounds_succ]
      go_wp2
      rw [rounds_succ]
      go_wp2
      rw [rounds_succ]
      go_wp2
      go_returns
      exact ⟨rfl, rfl⟩
    · have hb' : (b != 0) = true := by simp [hb]
      go_enter Tryz.func74, Tryz.ntmps74
      go_wp2
      refine wp_loop_rounds 2 ?_
      rw [rounds_succ]
      go_wp2
      rw [rounds_succ]
      go_wp2
      go_returns
      exact ⟨rfl, rfl⟩
  · have ha' : (a != 0) = true := by simp [ha]
    go_enter Tryz.func74, Tryz.ntmps74
    go_wp2
    refine wp_loop_rounds 1 ?_
    rw [rounds_succ]
    go_wp2
    go_returns
    exact ⟨ret_int (by unfold or2; rw [if_pos ha]), rfl⟩
theorem may2_any (a b : Int) (w : World) : Calls Tryz.prog 47 #[.agg #[.int .i64 a, .int .i64 b]] w fun e w' => e = .returned (.bool (may2 (a, b))) ∧ Below w.heap.size w w' := by
  go_enter Tryz.func47, Tryz.ntmps47
  rcases T.chk_cases a with h | h
  · have h1 := T.chk_zero h
    by_cases hb0 : 0 ≤ b
    · by_cases hb1 : b ≤ 16
      · go_wp2_with (go_at_call 73; refine (tcheck_any _ _).mono ?_; rintro e w' ⟨rfl, rfl⟩)
        go_returns
        exact ⟨ret_bool (by unfold K.may2; symm; rw [decide_eq_true_eq]; exact ⟨h1.1, h1.2, hb0, hb1⟩), (Below.refl _ _).alloc (Nat.le_refl _) _⟩
      · have hd : decide (b ≤ 16) = false := decide_eq_false hb1
        go_wp2_with (go_at_call 73; refine (tcheck_any _ _).mono ?_; rintro e w' ⟨rfl, rfl⟩)
        go_returns
        exact ⟨ret_bool (by unfold K.may2; symm; rw [decide_eq_false_iff_not]; omega), (Below.refl _ _).alloc (Nat.le_refl _) _⟩
    · have hd : decide (0 ≤ b) = false := decide_eq_false hb0
      go_wp2_with (go_at_call 73; refine (tcheck_any _ _).mono ?_; rintro e w' ⟨rfl, rfl⟩)
      go_returns
      exact ⟨ret_bool (by unfold K.may2; symm; rw [decide_eq_false_iff_not]; omega), (Below.refl _ _).alloc (Nat.le_refl _) _⟩
  · go_wp2_with (go_at_call 73; refine (tcheck_any _ _).mono ?_; rintro e w' ⟨rfl, rfl⟩)
    go_returns
    exact ⟨ret_bool (by
      unfold K.may2; symm; rw [decide_eq_false_iff_not]
      intro hh
      rw [T.chk_ok ⟨hh.1, hh.2.1⟩] at h; cases h), (Below.refl _ _).alloc (Nat.le_refl _) _⟩
theorem beats2_any (a b c d : Int) (w : World) : Calls Tryz.prog 48 #[.agg #[.int .i64 a, .int .i64 b], .agg #[.int .i64 c, .int .i64 d]] w fun e w' => e = .returned (.bool (beats2 (a, b) (c, d))) ∧ Below w.heap.size w w' := by
  have hb : Hid (∀ w : World, Below w.heap.size w ((w.alloc (.cells #[.int .i64 a, .int .i64 b] 55)).alloc (.cells #[.int .i64 c, .int .i64 d] 55))) := fun w => ((Below.refl _ _).alloc (Nat.le_refl _) _).alloc (by simp) _
  by_cases h1 : a ≤ c
  · by_cases h2 : b ≤ d
    · by_cases h3 : a = c ∧ b = d
      · obtain ⟨rfl, rfl⟩ := h3
        have hf : Hid (K.beats2 (a, b) (a, b) = false) := ords2.irr _
        go_enter Tryz.func48, Tryz.ntmps48
        go_wp2
        go_returns
        exact ⟨ret_bool hf.out.symm, hb.out w⟩
      · have ht : Hid (K.beats2 (a, b) (c, d) = true) := beats2_iff.2 ⟨h1, h2, by show a ≠ c ∨ b ≠ d; omega⟩
        by_cases h4 : a = c
        · subst h4
          have hn : (b == d) = false := by simp; omega
          go_enter Tryz.func48, Tryz.ntmps48
          go_wp2
          go_returns
          exact ⟨ret_bool ht.out.symm, hb.out w⟩
        · have hn : (a == c) = false := by simp [h4]
          go_enter Tryz.func48, Tryz.ntmps48
          go_wp2
          go_returns
          exact ⟨ret_bool ht.out.symm, hb.out w⟩
    · have hf : Hid (K.beats2 (a, b) (c, d) = false) := bfalse beats2_iff (by show ¬ (a ≤ c ∧ b ≤ d ∧ _); omega)
      have hd : decide (b ≤ d) = false := decide_eq_false h2
      go_enter Tryz.func48, Tryz.ntmps48
      go_wp2
      go_returns
      exact ⟨ret_bool hf.out.symm, hb.out w⟩
  · have hf : Hid (K.beats2 (a, b) (c, d) = false) := bfalse beats2_iff (by show ¬ (a ≤ c ∧ b ≤ d ∧ _); omega)
    have hd : decide (a ≤ c) = false := decide_eq_false h1
    go_enter Tryz.func48, Tryz.ntmps48
    go_wp2
    go_returns
    exact ⟨ret_bool hf.out.symm, hb.out w⟩
set_option maxRecDepth 100000 in
theorem compare2_any (a b c d : Int) (w : World) : Calls Tryz.prog 49 #[.agg #[.int .i64 a, .int .i64 b], .agg #[.int .i64 c, .int .i64 d]] w fun e w' => e = .returned (.int .i64 (cmp2 (a, b) (c, d))) ∧ Grew w w' := by
  go_enter Tryz.func49, Tryz.ntmps49
  go_wp2_with fail
  refine wp_tail0 10 (by kernel_rfl) (by kernel_rfl) ?_
  simp only [List.take_succ_cons, List.take_zero, List.drop_succ_cons, List.drop_zero]
  repeat (first | still_step | still_call (cmpI_any _ _ _) | still_call (cmpL_any _ _ _))
  try refine wpStill_nil ?_
  go_wp2_with (go_at_call 74; refine (or_any (K.cmpI b d) (K.cmpI a c) _ _ (by simp [go_sem]) (by simp [go_sem])).mono ?_; rintro e w' ⟨rfl, rfl⟩)
  go_returns
  exact ⟨rfl, ((((Grew.refl w).alloc _).alloc _).alloc _).drewN 1⟩
theorem pair3_any (a b c : Int) (w : World) : Calls Tryz.prog 64 #[.agg #[.int .i64 a, .int .i64 b, .int .i64 c]] w fun e w' => e = .returned (.agg #[.int .i64 b, .int .i64 c]) ∧ Grew w w' := by
  go_enter Tryz.func64, Tryz.ntmps64
  go_wp2
  exact bodyPost_ret (v := .agg #[.int .i64 b, .int .i64 c]) (by simp [results, Tryz.results64, go_sem]) rfl ⟨rfl, ((Grew.refl w).alloc _).alloc _⟩
end Go.Proofs.YtibeoiphjkgekaaGreat
