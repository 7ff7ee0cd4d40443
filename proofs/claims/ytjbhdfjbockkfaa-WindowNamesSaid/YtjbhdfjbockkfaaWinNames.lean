/-
  Walk: timetablelaw08.WindowNames answers true.
-/
import Derived.Test.YtjbhdfjbockkfaaWin5
import Derived.Test.YtjbhdfjbockkfaaWin7
namespace Go.Proofs.Ytjbhdfjbockkfaa
open Go.RowKit B Go.Shelf
set_option linter.unusedVariables false
set_option linter.unusedSimpArgs false
theorem namesM1 : winsM 0 1 2 9 = ([], 2) := by decide
theorem namesM2 : winsM 0 2 1 512 = ([], 3) := by decide
theorem namesM3 : winsM 0 2 1 (-1) = ([], 9) := by decide
theorem namesM4 : winsM 3 2 2 7 = ([(3, 9)], 0) := by decide
theorem namesM5 : winsM 3 0 2 2 = ([], 0) := by decide
theorem namesU : W.unionM [(3, 9)] [(9, 11)] = [(3, 11)] := by decide
set_option maxHeartbeats 2000000
set_option maxRecDepth 100000 in
theorem names_any (w : World) :
    Calls Try.prog 6 #[] w fun e w' => e = .returned (.bool true) ∧ Below w.heap.size w w' := by
  go_enter Try.func6, Try.ntmps6
  go_wp2_with fail
  refine (wins_any 0 1 2 9 _).mono ?_; rintro e w1 ⟨A1, c1, rfl, r1, s1, t1, hb1⟩
  rw [namesM1]
  clear r1 s1 t1
  go_wp2_with fail
  refine (wins_any 0 2 1 512 _).mono ?_; rintro e w2 ⟨A2, c2, rfl, r2, s2, t2, hb2⟩
  rw [namesM2]
  have hb2 := hb1.trans (hb2.mono hb1.size)
  clear r2 s2 t2
  go_wp2_with fail
  refine (wins_any 0 2 1 (-1) _).mono ?_; rintro e w3 ⟨A3, c3, rfl, r3, s3, t3, hb3⟩
  rw [namesM3]
  have hb3 := hb2.trans (hb3.mono hb2.size)
  clear r3 s3 t3
  go_wp2_with fail
  refine (wins_any 3 2 2 7 _).mono ?_; rintro e w4 ⟨A4, c4, rfl, r4, s4, t4, hb4⟩
  rw [namesM4] at r4 s4 ⊢
  simp only [List.length_cons, List.length_nil, Nat.zero_add, Nat.reduceAdd] at r4 s4 ⊢
  have hb4 := hb3.trans (hb4.mono hb3.size)
  go_wp2_with fail
  refine (wins_any 3 0 2 2 _).mono ?_; rintro e w5 ⟨A5, c5, rfl, r5, s5, t5, hb5⟩
  rw [namesM5] at r5 s5 ⊢
  simp only [List.length_cons, List.length_nil, Nat.zero_add, Nat.reduceAdd] at r5 s5 ⊢
  have r4 := r4.below hb5
  have hb5 := hb4.trans (hb5.mono hb4.size)
  go_wp2_with fail
  refine (lives_any _).mono ?_; rintro e w6 ⟨rfl, hb6⟩
  have r4 := r4.below hb6
  have hb6 := hb5.trans (hb6.mono hb5.size)
  clear hb1 hb2 hb3 hb4 hb5
  go_wp2_with fail
  refine (same_any A4 1 c4 _ _ 1 1 _ _ (r4.below ((Below.refl _ _).alloc (Nat.le_refl _) _)) (Rd.lit w6 2 pairE pairE_len 29 [(3, 9)]) (by omega) (by omega)).mono ?_
  rintro e w7 ⟨rfl, hb7⟩
  rw [show decide (([(3, 9)] : W.Row) = [(3, 9)]) = true from by decide]
  have hb7 : Below w6.heap.size w6 w7 := ((Below.refl _ _).alloc (Nat.le_refl _) _).trans (hb7.mono (by simp))
  have r4 := r4.below hb7
  have hb7 := hb6.trans (hb7.mono hb6.size)
  go_wp2_with fail
  refine (good_any none 0 0 [] _ Rd.nil (by omega)).mono ?_; rintro e w8 ⟨rfl, hb8⟩
  rw [show W.good [] = true from rfl]
  have r4 := r4.below hb8
  have hb8 := hb7.trans (hb8.mono hb7.size)
  go_wp2_with fail
  refine (good_any _ 2 2 [(1, 2), (2, 3)] _ (Rd.lit w8 2 pairE pairE_len 29 [(1, 2), (2, 3)]) (by omega)).mono ?_; rintro e w9 ⟨rfl, hb9⟩
  rw [show W.good [(1, 2), (2, 3)] = false from by decide]
  have hb9 : Below w8.heap.size w8 w9 := ((Below.refl _ _).alloc (Nat.le_refl _) _).trans (hb9.mono (by simp))
  have r4 := r4.below hb9
  have hb9 := hb8.trans (hb9.mono hb8.size)
  go_wp2_with fail
  refine (sum_any A4 1 c4 _ _ r4 (by omega)).mono ?_; rintro e w10 ⟨rfl, hb10⟩
  rw [show W.sum [(3, 9)] = 6 from by decide]
  have r4 := r4.below hb10
  have hb10 := hb9.trans (hb10.mono hb9.size)
  go_wp2_with fail
  refine (has_any A4 1 c4 _ 8 _ r4 (by omega)).mono ?_; rintro e w11 ⟨rfl, hb11⟩
  rw [show W.has [(3, 9)] 8 = true from by decide]
  have r4 := r4.below hb11
  have hb11 := hb10.trans (hb11.mono hb10.size)
  go_wp2_with fail
  refine (has_any A4 1 c4 _ 9 _ r4 (by omega)).mono ?_; rintro e w12 ⟨rfl, hb12⟩
  rw [show W.has [(3, 9)] 9 = false from by decide]
  have r4 := r4.below hb12
  have hb12 := hb11.trans (hb12.mono hb11.size)
  go_wp2_with fail
  refine (next_any A4 1 c4 _ 9 _ r4 (by omega)).mono ?_; rintro e w13 ⟨rfl, hb13⟩
  rw [show W.next [(3, 9)] 9 = 4611686018427387904 from by decide]
  have r4 := r4.below hb13
  have hb13 := hb12.trans (hb13.mono hb12.size)
  go_wp2_with fail
  refine (gap_any A4 1 c4 _ 4 0 _ r4 (by omega) s4 t4).mono ?_; rintro e w14 ⟨rfl, hb14⟩
  rw [show W.gap [(3, 9)] 4 0 = 4 from by decide]
  have r4 := r4.below hb14
  have hb14 := hb13.trans (hb14.mono hb13.size)
  clear hb6 hb7 hb8 hb9 hb10 hb11 hb12 hb13
  go_wp2_with fail
  refine (union_any A4 1 c4 _ _ 1 1 _ _ (r4.below ((Below.refl _ _).alloc (Nat.le_refl _) _)) (Rd.lit w14 2 pairE pairE_len 29 [(9, 11)]) (by omega) (by omega)).mono ?_
  rintro e w15 ⟨A6, c6, rfl, r6, s6, t6, hb15⟩
  rw [namesU] at r6 s6 ⊢
  simp only [List.length_cons, List.length_nil, Nat.zero_add, Nat.reduceAdd] at r6 s6 ⊢
  have hb15 : Below w14.heap.size w14 w15 := ((Below.refl _ _).alloc (Nat.le_refl _) _).trans (hb15.mono (by simp))
  have hb15 := hb14.trans (hb15.mono hb14.size)
  go_wp2_with fail
  refine (same_any A6 1 c6 _ _ 1 1 _ _ (r6.below ((Below.refl _ _).alloc (Nat.le_refl _) _)) (Rd.lit w15 2 pairE pairE_len 29 [(3, 11)]) (by omega) (by omega)).mono ?_
  rintro e w16 ⟨rfl, hb16⟩
  rw [show decide (([(3, 11)] : W.Row) = [(3, 11)]) = true from by decide]
  have hb16 : Below w15.heap.size w15 w16 := ((Below.refl _ _).alloc (Nat.le_refl _) _).trans (hb16.mono (by simp))
  have hb16 := hb15.trans (hb16.mono hb15.size)
  go_wp2_with fail
  go_returns
  exact ⟨rfl, hb16⟩
end Go.Proofs.Ytjbhdfjbockkfaa
