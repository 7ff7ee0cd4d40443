/-
  Walk: timetablelaw08.lives.
-/
import Derived.Test.YtjbhdfjbockkfaaWin4
namespace Go.Proofs.Ytjbhdfjbockkfaa
open Go.RowKit B Go.Shelf
set_option maxHeartbeats 400000
theorem livesM : winsM 5 10 2 20 = ([(5, 7), (15, 17)], 0) := by decide
theorem lives_any (w : World) :
    Calls Try.prog 9 #[] w fun e w' => e = .returned (.bool true) ∧ Below w.heap.size w w' := by
  go_enter Try.func9, Try.ntmps9
  go_wp2_with fail
  refine (wins_any 5 10 2 20 _).mono ?_
  rintro e w1 ⟨A, c, rfl, r1, r2, r3, hb1⟩
  rw [livesM] at r1 r2 ⊢
  simp only [List.length_cons, List.length_nil, Nat.zero_add, Nat.reduceAdd] at r1 r2 ⊢
  have hs1 := hb1.size
  go_wp2_with fail
  refine (same_any A 2 c _ _ 2 2 _ _ (r1.below ((Below.refl _ _).alloc (Nat.le_refl _) _)) (Rd.lit w1 2 pairE pairE_len 29 [(5, 7), (15, 17)]) (by omega) (by omega)).mono ?_
  rintro e w2 ⟨rfl, hb2⟩
  rw [show decide (([(5, 7), (15, 17)] : W.Row) = [(5, 7), (15, 17)]) = true from by decide]
  have hb3 : Below w1.heap.size w1 w2 := ((Below.refl _ _).alloc (Nat.le_refl _) _).trans (hb2.mono (by simp))
  have r4 := r1.below hb3
  go_wp2_with fail
  refine (free_any A 2 c _ 5 _ r4 (by omega) r2 r3).mono ?_
  rintro e w3 ⟨rfl, hb4⟩
  have r5 := r4.below hb4
  rw [show W.free [(5, 7), (15, 17)] 5 = 7 from by decide]
  go_wp2_with fail
  refine (gap_any A 2 c _ 6 8 _ r5 (by omega) r2 r3).mono ?_
  rintro e w4 ⟨rfl, hb5⟩
  have r6 := r5.below hb5
  rw [show W.gap [(5, 7), (15, 17)] 6 8 = 7 from by decide]
  go_wp2_with fail
  refine (next_any A 2 c _ 8 _ r6 (by omega)).mono ?_
  rintro e w5 ⟨rfl, hb6⟩
  rw [show W.next [(5, 7), (15, 17)] 8 = 15 from by decide]
  go_wp2_with fail
  go_returns
  exact ⟨rfl, hb1.trans ((hb3.trans ((hb4.trans ((hb5.trans (hb6.mono hb5.size)).mono hb4.size)).mono hb3.size)).mono hs1)⟩
end Go.Proofs.Ytjbhdfjbockkfaa
