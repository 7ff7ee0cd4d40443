/-
  Walk: timetablelaw08.WindowBrackets answers true, whatever the rows.
-/
import Derived.Test.YtjbhdfjbockkfaaWin5
import Derived.Test.YtjbhdfjbockkfaaWin7
import Derived.Deep.DeepCutAuto
namespace Go.Proofs.Ytjbhdfjbockkfaa
open Go.RowKit B Go.Shelf
theorem W.brackets {a b c : W.Row} (ha : W.good a = true) (hb : W.good b = true) (hc : W.good c = true) :
    W.good (W.unionM (W.unionM a b) c) = true ∧ W.unionM a (W.unionM b c) = W.unionM (W.unionM a b) c ∧ W.unionM a [] = a ∧ W.unionM a a = a ∧
    W.sum a ≤ W.sum (W.unionM (W.unionM a b) c) ∧ W.sum b ≤ W.sum (W.unionM (W.unionM a b) c) ∧ W.sum c ≤ W.sum (W.unionM (W.unionM a b) c) := by
  obtain ⟨g1, t1, _⟩ := W.union_facts ha hb
  obtain ⟨g2, t2, _⟩ := W.union_facts g1 hc
  refine ⟨g2, (W.union_assoc ha hb hc).symm, W.union_of ha rfl (fun y h => absurd h (W.inRow_nil y)), W.union_of ha ha (fun y h => h), W.sum_mono ha g2 fun y h => ?_, W.sum_mono hb g2 fun y h => ?_, W.sum_mono hc g2 fun y h => ?_⟩
  · exact (t2 y).2 (.inl ((t1 y).2 (.inl h)))
  · exact (t2 y).2 (.inl ((t1 y).2 (.inr h)))
  · exact (t2 y).2 (.inr h)
@[go_sem] theorem run_max3 {P : Program} (w : World) (ts : Array TypeId) (t : TypeId) (k k' k'' : IntKind) (x y z : Int) : (Builtin.max_ ts t #[.int k x, .int k' y, .int k'' z]).run P w = .ok (.int k (max x (max y z))) w := by
  have e : (if z > (if y > x then y else x) then z else (if y > x then y else x)) = max x (max y z) := by split <;> split <;> simp only [Int.max_def] <;> (repeat' split) <;> omega
  rw [← e]
  simp [Builtin.max_, Builtin.max2]
theorem W.union_len (a b : W.Row) : (W.unionM a b).length ≤ a.length + b.length := by
  unfold W.unionM
  by_cases h : (W.good a && W.good b) = true
  · rw [if_pos h]
    rw [Bool.and_eq_true] at h
    have := W.joinL_len (W.mergeL a b)
    rw [(W.merge_facts _ a b 0 rfl (W.srt_of_good a (-1) (by omega) h.1) (W.srt_of_good b (-1) (by omega) h.2)).2.2.2] at this
    exact this
  · rw [if_neg h]; simp
set_option maxHeartbeats 2000000
set_option maxRecDepth 100000 in
theorem brackets_any (A : Option Addr) (n c : Nat) (l : W.Row) (A' : Option Addr) (n' c' : Nat) (l' : W.Row) (A'' : Option Addr) (n'' c'' : Nat) (l'' : W.Row) (w : World)
    (hr : Rd w 2 pairE A n l) (hc : n ≤ c) (hc2 : c ≤ 9223372036854775807) (hr' : Rd w 2 pairE A' n' l') (hc' : n' ≤ c') (hc2' : c' ≤ 9223372036854775807) (hr'' : Rd w 2 pairE A'' n'' l'') (hc'' : n'' ≤ c'') (hc2'' : c'' ≤ 9223372036854775807) :
    Calls Try.prog 5 #[.slice A n c, .slice A' n' c', .slice A'' n'' c''] w fun e w' => e = .returned (.bool true) ∧ Below w.heap.size w w' := by
  go_enter Try.func5, Try.ntmps5
  go_wp2_with fail
  refine (lives_any _).mono ?_; rintro e w1 ⟨rfl, hb1⟩
  by_cases hlong : 300 < n ∨ 300 < n' ∨ 300 < n''
  · by_cases h1 : 300 < n <;> by_cases h2 : 300 < n' <;> by_cases h3 : 300 < n'' <;> first | (exfalso; omega; done) | skip
    all_goals
      clear hlong
      go_wp2_with fail
      go_returns
      exact ⟨rfl, hb1⟩
  · have h1 : n ≤ 300 := by omega
    have h2 : n' ≤ 300 := by omega
    have h3 : n'' ≤ 300 := by omega
    clear hlong
    go_wp2_with fail
    refine (good_any A n c l _ (hr.below hb1) (by omega)).mono ?_; rintro e w2 ⟨rfl, hb2⟩
    have hb2 := hb1.trans (hb2.mono hb1.size)
    cases hg : W.good l
    · go_wp2_with fail
      go_returns
      exact ⟨rfl, hb2⟩
    · have hg := Lib.hid hg
      rename_i hz; clear hz
      go_wp2_with fail
      refine (good_any A' n' c' l' _ (hr'.below hb2) (by omega)).mono ?_; rintro e w3 ⟨rfl, hb3⟩
      have hb3 := hb2.trans (hb3.mono hb2.size)
      cases hg' : W.good l'
      · go_wp2_with fail
        go_returns
        exact ⟨rfl, hb3⟩
      · have hg' := Lib.hid hg'
        rename_i hz; clear hz
        go_wp2_with fail
        refine (good_any A'' n'' c'' l'' _ (hr''.below hb3) (by omega)).mono ?_; rintro e w4 ⟨rfl, hb4⟩
        have hb4 := hb3.trans (hb4.mono hb3.size)
        cases hg'' : W.good l''
        · go_wp2_with fail
          go_returns
          exact ⟨rfl, hb4⟩
        · have F := Lib.hid (W.brackets hg.out hg'.out hg'')
          have L := Lib.hid (show (W.unionM l l').length ≤ 600 ∧ (W.unionM l' l'').length ≤ 600 ∧ (W.unionM (W.unionM l l') l'').length ≤ 900 ∧ (W.unionM l (W.unionM l' l'')).length ≤ 900 from by
            have l0 := hr.len
            have l1 := hr'.len
            have l2 := hr''.len
            have e1 := W.union_len l l'
            have e2 := W.union_len (W.unionM l l') l''
            have e3 := W.union_len l' l''
            have e4 := W.union_len l (W.unionM l' l'')
            omega)
          clear hg''
          go_wp2_with fail
          refine (union_any A n c l A' n' c' l' _ (hr.below hb4) (hr'.below hb4) (by omega) (by omega)).mono ?_; rintro e w5 ⟨B1, d1, rfl, r1, s1, t1, hb5⟩
          have hb5 := hb4.trans (hb5.mono hb4.size)
          go_wp2_with fail
          refine (union_any B1 _ d1 _ A'' n'' c'' l'' _ r1 (hr''.below hb5) (by have := L.out; omega) (by omega)).mono ?_; rintro e w6 ⟨B2, d2, rfl, r2, s2, t2, hb6⟩
          have hb6 := hb5.trans (hb6.mono hb5.size)
          clear r1
          go_wp2_with fail
          refine (union_any A' n' c' l' A'' n'' c'' l'' _ (hr'.below hb6) (hr''.below hb6) (by omega) (by omega)).mono ?_; rintro e w7 ⟨B3, d3, rfl, r3, s3, t3, hb7⟩
          have r2 := r2.below hb7
          have hb7 := hb6.trans (hb7.mono hb6.size)
          go_wp2_with fail
          refine (union_any A n c l B3 _ d3 _ _ (hr.below hb7) r3 (by omega) (by have := L.out; omega)).mono ?_; rintro e w8 ⟨B4, d4, rfl, r4, s4, t4, hb8⟩
          have r2 := r2.below hb8
          have hb8 := hb7.trans (hb8.mono hb7.size)
          clear r3
          generalize hX : W.unionM (W.unionM l l') l'' = X at *
          generalize hY : W.unionM l (W.unionM l' l'') = Y at *
          have hX := Lib.hid hX
          have hY := Lib.hid hY
          obtain rfl : Y = X := F.out.2.1
          clear hb4 hb5 hb6 hb7
          go_wp2_with fail
          refine (good_any B2 _ d2 Y _ r2 (by have := L.out; omega)).mono ?_; rintro e w9 ⟨rfl, hb9⟩
          rw [F.out.1]
          have r2 := r2.below hb9
          have r4 := r4.below hb9
          have hb9 := hb8.trans (hb9.mono hb8.size)
          go_wp2_with fail
          refine (same_any B2 _ d2 Y B4 _ d4 Y _ r2 r4 (by have := L.out; omega) (by have := L.out; omega)).mono ?_; rintro e w10 ⟨rfl, hb10⟩
          rw [decide_eq_true (rfl : Y = Y)]
          have r2 := r2.below hb10
          have hb10 := hb9.trans (hb10.mono hb9.size)
          clear r4
          go_wp2_with fail
          refine (union_any A n c l none 0 0 [] _ (hr.below hb10) Rd.nil (by omega) (by omega)).mono ?_; rintro e w11 ⟨B5, d5, rfl, r5, s5, t5, hb11⟩
          rw [F.out.2.2.1] at r5
          have r2 := r2.below hb11
          have hb11 := hb10.trans (hb11.mono hb10.size)
          have hN := hr.len
          rw [F.out.2.2.1, hN] at s5
          rw [F.out.2.2.1, hN]
          rw [hN] at r5
          go_wp2_with fail
          refine (same_any B5 _ d5 l A n c l _ r5 (hr.below hb11) (by omega) (by omega)).mono ?_; rintro e w12 ⟨rfl, hb12⟩
          rw [decide_eq_true (rfl : l = l)]
          have r2 := r2.below hb12
          have hb12 := hb11.trans (hb12.mono hb11.size)
          clear r5 s5
          go_wp2_with fail
          refine (union_any A n c l A n c l _ (hr.below hb12) (hr.below hb12) (by omega) (by omega)).mono ?_; rintro e w13 ⟨B6, d6, rfl, r6, s6, t6, hb13⟩
          rw [F.out.2.2.2.1, hN] at r6
          have r2 := r2.below hb13
          have hb13 := hb12.trans (hb13.mono hb12.size)
          rw [F.out.2.2.2.1, hN]
          go_wp2_with fail
          refine (same_any B6 _ d6 l A n c l _ r6 (hr.below hb13) (by omega) (by omega)).mono ?_; rintro e w14 ⟨rfl, hb14⟩
          rw [decide_eq_true (rfl : l = l)]
          have r2 := r2.below hb14
          have hb14 := hb13.trans (hb14.mono hb13.size)
          clear r6 s6
          go_wp2_with fail
          refine (sum_any B2 _ d2 Y _ r2 (by have := L.out; omega)).mono ?_; rintro e w15 ⟨rfl, hb15⟩
          have hb15 := hb14.trans (hb15.mono hb14.size)
          go_wp2_with fail
          refine (sum_any A n c l _ (hr.below hb15) (by omega)).mono ?_; rintro e w16 ⟨rfl, hb16⟩
          have hb16 := hb15.trans (hb16.mono hb15.size)
          go_wp2_with fail
          refine (sum_any A' n' c' l' _ (hr'.below hb16) (by omega)).mono ?_; rintro e w17 ⟨rfl, hb17⟩
          have hb17 := hb16.trans (hb17.mono hb16.size)
          go_wp2_with fail
          refine (sum_any A'' n'' c'' l'' _ (hr''.below hb17) (by omega)).mono ?_; rintro e w18 ⟨rfl, hb18⟩
          have hb18 := hb17.trans (hb18.mono hb17.size)
          have f := F.out.2.2.2.2
          generalize W.sum Y = sy at *
          generalize W.sum l = sl at *
          generalize W.sum l' = sl' at *
          generalize W.sum l'' = sl'' at *
          clear F L hb8 hb9 hb10 hb11 hb12 hb13 hb14 hb15 hb16 hb17
          go_wp2_with fail
          go_returns
          refine ⟨ret_bool ?_, hb18⟩
          simp
          omega
end Go.Proofs.Ytjbhdfjbockkfaa
