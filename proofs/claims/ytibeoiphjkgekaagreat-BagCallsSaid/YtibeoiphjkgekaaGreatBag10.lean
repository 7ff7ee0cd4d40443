/-
  Walks: bag.Behind; the chapter's examples.
-/
import Derived.Test.YtibeoiphjkgekaaGreatBag9
import Derived.Test.YtibeoiphjkgekaaGreatBagPlain2
namespace Go.Proofs.YtibeoiphjkgekaaGreat
open Go.RowKit B K Go.Shelf
set_option linter.unusedVariables false
set_option linter.unusedSimpArgs false
set_option maxHeartbeats 2000000
set_option maxRecDepth 100000 in
theorem Behind_any (A : Option Addr) (n c : Nat) (l : List P3) (t : Int) (w : World) (hr : Rd w 3 tripE A n l) (hn : n ≤ 1099511627) :
    Calls Tryz.prog 33 #[.slice A n c, .int .i64 t] w fun e w' => RetR 2 pairE w (L2 (behindF t l)) e w' := by
  go_enter Tryz.func33, Tryz.ntmps33
  go_wp2_with fail
  go_loopw [5, 10] (fun v i wr => ∃ (k : Nat), k ≤ n ∧ i = .int .i64 k ∧ Hid (wr.ownsRow w.heap.size 24 2 v (behindF t (l.take k)).length ((behindF t (l.take k)).flatMap pairE)) ∧ Below w.heap.size w wr) (fun _ i _ => n - (intOf i).toNat)
  case atStart => exact ⟨0, Nat.zero_le _, rfl, World.ownsRow_nil _ _ _ _, Below.refl _ _⟩
  case round =>
    obtain ⟨k, hk, rfl, own, hb⟩ := hrel
    by_cases hlt : k < n
    · obtain ⟨b, o, x1, x2, x3, rfl, hbs, hx, h1, h2, h3⟩ := (hr.below hb).trip hlt
      have htk := Lib.hid (take_at hx)
      clear hx
      have bx1 := Bx3.new wr 27 x1 x2 x3
      have own1 : Hid ((wr.alloc (.cells #[.int .i64 x1, .int .i64 x2, .int .i64 x3] 27)).ownsRow w.heap.size 24 2 u5 (behindF t (l.take k)).length ((behindF t (l.take k)).flatMap pairE)) := own.out.alloc _
      have hb1 : Below w.heap.size w (wr.alloc (.cells #[.int .i64 x1, .int .i64 x2, .int .i64 x3] 27)) := hb.alloc hb.size _
      go_wp2_with fail
      refine (may3_any x1 x2 x3 _).mono ?_; rintro e w2 ⟨rfl, hb2⟩
      have own2 := Lib.hid (own_up own1.out hb2)
      have bx2 := bx1.below hb2
      have hb02 := hb1.trans (hb2.mono hb1.size)
      obtain ⟨c0, c1, c2⟩ := (⟨bx2.c0, bx2.c1, bx2.c2⟩ : _ ∧ _ ∧ _)
      cases hm : may3 (x1, x2, x3) with
      | false =>
        have hnext : Hid (behindF t (l.take (k + 1)) = behindF t (l.take k)) := by show _ = _; rw [htk.out, behindF_snoc, hm]; simp
        clear hm
        go_wp2_with fail
        go_roundw
        case rel => exact ⟨k + 1, by omega, by go_num, by rw [hnext.out]; exact own2.out, hb02⟩
        case measure => simp [intOf]; omega
      | true =>
        by_cases ht : t ≤ x1
        · have hnext : Hid (behindF t (l.take (k + 1)) = behindF t (l.take k) ++ [(x2, x3)]) := by show _ = _; rw [htk.out, behindF_snoc, hm]; simp [ht]
          have hlen := behindF_len t (l.take k)
          have hlen2 : (l.take k).length ≤ k := List.length_take_le _ _
          have hm' := Lib.hid hm
          clear hm
          go_wp2_with fail
          refine (pair3_any x1 x2 x3 _).mono ?_; rintro e w4 ⟨rfl, hg⟩
          have own4 := own_up own2.out hg.below
          have hb04 := hb02.trans (hg.below.mono hb02.size)
          obtain ⟨g5, c5, w5, hrun, own5, hb5, hs5, _, _⟩ := own_push (enc := pairE) Tryz.underlying22 infoAPair rfl (by decide) pairE_len2 pairE_one (x2, x3) own4 (by omega) (by decide) hb04 hb04.size 0
          have own5 := Lib.hid own5
          simp only [pairE] at hrun
          clear own4 own1 own2 own bx1 bx2
          go_wp2_with (at_builtin; refine wpList_append_run ?a1 (.tmp 22) (.tmp 25) 22 ?a2 ?a3 ?a4 hrun ?_)
          case a1 => rfl
          case a2 => rfl
          try (case a3 => rfl)
          try (case a4 => rfl)
          go_roundw
          case rel => exact ⟨k + 1, by omega, by go_num, by rw [hnext.out, List.length_append]; exact own5.out, hb5⟩
          case measure => simp [intOf]; omega
        · have ht' : decide (t ≤ x1) = false := decide_eq_false ht
          have hnext : Hid (behindF t (l.take (k + 1)) = behindF t (l.take k)) := by show _ = _; rw [htk.out, behindF_snoc, hm]; simp [ht]
          have hm' := Lib.hid hm
          clear hm
          go_wp2_with fail
          go_roundw
          case rel => exact ⟨k + 1, by omega, by go_num, by rw [hnext.out]; exact own2.out, hb02⟩
          case measure => simp [intOf]; omega
    · have hlen := behindF_len t (l.take k)
      have hlen2 : (l.take k).length ≤ k := List.length_take_le _ _
      obtain ⟨A', c', rfl, r1, r2, r3⟩ := Rd.of_own pairE_len2 rfl own.out
      have ht : Hid (l.take k = l) := List.take_of_length_le (by rw [hr.len]; omega)
      clear own
      go_wp2_with fail
      refine (Least2_any A' _ c' (behindF t (l.take k)) _ r1 (by omega)).mono ?_; rintro e w2 ⟨A2, c2, rfl, s1, s2, s3, hb2⟩
      go_wp2_with fail
      go_returns
      rw [ht.out] at s1 s2 ⊢
      exact .mk A2 c2 rfl s1 s2 s3 (hb.trans (hb2.mono hb.size))
theorem livesM1 : L3 [(1, 9, 1), (3, 9, 1), (3, 8, 2)] = [(3, 9, 1), (3, 8, 2)] := by decide
theorem livesM2 : L2 [(20, 0), (9, 2), (12, 1), (12, 3)] = [(20, 0), (12, 1), (9, 2)] := by decide
theorem livesM3 : L2 (behindF 2 [(3, 9, 1), (3, 8, 2)]) = [(9, 1), (8, 2)] := by decide
theorem livesM4 : L2 (behindF 4 [(3, 9, 1), (3, 8, 2)]) = [] := by decide
set_option maxRecDepth 100000 in
theorem lives_any (w : World) :
    Calls Tryz.prog 4 #[] w fun e w' => e = .returned (.bool true) ∧ Below w.heap.size w w' := by
  go_enter Tryz.func4, Tryz.ntmps4
  go_wp2_with fail
  refine (ltriple_any 1 9 1 _).mono ?_; rintro e w1 ⟨rfl, hg1⟩
  go_wp2_with fail
  refine (ltriple_any 3 9 1 _).mono ?_; rintro e w2 ⟨rfl, hg2⟩
  go_wp2_with fail
  refine (ltriple_any 3 8 2 _).mono ?_; rintro e w3 ⟨rfl, hg3⟩
  have hb3 := (hg1.trans (hg2.trans hg3)).below
  clear hg1 hg2 hg3
  go_wp2_with fail
  refine (Least3_any _ 3 3 [(1, 9, 1), (3, 9, 1), (3, 8, 2)] _ (Rd.lit w3 3 tripE tripE_len 27 [(1, 9, 1), (3, 9, 1), (3, 8, 2)]) (by omega)).mono ?_
  rintro e w4 ⟨A4, c4, rfl, r4, s4, t4, hb4⟩
  rw [livesM1] at r4 s4 ⊢
  simp only [List.length_cons, List.length_nil, Nat.zero_add, Nat.reduceAdd] at r4 s4 ⊢
  have hb4 : Below w.heap.size w w4 := hb3.trans ((((Below.refl _ w3).alloc (Nat.le_refl _) _).trans (hb4.mono (by simp))).mono hb3.size)
  clear hb3
  go_wp2_with fail
  refine (lpair_any 20 0 _).mono ?_; rintro e w5 ⟨rfl, hg5⟩
  have r4 := r4.below hg5.below
  have hb5 := hb4.trans (hg5.below.mono hb4.size)
  clear hg5 hb4
  go_wp2_with fail
  refine (lpair_any 9 2 _).mono ?_; rintro e w6 ⟨rfl, hg6⟩
  have r4 := r4.below hg6.below
  have hb6 := hb5.trans (hg6.below.mono hb5.size)
  clear hg6 hb5
  go_wp2_with fail
  refine (lpair_any 12 1 _).mono ?_; rintro e w7 ⟨rfl, hg7⟩
  have r4 := r4.below hg7.below
  have hb7 := hb6.trans (hg7.below.mono hb6.size)
  clear hg7 hb6
  go_wp2_with fail
  refine (lpair_any 12 3 _).mono ?_; rintro e w8 ⟨rfl, hg8⟩
  have r4 := r4.below hg8.below
  have hb8 := hb7.trans (hg8.below.mono hb7.size)
  clear hg8 hb7
  go_wp2_with fail
  refine (Least2_any _ 4 4 [(20, 0), (9, 2), (12, 1), (12, 3)] _ (Rd.lit w8 2 pairE pairE_len2 24 [(20, 0), (9, 2), (12, 1), (12, 3)]) (by omega)).mono ?_; rintro e w9 ⟨A9, c9, rfl, r9, s9, t9, hb9⟩
  rw [livesM2] at r9 s9 ⊢
  simp only [List.length_cons, List.length_nil, Nat.zero_add, Nat.reduceAdd] at r9 s9 ⊢
  have hbx : Below w8.heap.size w8 w9 := ((Below.refl _ w8).alloc (Nat.le_refl _) _).trans (hb9.mono (by simp))
  have r4 := r4.below hbx
  have hb9 := hb8.trans (hbx.mono hb8.size)
  clear hbx hb8
  go_wp2_with fail
  refine (lpair_any 20 0 _).mono ?_; rintro e w10 ⟨rfl, hg10⟩
  have r4 := r4.below hg10.below
  have r9 := r9.below hg10.below
  have hb10 := hb9.trans (hg10.below.mono hb9.size)
  clear hg10 hb9
  go_wp2_with fail
  refine (lpair_any 12 1 _).mono ?_; rintro e w11 ⟨rfl, hg11⟩
  have r4 := r4.below hg11.below
  have r9 := r9.below hg11.below
  have hb11 := hb10.trans (hg11.below.mono hb10.size)
  clear hg11 hb10
  go_wp2_with fail
  refine (lpair_any 9 2 _).mono ?_; rintro e w12 ⟨rfl, hg12⟩
  have r4 := r4.below hg12.below
  have r9 := r9.below hg12.below
  have hb12 := hb11.trans (hg12.below.mono hb11.size)
  clear hg12 hb11
  go_wp2_with fail
  refine (sameP_any A9 3 c9 [(20, 0), (12, 1), (9, 2)] _ 3 3 [(20, 0), (12, 1), (9, 2)] _ (r9.below ((Below.refl _ w12).alloc (Nat.le_refl _) _)) (Rd.lit w12 2 pairE pairE_len2 24 [(20, 0), (12, 1), (9, 2)]) (by omega) (by omega)).mono ?_; rintro e w13 ⟨rfl, hb13⟩
  rw [show decide (([(20, 0), (12, 1), (9, 2)] : List P2) = [(20, 0), (12, 1), (9, 2)]) = true from by decide]
  have hbx : Below w12.heap.size w12 w13 := ((Below.refl _ w12).alloc (Nat.le_refl _) _).trans (hb13.mono (by simp))
  have r4 := r4.below hbx
  have r9 := r9.below hbx
  have hb13 := hb12.trans (hbx.mono hb12.size)
  clear hbx hb12
  clear r9
  go_wp2_with fail
  refine (ltriple_any 3 9 1 _).mono ?_; rintro e w14 ⟨rfl, hg14⟩
  have r4 := r4.below hg14.below
  have hb14 := hb13.trans (hg14.below.mono hb13.size)
  clear hg14 hb13
  go_wp2_with fail
  refine (ltriple_any 3 8 2 _).mono ?_; rintro e w15 ⟨rfl, hg15⟩
  have r4 := r4.below hg15.below
  have hb15 := hb14.trans (hg15.below.mono hb14.size)
  clear hg15 hb14
  go_wp2_with fail
  refine (sameT_any A4 2 c4 [(3, 9, 1), (3, 8, 2)] _ 2 2 [(3, 9, 1), (3, 8, 2)] _ (r4.below ((Below.refl _ w15).alloc (Nat.le_refl _) _)) (Rd.lit w15 3 tripE tripE_len 27 [(3, 9, 1), (3, 8, 2)]) (by omega) (by omega)).mono ?_; rintro e w16 ⟨rfl, hb16⟩
  rw [show decide (([(3, 9, 1), (3, 8, 2)] : List P3) = [(3, 9, 1), (3, 8, 2)]) = true from by decide]
  have hbx : Below w15.heap.size w15 w16 := ((Below.refl _ w15).alloc (Nat.le_refl _) _).trans (hb16.mono (by simp))
  have r4 := r4.below hbx
  have hb16 := hb15.trans (hbx.mono hb15.size)
  clear hbx hb15
  go_wp2_with fail
  refine (Behind_any A4 2 c4 [(3, 9, 1), (3, 8, 2)] 2 _ r4 (by omega)).mono ?_; rintro e w17 ⟨A5, c5, rfl, r5, s5, t5, hb17⟩
  rw [livesM3] at r5 s5 ⊢
  simp only [List.length_cons, List.length_nil, Nat.zero_add, Nat.reduceAdd] at r5 s5 ⊢
  have hbx := hb17
  have r4 := r4.below hbx
  have hb17 := hb16.trans (hbx.mono hb16.size)
  clear hbx hb16
  go_wp2_with fail
  refine (lpair_any 9 1 _).mono ?_; rintro e w18 ⟨rfl, hg18⟩
  have r4 := r4.below hg18.below
  have r5 := r5.below hg18.below
  have hb18 := hb17.trans (hg18.below.mono hb17.size)
  clear hg18 hb17
  go_wp2_with fail
  refine (lpair_any 8 2 _).mono ?_; rintro e w19 ⟨rfl, hg19⟩
  have r4 := r4.below hg19.below
  have r5 := r5.below hg19.below
  have hb19 := hb18.trans (hg19.below.mono hb18.size)
  clear hg19 hb18
  go_wp2_with fail
  refine (sameP_any A5 2 c5 [(9, 1), (8, 2)] _ 2 2 [(9, 1), (8, 2)] _ (r5.below ((Below.refl _ w19).alloc (Nat.le_refl _) _)) (Rd.lit w19 2 pairE pairE_len2 24 [(9, 1), (8, 2)]) (by omega) (by omega)).mono ?_; rintro e w20 ⟨rfl, hb20⟩
  rw [show decide (([(9, 1), (8, 2)] : List P2) = [(9, 1), (8, 2)]) = true from by decide]
  have hbx : Below w19.heap.size w19 w20 := ((Below.refl _ w19).alloc (Nat.le_refl _) _).trans (hb20.mono (by simp))
  have r4 := r4.below hbx
  have r5 := r5.below hbx
  have hb20 := hb19.trans (hbx.mono hb19.size)
  clear hbx hb19
  clear r5
  go_wp2_with fail
  refine (Behind_any A4 2 c4 [(3, 9, 1), (3, 8, 2)] 4 _ r4 (by omega)).mono ?_; rintro e w21 ⟨A6, c6, rfl, r6, s6, t6, hb21⟩
  rw [livesM4] at r6 s6 ⊢
  simp only [List.length_nil] at r6 s6 ⊢
  have hbx := hb21
  have r4 := r4.below hbx
  have hb21 := hb20.trans (hbx.mono hb20.size)
  clear hbx hb20
  go_wp2_with fail
  go_returns
  exact ⟨rfl, hb21⟩
end Go.Proofs.YtibeoiphjkgekaaGreat
