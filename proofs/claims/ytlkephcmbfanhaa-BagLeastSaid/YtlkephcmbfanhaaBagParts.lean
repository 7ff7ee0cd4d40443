/-
  Walk: timetablelaw22.BagParts answers true.
-/
import Derived.Test.YtlkephcmbfanhaaBag12
import Derived.Test.YtlkephcmbfanhaaBagPlain3
import Derived.Test.YtlkephcmbfanhaaHead
namespace Go.Proofs.Ytlkephcmbfanhaa
open Go.RowKit B K Go.Shelf
set_option linter.unusedVariables false
set_option linter.unusedSimpArgs false
set_option maxHeartbeats 4000000
theorem pick_any (a m : Int) (w : World) (hm : 1 ≤ m ∧ m ≤ 1099511627776) (ha : -9223372036854775808 ≤ a ∧ a ≤ 9223372036854775807) :
    Calls Try.prog 15 #[.int .i64 a, .int .i64 m] w fun e w' => ∃ k : Nat, e = .returned (.int .i64 (k : Int)) ∧ (k : Int) < m ∧ Below w.heap.size w w' := by
  have h0 : decide (m < 1) = false := decide_eq_false (by omega)
  have h1 : a.tmod m < m := Int.tmod_lt_of_pos a (by omega)
  have h2 : -m < a.tmod m := by
    rcases Int.le_total 0 a with h | h
    · have := Int.tmod_nonneg (b := m) h; omega
    · have h1 := Int.tmod_lt_of_pos (-a) (show (0 : Int) < m by omega)
      rw [Int.neg_tmod] at h1; omega
  obtain ⟨q, hq⟩ : ∃ q, a.tmod m = q := ⟨_, rfl⟩
  rw [hq] at h1 h2
  have hm0 : m ≠ 0 := by omega
  have hw : IntKind.i64.wrap (a.tmod m) = q := by rw [hq]; exact IntWalk.i64_in _ (by omega)
  have hw2 : IntKind.i64.wrap q = q := IntWalk.i64_in _ (by omega)
  go_enter Try.func15, Try.ntmps15
  by_cases hneg : q < 0
  · have hw3 : IntKind.i64.wrap (q + m) = q + m := IntWalk.i64_in _ (by omega)
    go_wp2_with fail
    go_returns
    exact ⟨(q + m).toNat, ret_int (by omega), by omega, Below.refl _ _⟩
  · have hneg' : decide (q < 0) = false := decide_eq_false hneg
    go_wp2_with fail
    go_returns
    exact ⟨q.toNat, ret_int (by omega), by omega, Below.refl _ _⟩
set_option maxRecDepth 100000 in
theorem parts_any (A : Option Addr) (n c : Nat) (l : List P3) (a t : Int) (w : World) (hr : Rd w 3 tripE A n l) (hc : n ≤ c) (hc2 : c ≤ 9223372036854775807) (ha : -9223372036854775808 ≤ a ∧ a ≤ 9223372036854775807) :
    Calls Try.prog 5 #[.slice A n c, .int .i64 a, .int .i64 t] w fun e w' => e = .returned (.bool true) ∧ Below w.heap.size w w' := by
  go_enter Try.func5, Try.ntmps5
  go_wp2_with fail
  refine (lives_any _).mono ?_; rintro e w1 ⟨rfl, hb1⟩
  by_cases hn : 60 < n
  · go_wp2_with fail
    go_returns
    exact ⟨rfl, hb1⟩
  · have hwn : IntKind.i64.wrap ((n : Int) + 1) = (n : Int) + 1 := IntWalk.i64_in _ (by omega)
    go_wp2_with fail
    refine (pick_any a ((n : Int) + 1) _ (by omega) ha).mono ?_; rintro e w2 ⟨k, rfl, hk, hb2⟩
    have hb2 := hb1.trans (hb2.mono hb1.size)
    have hk : k ≤ n := by omega
    go_wp2_with fail
    refine (Least3_any A n c l _ (hr.below hb2) (by omega)).mono ?_; rintro e w3 ⟨A3, c3, rfl, r3, s3, t3, hb3⟩
    have hb3 := hb2.trans (hb3.mono hb2.size)
    have hr3 := hr.below hb3
    have hlen : l.length = n := hr.len
    have hL60 : (L3 l).length ≤ 60 := by have := L3_len l; omega
    have ha60 : (L3 (l.take k)).length ≤ 60 := by have := L3_len (l.take k); rw [List.length_take] at this; omega
    have hd60 : (L3 (l.drop k)).length ≤ 60 := by have := L3_len (l.drop k); rw [List.length_drop] at this; omega
    have hsn : Hid (∀ x, ∀ j, ¬ (L3 (l.take j)).length + 1 < (L3 (L3 (l.take j) ++ [x])).length) := fun x j => snoc_len (l.take j) x
    have hh : ∀ W, (Instr.slice 31 (.slice A n c) none (some (.int .i64 (k : Int))) none).run Try.prog W = .ok (.slice A k c) W := fun W => by
      have := run_head (P := Try.prog) (t := 31) (e := 23) (s := 3) Try.underlying31 (by kernel_rfl) (fun W => by simp [go_sem]) A n c k (by omega) .i64 W
      rwa [cutA_zero] at this
    have hd := fun W => run_cut (P := Try.prog) (t := 31) (e := 23) (s := 3) Try.underlying31 (by kernel_rfl) (fun W => by simp [go_sem]) A n c k hk .i64 W
    have hlen := Lib.hid hlen
    go_wp2_with fail
    refine wp_region_inv3 (by kernel_rfl) (by kernel_rfl) (by kernel_rfl) (by kernel_rfl) (by kernel_rfl) ?_
    intro base O hbase hO
    have kx0 : Hid (∀ xs, evX base O xs (.tmp 0) = .slice A n c) := fun xs => by rw [hbase, hO]; rfl
    have kx1 : Hid (∀ xs, evX base O xs (.tmp 1) = .int .i64 (k : Int)) := fun xs => by rw [hbase, hO]; rfl
    have kx26 : Hid (∀ xs, evX base O xs (.tmp 26) = xs 0) := fun xs => by rw [hO]; rfl
    have kx27 : Hid (∀ xs, evX base O xs (.tmp 27) = xs 1) := fun xs => by rw [hO]; rfl
    have kx28 : Hid (∀ xs, evX base O xs (.tmp 28) = xs 2) := fun xs => by rw [hO]; rfl
    have kx29 : Hid (∀ xs, evX base O xs (.tmp 29) = xs 3) := fun xs => by rw [hO]; rfl
    have kx30 : Hid (∀ xs, evX base O xs (.tmp 30) = xs 4) := fun xs => by rw [hO]; rfl
    have kx31 : Hid (∀ xs, evX base O xs (.tmp 31) = xs 5) := fun xs => by rw [hO]; rfl
    have kx32 : Hid (∀ xs, evX base O xs (.tmp 32) = xs 6) := fun xs => by rw [hO]; rfl
    have kx33 : Hid (∀ xs, evX base O xs (.tmp 33) = xs 7) := fun xs => by rw [hO]; rfl
    clear hbase hO
    apply ok_det (n := 0)
    · intro xs w ev hb hD hev K hK
      have e0 := (hev (.tmp 0)).trans (kx0.out xs)
      rw [if_pos (wantedX_none rfl)]
      have ef : ∀ f, ev (.func f) = .func (.func f) #[] #[] := fun f => (hev _).trans rfl
      clear hev hD
      go_simp
      exact hK _ _ (Below.refl _ _) rfl
    apply ok_det (n := 1)
    · intro xs w ev hb hD hev K hK
      have e1 := (hev (.tmp 1)).trans (kx1.out xs)
      rw [if_pos (wantedX_none rfl)]
      have ef : ∀ f, ev (.func f) = .func (.func f) #[] #[] := fun f => (hev _).trans rfl
      clear hev hD
      go_simp
      exact hK _ _ (Below.refl _ _) rfl
    apply ok_det (n := 2)
    · intro xs w ev hb hD hev K hK
      have d0 := hD.at_ 0 rfl rfl
      have e26 := ((hev (.tmp 26)).trans (kx26.out xs)).trans d0
      have d1 := hD.at_ 1 rfl rfl
      have e27 := ((hev (.tmp 27)).trans (kx27.out xs)).trans d1
      rw [if_pos (wantedX_none rfl)]
      have ef : ∀ f, ev (.func f) = .func (.func f) #[] #[] := fun f => (hev _).trans rfl
      clear hev hD
      go_simp
      exact hK _ _ (Below.refl _ _) rfl
    refine ok_any (n := 3) (fun v w' => ∃ A' c', v = .slice A' (L3 (l.take k)).length c' ∧ Rd w' 3 tripE A' (L3 (l.take k)).length (L3 (l.take k)) ∧ (L3 (l.take k)).length ≤ c' ∧ c' ≤ 9223372036854775807) (fun _ _ _ hb ⟨A', c', h1, h2, h3, h4⟩ => ⟨A', c', h1, h2.below hb, h3, h4⟩) ?_ ?_
    · intro xs w ev hb hD hev K hK
      have d2 := hD.at_ 2 rfl rfl
      have e28 := ((hev (.tmp 28)).trans (kx28.out xs)).trans d2
      rw [if_pos (wantedX_none rfl)]
      have ef : ∀ f, ev (.func f) = .func (.func f) #[] #[] := fun f => (hev _).trans rfl
      clear hev hD
      go_simp
      refine (Least3_any (A) (k) (c) (l.take k) _ ((hr3.below hb).take hk) (by omega)).mono ?_; rintro e w' ⟨A', c', rfl, r', s', t', hb1⟩
      exact ⟨_, rfl, hK _ _ hb1 ⟨A', c', rfl, r', s', t'⟩⟩
    apply ok_det (n := 4)
    · intro xs w ev hb hD hev K hK
      have e0 := (hev (.tmp 0)).trans (kx0.out xs)
      rw [if_pos (wantedX_none rfl)]
      have ef : ∀ f, ev (.func f) = .func (.func f) #[] #[] := fun f => (hev _).trans rfl
      clear hev hD
      go_simp
      exact hK _ _ (Below.refl _ _) rfl
    apply ok_det (n := 5)
    · intro xs w ev hb hD hev K hK
      have e1 := (hev (.tmp 1)).trans (kx1.out xs)
      rw [if_pos (wantedX_none rfl)]
      have ef : ∀ f, ev (.func f) = .func (.func f) #[] #[] := fun f => (hev _).trans rfl
      clear hev hD
      go_simp
      exact hK _ _ (Below.refl _ _) rfl
    apply ok_det (n := 6)
    · intro xs w ev hb hD hev K hK
      have d4 := hD.at_ 4 rfl rfl
      have e30 := ((hev (.tmp 30)).trans (kx30.out xs)).trans d4
      have d5 := hD.at_ 5 rfl rfl
      have e31 := ((hev (.tmp 31)).trans (kx31.out xs)).trans d5
      rw [if_pos (wantedX_none rfl)]
      have ef : ∀ f, ev (.func f) = .func (.func f) #[] #[] := fun f => (hev _).trans rfl
      clear hev hD
      go_simp
      exact hK _ _ (Below.refl _ _) rfl
    refine ok_any (n := 7) (fun v w' => ∃ A' c', v = .slice A' (L3 (l.drop k)).length c' ∧ Rd w' 3 tripE A' (L3 (l.drop k)).length (L3 (l.drop k)) ∧ (L3 (l.drop k)).length ≤ c' ∧ c' ≤ 9223372036854775807) (fun _ _ _ hb ⟨A', c', h1, h2, h3, h4⟩ => ⟨A', c', h1, h2.below hb, h3, h4⟩) ?_ ?_
    · intro xs w ev hb hD hev K hK
      have d6 := hD.at_ 6 rfl rfl
      have e32 := ((hev (.tmp 32)).trans (kx32.out xs)).trans d6
      rw [if_pos (wantedX_none rfl)]
      have ef : ∀ f, ev (.func f) = .func (.func f) #[] #[] := fun f => (hev _).trans rfl
      clear hev hD
      go_simp
      refine (Least3_any (cutA A c k 3) (n - k) (c - k) (l.drop k) _ ((hr3.below hb).drop hk hc) (by omega)).mono ?_; rintro e w' ⟨A', c', rfl, r', s', t', hb1⟩
      exact ⟨_, rfl, hK _ _ hb1 ⟨A', c', rfl, r', s', t'⟩⟩
    refine ok_any (n := 8) (fun v w' => ∃ A' c', v = .slice A' (L3 (l.take k)).length c' ∧ Rd w' 3 tripE A' (L3 (l.take k)).length (L3 (l.take k)) ∧ (L3 (l.take k)).length ≤ c' ∧ c' ≤ 9223372036854775807) (fun _ _ _ hb ⟨A', c', h1, h2, h3, h4⟩ => ⟨A', c', h1, h2.below hb, h3, h4⟩) ?_ ?_
    · intro xs w ev hb hD hev K hK
      have d3 := hD.at_ 3 rfl rfl
      have e29 := (hev (.tmp 29)).trans (kx29.out xs)
      rw [if_pos (wantedX_none rfl)]
      have ef : ∀ f, ev (.func f) = .func (.func f) #[] #[] := fun f => (hev _).trans rfl
      clear hev hD
      go_simp
      exact hK _ _ (Below.refl _ _) d3
    refine ok_any (n := 9) (fun v w' => ∃ A' c', v = .slice A' (L3 (l.drop k)).length c' ∧ Rd w' 3 tripE A' (L3 (l.drop k)).length (L3 (l.drop k)) ∧ (L3 (l.drop k)).length ≤ c' ∧ c' ≤ 9223372036854775807) (fun _ _ _ hb ⟨A', c', h1, h2, h3, h4⟩ => ⟨A', c', h1, h2.below hb, h3, h4⟩) ?_ ?_
    · intro xs w ev hb hD hev K hK
      have d7 := hD.at_ 7 rfl rfl
      have e33 := (hev (.tmp 33)).trans (kx33.out xs)
      rw [if_pos (wantedX_none rfl)]
      have ef : ∀ f, ev (.func f) = .func (.func f) #[] #[] := fun f => (hev _).trans rfl
      clear hev hD
      go_simp
      exact hK _ _ (Below.refl _ _) d7
    intro xs w4 hb hI
    obtain ⟨A5, c5, e5, r5, s5, t5⟩ := hI 8 _ rfl
    obtain ⟨A6, c6, e6, r6, s6, t6⟩ := hI 9 _ rfl
    clear hI hh hd
    simp only [List.append_eq, List.cons_append, List.nil_append, setAll, List.setIfInBounds_toArray, List.set_cons_zero, List.set_cons_succ]
    rw [e5, e6]
    clear e5 e6
    have r3 := r3.below hb
    have hb4 := hb3.trans (hb.mono hb3.size)
    clear hr3 hb
    generalize xs 0 = z0
    generalize xs 1 = z1
    generalize xs 2 = z2
    generalize xs 3 = z3
    generalize xs 4 = z4
    generalize xs 5 = z5
    generalize xs 6 = z6
    generalize xs 7 = z7
    obtain ⟨La, hLa⟩ : ∃ q, L3 (l.take k) = q := ⟨_, rfl⟩
    obtain ⟨Ld, hLd⟩ : ∃ q, L3 (l.drop k) = q := ⟨_, rfl⟩
    obtain ⟨L, hL⟩ : ∃ q, L3 l = q := ⟨_, rfl⟩
    rw [hLa] at r5 s5 ha60
    rw [hLd] at r6 s6 hd60
    rw [hL] at r3 s3 hL60
    rw [hLa, hLd, hL]
    have hpa : Hid (L3 (La ++ Ld) = L) := by show _ = _; rw [← hLa, ← hLd, L3_parts, List.take_append_drop, hL]
    have hpb : Hid (L2 (behindF t l) = L2 (behindF t L)) := by show _ = _; rw [behind_L3, hL]
    have hLh := Lib.hid hL
    clear hLa hLd hL
    go_wp2_with fail
    go_loopw [10, 11] (fun v i wr => ∃ (j : Nat) (A1 : Option Addr) (c1 : Nat), j ≤ n ∧ i = .int .i64 j ∧ v = .slice A1 (L3 (l.take j)).length c1 ∧ Rd wr 3 tripE A1 (L3 (l.take j)).length (L3 (l.take j)) ∧ (L3 (l.take j)).length ≤ c1 ∧ c1 ≤ 9223372036854775807 ∧ Below w.heap.size w wr ∧ Below w4.heap.size w4 wr) (fun _ i _ => n - (intOf i).toNat)
    case atStart => exact ⟨0, none, 0, Nat.zero_le _, rfl, rfl, Rd.nil, Nat.le_refl _, by omega, hb4, Below.refl _ _⟩
    case round =>
      obtain ⟨j, A1, c1, hj, rfl, rfl, r1, s1, t1, hb, hbk⟩ := hrel
      by_cases hlt : j < n
      · obtain ⟨b, o, x1, x2, x3, rfl, hbs, hx, h1, h2, h3⟩ := (hr.below hb).trip hlt
        have hnx : Hid (L3 (L3 (l.take j) ++ [(x1, x2, x3)]) = L3 (l.take (j + 1))) := by show _ = _; rw [take_at hx, L3_snoc]
        have hsn := hsn.out (x1, x2, x3) j
        have hj60 : (L3 (l.take j)).length ≤ 60 := by have := L3_len (l.take j); rw [List.length_take] at this; omega
        clear hx
        obtain ⟨M, hM⟩ : ∃ q, L3 (l.take j) = q := ⟨_, rfl⟩
        rw [hM] at hnx r1 s1 hsn hj60 ⊢
        have hid : Hid ((decide ((x1, x2, x3) ∈ L3 (M ++ [(x1, x2, x3)])) && !decide ((x1, x2, x3) ∈ M)) = false → L3 (M ++ [(x1, x2, x3)]) = M) := by
          show _ → _
          rw [← hM]; exact L3_idle
        clear hM
        go_wp2_with fail
        refine (Put3_any x1 x2 x3 A1 M.length c1 M _ r1 (by omega) (Rd.some2 r1)).mono ?_; rintro e w5 ⟨A7, c7, rfl, r7, s7, t7, hb7⟩
        have r1 := r1.below hb7
        have hbk7 := hbk.trans (hb7.mono hbk.size)
        have hb7 := hb.trans (hb7.mono hb.size)
        rw [hnx.out] at hid hsn r7 s7 ⊢
        obtain ⟨M2, hM2⟩ : ∃ q, L3 (l.take (j + 1)) = q := ⟨_, rfl⟩
        rw [hM2] at hid hsn r7 s7 ⊢
        have hM2 := Lib.hid hM2
        have hlen2 : M2.length ≤ 61 := by omega
        have hdl : decide ((M.length : Int) + 1 < (M2.length : Int)) = false := decide_eq_false (by omega)
        have hwl : IntKind.i64.wrap ((M.length : Int) + 1) = (M.length : Int) + 1 := IntWalk.i64_in _ (by omega)
        clear hnx
        rename_i hM20; clear hM20
        obtain ⟨q, hq⟩ : ∃ q, (decide ((x1, x2, x3) ∈ M2) && !decide ((x1, x2, x3) ∈ M)) = q := ⟨_, rfl⟩
        rw [hq] at hid ⊢
        clear hq
        cases q with
        | true =>
          clear hid
          go_wp2_with fail
          go_roundw
          case rel => exact ⟨j + 1, A7, c7, by omega, by go_num, by rw [hM2.out], by rw [hM2.out]; exact r7, by rw [hM2.out]; exact s7, t7, hb7, hbk7⟩
          case measure => simp [intOf]; omega
        | false =>
          have hie := Lib.hid (hid.out rfl)
          clear hid
          go_wp2_with fail
          refine (sameT_any A7 M2.length c7 M2 A1 M.length c1 M _ r7 r1 (by omega) (by omega)).mono ?_; rintro e w6 ⟨rfl, hb8⟩
          rw [decide_eq_true hie.out]
          have r7 := r7.below hb8
          have hbk8 := hbk7.trans (hb8.mono hbk7.size)
          have hb8 := hb7.trans (hb8.mono hb7.size)
          go_wp2_with fail
          go_roundw
          case rel => exact ⟨j + 1, A7, c7, by omega, by go_num, by rw [hM2.out], by rw [hM2.out]; exact r7, by rw [hM2.out]; exact s7, t7, hb8, hbk8⟩
          case measure => simp [intOf]; omega
      · obtain rfl : j = n := by omega
        have htk : l.take j = l := List.take_of_length_le (by rw [hlen.out]; omega)
        rw [htk, hLh.out] at r1 s1
        rw [htk, hLh.out]
        clear htk
        have r3 := r3.below hbk
        have r5 := r5.below hbk
        have r6 := r6.below hbk
        go_wp2_with fail
        refine (ownT_any A5 La.length c5 La _ r5 (by omega)).mono ?_; rintro e w5 ⟨v, rfl, own, hb5⟩
        have hx5 := hb5
        have r6 := r6.below hx5
        have hb5 := hb.trans (hb5.mono hb.size)
        obtain ⟨v2, w6, hrun, own2, hg2, _⟩ := own_append (enc := tripE) Try.underlying31 infoATri rfl (by decide) tripE_len tripE_one c6 own r6 (by omega) (by decide) hx5.size
        have hbx : Below wr.heap.size wr w6 := hx5.grown hg2 hx5.size (fun g hg => (own.lt g hg).1)
        obtain ⟨A8, c8, rfl, r8, s8, t8⟩ := Rd.of_own tripE_len (by simp) own2
        clear own own2 hg2 hx5 hb5 r5 r6
        have r1 := r1.below hbx
        have r3 := r3.below hbx
        have hb6 := hb.trans (hbx.mono hb.size)
        clear hbx hb hbk
        go_wp2_with (at_builtin; refine wpList_append_run ?a1 (.tmp 70) (.tmp 71) 31 ?a2 ?a3 ?a4 hrun ?_)
        case a1 => rfl
        case a2 => rfl
        try (case a3 => rfl)
        try (case a4 => rfl)
        refine (Least3_any A8 _ c8 (La ++ Ld) _ r8 (by omega)).mono ?_; rintro e w7 ⟨A9, c9, rfl, r9, s9, t9, hb7⟩
        rw [hpa.out] at r9 s9 ⊢
        have r1 := r1.below hb7
        have r3 := r3.below hb7
        have hb7 := hb6.trans (hb7.mono hb6.size)
        clear hb6 r8
        go_wp2_with fail
        refine (sameT_any A9 L.length c9 L A3 L.length c3 L _ r9 r3 (by omega) (by omega)).mono ?_; rintro e w8 ⟨rfl, hb8⟩
        rw [decide_eq_true (rfl : L = L)]
        have r1 := r1.below hb8
        have r3 := r3.below hb8
        have hb8 := hb7.trans (hb8.mono hb7.size)
        clear hb7 r9
        go_wp2_with fail
        refine (sameT_any A1 L.length c1 L A3 L.length c3 L _ r1 r3 (by omega) (by omega)).mono ?_; rintro e w9 ⟨rfl, hb9⟩
        rw [decide_eq_true (rfl : L = L)]
        have r3 := r3.below hb9
        have hb9 := hb8.trans (hb9.mono hb8.size)
        clear hb8 r1
        have hQ60 : (L2 (behindF t L)).length ≤ 60 := by have := L2_len (behindF t L); have := behindF_len t L; omega
        obtain ⟨Q, hQ⟩ : ∃ q, L2 (behindF t L) = q := ⟨_, rfl⟩
        rw [hQ] at hpb hQ60
        have hQ := Lib.hid hQ
        rename_i hQ0; clear hQ0
        go_wp2_with fail
        refine (Behind_any A j c l t _ (hr.below hb9) (by omega)).mono ?_; rintro e w10 ⟨A10, c10, rfl, r10, s10, t10, hb10⟩
        rw [hpb.out] at r10 s10 ⊢
        have r3 := r3.below hb10
        have hb10 := hb9.trans (hb10.mono hb9.size)
        clear hb9
        go_wp2_with fail
        refine (Behind_any A3 L.length c3 L t _ r3 (by omega)).mono ?_; rintro e w11 ⟨A11, c11, rfl, r11, s11, t11, hb11⟩
        rw [hQ.out] at r11 s11 ⊢
        have r10 := r10.below hb11
        have hb11 := hb10.trans (hb11.mono hb10.size)
        clear hb10 r3
        go_wp2_with fail
        refine (sameP_any A10 Q.length c10 Q A11 Q.length c11 Q _ r10 r11 (by omega) (by omega)).mono ?_; rintro e w12 ⟨rfl, hb12⟩
        rw [decide_eq_true (rfl : Q = Q)]
        have hb12 := hb11.trans (hb12.mono hb11.size)
        go_wp2_with fail
        go_returns
        exact ⟨rfl, hb12⟩
end Go.Proofs.Ytlkephcmbfanhaa
