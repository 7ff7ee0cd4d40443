/-
  Walk: timetablelaw15.SpreadTrails answers true (gen11.py).
-/
import Derived.Test.YtonkkibnigdfbaaPick15
import Derived.Test.YtonkkibnigdfbaaRef11F
import Derived.Test.YtonkkibnigdfbaaFwPlain
namespace Go.Proofs.Ytonkkibnigdfbaa
open Go.RowKit Go.Shelf B K
set_option linter.unusedVariables false
set_option linter.unusedSimpArgs false
set_option maxHeartbeats 4000000
theorem beq_no {a b : Int} (h : a ≠ b) : (a == b) = false := by simp [h]
set_option maxRecDepth 100000 in
theorem trails_any {N : NetP} {A : Option Addr} {n c : Nat} {B : Option Addr} {m d : Nat} (Ax : Option Addr) (nx cx : Nat) (X : List Int) (at' : Int) (w : World)
    (hr : RNet w N A n B m) (hrx : Rd w 1 (numE .i64) Ax nx X) (hat : -9223372036854775808 ≤ at' ∧ at' ≤ 9223372036854775807) :
    Calls Try.prog 8 #[.agg #[.int .i64 N.hz, .slice A n c, .slice B m d], .slice Ax nx cx, .int .i64 at'] w fun e w' => e = .returned (.bool true) ∧ Below w.heap.size w w' := by
  obtain ⟨hz, hhz⟩ : ∃ q, N.hz = q := ⟨_, rfl⟩
  rw [hhz]
  have hb1 : Below w.heap.size w (w.alloc (.cells #[.int .i64 hz, .slice A n c, .slice B m d] 25)) := (Below.refl _ w).alloc (Nat.le_refl _) _
  obtain ⟨x0, x1, x2⟩ := rowBx3 w 25 (.int .i64 hz) (.slice A n c) (.slice B m d)
  have hbn1 : w.heap.size < (w.alloc (.cells #[.int .i64 hz, .slice A n c, .slice B m d] 25)).heap.size := by simp
  obtain ⟨w1, hw1⟩ : ∃ q, w.alloc (.cells #[.int .i64 hz, .slice A n c, .slice B m d] 25) = q := ⟨_, rfl⟩
  rw [hw1] at hb1 x0 x1 x2 hbn1
  have hup : Hid (∀ w2, Below w1.heap.size w1 w2 → Below w.heap.size w w2) := fun w2 h => hb1.trans (h.mono hb1.size)
  obtain ⟨bn, hbn⟩ : ∃ q, w.heap.size = q := ⟨_, rfl⟩
  rw [hbn] at x0 x1 x2 hbn1
  have hR := Lib.hid (hr.below hb1)
  have hX : Hid (∀ U, Below w1.heap.size w1 U → U.cell? ⟨bn, 0, none⟩ = some (.int .i64 hz) ∧ U.cell? ⟨bn, 1, none⟩ = some (.slice A n c) ∧ U.cell? ⟨bn, 2, none⟩ = some (.slice B m d)) := fun U hU =>
    ⟨(hU.cell (p := ⟨bn, 0, none⟩) hbn1).trans x0, (hU.cell (p := ⟨bn, 1, none⟩) hbn1).trans x1, (hU.cell (p := ⟨bn, 2, none⟩) hbn1).trans x2⟩
  have hhzH := Lib.hid hhz
  have hRx := Lib.hid (hrx.below hb1)
  clear hb1 hr hrx x0 x1 x2 hhz
  go_enter Try.func8, Try.ntmps8
  go_wp2_with fail
  refine (slives_any _).mono ?_; rintro e w2 ⟨rfl, hb2⟩
  obtain ⟨y0, y1, y2⟩ := hX.out _ hb2
  have hL := Lib.hid (lightNet_any (c := c) (d := d) (hz := hz) w2 (hR.out.below hb2))
  have hb2 := Lib.hid hb2
  rename_i hb20; clear hb20 hw1 hbn
  go_wp2_with fail
  refine hL.out.mono ?_; rintro e w3 ⟨b, rfl, hbt, hb3⟩
  have hb13 := hb2.out.trans (hb3.mono hb2.out.size)
  clear y0 y1 y2
  obtain ⟨y0, y1, y2⟩ := hX.out _ hb13
  cases b with
  | false =>
    go_wp2_with fail
    go_returns
    exact ⟨rfl, hup.out _ hb13⟩
  | true =>
    have hlt := Lib.hid (hbt rfl)
    have hs := Lib.hid (hlt.out.small (by omega) (by omega) (by omega))
    clear hbt
    by_cases h0 : nx = 0
    · have d0 : ((nx : Int) == 0) = true := by simp [h0]
      have d0' : (nx == 0) = true := by simp [h0]
      clear h0
      go_wp2_with fail
      go_returns
      exact ⟨rfl, hup.out _ hb13⟩
    have d0 : ((nx : Int) == 0) = false := by simp [h0]
    have d0' : (nx == 0) = false := by simp [h0]
    by_cases h40 : 40 < nx
    · have d1 : decide ((40 : Int) < (nx : Int)) = true := decide_eq_true (by omega)
      have d1' : decide (40 < nx) = true := decide_eq_true h40
      go_wp2_with fail
      go_returns
      exact ⟨rfl, hup.out _ hb13⟩
    have d1 : decide ((40 : Int) < (nx : Int)) = false := decide_eq_false (by omega)
    have d1' : decide (40 < nx) = false := decide_eq_false h40
    have hC1 := Lib.hid (scheck_any (c := c) (d := d) (ca := cx) hs.out w3 (hR.out.below hb13) (hRx.out.below hb13) (by omega))
    rw [hhzH.out] at hC1
    have hb13h := Lib.hid hb13
    clear hb13
    go_wp2_with fail
    refine hC1.out.mono ?_; rintro e w4 ⟨rfl, hb4⟩
    have hb14 := hb13h.out.trans (hb4.mono hb13h.out.size)
    clear y0 y1 y2 hC1
    obtain ⟨y0, y1, y2⟩ := hX.out _ hb14
    by_cases hcx : sckN N X = 0
    rotate_left
    · have d3 : (sckN N X != 0) = true := by simp [hcx]
      clear hcx
      go_wp2_with fail
      go_returns
      exact ⟨rfl, hup.out _ hb14⟩
    obtain ⟨hN, hkx⟩ := sck_iff.1 hcx
    rw [hcx]
    replace hN := Lib.hid hN
    replace hkx := Lib.hid hkx
    clear hcx
    obtain rfl : n = nx := by
      have h1 := hkx.out.1
      have h2 := hRx.out.len
      have h3 := hR.out.nn
      omega
    have hn40 : n ≤ 40 := by omega
    have hxl : Hid (X.length = n) := hRx.out.len
    have hnn : Hid (N.cs.length = n) := hR.out.nn
    have hnb : ((n : Int) != (n : Int)) = false := by simp
    have hmm : Hid (N.ls.length = m) := hR.out.mm
    have hm40 : m ≤ 40 := by have := hlt.out.ln; have := hmm.out; omega
    have hn1 : 1 ≤ n := by omega
    have hP := Lib.hid (pick_any at' n w4 (by omega) hat)
    have hb14h := Lib.hid hb14
    clear h0 hb14
    go_wp2_with fail
    refine hP.out.mono ?_; rintro e w4' ⟨p, rfl, hpn, hb4'⟩
    have hpn2 : p < n := by omega
    replace hb14h := Lib.hid (hb14h.out.trans (hb4'.mono hb14h.out.size))
    have hb14 := hb14h.out
    clear hP hb4' hb14h y0 y1 y2
    obtain ⟨y0, y1, y2⟩ := hX.out _ hb14
    have hA1 := Lib.hid (all_ok (c := c) (d := d) (ca := cx) hs.out (hR.out.below hb14) (hRx.out.below hb14) hN.out hkx.out)
    rw [hhzH.out] at hA1
    have hb14h := Lib.hid hb14
    clear hb14 hb3 hb4
    go_wp2_with fail
    refine hA1.out.mono ?_; rintro e w5 ⟨A5, c5, D, V5, v5, rfl, hS, hI5, _, _, hV5, _, _, hb5⟩
    have hb15h := Lib.hid (hb14h.out.trans (hb5.mono hb14h.out.size))
    clear y0 y1 y2 hA1
    obtain ⟨y0, y1, y2⟩ := hX.out _ hb15h.out
    have hSh := Lib.hid hS
    have hE5 := Lib.hid hI5.rd
    replace hV5 := Lib.hid hV5
    have hdl : Hid (D.length = n) := by show _ = _; rw [hS.ok.1]; exact hnn.out
    clear hS hI5 hb5
    have hTr := Lib.hid (trail_ok (c := c) (d := d) (ca := cx) (tg := (p : Int)) hs.out (hR.out.below hb15h.out) (hRx.out.below hb15h.out) hN.out hkx.out)
    rw [hhzH.out] at hTr
    go_wp2_with fail
    refine hTr.out.mono ?_; rintro e w6 ⟨D', hS', hb6, hT⟩
    obtain rfl : D = D' := hSh.out.uniq hS'
    have hb16 := Lib.hid (hb15h.out.trans (hb6.mono hb15h.out.size))
    have hE6 := Lib.hid (hE5.out.below hb6)
    clear y0 y1 y2 hS' hb6 hTr hE5 hV5
    obtain ⟨y0, y1, y2⟩ := hX.out _ hb16.out
    have hpI : (p : Int) < (n : Int) := by omega
    obtain ⟨bD, oD, tp, rfl, hbD, hDp, fp⟩ := hE6.out.num hpn2
    obtain ⟨bX, oX, xp, rfl, hbX, hXp, gp⟩ := (hRx.out.below hb16.out).num hpn2
    have hl := lab_at hDp
    have htk : tckN N X D (p : Int) = if tp = W.inf then 5 else 0 := by
      unfold tckN
      rw [if_neg (by have := hnn.out; omega), show ((p : Int)).toNat = p from rfl, hl]
    by_cases q1 : tp = W.inf
    · rw [htk, if_pos q1] at hT
      rcases hT with ⟨_, rfl⟩ | ⟨h, _⟩
      · have e1 : (tp == 4611686018427387904) = true := by rw [q1]; rfl
        subst q1
        clear htk hl hDp hXp
        go_wp2_with fail
        go_returns
        exact ⟨rfl, hup.out _ hb16.out⟩
      · cases h
    rw [htk, if_neg q1] at hT
    rcases hT with ⟨h, _⟩ | ⟨_, AL, cL, L, rfl, hTr, hRL, _, _⟩
    · exact absurd rfl h
    have e1 : (tp == 4611686018427387904) = false := beq_no q1
    rw [show ((p : Int)).toNat = p from rfl] at hTr
    obtain ⟨u, hFw, hu⟩ := hTr.fw hN.out hSh.out hkx.out
    rw [List.reverse_reverse] at hFw
    have hsh := hTr.short hN.out hSh.out hkx.out
    rw [List.length_reverse, hdl.out] at hsh
    obtain ⟨q, hq⟩ : ∃ q, L.length = q := ⟨_, rfl⟩
    rw [hq] at hRL hsh
    rw [hq]
    have e2 : decide ((n : Int) < (q : Int)) = false := decide_eq_false (by omega)
    have e2' : decide (n < q) = false := decide_eq_false (by omega)
    have hqH := Lib.hid hq
    have hRLH := Lib.hid hRL
    have hDpH := Lib.hid hDp
    have hXpH := Lib.hid hXp
    have huH := Lib.hid hu
    have hlH := Lib.hid hl
    clear htk hl hDp hXp hTr hRL hq hu
    by_cases hq0 : q = 0
    · subst hq0
      obtain rfl : L = [] := List.eq_nil_of_length_eq_zero hqH.out
      have hup' : u = p := by cases hFw; rfl
      subst hup'
      have e3 : tp = xp := by rw [← hlH.out, ← lab_at hXpH.out]; exact huH.out
      have e4 : (tp == xp) = true := by simp [e3]
      clear e3 hFw
      go_wp2_with fail
      go_quiet (fail)
      go_wp2_with fail
      go_returns
      exact ⟨rfl, below_drewQ (hup.out _ hb16.out) _⟩
    have e3 : ((q : Int) == 0) = false := beq_no (by omega)
    have e3' : (q == 0) = false := by simp [hq0]
    have hq1 : 0 < q := by omega
    obtain ⟨bL, oL, v1, v2, rfl, hbL, hL0, g1, g2⟩ := hRLH.out.pair hq1
    have hFwH := Lib.hid hFw
    obtain ⟨i0, f0, L', rfl⟩ : ∃ (i0 : Nat) (f0 : Int) (L' : List (Int × Int)), L = ((i0 : Int), f0) :: L' := by
      cases hFw with
      | done => have := hqH.out; simp at this; omega
      | step => exact ⟨_, _, _, rfl⟩
    simp only [List.getElem?_cons_zero, Option.some.injEq, Prod.mk.injEq] at hL0
    obtain ⟨rfl, rfl⟩ := hL0
    cases hFw with
    | @step _ b0 _ _ _ l0 _ h1 h2 h3 h4 h5 h6 h7 h8 h9 =>
      have him : i0 < m := by have := (List.getElem?_eq_some_iff.1 h1).1; have := hmm.out; omega
      obtain ⟨l', hl', b, o, pA, pn, pc, kA, kn, kc, rfl, hbl, _, _, c0, c1, c2, c3, c4, c5', c6⟩ := (hR.out.below hb16.out).lnk him
      rw [h1] at hl'; cases hl'
      have hun : u < n := by have := (okL_iff.1 (hN.out.lk l0 (List.mem_of_getElem? h1))).1; have := hnn.out; omega
      obtain ⟨bX', oX', xu, e9, _, hXu, gu⟩ := (hRx.out.below hb16.out).num hun
      cases e9
      have hxu : Hid (xu = lab D u) := by show _ = _; rw [huH.out, lab_at hXu]
      rw [h2] at c0
      have e4 : decide ((i0 : Int) < 0) = false := decide_eq_false (by omega)
      have e5 : decide ((m : Int) ≤ (i0 : Int)) = false := decide_eq_false (by omega)
      have e5' : decide (m ≤ i0) = false := decide_eq_false (by omega)
      have hiI : (i0 : Int) < (m : Int) := by omega
      have huI : (u : Int) < (n : Int) := by omega
      simp only [Nat.zero_mul, Nat.add_zero] at g1 g2
      clear h1 h2 h3 h4 h5 h6 h7 h8 h9 hXu
      obtain ⟨LL, hLL⟩ : ∃ q, ((i0 : Int), f0) :: L' = q := ⟨_, rfl⟩
      rw [hLL] at hRLH hFwH hqH
      clear hLL
      go_wp2_with fail
      go_quiet (fail)
      go_wp2_with fail
      go_quiet (fail)
      go_wp2_with fail
      go_loopw [12, 13, 14] (fun a t i wr => ∃ (j u : Nat), j ≤ q ∧ i = .int .i64 j ∧ a = .int .i64 (u : Int) ∧ t = .int .i64 (lab D u) ∧ Hid (Fw N D u (LL.drop j) p) ∧ Hid (Below w6.heap.size w6 wr)) (fun _ _ i _ => q - (intOf i).toNat)
      case atStart => exact ⟨0, u, Nat.zero_le _, rfl, rfl, by rw [hxu.out], hFwH, below_drewQ (Below.refl _ _) _⟩
      case round =>
        clear y0 y1 y2 c0 c1 c2 c3 c4 c5' c6 g1 g2 e4 e5 e5' hiI huI
        obtain ⟨j, u', hj, rfl, rfl, rfl, hF, hb⟩ := hrel
        have hbw := Lib.hid (hb16.out.trans (hb.out.mono hb16.out.size))
        obtain ⟨y0, y1, y2⟩ := hX.out _ hbw.out
        by_cases hlt3 : j < q
        · obtain ⟨bL', oL', v1, v2, e9, hbL', hLj, g1, g2⟩ := (hRLH.out.below hb.out).pair hlt3
          cases e9
          have hF' := hF.out
          rw [drop_at hLj] at hF'
          have hjI : (j : Int) < (q : Int) := by omega
          clear hLj
          cases hF' with
          | @step _ b1 i _ _ l _ h1 h2 h3 h4 h5 h6 h7 h8 h9 =>
            have h9 := Lib.hid h9
            have him' : i < m := by have := (List.getElem?_eq_some_iff.1 h1).1; have := hmm.out; omega
            obtain ⟨l', hl', b', o', pA, pn, pc, kA, kn, kc, e9, hbl', _, _, c0, c1, c2, c3, c4, c5', c6⟩ := (hR.out.below hbw.out).lnk him'
            cases e9
            rw [h1] at hl'; cases hl'
            have hM : Hid (∀ U, Below wr.heap.size wr U → Calls Try.prog 31 #[.agg #[.int .i64 hz, .slice A n c, .slice (some ⟨b, o, none⟩) m d], .int .i64 (i : Int), .int .i64 v2] U fun e w' => e = .returned (.bool true) ∧ Below U.heap.size U w') := fun U hU => by
              have := rmay_ok (c := c) (d := d) hs.out hN.out h1 v2 (by omega) U ((hR.out.below hbw.out).below hU)
              rwa [hhzH.out, h6] at this
            have hzr := hN.out.hz
            rw [hhzH.out] at hzr h8
            rw [h2] at c0
            rw [h3] at c1
            obtain ⟨tu, htu⟩ : ∃ q, lab D u' = q := ⟨_, rfl⟩
            obtain ⟨tb, htb⟩ : ∃ q, lab D b1 = q := ⟨_, rfl⟩
            rw [htu] at h4 h5 ⊢
            rw [htb] at h7
            have htbH := Lib.hid htb
            obtain ⟨la, lb, ln, ld, lo, op, cl⟩ := l
            simp only at c0 c1 c2 c3 c4 h7 h8
            have e4 : decide ((i : Int) < 0) = false := decide_eq_false (by omega)
            have e5 : decide ((m : Int) ≤ (i : Int)) = false := decide_eq_false (by omega)
            have e5' : decide (m ≤ i) = false := decide_eq_false (by omega)
            have e7 : decide (v2 < tu) = false := decide_eq_false (by omega)
            have hiI : (i : Int) < (m : Int) := by omega
            have hf0 : 0 ≤ v2 := by omega
            have htb1 : tb ≤ 1099511627776 := by omega
            have htb0 : 0 ≤ tb := by have := (okL_iff.1 (hN.out.lk _ (List.mem_of_getElem? h1))).2.2.2.1; simp only at this; omega
            have hbnr : bn < wr.heap.size := by have := hbw.out.size; omega
            clear h1 h2 h3 h6 htu htb hF
            go_upto_region 24 with fail
            refine wp_region_below wr.heap.size (by kernel_rfl) (by kernel_rfl) ?_
            intro C hC
            repeat (go_big_quiet_step (first
              | ((intro _; with_reducible rfl))
              | (intro hc; have m0 := (hc.cell (p := ⟨bn, _, none⟩) hbnr).trans y0; have m1 := (hc.cell (p := ⟨bn, _, none⟩) hbnr).trans y1; have m2 := (hc.cell (p := ⟨bn, _, none⟩) hbnr).trans y2; simp only [m0, m1, m2, Result.andThen]; exact ⟨trivial, rfl⟩)
              | (intro hc; have m0 := (hc.cell (p := ⟨b, _, none⟩) hbl').trans c0; simp only [m0, Result.andThen]; exact ⟨trivial, rfl⟩)
              | (intro hc; have m0 := (hc.cell (p := ⟨bL, _, none⟩) hbL').trans g2; simp only [m0, Result.andThen]; exact ⟨trivial, rfl⟩)
              | (intro hc; with_reducible refine (hM.out _ hc).mono ?_; rintro e w'' ⟨rfl, hb⟩; exact ⟨rfl, hc.trans (hb.mono hc.size)⟩)))
            refine wpQuiet_nil ?_
            intro w10 hb10
            clear hC
            replace y1 := (hb10.cell (p := ⟨bn, _, none⟩) hbnr).trans y1
            replace y2 := (hb10.cell (p := ⟨bn, _, none⟩) hbnr).trans y2
            replace c1 := (hb10.cell (p := ⟨b, _, none⟩) hbl').trans c1
            replace c2 := (hb10.cell (p := ⟨b, _, none⟩) hbl').trans c2
            replace g2 := (hb10.cell (p := ⟨bL, _, none⟩) hbL').trans g2
            have hbx2 := Lib.hid (hb.out.trans (hb10.mono hb.out.size))
            go_wp2_with fail
            go_quiet (fail)
            go_wp2_with fail
            go_roundw
            case rel => exact ⟨j + 1, b1, by omega, by go_num, rfl, by rw [htbH.out], h9, below_drewQ hbx2.out _⟩
            case measure => simp [intOf]; omega
        · have hF' := hF.out
          rw [List.drop_eq_nil_of_le (by rw [hqH.out]; omega)] at hF'
          obtain rfl : u' = p := by cases hF'; rfl
          rw [hlH.out]
          replace fp := (hb.out.cell (p := ⟨bD, _, none⟩) hbD).trans fp
          clear hF'
          go_wp2_with fail
          go_returns
          exact ⟨rfl, hup.out _ hbw.out⟩
end Go.Proofs.Ytonkkibnigdfbaa
