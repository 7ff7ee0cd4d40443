/-
  Walk: timetablelaw15.SpreadMore answers true (gen13.py).
-/
import Derived.Test.YtonkkibnigdfbaaPick15
import Derived.Test.YtonkkibnigdfbaaMoreLaw
namespace Go.Proofs.Ytonkkibnigdfbaa
open Go.RowKit Go.Shelf B K
set_option linter.unusedVariables false
set_option linter.unusedSimpArgs false
set_option maxHeartbeats 4000000
set_option maxRecDepth 100000 in
theorem more_any {N : NetP} {A : Option Addr} {n c : Nat} {B : Option Addr} {m d : Nat} (Ax : Option Addr) (nx cx : Nat) (X : List Int) (a b long t : Int) (w : World)
    (hr : RNet w N A n B m) (hrx : Rd w 1 (numE .i64) Ax nx X) (ha : -9223372036854775808 ≤ a ∧ a ≤ 9223372036854775807) (hb0 : -9223372036854775808 ≤ b ∧ b ≤ 9223372036854775807) :
    Calls Try.prog 5 #[.agg #[.int .i64 N.hz, .slice A n c, .slice B m d], .slice Ax nx cx, .int .i64 a, .int .i64 b, .int .i64 long, .int .i64 t] w fun e w' => e = .returned (.bool true) ∧ Below w.heap.size w w' := by
  obtain ⟨hz, hhz⟩ : ∃ q, N.hz = q := ⟨_, rfl⟩
  rw [hhz]
  have hb1 : Below w.heap.size w (w.alloc (.cells #[.int .i64 hz, .slice A n c, .slice B m d] 25)) := (Below.refl _ w).alloc (Nat.le_refl _) _
  obtain ⟨x0, x1, x2⟩ := rowBx3 w 25 (.int .i64 hz) (.slice A n c) (.slice B m d)
  have hbn1 : w.heap.size < (w.alloc (.cells #[.int .i64 hz, .slice A n c, .slice B m d] 25)).heap.size := by simp
  obtain ⟨w1, hw1⟩ : ∃ q, w.alloc (.cells #[.int .i64 hz, .slice A n c, .slice B m d] 25) = q := ⟨_, rfl⟩
  rw [hw1] at hb1 x0 x1 x2 hbn1
  have hup : Hid (∀ w2, Below w1.heap.size w1 w2 → Below w.heap.size w w2) := fun w2 h => hb1.trans (h.mono hb1.size)
  obtain ⟨bn, hbn⟩ : ∃ q, w.heap.size = q := ⟨_, rfl⟩
  rw [hbn] at x0 x1 x2 hbn1
  have hR := Lib.hid (hr.below hb1)
  have hX : Hid (∀ U, Below w1.heap.size w1 U → U.cell? ⟨bn, 0, none⟩ = some (.int .i64 hz) ∧ U.cell? ⟨bn, 1, none⟩ = some (.slice A n c) ∧ U.cell? ⟨bn, 2, none⟩ = some (.slice B m d)) := fun U hU =>
    ⟨(hU.cell (p := ⟨bn, 0, none⟩) hbn1).trans x0, (hU.cell (p := ⟨bn, 1, none⟩) hbn1).trans x1, (hU.cell (p := ⟨bn, 2, none⟩) hbn1).trans x2⟩
  have hhzH := Lib.hid hhz
  have hRx := Lib.hid (hrx.below hb1)
  clear hb1 hr hrx x0 x1 x2 hhz
  go_enter Try.func5, Try.ntmps5
  go_wp2_with fail
  refine (slives_any _).mono ?_; rintro e w2 ⟨rfl, hb2⟩
  obtain ⟨y0, y1, y2⟩ := hX.out _ hb2
  have hL := Lib.hid (lightNet_any (c := c) (d := d) (hz := hz) w2 (hR.out.below hb2))
  have hb2 := Lib.hid hb2
  rename_i hb20; clear hb20 hw1 hbn
  go_wp2_with fail
  refine hL.out.mono ?_; rintro e w3 ⟨b, rfl, hbt, hb3⟩
  have hb13 := hb2.out.trans (hb3.mono hb2.out.size)
  clear y0 y1 y2
  obtain ⟨y0, y1, y2⟩ := hX.out _ hb13
  cases b with
  | false =>
    go_wp2_with fail
    go_returns
    exact ⟨rfl, hup.out _ hb13⟩
  | true =>
    have hlt := Lib.hid (hbt rfl)
    have hs := Lib.hid (hlt.out.small (by omega) (by omega) (by omega))
    clear hbt
    by_cases h40 : 40 < nx
    · have d1 : decide ((40 : Int) < (nx : Int)) = true := decide_eq_true (by omega)
      have d1' : decide (40 < nx) = true := decide_eq_true h40
      go_wp2_with fail
      go_returns
      exact ⟨rfl, hup.out _ hb13⟩
    have d1 : decide ((40 : Int) < (nx : Int)) = false := decide_eq_false (by omega)
    have d1' : decide (40 < nx) = false := decide_eq_false h40
    by_cases h2 : nx < 2
    · have d2 : decide ((nx : Int) < 2) = true := decide_eq_true (by omega)
      have d2' : decide (nx < 2) = true := decide_eq_true h2
      go_wp2_with fail
      go_returns
      exact ⟨rfl, hup.out _ hb13⟩
    have d2 : decide ((nx : Int) < 2) = false := decide_eq_false (by omega)
    have d2' : decide (nx < 2) = false := decide_eq_false h2
    have hC1 := Lib.hid (scheck_any (c := c) (d := d) (ca := cx) hs.out w3 (hR.out.below hb13) (hRx.out.below hb13) (by omega))
    rw [hhzH.out] at hC1
    have hb13h := Lib.hid hb13
    clear hb13
    go_wp2_with fail
    refine hC1.out.mono ?_; rintro e w4 ⟨rfl, hb4⟩
    have hb14 := hb13h.out.trans (hb4.mono hb13h.out.size)
    clear y0 y1 y2 hC1
    obtain ⟨y0, y1, y2⟩ := hX.out _ hb14
    by_cases hcx : sckN N X = 0
    rotate_left
    · have d3 : (sckN N X != 0) = true := by simp [hcx]
      clear hcx
      go_wp2_with fail
      go_returns
      exact ⟨rfl, hup.out _ hb14⟩
    obtain ⟨hN, hkx⟩ := sck_iff.1 hcx
    rw [hcx]
    replace hN := Lib.hid hN
    replace hkx := Lib.hid hkx
    clear hcx
    obtain rfl : n = nx := by
      have h1 := hkx.out.1
      have h2 := hRx.out.len
      have h3 := hR.out.nn
      omega
    have hn40 : n ≤ 40 := by omega
    have hxl : Hid (X.length = n) := hRx.out.len
    have hnn : Hid (N.cs.length = n) := hR.out.nn
    have hnb : ((n : Int) != (n : Int)) = false := by simp
    have hmm : Hid (N.ls.length = m) := hR.out.mm
    have hm40 : m ≤ 40 := by have := hlt.out.ln; have := hmm.out; omega
    by_cases q1 : long < 1
    · have e1 : decide (long < 1) = true := decide_eq_true q1
      go_wp2_with fail
      go_returns
      exact ⟨rfl, hup.out _ hb14⟩
    have e1 : decide (long < 1) = false := decide_eq_false q1
    by_cases q2 : 1099511627776 < long
    · have e2 : decide (1099511627776 < long) = true := decide_eq_true q2
      go_wp2_with fail
      go_returns
      exact ⟨rfl, hup.out _ hb14⟩
    have e2 : decide (1099511627776 < long) = false := decide_eq_false q2
    by_cases q3 : t < 0
    · have e3 : decide (t < 0) = true := decide_eq_true q3
      go_wp2_with fail
      go_returns
      exact ⟨rfl, hup.out _ hb14⟩
    have e3 : decide (t < 0) = false := decide_eq_false q3
    by_cases q4 : hz < t
    · have e4 : decide (hz < t) = true := decide_eq_true q4
      go_wp2_with fail
      go_returns
      exact ⟨rfl, hup.out _ hb14⟩
    have e4 : decide (hz < t) = false := decide_eq_false q4
    have hn2 : 2 ≤ n := by omega
    have hP := Lib.hid (pick_any a n w4 (by omega) ha)
    have hb14h := Lib.hid hb14
    clear hb14 hb3 hb4
    go_wp2_with fail
    refine hP.out.mono ?_; rintro e w5 ⟨p, rfl, hpn, hb5⟩
    have hpn2 : p < n := by omega
    have hP2 := Lib.hid (pick_any b ((n : Int) - 1) w5 (by omega) hb0)
    have hb15h := Lib.hid (hb14h.out.trans (hb5.mono hb14h.out.size))
    have hwn : IntKind.i64.wrap ((n : Int) - 1) = (n : Int) - 1 := by rw [IntKind.wrap_i64]; omega
    clear hP hb5
    go_wp2_with fail
    refine hP2.out.mono ?_; rintro e w6 ⟨r, rfl, hrn, hb6⟩
    have hb16h := Lib.hid (hb15h.out.trans (hb6.mono hb15h.out.size))
    obtain ⟨s, hsv, hsn, hsp⟩ : ∃ s : Nat, ((p : Int) + 1 + (r : Int)).tmod (n : Int) = (s : Int) ∧ s < n ∧ p ≠ s := by
      have h1 : ((p : Int) + 1 + (r : Int)).tmod (n : Int) = (((p + 1 + r) % n : Nat) : Int) := by
        rw [Int.tmod_eq_emod_of_nonneg (by omega), Int.natCast_emod, show ((p + 1 + r : Nat) : Int) = (p : Int) + 1 + (r : Int) by omega]
      refine ⟨(p + 1 + r) % n, h1, Nat.mod_lt _ (by omega), fun h => ?_⟩
      have hrn2 : r + 1 < n := by omega
      rcases Nat.lt_or_ge (p + 1 + r) n with h3 | h3
      · rw [Nat.mod_eq_of_lt h3] at h; omega
      · rw [Nat.mod_eq_sub_mod h3, Nat.mod_eq_of_lt (by omega)] at h; omega
    have hws : IntKind.i64.wrap (s : Int) = s := by rw [IntKind.wrap_i64]; omega
    have hwq : IntKind.i64.wrap ((p : Int) + 1) = (p : Int) + 1 := by rw [IntKind.wrap_i64]; omega
    have hwr : IntKind.i64.wrap ((p : Int) + 1 + (r : Int)) = (p : Int) + 1 + (r : Int) := by rw [IntKind.wrap_i64]; omega
    have hn0 : (n : Int) ≠ 0 := by omega
    have hON := Lib.hid (ownNet_any (c := c) (d := d) hs.out w6 (hR.out.below hb16h.out))
    rw [hhzH.out] at hON
    obtain ⟨y0, y1, y2⟩ := hX.out _ hb16h.out
    clear hP2 hb6 hb14h hb15h
    rw [hnn.out, hmm.out] at hON
    go_wp2_with fail
    refine hON.out.mono ?_; rintro e w7 ⟨⟨sCA, sCc⟩, ⟨sLA, sLc⟩, cv, lv, rfl, hC, hL, hb7⟩
    simp only [slV] at hC hL ⊢
    have hb17 := hb16h.out.trans (hb7.mono hb16h.out.size)
    have ha8 : Below w7.heap.size w7 (w7.alloc (.cells #[.int .i64 hz, .slice sCA n sCc, .slice sLA m sLc] 25)) := (Below.refl _ w7).alloc (Nat.le_refl _) _
    have hm8 := heap_alloc_new w7 (.cells #[.int .i64 hz, .slice sCA n sCc, .slice sLA m sLc] 25)
    obtain ⟨w8, hw8⟩ : ∃ q, w7.alloc (.cells #[.int .i64 hz, .slice sCA n sCc, .slice sLA m sLc] 25) = q := ⟨_, rfl⟩
    rw [hw8] at ha8 hm8
    obtain ⟨bm, hbm⟩ : ∃ q, w7.heap.size = q := ⟨_, rfl⟩
    rw [hbm] at hm8
    have hb68 := hb7.trans (ha8.mono hb7.size)
    have hL8 := hL.up ha8
    have hC8 := hC.up ha8
    obtain ⟨g, cc, w9, hrun, hL9, hb9, hk9⟩ := hL8.push (newLk p s long, (none, 0), (none, 0)) ⟨OwnR.nil, OwnR.nil⟩ (by have := hmm.out; omega) hb68.size
    rw [hmm.out] at hrun hL9
    simp only [lkE, slV, newLk, List.length_nil] at hrun
    have hm9 := hk9 bm _ 25 (by decide) hm8
    obtain ⟨⟨fz0, fz1, fz2⟩, _⟩ := setN3 (.int .i64 0) (.int .i64 0) (.int .i64 0) hm9
    have p8 : w8.cell? ⟨bm, 2, none⟩ = some (.slice sLA m sLc) := by rw [cell_of_row _ _ _ _ _ _ hm8]; rfl
    have p9 : w9.cell? ⟨bm, 2, none⟩ = some (.slice sLA m sLc) := by rw [cell_of_row _ _ _ _ _ _ hm9]; rfl
    have hkS : KeepT w9 (w9.setCell ⟨bm, 2, none⟩ (.slice (some ⟨g, 0, none⟩) (m + 1) cc)) [38, 36, 70] := KeepT.set hm9 (by decide)
    have hC10 := (hC8.keepT (hk9.sub (by decide))).keepT (hkS.sub (by decide))
    have hL10 := hL9.keepT (hkS.sub (by decide))
    have hm10 : (w9.setCell ⟨bm, 2, none⟩ (.slice (some ⟨g, 0, none⟩) (m + 1) cc)).heap[bm]? = some (.cells #[.int .i64 hz, .slice sCA n sCc, .slice (some ⟨g, 0, none⟩) (m + 1) cc] 25 (0, 0)) := by
      have hlt' := (Array.getElem?_eq_some_iff.1 hm9).1
      have e : w9.heap[bm] = .cells #[.int .i64 hz, .slice sCA n sCc, .slice sLA m sLc] 25 (0, 0) := by rw [Array.getElem?_eq_getElem hlt'] at hm9; exact Option.some.inj hm9
      simp [World.setCell, hlt', Array.getElem_modify, e]
    have hbmw : w6.heap.size ≤ bm := by rw [← hbm]; exact hb7.size
    have hb610 := (hb68.trans hb9).setCell (p := ⟨bm, 2, none⟩) hbmw (.slice (some ⟨g, 0, none⟩) (m + 1) cc)
    have hRM10 : RNet (w9.setCell ⟨bm, 2, none⟩ (.slice (some ⟨g, 0, none⟩) (m + 1) cc)) (addL N (newLk p s long)) sCA n (some ⟨g, 0, none⟩) (m + 1) := CsV.rnet2 (N := addL N (newLk p s long)) hC10 hL10
    obtain ⟨w10, hw10⟩ : ∃ q, w9.setCell ⟨bm, 2, none⟩ (.slice (some ⟨g, 0, none⟩) (m + 1) cc) = q := ⟨_, rfl⟩
    rw [hw10] at hm10 hb610 hRM10
    have hb110 := Lib.hid (hb16h.out.trans (hb610.mono hb16h.out.size))
    have hRMh := Lib.hid hRM10
    have hbm10 : Hid (bm < w10.heap.size) := (Array.getElem?_eq_some_iff.1 hm10).1
    have hM : Hid (∀ U, Below w10.heap.size w10 U → U.cell? ⟨bm, 0, none⟩ = some (.int .i64 hz) ∧ U.cell? ⟨bm, 1, none⟩ = some (.slice sCA n sCc) ∧ U.cell? ⟨bm, 2, none⟩ = some (.slice (some ⟨g, 0, none⟩) (m + 1) cc)) := fun U hU => by
      have h1 := (hU.block bm hbm10.out).trans hm10
      exact ⟨by rw [cell_of_row _ _ _ _ _ _ h1]; rfl, by rw [cell_of_row _ _ _ _ _ _ h1]; rfl, by rw [cell_of_row _ _ _ _ _ _ h1]; rfl⟩
    have hN' : Hid (OkN (addL N (newLk p s long))) := addL_ok hN.out (newLk_ok (by rw [hnn.out]; exact hpn2) (by rw [hnn.out]; exact hsn) hsp (by omega) (by omega)) (by rw [hmm.out]; omega)
    have hsM : Hid (Small (addL N (newLk p s long))) := addL_small hlt.out (by simp [newLk]) (by simp [newLk])
    have hhzM : Hid ((addL N (newLk p s long)).hz = hz) := hhzH.out
    obtain ⟨M, hMe⟩ : ∃ q, addL N (newLk p s long) = q := ⟨_, rfl⟩
    rw [hMe] at hN' hsM hhzM hRMh
    have hMeH := Lib.hid hMe
    have hkM : Hid (LabsOk M X) := by rw [← hMe]; exact more_labs hkx.out
    obtain ⟨y0', y1', y2'⟩ := hX.out _ hb110.out
    have hA1 := Lib.hid (all_ok (c := c) (d := d) (ca := cx) hs.out (hR.out.below hb110.out) (hRx.out.below hb110.out) hN.out hkx.out)
    rw [hhzH.out] at hA1
    clear hC hL hb17 ha8 hm8 hb68 hL8 hC8 hL9 hb9 hk9 hm9 hkS hC10 hL10 hm10 hbmw hb610 hRM10 hMe hb7 hON y0 y1 y2
    go_wp2_with (at_builtin; refine wpList_append_run ?a1 (.tmp 85) (.tmp 90) 23 ?a2 ?a3 ?a4 hrun ?_)
    case a1 => rfl
    case a2 => rfl
    try (case a3 => rfl)
    try (case a4 => rfl)
    refine hA1.out.mono ?_; rintro e w11 ⟨A11, c11, D, V11, v11, rfl, hS, hI11, _, _, _, _, _, hb11⟩
    clear hw10 hw8 hbm hrun p8 p9 fz0 fz1 fz2 hA1 y0' y1' y2'
    have hb1011 := Lib.hid hb11
    have hb111 := Lib.hid (hb110.out.trans (hb11.mono hb110.out.size))
    have hSh := Lib.hid hS
    have hE11 := Lib.hid hI11.rd
    obtain ⟨x0, x1, x2⟩ := hM.out _ hb11
    have hA2 := Lib.hid (all_ok (N := M) (c := sCc) (d := cc) (ca := cx) hsM.out (hRMh.out.below hb11) (hRx.out.below hb111.out) hN'.out hkM.out)
    rw [hhzM.out] at hA2
    clear hS hI11 hb11
    go_wp2_with fail
    refine hA2.out.mono ?_; rintro e w12 ⟨A12, c12, D', V12, v12, rfl, hS', hI12, _, _, _, _, _, hb12⟩
    have hb1012 := Lib.hid (hb1011.out.trans (hb12.mono hb1011.out.size))
    have hb112 := Lib.hid (hb111.out.trans (hb12.mono hb111.out.size))
    have hSh' := Lib.hid hS'
    have hE12 := Lib.hid hI12.rd
    have hE11' := Lib.hid (hE11.out.below hb12)
    have hmk := makeT n w12 (by omega)
    have hr13 := madeT_row w12 n
    have hb13' : Below w12.heap.size w12 (w12.alloc (.cells (madeCells #[.int .i64 0] n) 2)) := (Below.refl _ w12).alloc (Nat.le_refl _) _
    obtain ⟨w13, hw13⟩ : ∃ q, w12.alloc (.cells (madeCells #[.int .i64 0] n) 2) = q := ⟨_, rfl⟩
    obtain ⟨ga, hga⟩ : ∃ q, w12.heap.size = q := ⟨_, rfl⟩
    rw [hw13, hga] at hmk hr13
    rw [hw13] at hb13'
    have hr13h := Lib.hid hr13
    have hb13h' := Lib.hid hb13'
    have hgah := Lib.hid hga
    clear hS' hI12 hb12 hA2 x0 x1 x2 hr13 hb13' hE11 hga
    go_wp2_with fail
    go_loopw [21] (fun i wr => ∃ (k : Nat), k ≤ n ∧ i = .int .i64 k ∧ Hid (RowI wr ga (some ⟨ga, 0, none⟩) n (fillK n k)) ∧ Hid (Below w12.heap.size w12 wr)) (fun i _ => n - (intOf i).toNat)
    case atStart => exact ⟨0, Nat.zero_le _, rfl, by simpa [fillK] using hr13h, hb13h'⟩
    case round =>
      clear hmk hw13 hr13h hb13h'
      obtain ⟨k, hk, rfl, hrw, hb⟩ := hrel
      have hgle : w12.heap.size ≤ ga := by rw [hgah.out]; exact Nat.le_refl _
      by_cases hlt2 : k < n
      · obtain ⟨g', e, q9, f9⟩ := hrw.out.at_ (fillK_at hlt2)
        cases e
        have hset := hrw.out.set (y := W.inf) (fillK_at hlt2)
        rw [fillK_set hlt2] at hset
        have hseth := Lib.hid hset
        have hbs := Lib.hid (hb.out.setCell (p := ⟨ga, k, none⟩) hgle (.int .i64 W.inf))
        have hkI : (k : Int) < (n : Int) := by omega
        clear hset hrw hb
        go_wp2_with fail
        go_roundw
        case rel => exact ⟨k + 1, by omega, by go_num, hseth, hbs⟩
        case measure => simp [intOf]; omega
      obtain rfl : k = n := by omega
      have hrw' := hrw.out
      rw [fillK_all] at hrw'
      have hpi : (List.replicate k W.inf)[p]? = some W.inf := by rw [List.getElem?_replicate, if_pos hpn2]
      obtain ⟨g', e, q9, f9⟩ := hrw'.at_ hpi
      cases e
      have hset : RowI (wr.setCell ⟨ga, p, none⟩ (.int .i64 t)) ga (some ⟨ga, 0, none⟩) k (single k p t) := hrw'.set (y := t) hpi
      have hbs := hb.out.setCell (p := ⟨ga, p, none⟩) hgle (.int .i64 t)
      obtain ⟨w14, hw14⟩ : ∃ q, wr.setCell ⟨ga, p, none⟩ (.int .i64 t) = q := ⟨_, rfl⟩
      rw [hw14] at hset hbs
      have hseth := Lib.hid hset
      have hb1014 := Lib.hid (hb1012.out.trans (hbs.mono hb1012.out.size))
      have hb1214 := Lib.hid hbs
      obtain ⟨x0, x1, x2⟩ := hM.out _ hb1014.out
      have hMcs : Hid (M.cs.length = k) := by rw [← hMeH.out]; exact hnn
      have hF := Lib.hid (sfrom_ok (N := M) (c := sCc) (d := cc) (s := p) (t := t) hsM.out (hRMh.out.below hb1014.out) hN'.out hpn2 (by rw [hhzM.out]; omega))
      rw [hhzM.out] at hF
      have hpI : (p : Int) < (k : Int) := by omega
      have hsI : (s : Int) < (k : Int) := by omega
      clear hset hbs hrw hrw' hb hpi
      go_wp2_with fail
      clear hw14
      refine hF.out.mono ?_; rintro e w15 ⟨A15, c15, E, rfl, hS15, hI15, _, _, hb15⟩
      have hb1015 := Lib.hid (hb1014.out.trans (hb15.mono hb1014.out.size))
      have hb1215 := Lib.hid (hb1214.out.trans (hb15.mono hb1214.out.size))
      have hE15 := Lib.hid hI15.rd
      have hS15h := Lib.hid hS15
      clear x0 x1 x2
      obtain ⟨x0, x1, x2⟩ := hM.out _ hb1015.out
      have hkS : LabsOk M (single k p t) := by
        have := single_ok (N := M) (s := p) (t := t) (by rw [hMcs.out]; exact hpn2) (by rw [hhzM.out]; omega)
        rwa [hMcs.out] at this
      have hA3 := Lib.hid (all_ok (N := M) (c := sCc) (d := cc) (ca := k) hsM.out (hRMh.out.below hb1015.out) (hseth.out.below hb15).rd hN'.out hkS)
      rw [hhzM.out] at hA3
      clear hS15 hI15 hb15 hF hkS
      go_wp2_with fail
      refine hA3.out.mono ?_; rintro e w16 ⟨A16, c16, E', V16, v16, rfl, hS16, hI16, _, _, _, _, _, hb16⟩
      obtain rfl : E = E' := hS15h.out.uniq hS16
      have hb1216 := Lib.hid (hb1215.out.trans (hb16.mono hb1215.out.size))
      have hb116 := Lib.hid (hb112.out.trans (hb1216.out.mono hb112.out.size))
      have hSm := Lib.hid (sameT_any A15 k c15 E A16 k c16 E w16 (hE15.out.below hb16) hI16.rd (by omega) (by omega))
      rw [decide_eq_true rfl] at hSm
      have hE12b := Lib.hid (hE12.out.below hb1216.out)
      have hE11b := Lib.hid (hE11'.out.below hb1216.out)
      clear hS16 hI16 hb16 x0 x1 x2 hA3 q9 f9
      go_wp2_with fail
      refine hSm.out.mono ?_; rintro e w17 ⟨rfl, hb17⟩
      have hb117 := Lib.hid (hb116.out.trans (hb17.mono hb116.out.size))
      have hE12c := Lib.hid (hE12b.out.below hb17)
      have hE11c := Lib.hid (hE11b.out.below hb17)
      have hle1 : Hid (∀ i, lab D' i ≤ lab D i) := by
        have h := hSh'.out
        rw [← hMeH.out] at h
        exact more_le hSh.out h
      clear hb17 hSm hE12b hE11b
      go_wp2_with fail
      go_loopw [27] (fun i wr => ∃ (j : Nat), j ≤ k ∧ i = .int .i64 j ∧ Hid (Below w17.heap.size w17 wr)) (fun i _ => k - (intOf i).toNat)
      case atStart => exact ⟨0, Nat.zero_le _, rfl, Below.refl _ _⟩
      case round =>
        obtain ⟨j, hj, rfl, hb⟩ := hrel
        have hbw := Lib.hid (hb117.out.trans (hb.out.mono hb117.out.size))
        by_cases hlt3 : j < k
        · obtain ⟨bD, oD, td, rfl, hbD, hDj, fd⟩ := (hE11c.out.below hb.out).num hlt3
          obtain ⟨bE, oE, te, rfl, hbE, hEj, fe⟩ := (hE12c.out.below hb.out).num hlt3
          obtain ⟨bX, oX, tx, rfl, hbX, hXj, fx⟩ := (hRx.out.below hbw.out).num hlt3
          have h1 := hle1.out j
          rw [lab_at hDj, lab_at hEj] at h1
          have h2 := hSh.out.le j
          rw [lab_at hDj, lab_at hXj] at h2
          have e5 : decide (td < te) = false := decide_eq_false (by omega)
          have e6 : decide (tx < td) = false := decide_eq_false (by omega)
          have hjI : (j : Int) < (k : Int) := by omega
          clear hDj hEj hXj
          go_wp2_with fail
          go_quiet (fail)
          go_wp2_with fail
          go_roundw
          case rel => exact ⟨j + 1, by omega, by go_num, below_drewQ hb.out _⟩
          case measure => simp [intOf]; omega
        · obtain ⟨y0, y1, y2⟩ := hX.out _ hbw.out
          obtain ⟨bc, oc, sA, sn, sc, S, rfl, hbs, hxS, c0, rs, _⟩ := (hR.out.below hbw.out).clo hpn2
          obtain ⟨bE, oE, te, rfl, hbE, hEp, fe⟩ := (hE12c.out.below hb.out).num hpn2
          obtain ⟨bE', oE', ts, e9, _, hEs, fs⟩ := (hE12c.out.below hb.out).num hsn
          cases e9
          have hrsl := rs.len
          have hzr := hN.out.hz
          rw [hhzH.out] at hzr
          have hlast : Hid (sn = 0 → te < W.inf → te ≤ hz - long → ts ≤ te + long) := fun h1 h2 h3 => by
            have h := hSh'.out
            rw [← hMeH.out] at h
            obtain rfl : S = [] := List.eq_nil_of_length_eq_zero (by omega)
            have hN'' := hN'.out
            rw [← hMeH.out] at hN''
            have := more_new hN'' h hxS (by rw [lab_at hEp]; omega) (by rw [lab_at hEp, hhzH.out]; omega)
            rwa [lab_at hEp, lab_at hEs] at this
          have hte0 : Hid (te < W.inf → 0 ≤ te) := fun h => by
            have := (hSh'.out.ok.fin (s := p) (by rw [lab_at hEp]; omega)).1
            rwa [lab_at hEp] at this
          have hts : Hid (ts ≤ W.inf) := by
            have h9 := inf_big
            have h := hSh'.out.ok.at s
            have h3 := hhzM.out
            rw [lab_at hEs] at h
            show _ ≤ _
            omega
          clear hEp hEs hxS rs hrsl
          by_cases z1 : sn = 0
          · have i1 : ((sn : Int) == 0) = true := by simp [z1]
            have i1' : (sn == 0) = true := by simp [z1]
            by_cases z2 : te < 4611686018427387904
            · have i2 : decide (te < 4611686018427387904) = true := decide_eq_true z2
              have hte := hte0.out z2
              by_cases z3 : te ≤ hz - long
              · have i3 : decide (te ≤ hz - long) = true := decide_eq_true z3
                have hfin := hlast.out z1 z2 z3
                have i4 : decide (ts ≤ te + long) = true := decide_eq_true hfin
                clear hlast hte0 hts z1
                go_wp2_with fail
                go_quiet (fail)
                go_wp2_with fail
                go_quiet (fail)
                go_wp2_with fail
                go_returns
                exact ⟨rfl, below_drewQ (below_drewQ (hup.out _ hbw.out) _) _⟩
              · have i3 : decide (te ≤ hz - long) = false := decide_eq_false z3
                clear hlast hte0 hts z1
                go_wp2_with fail
                go_quiet (fail)
                go_wp2_with fail
                go_returns
                exact ⟨rfl, below_drewQ (hup.out _ hbw.out) _⟩
            · have i2 : decide (te < 4611686018427387904) = false := decide_eq_false z2
              clear hlast hte0 hts z1
              go_wp2_with fail
              go_quiet (fail)
              go_wp2_with fail
              go_returns
              exact ⟨rfl, below_drewQ (hup.out _ hbw.out) _⟩
          · have i1 : ((sn : Int) == 0) = false := by simp [z1]
            have i1' : (sn == 0) = false := by simp [z1]
            clear hlast hte0 hts
            go_wp2_with fail
            go_quiet (fail)
            go_wp2_with fail
            go_returns
            exact ⟨rfl, below_drewQ (hup.out _ hbw.out) _⟩
end Go.Proofs.Ytonkkibnigdfbaa
