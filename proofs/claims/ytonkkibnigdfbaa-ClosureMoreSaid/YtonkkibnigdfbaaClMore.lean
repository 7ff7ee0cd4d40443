/-
  Walk: timetablelaw14.ClosureMore answers true (clo/gen11.py).
-/
import Derived.Test.YtonkkibnigdfbaaClMoreP
import Derived.Test.YtonkkibnigdfbaaClLives
import Derived.Test.YtonkkibnigdfbaaClLen
import Derived.Test.YtonkkibnigdfbaaPick15
namespace Go.Proofs.Ytonkkibnigdfbaa
open Go.RowKit Go.Shelf B K
set_option linter.unusedVariables false
set_option linter.unusedSimpArgs false
set_option maxHeartbeats 4000000
def pickV (a m : Int) : Int := if a.tmod m < 0 then a.tmod m + m else a.tmod m
theorem pick_det (a m : Int) (w : World) (hm : 1 ≤ m ∧ m ≤ 1099511627776) (ha : -9223372036854775808 ≤ a ∧ a ≤ 9223372036854775807) :
    (0 ≤ pickV a m ∧ pickV a m < m) ∧ Calls Try.prog 21 #[.int .i64 a, .int .i64 m] w fun e w' => e = .returned (.int .i64 (pickV a m)) ∧ Below w.heap.size w w' := by
  have h0 : decide (m < 1) = false := decide_eq_false (by omega)
  have h1 : a.tmod m < m := Int.tmod_lt_of_pos a (by omega)
  have h2 : -m < a.tmod m := by
    rcases Int.le_total 0 a with h | h
    · have := Int.tmod_nonneg (b := m) h; omega
    · have h1 := Int.tmod_lt_of_pos (-a) (show (0 : Int) < m by omega)
      rw [Int.neg_tmod] at h1; omega
  unfold pickV
  obtain ⟨q, hq⟩ : ∃ q, a.tmod m = q := ⟨_, rfl⟩
  rw [hq] at h1 h2 ⊢
  have hm0 : m ≠ 0 := by omega
  have hw : IntKind.i64.wrap (a.tmod m) = q := by rw [hq]; exact IntWalk.i64_in _ (by omega)
  have hw2 : IntKind.i64.wrap q = q := IntWalk.i64_in _ (by omega)
  refine ⟨by split <;> omega, ?_⟩
  by_cases hneg : q < 0
  · rw [if_pos hneg]
    have hw3 : IntKind.i64.wrap (q + m) = q + m := IntWalk.i64_in _ (by omega)
    go_enter Try.func21, Try.ntmps21
    go_wp2_with fail
    go_returns
    exact ⟨rfl, Below.refl _ _⟩
  · rw [if_neg hneg]
    have hneg' : decide (q < 0) = false := decide_eq_false hneg
    go_enter Try.func21, Try.ntmps21
    go_wp2_with fail
    go_returns
    exact ⟨rfl, Below.refl _ _⟩
theorem own_win {w : World} {base : Nat} {x y : Int} {t : TypeId} {b : Nat} (h : w.heap[b]? = some (.cells #[.int .i64 x, .int .i64 y] 70 (0, 0))) (hb : base ≤ b) : OwnR w base (some ⟨b, 0, none⟩, 1) [(x, y)] := by
  refine ⟨⟨rfl, .inr ⟨b, 1, _, rfl, hb, h, Nat.le_refl _, by rw [maxLen_num]; omega, rfl, rfl⟩⟩, by simp, by simp⟩
set_option maxRecDepth 100000 in
theorem cmore_any {N : NetP} {A : Option Addr} {n c : Nat} {B : Option Addr} {m d : Nat} (a b long xf xt : Int) (w : World)
    (hr : RNet w N A n B m) (ha : -9223372036854775808 ≤ a ∧ a ≤ 9223372036854775807) (hb0 : -9223372036854775808 ≤ b ∧ b ≤ 9223372036854775807) :
    Calls Try.prog 12 #[.agg #[.int .i64 N.hz, .slice A n c, .slice B m d], .int .i64 a, .int .i64 b, .int .i64 long, .agg #[.int .i64 xf, .int .i64 xt]] w fun e w' => e = .returned (.bool true) ∧ Below w.heap.size w w' := by
  have hnn : Hid (N.cs.length = n) := hr.nn
  have hmm : Hid (N.ls.length = m) := hr.mm
  obtain ⟨hz, hhz⟩ : ∃ q, N.hz = q := ⟨_, rfl⟩
  rw [hhz]
  have hb1 : Below w.heap.size w (w.alloc (.cells #[.int .i64 hz, .slice A n c, .slice B m d] 25)) := (Below.refl _ w).alloc (Nat.le_refl _) _
  obtain ⟨x0, x1, x2⟩ := rowBx3 w 25 (.int .i64 hz) (.slice A n c) (.slice B m d)
  have hbn1 : w.heap.size < (w.alloc (.cells #[.int .i64 hz, .slice A n c, .slice B m d] 25)).heap.size := by simp
  obtain ⟨w1, hw1⟩ : ∃ q, w.alloc (.cells #[.int .i64 hz, .slice A n c, .slice B m d] 25) = q := ⟨_, rfl⟩
  rw [hw1] at hb1 x0 x1 x2 hbn1
  have hup : Hid (∀ w2, Below w1.heap.size w1 w2 → Below w.heap.size w w2) := fun w2 h => hb1.trans (h.mono hb1.size)
  obtain ⟨bn, hbn⟩ : ∃ q, w.heap.size = q := ⟨_, rfl⟩
  rw [hbn] at x0 x1 x2 hbn1
  have hR := Lib.hid (hr.below hb1)
  have hX : Hid (∀ U, Below w1.heap.size w1 U → U.cell? ⟨bn, 0, none⟩ = some (.int .i64 hz) ∧ U.cell? ⟨bn, 1, none⟩ = some (.slice A n c) ∧ U.cell? ⟨bn, 2, none⟩ = some (.slice B m d)) := fun U hU =>
    ⟨(hU.cell (p := ⟨bn, 0, none⟩) hbn1).trans x0, (hU.cell (p := ⟨bn, 1, none⟩) hbn1).trans x1, (hU.cell (p := ⟨bn, 2, none⟩) hbn1).trans x2⟩
  have hhzH := Lib.hid hhz
  clear hb1 hr x0 x1 x2 hhz
  have hxb : Below w1.heap.size w1 (w1.alloc (.cells #[.int .i64 xf, .int .i64 xt] 70)) := (Below.refl _ w1).alloc (Nat.le_refl _) _
  have hxn := heap_alloc_new w1 (.cells #[.int .i64 xf, .int .i64 xt] 70)
  obtain ⟨wx, hwx⟩ : ∃ q, w1.alloc (.cells #[.int .i64 xf, .int .i64 xt] 70) = q := ⟨_, rfl⟩
  rw [hwx] at hxb hxn
  obtain ⟨bx, hbx⟩ : ∃ q, w1.heap.size = q := ⟨_, rfl⟩
  rw [hbx] at hxn
  have hxbH := Lib.hid hxb
  have hBx : Hid (∀ U, Below wx.heap.size wx U → U.cell? ⟨bx, 0, none⟩ = some (.int .i64 xf) ∧ U.cell? ⟨bx, 1, none⟩ = some (.int .i64 xt)) := fun U hU => by
    have h1 := (hU.block bx (Array.getElem?_eq_some_iff.1 hxn).1).trans hxn
    exact ⟨by rw [cell_of_row _ _ _ _ _ _ h1]; rfl, by rw [cell_of_row _ _ _ _ _ _ h1]; rfl⟩
  have hupx : Hid (∀ w2, Below wx.heap.size wx w2 → Below w.heap.size w w2) := fun w2 h => hup.out _ (hxbH.out.trans (h.mono hxbH.out.size))
  have hRx := Lib.hid (hR.out.below hxb)
  have hXx : Hid (∀ U, Below wx.heap.size wx U → U.cell? ⟨bn, 0, none⟩ = some (.int .i64 hz) ∧ U.cell? ⟨bn, 1, none⟩ = some (.slice A n c) ∧ U.cell? ⟨bn, 2, none⟩ = some (.slice B m d)) := fun U hU => hX.out U (hxbH.out.trans (hU.mono hxbH.out.size))
  clear hup hR hX hxn hxb hbn1
  have hup := hupx
  have hR := hRx
  have hX := hXx
  clear hupx hRx hXx
  go_enter Try.func12, Try.ntmps12
  go_wp2_with fail
  refine (clives_any _).mono ?_; rintro e w2 ⟨rfl, hb2⟩
  obtain ⟨y0, y1, y2⟩ := hX.out _ hb2
  have hL := Lib.hid (lightNet_any (c := c) (d := d) (hz := hz) w2 (hR.out.below hb2))
  have hb2 := Lib.hid hb2
  rename_i hb20; clear hb20 hw1 hbn hwx hbx
  go_wp2_with fail
  refine hL.out.mono ?_; rintro e w3 ⟨b, rfl, hbt, hb3⟩
  have hb13 := hb2.out.trans (hb3.mono hb2.out.size)
  clear y0 y1 y2
  obtain ⟨y0, y1, y2⟩ := hX.out _ hb13
  cases b with
  | false =>
    go_wp2_with fail
    go_returns
    exact ⟨rfl, hup.out _ hb13⟩
  | true =>
    have hlt := Lib.hid (hbt rfl)
    have hs := Lib.hid (hlt.out.small (by omega) (by omega) (by omega))
    clear hbt
    have hn40 : n ≤ 1000 := by have := hs.out.cn; have := hnn.out; omega
    have hm40 : m ≤ 1000 := by have := hs.out.ln; have := hmm.out; omega
    have hK := Lib.hid (r11check_any (c := c) (d := d) hs.out w3 (hR.out.below hb13))
    rw [hhzH.out] at hK
    have hb13h := Lib.hid hb13
    clear hb13
    go_wp2_with fail
    refine hK.out.mono ?_; rintro e w4 ⟨rfl, hb4⟩
    have hb14 := hb13h.out.trans (hb4.mono hb13h.out.size)
    clear y0 y1 y2 hK
    obtain ⟨y0, y1, y2⟩ := hX.out _ hb14
    obtain ⟨z0, z1⟩ := hBx.out _ hb14
    rcases chkN_cases N with hk | hk
    rotate_left
    · rw [hk]
      clear hk
      go_wp2_with fail
      go_returns
      exact ⟨rfl, hup.out _ hb14⟩
    rw [hk]
    have hN := Lib.hid (chkN_iff.1 hk)
    have hkH := Lib.hid hk
    clear hk
    by_cases h2 : n < 2
    · have d2 : decide ((n : Int) < 2) = true := decide_eq_true (by omega)
      have d2' : decide (n < 2) = true := decide_eq_true h2
      go_wp2_with fail
      go_returns
      exact ⟨rfl, hup.out _ hb14⟩
    have d2 : decide ((n : Int) < 2) = false := decide_eq_false (by omega)
    have d2' : decide (n < 2) = false := decide_eq_false h2
    by_cases q1 : long < 1
    · have e_q1 : decide (long < 1) = true := decide_eq_true (by omega)
      go_wp2_with fail
      go_returns
      exact ⟨rfl, hup.out _ hb14⟩
    have e_q1 : decide (long < 1) = false := decide_eq_false (by omega)
    by_cases q2 : 1099511627776 < long
    · have e_q2 : decide (1099511627776 < long) = true := decide_eq_true (by omega)
      go_wp2_with fail
      go_returns
      exact ⟨rfl, hup.out _ hb14⟩
    have e_q2 : decide (1099511627776 < long) = false := decide_eq_false (by omega)
    by_cases q3 : xf < 0
    · have e_q3 : decide (xf < 0) = true := decide_eq_true (by omega)
      go_wp2_with fail
      go_returns
      exact ⟨rfl, hup.out _ hb14⟩
    have e_q3 : decide (xf < 0) = false := decide_eq_false (by omega)
    by_cases q4 : xt ≤ xf
    · have e_q4 : decide (xt ≤ xf) = true := decide_eq_true (by omega)
      go_wp2_with fail
      go_returns
      exact ⟨rfl, hup.out _ hb14⟩
    have e_q4 : decide (xt ≤ xf) = false := decide_eq_false (by omega)
    by_cases q5 : 1099511627776 < xt
    · have e_q5 : decide (1099511627776 < xt) = true := decide_eq_true (by omega)
      go_wp2_with fail
      go_returns
      exact ⟨rfl, hup.out _ hb14⟩
    have e_q5 : decide (1099511627776 < xt) = false := decide_eq_false (by omega)
    have hgx : Hid (W.good [(xf, xt)] = true) := by
      show W.goodF (-1) [(xf, xt)] = true
      rw [W.goodF_yes (by omega) (by omega) (by omega)]
      rfl
    have hlong : Hid (1 ≤ long ∧ long ≤ 1099511627776) := by show _ ∧ _; omega
    obtain ⟨hpr, hP0⟩ := pick_det a n w4 (by omega) ha
    have hP := Lib.hid hP0
    obtain ⟨p, hp⟩ : ∃ p : Nat, pickV a n = p := ⟨(pickV a n).toNat, by omega⟩
    rw [hp] at hpr hP
    have hpn2 : p < n := by omega
    have hb14h := Lib.hid hb14
    clear hb14 hb3 hb4 hP0 hp
    go_wp2_with fail
    refine hP.out.mono ?_; rintro e w5 ⟨rfl, hb5⟩
    have hb15h := Lib.hid (hb14h.out.trans (hb5.mono hb14h.out.size))
    clear y0 y1 y2 hP hb5 z0 z1
    obtain ⟨y0, y1, y2⟩ := hX.out _ hb15h.out
    have hbnr : bn < w5.heap.size := block_lt_of_cell y1
    have hrr := (pick_det b ((n : Int) - 1) w5 (by omega) hb0).1
    have hP2 : Hid (∀ U, Calls Try.prog 21 #[.int .i64 b, .int .i64 ((n : Int) - 1)] U fun e w' => e = .returned (.int .i64 (pickV b ((n : Int) - 1))) ∧ Below U.heap.size U w') := fun U => (pick_det b ((n : Int) - 1) U (by omega) hb0).2
    obtain ⟨r, hrv⟩ : ∃ r : Nat, pickV b ((n : Int) - 1) = r := ⟨(pickV b ((n : Int) - 1)).toNat, by omega⟩
    rw [hrv] at hrr hP2
    have hwn : IntKind.i64.wrap ((n : Int) - 1) = (n : Int) - 1 := by rw [IntKind.wrap_i64]; omega
    obtain ⟨s, hsv, hsn, hsp⟩ : ∃ s : Nat, ((p : Int) + 1 + (r : Int)).tmod (n : Int) = (s : Int) ∧ s < n ∧ p ≠ s := by
      have h1 : ((p : Int) + 1 + (r : Int)).tmod (n : Int) = (((p + 1 + r) % n : Nat) : Int) := by
        rw [Int.tmod_eq_emod_of_nonneg (by omega), Int.natCast_emod, show ((p + 1 + r : Nat) : Int) = (p : Int) + 1 + (r : Int) by omega]
      refine ⟨(p + 1 + r) % n, h1, Nat.mod_lt _ (by omega), fun h => ?_⟩
      have hrn2 : r + 1 < n := by omega
      rcases Nat.lt_or_ge (p + 1 + r) n with h3 | h3
      · rw [Nat.mod_eq_of_lt h3] at h; omega
      · rw [Nat.mod_eq_sub_mod h3, Nat.mod_eq_of_lt (by omega)] at h; omega
    have hws : IntKind.i64.wrap (s : Int) = s := by rw [IntKind.wrap_i64]; omega
    have hwq : IntKind.i64.wrap ((p : Int) + 1) = (p : Int) + 1 := by rw [IntKind.wrap_i64]; omega
    have hwr : IntKind.i64.wrap ((p : Int) + 1 + (r : Int)) = (p : Int) + 1 + (r : Int) := by rw [IntKind.wrap_i64]; omega
    have hn0 : (n : Int) ≠ 0 := by omega
    clear hrv
    go_wp2_with fail
    go_upto_region 6 with fail
    refine wp_region_below w5.heap.size (by kernel_rfl) (by kernel_rfl) ?_
    intro C hC
    repeat (go_big_quiet_step (first
      | ((intro _; with_reducible rfl))
      | (intro hc; have m0 := (hc.cell (p := ⟨bn, _, none⟩) hbnr).trans y1; simp only [m0, Result.andThen]; exact ⟨trivial, rfl⟩)
      | (intro hc; with_reducible refine (hP2.out _).mono ?_; rintro e w'' ⟨rfl, hb⟩; exact ⟨rfl, hc.trans (hb.mono hc.size)⟩)))
    refine wpQuiet_nil ?_
    intro w6 hb6
    clear hC
    have hb16h := Lib.hid (hb15h.out.trans (hb6.mono hb15h.out.size))
    have hON := Lib.hid (ownNet_any (c := c) (d := d) hs.out w6 (hR.out.below hb16h.out))
    rw [hhzH.out] at hON
    clear hb6 hb14h hb15h y0 y1 y2 hP2 hwn hws hwq hwr hn0 hsv hrr
    obtain ⟨y0, y1, y2⟩ := hX.out _ hb16h.out
    rw [hnn.out, hmm.out] at hON
    go_wp2_with fail
    refine hON.out.mono ?_; rintro e w7 ⟨⟨sCA, sCc⟩, ⟨sLA, sLc⟩, cv, lv, rfl, hC, hL, hb7⟩
    simp only [slV] at hC hL ⊢
    have hb17 := hb16h.out.trans (hb7.mono hb16h.out.size)
    have ha8 : Below w7.heap.size w7 (w7.alloc (.cells #[.int .i64 hz, .slice sCA n sCc, .slice sLA m sLc] 25)) := (Below.refl _ w7).alloc (Nat.le_refl _) _
    have hm8 := heap_alloc_new w7 (.cells #[.int .i64 hz, .slice sCA n sCc, .slice sLA m sLc] 25)
    obtain ⟨w8, hw8⟩ : ∃ q, w7.alloc (.cells #[.int .i64 hz, .slice sCA n sCc, .slice sLA m sLc] 25) = q := ⟨_, rfl⟩
    rw [hw8] at ha8 hm8
    obtain ⟨bm, hbm⟩ : ∃ q, w7.heap.size = q := ⟨_, rfl⟩
    rw [hbm] at hm8
    have hb68 := hb7.trans (ha8.mono hb7.size)
    have hL8 := hL.up ha8
    have hC8 := hC.up ha8
    obtain ⟨g, cc, w9, hrun, hL9, hb9, hk9⟩ := hL8.push (newLk p s long, (none, 0), (none, 0)) ⟨OwnR.nil, OwnR.nil⟩ (by have := hmm.out; omega) hb68.size
    rw [hmm.out] at hrun hL9
    simp only [lkE, slV, newLk, List.length_nil] at hrun
    have hm9 := hk9 bm _ 25 (by decide) hm8
    obtain ⟨⟨fz0, fz1, fz2⟩, _⟩ := setN3 (.int .i64 0) (.int .i64 0) (.int .i64 0) hm9
    have p8 : w8.cell? ⟨bm, 2, none⟩ = some (.slice sLA m sLc) := by rw [cell_of_row _ _ _ _ _ _ hm8]; rfl
    have p9 : w9.cell? ⟨bm, 2, none⟩ = some (.slice sLA m sLc) := by rw [cell_of_row _ _ _ _ _ _ hm9]; rfl
    have hkS : KeepT w9 (w9.setCell ⟨bm, 2, none⟩ (.slice (some ⟨g, 0, none⟩) (m + 1) cc)) [38, 36, 70] := KeepT.set hm9 (by decide)
    have hC10 := (hC8.keepT (hk9.sub (by decide))).keepT (hkS.sub (by decide))
    have hL10 := hL9.keepT (hkS.sub (by decide))
    have hm10 : (w9.setCell ⟨bm, 2, none⟩ (.slice (some ⟨g, 0, none⟩) (m + 1) cc)).heap[bm]? = some (.cells #[.int .i64 hz, .slice sCA n sCc, .slice (some ⟨g, 0, none⟩) (m + 1) cc] 25 (0, 0)) := by
      have hlt' := (Array.getElem?_eq_some_iff.1 hm9).1
      have e : w9.heap[bm] = .cells #[.int .i64 hz, .slice sCA n sCc, .slice sLA m sLc] 25 (0, 0) := by rw [Array.getElem?_eq_getElem hlt'] at hm9; exact Option.some.inj hm9
      simp [World.setCell, hlt', Array.getElem_modify, e]
    have hbmw : w6.heap.size ≤ bm := by rw [← hbm]; exact hb7.size
    have hb610 := (hb68.trans hb9).setCell (p := ⟨bm, 2, none⟩) hbmw (.slice (some ⟨g, 0, none⟩) (m + 1) cc)
    have hRM10 : RNet (w9.setCell ⟨bm, 2, none⟩ (.slice (some ⟨g, 0, none⟩) (m + 1) cc)) (addL N (newLk p s long)) sCA n (some ⟨g, 0, none⟩) (m + 1) := CsV.rnet2 (N := addL N (newLk p s long)) hC10 hL10
    obtain ⟨w10, hw10⟩ : ∃ q, w9.setCell ⟨bm, 2, none⟩ (.slice (some ⟨g, 0, none⟩) (m + 1) cc) = q := ⟨_, rfl⟩
    rw [hw10] at hm10 hb610 hRM10
    have hb110 := Lib.hid (hb16h.out.trans (hb610.mono hb16h.out.size))
    have hRMh := Lib.hid hRM10
    have hbm10 : Hid (bm < w10.heap.size) := (Array.getElem?_eq_some_iff.1 hm10).1
    have hM : Hid (∀ U, Below w10.heap.size w10 U → U.cell? ⟨bm, 0, none⟩ = some (.int .i64 hz) ∧ U.cell? ⟨bm, 1, none⟩ = some (.slice sCA n sCc) ∧ U.cell? ⟨bm, 2, none⟩ = some (.slice (some ⟨g, 0, none⟩) (m + 1) cc)) := fun U hU => by
      have h1 := (hU.block bm hbm10.out).trans hm10
      exact ⟨by rw [cell_of_row _ _ _ _ _ _ h1]; rfl, by rw [cell_of_row _ _ _ _ _ _ h1]; rfl, by rw [cell_of_row _ _ _ _ _ _ h1]; rfl⟩
    have hN' : Hid (OkN (addL N (newLk p s long))) := addL_ok hN.out (newLk_ok (by rw [hnn.out]; exact hpn2) (by rw [hnn.out]; exact hsn) hsp hlong.out.1 hlong.out.2) (by rw [hmm.out]; omega)
    have hsM : Hid (Small (addL N (newLk p s long))) := addL_small hlt.out (by simp [newLk]) (by simp [newLk])
    have hhzM : Hid ((addL N (newLk p s long)).hz = hz) := hhzH.out
    have hfM : Hid (∀ i k : Nat, i < n → k < n → farC (addL N (newLk p s long)) i k ≤ farC N i k) := fun i k hi hk => more_far hN.out hN'.out (by rw [hnn.out]; exact hi) (by rw [hnn.out]; exact hk)
    have hsho : Hid ((clA N (p : Int)).length = 0 → (clA N (s : Int)).length = 0 → farC (addL N (newLk p s long)) p s ≤ long) := fun h1 h2 => more_short hN'.out (by rw [hnn.out]; exact hpn2) (by rw [hnn.out]; exact hsn) hlong.out.1 hlong.out.2 h1 h2
    have hnM : Hid ((addL N (newLk p s long)).cs.length = n) := hnn.out
    have hmM : Hid ((addL N (newLk p s long)).ls.length = m + 1) := by show _ = _; simp only [addL, List.length_append, List.length_cons, List.length_nil]; rw [hmm.out]
    obtain ⟨M, hMe⟩ : ∃ q, addL N (newLk p s long) = q := ⟨_, rfl⟩
    rw [hMe] at hN' hsM hhzM hRMh hfM hsho hnM hmM
    obtain ⟨y0', y1', y2'⟩ := hX.out _ hb110.out
    have hON := Lib.hid (ownNet_any (c := c) (d := d) hs.out w10 (hR.out.below hb110.out))
    rw [hhzH.out, hnn.out, hmm.out] at hON
    clear hC hL hb17 ha8 hm8 hb68 hL8 hC8 hL9 hb9 hk9 hm9 hkS hC10 hL10 hm10 hbmw hb610 hRM10 hMe hb7 y0 y1 y2
    rename_i hONX
    clear hONX
    go_wp2_with (at_builtin; refine wpList_append_run ?a1 (.tmp 83) (.tmp 88) 23 ?a2 ?a3 ?a4 hrun ?_)
    case a1 => rfl
    case a2 => rfl
    try (case a3 => rfl)
    try (case a4 => rfl)
    refine hON.out.mono ?_; rintro e w11 ⟨⟨qCA, qCc⟩, ⟨qLA, qLc⟩, cv, lv, rfl, hC, hL, hb11⟩
    simp only [slV] at hC hL ⊢
    clear hw10 hw8 hbm hrun p8 p9 fz0 fz1 fz2 hON y0' y1' y2'
    have hbs11 := Lib.hid (hb110.out.trans (hb11.mono hb110.out.size))
    have ha12 : Below w11.heap.size w11 (w11.alloc (.cells #[.int .i64 hz, .slice qCA n qCc, .slice qLA m qLc] 25)) := (Below.refl _ w11).alloc (Nat.le_refl _) _
    have hs12 := heap_alloc_new w11 (.cells #[.int .i64 hz, .slice qCA n qCc, .slice qLA m qLc] 25)
    obtain ⟨w12, hw12⟩ : ∃ q, w11.alloc (.cells #[.int .i64 hz, .slice qCA n qCc, .slice qLA m qLc] 25) = q := ⟨_, rfl⟩
    rw [hw12] at ha12 hs12
    obtain ⟨bs, hbs⟩ : ∃ q, w11.heap.size = q := ⟨_, rfl⟩
    rw [hbs] at hs12
    have ha13 : Below w12.heap.size w12 (w12.alloc (.cells #[.int .i64 xf, .int .i64 xt] 70)) := (Below.refl _ w12).alloc (Nat.le_refl _) _
    have hs13 := heap_alloc_new w12 (.cells #[.int .i64 xf, .int .i64 xt] 70)
    obtain ⟨w13, hw13⟩ : ∃ q, w12.alloc (.cells #[.int .i64 xf, .int .i64 xt] 70) = q := ⟨_, rfl⟩
    rw [hw13] at ha13 hs13
    obtain ⟨bk, hbk⟩ : ∃ q, w12.heap.size = q := ⟨_, rfl⟩
    rw [hbk] at hs13
    have hb1113 := ha12.trans (ha13.mono ha12.size)
    have hb1013 := hb11.trans (hb1113.mono hb11.size)
    have hC13 := hC.up hb1113
    have hL13 := hL.up hb1113
    have hkb : w10.heap.size ≤ bk := by rw [← hbk]; have := hb11.size; have := ha12.size; omega
    obtain ⟨gC, cur, rfl, hgb, hgc, hfz, ⟨zz, hcz, _⟩, hC14⟩ := hC13.put hnn.out ([(xf, xt)], (some ⟨bk, 0, none⟩, 1)) (own_win (t := 70) hs13 hkb) hpn2
    simp only [slV, List.length_cons, List.length_nil] at hC14 hcz
    have hs13b := (ha13.block bs (Array.getElem?_eq_some_iff.1 hs12).1).trans hs12
    have u1 : w12.cell? ⟨bs, 1, none⟩ = some (.slice (some ⟨gC, 0, none⟩) n qCc) := by rw [cell_of_row _ _ _ _ _ _ hs12]; rfl
    have u2 : w13.cell? ⟨bs, 1, none⟩ = some (.slice (some ⟨gC, 0, none⟩) n qCc) := by rw [cell_of_row _ _ _ _ _ _ hs13b]; rfl
    have hbx12 := hBx.out _ (hb110.out.trans ((hb11.trans (ha12.mono hb11.size)).mono hb110.out.size))
    obtain ⟨x0, x1⟩ := hbx12
    have hpI : (p : Int) < (n : Int) := by omega
    have hkS : KeepT w13 (w13.setCell ⟨gC, p, none⟩ (.slice (some ⟨bk, 0, none⟩) (0 + 1) 1)) [25, 38, 70] := KeepT.set hgc (by decide)
    have hL14 := hL13.keepT (hkS.sub (by decide))
    have hs14 := hkS bs _ 25 (by decide) hs13b
    have hb1014 : Below w10.heap.size w10 (w13.setCell ⟨gC, p, none⟩ (.slice (some ⟨bk, 0, none⟩) (0 + 1) 1)) := hb1013.setCell (p := ⟨gC, p, none⟩) hgb _
    have hRS14 : RNet (w13.setCell ⟨gC, p, none⟩ (.slice (some ⟨bk, 0, none⟩) (0 + 1) 1)) (shutN N p (xf, xt)) (some ⟨gC, 0, none⟩) n qLA m := CsV.rnet2 (N := shutN N p (xf, xt)) hC14 hL14
    obtain ⟨w14, hw14⟩ : ∃ q, w13.setCell ⟨gC, p, none⟩ (.slice (some ⟨bk, 0, none⟩) (0 + 1) 1) = q := ⟨_, rfl⟩
    rw [hw14] at hs14 hb1014 hRS14
    have hb114 := Lib.hid (hb110.out.trans (hb1014.mono hb110.out.size))
    have hb1014h := Lib.hid hb1014
    have hRSh := Lib.hid hRS14
    have hbs14 : Hid (bs < w14.heap.size) := (Array.getElem?_eq_some_iff.1 hs14).1
    have hSX : Hid (∀ U, Below w14.heap.size w14 U → U.cell? ⟨bs, 0, none⟩ = some (.int .i64 hz) ∧ U.cell? ⟨bs, 1, none⟩ = some (.slice (some ⟨gC, 0, none⟩) n qCc) ∧ U.cell? ⟨bs, 2, none⟩ = some (.slice qLA m qLc)) := fun U hU => by
      have h1 := (hU.block bs hbs14.out).trans hs14
      exact ⟨by rw [cell_of_row _ _ _ _ _ _ h1]; rfl, by rw [cell_of_row _ _ _ _ _ _ h1]; rfl, by rw [cell_of_row _ _ _ _ _ _ h1]; rfl⟩
    have hps : Hid (p < N.cs.length) := by show _ < _; rw [hnn.out]; exact hpn2
    have hNS : Hid (OkN (shutN N p (xf, xt))) := shut_ok hN.out hgx.out
    have hsS : Hid (Small (shutN N p (xf, xt))) := shut_small hs.out
    have hhzS : Hid ((shutN N p (xf, xt)).hz = hz) := hhzH.out
    have hnS : Hid ((shutN N p (xf, xt)).cs.length = n) := by show (N.cs.set p [(xf, xt)]).length = n; rw [List.length_set]; exact hnn.out
    have hfS : Hid (∀ i k : Nat, i < n → k < n → farC N i k ≤ farC (shutN N p (xf, xt)) i k) := fun i k hi hk => shut_far hN.out hNS.out hps.out (by rw [hnn.out]; exact hi) (by rw [hnn.out]; exact hk)
    have hrS : Hid ((mkC (shutN N p (xf, xt)))[p]? = some [(0, (p : Int))]) := by
      show _ = _
      rw [mkC_row hNS.out (by rw [hnS.out]; exact hpn2), hnS.out]
      have := shut_row hNS.out hps.out
      rw [hnn.out] at this
      rw [this]
    obtain ⟨Sn, hSe⟩ : ∃ q, shutN N p (xf, xt) = q := ⟨_, rfl⟩
    rw [hSe] at hNS hsS hhzS hRSh hfS hnS hrS
    obtain ⟨y0, y1, y2⟩ := hX.out _ hb114.out
    have hk1 := Lib.hid (chkN_iff.2 hN.out)
    have hk2 := Lib.hid (chkN_iff.2 hN'.out)
    have hk3 := Lib.hid (chkN_iff.2 hNS.out)
    have hMk : Hid (∀ U, Below w14.heap.size w14 U → Calls Try.prog 41 #[.agg #[.int .i64 hz, .slice A n c, .slice B m d]] U fun e w' => ∃ A c, e = .returned (.tuple #[.slice A n c, .int .i64 0]) ∧ RRows w' (mkC N) A n ∧ Below U.heap.size U w') := fun U hU => by
      have := cmake_any (c := c) (d := d) hs.out U (hR.out.below (hb114.out.trans (hU.mono hb114.out.size)))
      unfold RetM at this
      rw [hhzH.out, mkC_len hN.out, hnn.out, hk1.out] at this
      exact this.mono fun e w' ⟨A, c, h1, h2, _, _, h5⟩ => ⟨A, c, h1, h2, h5⟩
    have hMk2 : Hid (∀ U, Below w14.heap.size w14 U → Calls Try.prog 41 #[.agg #[.int .i64 hz, .slice sCA n sCc, .slice (some ⟨g, 0, none⟩) (m + 1) cc]] U fun e w' => ∃ A c, e = .returned (.tuple #[.slice A n c, .int .i64 0]) ∧ RRows w' (mkC M) A n ∧ Below U.heap.size U w') := fun U hU => by
      have := cmake_any (c := sCc) (d := cc) hsM.out U (hRMh.out.below (hb1014h.out.trans (hU.mono hb1014h.out.size)))
      unfold RetM at this
      rw [hhzM.out, mkC_len hN'.out, hnM.out, hk2.out] at this
      exact this.mono fun e w' ⟨A, c, h1, h2, _, _, h5⟩ => ⟨A, c, h1, h2, h5⟩
    have hMk3 : Hid (∀ U, Below w14.heap.size w14 U → Calls Try.prog 41 #[.agg #[.int .i64 hz, .slice (some ⟨gC, 0, none⟩) n qCc, .slice qLA m qLc]] U fun e w' => ∃ A c, e = .returned (.tuple #[.slice A n c, .int .i64 0]) ∧ RRows w' (mkC Sn) A n ∧ Below U.heap.size U w') := fun U hU => by
      have := cmake_any (c := qCc) (d := qLc) hsS.out U (hRSh.out.below hU)
      unfold RetM at this
      rw [hhzS.out, mkC_len hNS.out, hnS.out, hk3.out] at this
      exact this.mono fun e w' ⟨A, c, h1, h2, _, _, h5⟩ => ⟨A, c, h1, h2, h5⟩
    clear hC hL hb11 ha12 ha13 hs13 hb1113 hb1013 hC13 hL13 hkb hgb hgc hC14 hs13b hkS hL14 hs14 hb1014 hRS14 hSe hs12
    go_wp2_with fail
    refine (hMk.out _ (Below.refl _ _)).mono ?_; rintro e w15 ⟨A15, c15, rfl, hP15, hb15⟩
    clear hw12 hw13 hw14 hbs hbk hfz hcz u1 u2 x0 x1 y0 y1 y2
    have s15 := Lib.hid hb15
    have hP15h := Lib.hid hP15
    obtain ⟨m0, m1, m2⟩ := hM.out _ (hb1014h.out.trans (hb15.mono hb1014h.out.size))
    clear hb15 hP15
    go_wp2_with fail
    refine (hMk2.out _ s15.out).mono ?_; rintro e w16 ⟨A16, c16, rfl, hQ16, hb16⟩
    have s16 := Lib.hid (s15.out.trans (hb16.mono s15.out.size))
    have hQ16h := Lib.hid hQ16
    have hP16h := Lib.hid (hP15h.out.below hb16)
    obtain ⟨v0, v1, v2⟩ := hSX.out _ s16.out
    clear hb16 hQ16 m0 m1 m2
    go_wp2_with fail
    refine (hMk3.out _ s16.out).mono ?_; rintro e w17 ⟨A17, c17, rfl, hO17, hb17⟩
    have s17 := Lib.hid (s16.out.trans (hb17.mono s16.out.size))
    have t17 := Lib.hid (hb114.out.trans (s17.out.mono hb114.out.size))
    have hO17h := Lib.hid hO17
    have hP17 := Lib.hid (hP16h.out.below hb17)
    have hQ17 := Lib.hid (hQ16h.out.below hb17)
    obtain ⟨y0, y1, y2⟩ := hX.out _ t17.out
    have d3 : ((n : Int) != (n : Int)) = false := by simp
    have wfN : Hid (∀ i : Nat, i < n → (Lit.int .i64 (i : Int)).wf = true) := fun i hi => wf64 (by omega) (by omega)
    have hwf1 := Lib.hid (mkC_wf hN.out (by have := hnn.out; omega))
    have hwf2 := Lib.hid (mkC_wf hN'.out (by have := hnM.out; omega))
    have hwf3 := Lib.hid (mkC_wf hNS.out (by have := hnS.out; omega))
    have hl1 : Hid (∀ (i k : Nat) U, i < n → k < n → Below w17.heap.size w17 U → Calls Try.prog 42 #[.slice A15 n c15, .int .i64 (i : Int), .int .i64 (k : Int)] U fun e w' => e = .returned (.int .i64 (farC N i k)) ∧ Below U.heap.size U w') := fun i k U hi hk hU => by
      have := cLen_any c15 (i : Int) (k : Int) U (hP17.out.below hU) hwf1.out (wfN.out i hi) (wfN.out k hk)
      rwa [lenC_mk hN.out (by rw [hnn.out]; exact hi) (by rw [hnn.out]; exact hk)] at this
    have hl2 : Hid (∀ (i k : Nat) U, i < n → k < n → Below w17.heap.size w17 U → Calls Try.prog 42 #[.slice A16 n c16, .int .i64 (i : Int), .int .i64 (k : Int)] U fun e w' => e = .returned (.int .i64 (farC M i k)) ∧ Below U.heap.size U w') := fun i k U hi hk hU => by
      have := cLen_any c16 (i : Int) (k : Int) U (hQ17.out.below hU) hwf2.out (wfN.out i hi) (wfN.out k hk)
      rwa [lenC_mk hN'.out (by rw [hnM.out]; exact hi) (by rw [hnM.out]; exact hk)] at this
    have hl3 : Hid (∀ (i k : Nat) U, i < n → k < n → Below w17.heap.size w17 U → Calls Try.prog 42 #[.slice A17 n c17, .int .i64 (i : Int), .int .i64 (k : Int)] U fun e w' => e = .returned (.int .i64 (farC Sn i k)) ∧ Below U.heap.size U w') := fun i k U hi hk hU => by
      have := cLen_any c17 (i : Int) (k : Int) U (hO17h.out.below hU) hwf3.out (wfN.out i hi) (wfN.out k hk)
      rwa [lenC_mk hNS.out (by rw [hnS.out]; exact hi) (by rw [hnS.out]; exact hk)] at this
    clear hb17 hO17 v0 v1 v2
    go_wp2_with fail
    go_loopw [19] (fun iv wr => ∃ (i : Nat), i ≤ n ∧ iv = .int .i64 i ∧ Hid (Below w17.heap.size w17 wr)) (fun iv _ => n - (intOf iv).toNat)
    case atStart => exact ⟨0, Nat.zero_le _, rfl, Below.refl _ _⟩
    case round =>
      clear y0 y1 y2
      obtain ⟨i, hi, rfl, hb⟩ := hrel
      by_cases hin : i < n
      · have hinI : (i : Int) < (n : Int) := by omega
        obtain ⟨wi, hwi⟩ : ∃ q, q = wr := ⟨_, rfl⟩
        subst hwi
        go_wp2_with fail
        go_loopw [20] (fun kv wr => ∃ (k : Nat), k ≤ n ∧ kv = .int .i64 k ∧ Hid (Below w17.heap.size w17 wr)) (fun kv _ => n - (intOf kv).toNat)
        case atStart => exact ⟨0, Nat.zero_le _, rfl, hb⟩
        case round =>
          obtain ⟨k, hk, rfl, hbk⟩ := hrel
          by_cases hkn : k < n
          · have hknI : (k : Int) < (n : Int) := by omega
            have le1 := hfM.out i k hin hkn
            have le2 := hfS.out i k hin hkn
            have hQ1 := Lib.hid (hl1.out i k · hin hkn)
            have hQ2 := Lib.hid (hl2.out i k · hin hkn)
            have hQ3 := Lib.hid (hl3.out i k · hin hkn)
            obtain ⟨L1, hL1⟩ : ∃ q, farC N i k = q := ⟨_, rfl⟩
            obtain ⟨L2, hL2⟩ : ∃ q, farC M i k = q := ⟨_, rfl⟩
            obtain ⟨L3, hL3⟩ : ∃ q, farC Sn i k = q := ⟨_, rfl⟩
            rw [hL1, hL2] at le1
            rw [hL1, hL3] at le2
            rw [hL1] at hQ1
            rw [hL2] at hQ2
            rw [hL3] at hQ3
            have e1 : decide (L1 < L2) = false := decide_eq_false (by omega)
            have e2 : decide (L3 < L1) = false := decide_eq_false (by omega)
            clear hL1 hL2 hL3 le1 le2
            go_wp2_with fail
            refine (hQ2.out _ hbk.out).mono ?_; rintro e w18 ⟨rfl, hb18⟩
            have s18 := Lib.hid (hbk.out.trans (hb18.mono hbk.out.size))
            clear hb18
            go_wp2_with fail
            refine (hQ1.out _ s18.out).mono ?_; rintro e w19 ⟨rfl, hb19⟩
            have s19 := Lib.hid (s18.out.trans (hb19.mono s18.out.size))
            clear hb19
            go_wp2_with fail
            refine (hQ3.out _ s19.out).mono ?_; rintro e w20 ⟨rfl, hb20⟩
            have s20 := Lib.hid (s19.out.trans (hb20.mono s19.out.size))
            clear hb20
            go_wp2_with fail
            refine (hQ1.out _ s20.out).mono ?_; rintro e w21 ⟨rfl, hb21⟩
            have s21 := Lib.hid (s20.out.trans (hb21.mono s20.out.size))
            clear hb21
            go_wp2_with fail
            go_roundw
            case rel => exact ⟨k + 1, by omega, by go_num, s21⟩
            case measure => simp [intOf]; omega
          · obtain rfl : k = n := by omega
            go_wp2_with fail
            go_roundw
            case rel => exact ⟨i + 1, by omega, by go_num, hbk⟩
            case measure => simp [intOf]; omega
      · obtain rfl : i = n := by omega
        have tE := Lib.hid (t17.out.trans (hb.out.mono t17.out.size))
        obtain ⟨y0, y1, y2⟩ := hX.out _ tE.out
        obtain ⟨bC, oC, sA, sn, sc, sl, rfl, hbC, hCp, f0, rs, _⟩ := (hR.out.below tE.out).clo hpn2
        obtain ⟨bC', oC', tA, tn, tc, tl, eC, _, hCs, f1, rt, _⟩ := (hR.out.below tE.out).clo hsn
        cases eC
        have hca : Hid ((clA N (p : Int)).length = sn) := by show _ = _; unfold clA; rw [Int.toNat_natCast, hCp]; exact rs.len
        have hcb : Hid ((clA N (s : Int)).length = tn) := by show _ = _; unfold clA; rw [Int.toNat_natCast, hCs]; exact rt.len
        have hsI : (s : Int) < (i : Int) := by omega
        have hpI2 : (p : Int) < (i : Int) := by omega
        have hl2p := Lib.hid (hl2.out p s wr hpn2 hsn hb.out)
        obtain ⟨bO, oO, rA, rn, rc, rl, rfl, hbO, hOp, g0, rr, _⟩ := (hO17h.out.below hb.out).row hpn2
        rw [hrS.out] at hOp
        cases hOp
        obtain rfl : rn = 1 := rr.len.symm
        obtain ⟨bO2, oO2, zx, zy, rfl, hbO2, hz2, g1, g2⟩ := rr.pair (k := 0) (by omega)
        simp only [List.getElem?_cons_zero, Option.some.injEq, Prod.mk.injEq] at hz2
        simp only [Nat.zero_mul, Nat.add_zero] at g1 g2
        obtain ⟨rfl, rfl⟩ := hz2
        clear hCp hCs rs rt rr
        have hEnd : Hid (Below w.heap.size w wr) := hup.out _ tE.out
        by_cases c1 : sn = 0
        · subst c1
          by_cases c2 : tn = 0
          · subst c2
            have hle := hsho.out hca.out hcb.out
            obtain ⟨L, hL⟩ : ∃ q, farC M p s = q := ⟨_, rfl⟩
            rw [hL] at hl2p hle
            have e3 : decide (long < L) = false := decide_eq_false (by omega)
            clear hL hle
            go_wp2_with fail
            refine hl2p.out.mono ?_; rintro e w18 ⟨rfl, hb18⟩
            have r0 := (hb18.cell (p := ⟨bO, _, none⟩) hbO).trans g0
            have r1 := (hb18.cell (p := ⟨bO2, _, none⟩) hbO2).trans g1
            have r2 := (hb18.cell (p := ⟨bO2, _, none⟩) hbO2).trans g2
            have hfin := Lib.hid (hEnd.out.trans (hb18.mono hEnd.out.size))
            clear hb18 g0 g1 g2 y0 y1 y2 f0 f1
            go_wp2_with fail
            go_returns
            exact ⟨rfl, hfin.out⟩
          · have e2 : ((tn : Int) == 0) = false := by simp [c2]
            have e2' : (tn == 0) = false := by simp [c2]
            go_wp2_with fail
            go_returns
            exact ⟨rfl, hEnd.out⟩
        · have e2 : ((sn : Int) == 0) = false := by simp [c1]
          have e2' : (sn == 0) = false := by simp [c1]
          go_wp2_with fail
          go_returns
          exact ⟨rfl, hEnd.out⟩
end Go.Proofs.Ytonkkibnigdfbaa
