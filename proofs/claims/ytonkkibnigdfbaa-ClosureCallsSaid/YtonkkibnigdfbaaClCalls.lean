/-
  Walk: timetablelaw14.ClosureCalls answers true (clo/gen9.py).
-/
import Derived.Test.YtonkkibnigdfbaaRMk
import Derived.Test.YtonkkibnigdfbaaClRow
import Derived.Test.YtonkkibnigdfbaaClKit
import Derived.Test.YtonkkibnigdfbaaOwnN
import Derived.Test.YtonkkibnigdfbaaMoreLaw
namespace Go.Proofs.Ytonkkibnigdfbaa
open Go.RowKit Go.Shelf B K
set_option linter.unusedVariables false
set_option linter.unusedSimpArgs false
set_option maxHeartbeats 4000000
theorem mkC_short {N : NetP} (hs : Small N) : (mkC N).length ≤ 1000 ∧ ∀ l ∈ mkC N, l.length ≤ 1000 := by
  by_cases hk : chkN N = 0
  · have hN := chkN_iff.1 hk
    have hn := hs.cn
    refine ⟨by rw [mkC_len hN]; omega, fun l hl => ?_⟩
    obtain ⟨a, ha⟩ := List.getElem?_of_mem hl
    have hlt : a < N.cs.length := by rw [← mkC_len hN]; exact (List.getElem?_eq_some_iff.1 ha).1
    rw [mkC_row hN hlt] at ha
    obtain rfl := Option.some.inj ha
    have := nearS_len (clD N a) N.cs.length
    omega
  · rw [mkC_bad hk]
    exact ⟨by simp, fun l hl => by cases hl⟩
theorem plR_short {N : NetP} (hs : Small N) : (plR N).length ≤ 1000 := by
  have := hs.ln
  unfold plR
  split
  · have := plZ_len N N.ls.length; omega
  · simp
theorem withinC_short {C : List W.Row} {a m : Int} (h : ∀ l ∈ C, l.length ≤ 40) : (withinC C a m).length ≤ 40 := by
  unfold withinC
  split
  · rename_i hin
    have hl : C[a.toNat]? = some (C[a.toNat]'(by omega)) := List.getElem?_eq_getElem _
    have := h _ (List.mem_of_getElem? hl)
    have := withinR_len (C[a.toNat]'(by omega)) m
    rw [hl]; simp only [Option.getD_some]; omega
  · simp
set_option maxRecDepth 100000 in
theorem claw_any {N : NetP} {A : Option Addr} {n c : Nat} {B : Option Addr} {m d : Nat} {C : List W.Row} (AC : Option Addr) (nC cC : Nat) (a b far : Int) (w : World)
    (hr : RNet w N A n B m) (hrC : RRows w C AC nC) (hCw : ∀ l ∈ C, ∀ x ∈ l, (Lit.int .i64 x.1).wf = true ∧ (Lit.int .i64 x.2).wf = true)
    (ha : -9223372036854775808 ≤ a ∧ a ≤ 9223372036854775807) (hb : -9223372036854775808 ≤ b ∧ b ≤ 9223372036854775807) :
    Calls Try.prog 14 #[.agg #[.int .i64 N.hz, .slice A n c, .slice B m d], .slice AC nC cC, .int .i64 a, .int .i64 b, .int .i64 far] w fun e w' => e = .returned (.bool true) ∧ Below w.heap.size w w' := by
  have hnn : Hid (N.cs.length = n) := hr.nn
  have hmm : Hid (N.ls.length = m) := hr.mm
  have wfa : Hid ((Lit.int .i64 a).wf = true) := wf64 ha.1 ha.2
  have wfb : Hid ((Lit.int .i64 b).wf = true) := wf64 hb.1 hb.2
  have hCwH := Lib.hid hCw
  have hrCH := Lib.hid hrC
  clear hCw hrC ha hb
  obtain ⟨hz, hhz⟩ : ∃ q, N.hz = q := ⟨_, rfl⟩
  rw [hhz]
  have hb1 : Below w.heap.size w (w.alloc (.cells #[.int .i64 hz, .slice A n c, .slice B m d] 25)) := (Below.refl _ w).alloc (Nat.le_refl _) _
  obtain ⟨x0, x1, x2⟩ := rowBx3 w 25 (.int .i64 hz) (.slice A n c) (.slice B m d)
  have hbn1 : w.heap.size < (w.alloc (.cells #[.int .i64 hz, .slice A n c, .slice B m d] 25)).heap.size := by simp
  obtain ⟨w1, hw1⟩ : ∃ q, w.alloc (.cells #[.int .i64 hz, .slice A n c, .slice B m d] 25) = q := ⟨_, rfl⟩
  rw [hw1] at hb1 x0 x1 x2 hbn1
  have hup : Hid (∀ w2, Below w1.heap.size w1 w2 → Below w.heap.size w w2) := fun w2 h => hb1.trans (h.mono hb1.size)
  obtain ⟨bn, hbn⟩ : ∃ q, w.heap.size = q := ⟨_, rfl⟩
  rw [hbn] at x0 x1 x2 hbn1
  have hR := Lib.hid (hr.below hb1)
  have hX : Hid (∀ U, Below w1.heap.size w1 U → U.cell? ⟨bn, 0, none⟩ = some (.int .i64 hz) ∧ U.cell? ⟨bn, 1, none⟩ = some (.slice A n c) ∧ U.cell? ⟨bn, 2, none⟩ = some (.slice B m d)) := fun U hU =>
    ⟨(hU.cell (p := ⟨bn, 0, none⟩) hbn1).trans x0, (hU.cell (p := ⟨bn, 1, none⟩) hbn1).trans x1, (hU.cell (p := ⟨bn, 2, none⟩) hbn1).trans x2⟩
  have hhzH := Lib.hid hhz
  have hC1 := Lib.hid (hrCH.out.below hb1)
  clear hb1 hr x0 x1 x2 hhz
  go_enter Try.func14, Try.ntmps14
  go_wp2_with fail
  refine (clives_any _).mono ?_; rintro e w2 ⟨rfl, hb2⟩
  obtain ⟨y0, y1, y2⟩ := hX.out _ hb2
  have hL := Lib.hid (lightNet_any (c := c) (d := d) (hz := hz) w2 (hR.out.below hb2))
  have hb2 := Lib.hid hb2
  rename_i hb20; clear hb20 hw1 hbn
  go_wp2_with fail
  refine hL.out.mono ?_; rintro e w3 ⟨b, rfl, hbt, hb3⟩
  have hb13 := hb2.out.trans (hb3.mono hb2.out.size)
  clear y0 y1 y2
  obtain ⟨y0, y1, y2⟩ := hX.out _ hb13
  cases b with
  | false =>
    go_wp2_with fail
    go_returns
    exact ⟨rfl, hup.out _ hb13⟩
  | true =>
    have hlt := Lib.hid (hbt rfl)
    have hs := Lib.hid (hlt.out.small (by omega) (by omega) (by omega))
    clear hbt
    have hLC := Lib.hid (lightN_any cC w3 (hC1.out.below hb13))
    have hb13h := Lib.hid hb13
    clear hb13
    go_wp2_with fail
    refine hLC.out.mono ?_; rintro e w4 ⟨bb, rfl, hbb, hb4⟩
    have s4 := Lib.hid (hb13h.out.trans (hb4.mono hb13h.out.size))
    clear hLC hb4 y0 y1 y2
    obtain ⟨y0, y1, y2⟩ := hX.out _ s4.out
    rcases bb with _ | _
    · go_wp2_with fail
      go_returns
      exact ⟨rfl, hup.out _ s4.out⟩
    have hl40 := Lib.hid (hbb rfl)
    have hnC : nC ≤ 40 := hl40.out.1
    have hwf : Hid (RowsWf C) := ⟨by have := hl40.out.1; have := hC1.out.nn; omega, fun l hl => ⟨by have := hl40.out.2 l hl; omega, hCwH.out l hl⟩⟩
    clear hbb
    have hON := Lib.hid (ownNet_any (c := c) (d := d) hs.out w4 (hR.out.below s4.out))
    rw [hhzH.out, hnn.out, hmm.out] at hON
    go_wp2_with fail
    refine hON.out.mono ?_; rintro e w5 ⟨⟨sCA, sCc⟩, ⟨sLA, sLc⟩, cv, lv, rfl, hC, hL, hb5⟩
    simp only [slV] at hC hL ⊢
    have s5 := Lib.hid (s4.out.trans (hb5.mono s4.out.size))
    have hM5 := Lib.hid (CsV.rnet2 (N := N) hC hL)
    have hP := Lib.hid (cplain_any (c := sCc) (d := sLc) hs.out w5 hM5.out)
    rw [hhzH.out] at hP
    clear hC hL hb5 hON y0 y1 y2
    go_wp2_with fail
    refine hP.out.mono ?_; rintro e w6 ⟨A6, c6, rfl, hR6, hb6⟩
    have s6 := Lib.hid (s5.out.trans (hb6.mono s5.out.size))
    have hR6h := Lib.hid hR6
    obtain ⟨y0, y1, y2⟩ := hX.out _ s6.out
    have hQ := Lib.hid (rPlain_any (c := c) (d := d) hs.out w6 (hR.out.below s6.out))
    rw [hhzH.out] at hQ
    obtain ⟨PL, hPL⟩ : ∃ q, plR N = q := ⟨_, rfl⟩
    obtain ⟨ck, hck⟩ : ∃ q, chkN N = q := ⟨_, rfl⟩
    have hPl : Hid (PL.length ≤ 1000) := by show _ ≤ _; rw [← hPL]; exact plR_short hs.out
    unfold RetP at hQ
    rw [hPL] at hR6h hQ ⊢
    rw [hck] at hQ ⊢
    have hckH := Lib.hid hck
    obtain ⟨pn, hpn⟩ : ∃ q, PL.length = q := ⟨_, rfl⟩
    rw [hpn] at hR6h hQ hPl ⊢
    clear hR6 hb6 hP hPL hck hpn
    go_wp2_with fail
    refine hQ.out.mono ?_; rintro e w7 ⟨A7, c7, rfl, hR7, hb7⟩
    have s7 := Lib.hid (s6.out.trans (hb7.mono s6.out.size))
    have hR7h := Lib.hid hR7
    have hR67 := Lib.hid (hR6h.out.below hb7)
    clear hR7 hb7 hQ y0 y1 y2
    obtain ⟨y0, y1, y2⟩ := hX.out _ s7.out
    have hM := Lib.hid (cmake_any (c := c) (d := d) hs.out w7 (hR.out.below s7.out))
    rw [hhzH.out] at hM
    obtain ⟨MC, hMC⟩ : ∃ q, mkC N = q := ⟨_, rfl⟩
    have hMl : Hid (MC.length ≤ 1000 ∧ ∀ l ∈ MC, l.length ≤ 1000) := by show _ ∧ _; rw [← hMC]; exact mkC_short hs.out
    have hMCH := Lib.hid hMC
    unfold RetM at hM
    rw [hMC, hckH.out] at hM
    obtain ⟨mn, hmn⟩ : ∃ q, MC.length = q := ⟨_, rfl⟩
    rw [hmn] at hM hMl
    have hmnH := Lib.hid hmn
    clear hMC hmn
    go_wp2_with fail
    refine hM.out.mono ?_; rintro e w8 ⟨A8, c8, rfl, hR8, _, _, hb8⟩
    have s8 := Lib.hid (s7.out.trans (hb8.mono s7.out.size))
    have hR8h := Lib.hid hR8
    have t8 := Lib.hid hb8
    clear hR8 hb8 hM y0 y1 y2
    obtain ⟨y0, y1, y2⟩ := hX.out _ s8.out
    have hM := Lib.hid (rmake_any (c := c) (d := d) hs.out w8 (hR.out.below s8.out))
    rw [hhzH.out] at hM
    unfold RetM at hM
    rw [hMCH.out, hckH.out, hmnH.out] at hM
    go_wp2_with fail
    refine hM.out.mono ?_; rintro e w9 ⟨A9, c9, rfl, hR9, _, _, hb9⟩
    have s9 := Lib.hid (s8.out.trans (hb9.mono s8.out.size))
    have t9 := Lib.hid (t8.out.trans (hb9.mono t8.out.size))
    have hR9h := Lib.hid hR9
    have hR89 := Lib.hid (hR8h.out.below hb9)
    have hS := Lib.hid (sameI_any A6 pn c6 PL A7 pn c7 PL w9 (hR67.out.below t9.out) (hR7h.out.below t9.out) (by have := hPl.out; omega) (by have := hPl.out; omega))
    rw [decide_eq_true rfl] at hS
    clear hR9 hb9 hM y0 y1 y2
    go_wp2_with fail
    refine hS.out.mono ?_; rintro e w10 ⟨rfl, hb10⟩
    have s10 := Lib.hid (s9.out.trans (hb10.mono s9.out.size))
    have dk : (ck == ck) = true := by simp
    have hS := Lib.hid (listsN_any c8 c9 w10 (hR89.out.below hb10) (hR9h.out.below hb10) (by have := hMl.out.1; omega) (fun l hl => by have := hMl.out.2 l hl; omega) (fun l hl => by have := hMl.out.2 l hl; omega))
    rw [decide_eq_true rfl] at hS
    clear hb10
    go_wp2_with fail
    refine hS.out.mono ?_; rintro e w11 ⟨rfl, hb11⟩
    have s11 := Lib.hid (s10.out.trans (hb11.mono s10.out.size))
    have hS := Lib.hid (cLen_any cC a b w11 (hC1.out.below s11.out) hwf.out wfa.out wfb.out)
    obtain ⟨vl, hvl⟩ : ∃ q, lenC C a b = q := ⟨_, rfl⟩
    have hvlH := Lib.hid hvl
    rw [hvl] at hS
    clear hb11 hvl
    go_wp2_with fail
    refine hS.out.mono ?_; rintro e w12 ⟨rfl, hb12⟩
    have s12 := Lib.hid (s11.out.trans (hb12.mono s11.out.size))
    have hS := Lib.hid (rLen_any cC a b w12 (hC1.out.below s12.out) hwf.out)
    rw [hvlH.out] at hS
    have dv : (vl == vl) = true := by simp
    clear hb12
    go_wp2_with fail
    refine hS.out.mono ?_; rintro e w13 ⟨rfl, hb13⟩
    have s13 := Lib.hid (s12.out.trans (hb13.mono s12.out.size))
    have hS := Lib.hid (cWithin_any cC a far w13 (hC1.out.below s13.out) hwf.out)
    have hwl := Lib.hid (withinC_short (a := a) (m := far) hl40.out.2)
    obtain ⟨WL, hWL⟩ : ∃ q, withinC C a far = q := ⟨_, rfl⟩
    have hWLH := Lib.hid hWL
    unfold RetW at hS
    rw [hWL] at hS hwl
    obtain ⟨wn, hwn⟩ : ∃ q, WL.length = q := ⟨_, rfl⟩
    have hwnH := Lib.hid hwn
    rw [hwn] at hS hwl
    clear hb13 hWL hwn
    go_wp2_with fail
    refine hS.out.mono ?_; rintro e w14 ⟨A14, c14, rfl, hR14, _, _, hb14⟩
    have s14 := Lib.hid (s13.out.trans (hb14.mono s13.out.size))
    have hR14h := Lib.hid hR14
    have hS := Lib.hid (rWithin_any cC a far w14 (hC1.out.below s14.out) hwf.out)
    unfold RetW at hS
    rw [hWLH.out, hwnH.out] at hS
    clear hb14 hR14
    go_wp2_with fail
    refine hS.out.mono ?_; rintro e w15 ⟨A15, c15, rfl, hR15, _, _, hb15⟩
    have s15 := Lib.hid (s14.out.trans (hb15.mono s14.out.size))
    have hS := Lib.hid (sameI_any A14 wn c14 WL A15 wn c15 WL w15 (hR14h.out.below hb15) hR15 (by have := hwl.out; omega) (by have := hwl.out; omega))
    rw [decide_eq_true rfl] at hS
    clear hb15 hR15
    go_wp2_with fail
    refine hS.out.mono ?_; rintro e w16 ⟨rfl, hb16⟩
    have s16 := Lib.hid (s15.out.trans (hb16.mono s15.out.size))
    clear hb16
    go_wp2_with fail
    go_returns
    exact ⟨rfl, hup.out _ s16.out⟩
end Go.Proofs.Ytonkkibnigdfbaa
