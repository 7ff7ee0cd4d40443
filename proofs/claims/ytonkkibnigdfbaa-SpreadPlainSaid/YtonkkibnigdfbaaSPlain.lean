/-
  Walk: timetablelaw15.SpreadPlain answers true (clo/gen10.py).
-/
import Derived.Test.YtonkkibnigdfbaaPlSpr
import Derived.Test.YtonkkibnigdfbaaRMk
import Derived.Test.YtonkkibnigdfbaaClLen
import Derived.Test.YtonkkibnigdfbaaOwnN
import Derived.Test.YtonkkibnigdfbaaMoreLaw
import Derived.Test.YtonkkibnigdfbaaPick15
import Derived.Test.YtonkkibnigdfbaaChain
namespace Go.Proofs.Ytonkkibnigdfbaa
open Go.RowKit Go.Shelf B K
set_option linter.unusedVariables false
set_option linter.unusedSimpArgs false
set_option maxHeartbeats 4000000
theorem mkWins (n : Nat) (w : World) (hn : n ≤ 1099511627) : (Instr.makeSlice 22 (.int .i64 (n : Int)) (.int .i64 (n : Int))).run Try.prog w = .ok (.slice (some ⟨w.heap.size, 0, none⟩) n n) (w.alloc (.cells (madeCells #[.slice none 0 0] n) 36)) := by
  obtain ⟨i, hi, hz, hs, hb⟩ := info_parts (show (Try.prog.info? 36).map (fun i => (i.zero, i.size, i.bytes)) = some (some (.slice none 0 0), 1, 24) by kernel_rfl)
  have := run_make w 22 36 i _ Try.underlying22 hi hz .i64 .i64 (n : Int) (n : Int) (by omega) (Int.le_refl _) (by rw [hb]; omega) (by omega)
  rw [hs] at this
  simpa [Value.cells] using this
theorem flat_rep (n : Nat) : (List.replicate n (([], (none, 0)) : RwV)).flatMap rwE = List.replicate n (.slice none 0 0) := by
  induction n with
  | zero => rfl
  | succ k ih => rw [List.replicate_succ, List.flatMap_cons, ih, List.replicate_succ]; rfl
theorem made_csV (w : World) (n : Nat) (hn : n ≤ 1099511627776) : CsV (w.alloc (.cells (madeCells #[.slice none 0 0] n) 36)) w.heap.size (.slice (some ⟨w.heap.size, 0, none⟩) n n) (List.replicate n []) (List.replicate n ([], (none, 0))) := by
  refine ⟨by simp, ⟨by rw [flat_rep]; simp, .inr ⟨w.heap.size, n, _, by simp, Nat.le_refl _, heap_alloc_new w _, by simp, by rw [maxLen_num]; omega, by simp [size_madeCells], ?_⟩⟩, fun x hx => ?_⟩
  · rw [flat_rep, toList_madeCells_one]; simp
  · rw [List.mem_replicate] at hx
    rw [hx.2]
    exact OwnR.nil
/-- the new net reads as a net -/
theorem pl_rnet {w w0 : World} {base : Nat} {A B : Option Addr} {n c m d : Nat} {N : NetP} {cv : List RwV} {lv : List LkV} (hc : CsV w base (.slice A n c) N.cs cv) (hf : lv.map Prod.fst = N.ls) (hr : w.ownsRow base 38 7 (.slice B m d) N.ls.length (lv.flatMap lkE))
    (hi : ∀ x ∈ lv, (Rd w 2 pairE x.2.1.1 x.1.op.length x.1.op ∧ x.1.op.length ≤ x.2.1.2 ∧ x.2.1.2 ≤ 9223372036854775807) ∧ (Rd w 2 pairE x.2.2.1 x.1.cl.length x.1.cl ∧ x.1.cl.length ≤ x.2.2.2 ∧ x.2.2.2 ≤ 9223372036854775807)) : RNet w N A n B m := by
  have hll : lv.length = N.ls.length := by rw [← hf, List.length_map]
  obtain ⟨A', c', eA, hrc, c1, c2⟩ := Rd.of_own rwE_len hc.len hc.row
  obtain ⟨B', d', eB, hq, d1, d2⟩ := Rd.of_own lkE_len hll hr
  cases eA; cases eB
  refine ⟨rfl, rfl, fun k l hk => ?_, fun k l hk => ?_⟩
  · have hlt := (List.getElem?_eq_some_iff.1 hk).1
    obtain ⟨b, o, rfl, hb, hcell⟩ := hrc.cells (by omega)
    have hk' := hk
    rw [← hc.fst, List.getElem?_map] at hk'
    obtain ⟨x, hx, rfl⟩ := Option.map_eq_some_iff.1 hk'
    have ho := hc.inn x (List.mem_of_getElem? hx)
    have h1 := hcell k x hx 0 _ rfl
    rw [Nat.mul_one, Nat.add_zero] at h1
    exact ⟨b, o, x.2.1, x.1.length, x.2.2, rfl, hb, h1, ho.rd, ho.2⟩
  · have hlt := (List.getElem?_eq_some_iff.1 hk).1
    obtain ⟨b, o, rfl, hb, hcell⟩ := hq.cells (by omega)
    have hk' := hk
    rw [← hf, List.getElem?_map] at hk'
    obtain ⟨x, hx, rfl⟩ := Option.map_eq_some_iff.1 hk'
    have ho := hi x (List.mem_of_getElem? hx)
    exact ⟨b, o, x.2.1.1, x.1.op.length, x.2.1.2, x.2.2.1, x.1.cl.length, x.2.2.2, rfl, hb, ho.1, ho.2,
      hcell k x hx 0 _ rfl, hcell k x hx 1 _ rfl, hcell k x hx 2 _ rfl, hcell k x hx 3 _ rfl, hcell k x hx 4 _ rfl, hcell k x hx 5 _ rfl, hcell k x hx 6 _ rfl⟩
def InnL (w : World) (lv : List LkV) : Prop := ∀ x ∈ lv, (Rd w 2 pairE x.2.1.1 x.1.op.length x.1.op ∧ x.1.op.length ≤ x.2.1.2 ∧ x.2.1.2 ≤ 9223372036854775807) ∧ (Rd w 2 pairE x.2.2.1 x.1.cl.length x.1.cl ∧ x.1.cl.length ≤ x.2.2.2 ∧ x.2.2.2 ≤ 9223372036854775807)
theorem plN_small {N : NetP} (hs : Small N) (j : Nat) (hj : j ≤ (plainI N).length) : Small (plN N j) := by
  have h1 := hs.cn
  have h2 := hs.ln
  have h3 := hs.lw
  have h4 := plainI_len N
  refine ⟨?_, ?_, ?_, ?_⟩
  all_goals first
    | (simp only [plN, List.length_replicate]; omega)
    | (simp only [plN]; rw [plLk_len N j hj]; omega)
    | (intro x hx; simp only [plN, List.mem_replicate] at hx; rw [hx.2]; simp)
    | (intro l hl; exact h3 l (plLk_mem hl).1)
set_option maxRecDepth 100000 in
theorem splain_any {N : NetP} {A : Option Addr} {n c : Nat} {B : Option Addr} {m d : Nat} (stop t : Int) (w : World) (hr : RNet w N A n B m) (hst : -9223372036854775808 ≤ stop ∧ stop ≤ 9223372036854775807) :
    Calls Try.prog 3 #[.agg #[.int .i64 N.hz, .slice A n c, .slice B m d], .int .i64 stop, .int .i64 t] w fun e w' => e = .returned (.bool true) ∧ Below w.heap.size w w' := by
  have hnn : Hid (N.cs.length = n) := hr.nn
  have hmm : Hid (N.ls.length = m) := hr.mm
  obtain ⟨hz, hhz⟩ : ∃ q, N.hz = q := ⟨_, rfl⟩
  rw [hhz]
  have hb1 : Below w.heap.size w (w.alloc (.cells #[.int .i64 hz, .slice A n c, .slice B m d] 25)) := (Below.refl _ w).alloc (Nat.le_refl _) _
  obtain ⟨x0, x1, x2⟩ := rowBx3 w 25 (.int .i64 hz) (.slice A n c) (.slice B m d)
  have hbn1 : w.heap.size < (w.alloc (.cells #[.int .i64 hz, .slice A n c, .slice B m d] 25)).heap.size := by simp
  obtain ⟨w1, hw1⟩ : ∃ q, w.alloc (.cells #[.int .i64 hz, .slice A n c, .slice B m d] 25) = q := ⟨_, rfl⟩
  rw [hw1] at hb1 x0 x1 x2 hbn1
  have hup : Hid (∀ w2, Below w1.heap.size w1 w2 → Below w.heap.size w w2) := fun w2 h => hb1.trans (h.mono hb1.size)
  obtain ⟨bn, hbn⟩ : ∃ q, w.heap.size = q := ⟨_, rfl⟩
  rw [hbn] at x0 x1 x2 hbn1
  have hR := Lib.hid (hr.below hb1)
  have hX : Hid (∀ U, Below w1.heap.size w1 U → U.cell? ⟨bn, 0, none⟩ = some (.int .i64 hz) ∧ U.cell? ⟨bn, 1, none⟩ = some (.slice A n c) ∧ U.cell? ⟨bn, 2, none⟩ = some (.slice B m d)) := fun U hU =>
    ⟨(hU.cell (p := ⟨bn, 0, none⟩) hbn1).trans x0, (hU.cell (p := ⟨bn, 1, none⟩) hbn1).trans x1, (hU.cell (p := ⟨bn, 2, none⟩) hbn1).trans x2⟩
  have hhzH := Lib.hid hhz
  clear hb1 hr x0 x1 x2 hhz
  go_enter Try.func3, Try.ntmps3
  go_wp2_with fail
  refine (slives_any _).mono ?_; rintro e w2 ⟨rfl, hb2⟩
  obtain ⟨y0, y1, y2⟩ := hX.out _ hb2
  have hL := Lib.hid (lightNet_any (c := c) (d := d) (hz := hz) w2 (hR.out.below hb2))
  have hb2 := Lib.hid hb2
  rename_i hb20; clear hb20 hw1 hbn
  go_wp2_with fail
  refine hL.out.mono ?_; rintro e w3 ⟨b, rfl, hbt, hb3⟩
  have hb13 := hb2.out.trans (hb3.mono hb2.out.size)
  clear y0 y1 y2
  obtain ⟨y0, y1, y2⟩ := hX.out _ hb13
  cases b with
  | false =>
    go_wp2_with fail
    go_returns
    exact ⟨rfl, hup.out _ hb13⟩
  | true =>
    have hlt := Lib.hid (hbt rfl)
    have hs := Lib.hid (hlt.out.small (by omega) (by omega) (by omega))
    clear hbt
    have hn40 : n ≤ 1000 := by have := hs.out.cn; have := hnn.out; omega
    have hm40 : m ≤ 1000 := by have := hs.out.ln; have := hmm.out; omega
    have hK := Lib.hid (r11check_any (c := c) (d := d) hs.out w3 (hR.out.below hb13))
    rw [hhzH.out] at hK
    have hb13h := Lib.hid hb13
    clear hb13
    go_wp2_with fail
    refine hK.out.mono ?_; rintro e w4 ⟨rfl, hb4⟩
    have hb14 := hb13h.out.trans (hb4.mono hb13h.out.size)
    clear y0 y1 y2 hK
    obtain ⟨y0, y1, y2⟩ := hX.out _ hb14
    rcases chkN_cases N with hk | hk
    rotate_left
    · rw [hk]
      clear hk
      go_wp2_with fail
      go_returns
      exact ⟨rfl, hup.out _ hb14⟩
    rw [hk]
    have hN := Lib.hid (chkN_iff.1 hk)
    have hkH := Lib.hid hk
    clear hk
    by_cases h0 : n = 0
    · have d0 : ((n : Int) == 0) = true := by simp [h0]
      have d0' : (n == 0) = true := by simp [h0]
      clear h0
      go_wp2_with fail
      go_returns
      exact ⟨rfl, hup.out _ hb14⟩
    have d0 : ((n : Int) == 0) = false := by simp [h0]
    have d0' : (n == 0) = false := by simp [h0]
    by_cases q3 : t < 0
    · have e3 : decide (t < 0) = true := decide_eq_true q3
      go_wp2_with fail
      go_returns
      exact ⟨rfl, hup.out _ hb14⟩
    have e3 : decide (t < 0) = false := decide_eq_false q3
    by_cases q4 : hz < t
    · have e4 : decide (hz < t) = true := decide_eq_true q4
      go_wp2_with fail
      go_returns
      exact ⟨rfl, hup.out _ hb14⟩
    have e4 : decide (hz < t) = false := decide_eq_false q4
    have htz : Hid (0 ≤ t ∧ t ≤ N.hz) := by show _ ∧ _; rw [hhzH.out]; omega
    have hzz := hN.out.hz
    rw [hhzH.out] at hzz
    have hP := Lib.hid (rPlain_any (c := c) (d := d) hs.out w4 (hR.out.below hb14))
    have hpl : Hid (plR N = plZ N m) := by show _ = _; unfold plR; rw [if_pos hkH.out, hmm.out]
    have hpI := Lib.hid (plZ_I hmm.out)
    obtain ⟨q, hq⟩ : ∃ q, (plZ N m).length = q := ⟨_, rfl⟩
    have hqm : q ≤ 1000 := by have := plZ_len N m; omega
    have hqH := Lib.hid hq
    have hqI : Hid (q = (plainI N).length) := by show _ = _; rw [← hq]; exact hpI.out
    unfold RetP at hP
    rw [hhzH.out, hpl.out, hkH.out, hq] at hP
    have hb14h := Lib.hid hb14
    clear hb14 hb3 hb4 hq
    go_wp2_with fail
    refine hP.out.mono ?_; rintro e w5 ⟨A5, c5, rfl, hR5, hb5⟩
    have s5 := Lib.hid (hb14h.out.trans (hb5.mono hb14h.out.size))
    have hR5h := Lib.hid hR5
    clear y0 y1 y2 hP hb5 hR5
    obtain ⟨y0, y1, y2⟩ := hX.out _ s5.out
    have hM := Lib.hid (rmake_any (c := c) (d := d) hs.out w5 (hR.out.below s5.out))
    have hml : (mkC N).length = n := by rw [mkC_len hN.out]; exact hnn.out
    unfold RetM at hM
    rw [hhzH.out, hml, hkH.out] at hM
    clear hml
    go_wp2_with fail
    refine hM.out.mono ?_; rintro e w6 ⟨A6, c6, rfl, hC6, _, _, hb6⟩
    have s6 := Lib.hid (s5.out.trans (hb6.mono s5.out.size))
    have hC6h := Lib.hid hC6
    have hR6h := Lib.hid (hR5h.out.below hb6)
    clear y0 y1 y2 hM hb6 hC6
    obtain ⟨y0, y1, y2⟩ := hX.out _ s6.out
    have hbn6 : bn < w6.heap.size := by have := s6.out.size; omega
    go_wp2_with fail
    go_upto_region 9 with fail
    refine wp_region_ghost (fun fl x w => GN1 w6 (List.replicate n []) hz (fl 5) (fl 6) (fl 7) (fl 8) (x 5) (x 6) (x 7) w) (by kernel_rfl) (by kernel_rfl) (by kernel_rfl) (by kernel_rfl) (by kernel_rfl) ?_ ?_
    · intro x0
      exact GN1.start rfl rfl rfl rfl
    intro base O hbase hO
    have kx3 : Hid (∀ xs, evX base O xs (.tmp 3) = .pointer (some ⟨bn, 0, none⟩)) := fun xs => by rw [hbase, hO]; rfl
    have kx11 : Hid (∀ xs, evX base O xs (.tmp 11) = xs 7) := fun xs => by rw [hO]; rfl
    have kx60 : Hid (∀ xs, evX base O xs (.tmp 60) = xs 0) := fun xs => by rw [hO]; rfl
    have kx61 : Hid (∀ xs, evX base O xs (.tmp 61) = xs 1) := fun xs => by rw [hO]; rfl
    have kx62 : Hid (∀ xs, evX base O xs (.tmp 62) = xs 2) := fun xs => by rw [hO]; rfl
    have kx63 : Hid (∀ xs, evX base O xs (.tmp 63) = xs 3) := fun xs => by rw [hO]; rfl
    have kx64 : Hid (∀ xs, evX base O xs (.tmp 64) = xs 4) := fun xs => by rw [hO]; rfl
    have kx65 : Hid (∀ xs, evX base O xs (.tmp 65) = xs 5) := fun xs => by rw [hO]; rfl
    have kx66 : Hid (∀ xs, evX base O xs (.tmp 66) = xs 6) := fun xs => by rw [hO]; rfl
    clear hbase hO
    apply gh_det (n := 0)
    · intro fl xs w ev hG hD hl hdone hev K hK
      have e3 := (hev (.tmp 3)).trans (kx3.out xs)
      rw [if_pos (wantedX_none rfl)]
      have ef : ∀ f, ev (.func f) = .func (.func f) #[] #[] := fun f => (hev _).trans rfl
      clear hev hD
      go_simp
      exact hK _ _ rfl hG
    apply gh_det (n := 1)
    · intro fl xs w ev hG hD hl hdone hev K hK
      have e60 := (hev (.tmp 60)).trans (kx60.out xs)
      have d0 := hD.at_ 0 rfl rfl
      replace e60 := e60.trans d0
      rw [if_pos (wantedX_none rfl)]
      have ef : ∀ f, ev (.func f) = .func (.func f) #[] #[] := fun f => (hev _).trans rfl
      clear hev hD
      have m0 := (hG.bel.cell (p := ⟨bn, _, none⟩) hbn6).trans y0
      go_simp
      exact hK _ _ rfl hG
    apply gh_det (n := 2)
    · intro fl xs w ev hG hD hl hdone hev K hK
      have e3 := (hev (.tmp 3)).trans (kx3.out xs)
      rw [if_pos (wantedX_none rfl)]
      have ef : ∀ f, ev (.func f) = .func (.func f) #[] #[] := fun f => (hev _).trans rfl
      clear hev hD
      go_simp
      exact hK _ _ rfl hG
    apply gh_det (n := 3)
    · intro fl xs w ev hG hD hl hdone hev K hK
      have e62 := (hev (.tmp 62)).trans (kx62.out xs)
      have d2 := hD.at_ 2 rfl rfl
      replace e62 := e62.trans d2
      rw [if_pos (wantedX_none rfl)]
      have ef : ∀ f, ev (.func f) = .func (.func f) #[] #[] := fun f => (hev _).trans rfl
      clear hev hD
      have m1 := (hG.bel.cell (p := ⟨bn, _, none⟩) hbn6).trans y1
      go_simp
      exact hK _ _ rfl hG
    apply gh_det (n := 4)
    · intro fl xs w ev hG hD hl hdone hev K hK
      have e63 := (hev (.tmp 63)).trans (kx63.out xs)
      have d3 := hD.at_ 3 rfl rfl
      replace e63 := e63.trans d3
      rw [if_pos (wantedX_none rfl)]
      have ef : ∀ f, ev (.func f) = .func (.func f) #[] #[] := fun f => (hev _).trans rfl
      clear hev hD
      go_simp
      exact hK _ _ rfl hG
    refine gh_any (n := 5) (fun _ => True) ?_ ?_
    · intro fl xs w ev hG hD hl hdone hev K hK
      have e64 := (hev (.tmp 64)).trans (kx64.out xs)
      have d4 := hD.at_ 4 rfl rfl
      replace e64 := e64.trans d4
      have e64 := (hev (.tmp 64)).trans (kx64.out xs)
      have d4 := hD.at_ 4 rfl rfl
      replace e64 := e64.trans d4
      rw [if_pos (wantedX_none rfl)]
      have ef : ∀ f, ev (.func f) = .func (.func f) #[] #[] := fun f => (hev _).trans rfl
      clear hev hD
      have hmk := mkWins n w (by omega)
      have hcs := made_csV w n (by omega)
      have hbm := (Below.refl _ w).alloc (Nat.le_refl _) (.cells (madeCells #[.slice none 0 0] n) 36)
      have hh := hG.call (s := (some ⟨w.heap.size, 0, none⟩, n)) hl (by simpa [slV] using hcs) hbm
      simp only [slV, List.length_replicate] at hh
      clear hcs hbm hG
      go_simp
      exact hK _ _ trivial hh
    refine gh_any (n := 6) (fun _ => True) ?_ ?_
    · intro fl xs w ev hG hD hl hdone hev K hK
      have e61 := (hev (.tmp 61)).trans (kx61.out xs)
      have d1 := hD.at_ 1 rfl rfl
      replace e61 := e61.trans d1
      have e65 := (hev (.tmp 65)).trans (kx65.out xs)
      rw [if_pos (wantedX_none rfl)]
      have ef : ∀ f, ev (.func f) = .func (.func f) #[] #[] := fun f => (hev _).trans rfl
      clear hev hD
      have h4 := done_of hdone 5 rfl
      obtain ⟨s, cv, e4, hc⟩ := hG.cs h4
      have hG5 := hG.build h4 hl
      rw [e4] at e65
      simp only [slV] at e65
      have hv : Value.agg #[.int .i64 hz, xs 5, .slice none 0 0] = .agg #[.int .i64 hz, .slice s.1 (List.replicate n ([] : W.Row)).length s.2, .slice none 0 0] := by rw [e4]; rfl
      rw [hv] at hG5
      clear hv
      simp only [List.length_replicate] at hG5 e65
      go_simp
      exact hK _ _ trivial hG5
    refine gh_any (n := 7) (fun _ => True) ?_ ?_
    · intro fl xs w ev hG hD hl hdone hev K hK
      rw [if_pos (wantedX_none rfl)]
      have ef : ∀ f, ev (.func f) = .func (.func f) #[] #[] := fun f => (hev _).trans rfl
      clear hev hD
      go_simp
      exact hK _ _ trivial (hG.alloc hl)
    refine gh_any (n := 8) (fun _ => True) ?_ ?_
    · intro fl xs w ev hG hD hl hdone hev K hK
      have e11 := (hev (.tmp 11)).trans (kx11.out xs)
      have e66 := (hev (.tmp 66)).trans (kx66.out xs)
      rw [if_pos (wantedX_none rfl)]
      have ef : ∀ f, ev (.func f) = .func (.func f) #[] #[] := fun f => (hev _).trans rfl
      clear hev hD
      have h5 := done_of hdone 6 rfl
      have h6 := done_of hdone 7 rfl
      obtain ⟨g, eg, hg, hgc⟩ := hG.bx h6
      rw [show fl 8 = false from hl, if_neg (by simp)] at hgc
      obtain ⟨s, cv, e4, hc⟩ := hG.cs (hG.c54 h5)
      have h5b := hG.bd h5
      obtain ⟨⟨f0, f1, f2⟩, hnew⟩ := setN3 (.int .i64 hz) (.slice s.1 n s.2) (.slice none 0 0) hgc
      have hst := GN1.store (u := .slice s.1 n s.2) (e4.trans (by simp [slV])) hG h5 h6 eg (KeepT.set3 (.int .i64 hz) (.slice s.1 n s.2) (.slice none 0 0) hgc (by decide)) ((((Below.refl _ _).setCell hg _).setCell hg _).setCell hg _) hnew
      have q0 : w.cell? ⟨g, 0, none⟩ = some (.int .i64 0) := by rw [cell_of_row _ _ _ _ _ _ hgc]; rfl
      have q1 : w.cell? ⟨g, 1, none⟩ = some (.slice none 0 0) := by rw [cell_of_row _ _ _ _ _ _ hgc]; rfl
      have q2 : w.cell? ⟨g, 2, none⟩ = some (.slice none 0 0) := by rw [cell_of_row _ _ _ _ _ _ hgc]; rfl
      replace e11 := e11.trans eg
      replace e66 := e66.trans h5b
      rw [e4] at e66
      simp only [slV, List.length_replicate] at e66
      clear hgc hnew h5b hG e4 eg
      go_simp
      exact hK _ _ trivial hst
    clear kx3 kx11 kx60 kx61 kx62 kx63 kx64 kx65 kx66
    intro xs w7 hG hI
    clear hI
    obtain ⟨hb7, _, _, _, hcs, _, hbx⟩ := hG
    obtain ⟨⟨qA, qc⟩, cv, e4', hCs⟩ := hcs rfl
    obtain ⟨bo, e6', hbo, hbc⟩ := hbx rfl
    rw [if_pos rfl, e4'] at hbc
    simp only [slV, List.length_replicate] at hbc
    simp only [List.append_eq, List.cons_append, List.nil_append, setAll, List.setIfInBounds_toArray, List.set_cons_zero, List.set_cons_succ]
    rw [e6']
    rw [e4'] at hCs
    simp only [slV, List.length_replicate] at hCs
    have hCsH := Lib.hid hCs
    have hbcH := Lib.hid hbc
    have hb67 := Lib.hid hb7
    have s7 := Lib.hid (s6.out.trans (hb7.mono s6.out.size))
    have hbow : Hid (w6.heap.size ≤ bo) := hbo
    clear hb7 hcs hbx hbc hCs e4' e6' y0 y1 y2 hbo
    go_wp2_with fail
    go_loopw [12] (fun i wr => ∃ (k : Nat) (sA : Option Addr) (sc : Nat) (lv : List LkV), k ≤ q ∧ i = .int .i64 k ∧ Hid (wr.heap[bo]? = some (.cells #[.int .i64 hz, .slice qA n qc, .slice sA k sc] 25 (0, 0))) ∧ Hid (CsV wr w6.heap.size (.slice qA n qc) (List.replicate n []) cv) ∧ Hid (wr.ownsRow w6.heap.size 38 7 (.slice sA k sc) k (lv.flatMap lkE)) ∧ Hid (lv.map Prod.fst = plLk N k) ∧ Hid (InnL w6 lv) ∧ Hid (Below w6.heap.size w6 wr)) (fun i _ => q - (intOf i).toNat)
    case atStart => exact ⟨0, none, 0, [], Nat.zero_le _, rfl, hbcH, hCsH, World.ownsRow_nil _ _ _ _, by show _ = _; simp [plLk], (fun x hx => by cases hx), hb67⟩
    case round =>
      clear hCsH hbcH hb67
      obtain ⟨k, sA, sc, lv, hk, rfl, hbo, hC, own, hfst, hinn, hb⟩ := hrel
      have hbw := Lib.hid (s6.out.trans (hb.out.mono s6.out.size))
      have hbow' := hbow.out
      by_cases hkq : k < q
      · obtain ⟨bP, oP, x, rfl, hbP6, hxj, fP6⟩ := hR6h.out.num hkq
        obtain ⟨i, rfl, hij⟩ := plZ_all hmm.out hxj
        obtain ⟨l, hl, hp⟩ := plainI_at hij
        have hlti : i < m := by have := (List.getElem?_eq_some_iff.1 hl).1; have := hmm.out; omega
        obtain ⟨l', hl', b, o, pA, pn, pc, kA, kn, kc, rfl, hbl6, ro, rk, k0, k1, k2, k3, k4, k5, k6⟩ := (hR.out.below s6.out).lnk hlti
        rw [hl] at hl'; cases hl'
        obtain ⟨z0, z1, z26⟩ := hX.out _ s6.out
        have e1 := ro.1.len
        have e2 := rk.1.len
        subst e1
        subst e2
        have hsn := Lib.hid (plLk_snoc hij hl)
        have hinn2 : Hid (InnL w6 (lv ++ [(l, (pA, pc), (kA, kc))])) := fun x hx => by
          rcases List.mem_append.1 hx with hx | hx
          · exact hinn.out x hx
          · simp only [List.mem_singleton] at hx; subst hx; exact ⟨ro, rk⟩
        have hfst2 : Hid ((lv ++ [(l, (pA, pc), (kA, kc))]).map Prod.fst = plLk N (k + 1)) := by show _ = _; rw [List.map_append, hfst.out, hsn.out]; rfl
        have hlvl : lv.length = k := by
          have := congrArg List.length hfst.out
          rw [List.length_map, plLk_len N k (by have := hqI.out; omega)] at this
          exact this
        have hkI : (k : Int) < (q : Int) := by omega
        have hiI : (i : Int) < (m : Int) := by omega
        obtain ⟨W0, hW0⟩ : ∃ W0, ({ wr with drawn := wr.drawn + 1 } : World) = W0 := ⟨_, rfl⟩
        have hbW0 : Below wr.heap.size wr W0 := by rw [← hW0]; exact ⟨rfl, rfl, rfl, Nat.le_refl _, fun _ _ => rfl⟩
        have hzW0 : W0.heap.size = wr.heap.size := by rw [← hW0]
        have hbo0 : W0.heap[bo]? = some (.cells #[.int .i64 hz, .slice qA n qc, .slice sA k sc] 25 (0, 0)) := by rw [← hW0]; exact hbo.out
        have own0 : W0.ownsRow w6.heap.size 38 7 (.slice sA k sc) lv.length (lv.flatMap lkE) := by rw [hlvl]; exact own_up own.out hbW0
        have hb60 : Below w6.heap.size w6 W0 := hb.out.trans (hbW0.mono hb.out.size)
        obtain ⟨g, cc, W2, hrun0, own2, hgr, _⟩ := append_one (enc := lkE) Try.underlying23 infoLinkV rfl (by decide) lkE_len lkE_one W0 w6.heap.size (.slice sA k sc) lv (l, (pA, pc), (kA, kc)) own0 (by omega) (by decide) hb60.size
        obtain ⟨W1, hW1⟩ : ∃ W1, W0.alloc (.cells (lkE (l, (pA, pc), (kA, kc))).toArray 38) = W1 := ⟨_, rfl⟩
        have ha1 : Below W0.heap.size W0 W1 := by rw [← hW1]; exact (Below.refl _ W0).alloc (Nat.le_refl _) _
        have own01 := own0.alloc (.cells (lkE (l, (pA, pc), (kA, kc))).toArray 38)
        rw [hW1] at hrun0 hgr own01
        have hll2 : (lv ++ [(l, (pA, pc), (kA, kc))]).length = k + 1 := by simp [hlvl]
        rw [hlvl] at hrun0
        rw [hll2, hlvl] at own2
        have hbo1 : W1.heap[bo]? = some (.cells #[.int .i64 hz, .slice qA n qc, .slice sA k sc] 25 (0, 0)) := (ha1.block bo (Array.getElem?_eq_some_iff.1 hbo0).1).trans hbo0
        have hk12 : KeepT W1 W2 [25, 36, 70] := KeepT.grown own01 hgr (by decide)
        have hbo2 := hk12 bo _ 25 (by decide) hbo1
        obtain ⟨⟨fz0, fz1, fz2⟩, _⟩ := setN3 (.int .i64 0) (.int .i64 0) (.int .i64 0) hbo2
        have fz2 := Lib.hid fz2
        rename_i fz2X; clear fz2X fz0 fz1
        have p0 : Hid (W0.cell? ⟨bo, 2, none⟩ = some (.slice sA k sc)) := by show _ = _; rw [cell_of_row _ _ _ _ _ _ hbo0]; rfl
        have p1 : Hid (W1.cell? ⟨bo, 2, none⟩ = some (.slice sA k sc)) := by show _ = _; rw [cell_of_row _ _ _ _ _ _ hbo1]; rfl
        have p2 : Hid (W2.cell? ⟨bo, 2, none⟩ = some (.slice sA k sc)) := by show _ = _; rw [cell_of_row _ _ _ _ _ _ hbo2]; rfl
        obtain ⟨W3, hW3⟩ : ∃ W3, W2.setCell ⟨bo, 2, none⟩ (.slice (some ⟨g, 0, none⟩) (k + 1) cc) = W3 := ⟨_, rfl⟩
        have hbo3 : W3.heap[bo]? = some (.cells #[.int .i64 hz, .slice qA n qc, .slice (some ⟨g, 0, none⟩) (k + 1) cc] 25 (0, 0)) := by
          have hlt' := (Array.getElem?_eq_some_iff.1 hbo2).1
          have e : W2.heap[bo] = .cells #[.int .i64 hz, .slice qA n qc, .slice sA k sc] 25 (0, 0) := by rw [Array.getElem?_eq_getElem hlt'] at hbo2; exact Option.some.inj hbo2
          rw [← hW3]
          simp [World.setCell, hlt', Array.getElem_modify, e]
        have hkS : KeepT W2 W3 [38, 36, 70] := by rw [← hW3]; exact KeepT.set hbo2 (by decide)
        have hC3 := Lib.hid ((((hC.out.up hbW0).up ha1).keepT (hk12.sub (by decide))).keepT (hkS.sub (by decide)))
        have own3 : Hid (W3.ownsRow w6.heap.size 38 7 (.slice (some ⟨g, 0, none⟩) (k + 1) cc) (k + 1) ((lv ++ [(l, (pA, pc), (kA, kc))]).flatMap lkE)) := own_keepT own2 hkS (by decide)
        have hB1 : Hid (Below w6.heap.size W0 W1) := ha1.mono hb60.size
        have hB2 : Hid (Below w6.heap.size W0 W2) := hB1.out.trans ((Below.refl _ _).grown hgr (by have := hb60.size; have := ha1.size; omega) fun g hg => (own01.lt g hg).1)
        have hB3 : Hid (Below w6.heap.size W0 W3) := by
          show Below _ _ _
          rw [← hW3]; exact hB2.out.setCell (p := ⟨bo, 2, none⟩) hbow' _
        have hrun := Lib.hid hrun0
        have hW0 := Lib.hid hW0
        have hW1 := Lib.hid hW1
        have hW3 := Lib.hid hW3
        have hb60H := Lib.hid hb60
        have hbo3H := Lib.hid hbo3
        have fP := (hb60.cell (p := ⟨bP, _, none⟩) hbP6).trans fP6
        have z2 := (hb60.cell (p := ⟨bn, _, none⟩) hbn6).trans z26
        have c0 := (hb60.cell (p := ⟨b, _, none⟩) hbl6).trans k0
        have c1 := (hb60.cell (p := ⟨b, _, none⟩) hbl6).trans k1
        have c2' := (hb60.cell (p := ⟨b, _, none⟩) hbl6).trans k2
        have c3 := (hb60.cell (p := ⟨b, _, none⟩) hbl6).trans k3
        have c4 := (hb60.cell (p := ⟨b, _, none⟩) hbl6).trans k4
        have c5' := (hb60.cell (p := ⟨b, _, none⟩) hbl6).trans k5
        have c6 := (hb60.cell (p := ⟨b, _, none⟩) hbl6).trans k6
        clear fP6 z26 k0 k1 k2 k3 k4 k5 k6
        obtain ⟨la, lb, ln, ld, lo, op, cl⟩ := l
        simp only at c0 c1 c2' c3 c4
        clear hbW0 hzW0 hbo0 own0 own2 hgr ha1 own01 hrun0 hbo1 hk12 hbo2 hbo3 hkS z0 z1 ro rk hl hp hij hxj hbo hC own hfst hb hlvl hll2
        go_wp2_with fail
        go_upto_region 13 with fail
        refine wp_region_ghost (fun fl x w => GCh W0 W1 W2 W3 (.slice (some ⟨W0.heap.size, 0, none⟩) 1 1) (.slice (some ⟨g, 0, none⟩) (k + 1) cc) (fl 1) (fl 10) (fl 11) (fl 13) (x 10) (x 11) w) (by kernel_rfl) (by kernel_rfl) (by kernel_rfl) (by kernel_rfl) (by kernel_rfl) ?_ ?_
        · intro x0
          have := GCh.start (W0 := W0) (W1 := W1) (W2 := W2) (W3 := W3) (va := .slice (some ⟨W0.heap.size, 0, none⟩) 1 1) (vb := .slice (some ⟨g, 0, none⟩) (k + 1) cc) (xa := x0 10) (xb := x0 11) (f1 := false) (fa := false) (fb := false) (fc := false) rfl rfl rfl rfl
          rw [← hW0.out] at this ⊢
          exact this
        intro base O hbase hO
        have kx3 : Hid (∀ xs, evX base O xs (.tmp 3) = .pointer (some ⟨bn, 0, none⟩)) := fun xs => by rw [hbase, hO]; rfl
        have kx7 : Hid (∀ xs, evX base O xs (.tmp 7) = .slice (some ⟨bP, oP, none⟩) q c5) := fun xs => by rw [hbase, hO]; rfl
        have kx11 : Hid (∀ xs, evX base O xs (.tmp 11) = .pointer (some ⟨bo, 0, none⟩)) := fun xs => by rw [hbase, hO]; rfl
        have kx12 : Hid (∀ xs, evX base O xs (.tmp 12) = .int .i64 (k : Int)) := fun xs => by rw [hbase, hO]; rfl
        have kx73 : Hid (∀ xs, evX base O xs (.tmp 73) = xs 0) := fun xs => by rw [hO]; rfl
        have kx74 : Hid (∀ xs, evX base O xs (.tmp 74) = xs 1) := fun xs => by rw [hO]; rfl
        have kx75 : Hid (∀ xs, evX base O xs (.tmp 75) = xs 2) := fun xs => by rw [hO]; rfl
        have kx76 : Hid (∀ xs, evX base O xs (.tmp 76) = xs 3) := fun xs => by rw [hO]; rfl
        have kx77 : Hid (∀ xs, evX base O xs (.tmp 77) = xs 4) := fun xs => by rw [hO]; rfl
        have kx78 : Hid (∀ xs, evX base O xs (.tmp 78) = xs 5) := fun xs => by rw [hO]; rfl
        have kx79 : Hid (∀ xs, evX base O xs (.tmp 79) = xs 6) := fun xs => by rw [hO]; rfl
        have kx80 : Hid (∀ xs, evX base O xs (.tmp 80) = xs 7) := fun xs => by rw [hO]; rfl
        have kx81 : Hid (∀ xs, evX base O xs (.tmp 81) = xs 8) := fun xs => by rw [hO]; rfl
        have kx82 : Hid (∀ xs, evX base O xs (.tmp 82) = xs 9) := fun xs => by rw [hO]; rfl
        have kx83 : Hid (∀ xs, evX base O xs (.tmp 83) = xs 10) := fun xs => by rw [hO]; rfl
        have kx84 : Hid (∀ xs, evX base O xs (.tmp 84) = xs 11) := fun xs => by rw [hO]; rfl
        have kx85 : Hid (∀ xs, evX base O xs (.tmp 85) = xs 12) := fun xs => by rw [hO]; rfl
        clear hbase hO
        apply gh_det (n := 0)
        · intro fl xs w ev hG hD hl hdone hev K hK
          have e11 := (hev (.tmp 11)).trans (kx11.out xs)
          rw [if_pos (wantedX_none rfl)]
          have ef : ∀ f, ev (.func f) = .func (.func f) #[] #[] := fun f => (hev _).trans rfl
          clear hev hD
          go_simp
          exact hK _ _ rfl hG
        apply gh_det (n := 1)
        · intro fl xs w ev hG hD hl hdone hev K hK
          have e73 := (hev (.tmp 73)).trans (kx73.out xs)
          have d0 := hD.at_ 0 rfl rfl
          replace e73 := e73.trans d0
          rw [if_pos (wantedX_none rfl)]
          have ef : ∀ f, ev (.func f) = .func (.func f) #[] #[] := fun f => (hev _).trans rfl
          clear hev hD
          have m0 : w.cell? ⟨bo, 2, none⟩ = some (.slice sA k sc) := (hG.ahead hl).elim (fun e => by rw [e]; exact p0.out) (fun e => by rw [e]; exact p1.out)
          go_simp
          exact hK _ _ rfl hG.rd
        apply gh_det (n := 2)
        · intro fl xs w ev hG hD hl hdone hev K hK
          have e3 := (hev (.tmp 3)).trans (kx3.out xs)
          rw [if_pos (wantedX_none rfl)]
          have ef : ∀ f, ev (.func f) = .func (.func f) #[] #[] := fun f => (hev _).trans rfl
          clear hev hD
          go_simp
          exact hK _ _ rfl hG
        apply gh_det (n := 3)
        · intro fl xs w ev hG hD hl hdone hev K hK
          have e75 := (hev (.tmp 75)).trans (kx75.out xs)
          have d2 := hD.at_ 2 rfl rfl
          replace e75 := e75.trans d2
          rw [if_pos (wantedX_none rfl)]
          have ef : ∀ f, ev (.func f) = .func (.func f) #[] #[] := fun f => (hev _).trans rfl
          clear hev hD
          have hbw := (hG.bel hB1.out hB2.out hB3.out)
          have m0 := (hbw.cell (p := ⟨bn, _, none⟩) hbn6).trans z2
          go_simp
          exact hK _ _ rfl hG
        apply gh_det (n := 4)
        · intro fl xs w ev hG hD hl hdone hev K hK
          have e7 := (hev (.tmp 7)).trans (kx7.out xs)
          rw [if_pos (wantedX_none rfl)]
          have ef : ∀ f, ev (.func f) = .func (.func f) #[] #[] := fun f => (hev _).trans rfl
          clear hev hD
          go_simp
          exact hK _ _ rfl hG
        apply gh_det (n := 5)
        · intro fl xs w ev hG hD hl hdone hev K hK
          have e12 := (hev (.tmp 12)).trans (kx12.out xs)
          rw [if_pos (wantedX_none rfl)]
          have ef : ∀ f, ev (.func f) = .func (.func f) #[] #[] := fun f => (hev _).trans rfl
          clear hev hD
          go_simp
          exact hK _ _ rfl hG
        apply gh_det (n := 6)
        · intro fl xs w ev hG hD hl hdone hev K hK
          have e77 := (hev (.tmp 77)).trans (kx77.out xs)
          have d4 := hD.at_ 4 rfl rfl
          replace e77 := e77.trans d4
          have e78 := (hev (.tmp 78)).trans (kx78.out xs)
          have d5 := hD.at_ 5 rfl rfl
          replace e78 := e78.trans d5
          rw [if_pos (wantedX_none rfl)]
          have ef : ∀ f, ev (.func f) = .func (.func f) #[] #[] := fun f => (hev _).trans rfl
          clear hev hD
          go_simp
          exact hK _ _ rfl hG
        apply gh_det (n := 7)
        · intro fl xs w ev hG hD hl hdone hev K hK
          have e79 := (hev (.tmp 79)).trans (kx79.out xs)
          have d6 := hD.at_ 6 rfl rfl
          replace e79 := e79.trans d6
          rw [if_pos (wantedX_none rfl)]
          have ef : ∀ f, ev (.func f) = .func (.func f) #[] #[] := fun f => (hev _).trans rfl
          clear hev hD
          have hbw := (hG.bel hB1.out hB2.out hB3.out)
          have m0 := (hbw.cell (p := ⟨bP, _, none⟩) hbP6).trans fP
          go_simp
          exact hK _ _ rfl hG
        apply gh_det (n := 8)
        · intro fl xs w ev hG hD hl hdone hev K hK
          have e76 := (hev (.tmp 76)).trans (kx76.out xs)
          have d3 := hD.at_ 3 rfl rfl
          replace e76 := e76.trans d3
          have e80 := (hev (.tmp 80)).trans (kx80.out xs)
          have d7 := hD.at_ 7 rfl rfl
          replace e80 := e80.trans d7
          rw [if_pos (wantedX_none rfl)]
          have ef : ∀ f, ev (.func f) = .func (.func f) #[] #[] := fun f => (hev _).trans rfl
          clear hev hD
          go_simp
          exact hK _ _ rfl hG
        apply gh_det (n := 9)
        · intro fl xs w ev hG hD hl hdone hev K hK
          have e81 := (hev (.tmp 81)).trans (kx81.out xs)
          have d8 := hD.at_ 8 rfl rfl
          replace e81 := e81.trans d8
          rw [if_pos (wantedX_none rfl)]
          have ef : ∀ f, ev (.func f) = .func (.func f) #[] #[] := fun f => (hev _).trans rfl
          clear hev hD
          have hbw := (hG.bel hB1.out hB2.out hB3.out)
          have m0 := (hbw.cell (p := ⟨b, _, none⟩) hbl6).trans c0
          have m1 := (hbw.cell (p := ⟨b, _, none⟩) hbl6).trans c1
          have m2 := (hbw.cell (p := ⟨b, _, none⟩) hbl6).trans c2'
          have m3 := (hbw.cell (p := ⟨b, _, none⟩) hbl6).trans c3
          have m4 := (hbw.cell (p := ⟨b, _, none⟩) hbl6).trans c4
          have m5 := (hbw.cell (p := ⟨b, _, none⟩) hbl6).trans c5'
          have m6 := (hbw.cell (p := ⟨b, _, none⟩) hbl6).trans c6
          go_simp
          exact hK _ _ rfl hG
        refine gh_any (n := 10) (fun _ => True) ?_ ?_
        · intro fl xs w ev hG hD hl hdone hev K hK
          have e82 := (hev (.tmp 82)).trans (kx82.out xs)
          have d9 := hD.at_ 9 rfl rfl
          replace e82 := e82.trans d9
          rw [if_pos (wantedX_none rfl)]
          have ef : ∀ f, ev (.func f) = .func (.func f) #[] #[] := fun f => (hev _).trans rfl
          clear hev hD
          have hw := hG.s0 hl
          have hv : Value.slice (some ⟨w.heap.size, 0, none⟩) 1 1 = .slice (some ⟨W0.heap.size, 0, none⟩) 1 1 := by rw [hw]
          have hw1 : w.alloc (.cells (lkE (⟨la, lb, ln, ld, lo, op, cl⟩, (pA, pc), (kA, kc))).toArray 38) = W1 := by rw [hw]; exact hW1.out
          have hfin := hG.lit hl hw1 hv
          clear hv hw1 hw hG
          go_simp
          exact hK _ _ trivial hfin
        refine gh_any (n := 11) (fun _ => True) ?_ ?_
        · intro fl xs w ev hG hD hl hdone hev K hK
          have e74 := (hev (.tmp 74)).trans (kx74.out xs)
          have d1 := hD.at_ 1 rfl rfl
          replace e74 := e74.trans d1
          have e83 := (hev (.tmp 83)).trans (kx83.out xs)
          rw [if_pos (wantedX_none rfl)]
          have ef : ∀ f, ev (.func f) = .func (.func f) #[] #[] := fun f => (hev _).trans rfl
          clear hev hD
          have hw := hG.s1 (done_of hdone 10 rfl) hl
          have ea := hG.e1 (done_of hdone 10 rfl)
          rw [hw]
          exact outcome_append (.tmp 74) (.tmp 83) 23 rfl e74 (e83.trans ea) hrun.out (hK _ _ trivial (hG.app hl (done_of hdone 1 rfl) (done_of hdone 10 rfl) rfl rfl))
        apply gh_det (n := 12)
        · intro fl xs w ev hG hD hl hdone hev K hK
          have e11 := (hev (.tmp 11)).trans (kx11.out xs)
          rw [if_pos (wantedX_none rfl)]
          have ef : ∀ f, ev (.func f) = .func (.func f) #[] #[] := fun f => (hev _).trans rfl
          clear hev hD
          go_simp
          exact hK _ _ rfl hG
        refine gh_any (n := 13) (fun _ => True) ?_ ?_
        · intro fl xs w ev hG hD hl hdone hev K hK
          have e85 := (hev (.tmp 85)).trans (kx85.out xs)
          have d12 := hD.at_ 12 rfl rfl
          replace e85 := e85.trans d12
          have e84 := (hev (.tmp 84)).trans (kx84.out xs)
          rw [if_pos (wantedX_none rfl)]
          have ef : ∀ f, ev (.func f) = .func (.func f) #[] #[] := fun f => (hev _).trans rfl
          clear hev hD
          have hw := hG.s2 (done_of hdone 11 rfl) hl
          replace e84 := e84.trans (hG.e2 (done_of hdone 11 rfl))
          have hfin := hG.put (w' := W3) (done_of hdone 11 rfl) rfl
          clear hG
          have f2 := fz2.out
          have p9 := p2.out
          rw [hw]
          go_simp
          exact hK _ _ trivial hfin
        clear kx3 kx7 kx11 kx12 kx73 kx74 kx75 kx76 kx77 kx78 kx79 kx80 kx81 kx82 kx83 kx84 kx85
        intro xs w9 hG hI
        clear hI
        have hw9 := hG.s3 rfl
        subst hw9
        have hfin := Lib.hid (hb60H.out.trans hB3.out)
        clear hG
        simp only [List.append_eq, List.cons_append, List.nil_append, setAll, List.setIfInBounds_toArray, List.set_cons_zero, List.set_cons_succ]
        clear fP z2 c0 c1 c2' c3 c4 c5' c6
        go_wp2_with fail
        go_roundw
        case rel => exact ⟨k + 1, some ⟨g, 0, none⟩, cc, _, by omega, by go_num, hbo3H, hC3, own3, hfst2, hinn2, hfin⟩
        case measure => simp [intOf]; omega
      · obtain rfl : k = q := by omega
        have hkl : Hid (plLk N k = plLk N (plainI N).length) := by show _ = _; rw [← hqI.out]
        have hcsl : List.replicate n ([] : W.Row) = (plN N (plainI N).length).cs := by simp only [plN]; rw [hnn.out]
        have hC' := hC.out
        rw [hcsl] at hC'
        have hkk : (plLk N (plainI N).length).length = k := by rw [← hkl.out]; exact plLk_len N k (by have := hqI.out; omega)
        have hRM : RNet wr (plN N (plainI N).length) qA n sA k := pl_rnet (w0 := w6) (N := plN N (plainI N).length) hC' (hfst.out.trans hkl.out) (by show World.ownsRow _ _ _ _ _ (plLk N (plainI N).length).length _; rw [hkk]; exact own.out) (fun x hx => by
          obtain ⟨⟨r1, r2⟩, r3, r4⟩ := hinn.out x hx
          exact ⟨⟨r1.below hb.out, r2⟩, r3.below hb.out, r4⟩)
        have hRMh := Lib.hid hRM
        have hMs := Lib.hid (plN_small hs.out (plainI N).length (Nat.le_refl _))
        have hMo := Lib.hid (plN_ok hN.out (plainI N).length (Nat.le_refl _))
        have p0 : wr.cell? ⟨bo, 0, none⟩ = some (.int .i64 hz) := by rw [cell_of_row _ _ _ _ _ _ hbo.out]; rfl
        have p1 : wr.cell? ⟨bo, 1, none⟩ = some (.slice qA n qc) := by rw [cell_of_row _ _ _ _ _ _ hbo.out]; rfl
        have p2 : wr.cell? ⟨bo, 2, none⟩ = some (.slice sA k sc) := by rw [cell_of_row _ _ _ _ _ _ hbo.out]; rfl
        have hbol := (Array.getElem?_eq_some_iff.1 hbo.out).1
        obtain ⟨z0, z1, z2⟩ := hX.out _ hbw.out
        obtain ⟨wE, hwE⟩ : ∃ q, q = wr := ⟨_, rfl⟩
        subst hwE
        have hPk := Lib.hid (pick_any stop n wE (by omega) hst)
        clear hC' hcsl hkk hRM hinn hfst own hC
        go_wp2_with fail
        refine hPk.out.mono ?_; rintro e w8 ⟨p, rfl, hpn, hb8⟩
        have hpn2 : p < n := by omega
        have s8 := Lib.hid (hbw.out.trans (hb8.mono hbw.out.size))
        have r0 := (hb8.cell (p := ⟨bo, _, none⟩) hbol).trans p0
        have r1 := (hb8.cell (p := ⟨bo, _, none⟩) hbol).trans p1
        have r2 := (hb8.cell (p := ⟨bo, _, none⟩) hbol).trans p2
        have hF := Lib.hid (sfrom_ok (c := qc) (d := sc) (s := p) (t := t) hMs.out (hRMh.out.below hb8) hMo.out hpn2 htz.out)
        have hzM : (plN N (plainI N).length).hz = hz := hhzH.out
        unfold RetFrom at hF
        rw [hzM] at hF
        have hb6E := Lib.hid (hb.out.trans (hb8.mono hb.out.size))
        clear hzM hPk hb8 hb z0 z1 z2 hbol p0 p1 p2
        go_wp2_with fail
        refine hF.out.mono ?_; rintro e w9 ⟨A9, c9, D, rfl, hSp, hI9, _, _, hb9⟩
        have s9 := Lib.hid (s8.out.trans (hb9.mono s8.out.size))
        have hD : Hid (D = plD N t (clD N p)) := by
          have hps : p < N.cs.length := by have := hnn.out; omega
          have h2 := pl_spr hN.out hps htz.out (clD_is hN.out hps)
          rw [hnn.out] at h2
          exact hSp.uniq h2
        have hE9 := Lib.hid hI9.rd
        have hC9 := Lib.hid (hC6h.out.below (hb6E.out.trans (hb9.mono hb6E.out.size)))
        have hcwf := Lib.hid (mkC_wf hN.out (by have := hnn.out; omega))
        have hLn : Hid (∀ b : Nat, b < n → lenC (mkC N) p b = farC N p b ∧ (farC N p b = W.inf ∨ (0 ≤ farC N p b ∧ farC N p b ≤ 1099511627776)) ∧ ∀ x, D[b]? = some x → x = plV N t (farC N p b)) := fun b hb => by
          have h1 : p < N.cs.length := by have := hnn.out; omega
          have h2 : b < N.cs.length := by have := hnn.out; omega
          refine ⟨lenC_mk hN.out h1 h2, farC_rng hN.out h1 h2, fun x hx => ?_⟩
          rw [hD.out] at hx
          unfold plD at hx
          rw [List.getElem?_map, lab_get (D := clD N p) (s := b) (by rw [(clD_is hN.out h1).len]; exact h2)] at hx
          exact (Option.some.inj hx).symm
        have s6b := s6
        clear hF hSp hI9 hb9 r0 r1 r2
        go_wp2_with fail
        go_loopw [15] (fun iv wr => ∃ (b : Nat), b ≤ n ∧ iv = .int .i64 b ∧ Hid (Below w9.heap.size w9 wr)) (fun iv _ => n - (intOf iv).toNat)
        case atStart => exact ⟨0, Nat.zero_le _, rfl, Below.refl _ _⟩
        case round =>
          obtain ⟨b, hbn, rfl, hb⟩ := hrel
          have sw := Lib.hid (s9.out.trans (hb.out.mono s9.out.size))
          by_cases hltb : b < n
          rotate_left
          · obtain rfl : b = n := by omega
            go_wp2_with fail
            go_returns
            exact ⟨rfl, hup.out _ sw.out⟩
          obtain ⟨bA, oA, x, rfl, hbA, hxb, fA⟩ := (hE9.out.below hb.out).num hltb
          obtain ⟨l1, l2, l3⟩ := hLn.out b hltb
          have hx := l3 x hxb
          have hLen := Lib.hid (rLen_any c6 (p : Int) (b : Int) wr (hC9.out.below hb.out) hcwf.out)
          rw [l1] at hLen
          obtain ⟨L, hL⟩ : ∃ q, farC N p b = q := ⟨_, rfl⟩
          rw [hL] at hLen l2 hx
          have hltI : (b : Int) < (n : Int) := by omega
          obtain ⟨z0, _, _⟩ := hX.out _ sw.out
          have hbnr : bn < wr.heap.size := by have := sw.out.size; have := hbn6; have := s6.out.size; omega
          have hxi : W.inf = 4611686018427387904 := rfl
          rw [hxi] at l2
          unfold plV at hx
          rw [hhzH.out, hxi] at hx
          clear l1 l3 hxb hL hxi
          by_cases hLz : L ≤ hz - t
          · rw [if_pos hLz] at hx
            subst hx
            have e5 : decide (L ≤ hz - t) = true := decide_eq_true hLz
            have hL0 : 0 ≤ L := by omega
            have hL1 : L ≤ 1099511627776 := by omega
            clear l2
            go_wp2_with fail
            refine hLen.out.mono ?_; rintro e w10 ⟨rfl, hb10⟩
            have z9 := (hb10.cell (p := ⟨bn, _, none⟩) hbnr).trans z0
            have fB := (hb10.cell (p := ⟨bA, _, none⟩) hbA).trans fA
            have hfin := Lib.hid (hb.out.trans (hb10.mono hb.out.size))
            clear z0 fA hb10 hLen
            go_wp2_with fail
            go_roundw
            case rel => exact ⟨b + 1, by omega, by go_num, hfin⟩
            case measure => simp [intOf]; omega
          · rw [if_neg hLz] at hx
            subst hx
            have e5 : decide (L ≤ hz - t) = false := decide_eq_false hLz
            clear l2
            go_wp2_with fail
            refine hLen.out.mono ?_; rintro e w10 ⟨rfl, hb10⟩
            have z9 := (hb10.cell (p := ⟨bn, _, none⟩) hbnr).trans z0
            have fB := (hb10.cell (p := ⟨bA, _, none⟩) hbA).trans fA
            have hfin := Lib.hid (hb.out.trans (hb10.mono hb.out.size))
            clear z0 fA hb10 hLen
            go_wp2_with fail
            go_roundw
            case rel => exact ⟨b + 1, by omega, by go_num, hfin⟩
            case measure => simp [intOf]; omega
end Go.Proofs.Ytonkkibnigdfbaa
