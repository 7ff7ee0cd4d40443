/-
  Walk: timetablelaw15.SpreadLater answers true.
-/
import Derived.Test.YtonkkibnigdfbaaSpS
import Derived.Deep.DeepCutAuto
import Derived.BigQuiet
namespace Go.Proofs.Ytonkkibnigdfbaa
open Go.RowKit Go.Shelf B K
set_option linter.unusedVariables false
set_option linter.unusedSimpArgs false
set_option maxHeartbeats 4000000
set_option maxRecDepth 100000 in
theorem later_any {N : NetP} {A : Option Addr} {n c : Nat} {B : Option Addr} {m d : Nat} (Ax : Option Addr) (nx cx : Nat) (X : List Int) (Ay : Option Addr) (ny cy : Nat) (Y : List Int) (w : World)
    (hr : RNet w N A n B m) (hrx : Rd w 1 (numE .i64) Ax nx X) (hry : Rd w 1 (numE .i64) Ay ny Y) :
    Calls Try.prog 4 #[.agg #[.int .i64 N.hz, .slice A n c, .slice B m d], .slice Ax nx cx, .slice Ay ny cy] w fun e w' => e = .returned (.bool true) ∧ Below w.heap.size w w' := by
  obtain ⟨hz, hhz⟩ : ∃ q, N.hz = q := ⟨_, rfl⟩
  rw [hhz]
  have hb1 : Below w.heap.size w (w.alloc (.cells #[.int .i64 hz, .slice A n c, .slice B m d] 25)) := (Below.refl _ w).alloc (Nat.le_refl _) _
  obtain ⟨x0, x1, x2⟩ := rowBx3 w 25 (.int .i64 hz) (.slice A n c) (.slice B m d)
  have hbn1 : w.heap.size < (w.alloc (.cells #[.int .i64 hz, .slice A n c, .slice B m d] 25)).heap.size := by simp
  obtain ⟨w1, hw1⟩ : ∃ q, w.alloc (.cells #[.int .i64 hz, .slice A n c, .slice B m d] 25) = q := ⟨_, rfl⟩
  rw [hw1] at hb1 x0 x1 x2 hbn1
  have hup : Hid (∀ w2, Below w1.heap.size w1 w2 → Below w.heap.size w w2) := fun w2 h => hb1.trans (h.mono hb1.size)
  obtain ⟨bn, hbn⟩ : ∃ q, w.heap.size = q := ⟨_, rfl⟩
  rw [hbn] at x0 x1 x2 hbn1
  have hR := Lib.hid (hr.below hb1)
  have hRx := Lib.hid (hrx.below hb1)
  have hRy := Lib.hid (hry.below hb1)
  have hX : Hid (∀ U, Below w1.heap.size w1 U → U.cell? ⟨bn, 0, none⟩ = some (.int .i64 hz) ∧ U.cell? ⟨bn, 1, none⟩ = some (.slice A n c) ∧ U.cell? ⟨bn, 2, none⟩ = some (.slice B m d)) := fun U hU =>
    ⟨(hU.cell (p := ⟨bn, 0, none⟩) hbn1).trans x0, (hU.cell (p := ⟨bn, 1, none⟩) hbn1).trans x1, (hU.cell (p := ⟨bn, 2, none⟩) hbn1).trans x2⟩
  have hhzH := Lib.hid hhz
  clear hb1 hr hrx hry x0 x1 x2 hhz
  go_enter Try.func4, Try.ntmps4
  go_wp2_with fail
  refine (slives_any _).mono ?_; rintro e w2 ⟨rfl, hb2⟩
  obtain ⟨y0, y1, y2⟩ := hX.out _ hb2
  have hL := Lib.hid (lightNet_any (c := c) (d := d) (hz := hz) w2 (hR.out.below hb2))
  have hb2 := Lib.hid hb2
  rename_i hb20; clear hb20 hw1 hbn
  go_wp2_with fail
  refine hL.out.mono ?_; rintro e w3 ⟨b, rfl, hbt, hb3⟩
  have hb13 := hb2.out.trans (hb3.mono hb2.out.size)
  clear y0 y1 y2
  obtain ⟨y0, y1, y2⟩ := hX.out _ hb13
  cases b with
  | false =>
    go_wp2_with fail
    go_returns
    exact ⟨rfl, hup.out _ hb13⟩
  | true =>
    have hlt := Lib.hid (hbt rfl)
    have hs := Lib.hid (hlt.out.small (by omega) (by omega) (by omega))
    clear hbt
    by_cases h40 : 40 < nx
    · have d1 : decide ((40 : Int) < (nx : Int)) = true := decide_eq_true (by omega)
      have d1' : decide (40 < nx) = true := decide_eq_true h40
      go_wp2_with fail
      go_returns
      exact ⟨rfl, hup.out _ hb13⟩
    have d1 : decide ((40 : Int) < (nx : Int)) = false := decide_eq_false (by omega)
    have d1' : decide (40 < nx) = false := decide_eq_false h40
    by_cases hxy : ny = nx
    rotate_left
    · have d2 : ((ny : Int) != (nx : Int)) = true := by simp; omega
      go_wp2_with fail
      go_returns
      exact ⟨rfl, hup.out _ hb13⟩
    subst hxy
    have d2 : ((ny : Int) != (ny : Int)) = false := by simp
    have hC1 := Lib.hid (scheck_any (c := c) (d := d) (ca := cx) hs.out w3 (hR.out.below hb13) (hRx.out.below hb13) (by omega))
    rw [hhzH.out] at hC1
    have hb13h := Lib.hid hb13
    clear hb13
    go_wp2_with fail
    refine hC1.out.mono ?_; rintro e w4 ⟨rfl, hb4⟩
    have hb14 := hb13h.out.trans (hb4.mono hb13h.out.size)
    clear y0 y1 y2 hC1
    obtain ⟨y0, y1, y2⟩ := hX.out _ hb14
    by_cases hcx : sckN N X = 0
    rotate_left
    · have d3 : (sckN N X != 0) = true := by simp [hcx]
      clear hcx
      go_wp2_with fail
      go_returns
      exact ⟨rfl, hup.out _ hb14⟩
    obtain ⟨hN, hkx⟩ := sck_iff.1 hcx
    rw [hcx]
    have hC2 := Lib.hid (scheck_any (c := c) (d := d) (ca := cy) hs.out w4 (hR.out.below hb14) (hRy.out.below hb14) (by omega))
    rw [hhzH.out] at hC2
    have hb14h := Lib.hid hb14
    have hN := Lib.hid hN
    have hkx := Lib.hid hkx
    rename_i hN0 hkx0; clear hN0 hkx0 hb14 hcx
    go_wp2_with fail
    refine hC2.out.mono ?_; rintro e w5 ⟨rfl, hb5⟩
    have hb15 := hb14h.out.trans (hb5.mono hb14h.out.size)
    clear y0 y1 y2 hC2
    by_cases hcy : sckN N Y = 0
    rotate_left
    · have d3 : (sckN N Y != 0) = true := by simp [hcy]
      clear hcy
      go_wp2_with fail
      go_returns
      exact ⟨rfl, hup.out _ hb15⟩
    obtain ⟨_, hky⟩ := sck_iff.1 hcy
    rw [hcy]
    have hky := Lib.hid hky
    rename_i hky0; clear hky0 hcy
    obtain rfl : n = ny := by
      have h1 := hkx.out.1
      have h2 := hRx.out.len
      have h3 := hR.out.nn
      omega
    have hxl : Hid (X.length = n) := hRx.out.len
    have hyl : Hid (Y.length = n) := hRy.out.len
    have hll : Hid (X.length = Y.length) := hxl.out.trans hyl.out.symm
    have hb15h := Lib.hid hb15
    clear hb15
    have hn40 : n ≤ 40 := by omega
    go_wp2_with fail
    go_loopw [7, 8] (fun v i wr => ∃ (k : Nat), k ≤ n ∧ i = .int .i64 k ∧ Hid (wr.ownsRow w1.heap.size 2 1 v k (((minL X Y).take k).flatMap (numE .i64))) ∧ Hid (Below w1.heap.size w1 wr)) (fun _ i _ => n - (intOf i).toNat)
    case atStart => exact ⟨0, Nat.zero_le _, rfl, World.ownsRow_nil _ _ _ _, hb15h⟩
    case round =>
      clear hb15h hb14h hb13h hb2 hb3 hb4 hb5
      obtain ⟨k, hkn, rfl, own, hb⟩ := hrel
      by_cases hlt2 : k < n
      · obtain ⟨bx, ox, tx, rfl, hbx, hXt, hcx0⟩ := hRx.out.num hlt2
        have hcx := (hb.out.cell (p := ⟨bx, ox + k, none⟩) hbx).trans hcx0
        obtain ⟨by', oy, ty, rfl, hby, hYt, hcy0⟩ := hRy.out.num hlt2
        have hcy := (hb.out.cell (p := ⟨by', oy + k, none⟩) hby).trans hcy0
        obtain ⟨La, hLa⟩ : ∃ q, (minL X Y).take k = q := ⟨_, rfl⟩
        rw [hLa] at own
        have hll2 : Hid (La.length = k) := by
          show _ = _
          rw [← hLa, List.length_take, minL_len hll.out, hxl.out]; omega
        have ownh : Hid (wr.ownsRow w1.heap.size 2 1 u7 La.length (La.flatMap (numE .i64))) := by
          have := own.out
          rw [← hll2.out] at this; exact this
        have hbase : w1.heap.size ≤ wr.heap.size := hb.out.size
        have hlen : Hid (La.length + 1 ≤ 1099511627776) := by show _ ≤ _; have := hll2.out; omega
        have hLn : Hid (La ++ [(if ty < tx then ty else tx)] = (minL X Y).take (k + 1)) := by
          show _ = _
          have h1 : (minL X Y)[k]? = some (if ty < tx then ty else tx) := by
            unfold minL
            rw [List.getElem?_zipWith, hXt, hYt]
            show some (min tx ty) = _
            congr 1
            split <;> omega
          rw [take_at h1, hLa]
        have hbI : (k : Int) < (n : Int) := by omega
        clear own hLa hXt hYt
        go_wp2_with fail
        go_upto_region 9 with fail
        refine wp_region_ghost2 (fun fl x w => GB1 (numE .i64) 2 1 wr w1.heap.size u7 La (if ty < tx then ty else tx) (fl 0) (fl 10) (fl 11) (fl 12) (x 10) (x 11) (x 12) w) (by kernel_rfl) (by kernel_rfl) (by kernel_rfl) (by kernel_rfl) (by kernel_rfl) ?_ ?_
        · intro x0 hx0
          exact GB1.start rfl rfl rfl (hx0 12 7 rfl) ownh.out
        intro base O hbase hO
        have kx1 : Hid (∀ xs, evX base O xs (.tmp 1) = .slice (some ⟨bx, ox, none⟩) n cx) := fun xs => by rw [hbase, hO]; rfl
        have kx2 : Hid (∀ xs, evX base O xs (.tmp 2) = .slice (some ⟨by', oy, none⟩) n cy) := fun xs => by rw [hbase, hO]; rfl
        have kx7 : Hid (∀ xs, evX base O xs (.tmp 7) = xs 12) := fun xs => by rw [hO]; rfl
        have kx8 : Hid (∀ xs, evX base O xs (.tmp 8) = .int .i64 (k : Int)) := fun xs => by rw [hbase, hO]; rfl
        have kx54 : Hid (∀ xs, evX base O xs (.tmp 54) = xs 0) := fun xs => by rw [hO]; rfl
        have kx55 : Hid (∀ xs, evX base O xs (.tmp 55) = xs 1) := fun xs => by rw [hO]; rfl
        have kx56 : Hid (∀ xs, evX base O xs (.tmp 56) = xs 2) := fun xs => by rw [hO]; rfl
        have kx57 : Hid (∀ xs, evX base O xs (.tmp 57) = xs 3) := fun xs => by rw [hO]; rfl
        have kx58 : Hid (∀ xs, evX base O xs (.tmp 58) = xs 4) := fun xs => by rw [hO]; rfl
        have kx59 : Hid (∀ xs, evX base O xs (.tmp 59) = xs 5) := fun xs => by rw [hO]; rfl
        have kx60 : Hid (∀ xs, evX base O xs (.tmp 60) = xs 6) := fun xs => by rw [hO]; rfl
        have kx61 : Hid (∀ xs, evX base O xs (.tmp 61) = xs 7) := fun xs => by rw [hO]; rfl
        have kx62 : Hid (∀ xs, evX base O xs (.tmp 62) = xs 8) := fun xs => by rw [hO]; rfl
        have kx63 : Hid (∀ xs, evX base O xs (.tmp 63) = xs 9) := fun xs => by rw [hO]; rfl
        have kx64 : Hid (∀ xs, evX base O xs (.tmp 64) = xs 10) := fun xs => by rw [hO]; rfl
        have kx65 : Hid (∀ xs, evX base O xs (.tmp 65) = xs 11) := fun xs => by rw [hO]; rfl
        clear hbase hO
        apply gh_det (n := 0)
        · intro fl xs w ev hG hD hl hdone hev K hK
          have e7 := (hev (.tmp 7)).trans (kx7.out xs)
          rw [if_pos (wantedX_none rfl)]
          have ef : ∀ f, ev (.func f) = .func (.func f) #[] #[] := fun f => (hev _).trans rfl
          clear hev hD
          obtain ⟨ev0, hG0⟩ := hG.rdS hl
          rw [ev0] at e7
          go_simp
          exact hK _ _ rfl hG0
        apply gh_det (n := 1)
        · intro fl xs w ev hG hD hl hdone hev K hK
          have e1 := (hev (.tmp 1)).trans (kx1.out xs)
          rw [if_pos (wantedX_none rfl)]
          have ef : ∀ f, ev (.func f) = .func (.func f) #[] #[] := fun f => (hev _).trans rfl
          clear hev hD
          go_simp
          exact hK _ _ rfl hG
        apply gh_det (n := 2)
        · intro fl xs w ev hG hD hl hdone hev K hK
          have e8 := (hev (.tmp 8)).trans (kx8.out xs)
          rw [if_pos (wantedX_none rfl)]
          have ef : ∀ f, ev (.func f) = .func (.func f) #[] #[] := fun f => (hev _).trans rfl
          clear hev hD
          go_simp
          exact hK _ _ rfl hG
        apply gh_det (n := 3)
        · intro fl xs w ev hG hD hl hdone hev K hK
          have e55 := (hev (.tmp 55)).trans (kx55.out xs)
          have d1 := hD.at_ 1 rfl rfl
          replace e55 := e55.trans d1
          have e56 := (hev (.tmp 56)).trans (kx56.out xs)
          have d2 := hD.at_ 2 rfl rfl
          replace e56 := e56.trans d2
          rw [if_pos (wantedX_none rfl)]
          have ef : ∀ f, ev (.func f) = .func (.func f) #[] #[] := fun f => (hev _).trans rfl
          clear hev hD
          go_simp
          exact hK _ _ rfl hG
        apply gh_det (n := 4)
        · intro fl xs w ev hG hD hl hdone hev K hK
          have e57 := (hev (.tmp 57)).trans (kx57.out xs)
          have d3 := hD.at_ 3 rfl rfl
          replace e57 := e57.trans d3
          rw [if_pos (wantedX_none rfl)]
          have ef : ∀ f, ev (.func f) = .func (.func f) #[] #[] := fun f => (hev _).trans rfl
          clear hev hD
          have hbw := hG.bel
          have mm0 := (hbw.cell (p := ⟨bx, ox + k, none⟩) hbx).trans hcx
          go_simp
          exact hK _ _ rfl hG
        apply gh_det (n := 5)
        · intro fl xs w ev hG hD hl hdone hev K hK
          have e2 := (hev (.tmp 2)).trans (kx2.out xs)
          rw [if_pos (wantedX_none rfl)]
          have ef : ∀ f, ev (.func f) = .func (.func f) #[] #[] := fun f => (hev _).trans rfl
          clear hev hD
          go_simp
          exact hK _ _ rfl hG
        apply gh_det (n := 6)
        · intro fl xs w ev hG hD hl hdone hev K hK
          have e8 := (hev (.tmp 8)).trans (kx8.out xs)
          rw [if_pos (wantedX_none rfl)]
          have ef : ∀ f, ev (.func f) = .func (.func f) #[] #[] := fun f => (hev _).trans rfl
          clear hev hD
          go_simp
          exact hK _ _ rfl hG
        apply gh_det (n := 7)
        · intro fl xs w ev hG hD hl hdone hev K hK
          have e59 := (hev (.tmp 59)).trans (kx59.out xs)
          have d5 := hD.at_ 5 rfl rfl
          replace e59 := e59.trans d5
          have e60 := (hev (.tmp 60)).trans (kx60.out xs)
          have d6 := hD.at_ 6 rfl rfl
          replace e60 := e60.trans d6
          rw [if_pos (wantedX_none rfl)]
          have ef : ∀ f, ev (.func f) = .func (.func f) #[] #[] := fun f => (hev _).trans rfl
          clear hev hD
          go_simp
          exact hK _ _ rfl hG
        apply gh_det (n := 8)
        · intro fl xs w ev hG hD hl hdone hev K hK
          have e61 := (hev (.tmp 61)).trans (kx61.out xs)
          have d7 := hD.at_ 7 rfl rfl
          replace e61 := e61.trans d7
          rw [if_pos (wantedX_none rfl)]
          have ef : ∀ f, ev (.func f) = .func (.func f) #[] #[] := fun f => (hev _).trans rfl
          clear hev hD
          have hbw := hG.bel
          have mm0 := (hbw.cell (p := ⟨by', oy + k, none⟩) hby).trans hcy
          go_simp
          exact hK _ _ rfl hG
        apply gh_det (n := 9)
        · intro fl xs w ev hG hD hl hdone hev K hK
          have e58 := (hev (.tmp 58)).trans (kx58.out xs)
          have d4 := hD.at_ 4 rfl rfl
          replace e58 := e58.trans d4
          have e62 := (hev (.tmp 62)).trans (kx62.out xs)
          have d8 := hD.at_ 8 rfl rfl
          replace e62 := e62.trans d8
          rw [if_pos (wantedX_none rfl)]
          have ef : ∀ f, ev (.func f) = .func (.func f) #[] #[] := fun f => (hev _).trans rfl
          clear hev hD
          go_simp
          exact hK _ _ rfl hG
        refine gh_any (n := 10) (fun _ => True) ?_ ?_
        · intro fl xs w ev hG hD hl hdone hev K hK
          have e63 := (hev (.tmp 63)).trans (kx63.out xs)
          have d9 := hD.at_ 9 rfl rfl
          replace e63 := e63.trans d9
          rw [if_pos (wantedX_none rfl)]
          have ef : ∀ f, ev (.func f) = .func (.func f) #[] #[] := fun f => (hev _).trans rfl
          clear hev hD
          go_simp
          exact hK _ _ trivial (hG.litS hl hbase nume_len)
        refine gh_any (n := 11) (fun _ => True) ?_ ?_
        · intro fl xs w ev hG hD hl hdone hev K hK
          have e54 := (hev (.tmp 54)).trans (kx54.out xs)
          have d0 := hD.at_ 0 rfl rfl
          replace e54 := e54.trans d0
          have e64 := (hev (.tmp 64)).trans (kx64.out xs)
          rw [if_pos (wantedX_none rfl)]
          have ef : ∀ f, ev (.func f) = .func (.func f) #[] #[] := fun f => (hev _).trans rfl
          clear hev hD
          obtain ⟨k5, c5, e5, r5⟩ := hG.lit (done_of hdone 10 rfl) hl
          have own := hG.own hl
          rw [e5] at e64
          obtain ⟨v', w1', hrun, own1, hgr, hnew⟩ := own_append (enc := numE .i64) Try.underlying40 infoT rfl (by decide) nume_len nume_one c5 own r5 hlen.out (by decide) (Nat.le_trans hbase hG.bel.size)
          rw [show La.length + 1 = (La ++ [(if ty < tx then ty else tx)]).length from by simp] at own1
          exact outcome_append (.tmp 54) (.tmp 64) 40 rfl e54 e64 hrun (hK _ _ trivial (hG.appS hl (done_of hdone 0 rfl) (done_of hdone 10 rfl) own1 ((Below.refl _ w).grown hgr (Nat.le_trans hbase hG.bel.size) fun g hg => (own.lt g hg).1)))
        refine gh_any (n := 12) (fun _ => True) ?_ ?_
        · intro fl xs w ev hG hD hl hdone hev K hK
          have e65 := (hev (.tmp 65)).trans (kx65.out xs)
          rw [if_pos (wantedX_none rfl)]
          have ef : ∀ f, ev (.func f) = .func (.func f) #[] #[] := fun f => (hev _).trans rfl
          clear hev hD
          have own := hG.app (done_of hdone 11 rfl)
          obtain ⟨A7, c7, e7, _⟩ := Rd.of_own nume_len rfl own
          have hG0 := hG.asS (done_of hdone 11 rfl)
          generalize (La ++ [(if ty < tx then ty else tx)]).length = n7 at e7
          rw [e7] at e65
          go_simp
          refine hK _ _ trivial ?_
          rw [← e7]
          exact hG0
        clear kx1 kx2 kx7 kx8 kx54 kx55 kx56 kx57 kx58 kx59 kx60 kx61 kx62 kx63 kx64 kx65
        intro xs w9 hG hI
        have own9 := hG.app rfl
        have e9 := hG.asg rfl
        have hb9 := hG.bel
        clear hG hI
        rw [← e9] at own9
        clear e9
        simp only [List.append_eq, List.cons_append, List.nil_append, setAll, List.setIfInBounds_toArray, List.set_cons_zero, List.set_cons_succ]
        have hfin := Lib.hid (And.intro own9 (hb.out.trans hb9))
        clear own9 hb9
        go_wp2_with fail
        go_roundw
        case rel =>
          have h1 := hfin.out.1
          rw [show (La ++ [(if ty < tx then ty else tx)]).length = k + 1 from by have := hll2.out; simp [this], hLn.out] at h1
          exact ⟨k + 1, by omega, by go_num, h1, hfin.out.2⟩
        case measure => simp [intOf]; omega
      · obtain rfl : k = n := by omega
        obtain ⟨Az, cz, rfl, hrz, hz1, hz2⟩ := Rd.of_own nume_len (l := (minL X Y).take k) (by rw [List.length_take, minL_len hll.out, hxl.out]; omega) own.out
        rw [List.take_of_length_le (by rw [minL_len hll.out, hxl.out]; exact Nat.le_refl _)] at hrz
        have hrz := Lib.hid hrz
        rename_i hrz0; clear hrz0
        obtain ⟨y0, y1, y2⟩ := hX.out _ hb.out
        have hkz : Hid (LabsOk N (minL X Y)) := hkx.out.min hky.out
        have hA1 := Lib.hid (all_ok (c := c) (d := d) (ca := cx) hs.out (hR.out.below hb.out) (hRx.out.below hb.out) hN.out hkx.out)
        rw [hhzH.out] at hA1
        clear own
        go_wp2_with fail
        refine hA1.out.mono ?_; rintro e w6 ⟨A6, c6, D6, V6, v6, rfl, hS6, hI6, _, _, _, _, _, hb6⟩
        have hb16 := hb.out.trans (hb6.mono hb.out.size)
        clear y0 y1 y2 hA1
        obtain ⟨y0, y1, y2⟩ := hX.out _ hb16
        have hA2 := Lib.hid (all_ok (c := c) (d := d) (ca := cy) hs.out (hR.out.below hb16) (hRy.out.below hb16) hN.out hky.out)
        rw [hhzH.out] at hA2
        have hS6 := Lib.hid hS6
        have hI6 := Lib.hid hI6.rd
        have hb16h := Lib.hid hb16
        rename_i hS60 hI60; clear hS60 hI60 hb16
        go_wp2_with fail
        refine hA2.out.mono ?_; rintro e w7 ⟨A7, c7, D7, V7, v7, rfl, hS7, hI7, _, _, _, _, _, hb7⟩
        have hb17 := hb16h.out.trans (hb7.mono hb16h.out.size)
        clear y0 y1 y2 hA2
        obtain ⟨y0, y1, y2⟩ := hX.out _ hb17
        have hA3 := Lib.hid (all_ok (c := c) (d := d) (ca := cz) hs.out (hR.out.below hb17) (((hrz.out.below hb6).below hb7)) hN.out hkz.out)
        rw [hhzH.out] at hA3
        have hS7 := Lib.hid hS7
        have hI7 := Lib.hid hI7.rd
        have hI6 := Lib.hid (hI6.out.below hb7)
        have hb17h := Lib.hid hb17
        rename_i hS70 hI70 hI60; clear hS70 hI70 hI60 hb17
        go_wp2_with fail
        refine hA3.out.mono ?_; rintro e w8 ⟨A8, c8, D8, V8, v8, rfl, hS8, hI8, _, _, _, _, _, hb8⟩
        have hb18 := Lib.hid (hb17h.out.trans (hb8.mono hb17h.out.size))
        have hI6 := Lib.hid (hI6.out.below hb8)
        have hI7 := Lib.hid (hI7.out.below hb8)
        have hS8 := Lib.hid hS8
        have hI8 := Lib.hid hI8.rd
        rename_i hI60 hI70 hS80 hI80; clear hI60 hI70 hS80 hI80 y0 y1 y2 hA3
        have hD8 : Hid (D8 = minL D6 D7) := hS8.out.uniq (hS6.out.min hN.out hS7.out hkx.out hky.out)
        have hDl : Hid (D6.length = D7.length) := hI6.out.len.trans hI7.out.len.symm
        have hnb : ((k : Int) != (k : Int)) = false := by simp
        clear hb6 hb7 hb8 hb hrz
        go_wp2_with fail
        go_loopw [18] (fun i wr => ∃ (j : Nat), j ≤ k ∧ i = .int .i64 j ∧ Hid (Below w8.heap.size w8 wr)) (fun i _ => k - (intOf i).toNat)
        case atStart => exact ⟨0, Nat.zero_le _, rfl, Below.refl _ _⟩
        case round =>
          obtain ⟨j, hj, rfl, hb9⟩ := hrel
          by_cases hlt3 : j < k
          · obtain ⟨b6, o6, t6, rfl, hl6, h6, q6⟩ := (hI6.out.below hb9.out).num hlt3
            obtain ⟨b7, o7, t7, rfl, hl7, h7, q7⟩ := (hI7.out.below hb9.out).num hlt3
            obtain ⟨b8, o8, t8, rfl, hl8, h8, q8⟩ := (hI8.out.below hb9.out).num hlt3
            have ht : t8 = (if t7 < t6 then t7 else t6) := by
              have h1 := minL_lab hDl.out j
              rw [← hD8.out, lab_at h6, lab_at h7, lab_at h8] at h1
              rw [h1]; split <;> omega
            have hne : (t8 != (if t7 < t6 then t7 else t6)) = false := by rw [ht]; simp
            have hjI : (j : Int) < (k : Int) := by omega
            clear h6 h7 h8 ht
            go_wp2_with fail
            go_upto_region 18 with fail
            refine wp_region_below wr.heap.size (by kernel_rfl) (by kernel_rfl) ?_
            intro C hC
            repeat (go_big_quiet_step (first
              | ((intro _; with_reducible rfl))
              | (intro hc; have z0 := (hc.cell (p := ⟨b6, _, none⟩) hl6).trans q6; have z1 := (hc.cell (p := ⟨b7, _, none⟩) hl7).trans q7; have z2 := (hc.cell (p := ⟨b8, _, none⟩) hl8).trans q8; simp only [z0, z1, z2, Result.andThen]; exact ⟨trivial, rfl⟩)))
            refine wpQuiet_nil ?_
            intro w9 hb10
            clear hC
            have hb11 := Lib.hid (hb9.out.trans (hb10.mono hb9.out.size))
            go_wp2_with fail
            go_roundw
            case rel => exact ⟨j + 1, by omega, by go_num, hb11⟩
            case measure => simp [intOf]; omega
          · go_wp2_with fail
            go_returns
            exact ⟨rfl, hup.out _ (hb18.out.trans (hb9.out.mono hb18.out.size))⟩
end Go.Proofs.Ytonkkibnigdfbaa
