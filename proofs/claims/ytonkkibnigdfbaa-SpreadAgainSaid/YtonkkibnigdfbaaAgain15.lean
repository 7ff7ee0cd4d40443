/-
  Walk: timetablelaw15.SpreadAgain answers true.
-/
import Derived.Test.YtonkkibnigdfbaaPick15
import Derived.Test.YtonkkibnigdfbaaPartPlain
import Derived.Deep.DeepCutAuto
import Derived.BigQuiet
namespace Go.Proofs.Ytonkkibnigdfbaa
open Go.RowKit Go.Shelf B K
set_option linter.unusedVariables false
set_option linter.unusedSimpArgs false
set_option maxHeartbeats 4000000
set_option maxRecDepth 100000 in
theorem again_any {N : NetP} {A : Option Addr} {n c : Nat} {B : Option Addr} {m d : Nat} (Ax : Option Addr) (nx cx : Nat) (X : List Int) (at' : Int) (w : World)
    (hr : RNet w N A n B m) (hrx : Rd w 1 (numE .i64) Ax nx X) (hat : -9223372036854775808 ≤ at' ∧ at' ≤ 9223372036854775807) :
    Calls Try.prog 6 #[.agg #[.int .i64 N.hz, .slice A n c, .slice B m d], .slice Ax nx cx, .int .i64 at'] w fun e w' => e = .returned (.bool true) ∧ Below w.heap.size w w' := by
  obtain ⟨hz, hhz⟩ : ∃ q, N.hz = q := ⟨_, rfl⟩
  rw [hhz]
  have hb1 : Below w.heap.size w (w.alloc (.cells #[.int .i64 hz, .slice A n c, .slice B m d] 25)) := (Below.refl _ w).alloc (Nat.le_refl _) _
  obtain ⟨x0, x1, x2⟩ := rowBx3 w 25 (.int .i64 hz) (.slice A n c) (.slice B m d)
  have hbn1 : w.heap.size < (w.alloc (.cells #[.int .i64 hz, .slice A n c, .slice B m d] 25)).heap.size := by simp
  obtain ⟨w1, hw1⟩ : ∃ q, w.alloc (.cells #[.int .i64 hz, .slice A n c, .slice B m d] 25) = q := ⟨_, rfl⟩
  rw [hw1] at hb1 x0 x1 x2 hbn1
  have hup : Hid (∀ w2, Below w1.heap.size w1 w2 → Below w.heap.size w w2) := fun w2 h => hb1.trans (h.mono hb1.size)
  obtain ⟨bn, hbn⟩ : ∃ q, w.heap.size = q := ⟨_, rfl⟩
  rw [hbn] at x0 x1 x2 hbn1
  have hR := Lib.hid (hr.below hb1)
  have hRx := Lib.hid (hrx.below hb1)
  have hX : Hid (∀ U, Below w1.heap.size w1 U → U.cell? ⟨bn, 0, none⟩ = some (.int .i64 hz) ∧ U.cell? ⟨bn, 1, none⟩ = some (.slice A n c) ∧ U.cell? ⟨bn, 2, none⟩ = some (.slice B m d)) := fun U hU =>
    ⟨(hU.cell (p := ⟨bn, 0, none⟩) hbn1).trans x0, (hU.cell (p := ⟨bn, 1, none⟩) hbn1).trans x1, (hU.cell (p := ⟨bn, 2, none⟩) hbn1).trans x2⟩
  have hhzH := Lib.hid hhz
  clear hb1 hr hrx x0 x1 x2 hhz
  go_enter Try.func6, Try.ntmps6
  go_wp2_with fail
  refine (slives_any _).mono ?_; rintro e w2 ⟨rfl, hb2⟩
  obtain ⟨y0, y1, y2⟩ := hX.out _ hb2
  have hL := Lib.hid (lightNet_any (c := c) (d := d) (hz := hz) w2 (hR.out.below hb2))
  have hb2 := Lib.hid hb2
  rename_i hb20; clear hb20 hw1 hbn
  go_wp2_with fail
  refine hL.out.mono ?_; rintro e w3 ⟨b, rfl, hbt, hb3⟩
  have hb13 := hb2.out.trans (hb3.mono hb2.out.size)
  clear y0 y1 y2
  obtain ⟨y0, y1, y2⟩ := hX.out _ hb13
  cases b with
  | false =>
    go_wp2_with fail
    go_returns
    exact ⟨rfl, hup.out _ hb13⟩
  | true =>
    have hlt := Lib.hid (hbt rfl)
    have hs := Lib.hid (hlt.out.small (by omega) (by omega) (by omega))
    clear hbt
    by_cases h0 : nx = 0
    · have d0 : ((nx : Int) == 0) = true := by simp [h0]
      have d0' : (nx == 0) = true := by simp [h0]
      clear h0
      go_wp2_with fail
      go_returns
      exact ⟨rfl, hup.out _ hb13⟩
    have d0 : ((nx : Int) == 0) = false := by simp [h0]
    have d0' : (nx == 0) = false := by simp [h0]
    by_cases h40 : 40 < nx
    · have d1 : decide ((40 : Int) < (nx : Int)) = true := decide_eq_true (by omega)
      have d1' : decide (40 < nx) = true := decide_eq_true h40
      go_wp2_with fail
      go_returns
      exact ⟨rfl, hup.out _ hb13⟩
    have d1 : decide ((40 : Int) < (nx : Int)) = false := decide_eq_false (by omega)
    have d1' : decide (40 < nx) = false := decide_eq_false h40
    have hC1 := Lib.hid (scheck_any (c := c) (d := d) (ca := cx) hs.out w3 (hR.out.below hb13) (hRx.out.below hb13) (by omega))
    rw [hhzH.out] at hC1
    have hb13h := Lib.hid hb13
    clear hb13
    go_wp2_with fail
    refine hC1.out.mono ?_; rintro e w4 ⟨rfl, hb4⟩
    have hb14 := hb13h.out.trans (hb4.mono hb13h.out.size)
    clear y0 y1 y2 hC1
    obtain ⟨y0, y1, y2⟩ := hX.out _ hb14
    by_cases hcx : sckN N X = 0
    rotate_left
    · have d3 : (sckN N X != 0) = true := by simp [hcx]
      clear hcx
      go_wp2_with fail
      go_returns
      exact ⟨rfl, hup.out _ hb14⟩
    obtain ⟨hN, hkx⟩ := sck_iff.1 hcx
    rw [hcx]
    have hN := Lib.hid hN
    have hkx := Lib.hid hkx
    rename_i hN0 hkx0; clear hN0 hkx0 hcx
    obtain rfl : n = nx := by
      have h1 := hkx.out.1
      have h2 := hRx.out.len
      have h3 := hR.out.nn
      omega
    have hn40 : n ≤ 40 := by omega
    have hn1 : 1 ≤ n := by omega
    have hxl : Hid (X.length = n) := hRx.out.len
    have hnn : Hid (N.cs.length = n) := hR.out.nn
    have hnb : ((n : Int) != (n : Int)) = false := by simp
    have hA1 := Lib.hid (all_ok (c := c) (d := d) (ca := cx) hs.out (hR.out.below hb14) (hRx.out.below hb14) hN.out hkx.out)
    rw [hhzH.out] at hA1
    have hb14h := Lib.hid hb14
    clear hb14 h0 h40 hb3 hb4
    go_wp2_with fail
    refine hA1.out.mono ?_; rintro e w5 ⟨A5, c5, D, V5, v5, rfl, hS, hI5, _, _, _, _, _, hb5⟩
    have hb15 := hb14h.out.trans (hb5.mono hb14h.out.size)
    clear y0 y1 y2 hA1
    have hP := Lib.hid (pick_any at' n w5 (by omega) hat)
    have hSh := Lib.hid hS
    have hE5 := Lib.hid hI5.rd
    have hb15h := Lib.hid hb15
    clear hS hI5 hb15
    go_wp2_with fail
    refine hP.out.mono ?_; rintro e w6 ⟨p, rfl, hpn, hb6⟩
    have hpn2 : p < n := by omega
    have hb16 := hb15h.out.trans (hb6.mono hb15h.out.size)
    have hO := Lib.hid (ownT_any cx (hRx.out.below hb16) (by omega))
    have hE6 := Lib.hid (hE5.out.below hb6)
    have hb16h := Lib.hid hb16
    clear hE5 hb16 hP
    go_wp2_with fail
    refine hO.out.mono ?_; rintro e w7 ⟨A7, c7, rfl, hI7, _, _, hb7⟩
    obtain ⟨b5, o5, t5, rfl, hl5, hD5, q5⟩ := (hE6.out.below hb7).num hpn2
    have hxp := lab_get (D := X) (s := p) (by have := hxl.out; omega)
    obtain ⟨g7, rfl, q7, f7⟩ := hI7.at_ hxp
    have hI8 := hI7.set (y := t5) hxp
    have hg7 := hI7.ge g7 (mem_blks.2 ⟨_, rfl, rfl⟩)
    have hb68 := hb7.setCell (p := ⟨g7, p, none⟩) hg7 (.int .i64 t5)
    have hlow : Hid (Spr N (X.set p t5) D) := by
      have := hSh.out.lower (s := p) (by have := hxl.out; omega)
      rw [lab_at hD5] at this; exact this
    have hkl : Hid (LabsOk N (X.set p t5)) := hkx.out.set (by have := hSh.out.ok.at p; rwa [lab_at hD5] at this)
    obtain ⟨w8, hw8⟩ : ∃ q, w7.setCell ⟨g7, p, none⟩ (.int .i64 t5) = q := ⟨_, rfl⟩
    rw [hw8] at hI8 hb68
    have hb18 := hb16h.out.trans (hb68.mono hb16h.out.size)
    obtain ⟨y0, y1, y2⟩ := hX.out _ hb18
    have hA2 := Lib.hid (all_ok (c := c) (d := d) (ca := c7) hs.out (hR.out.below hb18) hI8.rd hN.out hkl.out)
    rw [hhzH.out] at hA2
    have hE8 := Lib.hid (hE6.out.below hb68)
    have hb18h := Lib.hid hb18
    have hpI : (p : Int) < (n : Int) := by omega
    clear hE6 hD5 hxp hI8 hb68 hb18 hg7 hI7 hb7 hO
    go_wp2_with fail
    refine hA2.out.mono ?_; rintro e w9 ⟨A9, c9, D9, V9, v9, rfl, hS9, hI9, _, _, _, _, _, hb9⟩
    obtain rfl : D9 = D := hS9.uniq hlow.out
    have hb19 := hb18h.out.trans (hb9.mono hb18h.out.size)
    have hsm := Lib.hid (sameT_any (some ⟨b5, o5, none⟩) n c5 D9 A9 n c9 D9 w9 (hE8.out.below hb9) hI9.rd (by omega) (by omega))
    have hb19h := Lib.hid hb19
    have hE9 := Lib.hid (hE8.out.below hb9)
    clear hE8 hS9 hI9 hb19 hA2 hlow hkl y0 y1 y2 q5 q7 f7 hw8
    rw [decide_eq_true rfl] at hsm
    go_wp2_with fail
    refine hsm.out.mono ?_; rintro e w10 ⟨rfl, hb10⟩
    have hb110 := hb19h.out.trans (hb10.mono hb19h.out.size)
    have hE10 := Lib.hid (hE9.out.below hb10)
    have hO := Lib.hid (ownT_any cx (hRx.out.below hb110) (by omega))
    have hb110h := Lib.hid hb110
    clear hE9 hb110 hsm
    go_wp2_with fail
    refine hO.out.mono ?_; rintro e w11 ⟨A11, c11, rfl, hI11, _, _, hb11⟩
    have hPs : Hid (PartI N n X D9 0 X) := PartI.start hSh.out hxl.out
    have hI11h := Lib.hid hI11
    have hb11h := Lib.hid hb11
    clear hI11 hb11 hO hb9 hb10 hb6 hb5
    go_wp2_with fail
    go_loopw [15] (fun i wr => ∃ (k : Nat) (L : List Int), k ≤ n ∧ i = .int .i64 k ∧ Hid (RowI wr w10.heap.size A11 n L) ∧ Hid (PartI N n X D9 k L) ∧ Hid (Below w10.heap.size w10 wr)) (fun i _ => n - (intOf i).toNat)
    case atStart => exact ⟨0, X, Nat.zero_le _, rfl, hI11h, hPs, hb11h⟩
    case round =>
      clear hI11h hPs hb11h
      obtain ⟨k, L, hkn, rfl, hI, hPk, hb⟩ := hrel
      have hb1r := hb110h.out.trans (hb.out.mono hb110h.out.size)
      obtain ⟨y0, y1, y2⟩ := hX.out _ hb1r
      by_cases hlt2 : k < n
      · obtain ⟨bx, ox, tx, rfl, hbx, hXt, hcx⟩ := (hRx.out.below hb1r).num hlt2
        have hkI : (k : Int) < (n : Int) := by omega
        have hXk : Hid (lab X k = tx) := lab_at hXt
        have hb1rh := Lib.hid hb1r
        have hbnr := Nat.lt_of_lt_of_le hbn1 hb1r.size
        clear hb1r hXt
        by_cases hti : tx = 4611686018427387904
        · have hte : (tx == 4611686018427387904) = true := by simp [hti]
          have hPk2 : Hid (PartI N n X D9 (k + 1) L) := hPk.out.skip (by rw [hXk.out]; exact hti)
          clear hti hPk y0 y1 y2
          go_wp2_with fail
          go_roundw
          case rel => exact ⟨k + 1, L, by omega, by go_num, hI, hPk2, hb⟩
          case measure => simp [intOf]; omega
        · have hte : (tx == 4611686018427387904) = false := by simp [hti]
          have hfin := hkx.out.fin (s := k) (by rw [hXk.out]; exact hti)
          rw [hXk.out] at hfin
          have hFr : Hid (∀ U, Below wr.heap.size wr U → Calls Try.prog 22 #[.agg #[.int .i64 hz, .slice A n c, .slice B m d], .int .i64 (k : Int), .int .i64 tx] U (RetFrom N n k tx U)) := fun U hU => by
            have := sfrom_ok (c := c) (d := d) hs.out ((hR.out.below hb1rh.out).below hU) hN.out hlt2 hfin
            rwa [hhzH.out] at this
          clear hti hfin
          go_upto_region 19 with fail
          refine wp_region_ghost (fun fl x w => GC2 (fun v W => ∃ A c E, v = .tuple #[.slice A n c, .int .i64 0] ∧ Spr N (single n k tx) E ∧ RowI W wr.heap.size A n E) wr (fl 6) (fl 7) (fl 8) (fl 9) (fl 10) (fl 11) (x 6) (x 7) (x 8) (x 9) (x 10) (x 11) w) (by kernel_rfl) (by kernel_rfl) (by kernel_rfl) (by kernel_rfl) (by kernel_rfl) ?_ ?_
          · intro x0
            exact GC2.start rfl rfl rfl rfl rfl rfl
          intro base O hbase hO
          have kx1 : Hid (∀ xs, evX base O xs (.tmp 1) = .slice (some ⟨bx, ox, none⟩) n cx) := fun xs => by rw [hbase, hO]; rfl
          have kx3 : Hid (∀ xs, evX base O xs (.tmp 3) = .pointer (some ⟨bn, 0, none⟩)) := fun xs => by rw [hbase, hO]; rfl
          have kx15 : Hid (∀ xs, evX base O xs (.tmp 15) = .int .i64 (k : Int)) := fun xs => by rw [hbase, hO]; rfl
          have kx97 : Hid (∀ xs, evX base O xs (.tmp 97) = xs 7) := fun xs => by rw [hO]; rfl
          have kx98 : Hid (∀ xs, evX base O xs (.tmp 98) = xs 0) := fun xs => by rw [hO]; rfl
          have kx99 : Hid (∀ xs, evX base O xs (.tmp 99) = xs 1) := fun xs => by rw [hO]; rfl
          have kx100 : Hid (∀ xs, evX base O xs (.tmp 100) = xs 2) := fun xs => by rw [hO]; rfl
          have kx101 : Hid (∀ xs, evX base O xs (.tmp 101) = xs 3) := fun xs => by rw [hO]; rfl
          have kx102 : Hid (∀ xs, evX base O xs (.tmp 102) = xs 4) := fun xs => by rw [hO]; rfl
          have kx103 : Hid (∀ xs, evX base O xs (.tmp 103) = xs 5) := fun xs => by rw [hO]; rfl
          have kx104 : Hid (∀ xs, evX base O xs (.tmp 104) = xs 6) := fun xs => by rw [hO]; rfl
          have kx105 : Hid (∀ xs, evX base O xs (.tmp 105) = xs 8) := fun xs => by rw [hO]; rfl
          have kx106 : Hid (∀ xs, evX base O xs (.tmp 106) = xs 9) := fun xs => by rw [hO]; rfl
          clear hbase hO
          apply gh_det (n := 0)
          · intro fl xs w ev hG hD hl hdone hev K hK
            have e3 := (hev (.tmp 3)).trans (kx3.out xs)
            rw [if_pos (wantedX_none rfl)]
            have ef : ∀ f, ev (.func f) = .func (.func f) #[] #[] := fun f => (hev _).trans rfl
            clear hev hD
            have hbw := hG.bel
            have mm0 := (hbw.cell (p := ⟨bn, 0, none⟩) hbnr).trans y0
            have mm1 := (hbw.cell (p := ⟨bn, 1, none⟩) hbnr).trans y1
            have mm2 := (hbw.cell (p := ⟨bn, 2, none⟩) hbnr).trans y2
            go_simp
            exact hK _ _ rfl hG
          apply gh_det (n := 1)
          · intro fl xs w ev hG hD hl hdone hev K hK
            have e15 := (hev (.tmp 15)).trans (kx15.out xs)
            rw [if_pos (wantedX_none rfl)]
            have ef : ∀ f, ev (.func f) = .func (.func f) #[] #[] := fun f => (hev _).trans rfl
            clear hev hD
            go_simp
            exact hK _ _ rfl hG
          apply gh_det (n := 2)
          · intro fl xs w ev hG hD hl hdone hev K hK
            have e1 := (hev (.tmp 1)).trans (kx1.out xs)
            rw [if_pos (wantedX_none rfl)]
            have ef : ∀ f, ev (.func f) = .func (.func f) #[] #[] := fun f => (hev _).trans rfl
            clear hev hD
            go_simp
            exact hK _ _ rfl hG
          apply gh_det (n := 3)
          · intro fl xs w ev hG hD hl hdone hev K hK
            have e15 := (hev (.tmp 15)).trans (kx15.out xs)
            rw [if_pos (wantedX_none rfl)]
            have ef : ∀ f, ev (.func f) = .func (.func f) #[] #[] := fun f => (hev _).trans rfl
            clear hev hD
            go_simp
            exact hK _ _ rfl hG
          apply gh_det (n := 4)
          · intro fl xs w ev hG hD hl hdone hev K hK
            have e100 := (hev (.tmp 100)).trans (kx100.out xs)
            have d2 := hD.at_ 2 rfl rfl
            replace e100 := e100.trans d2
            have e101 := (hev (.tmp 101)).trans (kx101.out xs)
            have d3 := hD.at_ 3 rfl rfl
            replace e101 := e101.trans d3
            rw [if_pos (wantedX_none rfl)]
            have ef : ∀ f, ev (.func f) = .func (.func f) #[] #[] := fun f => (hev _).trans rfl
            clear hev hD
            go_simp
            exact hK _ _ rfl hG
          apply gh_det (n := 5)
          · intro fl xs w ev hG hD hl hdone hev K hK
            have e102 := (hev (.tmp 102)).trans (kx102.out xs)
            have d4 := hD.at_ 4 rfl rfl
            replace e102 := e102.trans d4
            rw [if_pos (wantedX_none rfl)]
            have ef : ∀ f, ev (.func f) = .func (.func f) #[] #[] := fun f => (hev _).trans rfl
            clear hev hD
            have hbw := hG.bel
            have mm0 := (hbw.cell (p := ⟨bx, ox + k, none⟩) hbx).trans hcx
            go_simp
            exact hK _ _ rfl hG
          refine gh_any (n := 6) (fun _ => True) ?_ ?_
          · intro fl xs w ev hG hD hl hdone hev K hK
            have e98 := (hev (.tmp 98)).trans (kx98.out xs)
            have d0 := hD.at_ 0 rfl rfl
            replace e98 := e98.trans d0
            have e99 := (hev (.tmp 99)).trans (kx99.out xs)
            have d1 := hD.at_ 1 rfl rfl
            replace e99 := e99.trans d1
            have e103 := (hev (.tmp 103)).trans (kx103.out xs)
            have d5 := hD.at_ 5 rfl rfl
            replace e103 := e103.trans d5
            rw [if_pos (wantedX_none rfl)]
            have ef : ∀ f, ev (.func f) = .func (.func f) #[] #[] := fun f => (hev _).trans rfl
            clear hev hD
            go_simp
            refine (hFr.out _ hG.bel).mono ?_
            rintro e w' ⟨A9, c9, E9, rfl, hs9, hi9, _, _, hb9⟩
            exact ⟨_, rfl, hK _ _ trivial (hG.call hl ⟨A9, c9, E9, rfl, hs9, hi9.mono hG.bel.size⟩ hb9)⟩
          refine gh_any (n := 7) (fun _ => True) ?_ ?_
          · intro fl xs w ev hG hD hl hdone hev K hK
            have e104 := (hev (.tmp 104)).trans (kx104.out xs)
            rw [if_pos (wantedX_none rfl)]
            have ef : ∀ f, ev (.func f) = .func (.func f) #[] #[] := fun f => (hev _).trans rfl
            clear hev hD
            go_simp
            exact hK _ _ trivial (hG.mv (done_of hdone 6 rfl))
          refine gh_any (n := 8) (fun _ => True) ?_ ?_
          · intro fl xs w ev hG hD hl hdone hev K hK
            have e97 := (hev (.tmp 97)).trans (kx97.out xs)
            rw [if_pos (wantedX_none rfl)]
            have ef : ∀ f, ev (.func f) = .func (.func f) #[] #[] := fun f => (hev _).trans rfl
            clear hev hD
            obtain ⟨A9, c9, E9, ex6, _⟩ := hG.p (hG.c7 (done_of hdone 7 rfl))
            have ex7 := hG.e7 (done_of hdone 7 rfl)
            rw [ex7, ex6] at e97
            go_simp
            exact hK _ _ trivial (hG.ex0 (done_of hdone 7 rfl) (by rw [ex6]; rfl))
          refine gh_any (n := 9) (fun _ => True) ?_ ?_
          · intro fl xs w ev hG hD hl hdone hev K hK
            have e97 := (hev (.tmp 97)).trans (kx97.out xs)
            rw [if_pos (wantedX_none rfl)]
            have ef : ∀ f, ev (.func f) = .func (.func f) #[] #[] := fun f => (hev _).trans rfl
            clear hev hD
            obtain ⟨A9, c9, E9, ex6, _⟩ := hG.p (hG.c7 (done_of hdone 7 rfl))
            have ex7 := hG.e7 (done_of hdone 7 rfl)
            rw [ex7, ex6] at e97
            go_simp
            exact hK _ _ trivial (hG.ex1 (done_of hdone 7 rfl) (by rw [ex6]; rfl))
          refine gh_any (n := 10) (fun _ => True) ?_ ?_
          · intro fl xs w ev hG hD hl hdone hev K hK
            have e105 := (hev (.tmp 105)).trans (kx105.out xs)
            rw [if_pos (wantedX_none rfl)]
            have ef : ∀ f, ev (.func f) = .func (.func f) #[] #[] := fun f => (hev _).trans rfl
            clear hev hD
            obtain ⟨A9, c9, E9, ex6, _⟩ := hG.p (hG.c7 (hG.c8 (done_of hdone 8 rfl)))
            have ex8 := hG.e8 (done_of hdone 8 rfl)
            rw [ex8, ex6, show tupAt (.tuple #[.slice A9 n c9, .int .i64 0]) 0 = .slice A9 n c9 from rfl] at e105
            go_simp
            exact hK _ _ trivial (hG.as0 (done_of hdone 8 rfl) (by rw [ex6]; rfl))
          refine gh_any (n := 11) (fun _ => True) ?_ ?_
          · intro fl xs w ev hG hD hl hdone hev K hK
            have e106 := (hev (.tmp 106)).trans (kx106.out xs)
            rw [if_pos (wantedX_none rfl)]
            have ef : ∀ f, ev (.func f) = .func (.func f) #[] #[] := fun f => (hev _).trans rfl
            clear hev hD
            obtain ⟨A9, c9, E9, ex6, _⟩ := hG.p (hG.c7 (hG.c9 (done_of hdone 9 rfl)))
            have ex8 := hG.e9 (done_of hdone 9 rfl)
            rw [ex8, ex6, show tupAt (.tuple #[.slice A9 n c9, .int .i64 0]) 1 = .int .i64 0 from rfl] at e106
            go_simp
            exact hK _ _ trivial (hG.as1 (done_of hdone 9 rfl) (by rw [ex6]; rfl))
          clear kx1 kx3 kx15 kx97 kx98 kx99 kx100 kx101 kx102 kx103 kx104 kx105 kx106
          intro xs w9 hG hI
          clear hI
          obtain ⟨A9, c9, E9, ex6, hP9⟩ := hG.p rfl
          have ex10 := hG.e10 rfl
          have ex11 := hG.e11 rfl
          rw [ex6] at ex10 ex11
          replace ex10 : xs 10 = .slice A9 n c9 := ex10
          replace ex11 : xs 11 = .int .i64 0 := ex11
          have hb9 := hG.bel
          clear hG ex6
          simp only [List.append_eq, List.cons_append, List.nil_append, setAll, List.setIfInBounds_toArray, List.set_cons_zero, List.set_cons_succ]
          rw [ex10, ex11]
          clear ex10 ex11
          obtain ⟨hE9, hr9⟩ := hP9
          have hb29 := hb.out.trans (hb9.mono hb.out.size)
          have hI9 := Lib.hid (hI.out.below hb9)
          have hPn : Hid (PartI N n X D9 (k + 1) (minL L E9)) := by
            have h1 := hPk.out
            exact h1.step hSh.out hxl.out hlt2 hnn.out hN.out hkx.out (by rw [hXk.out]; exact hE9)
          have hml : Hid (L.length = n ∧ E9.length = n) := ⟨hPk.out.len, hr9.len⟩
          have hdis : Hid (∀ b ∈ blks A9, ∀ b' ∈ blks A11, b ≠ b') := fun b h1 b' h2 => by
            have h3 := hr9.ge b h1
            have h4 := hI.out.lt b' h2
            omega
          have hr9h := Lib.hid hr9
          have hb29h := Lib.hid hb29
          clear hr9 hb29 hb9 hPk hE9 hI hb hFr y0 y1 y2 hcx
          go_wp2_with fail
          go_loopw [18] (fun i wr => ∃ (j : Nat) (L2 : List Int), j ≤ n ∧ i = .int .i64 j ∧ Hid (L2 = (minL L E9).take j ++ L.drop j) ∧ Hid (RowI wr w10.heap.size A11 n L2) ∧ (∃ bs, Hid (RowI wr bs A9 n E9)) ∧ Hid (Below w10.heap.size w10 wr)) (fun i _ => n - (intOf i).toNat)
          case atStart => exact ⟨0, L, Nat.zero_le _, rfl, by show L = _; simp, hI9, ⟨_, hr9h⟩, hb29h⟩
          case round =>
            clear hI9 hr9h hb29h
            obtain ⟨j, L2, hjn, rfl, hL2, hI, ⟨bs, hr⟩, hb⟩ := hrel
            by_cases hlt3 : j < n
            · obtain ⟨hl1, hl2⟩ := hml.out
              have hlm : (minL L E9).length = n := by rw [minL_len (by omega)]; exact hl1
              have hLj := lab_get (D := L) (s := j) (by omega)
              obtain ⟨tl, htl⟩ : ∃ q, lab L j = q := ⟨_, rfl⟩
              rw [htl] at hLj
              have hL2j : L2[j]? = some tl := by
                rw [hL2.out, List.getElem?_append_right (by rw [List.length_take, hlm]; omega), List.length_take, hlm, List.getElem?_drop, ← hLj]
                congr 1; omega
              obtain ⟨g, rfl, hcl, hcf⟩ := hI.out.at_ hL2j
              obtain ⟨be, oe, te, rfl, hbe, hEj, hce⟩ := hr.out.rd.num hlt3
              have hmj : (minL L E9)[j]? = some (if te < tl then te else tl) := by
                unfold minL
                rw [List.getElem?_zipWith, hLj, hEj]
                show some (min tl te) = _
                congr 1
                split <;> omega
              have hset : Hid (L2.set j (if te < tl then te else tl) = (minL L E9).take (j + 1) ++ L.drop (j + 1)) := by
                show _ = _
                have hlj : ((minL L E9).take j).length = j := by rw [List.length_take, hlm]; omega
                rw [hL2.out, drop_at hLj, List.set_append_right _ _ (by omega), hlj, Nat.sub_self, List.set_cons_zero, take_at hmj, List.append_assoc]
                rfl
              have hIs := Lib.hid (hI.out.set (y := (if te < tl then te else tl)) hL2j)
              have hgb := hI.out.ge g (mem_blks.2 ⟨_, rfl, rfl⟩)
              have hbs := Lib.hid (hb.out.setCell (p := ⟨g, j, none⟩) hgb (.int .i64 (if te < tl then te else tl)))
              have hjI : (j : Int) < (n : Int) := by omega
              have hgl := hI.out.lt g (mem_blks.2 ⟨_, rfl, rfl⟩)
              clear hl1 hl2 hlm hLj htl hEj hmj hL2 hL2j hgb
              go_upto_region 25 with fail
              refine wp_region_ghost (fun fl x w => G1 wr g j (.int .i64 (if te < tl then te else tl)) (fl 5) (fl 9) (fl 12) w) (by kernel_rfl) (by kernel_rfl) (by kernel_rfl) (by kernel_rfl) (by kernel_rfl) ?_ ?_
              · intro x0
                exact G1.start rfl
              intro base O hbase hO
              have kx14 : Hid (∀ xs, evX base O xs (.tmp 14) = .slice (some ⟨g, 0, none⟩) n c11) := fun xs => by rw [hbase, hO]; rfl
              have kx16 : Hid (∀ xs, evX base O xs (.tmp 16) = .slice (some ⟨be, oe, none⟩) n c9) := fun xs => by rw [hbase, hO]; rfl
              have kx18 : Hid (∀ xs, evX base O xs (.tmp 18) = .int .i64 (j : Int)) := fun xs => by rw [hbase, hO]; rfl
              have kx122 : Hid (∀ xs, evX base O xs (.tmp 122) = xs 0) := fun xs => by rw [hO]; rfl
              have kx123 : Hid (∀ xs, evX base O xs (.tmp 123) = xs 1) := fun xs => by rw [hO]; rfl
              have kx124 : Hid (∀ xs, evX base O xs (.tmp 124) = xs 2) := fun xs => by rw [hO]; rfl
              have kx125 : Hid (∀ xs, evX base O xs (.tmp 125) = xs 3) := fun xs => by rw [hO]; rfl
              have kx126 : Hid (∀ xs, evX base O xs (.tmp 126) = xs 4) := fun xs => by rw [hO]; rfl
              have kx127 : Hid (∀ xs, evX base O xs (.tmp 127) = xs 5) := fun xs => by rw [hO]; rfl
              have kx128 : Hid (∀ xs, evX base O xs (.tmp 128) = xs 6) := fun xs => by rw [hO]; rfl
              have kx129 : Hid (∀ xs, evX base O xs (.tmp 129) = xs 7) := fun xs => by rw [hO]; rfl
              have kx130 : Hid (∀ xs, evX base O xs (.tmp 130) = xs 8) := fun xs => by rw [hO]; rfl
              have kx131 : Hid (∀ xs, evX base O xs (.tmp 131) = xs 9) := fun xs => by rw [hO]; rfl
              have kx132 : Hid (∀ xs, evX base O xs (.tmp 132) = xs 10) := fun xs => by rw [hO]; rfl
              have kx133 : Hid (∀ xs, evX base O xs (.tmp 133) = xs 11) := fun xs => by rw [hO]; rfl
              clear hbase hO
              apply gh_det (n := 0)
              · intro fl xs w ev hG hD hl hdone hev K hK
                have e14 := (hev (.tmp 14)).trans (kx14.out xs)
                rw [if_pos (wantedX_none rfl)]
                have ef : ∀ f, ev (.func f) = .func (.func f) #[] #[] := fun f => (hev _).trans rfl
                clear hev hD
                go_simp
                exact hK _ _ rfl hG
              apply gh_det (n := 1)
              · intro fl xs w ev hG hD hl hdone hev K hK
                have e18 := (hev (.tmp 18)).trans (kx18.out xs)
                rw [if_pos (wantedX_none rfl)]
                have ef : ∀ f, ev (.func f) = .func (.func f) #[] #[] := fun f => (hev _).trans rfl
                clear hev hD
                go_simp
                exact hK _ _ rfl hG
              apply gh_det (n := 2)
              · intro fl xs w ev hG hD hl hdone hev K hK
                have e14 := (hev (.tmp 14)).trans (kx14.out xs)
                rw [if_pos (wantedX_none rfl)]
                have ef : ∀ f, ev (.func f) = .func (.func f) #[] #[] := fun f => (hev _).trans rfl
                clear hev hD
                go_simp
                exact hK _ _ rfl hG
              apply gh_det (n := 3)
              · intro fl xs w ev hG hD hl hdone hev K hK
                have e18 := (hev (.tmp 18)).trans (kx18.out xs)
                rw [if_pos (wantedX_none rfl)]
                have ef : ∀ f, ev (.func f) = .func (.func f) #[] #[] := fun f => (hev _).trans rfl
                clear hev hD
                go_simp
                exact hK _ _ rfl hG
              apply gh_det (n := 4)
              · intro fl xs w ev hG hD hl hdone hev K hK
                have e124 := (hev (.tmp 124)).trans (kx124.out xs)
                have d2 := hD.at_ 2 rfl rfl
                replace e124 := e124.trans d2
                have e125 := (hev (.tmp 125)).trans (kx125.out xs)
                have d3 := hD.at_ 3 rfl rfl
                replace e125 := e125.trans d3
                rw [if_pos (wantedX_none rfl)]
                have ef : ∀ f, ev (.func f) = .func (.func f) #[] #[] := fun f => (hev _).trans rfl
                clear hev hD
                go_simp
                exact hK _ _ rfl hG
              apply gh_det (n := 5)
              · intro fl xs w ev hG hD hl hdone hev K hK
                have e126 := (hev (.tmp 126)).trans (kx126.out xs)
                have d4 := hD.at_ 4 rfl rfl
                replace e126 := e126.trans d4
                rw [if_pos (wantedX_none rfl)]
                have ef : ∀ f, ev (.func f) = .func (.func f) #[] #[] := fun f => (hev _).trans rfl
                clear hev hD
                have hs0 := bne2 hG.c1 hl
                have mm := hG.cell hs0 hcl
                go_simp
                exact hK _ _ rfl hG.s1
              apply gh_det (n := 6)
              · intro fl xs w ev hG hD hl hdone hev K hK
                have e16 := (hev (.tmp 16)).trans (kx16.out xs)
                rw [if_pos (wantedX_none rfl)]
                have ef : ∀ f, ev (.func f) = .func (.func f) #[] #[] := fun f => (hev _).trans rfl
                clear hev hD
                go_simp
                exact hK _ _ rfl hG
              apply gh_det (n := 7)
              · intro fl xs w ev hG hD hl hdone hev K hK
                have e18 := (hev (.tmp 18)).trans (kx18.out xs)
                rw [if_pos (wantedX_none rfl)]
                have ef : ∀ f, ev (.func f) = .func (.func f) #[] #[] := fun f => (hev _).trans rfl
                clear hev hD
                go_simp
                exact hK _ _ rfl hG
              apply gh_det (n := 8)
              · intro fl xs w ev hG hD hl hdone hev K hK
                have e128 := (hev (.tmp 128)).trans (kx128.out xs)
                have d6 := hD.at_ 6 rfl rfl
                replace e128 := e128.trans d6
                have e129 := (hev (.tmp 129)).trans (kx129.out xs)
                have d7 := hD.at_ 7 rfl rfl
                replace e129 := e129.trans d7
                rw [if_pos (wantedX_none rfl)]
                have ef : ∀ f, ev (.func f) = .func (.func f) #[] #[] := fun f => (hev _).trans rfl
                clear hev hD
                go_simp
                exact hK _ _ rfl hG
              apply gh_det (n := 9)
              · intro fl xs w ev hG hD hl hdone hev K hK
                have e130 := (hev (.tmp 130)).trans (kx130.out xs)
                have d8 := hD.at_ 8 rfl rfl
                replace e130 := e130.trans d8
                rw [if_pos (wantedX_none rfl)]
                have ef : ∀ f, ev (.func f) = .func (.func f) #[] #[] := fun f => (hev _).trans rfl
                clear hev hD
                have hs0 := bne2 hG.c2 hl
                have mm := hG.cell hs0 hce
                go_simp
                exact hK _ _ rfl hG.s2
              apply gh_det (n := 10)
              · intro fl xs w ev hG hD hl hdone hev K hK
                have e127 := (hev (.tmp 127)).trans (kx127.out xs)
                have d5 := hD.at_ 5 rfl rfl
                replace e127 := e127.trans d5
                have e131 := (hev (.tmp 131)).trans (kx131.out xs)
                have d9 := hD.at_ 9 rfl rfl
                replace e131 := e131.trans d9
                rw [if_pos (wantedX_none rfl)]
                have ef : ∀ f, ev (.func f) = .func (.func f) #[] #[] := fun f => (hev _).trans rfl
                clear hev hD
                go_simp
                exact hK _ _ rfl hG
              apply gh_det (n := 11)
              · intro fl xs w ev hG hD hl hdone hev K hK
                have e122 := (hev (.tmp 122)).trans (kx122.out xs)
                have d0 := hD.at_ 0 rfl rfl
                replace e122 := e122.trans d0
                have e123 := (hev (.tmp 123)).trans (kx123.out xs)
                have d1 := hD.at_ 1 rfl rfl
                replace e123 := e123.trans d1
                rw [if_pos (wantedX_none rfl)]
                have ef : ∀ f, ev (.func f) = .func (.func f) #[] #[] := fun f => (hev _).trans rfl
                clear hev hD
                go_simp
                exact hK _ _ rfl hG
              refine gh_any (n := 12) (fun _ => True) ?_ ?_
              · intro fl xs w ev hG hD hl hdone hev K hK
                have e133 := (hev (.tmp 133)).trans (kx133.out xs)
                have d11 := hD.at_ 11 rfl rfl
                replace e133 := e133.trans d11
                have e132 := (hev (.tmp 132)).trans (kx132.out xs)
                have d10 := hD.at_ 10 rfl rfl
                replace e132 := e132.trans d10
                rw [if_pos (wantedX_none rfl)]
                have ef : ∀ f, ev (.func f) = .func (.func f) #[] #[] := fun f => (hev _).trans rfl
                clear hev hD
                have mm := hG.cell hl hcl
                have mf := hG.frozen hl hcf
                go_simp
                exact hK _ _ trivial (hG.put hl (done_of hdone 5 rfl) (done_of hdone 9 rfl))
              clear kx14 kx16 kx18 kx122 kx123 kx124 kx125 kx126 kx127 kx128 kx129 kx130 kx131 kx132 kx133
              intro xs w9 hG hI
              clear hI
              simp only [List.append_eq, List.cons_append, List.nil_append, setAll, List.setIfInBounds_toArray, List.set_cons_zero, List.set_cons_succ]
              have hmem := hG.mem
              rw [if_pos rfl] at hmem
              have q1 : Hid (RowI w9 w10.heap.size (some ⟨g, 0, none⟩) n ((minL L E9).take (j + 1) ++ L.drop (j + 1))) := by
                have h1 := hIs.out
                rw [hset.out] at h1
                exact h1.keep (by rw [hmem]; exact Nat.le_refl _) (fun b _ => by rw [hmem])
              have q2 : Hid (RowI w9 bs (some ⟨be, oe, none⟩) n E9) := hr.out.keep (by rw [hmem]; simp) (fun b hb' => by
                rw [hmem]
                exact Below.heap_setCell _ _ _ _ (hdis.out b hb' g (mem_blks.2 ⟨_, rfl, rfl⟩)))
              have q3 : Hid (Below w10.heap.size w10 w9) := below_heap hbs.out hG.os hG.tape hG.output hmem
              clear hG hmem hIs hbs hI hr hb
              go_wp2_with fail
              go_roundw
              case rel => exact ⟨j + 1, _, by omega, by go_num, rfl, q1, ⟨bs, q2⟩, q3⟩
              case measure => simp [intOf]; omega
            · obtain rfl : j = n := by omega
              have hfin : Hid (L2 = minL L E9) := by
                show _ = _
                obtain ⟨hl1, hl2⟩ := hml.out
                rw [hL2.out, List.take_of_length_le (by rw [minL_len (by omega)]; omega), List.drop_eq_nil_of_le (by omega), List.append_nil]
              go_wp2_with fail
              go_roundw
              case rel => exact ⟨k + 1, L2, by omega, by go_num, hI, by rw [hfin.out]; exact hPn, hb⟩
              case measure => simp [intOf]; omega
      · obtain rfl : k = n := by omega
        have hLD : L = D9 := hPk.out.done hSh.out hkx.out hnn.out hN.out
        subst hLD
        have hsm := Lib.hid (sameT_any A11 k c11 L (some ⟨b5, o5, none⟩) k c5 L wr hI.out.rd (hE10.out.below hb.out) (by omega) (by omega))
        rw [decide_eq_true rfl] at hsm
        have hb1rh := Lib.hid hb1r
        clear y0 y1 y2 hb1r hPk hI
        go_wp2_with fail
        refine hsm.out.mono ?_; rintro e w12 ⟨rfl, hb12⟩
        go_wp2_with fail
        go_returns
        exact ⟨rfl, hup.out _ (hb1rh.out.trans (hb12.mono hb1rh.out.size))⟩
end Go.Proofs.Ytonkkibnigdfbaa
