/-
  Walk: timetablelaw15.SpreadStill answers true (gen10.py).
-/
import Derived.Test.YtonkkibnigdfbaaStillS
import Derived.Test.YtonkkibnigdfbaaRef11F
import Derived.Test.YtonkkibnigdfbaaViaLaw
namespace Go.Proofs.Ytonkkibnigdfbaa
open Go.RowKit Go.Shelf B K
set_option linter.unusedVariables false
set_option linter.unusedSimpArgs false
set_option maxHeartbeats 4000000
set_option maxRecDepth 100000 in
theorem still_law {N : NetP} {A : Option Addr} {n c : Nat} {B : Option Addr} {m d : Nat} (Ax : Option Addr) (nx cx : Nat) (X : List Int) (w : World)
    (hr : RNet w N A n B m) (hrx : Rd w 1 (numE .i64) Ax nx X) :
    Calls Try.prog 7 #[.agg #[.int .i64 N.hz, .slice A n c, .slice B m d], .slice Ax nx cx] w fun e w' => e = .returned (.bool true) ∧ Below w.heap.size w w' := by
  obtain ⟨hz, hhz⟩ : ∃ q, N.hz = q := ⟨_, rfl⟩
  rw [hhz]
  have hb1 : Below w.heap.size w (w.alloc (.cells #[.int .i64 hz, .slice A n c, .slice B m d] 25)) := (Below.refl _ w).alloc (Nat.le_refl _) _
  obtain ⟨x0, x1, x2⟩ := rowBx3 w 25 (.int .i64 hz) (.slice A n c) (.slice B m d)
  have hbn1 : w.heap.size < (w.alloc (.cells #[.int .i64 hz, .slice A n c, .slice B m d] 25)).heap.size := by simp
  obtain ⟨w1, hw1⟩ : ∃ q, w.alloc (.cells #[.int .i64 hz, .slice A n c, .slice B m d] 25) = q := ⟨_, rfl⟩
  rw [hw1] at hb1 x0 x1 x2 hbn1
  have hup : Hid (∀ w2, Below w1.heap.size w1 w2 → Below w.heap.size w w2) := fun w2 h => hb1.trans (h.mono hb1.size)
  obtain ⟨bn, hbn⟩ : ∃ q, w.heap.size = q := ⟨_, rfl⟩
  rw [hbn] at x0 x1 x2 hbn1
  have hR := Lib.hid (hr.below hb1)
  have hX : Hid (∀ U, Below w1.heap.size w1 U → U.cell? ⟨bn, 0, none⟩ = some (.int .i64 hz) ∧ U.cell? ⟨bn, 1, none⟩ = some (.slice A n c) ∧ U.cell? ⟨bn, 2, none⟩ = some (.slice B m d)) := fun U hU =>
    ⟨(hU.cell (p := ⟨bn, 0, none⟩) hbn1).trans x0, (hU.cell (p := ⟨bn, 1, none⟩) hbn1).trans x1, (hU.cell (p := ⟨bn, 2, none⟩) hbn1).trans x2⟩
  have hhzH := Lib.hid hhz
  have hRx := Lib.hid (hrx.below hb1)
  clear hb1 hr hrx x0 x1 x2 hhz
  go_enter Try.func7, Try.ntmps7
  go_wp2_with fail
  refine (slives_any _).mono ?_; rintro e w2 ⟨rfl, hb2⟩
  obtain ⟨y0, y1, y2⟩ := hX.out _ hb2
  have hL := Lib.hid (lightNet_any (c := c) (d := d) (hz := hz) w2 (hR.out.below hb2))
  have hb2 := Lib.hid hb2
  rename_i hb20; clear hb20 hw1 hbn
  go_wp2_with fail
  refine hL.out.mono ?_; rintro e w3 ⟨b, rfl, hbt, hb3⟩
  have hb13 := hb2.out.trans (hb3.mono hb2.out.size)
  clear y0 y1 y2
  obtain ⟨y0, y1, y2⟩ := hX.out _ hb13
  cases b with
  | false =>
    go_wp2_with fail
    go_returns
    exact ⟨rfl, hup.out _ hb13⟩
  | true =>
    have hlt := Lib.hid (hbt rfl)
    have hs := Lib.hid (hlt.out.small (by omega) (by omega) (by omega))
    clear hbt
    by_cases h40 : 40 < nx
    · have d1 : decide ((40 : Int) < (nx : Int)) = true := decide_eq_true (by omega)
      have d1' : decide (40 < nx) = true := decide_eq_true h40
      go_wp2_with fail
      go_returns
      exact ⟨rfl, hup.out _ hb13⟩
    have d1 : decide ((40 : Int) < (nx : Int)) = false := decide_eq_false (by omega)
    have d1' : decide (40 < nx) = false := decide_eq_false h40
    have hC1 := Lib.hid (scheck_any (c := c) (d := d) (ca := cx) hs.out w3 (hR.out.below hb13) (hRx.out.below hb13) (by omega))
    rw [hhzH.out] at hC1
    have hb13h := Lib.hid hb13
    clear hb13
    go_wp2_with fail
    refine hC1.out.mono ?_; rintro e w4 ⟨rfl, hb4⟩
    have hb14 := hb13h.out.trans (hb4.mono hb13h.out.size)
    clear y0 y1 y2 hC1
    obtain ⟨y0, y1, y2⟩ := hX.out _ hb14
    by_cases hcx : sckN N X = 0
    rotate_left
    · have d3 : (sckN N X != 0) = true := by simp [hcx]
      clear hcx
      go_wp2_with fail
      go_returns
      exact ⟨rfl, hup.out _ hb14⟩
    obtain ⟨hN, hkx⟩ := sck_iff.1 hcx
    rw [hcx]
    replace hN := Lib.hid hN
    replace hkx := Lib.hid hkx
    clear hcx
    obtain rfl : n = nx := by
      have h1 := hkx.out.1
      have h2 := hRx.out.len
      have h3 := hR.out.nn
      omega
    have hn40 : n ≤ 40 := by omega
    have hxl : Hid (X.length = n) := hRx.out.len
    have hnn : Hid (N.cs.length = n) := hR.out.nn
    have hnb : ((n : Int) != (n : Int)) = false := by simp
    have hmm : Hid (N.ls.length = m) := hR.out.mm
    have hm40 : m ≤ 40 := by have := hlt.out.ln; have := hmm.out; omega
    have hA1 := Lib.hid (all_ok (c := c) (d := d) (ca := cx) hs.out (hR.out.below hb14) (hRx.out.below hb14) hN.out hkx.out)
    rw [hhzH.out] at hA1
    have hb14h := Lib.hid hb14
    clear hb14 hb3 hb4
    go_wp2_with fail
    refine hA1.out.mono ?_; rintro e w5 ⟨A5, c5, D, V5, v5, rfl, hS, hI5, _, _, hV5, _, _, hb5⟩
    have hb15h := Lib.hid (hb14h.out.trans (hb5.mono hb14h.out.size))
    clear y0 y1 y2 hA1
    obtain ⟨y0, y1, y2⟩ := hX.out _ hb15h.out
    have hSh := Lib.hid hS
    have hE5 := Lib.hid hI5.rd
    replace hV5 := Lib.hid hV5
    have hdl : Hid (D.length = n) := by show _ = _; rw [hS.ok.1]; exact hnn.out
    clear hS hI5 hb5
    have hSt := Lib.hid (sstill_ok (c := c) (d := d) (ca := c5) hs.out (hR.out.below hb15h.out) hE5.out hN.out hSh.out.ok)
    rw [hhzH.out] at hSt
    go_wp2_with fail
    refine hSt.out.mono ?_; rintro e w6 ⟨D', rfl, hS', hb6⟩
    obtain rfl : D = D' := (hS'.uniq hSh.out.still).symm
    have hb16 := Lib.hid (hb15h.out.trans (hb6.mono hb15h.out.size))
    have hE6 := Lib.hid (hE5.out.below hb6)
    have hV6 := Lib.hid (hV5.out.below hb6)
    have hXl := hX
    clear y0 y1 y2 hS' hb6 hSt hE5 hV5
    obtain ⟨y0, y1, y2⟩ := hX.out _ hb16.out
    go_wp2_with fail
    go_loopw [8] (fun i wr => ∃ (k : Nat), k ≤ m ∧ i = .int .i64 k ∧ Hid (Below w6.heap.size w6 wr)) (fun i _ => m - (intOf i).toNat)
    case atStart => exact ⟨0, Nat.zero_le _, rfl, Below.refl _ _⟩
    case round =>
      clear y0 y1 y2
      obtain ⟨k, hk, rfl, hb⟩ := hrel
      have hbw := Lib.hid (hb16.out.trans (hb.out.mono hb16.out.size))
      obtain ⟨y0, y1, y2⟩ := hX.out _ hbw.out
      by_cases hlt2 : k < m
      · obtain ⟨l, hl, b, o, pA, pn, pc, kA, kn, kc, rfl, hbl, ⟨ro, _⟩, ⟨rk, _⟩, c0, c1, c2, c3, c4, c5', c6⟩ := (hR.out.below hbw.out).lnk hlt2
        have hlm := List.mem_of_getElem? hl
        obtain ⟨⟨la0, la1⟩, ⟨lb0, lb1⟩, _⟩ := okL_iff.1 (hN.out.lk l hlm)
        have hnn' := hnn.out
        obtain ⟨a', ha'⟩ : ∃ a' : Nat, l.a = a' := ⟨l.a.toNat, by omega⟩
        obtain ⟨b', hb'⟩ : ∃ b' : Nat, l.b = b' := ⟨l.b.toNat, by omega⟩
        have han : a' < n := by omega
        have hbn' : b' < n := by omega
        obtain ⟨bD, oD, ta, rfl, hbD, hDa, fa⟩ := (hE6.out.below hb.out).num han
        obtain ⟨bD', oD', tb, e9, _, hDb, fb⟩ := (hE6.out.below hb.out).num hbn'
        cases e9
        have hcl : Hid (ta ≠ W.inf → tb ≤ toL N l ta) := fun h => by
          have h1 := hSh.out.cl l hlm
          rw [ha', hb', show ((a' : Int)).toNat = a' from rfl, show ((b' : Int)).toNat = b' from rfl, lab_at hDa, lab_at hDb] at h1
          exact h1 h
        have hta : Hid (ta ≠ W.inf → W.chk ta = 0) := fun h => by
          have h1 := hSh.out.ok.fin (s := a') (by rw [lab_at hDa]; exact h)
          rw [lab_at hDa] at h1
          have := hN.out.hz
          exact W.chk_ok ⟨h1.1, by omega⟩
        have hF : Hid (ta ≠ W.inf → ∀ U, Below wr.heap.size wr U → Calls Try.prog 30 #[.agg #[.int .i64 hz, .slice A n c, .slice (some ⟨b, o, none⟩) m d], .int .i64 (k : Int), .int .i64 ta] U fun e w' => e = .returned (.tuple #[.int .i64 (firstL N l ta), .int .i64 (toL N l ta)]) ∧ Below U.heap.size U w') := fun h U hU => by
          have := rfirst_ok (c := c) (d := d) hs.out hN.out hl ta (hta.out h) U ((hR.out.below hbw.out).below hU)
          rwa [hhzH.out] at this
        obtain ⟨fF, hfF⟩ : ∃ q, firstL N l ta = q := ⟨_, rfl⟩
        obtain ⟨tT, htT⟩ : ∃ q, toL N l ta = q := ⟨_, rfl⟩
        rw [hfF, htT] at hF
        rw [htT] at hcl
        have hltI : (k : Int) < (m : Int) := by omega
        have hanI : (a' : Int) < (n : Int) := by omega
        have hbnI : (b' : Int) < (n : Int) := by omega
        rw [ha'] at c0
        rw [hb'] at c1
        obtain ⟨la, lb, ln, ld, lo, op, cl⟩ := l
        simp only at c0 c1 c2 c3 c4
        obtain ⟨d0, d1', d2, d3, d4, d5, d6⟩ := rowBx7 wr 38 (.int .i64 (a' : Int)) (.int .i64 (b' : Int)) (.int .i64 ln) (.bool ld) (.int .i64 lo) (.slice pA pn pc) (.slice kA kn kc)
        have hb9 : Below wr.heap.size wr (wr.alloc (.cells #[.int .i64 (a' : Int), .int .i64 (b' : Int), .int .i64 ln, .bool ld, .int .i64 lo, .slice pA pn pc, .slice kA kn kc] 38)) := (Below.refl _ wr).alloc (Nat.le_refl _) _
        have hbl9 : wr.heap.size < (wr.alloc (.cells #[.int .i64 (a' : Int), .int .i64 (b' : Int), .int .i64 ln, .bool ld, .int .i64 lo, .slice pA pn pc, .slice kA kn kc] 38)).heap.size := by simp
        have fa9 := (hb9.cell (p := ⟨bD, _, none⟩) hbD).trans fa
        have fb9 := (hb9.cell (p := ⟨bD, _, none⟩) hbD).trans fb
        obtain ⟨z0, z1, z2⟩ := hX.out _ (hbw.out.trans (hb9.mono hbw.out.size))
        obtain ⟨w9, hw9⟩ : ∃ q, wr.alloc (.cells #[.int .i64 (a' : Int), .int .i64 (b' : Int), .int .i64 ln, .bool ld, .int .i64 lo, .slice pA pn pc, .slice kA kn kc] 38) = q := ⟨_, rfl⟩
        rw [hw9] at d0 d1' d2 d3 d4 d5 d6 hb9 hbl9 fa9 fb9 z0 z1 z2
        obtain ⟨bl, hbl'⟩ : ∃ q, wr.heap.size = q := ⟨_, rfl⟩
        rw [hbl'] at d0 d1' d2 d3 d4 d5 d6 hbl9
        have hbD9 : bD < w9.heap.size := Nat.lt_of_lt_of_le hbD hb9.size
        have hbn9 : bn < w9.heap.size := by have := hbw.out.size; have := hb9.size; omega
        have hb9h := Lib.hid hb9
        have hbx := Lib.hid (hb.out.trans (hb9.mono hb.out.size))
        clear ro rk hl hlm la0 la1 lb0 lb1 ha' hb' hnn' hDa hDb hfF htT hb9 hta
        by_cases q1 : ta = W.inf
        · have e1 : (ta == 4611686018427387904) = true := by rw [q1]; rfl
          clear hcl hF
          subst q1
          go_wp2_with fail
          go_roundw
          case rel => exact ⟨k + 1, by omega, by go_num, hbx⟩
          case measure => simp [intOf]; omega
        · have e1 : (ta == 4611686018427387904) = false := by simp only [beq_eq_false_iff_ne, ne_eq]; exact q1
          have hcl2 := hcl.out q1
          have hF2 := Lib.hid (hF.out q1)
          have e2 : decide (tT < tb) = false := decide_eq_false (by omega)
          clear hcl hF q1 hcl2
          go_upto_region 13 with fail
          clear hw9 hbl'
          refine wp_region_below w9.heap.size (by kernel_rfl) (by kernel_rfl) ?_
          intro C hC
          repeat (go_big_quiet_step (first
            | ((intro _; with_reducible rfl))
            | (intro hc; have m0 := (hc.cell (p := ⟨bn, _, none⟩) hbn9).trans z0; have m1 := (hc.cell (p := ⟨bn, _, none⟩) hbn9).trans z1; have m2 := (hc.cell (p := ⟨bn, _, none⟩) hbn9).trans z2; simp only [m0, m1, m2, Result.andThen]; exact ⟨trivial, rfl⟩)
            | (intro hc; have m0 := (hc.cell (p := ⟨bl, _, none⟩) hbl9).trans d0; simp only [m0, Result.andThen]; exact ⟨trivial, rfl⟩)
            | (intro hc; have m0 := (hc.cell (p := ⟨bD, _, none⟩) hbD9).trans fa9; simp only [m0, Result.andThen]; exact ⟨trivial, rfl⟩)
            | (intro hc; with_reducible refine (hF2.out _ (hb9h.out.trans (hc.mono hb9h.out.size))).mono ?_; rintro e w'' ⟨rfl, hb⟩; exact ⟨rfl, hc.trans (hb.mono hc.size)⟩)))
          refine wpQuiet_nil ?_
          intro w10 hb10
          clear hC
          replace d1' := (hb10.cell (p := ⟨bl, _, none⟩) hbl9).trans d1'
          replace fb9 := (hb10.cell (p := ⟨bD, _, none⟩) hbD9).trans fb9
          have hbx2 := Lib.hid (hbx.out.trans (hb10.mono hbx.out.size))
          go_wp2_with fail
          go_roundw
          case rel => exact ⟨k + 1, by omega, by go_num, hbx2⟩
          case measure => simp [intOf]; omega
      · have hbO := hb
        clear hb
        go_wp2_with fail
        go_loopw [12] (fun i wr => ∃ (k : Nat), k ≤ n ∧ i = .int .i64 k ∧ Hid (Below w6.heap.size w6 wr)) (fun i _ => n - (intOf i).toNat)
        case atStart => exact ⟨0, Nat.zero_le _, rfl, hbO⟩
        case round =>
          clear y0 y1 y2 hbO hbw
          obtain ⟨s, hs', rfl, hb⟩ := hrel
          have hbw := Lib.hid (hb16.out.trans (hb.out.mono hb16.out.size))
          obtain ⟨y0, y1, y2⟩ := hX.out _ hbw.out
          by_cases hlt3 : s < n
          rotate_left
          · go_wp2_with fail
            go_returns
            exact ⟨rfl, hup.out _ hbw.out⟩
          obtain ⟨bD, oD, ts, rfl, hbD, hDs, fs⟩ := (hE6.out.below hb.out).num hlt3
          obtain ⟨bX, oX, tx, rfl, hbX, hXs, fx⟩ := (hRx.out.below hbw.out).num hlt3
          obtain ⟨bV, oV, v1, v2, rfl, hbV, hVs, g1, g2⟩ := (hV6.out.below hb.out).pair hlt3
          have hsD : s < D.length := by rw [hdl.out]; exact hlt3
          rw [viasL_at N X D hsD] at hVs
          have hvf := Option.some.inj hVs
          have hltI : (s : Int) < (n : Int) := by omega
          rcases via_law hN.out hSh.out hkx.out hsD with ⟨h1, h2⟩ | ⟨i, l, f, h1, hl, hlb, h3, h4, h5, h6, h7, h8, _, _⟩
          · rw [hvf] at h1
            obtain ⟨rfl, rfl⟩ := Prod.mk.inj h1
            rw [lab_at hDs, lab_at hXs] at h2
            subst h2
            have e5 : decide ((m : Int) ≤ -1) = false := decide_eq_false (by omega)
            clear h1 hvf hVs hDs hXs
            go_wp2_with fail
            go_quiet (fail)
            go_wp2_with fail
            go_quiet (fail)
            go_wp2_with fail
            go_roundw
            case rel => exact ⟨s + 1, by omega, by go_num, below_drewQ hb.out _⟩
            case measure => simp [intOf]; omega
          · rw [hvf] at h1
            obtain ⟨rfl, rfl⟩ := Prod.mk.inj h1
            rw [lab_at hDs, lab_at hXs] at h3
            rw [lab_at hDs] at h7
            have him : i < m := by have := (List.getElem?_eq_some_iff.1 hl).1; have := hmm.out; omega
            have hlm := List.mem_of_getElem? hl
            obtain ⟨⟨la0, la1⟩, _⟩ := okL_iff.1 (hN.out.lk l hlm)
            obtain ⟨a', ha'⟩ : ∃ a' : Nat, l.a = a' := ⟨l.a.toNat, by omega⟩
            have han : a' < n := by have := hnn.out; omega
            obtain ⟨bD', oD', ta, e9, _, hDa, fa⟩ := (hE6.out.below hb.out).num han
            cases e9
            rw [ha', show ((a' : Int)).toNat = a' from rfl, lab_at hDa] at h4 h5
            obtain ⟨l', hl', b, o, pA, pn, pc, kA, kn, kc, rfl, hbl, _, _, c0, c1, c2, c3, c4, c5', c6⟩ := (hR.out.below hbw.out).lnk him
            rw [hl] at hl'; cases hl'
            have hM : Hid (∀ U, Below wr.heap.size wr U → Calls Try.prog 31 #[.agg #[.int .i64 hz, .slice A n c, .slice (some ⟨b, o, none⟩) m d], .int .i64 (i : Int), .int .i64 v2] U fun e w' => e = .returned (.bool true) ∧ Below U.heap.size U w') := fun U hU => by
              have := rmay_ok (c := c) (d := d) hs.out hN.out hl v2 (by omega) U ((hR.out.below hbw.out).below hU)
              rwa [hhzH.out, h6] at this
            have hzr := hN.out.hz
            rw [hhzH.out] at hzr h8
            rw [ha'] at c0
            rw [hlb] at c1
            obtain ⟨la, lb, ln, ld, lo, op, cl⟩ := l
            simp only at c0 c1 c2 c3 c4 h7 h8
            have e1 : decide (tx < ts) = false := decide_eq_false (by omega)
            have e2 : (ts == tx) = false := by simp only [beq_eq_false_iff_ne, ne_eq]; omega
            have e3 : decide ((i : Int) < 0) = false := decide_eq_false (by omega)
            have e4 : decide ((i : Int) < -1) = false := decide_eq_false (by omega)
            have e5 : decide ((m : Int) ≤ (i : Int)) = false := decide_eq_false (by omega)
            have e5' : decide (m ≤ i) = false := decide_eq_false (by omega)
            have e6 : decide ((0 : Int) ≤ (i : Int)) = true := decide_eq_true (by omega)
            have e7 : decide (v2 < ta) = false := decide_eq_false (by omega)
            have hiI : (i : Int) < (m : Int) := by omega
            have hanI : (a' : Int) < (n : Int) := by omega
            have hf0 : 0 ≤ v2 := by omega
            have hbnr : bn < wr.heap.size := by have := hbw.out.size; omega
            clear h1 hvf hVs hDs hXs hDa hl hlm la0 la1 ha' hlb h6
            go_wp2_with fail
            go_quiet (fail)
            go_upto_region 22 with fail
            have hq : Hid (∀ U, Below wr.heap.size (wr.drewN nq) U → Below wr.heap.size wr U) := fun U h => ⟨h.os, h.tape, h.output, h.size, h.block⟩
            refine wp_region_below wr.heap.size (by kernel_rfl) (by kernel_rfl) ?_
            intro C hC
            repeat (go_big_quiet_step (first
              | ((intro _; with_reducible rfl))
              | (intro hc0; have hc := hq.out _ hc0; have m0 := (hc.cell (p := ⟨bn, _, none⟩) hbnr).trans y0; have m1 := (hc.cell (p := ⟨bn, _, none⟩) hbnr).trans y1; have m2 := (hc.cell (p := ⟨bn, _, none⟩) hbnr).trans y2; simp only [m0, m1, m2, Result.andThen]; exact ⟨trivial, rfl⟩)
              | (intro hc0; have hc := hq.out _ hc0; have m0 := (hc.cell (p := ⟨b, _, none⟩) hbl).trans c0; have m1 := (hc.cell (p := ⟨b, _, none⟩) hbl).trans c1; have m2 := (hc.cell (p := ⟨b, _, none⟩) hbl).trans c2; simp only [m0, m1, m2, Result.andThen]; exact ⟨trivial, rfl⟩)
              | (intro hc0; have hc := hq.out _ hc0; have m0 := (hc.cell (p := ⟨bD, _, none⟩) hbD).trans fa; simp only [m0, Result.andThen]; exact ⟨trivial, rfl⟩)
              | (intro hc0; have hc := hq.out _ hc0; have m0 := (hc.cell (p := ⟨bD, _, none⟩) hbD).trans fs; simp only [m0, Result.andThen]; exact ⟨trivial, rfl⟩)
              | (intro hc0; have hc := hq.out _ hc0; have m0 := (hc.cell (p := ⟨bV, _, none⟩) hbV).trans g2; simp only [m0, Result.andThen]; exact ⟨trivial, rfl⟩)
              | (intro hc0; have hc := hq.out _ hc0; with_reducible refine (hM.out _ hc).mono ?_; rintro e w'' ⟨rfl, hb⟩; exact ⟨rfl, hc0.trans (hb.mono hc.size)⟩)))
            refine wpQuiet_nil ?_
            intro w10 hb10
            clear hC
            have hbx2 := Lib.hid (hb.out.trans ((hq.out _ hb10).mono hb.out.size))
            go_wp2_with fail
            go_roundw
            case rel => exact ⟨s + 1, by omega, by go_num, hbx2⟩
            case measure => simp [intOf]; omega
end Go.Proofs.Ytonkkibnigdfbaa
