/-
  Walk: timetablelaw14.ClosureWithin answers true (clo/gen7.py).
-/
import Derived.Test.YtonkkibnigdfbaaClRow
import Derived.Test.YtonkkibnigdfbaaClIn
import Derived.Test.YtonkkibnigdfbaaClLives
import Derived.Test.YtonkkibnigdfbaaEntryNew
import Derived.Test.YtonkkibnigdfbaaRef11S
import Derived.Test.YtonkkibnigdfbaaPick15
namespace Go.Proofs.Ytonkkibnigdfbaa
open Go.RowKit Go.Shelf B K
set_option linter.unusedVariables false
set_option linter.unusedSimpArgs false
set_option maxHeartbeats 4000000
theorem setB_below {w : World} {m base : Nat} {B : Obj} (hm : base ≤ m) : Below base w (Go.ChangeMaps.setBlock w m B) := by
  refine ⟨rfl, rfl, rfl, by simp [Go.ChangeMaps.setBlock], fun b hb' => ?_⟩
  simp only [Go.ChangeMaps.setBlock]
  rw [Array.getElem?_setIfInBounds_ne (by omega)]
theorem Rd.lt {α : Type} {w : World} {size n k : Nat} {enc : α → List Value} {b o : Nat} {l : List α} (h : Rd w size enc (some ⟨b, o, none⟩) n l) (hk : k < n) (_ : True) : b < w.heap.size := by
  obtain ⟨b', o', e, hb, _⟩ := h.cells (by omega)
  cases e; exact hb
set_option maxRecDepth 100000 in
theorem wlaw_any {N : NetP} {A : Option Addr} {n c : Nat} {B : Option Addr} {m d : Nat} (a near far : Int) (w : World)
    (hr : RNet w N A n B m) (ha : -9223372036854775808 ≤ a ∧ a ≤ 9223372036854775807) :
    Calls Try.prog 15 #[.agg #[.int .i64 N.hz, .slice A n c, .slice B m d], .int .i64 a, .int .i64 near, .int .i64 far] w fun e w' => e = .returned (.bool true) ∧ Below w.heap.size w w' := by
  have hnn : Hid (N.cs.length = n) := hr.nn
  obtain ⟨hz, hhz⟩ : ∃ q, N.hz = q := ⟨_, rfl⟩
  rw [hhz]
  have hb1 : Below w.heap.size w (w.alloc (.cells #[.int .i64 hz, .slice A n c, .slice B m d] 25)) := (Below.refl _ w).alloc (Nat.le_refl _) _
  obtain ⟨x0, x1, x2⟩ := rowBx3 w 25 (.int .i64 hz) (.slice A n c) (.slice B m d)
  have hbn1 : w.heap.size < (w.alloc (.cells #[.int .i64 hz, .slice A n c, .slice B m d] 25)).heap.size := by simp
  obtain ⟨w1, hw1⟩ : ∃ q, w.alloc (.cells #[.int .i64 hz, .slice A n c, .slice B m d] 25) = q := ⟨_, rfl⟩
  rw [hw1] at hb1 x0 x1 x2 hbn1
  have hup : Hid (∀ w2, Below w1.heap.size w1 w2 → Below w.heap.size w w2) := fun w2 h => hb1.trans (h.mono hb1.size)
  obtain ⟨bn, hbn⟩ : ∃ q, w.heap.size = q := ⟨_, rfl⟩
  rw [hbn] at x0 x1 x2 hbn1
  have hR := Lib.hid (hr.below hb1)
  have hX : Hid (∀ U, Below w1.heap.size w1 U → U.cell? ⟨bn, 0, none⟩ = some (.int .i64 hz) ∧ U.cell? ⟨bn, 1, none⟩ = some (.slice A n c) ∧ U.cell? ⟨bn, 2, none⟩ = some (.slice B m d)) := fun U hU =>
    ⟨(hU.cell (p := ⟨bn, 0, none⟩) hbn1).trans x0, (hU.cell (p := ⟨bn, 1, none⟩) hbn1).trans x1, (hU.cell (p := ⟨bn, 2, none⟩) hbn1).trans x2⟩
  have hhzH := Lib.hid hhz
  clear hb1 hr x0 x1 x2 hhz
  go_enter Try.func15, Try.ntmps15
  go_wp2_with fail
  refine (clives_any _).mono ?_; rintro e w2 ⟨rfl, hb2⟩
  obtain ⟨y0, y1, y2⟩ := hX.out _ hb2
  have hL := Lib.hid (lightNet_any (c := c) (d := d) (hz := hz) w2 (hR.out.below hb2))
  have hb2 := Lib.hid hb2
  rename_i hb20; clear hb20 hw1 hbn
  go_wp2_with fail
  refine hL.out.mono ?_; rintro e w3 ⟨b, rfl, hbt, hb3⟩
  have hb13 := hb2.out.trans (hb3.mono hb2.out.size)
  clear y0 y1 y2
  obtain ⟨y0, y1, y2⟩ := hX.out _ hb13
  cases b with
  | false =>
    go_wp2_with fail
    go_returns
    exact ⟨rfl, hup.out _ hb13⟩
  | true =>
    have hlt := Lib.hid (hbt rfl)
    have hs := Lib.hid (hlt.out.small (by omega) (by omega) (by omega))
    clear hbt
    have hn40 : n ≤ 1000 := by have := hs.out.cn; have := hnn.out; omega
    have hK := Lib.hid (r11check_any (c := c) (d := d) hs.out w3 (hR.out.below hb13))
    rw [hhzH.out] at hK
    have hb13h := Lib.hid hb13
    clear hb13
    go_wp2_with fail
    refine hK.out.mono ?_; rintro e w4 ⟨rfl, hb4⟩
    have hb14 := hb13h.out.trans (hb4.mono hb13h.out.size)
    clear y0 y1 y2 hK
    obtain ⟨y0, y1, y2⟩ := hX.out _ hb14
    rcases chkN_cases N with hk | hk
    rotate_left
    · rw [hk]
      clear hk
      go_wp2_with fail
      go_returns
      exact ⟨rfl, hup.out _ hb14⟩
    rw [hk]
    have hN := Lib.hid (chkN_iff.1 hk)
    have hkH := Lib.hid hk
    clear hk
    by_cases h0 : n = 0
    · have d0 : ((n : Int) == 0) = true := by simp [h0]
      have d0' : (n == 0) = true := by simp [h0]
      clear h0
      go_wp2_with fail
      go_returns
      exact ⟨rfl, hup.out _ hb14⟩
    have d0 : ((n : Int) == 0) = false := by simp [h0]
    have d0' : (n == 0) = false := by simp [h0]
    by_cases q1 : far < near
    · have e1 : decide (far < near) = true := decide_eq_true q1
      go_wp2_with fail
      go_returns
      exact ⟨rfl, hup.out _ hb14⟩
    have e1 : decide (far < near) = false := decide_eq_false q1
    have hnf : Hid (near ≤ far) := by show _ ≤ _; omega
    have hM := Lib.hid (cmake_any (c := c) (d := d) hs.out w4 (hR.out.below hb14))
    rw [hhzH.out] at hM
    have hb14h := Lib.hid hb14
    clear hb14 q1
    go_wp2_with fail
    refine hM.out.mono ?_; rintro e w5 ⟨A5, c5, rfl, hC5, _, _, hb5⟩
    have hml : (mkC N).length = n := by rw [mkC_len hN.out]; exact hnn.out
    rw [hml] at hC5 ⊢
    rw [hkH.out]
    have hC5h := Lib.hid hC5
    have hb15 := Lib.hid (hb14h.out.trans (hb5.mono hb14h.out.size))
    obtain ⟨y0', y1', y2'⟩ := hX.out _ hb15.out
    have hP := Lib.hid (pick_any a n w5 (by omega) ha)
    clear y0 y1 y2 hM hml hC5 hb5
    go_wp2_with fail
    refine hP.out.mono ?_; rintro e w6 ⟨p, rfl, hpn, hb6⟩
    have hpn2 : p < N.cs.length := by have := hnn.out; omega
    have hC6 := Lib.hid (hC5h.out.below hb6)
    have hb16 := Lib.hid (hb15.out.trans (hb6.mono hb15.out.size))
    have hwf := Lib.hid (mkC_wf hN.out (by have := hnn.out; omega))
    have hrow := Lib.hid (mkC_row hN.out hpn2)
    have hok := Lib.hid (nearS_ok hN.out hpn2)
    have hfar : Hid (∀ b : Nat, b < n → lenR (nearS (clD N p) N.cs.length) b = farC N p b) := fun b hb => lenR_near hN.out b hpn2 (by have := hnn.out; omega)
    have hnl : Hid ((nearS (clD N p) N.cs.length).length ≤ n) := by show _ ≤ _; have := nearS_len (clD N p) N.cs.length; have := hnn.out; omega
    obtain ⟨r, hr⟩ : ∃ q, nearS (clD N p) N.cs.length = q := ⟨_, rfl⟩
    rw [hr] at hrow hok hfar hnl
    have hW1 := Lib.hid (cWithin_any c5 (p : Int) near w6 hC6.out hwf.out)
    rw [withinC_in hrow.out] at hW1
    clear hr hP hb6 hC5h
    go_wp2_with fail
    refine hW1.out.mono ?_; rintro e w7 ⟨A7, c7, rfl, hR7, hc7, hc7', hb7⟩
    have hb17 := Lib.hid (hb16.out.trans (hb7.mono hb16.out.size))
    have hC7 := Lib.hid (hC6.out.below hb7)
    have hW2 := Lib.hid (cWithin_any c5 (p : Int) far w7 hC7.out hwf.out)
    rw [withinC_in hrow.out] at hW2
    have hxy := Lib.hid (within_take hok.out hnf.out)
    have hle := within_le hok.out hnf.out
    obtain ⟨nX, hnX⟩ : ∃ q, (withinR r near).length = q := ⟨_, rfl⟩
    obtain ⟨nY, hnY⟩ : ∃ q, (withinR r far).length = q := ⟨_, rfl⟩
    rw [hnX] at hR7 hc7 hle hxy ⊢
    rw [hnY] at hle
    have hR7h := Lib.hid hR7
    have hnXh := Lib.hid hnX
    have hnYh := Lib.hid hnY
    clear hW1 hb7 hR7 hnX
    go_wp2_with fail
    refine hW2.out.mono ?_; rintro e w8 ⟨A8, c8, rfl, hR8, hc8, hc8', hb8⟩
    have hb18 := Lib.hid (hb17.out.trans (hb8.mono hb17.out.size))
    rw [hnY] at hR8 hc8 ⊢
    have hR8h := Lib.hid hR8
    have hR78 := Lib.hid (hR7h.out.below hb8)
    have hC8 := Lib.hid (hC7.out.below hb8)
    clear hW2 hb8 hR8 hnY hC7
    have d3 : decide ((nY : Int) < (nX : Int)) = false := decide_eq_false (by omega)
    have d3' : decide (nY < nX) = false := decide_eq_false (by omega)
    go_wp2_with fail
    have hY1 : nY ≤ 1000 := by have := withinR_len r far; have := hnYh.out; have := hnl.out; omega
    have hS := Lib.hid (sameI_any A7 nX c7 (withinR r near) A8 nX c8 ((withinR r far).take nX) w8 hR78.out (hR8h.out.take hle) (by omega) (by omega))
    rw [decide_eq_true hxy.out] at hS
    refine hS.out.mono ?_; rintro e w9 ⟨rfl, hb9⟩
    have hb19 := Lib.hid (hb18.out.trans (hb9.mono hb18.out.size))
    have hC9 := Lib.hid (hC8.out.below hb9)
    have hR9 := Lib.hid (hR8h.out.below hb9)
    clear hS hb9
    have hYok := Lib.hid (And.intro hok.out (And.intro (within_nd hok.out far) hwf.out))
    have wp : (Lit.int .i64 (p : Int)).wf = true := wf64 (by omega) (by omega)
    obtain ⟨Y, hYe⟩ : ∃ q, withinR r far = q := ⟨_, rfl⟩
    have hYeH := Lib.hid hYe
    have hR9 : Hid (Rd w9 1 (numE .i64) A8 nY Y) := by rw [← hYe]; exact hR9
    rename_i hR9X
    clear hR9X
    have hmemY : Hid (∀ b : Int, b ∈ Y ↔ lenR r b ≤ far ∧ lenR r b < W.inf) := fun b => by rw [← hYeH.out]; exact within_mem hok.out
    have hxlo : Hid (∀ (k : Nat) (y : Int), Y[k]? = some y → lenR r y ≤ far ∧ (k < nX ↔ lenR r y ≤ near) ∧ wasF r Y k ≤ lenR r y ∧ y ∉ Y.take k ∧ (Lit.int .i64 y).wf = true) := fun k y hy => by
      rw [← hYeH.out] at hy ⊢
      obtain ⟨z, hz, hzy, hlz, hzf, _⟩ := within_at hok.out hy
      refine ⟨by rw [hlz]; exact hzf, by rw [← hnXh.out]; exact within_lt hok.out hnf.out hy, wasF_le hok.out hy, nd_take (within_nd hok.out far) hy, ?_⟩
      have hzm := (List.mem_filter.1 (List.mem_of_getElem? hz)).1
      have := ((hwf.out.2 r (List.mem_of_getElem? hrow.out)).2 z hzm).2
      rw [hzy] at this
      exact this
    have hcl : Hid (∀ (y : Int) (U : World), Below w9.heap.size w9 U → (Lit.int .i64 y).wf = true → Calls Try.prog 42 #[.slice A5 n c5, .int .i64 (p : Int), .int .i64 y] U fun e w' => e = .returned (.int .i64 (lenR r y)) ∧ Below U.heap.size U w') := fun y U hU hy => by
      have := cLen_any c5 (p : Int) y U (hC9.out.below hU) hwf.out wp hy
      rwa [lenC_in hrow.out] at this
    have hmk : ∀ W : World, (Instr.makeMap 77 none).run Try.prog W = .ok (.map (some W.heap.size)) (W.alloc (.map #[] 0)) := fun W => by kernel_rfl
    have hb10 : Below w9.heap.size w9 (w9.alloc (.map #[] 0)) := (Below.refl _ w9).alloc (Nat.le_refl _) _
    have hM0 : MapI Try.prog 3 3 (w9.alloc (.map #[] 0)) w9.heap.size (fun _ => none) 0 := MapI.new w9
    obtain ⟨w10, hw10⟩ : ∃ q, w9.alloc (.map #[] 0) = q := ⟨_, rfl⟩
    rw [hw10] at hb10 hM0
    obtain ⟨bm, hbm⟩ : ∃ q, w9.heap.size = q := ⟨_, rfl⟩
    have hbmH := Lib.hid hbm
    have hM0' : MapI Try.prog 3 3 w10 bm (fun _ => none) 0 := by rw [← hbm]; exact hM0
    have hM0h := Lib.hid hM0'
    have hb10h := Lib.hid hb10
    clear hM0 hM0' hb10 hC9 hYe hwf hC8 hR78 hR7h hR8h
    go_wp2_with fail
    clear hw10 hmk hbm
    go_loopw [14, 15] (fun vw iv wr => ∃ (k : Nat), k ≤ nY ∧ iv = .int .i64 k ∧ vw = .int .i64 (wasF r Y k) ∧ Hid (MapI Try.prog 3 3 wr bm (inF (Y.take k)) k) ∧ Hid (Below w9.heap.size w9 wr)) (fun _ iv _ => nY - (intOf iv).toNat)
    case atStart => exact ⟨0, Nat.zero_le _, rfl, rfl, by rw [List.take_zero, inF_nil]; exact hM0h, hb10h⟩
    case round =>
      obtain ⟨k, hk, rfl, rfl, hM, hb⟩ := hrel
      by_cases hkn : k < nY
      · obtain ⟨bY, oY, y, rfl, hbY, hyk, fY⟩ := (hR9.out.below hb.out).num hkn
        obtain ⟨z1, z2, z3, z4, z5⟩ := hxlo.out k y hyk
        have hcy := Lib.hid (hcl.out y wr hb.out z5)
        have hkI : (k : Int) < (nY : Int) := by omega
        have hnxt : Hid (wasF r Y (k + 1) = lenR r y) := wasF_next hyk
        have hty : Hid (inF (Y.take (k + 1)) = updI (inF (Y.take k)) y 1) := by show _ = _; rw [take_at hyk, inF_snoc]
        have hno := Lib.hid (inF_none z4)
        obtain ⟨L, hL⟩ : ∃ q, lenR r y = q := ⟨_, rfl⟩
        obtain ⟨was, hwas⟩ : ∃ q, wasF r Y k = q := ⟨_, rfl⟩
        rw [hL] at z1 z2 z3 hcy hnxt
        rw [hwas] at z3 ⊢
        have e1 : decide (far < L) = false := decide_eq_false (by omega)
        have e2 : decide (L < was) = false := decide_eq_false (by omega)
        have wy := z5
        clear hyk z4 hL hwas z5
        go_wp2_with fail
        refine hcy.out.mono ?_; rintro e w11 ⟨rfl, hb11⟩
        have fY := (hb11.cell (p := ⟨bY, _, none⟩) hbY).trans fY
        have hM11 := hM.out.below hb11
        have hlk := (hM11.look Try.underlying77 Try.underlying3 Try.underlying3 (by kernel_rfl) wy).2
        rw [hno.out] at hlk
        simp only [Option.getD_none] at hlk
        obtain ⟨B0, B1, B2, st, hB0, n1, n2, n3⟩ := MapI.entryNew hM11 Try.underlying77 Try.underlying3 Try.underlying3 (fun W => by kernel_rfl) wy (wf64 (a := 1) (by omega) (by omega)) hno.out (by omega)
        rw [← hty.out] at n3
        have he1 := n1 w11 hB0
        have hbB1 := heap_setB (o' := B1) hB0
        have hs1 : Below w9.heap.size w9 (Go.ChangeMaps.setBlock w11 bm B1) := (hb.out.trans (hb11.mono hb.out.size)).trans (setB_below (Nat.le_of_eq hbmH.out))
        obtain ⟨U1, hU1⟩ : ∃ q, Go.ChangeMaps.setBlock w11 bm B1 = q := ⟨_, rfl⟩
        rw [hU1] at he1 hbB1 hs1
        have he2 := n2 U1 hbB1
        have hbB2 := heap_setB (o' := B2) hbB1
        have hs2 : Below w9.heap.size w9 (Go.ChangeMaps.setBlock U1 bm B2) := hs1.trans (setB_below (Nat.le_of_eq hbmH.out))
        have hM2 := Lib.hid (n3 _ hbB2)
        have hs2h := Lib.hid hs2
        have fY2 := fY
        have hlt9 : bY < w9.heap.size := Rd.lt hR9.out hkn trivial
        have fY1 : U1.cell? ⟨bY, oY + k, none⟩ = some (.int .i64 y) := by
          have := World.cell?_of_block (a := ⟨bY, oY + k, none⟩) (hs1.block bY hlt9)
          have h2 := World.cell?_of_block (a := ⟨bY, oY + k, none⟩) ((hb.out.trans (hb11.mono hb.out.size)).block bY hlt9)
          rw [this, ← h2]; exact fY2
        clear n1 n2 n3 hB0 hbB1 hbB2 hs1 hs2 hU1 hM11 hb11 hcy hM hb fY2
        by_cases hkx : k < nX
        · have d4 : decide ((k : Int) < (nX : Int)) = true := decide_eq_true (by omega)
          have d4' : decide (k < nX) = true := decide_eq_true hkx
          have d5 : decide (L ≤ near) = true := decide_eq_true (z2.1 hkx)
          clear z2 z1 z3 hkx
          go_wp2_with fail
          go_roundw
          case rel => exact ⟨k + 1, by omega, by go_num, by rw [hnxt.out], hM2, hs2h⟩
          case measure => simp [intOf]; omega
        · have d4 : decide ((k : Int) < (nX : Int)) = false := decide_eq_false (by omega)
          have d4' : decide (k < nX) = false := decide_eq_false hkx
          have d5 : decide (L ≤ near) = false := decide_eq_false (fun h => hkx (z2.2 h))
          clear z2 z1 z3 hkx
          go_wp2_with fail
          go_roundw
          case rel => exact ⟨k + 1, by omega, by go_num, by rw [hnxt.out], hM2, hs2h⟩
          case measure => simp [intOf]; omega
      · obtain rfl : k = nY := by omega
        have hM' := hM.out
        rw [List.take_of_length_le (by rw [hR9.out.len]; exact Nat.le_refl _)] at hM'
        have hME := Lib.hid hM'
        obtain ⟨wE, hwE⟩ : ∃ q, q = wr := ⟨_, rfl⟩
        subst hwE
        obtain ⟨was, hwas⟩ : ∃ q, wasF r Y k = q := ⟨_, rfl⟩
        rw [hwas]
        clear hM hM' hwas
        go_wp2_with fail
        go_loopw [17] (fun iv wr => ∃ (b : Nat), b ≤ n ∧ iv = .int .i64 b ∧ Hid (Below wE.heap.size wE wr)) (fun iv _ => n - (intOf iv).toNat)
        case atStart => exact ⟨0, Nat.zero_le _, rfl, Below.refl _ _⟩
        case round =>
          obtain ⟨b, hbn, rfl, hbE⟩ := hrel
          have hbW := Lib.hid (hb.out.trans (hbE.out.mono hb.out.size))
          by_cases hlt : b < n
          rotate_left
          · obtain rfl : b = n := by omega
            go_wp2_with fail
            go_returns
            exact ⟨rfl, hup.out _ (hb19.out.trans (hbW.out.mono hb19.out.size))⟩
          have wb : (Lit.int .i64 (b : Int)).wf = true := wf64 (by omega) (by omega)
          have hcb : Hid (∀ U, Below wr.heap.size wr U → Calls Try.prog 42 #[.slice A5 n c5, .int .i64 (p : Int), .int .i64 (b : Int)] U fun e w' => e = .returned (.int .i64 (lenR r b)) ∧ Below U.heap.size U w') := fun U hU => hcl.out b U (hbW.out.trans (hU.mono hbW.out.size)) wb
          have hlk : Hid (∀ U, Below wr.heap.size wr U → (Instr.lookup 77 (.map (some bm)) (.int .i64 (b : Int)) false).run Try.prog U = .ok (.int .i64 ((inF Y b).getD 0)) U) := fun U hU =>
            (((hME.out.below hbE.out).below hU).look Try.underlying77 Try.underlying3 Try.underlying3 (by kernel_rfl) wb).2
          have hmem := hmemY.out b
          obtain ⟨L, hL⟩ : ∃ q, lenR r b = q := ⟨_, rfl⟩
          rw [hL] at hcb hmem
          have hltI : (b : Int) < (n : Int) := by omega
          clear hL
          by_cases hbY : (b : Int) ∈ Y
          · rw [inF_some hbY] at hlk
            simp only [Option.getD_some] at hlk
            obtain ⟨m1, m2⟩ := hmem.1 hbY
            have e1 : decide (L ≤ far) = true := decide_eq_true m1
            have e2 : decide (L < 4611686018427387904) = true := decide_eq_true m2
            clear hmem hbY m1 m2
            go_wp2_with fail
            go_upto_region 24 with fail
            refine wp_region_below wr.heap.size (by kernel_rfl) (by kernel_rfl) ?_
            intro C hC
            repeat (go_big_quiet_step (first
              | ((intro _; with_reducible rfl))
              | (intro hc; have m0 := hlk.out _ hc; simp only [m0, Result.andThen]; exact ⟨trivial, rfl⟩)
              | (intro hc; with_reducible refine (hcb.out _ hc).mono ?_; rintro e w'' ⟨rfl, hb⟩; exact ⟨rfl, hc.trans (hb.mono hc.size)⟩)))
            refine wpQuiet_nil ?_
            intro w12 hb12
            clear hC
            have hfin := Lib.hid (hbE.out.trans (hb12.mono hbE.out.size))
            clear hb12
            go_wp2_with fail
            go_roundw
            case rel => exact ⟨b + 1, by omega, by go_num, hfin⟩
            case measure => simp [intOf]; omega
          · rw [inF_none hbY] at hlk
            simp only [Option.getD_none] at hlk
            by_cases m1 : L ≤ far
            · have e1 : decide (L ≤ far) = true := decide_eq_true m1
              have e2 : decide (L < 4611686018427387904) = false := decide_eq_false fun m2 => hbY (hmem.2 ⟨m1, m2⟩)
              clear hmem hbY m1
              go_wp2_with fail
              go_upto_region 24 with fail
              refine wp_region_below wr.heap.size (by kernel_rfl) (by kernel_rfl) ?_
              intro C hC
              repeat (go_big_quiet_step (first
                | ((intro _; with_reducible rfl))
                | (intro hc; have m0 := hlk.out _ hc; simp only [m0, Result.andThen]; exact ⟨trivial, rfl⟩)
                | (intro hc; with_reducible refine (hcb.out _ hc).mono ?_; rintro e w'' ⟨rfl, hb⟩; exact ⟨rfl, hc.trans (hb.mono hc.size)⟩)))
              refine wpQuiet_nil ?_
              intro w12 hb12
              clear hC
              have hfin := Lib.hid (hbE.out.trans (hb12.mono hbE.out.size))
              clear hb12
              go_wp2_with fail
              go_roundw
              case rel => exact ⟨b + 1, by omega, by go_num, hfin⟩
              case measure => simp [intOf]; omega
            · have e1 : decide (L ≤ far) = false := decide_eq_false m1
              clear hmem hbY m1
              go_wp2_with fail
              go_upto_region 24 with fail
              refine wp_region_below wr.heap.size (by kernel_rfl) (by kernel_rfl) ?_
              intro C hC
              repeat (go_big_quiet_step (first
                | ((intro _; with_reducible rfl))
                | (intro hc; have m0 := hlk.out _ hc; simp only [m0, Result.andThen]; exact ⟨trivial, rfl⟩)
                | (intro hc; with_reducible refine (hcb.out _ hc).mono ?_; rintro e w'' ⟨rfl, hb⟩; exact ⟨rfl, hc.trans (hb.mono hc.size)⟩)))
              refine wpQuiet_nil ?_
              intro w12 hb12
              clear hC
              have hfin := Lib.hid (hbE.out.trans (hb12.mono hbE.out.size))
              clear hb12
              go_wp2_with fail
              go_roundw
              case rel => exact ⟨b + 1, by omega, by go_num, hfin⟩
              case measure => simp [intOf]; omega
end Go.Proofs.Ytonkkibnigdfbaa
