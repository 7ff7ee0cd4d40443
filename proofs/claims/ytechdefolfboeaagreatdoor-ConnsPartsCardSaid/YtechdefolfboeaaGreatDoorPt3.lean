/-
  A text of the chain.
-/
import Derived.Test.YtechdefolfboeaaGreatDoorPt1
import Derived.Test.YtechdefolfboeaaGreatDoorPt2
namespace Go.Proofs.YtechdefolfboeaaGreatDoor
open Go.RowKit B K
set_option linter.unusedVariables false
set_option linter.unusedSimpArgs false
set_option maxRecDepth 100000
set_option maxHeartbeats 2000000
theorem parts_any (M : WorldP) (V : WV) (A : Option Addr) (n c : Nat) (L : List RunP) (we : World) (hsp : Sp we) (hr : RW we M V) (hwf : WfM M) (hL : RRuns we A n L) :
    Calls Tryz.prog 5 #[wVal M V, .slice A n c] we fun e w' => e = .returned (.bool true) ∧ Below we.heap.size we w' := by
  have hkf := Lib.hid (fun w (h : RW w M V) => kfew_any M V w h hwf)
  have hkl := Lib.hid (fun w h => klight_any A n c L w h)
  have hmk := Lib.hid (fun w h1 hf h2 h3 hn => cmake_any M V A n c L w h1 hf h2 h3 hn)
  have hrH := Lib.hid hr
  have hsH := Lib.hid hsp
  have hLH := Lib.hid hL
  obtain ⟨a0, a1, a2, a3, a4, a5, aP, aD, aR, aT, aH, n0, n1, n2, n3, n4, n5, nP, nD, nR, nT, nH, c0, c1, c2, c3, c4, c5, cP, cD, cR, cT, cH⟩ := V
  simp only [wVal] at *
  have hb1 := below_alloc we #[.int .i64 M.hz, .slice a0 n0 c0, .slice a1 n1 c1, .slice a2 n2 c2, .slice a3 n3 c3, .slice a4 n4 c4, .slice a5 n5 c5, .slice aP nP cP, .slice aD nD cD, .slice aR nR cR, .slice aT nT cT, .slice aH nH cH] 31
  have B1 := Bx.new we 31 [.int .i64 M.hz, .slice a0 n0 c0, .slice a1 n1 c1, .slice a2 n2 c2, .slice a3 n3 c3, .slice a4 n4 c4, .slice a5 n5 c5, .slice aP nP cP, .slice aD nD cD, .slice aR nR cR, .slice aT nT cT, .slice aH nH cH]
  obtain ⟨w1, hw1⟩ : ∃ q, we.alloc (.cells #[.int .i64 M.hz, .slice a0 n0 c0, .slice a1 n1 c1, .slice a2 n2 c2, .slice a3 n3 c3, .slice a4 n4 c4, .slice a5 n5 c5, .slice aP nP cP, .slice aD nD cD, .slice aR nR cR, .slice aT nT cT, .slice aH nH cH] 31) = q := ⟨_, rfl⟩
  change Bx (we.alloc (.cells #[.int .i64 M.hz, .slice a0 n0 c0, .slice a1 n1 c1, .slice a2 n2 c2, .slice a3 n3 c3, .slice a4 n4 c4, .slice a5 n5 c5, .slice aP nP cP, .slice aD nD cD, .slice aR nR cR, .slice aT nT cT, .slice aH nH cH] 31)) _ _ _ at B1
  rw [hw1] at hb1 B1
  obtain ⟨b1, hbE1⟩ : ∃ q, we.heap.size = q := ⟨_, rfl⟩
  rw [hbE1] at B1
  have hup : Hid (Below we.heap.size we w1) := hb1
  have hge1 : Hid (we.heap.size ≤ b1) := by show _ ≤ _; omega
  have B1H := Lib.hid B1
  have l1 := B1.lt
  clear B1 hb1 hr hsp hL hwf
  go_enter Tryz.func5, Tryz.ntmps5
  go_wp2_with fail
  refine (lives19_any w1 (hsH.out.below hup.out)).mono ?_; rintro e w2 ⟨rfl, hb2⟩
  have hb2w := Lib.hid (hup.out.trans (hb2.mono hup.out.size))
  have h12 := Lib.hid hb2
  have y0 := (hb2.cell (p := ⟨b1, _, none⟩) l1).trans (B1H.out.cell 0 rfl)
  have y1 := (hb2.cell (p := ⟨b1, _, none⟩) l1).trans (B1H.out.cell 1 rfl)
  have y2 := (hb2.cell (p := ⟨b1, _, none⟩) l1).trans (B1H.out.cell 2 rfl)
  have y3 := (hb2.cell (p := ⟨b1, _, none⟩) l1).trans (B1H.out.cell 3 rfl)
  have y4 := (hb2.cell (p := ⟨b1, _, none⟩) l1).trans (B1H.out.cell 4 rfl)
  have y5 := (hb2.cell (p := ⟨b1, _, none⟩) l1).trans (B1H.out.cell 5 rfl)
  have y6 := (hb2.cell (p := ⟨b1, _, none⟩) l1).trans (B1H.out.cell 6 rfl)
  have y7 := (hb2.cell (p := ⟨b1, _, none⟩) l1).trans (B1H.out.cell 7 rfl)
  have y8 := (hb2.cell (p := ⟨b1, _, none⟩) l1).trans (B1H.out.cell 8 rfl)
  have y9 := (hb2.cell (p := ⟨b1, _, none⟩) l1).trans (B1H.out.cell 9 rfl)
  have y10 := (hb2.cell (p := ⟨b1, _, none⟩) l1).trans (B1H.out.cell 10 rfl)
  have y11 := (hb2.cell (p := ⟨b1, _, none⟩) l1).trans (B1H.out.cell 11 rfl)
  clear hb2
  go_wp2_with fail
  clear hw1 hbE1
  refine (hkf.out w2 (hrH.out.below hb2w.out)).mono ?_; rintro e w3 ⟨rfl, hb3⟩
  have hb3w := Lib.hid (hb2w.out.trans (hb3.mono hb2w.out.size))
  have h13 := Lib.hid (h12.out.trans (hb3.mono h12.out.size))
  clear hb3 y0 y1 y2 y3 y4 y5 y6 y7 y8 y9 y10 y11
  cases hfw : fewB M with
  | false =>
    clear hfw
    go_wp2_with fail
    go_returns
    exact ⟨rfl, hb3w.out⟩
  | true =>
    have hfew := Lib.hid (few_of hfw)
    clear hfw
    go_wp2_with fail
    refine (hkl.out w3 (hLH.out.below hb3w.out)).mono ?_; rintro e w4 ⟨rfl, hb4⟩
    have hb4w := Lib.hid (hb3w.out.trans (hb4.mono hb3w.out.size))
    have h14 := Lib.hid (h13.out.trans (hb4.mono h13.out.size))
    clear hb4
    cases hlt : lightB L with
    | false =>
      clear hlt
      go_wp2_with fail
      go_returns
      exact ⟨rfl, hb4w.out⟩
    | true =>
      have hlight := Lib.hid hlt
      have hn60 : n ≤ 60 := by have := light_len hlt; have := hLH.out.len; omega
      have hnl : Hid (¬ 16384 < L.length) := by have := light_len hlt; show ¬ _; omega
      clear hlt
      have y0 := (h14.out.cell (p := ⟨b1, _, none⟩) l1).trans (B1H.out.cell 0 rfl)
      have y1 := (h14.out.cell (p := ⟨b1, _, none⟩) l1).trans (B1H.out.cell 1 rfl)
      have y2 := (h14.out.cell (p := ⟨b1, _, none⟩) l1).trans (B1H.out.cell 2 rfl)
      have y3 := (h14.out.cell (p := ⟨b1, _, none⟩) l1).trans (B1H.out.cell 3 rfl)
      have y4 := (h14.out.cell (p := ⟨b1, _, none⟩) l1).trans (B1H.out.cell 4 rfl)
      have y5 := (h14.out.cell (p := ⟨b1, _, none⟩) l1).trans (B1H.out.cell 5 rfl)
      have y6 := (h14.out.cell (p := ⟨b1, _, none⟩) l1).trans (B1H.out.cell 6 rfl)
      have y7 := (h14.out.cell (p := ⟨b1, _, none⟩) l1).trans (B1H.out.cell 7 rfl)
      have y8 := (h14.out.cell (p := ⟨b1, _, none⟩) l1).trans (B1H.out.cell 8 rfl)
      have y9 := (h14.out.cell (p := ⟨b1, _, none⟩) l1).trans (B1H.out.cell 9 rfl)
      have y10 := (h14.out.cell (p := ⟨b1, _, none⟩) l1).trans (B1H.out.cell 10 rfl)
      have y11 := (h14.out.cell (p := ⟨b1, _, none⟩) l1).trans (B1H.out.cell 11 rfl)
      go_wp2_with fail
      refine (hmk.out w4 (hrH.out.below hb4w.out) hfew.out (hsH.out.below hb4w.out) (hLH.out.below hb4w.out) (by omega)).mono ?_; rintro e w5 ⟨A5, c5, rfl, r5, hc5, hm5, hb5⟩
      have hb5w := Lib.hid (hb4w.out.trans (hb5.mono hb4w.out.size))
      have h15 := Lib.hid (h14.out.trans (hb5.mono h14.out.size))
      have l15 := Nat.lt_of_lt_of_le l1 h15.out.size
      clear hb5 y0 y1 y2 y3 y4 y5 y6 y7 y8 y9 y10 y11
      by_cases he : errC M L = 0
      · have hOK := Lib.hid (okC_of hnl.out he)
        have hres : resC M L = makeC M L := resC_ok he
        rw [hres] at r5 hc5
        rw [hres, he]
        have hml : (makeC M L).length ≤ 2000 := by have := makeC_len_le (L := L) hOK.out.good; have := hLH.out.len; omega
        have hsort := Lib.hid (makeC_sorted M L)
        have hco := Lib.hid (fun x hx => conn_ok (x := x) hOK.out hx)
        have hn0 : Hid (M.stops.length = n0) := hrH.out.r0.len
        have hnn : Hid (L.length = n) := hLH.out.len
        have hlast : Hid ((makeC M L).filter (fun c => c.run == ((n : Nat) : Int)) = []) := of_none (by rw [hnn.out]; exact Nat.le_refl _)
        have m0b : n0 ≤ 256 := by have := hOK.out.good.ns; have := hn0.out; omega
        obtain ⟨C, hC⟩ : ∃ C, makeC M L = C := ⟨_, rfl⟩
        rw [hC] at r5 hc5 hml hsort hco hlast ⊢
        obtain ⟨mC, hmC⟩ : ∃ m, C.length = m := ⟨_, rfl⟩
        rw [hmC] at r5 hc5 hml ⊢
        have r5H := Lib.hid r5
        have hmCH := Lib.hid hmC
        have z1 : Hid (cutN (·.fr) C 0 = 0) := cutN_zero fun x hx => (hco.out x hx).1.1
        have z2 : Hid (cutN (·.to_) C 0 = 0) := cutN_zero fun x hx => (hco.out x hx).2.1.1
        have z3 : Hid (cutN (·.run) C 0 = 0) := cutN_zero fun x hx => (hco.out x hx).2.2.2.1
        clear r5 hres he hC hmC hmk hkf hkl
        have y1 := (h15.out.cell (p := ⟨b1, _, none⟩) l1).trans (B1H.out.cell 1 rfl)
        have hb0 : Hid (Below w5.heap.size w5 w5) := Below.refl _ _
        go_wp2_with fail
        clear y1
        go_loopw [7, 8, 10] (fun vf vt iv wr => ∃ i : Nat, i ≤ n0 ∧ vf = .int .i64 (cutN (·.fr) C i : Nat) ∧ vt = .int .i64 (cutN (·.to_) C i : Nat) ∧ iv = .int .i64 i ∧ Hid (Below w5.heap.size w5 wr)) (fun _ _ iv _ => n0 - (intOf iv).toNat)
        case atStart => exact ⟨0, Nat.zero_le _, by rw [z1.out]; rfl, by rw [z2.out]; rfl, rfl, hb0⟩
        case round =>
          clear hb0
          obtain ⟨i, hi, rfl, rfl, rfl, hb⟩ := hrel
          have hbr := Lib.hid (hb5w.out.trans (hb.out.mono hb5w.out.size))
          have h1r := Lib.hid (h15.out.trans (hb.out.mono h15.out.size))
          have y1 := (h1r.out.cell (p := ⟨b1, _, none⟩) l1).trans (B1H.out.cell 1 rfl)
          by_cases hin : i < n0
          · have hinI : (i : Int) < (n0 : Int) := by omega
            have hcf := Lib.hid (cutN_succ (·.fr) C i)
            have hct := Lib.hid (cutN_succ (·.to_) C i)
            have hbf : cutN (·.fr) C i ≤ 2000 := by have := cutN_le (·.fr) C i; have := hmCH.out; omega
            have hbt : cutN (·.to_) C i ≤ 2000 := by have := cutN_le (·.to_) C i; have := hmCH.out; omega
            obtain ⟨qf, hqf⟩ : ∃ q, cutN (·.fr) C i = q := ⟨_, rfl⟩
            obtain ⟨qt, hqt⟩ : ∃ q, cutN (·.to_) C i = q := ⟨_, rfl⟩
            rw [hqf] at hcf hbf ⊢
            rw [hqt] at hct hbt ⊢
            have hfr := Lib.hid (fun w h => cfrom_any A5 mC c5 C (i : Int) w h (by omega))
            have hto := Lib.hid (fun w h => cto_any A5 mC c5 C (i : Int) w h (by omega))
            have hFF : Hid (∀ x ∈ C.filter (fun c => c.fr == (i : Int)), x.fr = (i : Int) ∧ x.to_ ≠ (i : Int)) := fun x hx => by
              obtain ⟨h1, h2⟩ := List.mem_filter.1 hx
              have h2 : x.fr = (i : Int) := by simpa using h2
              exact ⟨h2, fun e => (hco.out x h1).2.2.1 (by rw [h2, e])⟩
            have hFT : Hid (∀ x ∈ C.filter (fun c => c.to_ == (i : Int)), x.to_ = (i : Int) ∧ x.fr ≠ (i : Int)) := fun x hx => by
              obtain ⟨h1, h2⟩ := List.mem_filter.1 hx
              have h2 : x.to_ = (i : Int) := by simpa using h2
              exact ⟨h2, fun e => (hco.out x h1).2.2.1 (by rw [h2, e])⟩
            have hSF := Lib.hid (filter_sorted (fun c => c.fr == (i : Int)) hsort.out)
            have hST := Lib.hid (filter_sorted (fun c => c.to_ == (i : Int)) hsort.out)
            have hlF : (C.filter (fun c => c.fr == (i : Int))).length ≤ 2000 := by have := List.length_filter_le (fun c : ConnP => c.fr == (i : Int)) C; have := hmCH.out; omega
            have hlT : (C.filter (fun c => c.to_ == (i : Int))).length ≤ 2000 := by have := List.length_filter_le (fun c : ConnP => c.to_ == (i : Int)) C; have := hmCH.out; omega
            obtain ⟨CF, hCF⟩ : ∃ q, C.filter (fun c => c.fr == (i : Int)) = q := ⟨_, rfl⟩
            obtain ⟨CT, hCT⟩ : ∃ q, C.filter (fun c => c.to_ == (i : Int)) = q := ⟨_, rfl⟩
            rw [hCF] at hcf hfr hFF hSF hlF
            rw [hCT] at hct hto hFT hST hlT
            obtain ⟨mF, hmF⟩ : ∃ q, CF.length = q := ⟨_, rfl⟩
            obtain ⟨mT, hmT⟩ : ∃ q, CT.length = q := ⟨_, rfl⟩
            have hfr2 : Hid (∀ w, Rd w 6 connE A5 mC C → Calls Tryz.prog 21 #[.slice A5 mC c5, .int .i64 (i : Int)] w fun e w' => ∃ A c, e = .returned (.slice A mF c) ∧ Rd w' 6 connE A mF CF ∧ Below w.heap.size w w') := fun w h =>
              (hfr.out w h).mono fun e w' ⟨A, c, h1, h2, _, _, h3⟩ => ⟨A, c, by rw [← hmF]; exact h1, by rw [← hmF]; exact h2, h3⟩
            have hto2 : Hid (∀ w, Rd w 6 connE A5 mC C → Calls Tryz.prog 22 #[.slice A5 mC c5, .int .i64 (i : Int)] w fun e w' => ∃ A c, e = .returned (.slice A mT c) ∧ Rd w' 6 connE A mT CT ∧ Below w.heap.size w w') := fun w h =>
              (hto.out w h).mono fun e w' ⟨A, c, h1, h2, _, _, h3⟩ => ⟨A, c, by rw [← hmT]; exact h1, by rw [← hmT]; exact h2, h3⟩
            rw [hmF] at hcf hlF
            rw [hmT] at hct hlT
            clear hqf hqt hfr hto hCF hCT hmF hmT
            go_wp2_with fail
            refine (hfr2.out wr (r5H.out.below hb.out)).mono ?_; rintro e w6 ⟨A6, c6, rfl, r6, hb6⟩
            have hb6' := Lib.hid (hb.out.trans (hb6.mono hb.out.size))
            have r6H := Lib.hid r6
            clear r6 hb6
            go_wp2_with fail
            refine (hto2.out w6 (r5H.out.below hb6'.out)).mono ?_; rintro e w7 ⟨A7, c7, rfl, r7, hb7⟩
            have h7 := Lib.hid (hb6'.out.trans (hb7.mono hb6'.out.size))
            have h7w := Lib.hid (hb5w.out.trans (h7.out.mono hb5w.out.size))
            have r7H := Lib.hid r7
            have r6W := Lib.hid (r6H.out.below hb7)
            clear r7 hb7 hfr2 hto2 y1
            have hhw7w := h7w
            go_wp2_with fail
            go_loopw [13] (fun kv wr => ∃ p : Nat, p ≤ mF ∧ kv = .int .i64 p ∧ Hid (Below w7.heap.size w7 wr)) (fun kv _ => mF - (intOf kv).toNat)
            case atStart => exact ⟨0, Nat.zero_le _, rfl, Below.refl _ _⟩
            case round =>
              clear hb hbr
              obtain ⟨p, hp, rfl, hb⟩ := hrel
              have hbr := Lib.hid (h7w.out.trans (hb.out.mono h7w.out.size))
              by_cases hpl : p < mF
              · have hpI : (p : Int) < (mF : Int) := by omega
                obtain ⟨b9, o9, x, hAA, hb9r, hx9, hc9⟩ := (r6W.out.below hb.out).get hpl
                subst hAA
                have hin9 := hFF.out x (List.mem_of_getElem? hx9)
                obtain ⟨x1, x2, x3, x4, x5, x6⟩ := x
                simp only at hin9
                obtain ⟨rfl, hne9⟩ := hin9
                have hneF : (x4 == (i : Int)) = false := by simp; omega
                have m0 := hc9 0 _ rfl
                have m1 := hc9 1 _ rfl
                have m2 := hc9 2 _ rfl
                have m3 := hc9 3 _ rfl
                have m4 := hc9 4 _ rfl
                have m5 := hc9 5 _ rfl
                simp only [Nat.add_zero] at m0
                cases p with
                | zero =>
                  simp only [Nat.zero_mul, Nat.add_zero, Nat.zero_add] at m0 m1 m2 m3 m4 m5
                  clear hc9 hx9 hne9
                  go_wp2_with fail
                  go_upto_region 16 with fail
                  refine wp_region_below wr.heap.size (by kernel_rfl) (by kernel_rfl) ?_
                  intro C hC
                  repeat (go_big_quiet_step (first
                    | ((intro _; with_reducible rfl))
                    | (intro hc; have hcw := hbr.out.trans (hc.mono hbr.out.size); have k0 := (hc.cell (p := ⟨b9, _, none⟩) hb9r).trans m0; have k1 := (hc.cell (p := ⟨b9, _, none⟩) hb9r).trans m1; have k2 := (hc.cell (p := ⟨b9, _, none⟩) hb9r).trans m2; have k3 := (hc.cell (p := ⟨b9, _, none⟩) hb9r).trans m3; have k4 := (hc.cell (p := ⟨b9, _, none⟩) hb9r).trans m4; have k5 := (hc.cell (p := ⟨b9, _, none⟩) hb9r).trans m5; simp only [k0, k1, k2, k3, k4, k5, Result.andThen]; exact ⟨trivial, rfl⟩)
                  ))
                  refine wpQuiet_nil ?_
                  intro w9 hb9
                  clear hC
                  have hbz := Lib.hid (hb.out.trans (hb9.mono hb.out.size))
                  clear hb9
                  go_wp2_with fail
                  go_roundw
                  case rel => exact ⟨0 + 1, by omega, by go_num, hbz⟩
                  case measure => simp [intOf]; omega
                | succ j =>
                  have hj0 : ((j : Int) + 1 > 0) := by omega
                  have hjI : (j : Int) < (mF : Int) := by omega
                  obtain ⟨_, _, y, hqS, _, hy9, hd9⟩ := (r6W.out.below hb.out).get (show j < mF by omega)
                  cases hqS
                  have hlt : ltC y ⟨x1, x2, i, x4, x5, x6⟩ = true := next_lt hSF.out hy9 hx9
                  have hcl : Hid (∀ U, Calls Tryz.prog 20 #[.agg (connE y).toArray, .agg (connE ⟨x1, x2, i, x4, x5, x6⟩).toArray] U fun e w' => e = .returned (.bool true) ∧ Below U.heap.size U w') := fun U =>
                    (cless_any y _ U).mono fun e w' h => ⟨by rw [h.1, hlt], h.2.below⟩
                  obtain ⟨y1, y2, y3, y4, y5, y6⟩ := y
                  have v0 := hd9 0 _ rfl
                  have v1 := hd9 1 _ rfl
                  have v2 := hd9 2 _ rfl
                  have v3 := hd9 3 _ rfl
                  have v4 := hd9 4 _ rfl
                  have v5 := hd9 5 _ rfl
                  simp only [Nat.add_zero] at v0
                  simp only [connE] at hcl
                  clear hc9 hd9 hx9 hy9 hne9 hlt
                  go_wp2_with fail
                  go_upto_region 16 with fail
                  refine wp_region_below wr.heap.size (by kernel_rfl) (by kernel_rfl) ?_
                  intro C hC
                  repeat (go_big_quiet_step (first
                    | ((intro _; with_reducible rfl))
                    | (intro hc; have hcw := hbr.out.trans (hc.mono hbr.out.size); have k0 := (hc.cell (p := ⟨b9, _, none⟩) hb9r).trans m0; have k1 := (hc.cell (p := ⟨b9, _, none⟩) hb9r).trans m1; have k2 := (hc.cell (p := ⟨b9, _, none⟩) hb9r).trans m2; have k3 := (hc.cell (p := ⟨b9, _, none⟩) hb9r).trans m3; have k4 := (hc.cell (p := ⟨b9, _, none⟩) hb9r).trans m4; have k5 := (hc.cell (p := ⟨b9, _, none⟩) hb9r).trans m5; have k6 := (hc.cell (p := ⟨b9, _, none⟩) hb9r).trans v0; have k7 := (hc.cell (p := ⟨b9, _, none⟩) hb9r).trans v1; have k8 := (hc.cell (p := ⟨b9, _, none⟩) hb9r).trans v2; have k9 := (hc.cell (p := ⟨b9, _, none⟩) hb9r).trans v3; have k10 := (hc.cell (p := ⟨b9, _, none⟩) hb9r).trans v4; have k11 := (hc.cell (p := ⟨b9, _, none⟩) hb9r).trans v5; simp only [k0, k1, k2, k3, k4, k5, k6, k7, k8, k9, k10, k11, Result.andThen]; exact ⟨trivial, rfl⟩)
                    | (intro hc; have hcw := hbr.out.trans (hc.mono hbr.out.size); (with_reducible refine (hcl.out _).mono ?_); rintro e w'' ⟨rfl, hw⟩; exact ⟨rfl, hc.trans (hw.mono hc.size)⟩)))
                  refine wpQuiet_nil ?_
                  intro w9 hb9
                  clear hC
                  have hbz := Lib.hid (hb.out.trans (hb9.mono hb.out.size))
                  clear hb9
                  go_wp2_with fail
                  go_roundw
                  case rel => exact ⟨j + 1 + 1, by omega, by go_num, hbz⟩
                  case measure => simp [intOf]; omega
              · have hpe : p = mF := by omega
                subst hpe
                have hbz7 := Lib.hid (h7.out.trans (hb.out.mono h7.out.size))
                have hw8w := Lib.hid (h7w.out.trans (hb.out.mono h7w.out.size))
                have r7W := Lib.hid (r7H.out.below hb.out)
                obtain ⟨w8, hw8⟩ : ∃ q, wr = q := ⟨_, rfl⟩
                rw [hw8] at hb hbr hbz7 hw8w r7W ⊢
                clear hw8
                go_wp2_with fail
                go_loopw [14] (fun kv wr => ∃ p : Nat, p ≤ mT ∧ kv = .int .i64 p ∧ Hid (Below w8.heap.size w8 wr)) (fun kv _ => mT - (intOf kv).toNat)
                case atStart => exact ⟨0, Nat.zero_le _, rfl, Below.refl _ _⟩
                case round =>
                  clear hb hbr
                  obtain ⟨p, hp, rfl, hb⟩ := hrel
                  have hbr := Lib.hid (hw8w.out.trans (hb.out.mono hw8w.out.size))
                  by_cases hpl : p < mT
                  · have hpI : (p : Int) < (mT : Int) := by omega
                    obtain ⟨b9, o9, x, hAA, hb9r, hx9, hc9⟩ := (r7W.out.below hb.out).get hpl
                    subst hAA
                    have hin9 := hFT.out x (List.mem_of_getElem? hx9)
                    obtain ⟨x1, x2, x3, x4, x5, x6⟩ := x
                    simp only at hin9
                    obtain ⟨rfl, hne9⟩ := hin9
                    have hneF : (x3 == (i : Int)) = false := by simp; omega
                    have m0 := hc9 0 _ rfl
                    have m1 := hc9 1 _ rfl
                    have m2 := hc9 2 _ rfl
                    have m3 := hc9 3 _ rfl
                    have m4 := hc9 4 _ rfl
                    have m5 := hc9 5 _ rfl
                    simp only [Nat.add_zero] at m0
                    cases p with
                    | zero =>
                      simp only [Nat.zero_mul, Nat.add_zero, Nat.zero_add] at m0 m1 m2 m3 m4 m5
                      clear hc9 hx9 hne9
                      go_wp2_with fail
                      go_upto_region 21 with fail
                      refine wp_region_below wr.heap.size (by kernel_rfl) (by kernel_rfl) ?_
                      intro C hC
                      repeat (go_big_quiet_step (first
                        | ((intro _; with_reducible rfl))
                        | (intro hc; have hcw := hbr.out.trans (hc.mono hbr.out.size); have k0 := (hc.cell (p := ⟨b9, _, none⟩) hb9r).trans m0; have k1 := (hc.cell (p := ⟨b9, _, none⟩) hb9r).trans m1; have k2 := (hc.cell (p := ⟨b9, _, none⟩) hb9r).trans m2; have k3 := (hc.cell (p := ⟨b9, _, none⟩) hb9r).trans m3; have k4 := (hc.cell (p := ⟨b9, _, none⟩) hb9r).trans m4; have k5 := (hc.cell (p := ⟨b9, _, none⟩) hb9r).trans m5; simp only [k0, k1, k2, k3, k4, k5, Result.andThen]; exact ⟨trivial, rfl⟩)
                      ))
                      refine wpQuiet_nil ?_
                      intro w9 hb9
                      clear hC
                      have hbz := Lib.hid (hb.out.trans (hb9.mono hb.out.size))
                      clear hb9
                      go_wp2_with fail
                      go_roundw
                      case rel => exact ⟨0 + 1, by omega, by go_num, hbz⟩
                      case measure => simp [intOf]; omega
                    | succ j =>
                      have hj0 : ((j : Int) + 1 > 0) := by omega
                      have hjI : (j : Int) < (mT : Int) := by omega
                      obtain ⟨_, _, y, hqS, _, hy9, hd9⟩ := (r7W.out.below hb.out).get (show j < mT by omega)
                      cases hqS
                      have hlt : ltC y ⟨x1, x2, x3, i, x5, x6⟩ = true := next_lt hST.out hy9 hx9
                      have hcl : Hid (∀ U, Calls Tryz.prog 20 #[.agg (connE y).toArray, .agg (connE ⟨x1, x2, x3, i, x5, x6⟩).toArray] U fun e w' => e = .returned (.bool true) ∧ Below U.heap.size U w') := fun U =>
                        (cless_any y _ U).mono fun e w' h => ⟨by rw [h.1, hlt], h.2.below⟩
                      obtain ⟨y1, y2, y3, y4, y5, y6⟩ := y
                      have v0 := hd9 0 _ rfl
                      have v1 := hd9 1 _ rfl
                      have v2 := hd9 2 _ rfl
                      have v3 := hd9 3 _ rfl
                      have v4 := hd9 4 _ rfl
                      have v5 := hd9 5 _ rfl
                      simp only [Nat.add_zero] at v0
                      simp only [connE] at hcl
                      clear hc9 hd9 hx9 hy9 hne9 hlt
                      go_wp2_with fail
                      go_upto_region 21 with fail
                      refine wp_region_below wr.heap.size (by kernel_rfl) (by kernel_rfl) ?_
                      intro C hC
                      repeat (go_big_quiet_step (first
                        | ((intro _; with_reducible rfl))
                        | (intro hc; have hcw := hbr.out.trans (hc.mono hbr.out.size); have k0 := (hc.cell (p := ⟨b9, _, none⟩) hb9r).trans m0; have k1 := (hc.cell (p := ⟨b9, _, none⟩) hb9r).trans m1; have k2 := (hc.cell (p := ⟨b9, _, none⟩) hb9r).trans m2; have k3 := (hc.cell (p := ⟨b9, _, none⟩) hb9r).trans m3; have k4 := (hc.cell (p := ⟨b9, _, none⟩) hb9r).trans m4; have k5 := (hc.cell (p := ⟨b9, _, none⟩) hb9r).trans m5; have k6 := (hc.cell (p := ⟨b9, _, none⟩) hb9r).trans v0; have k7 := (hc.cell (p := ⟨b9, _, none⟩) hb9r).trans v1; have k8 := (hc.cell (p := ⟨b9, _, none⟩) hb9r).trans v2; have k9 := (hc.cell (p := ⟨b9, _, none⟩) hb9r).trans v3; have k10 := (hc.cell (p := ⟨b9, _, none⟩) hb9r).trans v4; have k11 := (hc.cell (p := ⟨b9, _, none⟩) hb9r).trans v5; simp only [k0, k1, k2, k3, k4, k5, k6, k7, k8, k9, k10, k11, Result.andThen]; exact ⟨trivial, rfl⟩)
                        | (intro hc; have hcw := hbr.out.trans (hc.mono hbr.out.size); (with_reducible refine (hcl.out _).mono ?_); rintro e w'' ⟨rfl, hw⟩; exact ⟨rfl, hc.trans (hw.mono hc.size)⟩)))
                      refine wpQuiet_nil ?_
                      intro w9 hb9
                      clear hC
                      have hbz := Lib.hid (hb.out.trans (hb9.mono hb.out.size))
                      clear hb9
                      go_wp2_with fail
                      go_roundw
                      case rel => exact ⟨j + 1 + 1, by omega, by go_num, hbz⟩
                      case measure => simp [intOf]; omega
                  · have hpe : p = mT := by omega
                    subst hpe
                    have hbz9 := Lib.hid (hbz7.out.trans (hb.out.mono hbz7.out.size))
                    go_wp2_with fail
                    go_roundw
                    case rel => exact ⟨i + 1, by omega, congrArg (Value.int .i64) (by have := hcf.out; omega), congrArg (Value.int .i64) (by have := hct.out; omega), by go_num, hbz9⟩
                    case measure => simp [intOf]; omega
          · obtain rfl : i = n0 := by omega
            have ef : cutN (·.fr) C i = mC := by rw [← hmCH.out]; exact cutN_all fun x hx => by have := (hco.out x hx).1.2; have := hn0.out; omega
            have et : cutN (·.to_) C i = mC := by rw [← hmCH.out]; exact cutN_all fun x hx => by have := (hco.out x hx).2.1.2; have := hn0.out; omega
            rw [ef, et]
            have hb0 := hb
            clear ef et
            go_wp2_with fail
            clear y1
            go_loopw [9, 15] (fun vn iv wr => ∃ i : Nat, i ≤ n ∧ vn = .int .i64 (cutN (·.run) C i : Nat) ∧ iv = .int .i64 i ∧ Hid (Below w5.heap.size w5 wr)) (fun _ iv _ => n - (intOf iv).toNat)
            case atStart => exact ⟨0, Nat.zero_le _, by rw [z3.out]; rfl, rfl, hb0⟩
            case round =>
              clear hb hbr hb0 h1r
              obtain ⟨i, hi, rfl, rfl, hb⟩ := hrel
              have hbr := Lib.hid (hb5w.out.trans (hb.out.mono hb5w.out.size))
              by_cases hin2 : i < n
              · have hinI : (i : Int) < (n : Int) := by omega
                have hcr := Lib.hid (cutN_succ (·.run) C i)
                have hbq : cutN (·.run) C i ≤ 2000 := by have := cutN_le (·.run) C i; have := hmCH.out; omega
                obtain ⟨qf, hqf⟩ : ∃ q, cutN (·.run) C i = q := ⟨_, rfl⟩
                rw [hqf] at hcr hbq ⊢
                have hlF : (C.filter (fun c => c.run == (i : Int))).length ≤ 2000 := by have := List.length_filter_le (fun c : ConnP => c.run == (i : Int)) C; have := hmCH.out; omega
                obtain ⟨mF, hmF⟩ : ∃ q, (C.filter (fun c => c.run == (i : Int))).length = q := ⟨_, rfl⟩
                have hof2 : Hid (∀ w, Rd w 6 connE A5 mC C → Calls Tryz.prog 19 #[.slice A5 mC c5, .int .i64 (i : Int)] w fun e w' => ∃ A c, e = .returned (.slice A mF c) ∧ Below w.heap.size w w') := fun w h =>
                  (cof_any A5 mC c5 C (i : Int) w h (by omega)).mono fun e w' ⟨A, c, h1, _, _, _, h3⟩ => ⟨A, c, by rw [← hmF]; exact h1, h3⟩
                rw [hmF] at hcr hlF
                clear hqf hmF
                go_wp2_with fail
                refine (hof2.out wr (r5H.out.below hb.out)).mono ?_; rintro e w6 ⟨A6, c6, rfl, hb6⟩
                have hbz9 := Lib.hid (hb.out.trans (hb6.mono hb.out.size))
                clear hb6 hof2
                go_wp2_with fail
                go_roundw
                case rel => exact ⟨i + 1, by omega, congrArg (Value.int .i64) (by have := hcr.out; omega), by go_num, hbz9⟩
                case measure => simp [intOf]; omega
              · obtain rfl : i = n := by omega
                have er : cutN (·.run) C i = mC := by rw [← hmCH.out]; exact cutN_all fun x hx => by have := (hco.out x hx).2.2.2.2; have := hnn.out; omega
                rw [er]
                have hof2 : Hid (∀ w, Rd w 6 connE A5 mC C → Calls Tryz.prog 19 #[.slice A5 mC c5, .int .i64 (i : Int)] w fun e w' => ∃ A c, e = .returned (.slice A 0 c) ∧ Below w.heap.size w w') := fun w h =>
                  (cof_any A5 mC c5 C (i : Int) w h (by omega)).mono fun e w' ⟨A, c, h1, _, _, _, h3⟩ => ⟨A, c, by rw [h1, hlast.out]; rfl, h3⟩
                clear er
                go_wp2_with fail
                refine (hof2.out wr (r5H.out.below hb.out)).mono ?_; rintro e w6 ⟨A6, c6, rfl, hb6⟩
                have hbz9 := Lib.hid (hbr.out.trans (hb6.mono hbr.out.size))
                clear hb6 hof2
                go_wp2_with fail
                go_returns
                exact ⟨rfl, hbz9.out⟩
      · have hres : resC M L = [] := resC_no he
        rw [hres]
        have heb : (errC M L != 0) = true := by simp [he]
        obtain ⟨ec, hec⟩ : ∃ q, errC M L = q := ⟨_, rfl⟩
        rw [hec] at heb ⊢
        clear hres he hec r5
        go_wp2_with fail
        go_returns
        exact ⟨rfl, hb5w.out⟩
end Go.Proofs.YtechdefolfboeaaGreatDoor

