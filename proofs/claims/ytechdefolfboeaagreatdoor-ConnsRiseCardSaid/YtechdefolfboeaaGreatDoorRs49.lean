/-
  Texts of one chain, merged.
-/
import Derived.Test.YtechdefolfboeaaGreatDoorRs48
namespace Go.Proofs.YtechdefolfboeaaGreatDoor
open Go.RowKit B K
set_option linter.unusedVariables false
set_option linter.unusedSimpArgs false
set_option maxRecDepth 100000
set_option maxHeartbeats 2000000
theorem rise_any (M : WorldP) (V : WV) (A : Option Addr) (n c : Nat) (L : List RunP) (we : World) (hsp : Sp we) (hr : RW we M V) (hwf : WfM M) (hL : RRuns we A n L) :
    Calls Tryz.prog 4 #[wVal M V, .slice A n c] we fun e w' => e = .returned (.bool true) ∧ Below we.heap.size we w' := by
  have hkf := Lib.hid (fun w (h : RW w M V) => kfew_any M V w h hwf)
  have hkl := Lib.hid (fun w h => klight_any A n c L w h)
  have hmk := Lib.hid (fun w h1 hf h2 h3 hn => cmake_any M V A n c L w h1 hf h2 h3 hn)
  have hrH := Lib.hid hr
  have hsH := Lib.hid hsp
  have hLH := Lib.hid hL
  obtain ⟨a0, a1, a2, a3, a4, a5, aP, aD, aR, aT, aH, n0, n1, n2, n3, n4, n5, nP, nD, nR, nT, nH, c0, c1, c2, c3, c4, c5, cP, cD, cR, cT, cH⟩ := V
  simp only [wVal] at *
  have hb1 := below_alloc we #[.int .i64 M.hz, .slice a0 n0 c0, .slice a1 n1 c1, .slice a2 n2 c2, .slice a3 n3 c3, .slice a4 n4 c4, .slice a5 n5 c5, .slice aP nP cP, .slice aD nD cD, .slice aR nR cR, .slice aT nT cT, .slice aH nH cH] 31
  have B1 := Bx.new we 31 [.int .i64 M.hz, .slice a0 n0 c0, .slice a1 n1 c1, .slice a2 n2 c2, .slice a3 n3 c3, .slice a4 n4 c4, .slice a5 n5 c5, .slice aP nP cP, .slice aD nD cD, .slice aR nR cR, .slice aT nT cT, .slice aH nH cH]
  obtain ⟨w1, hw1⟩ : ∃ q, we.alloc (.cells #[.int .i64 M.hz, .slice a0 n0 c0, .slice a1 n1 c1, .slice a2 n2 c2, .slice a3 n3 c3, .slice a4 n4 c4, .slice a5 n5 c5, .slice aP nP cP, .slice aD nD cD, .slice aR nR cR, .slice aT nT cT, .slice aH nH cH] 31) = q := ⟨_, rfl⟩
  change Bx (we.alloc (.cells #[.int .i64 M.hz, .slice a0 n0 c0, .slice a1 n1 c1, .slice a2 n2 c2, .slice a3 n3 c3, .slice a4 n4 c4, .slice a5 n5 c5, .slice aP nP cP, .slice aD nD cD, .slice aR nR cR, .slice aT nT cT, .slice aH nH cH] 31)) _ _ _ at B1
  rw [hw1] at hb1 B1
  obtain ⟨b1, hbE1⟩ : ∃ q, we.heap.size = q := ⟨_, rfl⟩
  rw [hbE1] at B1
  have hup : Hid (Below we.heap.size we w1) := hb1
  have hge1 : Hid (we.heap.size ≤ b1) := by show _ ≤ _; omega
  have B1H := Lib.hid B1
  have l1 := B1.lt
  clear B1 hb1 hr hsp hL hwf
  go_enter Tryz.func4, Tryz.ntmps4
  go_wp2_with fail
  refine (lives19_any w1 (hsH.out.below hup.out)).mono ?_; rintro e w2 ⟨rfl, hb2⟩
  have hb2w := Lib.hid (hup.out.trans (hb2.mono hup.out.size))
  have h12 := Lib.hid hb2
  have y0 := (hb2.cell (p := ⟨b1, _, none⟩) l1).trans (B1H.out.cell 0 rfl)
  have y1 := (hb2.cell (p := ⟨b1, _, none⟩) l1).trans (B1H.out.cell 1 rfl)
  have y2 := (hb2.cell (p := ⟨b1, _, none⟩) l1).trans (B1H.out.cell 2 rfl)
  have y3 := (hb2.cell (p := ⟨b1, _, none⟩) l1).trans (B1H.out.cell 3 rfl)
  have y4 := (hb2.cell (p := ⟨b1, _, none⟩) l1).trans (B1H.out.cell 4 rfl)
  have y5 := (hb2.cell (p := ⟨b1, _, none⟩) l1).trans (B1H.out.cell 5 rfl)
  have y6 := (hb2.cell (p := ⟨b1, _, none⟩) l1).trans (B1H.out.cell 6 rfl)
  have y7 := (hb2.cell (p := ⟨b1, _, none⟩) l1).trans (B1H.out.cell 7 rfl)
  have y8 := (hb2.cell (p := ⟨b1, _, none⟩) l1).trans (B1H.out.cell 8 rfl)
  have y9 := (hb2.cell (p := ⟨b1, _, none⟩) l1).trans (B1H.out.cell 9 rfl)
  have y10 := (hb2.cell (p := ⟨b1, _, none⟩) l1).trans (B1H.out.cell 10 rfl)
  have y11 := (hb2.cell (p := ⟨b1, _, none⟩) l1).trans (B1H.out.cell 11 rfl)
  clear hb2
  go_wp2_with fail
  clear hw1 hbE1
  refine (hkf.out w2 (hrH.out.below hb2w.out)).mono ?_; rintro e w3 ⟨rfl, hb3⟩
  have hb3w := Lib.hid (hb2w.out.trans (hb3.mono hb2w.out.size))
  have h13 := Lib.hid (h12.out.trans (hb3.mono h12.out.size))
  clear hb3 y0 y1 y2 y3 y4 y5 y6 y7 y8 y9 y10 y11
  cases hfw : fewB M with
  | false =>
    clear hfw
    go_wp2_with fail
    go_returns
    exact ⟨rfl, hb3w.out⟩
  | true =>
    have hfew := Lib.hid (few_of hfw)
    clear hfw
    go_wp2_with fail
    refine (hkl.out w3 (hLH.out.below hb3w.out)).mono ?_; rintro e w4 ⟨rfl, hb4⟩
    have hb4w := Lib.hid (hb3w.out.trans (hb4.mono hb3w.out.size))
    have h14 := Lib.hid (h13.out.trans (hb4.mono h13.out.size))
    clear hb4
    cases hlt : lightB L with
    | false =>
      clear hlt
      go_wp2_with fail
      go_returns
      exact ⟨rfl, hb4w.out⟩
    | true =>
      have hlight := Lib.hid hlt
      have hn60 : n ≤ 60 := by have := light_len hlt; have := hLH.out.len; omega
      have hnl : Hid (¬ 16384 < L.length) := by have := light_len hlt; show ¬ _; omega
      clear hlt
      have y0 := (h14.out.cell (p := ⟨b1, _, none⟩) l1).trans (B1H.out.cell 0 rfl)
      have y1 := (h14.out.cell (p := ⟨b1, _, none⟩) l1).trans (B1H.out.cell 1 rfl)
      have y2 := (h14.out.cell (p := ⟨b1, _, none⟩) l1).trans (B1H.out.cell 2 rfl)
      have y3 := (h14.out.cell (p := ⟨b1, _, none⟩) l1).trans (B1H.out.cell 3 rfl)
      have y4 := (h14.out.cell (p := ⟨b1, _, none⟩) l1).trans (B1H.out.cell 4 rfl)
      have y5 := (h14.out.cell (p := ⟨b1, _, none⟩) l1).trans (B1H.out.cell 5 rfl)
      have y6 := (h14.out.cell (p := ⟨b1, _, none⟩) l1).trans (B1H.out.cell 6 rfl)
      have y7 := (h14.out.cell (p := ⟨b1, _, none⟩) l1).trans (B1H.out.cell 7 rfl)
      have y8 := (h14.out.cell (p := ⟨b1, _, none⟩) l1).trans (B1H.out.cell 8 rfl)
      have y9 := (h14.out.cell (p := ⟨b1, _, none⟩) l1).trans (B1H.out.cell 9 rfl)
      have y10 := (h14.out.cell (p := ⟨b1, _, none⟩) l1).trans (B1H.out.cell 10 rfl)
      have y11 := (h14.out.cell (p := ⟨b1, _, none⟩) l1).trans (B1H.out.cell 11 rfl)
      go_wp2_with fail
      refine (hmk.out w4 (hrH.out.below hb4w.out) hfew.out (hsH.out.below hb4w.out) (hLH.out.below hb4w.out) (by omega)).mono ?_; rintro e w5 ⟨A5, c5, rfl, r5, hc5, hm5, hb5⟩
      have hb5w := Lib.hid (hb4w.out.trans (hb5.mono hb4w.out.size))
      have h15 := Lib.hid (h14.out.trans (hb5.mono h14.out.size))
      have l15 := Nat.lt_of_lt_of_le l1 h15.out.size
      clear hb5 y0 y1 y2 y3 y4 y5 y6 y7 y8 y9 y10 y11
      by_cases he : errC M L = 0
      · have hOK := Lib.hid (okC_of hnl.out he)
        have hres : resC M L = makeC M L := resC_ok he
        rw [hres] at r5 hc5
        rw [hres, he]
        have hml : (makeC M L).length ≤ 2000 := by have := makeC_len_le (L := L) hOK.out.good; have := hLH.out.len; omega
        have hsort := Lib.hid (makeC_sorted M L)
        have hcnt : Hid (cntL M L n = (makeC M L).length) := by show _ = _; rw [← cntL_all, hLH.out.len]
        have hof : Hid (∀ i, (makeC M L).filter (fun c => c.run == ((i : Nat) : Int)) = ridesAt M L i) := fun i => of_run i (fun r hr => hOK.out.fit r (List.mem_of_getElem? hr))
        obtain ⟨C, hC⟩ : ∃ C, makeC M L = C := ⟨_, rfl⟩
        rw [hC] at r5 hc5 hml hsort hcnt hof ⊢
        obtain ⟨mC, hmC⟩ : ∃ m, C.length = m := ⟨_, rfl⟩
        rw [hmC] at r5 hc5 hml hcnt ⊢
        have r5H := Lib.hid r5
        have hmCH := Lib.hid hmC
        clear r5 hres he hC hmC hmk hkf hkl
        go_wp2_with fail
        go_loopw [7, 8] (fun vn iv wr => ∃ i : Nat, i ≤ n ∧ vn = .int .i64 (cntL M L i : Nat) ∧ iv = .int .i64 i ∧ Hid (Below w5.heap.size w5 wr)) (fun _ iv _ => n - (intOf iv).toNat)
        case atStart => exact ⟨0, Nat.zero_le _, rfl, rfl, Below.refl _ _⟩
        case round =>
          obtain ⟨i, hi, rfl, rfl, hb⟩ := hrel
          have hbr := Lib.hid (hb5w.out.trans (hb.out.mono hb5w.out.size))
          by_cases hin : i < n
          · have hinI : (i : Int) < (n : Int) := by omega
            obtain ⟨b, o, r, A1, n1, d1, A2, n2, d2, rfl, hbs, hx, g0, g1, g2, g3, r1, r2, _, _⟩ := hLH.out.get hin
            have hft := Lib.hid (hOK.out.fit r (List.mem_of_getElem? hx))
            obtain ⟨ms, hms⟩ : ∃ ms, (tripStops M r.trip).length = ms + 1 := ⟨(tripStops M r.trip).length - 1, by have := hft.out.pos; omega⟩
            have hmb : ms ≤ 32 := by have := tripStops_len hOK.out.good r.trip; omega
            have e1 : n1 = ms + 1 := by rw [← r1.len, hft.out.la, hms]
            have e2 : n2 = ms + 1 := by rw [← r2.len, hft.out.ld, hms]
            subst e1 e2
            obtain ⟨kt, q, rt, ekt, hq, hrt, ets⟩ := tripStops_get (M := M) (t := r.trip) (by omega)
            obtain ⟨jr, ejr⟩ := Int.eq_ofNat_of_zero_le (hOK.out.good.trips q (List.mem_of_getElem? hq)).1.1
            rw [ejr, Int.toNat_natCast] at hrt
            have hkT : kt < nT := by have h1 : M.trips.length = nT := hrH.out.rT.len; have := (List.getElem?_eq_some_iff.1 hq).1; omega
            have hjR : jr < nR := by have h1 : M.routes.length = nR := hrH.out.rR.len; have := (List.getElem?_eq_some_iff.1 hrt).1; omega
            obtain ⟨bT, oT, q', rfl, hbT, hq', hcT⟩ := hrH.out.rT.get hkT
            obtain rfl : q = q' := Option.some.inj (hq.symm.trans hq')
            obtain ⟨bR, oR, rfl, hbR, ⟨sS, nS, dS, s0, rS, _⟩, _⟩ := hrH.out.rR.at_ jr rt hrt
            have eS : nS = ms + 1 := by rw [← rS.len, ← ets, hms]
            subst eS
            have z0 := hcT 0 _ rfl
            rw [ejr, Nat.add_zero] at z0
            rw [ekt] at g0
            have hkTI : (kt : Int) < (nT : Int) := by omega
            have hjRI : (jr : Int) < (nR : Int) := by omega
            have z0H := Lib.hid z0
            have s0H := Lib.hid s0
            have g0H := Lib.hid g0
            have g2H := Lib.hid g2
            have g3H := Lib.hid g3
            have r1H := Lib.hid r1
            have r2H := Lib.hid r2
            have rSH : Hid (Rd we 1 (numE .i64) sS (ms + 1) (tripStops M r.trip)) := by show Rd _ _ _ _ _ _; rw [ets]; exact rS
            have hofi : Hid (C.filter (fun c => c.run == (i : Int)) = ridesOf (tripStops M r.trip) r.arr r.dep i) := by show _ = _; rw [hof.out i, ridesAt_eq hx]
            have hcs : Hid (cntL M L (i + 1) = cntL M L i + ms) := by show _ = _; rw [cntL_succ, ridesAt_eq hx, ridesOf_len, hms]; omega
            have hcb : cntL M L i ≤ 32 * 60 := Nat.le_trans (cntL_le hOK.out.good i) (by omega)
            obtain ⟨qc, hqc⟩ : ∃ q, cntL M L i = q := ⟨_, rfl⟩
            rw [hqc] at hcs hcb ⊢
            have hrl : Hid (∀ p, p < ms → (ridesOf (tripStops M r.trip) r.arr r.dep i)[p]? = some (rideC (tripStops M r.trip) r.arr r.dep i p)) := fun p hp => ridesOf_at (by omega)
            have hmsH := Lib.hid hms
            have q2 := (hbr.out.cell (p := ⟨b, _, none⟩) hbs).trans g2
            clear hms g0 g1 g2 g3 r1 r2 rS s0 z0 hcT hq hq' hrt ets ekt ejr hx hqc
            have hofc := Lib.hid (cof_any A5 mC c5 C (i : Int) wr (r5H.out.below hb.out) (by omega))
            rw [hofi.out] at hofc
            go_wp2_with fail
            refine hofc.out.mono ?_; rintro e w6 ⟨A9, c9, rfl, r9, h9, h9', hb6⟩
            have hb6w := Lib.hid (hbr.out.trans (hb6.mono hbr.out.size))
            have h16 := Lib.hid (h15.out.trans ((hb.out.trans (hb6.mono hb.out.size)).mono h15.out.size))
            have hb6' := Lib.hid (hb.out.trans (hb6.mono hb.out.size))
            have l1r := Nat.lt_of_lt_of_le l1 h16.out.size
            have x9 := (h16.out.cell (p := ⟨b1, _, none⟩) l1).trans (B1H.out.cell 9 rfl)
            have x10 := (h16.out.cell (p := ⟨b1, _, none⟩) l1).trans (B1H.out.cell 10 rfl)
            have el9 : (ridesOf (tripStops M r.trip) r.arr r.dep i).length = ms := by rw [ridesOf_len, hmsH.out]; omega
            rw [el9] at r9 h9
            simp only [el9]
            have r9H := Lib.hid r9
            have q2' := (hb6w.out.cell (p := ⟨b, _, none⟩) hbs).trans g2H.out
            clear q2 r9 el9 hofc hb6
            go_wp2_with fail
            go_upto_region 14 with fail
            refine wp_region_below w6.heap.size (by kernel_rfl) (by kernel_rfl) ?_
            intro C hC
            repeat (go_big_quiet_step (first
              | ((intro _; with_reducible rfl))
              | (intro hc; have hcw := hb6w.out.trans (hc.mono hb6w.out.size); have m0 := (hc.cell (p := ⟨b1, _, none⟩) l1r).trans x9; have m1 := (hc.cell (p := ⟨b1, _, none⟩) l1r).trans x10; have m2 := (hcw.cell (p := ⟨b, _, none⟩) hbs).trans g0H.out; have m3 := (hcw.cell (p := ⟨bT, _, none⟩) hbT).trans z0H.out; have m4 := (hcw.cell (p := ⟨bR, _, none⟩) hbR).trans s0H.out; simp only [m0, m1, m2, m3, m4, Result.andThen]; exact ⟨trivial, rfl⟩)
            ))
            refine wpQuiet_nil ?_
            intro w9 hb9
            clear hC
            have hb7 := Lib.hid (hb6'.out.trans (hb9.mono hb6'.out.size))
            have hb7w := Lib.hid (hb6w.out.trans (hb9.mono hb6w.out.size))
            have r9w := Lib.hid (r9H.out.below hb9)
            have q2 := (hb7w.out.cell (p := ⟨b, _, none⟩) hbs).trans g2H.out
            have hb0 : Hid (Below w9.heap.size w9 w9) := Below.refl _ _
            clear q2' hb9 x9 x10
            go_wp2_with fail
            clear q2
            go_loopw [11] (fun kv wr => ∃ p : Nat, p ≤ ms ∧ kv = .int .i64 p ∧ Hid (Below w9.heap.size w9 wr)) (fun kv _ => ms - (intOf kv).toNat)
            case atStart => exact ⟨0, Nat.zero_le _, rfl, hb0⟩
            case round =>
              clear hb0 hb hbr
              obtain ⟨p, hp, rfl, hb⟩ := hrel
              have hbr := Lib.hid (hb7w.out.trans (hb.out.mono hb7w.out.size))
              by_cases hpl : p < ms
              · have hpI : (p : Int) < (ms : Int) := by omega
                have hp1 : (p : Int) < (ms : Int) + 1 := by omega
                have hp2 : (p : Int) + 1 < (ms : Int) + 1 := by omega
                obtain ⟨b9, o9, x, rfl, hb9r, hx9, hc9⟩ := (r9w.out.below hb.out).get hpl
                obtain ⟨d, a, f, t, hd, ha, hf, ht, hda, eride⟩ := hft.out.ride (n := i) (p := p) (by have := hmsH.out; omega)
                obtain rfl : x = ⟨d, a, f, t, i, p⟩ := by
                  have := hrl.out p hpl
                  rw [hx9, eride] at this
                  exact Option.some.inj this
                have m0 := hc9 0 _ rfl
                have m1 := hc9 1 _ rfl
                have m2 := hc9 2 _ rfl
                have m3 := hc9 3 _ rfl
                have m4 := hc9 4 _ rfl
                have m5 := hc9 5 _ rfl
                simp only [Nat.add_zero] at m0
                obtain ⟨bd, od, d', rfl, hbd, hd', gd⟩ := r2H.out.num (show p < ms + 1 by omega)
                obtain rfl : d = d' := Option.some.inj (hd.symm.trans hd')
                obtain ⟨bA, oA, a', rfl, hbA, ha', ga⟩ := r1H.out.num (show p + 1 < ms + 1 by omega)
                obtain rfl : a = a' := Option.some.inj (ha.symm.trans ha')
                obtain ⟨bS, oS, f', rfl, hbS, hf', gf⟩ := rSH.out.num (show p < ms + 1 by omega)
                obtain rfl : f = f' := Option.some.inj (hf.symm.trans hf')
                obtain ⟨_, _, t', hqS, _, ht', gt⟩ := rSH.out.num (show p + 1 < ms + 1 by omega)
                cases hqS
                obtain rfl : t = t' := Option.some.inj (ht.symm.trans ht')
                have hdaF : decide (a ≤ d) = false := decide_eq_false (by omega)
                have gdH := Lib.hid gd
                have gaH := Lib.hid ga
                have gfH := Lib.hid gf
                have gtH := Lib.hid gt
                clear hc9 hx9 hd hd' ha ha' hf hf' ht ht' gd ga gf gt eride hda
                cases p with
                | zero =>
                  simp only [Nat.zero_mul, Nat.add_zero, Nat.zero_add] at m0 m1 m2 m3 m4 m5
                  replace gdH : Hid (we.cell? ⟨bd, od, none⟩ = some (.int .i64 d)) := gdH.out
                  replace gfH : Hid (we.cell? ⟨bS, oS, none⟩ = some (.int .i64 f)) := gfH.out
                  replace gtH : Hid (we.cell? ⟨bS, oS + 1, none⟩ = some (.int .i64 t)) := gtH.out
                  replace gaH : Hid (we.cell? ⟨bA, oA + 1, none⟩ = some (.int .i64 a)) := gaH.out
                  go_wp2_with fail
                  go_upto_region 20 with fail
                  try simp only [List.append_eq, List.cons_append, List.nil_append]
                  refine wp_region_below wr.heap.size (by kernel_rfl) (by kernel_rfl) ?_
                  intro C hC
                  repeat (go_big_quiet_step (first
                    | ((intro _; with_reducible rfl))
                    | (intro hc; have hcw := hbr.out.trans (hc.mono hbr.out.size); have k0 := (hc.cell (p := ⟨b9, _, none⟩) hb9r).trans m0; have k1 := (hc.cell (p := ⟨b9, _, none⟩) hb9r).trans m1; have k2 := (hc.cell (p := ⟨b9, _, none⟩) hb9r).trans m2; have k3 := (hc.cell (p := ⟨b9, _, none⟩) hb9r).trans m3; have k4 := (hc.cell (p := ⟨b9, _, none⟩) hb9r).trans m4; have k5 := (hc.cell (p := ⟨b9, _, none⟩) hb9r).trans m5; have k6 := (hcw.cell (p := ⟨b, _, none⟩) hbs).trans g2H.out; have k7 := (hcw.cell (p := ⟨b, _, none⟩) hbs).trans g3H.out; have k8 := (hcw.cell (p := ⟨bd, _, none⟩) hbd).trans gdH.out; have k9 := (hcw.cell (p := ⟨bA, _, none⟩) hbA).trans gaH.out; have k10 := (hcw.cell (p := ⟨bS, _, none⟩) hbS).trans gfH.out; have k11 := (hcw.cell (p := ⟨bS, _, none⟩) hbS).trans gtH.out; simp only [k0, k1, k2, k3, k4, k5, k6, k7, k8, k9, k10, k11, Result.andThen]; exact ⟨trivial, rfl⟩)
                  ))
                  refine wpQuiet_nil ?_
                  intro w9 hb9
                  clear hC
                  have hbz := Lib.hid (hb.out.trans (hb9.mono hb.out.size))
                  clear hb9
                  go_wp2_with fail
                  go_roundw
                  case rel => exact ⟨0 + 1, by omega, by go_num, hbz⟩
                  case measure => simp [intOf]; omega
                | succ j =>
                  obtain ⟨bP, oP, xp, hqP, hbP, hxP, hcP⟩ := (r9w.out.below hb.out).get (show j < ms by omega)
                  cases hqP
                  obtain ⟨pd, pa, pf, pt, hpd, hpa, hpf, hpt, hpda, epr⟩ := hft.out.ride (n := i) (p := j) (by have := hmsH.out; omega)
                  obtain rfl : xp = ⟨pd, pa, pf, pt, i, j⟩ := by
                    have := hrl.out j (by omega)
                    rw [hxP, epr] at this
                    exact Option.some.inj this
                  have mp := hcP 1 _ rfl
                  have hnx : decide (d < pa) = false := decide_eq_false (by
                    have h := hft.out.next (n := i) (p := j) (by have := hmsH.out; omega)
                    obtain ⟨d9, a9, f9, t9, hd9, ha9, _, _, _, e9⟩ := hft.out.ride (n := i) (p := j + 1) (by have := hmsH.out; omega)
                    rw [epr, e9] at h
                    obtain ⟨_, _, dd, hqq, _, hdd, gdd⟩ := r2H.out.num (show j + 1 < ms + 1 by omega)
                    cases hqq
                    have e1 : dd = d := by
                      have := gdH.out
                      rw [gdd] at this
                      simpa using this
                    rw [hd9] at hdd
                    cases hdd
                    simp only at h
                    omega)
                  have hj0 : ((j : Int) + 1 > 0) := by omega
                  have hjI : (j : Int) < (ms : Int) := by omega
                  clear hcP hxP hpd hpa hpf hpt hpda epr
                  go_wp2_with fail
                  go_upto_region 20 with fail
                  try simp only [List.append_eq, List.cons_append, List.nil_append]
                  refine wp_region_below wr.heap.size (by kernel_rfl) (by kernel_rfl) ?_
                  intro C hC
                  repeat (go_big_quiet_step (first
                    | ((intro _; with_reducible rfl))
                    | (intro hc; have hcw := hbr.out.trans (hc.mono hbr.out.size); have k0 := (hc.cell (p := ⟨b9, _, none⟩) hb9r).trans m0; have k1 := (hc.cell (p := ⟨b9, _, none⟩) hb9r).trans m1; have k2 := (hc.cell (p := ⟨b9, _, none⟩) hb9r).trans m2; have k3 := (hc.cell (p := ⟨b9, _, none⟩) hb9r).trans m3; have k4 := (hc.cell (p := ⟨b9, _, none⟩) hb9r).trans m4; have k5 := (hc.cell (p := ⟨b9, _, none⟩) hb9r).trans m5; have k6 := (hcw.cell (p := ⟨b, _, none⟩) hbs).trans g2H.out; have k7 := (hcw.cell (p := ⟨b, _, none⟩) hbs).trans g3H.out; have k8 := (hcw.cell (p := ⟨bd, _, none⟩) hbd).trans gdH.out; have k9 := (hcw.cell (p := ⟨bA, _, none⟩) hbA).trans gaH.out; have k10 := (hcw.cell (p := ⟨bS, _, none⟩) hbS).trans gfH.out; have k11 := (hcw.cell (p := ⟨bS, _, none⟩) hbS).trans gtH.out; have k12 := (hc.cell (p := ⟨b9, _, none⟩) hb9r).trans mp; simp only [k0, k1, k2, k3, k4, k5, k6, k7, k8, k9, k10, k11, k12, Result.andThen]; exact ⟨trivial, rfl⟩)
                  ))
                  refine wpQuiet_nil ?_
                  intro w9 hb9
                  clear hC
                  have hbz := Lib.hid (hb.out.trans (hb9.mono hb.out.size))
                  clear hb9
                  go_wp2_with fail
                  go_roundw
                  case rel => exact ⟨j + 1 + 1, by omega, by go_num, hbz⟩
                  case measure => simp [intOf]; omega
              · have hpe : p = ms := by omega
                subst hpe
                have hbz := Lib.hid (hb7.out.trans (hb.out.mono hb7.out.size))
                go_wp2_with fail
                go_roundw
                case rel => exact ⟨i + 1, by omega, congrArg (Value.int .i64) (by have := hcs.out; omega), by go_num, hbz⟩
                case measure => simp [intOf]; omega
          · obtain rfl : i = n := by omega
            have hcn := hcnt.out
            rw [hcn]
            have hb0 := hb
            clear hcn hcnt hbr hof
            go_wp2_with fail
            go_loopw [12] (fun kv wr => ∃ p : Nat, 1 ≤ p ∧ p ≤ mC + 1 ∧ kv = .int .i64 p ∧ Hid (Below w5.heap.size w5 wr)) (fun kv _ => mC + 1 - (intOf kv).toNat)
            case atStart => exact ⟨1, Nat.le_refl _, by omega, rfl, hb0⟩
            case round =>
              clear hb hb0
              obtain ⟨p, hp1, hp2, rfl, hb⟩ := hrel
              have hbr := Lib.hid (hb5w.out.trans (hb.out.mono hb5w.out.size))
              by_cases hpl : p < mC
              · have hpI : (p : Int) < (mC : Int) := by omega
                obtain ⟨j, rfl⟩ : ∃ j, p = j + 1 := ⟨p - 1, by omega⟩
                have hjI : (j : Int) < (mC : Int) := by omega
                obtain ⟨b9, o9, x, rfl, hb9r, hx9, hc9⟩ := (r5H.out.below hb.out).get (show j < mC by omega)
                obtain ⟨_, _, y, hqS, _, hy9, hd9⟩ := (r5H.out.below hb.out).get hpl
                cases hqS
                have hlt : ltC x y = true := by
                  have h := List.pairwise_iff_getElem.1 hsort.out j (j + 1) (by rw [hmCH.out]; omega) (by rw [hmCH.out]; omega) (by omega)
                  rw [(List.getElem?_eq_some_iff.1 hx9).2, (List.getElem?_eq_some_iff.1 hy9).2] at h
                  exact h
                have hcl : Hid (∀ U, Calls Tryz.prog 20 #[.agg (connE x).toArray, .agg (connE y).toArray] U fun e w' => e = .returned (.bool true) ∧ Below U.heap.size U w') := fun U =>
                  (cless_any x y U).mono fun e w' h => ⟨by rw [h.1, hlt], h.2.below⟩
                obtain ⟨x1, x2, x3, x4, x5, x6⟩ := x
                obtain ⟨y1, y2, y3, y4, y5, y6⟩ := y
                have m0 := hc9 0 _ rfl
                have m1 := hc9 1 _ rfl
                have m2 := hc9 2 _ rfl
                have m3 := hc9 3 _ rfl
                have m4 := hc9 4 _ rfl
                have m5 := hc9 5 _ rfl
                have v0 := hd9 0 _ rfl
                have v1 := hd9 1 _ rfl
                have v2 := hd9 2 _ rfl
                have v3 := hd9 3 _ rfl
                have v4 := hd9 4 _ rfl
                have v5 := hd9 5 _ rfl
                simp only [Nat.add_zero] at m0 v0
                simp only [connE] at hcl
                clear hc9 hd9 hx9 hy9 hlt
                go_wp2_with fail
                go_upto_region 25 with fail
                refine wp_region_below wr.heap.size (by kernel_rfl) (by kernel_rfl) ?_
                intro C hC
                repeat (go_big_quiet_step (first
                  | ((intro _; with_reducible rfl))
                  | (intro hc; have hcw := hbr.out.trans (hc.mono hbr.out.size); have k0 := (hc.cell (p := ⟨b9, _, none⟩) hb9r).trans m0; have k1 := (hc.cell (p := ⟨b9, _, none⟩) hb9r).trans m1; have k2 := (hc.cell (p := ⟨b9, _, none⟩) hb9r).trans m2; have k3 := (hc.cell (p := ⟨b9, _, none⟩) hb9r).trans m3; have k4 := (hc.cell (p := ⟨b9, _, none⟩) hb9r).trans m4; have k5 := (hc.cell (p := ⟨b9, _, none⟩) hb9r).trans m5; have k6 := (hc.cell (p := ⟨b9, _, none⟩) hb9r).trans v0; have k7 := (hc.cell (p := ⟨b9, _, none⟩) hb9r).trans v1; have k8 := (hc.cell (p := ⟨b9, _, none⟩) hb9r).trans v2; have k9 := (hc.cell (p := ⟨b9, _, none⟩) hb9r).trans v3; have k10 := (hc.cell (p := ⟨b9, _, none⟩) hb9r).trans v4; have k11 := (hc.cell (p := ⟨b9, _, none⟩) hb9r).trans v5; simp only [k0, k1, k2, k3, k4, k5, k6, k7, k8, k9, k10, k11, Result.andThen]; exact ⟨trivial, rfl⟩)
                  | (intro hc; have hcw := hbr.out.trans (hc.mono hbr.out.size); (with_reducible refine (hcl.out _).mono ?_); rintro e w'' ⟨rfl, hw⟩; exact ⟨rfl, hc.trans (hw.mono hc.size)⟩)))
                refine wpQuiet_nil ?_
                intro w9 hb9
                clear hC
                have hbz := Lib.hid (hb.out.trans (hb9.mono hb.out.size))
                clear hb9
                go_wp2_with fail
                go_roundw
                case rel => exact ⟨j + 1 + 1, by omega, by omega, by go_num, hbz⟩
                case measure => simp [intOf]; omega
              · go_wp2_with fail
                go_returns
                exact ⟨by simp, hbr.out⟩
      · have hres : resC M L = [] := resC_no he
        rw [hres]
        have heb : (errC M L != 0) = true := by simp [he]
        obtain ⟨ec, hec⟩ : ∃ q, errC M L = q := ⟨_, rfl⟩
        rw [hec] at heb ⊢
        clear hres he hec r5
        go_wp2_with fail
        go_returns
        exact ⟨rfl, hb5w.out⟩
end Go.Proofs.YtechdefolfboeaaGreatDoor

