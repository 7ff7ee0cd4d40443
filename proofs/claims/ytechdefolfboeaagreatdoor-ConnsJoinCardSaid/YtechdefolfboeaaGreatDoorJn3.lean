/-
  A text of the chain.
-/
import Derived.Test.YtechdefolfboeaaGreatDoorJn1
import Derived.Test.YtechdefolfboeaaGreatDoorJn2
namespace Go.Proofs.YtechdefolfboeaaGreatDoor
open Go.RowKit B K
set_option linter.unusedVariables false
set_option linter.unusedSimpArgs false
set_option maxRecDepth 100000
set_option maxHeartbeats 2000000
theorem runs_head (A : Option Addr) (n c k : Nat) (hk : k ≤ c) (W : World) : (Instr.slice 32 (.slice A n c) none (some (.int .i64 (k : Int))) none).run Tryz.prog W = .ok (.slice A k c) W :=
  (run_head (P := Tryz.prog) (t := 32) (e := 47) (s := 4) Tryz.underlying32 (by kernel_rfl) (fun W => by simp [go_sem]) A n c k hk .i64 W).trans (by
    have e : cutA A c 0 4 = A := by
      unfold cutA
      split
      · rfl
      · cases A with
        | none => rfl
        | some a => simp [Addr.add]
    rw [e])
theorem runs_cut (A : Option Addr) (n c k : Nat) (hk : k ≤ n) (W : World) : (Instr.slice 32 (.slice A n c) (some (.int .i64 (k : Int))) none none).run Tryz.prog W = .ok (.slice (cutA A c k 4) (n - k) (c - k)) W :=
  run_cut (P := Tryz.prog) (t := 32) (e := 47) (s := 4) Tryz.underlying32 (by kernel_rfl) (fun W => by simp [go_sem]) A n c k hk .i64 W
/-- two numbers, one of them not 0 -/
theorem or_ne {a b : Int} (h : ¬ (a = 0 ∧ b = 0)) : a ≠ 0 ∨ b ≠ 0 := by omega
theorem filter_add {α : Type} (p : α → Bool) : ∀ l : List α, l.length = (l.filter p).length + (l.filter (fun x => !p x)).length
  | [] => rfl
  | x :: t => by have := filter_add p t; cases h : p x <;> simp [List.filter_cons, h] <;> omega
theorem take_drop_mem {α : Type} {L : List α} (k : Nat) {r : α} (h : r ∈ L) : r ∈ L.take k ∨ r ∈ L.drop k := by
  rw [← List.take_append_drop k L, List.mem_append] at h; exact h
theorem errC_split {M : WorldP} {L : List RunP} (hn : ¬ 16384 < L.length) (k : Nat) : errC M L = 0 ↔ errC M (L.take k) = 0 ∧ errC M (L.drop k) = 0 := by
  rw [errC_iff hn, errC_iff (by rw [List.length_take]; omega), errC_iff (by rw [List.length_drop]; omega)]
  constructor
  · intro ⟨h1, h2⟩
    exact ⟨⟨h1, fun r hr => h2 r (List.mem_of_mem_take hr)⟩, h1, fun r hr => h2 r (List.mem_of_mem_drop hr)⟩
  · intro ⟨⟨h1, h2⟩, _, h3⟩
    exact ⟨h1, fun r hr => (take_drop_mem k hr).elim (h2 r) (h3 r)⟩
set_option maxHeartbeats 8000000
theorem join_any (M : WorldP) (V : WV) (A : Option Addr) (n c : Nat) (L : List RunP) (at_ t : Int) (we : World) (hsp : Sp we) (hr : RW we M V) (hwf : WfM M) (hL : RRuns we A n L) (hnc : n ≤ c) (hat : -9223372036854775808 ≤ at_ ∧ at_ ≤ 9223372036854775807) :
    Calls Tryz.prog 3 #[wVal M V, .slice A n c, .int .i64 at_, .int .i64 t] we fun e w' => e = .returned (.bool true) ∧ Below we.heap.size we w' := by
  have hncH := Lib.hid hnc
  have hatH := Lib.hid hat
  clear hnc hat
  have hkf := Lib.hid (fun w (h : RW w M V) => kfew_any M V w h hwf)
  have hkl := Lib.hid (fun w h => klight_any A n c L w h)
  have hmg := Lib.hid (fun A' n' c' L' w h1 hf h2 h3 hn => cmake_any M V A' n' c' L' w h1 hf h2 h3 hn)
  have hrH := Lib.hid hr
  have hsH := Lib.hid hsp
  have hLH := Lib.hid hL
  obtain ⟨a0, a1, a2, a3, a4, a5, aP, aD, aR, aT, aH, n0, n1, n2, n3, n4, n5, nP, nD, nR, nT, nH, c0, c1, c2, c3, c4, c5, cP, cD, cR, cT, cH⟩ := V
  simp only [wVal] at *
  have hb1 := below_alloc we #[.int .i64 M.hz, .slice a0 n0 c0, .slice a1 n1 c1, .slice a2 n2 c2, .slice a3 n3 c3, .slice a4 n4 c4, .slice a5 n5 c5, .slice aP nP cP, .slice aD nD cD, .slice aR nR cR, .slice aT nT cT, .slice aH nH cH] 31
  have B1 := Bx.new we 31 [.int .i64 M.hz, .slice a0 n0 c0, .slice a1 n1 c1, .slice a2 n2 c2, .slice a3 n3 c3, .slice a4 n4 c4, .slice a5 n5 c5, .slice aP nP cP, .slice aD nD cD, .slice aR nR cR, .slice aT nT cT, .slice aH nH cH]
  obtain ⟨w1, hw1⟩ : ∃ q, we.alloc (.cells #[.int .i64 M.hz, .slice a0 n0 c0, .slice a1 n1 c1, .slice a2 n2 c2, .slice a3 n3 c3, .slice a4 n4 c4, .slice a5 n5 c5, .slice aP nP cP, .slice aD nD cD, .slice aR nR cR, .slice aT nT cT, .slice aH nH cH] 31) = q := ⟨_, rfl⟩
  change Bx (we.alloc (.cells #[.int .i64 M.hz, .slice a0 n0 c0, .slice a1 n1 c1, .slice a2 n2 c2, .slice a3 n3 c3, .slice a4 n4 c4, .slice a5 n5 c5, .slice aP nP cP, .slice aD nD cD, .slice aR nR cR, .slice aT nT cT, .slice aH nH cH] 31)) _ _ _ at B1
  rw [hw1] at hb1 B1
  obtain ⟨b1, hbE1⟩ : ∃ q, we.heap.size = q := ⟨_, rfl⟩
  rw [hbE1] at B1
  have hup : Hid (Below we.heap.size we w1) := hb1
  have hge1 : Hid (we.heap.size ≤ b1) := by show _ ≤ _; omega
  have B1H := Lib.hid B1
  have l1 := B1.lt
  clear B1 hb1 hr hsp hL hwf
  go_enter Tryz.func3, Tryz.ntmps3
  go_wp2_with fail
  refine (lives19_any w1 (hsH.out.below hup.out)).mono ?_; rintro e w2 ⟨rfl, hb2⟩
  have hb2w := Lib.hid (hup.out.trans (hb2.mono hup.out.size))
  have h12 := Lib.hid hb2
  have y0 := (hb2.cell (p := ⟨b1, _, none⟩) l1).trans (B1H.out.cell 0 rfl)
  have y1 := (hb2.cell (p := ⟨b1, _, none⟩) l1).trans (B1H.out.cell 1 rfl)
  have y2 := (hb2.cell (p := ⟨b1, _, none⟩) l1).trans (B1H.out.cell 2 rfl)
  have y3 := (hb2.cell (p := ⟨b1, _, none⟩) l1).trans (B1H.out.cell 3 rfl)
  have y4 := (hb2.cell (p := ⟨b1, _, none⟩) l1).trans (B1H.out.cell 4 rfl)
  have y5 := (hb2.cell (p := ⟨b1, _, none⟩) l1).trans (B1H.out.cell 5 rfl)
  have y6 := (hb2.cell (p := ⟨b1, _, none⟩) l1).trans (B1H.out.cell 6 rfl)
  have y7 := (hb2.cell (p := ⟨b1, _, none⟩) l1).trans (B1H.out.cell 7 rfl)
  have y8 := (hb2.cell (p := ⟨b1, _, none⟩) l1).trans (B1H.out.cell 8 rfl)
  have y9 := (hb2.cell (p := ⟨b1, _, none⟩) l1).trans (B1H.out.cell 9 rfl)
  have y10 := (hb2.cell (p := ⟨b1, _, none⟩) l1).trans (B1H.out.cell 10 rfl)
  have y11 := (hb2.cell (p := ⟨b1, _, none⟩) l1).trans (B1H.out.cell 11 rfl)
  clear hb2
  go_wp2_with fail
  clear hw1 hbE1
  refine (hkf.out w2 (hrH.out.below hb2w.out)).mono ?_; rintro e w3 ⟨rfl, hb3⟩
  have hb3w := Lib.hid (hb2w.out.trans (hb3.mono hb2w.out.size))
  have h13 := Lib.hid (h12.out.trans (hb3.mono h12.out.size))
  clear hb3 y0 y1 y2 y3 y4 y5 y6 y7 y8 y9 y10 y11
  cases hfw : fewB M with
  | false =>
    clear hfw
    go_wp2_with fail
    go_returns
    exact ⟨rfl, hb3w.out⟩
  | true =>
    have hfew := Lib.hid (few_of hfw)
    clear hfw
    go_wp2_with fail
    refine (hkl.out w3 (hLH.out.below hb3w.out)).mono ?_; rintro e w4 ⟨rfl, hb4⟩
    have hb4w := Lib.hid (hb3w.out.trans (hb4.mono hb3w.out.size))
    have h14 := Lib.hid (h13.out.trans (hb4.mono h13.out.size))
    clear hb4
    cases hlt : lightB L with
    | false =>
      clear hlt
      go_wp2_with fail
      go_returns
      exact ⟨rfl, hb4w.out⟩
    | true =>
      have hlight := Lib.hid hlt
      have hn60 : n ≤ 60 := by have := light_len hlt; have := hLH.out.len; omega
      have hnl : Hid (¬ 16384 < L.length) := by have := light_len hlt; show ¬ _; omega
      clear hlt
      have y0 := (h14.out.cell (p := ⟨b1, _, none⟩) l1).trans (B1H.out.cell 0 rfl)
      have y1 := (h14.out.cell (p := ⟨b1, _, none⟩) l1).trans (B1H.out.cell 1 rfl)
      have y2 := (h14.out.cell (p := ⟨b1, _, none⟩) l1).trans (B1H.out.cell 2 rfl)
      have y3 := (h14.out.cell (p := ⟨b1, _, none⟩) l1).trans (B1H.out.cell 3 rfl)
      have y4 := (h14.out.cell (p := ⟨b1, _, none⟩) l1).trans (B1H.out.cell 4 rfl)
      have y5 := (h14.out.cell (p := ⟨b1, _, none⟩) l1).trans (B1H.out.cell 5 rfl)
      have y6 := (h14.out.cell (p := ⟨b1, _, none⟩) l1).trans (B1H.out.cell 6 rfl)
      have y7 := (h14.out.cell (p := ⟨b1, _, none⟩) l1).trans (B1H.out.cell 7 rfl)
      have y8 := (h14.out.cell (p := ⟨b1, _, none⟩) l1).trans (B1H.out.cell 8 rfl)
      have y9 := (h14.out.cell (p := ⟨b1, _, none⟩) l1).trans (B1H.out.cell 9 rfl)
      have y10 := (h14.out.cell (p := ⟨b1, _, none⟩) l1).trans (B1H.out.cell 10 rfl)
      have y11 := (h14.out.cell (p := ⟨b1, _, none⟩) l1).trans (B1H.out.cell 11 rfl)
      go_wp2_with fail
      have hn1 : (1 : Int) ≤ (n : Int) + 1 ∧ (n : Int) + 1 ≤ 1099511627776 := by omega
      refine (pick_any at_ ((n : Int) + 1) w4 hn1 hatH.out).mono ?_; rintro e w5 ⟨kk, rfl, hkn, hb5⟩
      have hkn' : kk ≤ n := by omega
      have hb5w := Lib.hid (hb4w.out.trans (hb5.mono hb4w.out.size))
      have h15 := Lib.hid (h14.out.trans (hb5.mono h14.out.size))
      clear hb5 hn1 hkn y0 y1 y2 y3 y4 y5 y6 y7 y8 y9 y10 y11
      have y0 := (h15.out.cell (p := ⟨b1, _, none⟩) l1).trans (B1H.out.cell 0 rfl)
      have y1 := (h15.out.cell (p := ⟨b1, _, none⟩) l1).trans (B1H.out.cell 1 rfl)
      have y2 := (h15.out.cell (p := ⟨b1, _, none⟩) l1).trans (B1H.out.cell 2 rfl)
      have y3 := (h15.out.cell (p := ⟨b1, _, none⟩) l1).trans (B1H.out.cell 3 rfl)
      have y4 := (h15.out.cell (p := ⟨b1, _, none⟩) l1).trans (B1H.out.cell 4 rfl)
      have y5 := (h15.out.cell (p := ⟨b1, _, none⟩) l1).trans (B1H.out.cell 5 rfl)
      have y6 := (h15.out.cell (p := ⟨b1, _, none⟩) l1).trans (B1H.out.cell 6 rfl)
      have y7 := (h15.out.cell (p := ⟨b1, _, none⟩) l1).trans (B1H.out.cell 7 rfl)
      have y8 := (h15.out.cell (p := ⟨b1, _, none⟩) l1).trans (B1H.out.cell 8 rfl)
      have y9 := (h15.out.cell (p := ⟨b1, _, none⟩) l1).trans (B1H.out.cell 9 rfl)
      have y10 := (h15.out.cell (p := ⟨b1, _, none⟩) l1).trans (B1H.out.cell 10 rfl)
      have y11 := (h15.out.cell (p := ⟨b1, _, none⟩) l1).trans (B1H.out.cell 11 rfl)
      go_wp2_with fail
      have hmkL := Lib.hid (fun w (h : Below we.heap.size we w) => hmg.out A n c L w (hrH.out.below h) hfew.out (hsH.out.below h) (hLH.out.below h) (by omega))
      have hmkT := Lib.hid (fun w (h : Below we.heap.size we w) => hmg.out A kk c (L.take kk) w (hrH.out.below h) hfew.out (hsH.out.below h) ((hLH.out.below h).take hkn') (by omega))
      have hmkD := Lib.hid (fun w (h : Below we.heap.size we w) => hmg.out (cutA A c kk 4) (n - kk) (c - kk) (L.drop kk) w (hrH.out.below h) hfew.out (hsH.out.below h) ((hLH.out.below h).drop hkn' hncH.out) (by omega))
      have hcutT := runs_head A n c kk (by have := hncH.out; omega)
      have hcutD := runs_cut A n c kk hkn'
      have hspl := Lib.hid (errC_split (M := M) hnl.out kk)
      have hlenk : Hid (kk ≤ L.length) := by have := hLH.out.len; show _ ≤ _; omega
      obtain ⟨eL, heL⟩ : ∃ q, errC M L = q := ⟨_, rfl⟩
      obtain ⟨eT, heT⟩ : ∃ q, errC M (L.take kk) = q := ⟨_, rfl⟩
      obtain ⟨eD, heD⟩ : ∃ q, errC M (L.drop kk) = q := ⟨_, rfl⟩
      have heLH := Lib.hid heL
      have heTH := Lib.hid heT
      have heDH := Lib.hid heD
      rw [heL] at hmkL hspl
      rw [heT] at hmkT hspl
      rw [heD] at hmkD hspl
      obtain ⟨rL, hrL⟩ : ∃ q, resC M L = q := ⟨_, rfl⟩
      obtain ⟨rT, hrT⟩ : ∃ q, resC M (L.take kk) = q := ⟨_, rfl⟩
      obtain ⟨rD, hrD⟩ : ∃ q, resC M (L.drop kk) = q := ⟨_, rfl⟩
      have hrLH := Lib.hid hrL
      have hrTH := Lib.hid hrT
      have hrDH := Lib.hid hrD
      rw [hrL] at hmkL
      rw [hrT] at hmkT
      rw [hrD] at hmkD
      obtain ⟨mL, hmL⟩ : ∃ q, rL.length = q := ⟨_, rfl⟩
      obtain ⟨mT, hmT⟩ : ∃ q, rT.length = q := ⟨_, rfl⟩
      obtain ⟨mD, hmD⟩ : ∃ q, rD.length = q := ⟨_, rfl⟩
      have hmLH := Lib.hid hmL
      have hmTH := Lib.hid hmT
      have hmDH := Lib.hid hmD
      unfold RetMk2 at hmkL hmkT hmkD
      rw [hmL] at hmkL
      rw [hmT] at hmkT
      rw [hmD] at hmkD
      clear heL heT heD hrL hrT hrD hmL hmT hmD hmg hkf hkl
      refine (hmkL.out w5 hb5w.out).mono ?_; rintro e w6 ⟨A6, c6, rfl, r6, hc6, hm6, hb6⟩
      have hb6w := Lib.hid (hb5w.out.trans (hb6.mono hb5w.out.size))
      have h16 := Lib.hid (h15.out.trans (hb6.mono h15.out.size))
      have r6H := Lib.hid r6
      clear r6 hb6 y0 y1 y2 y3 y4 y5 y6 y7 y8 y9 y10 y11
      have l1w6 := Nat.lt_of_lt_of_le l1 h16.out.size
      have Yw60 := (h16.out.cell (p := ⟨b1, _, none⟩) l1).trans (B1H.out.cell 0 rfl)
      have Yw61 := (h16.out.cell (p := ⟨b1, _, none⟩) l1).trans (B1H.out.cell 1 rfl)
      have Yw62 := (h16.out.cell (p := ⟨b1, _, none⟩) l1).trans (B1H.out.cell 2 rfl)
      have Yw63 := (h16.out.cell (p := ⟨b1, _, none⟩) l1).trans (B1H.out.cell 3 rfl)
      have Yw64 := (h16.out.cell (p := ⟨b1, _, none⟩) l1).trans (B1H.out.cell 4 rfl)
      have Yw65 := (h16.out.cell (p := ⟨b1, _, none⟩) l1).trans (B1H.out.cell 5 rfl)
      have Yw66 := (h16.out.cell (p := ⟨b1, _, none⟩) l1).trans (B1H.out.cell 6 rfl)
      have Yw67 := (h16.out.cell (p := ⟨b1, _, none⟩) l1).trans (B1H.out.cell 7 rfl)
      have Yw68 := (h16.out.cell (p := ⟨b1, _, none⟩) l1).trans (B1H.out.cell 8 rfl)
      have Yw69 := (h16.out.cell (p := ⟨b1, _, none⟩) l1).trans (B1H.out.cell 9 rfl)
      have Yw610 := (h16.out.cell (p := ⟨b1, _, none⟩) l1).trans (B1H.out.cell 10 rfl)
      have Yw611 := (h16.out.cell (p := ⟨b1, _, none⟩) l1).trans (B1H.out.cell 11 rfl)
      go_wp2_with fail
      go_upto_region 7 with fail
      refine wp_region_lateM w6.heap.size [0, 0, 0, 0, 2, 4, 4, 4, 4, 4] (by kernel_rfl) (by kernel_rfl) (Nat.le_refl _) ?_
      intro C hC
      simp only [pickK, pickT, Nat.reduceLeDiff, Nat.reduceEqDiff, ↓reduceIte]
      repeat (go_big_quiet_step (first
        | (intro _; with_reducible rfl)
        | (intro hc; simp only [hcutT, Result.andThen]; exact ⟨trivial, rfl⟩)
        | (intro hc
           have m0 := (hc.cell (p := ⟨b1, _, none⟩) l1w6).trans (Yw60)
           have m1 := (hc.cell (p := ⟨b1, _, none⟩) l1w6).trans (Yw61)
           have m2 := (hc.cell (p := ⟨b1, _, none⟩) l1w6).trans (Yw62)
           have m3 := (hc.cell (p := ⟨b1, _, none⟩) l1w6).trans (Yw63)
           have m4 := (hc.cell (p := ⟨b1, _, none⟩) l1w6).trans (Yw64)
           have m5 := (hc.cell (p := ⟨b1, _, none⟩) l1w6).trans (Yw65)
           have m6 := (hc.cell (p := ⟨b1, _, none⟩) l1w6).trans (Yw66)
           have m7 := (hc.cell (p := ⟨b1, _, none⟩) l1w6).trans (Yw67)
           have m8 := (hc.cell (p := ⟨b1, _, none⟩) l1w6).trans (Yw68)
           have m9 := (hc.cell (p := ⟨b1, _, none⟩) l1w6).trans (Yw69)
           have m10 := (hc.cell (p := ⟨b1, _, none⟩) l1w6).trans (Yw610)
           have m11 := (hc.cell (p := ⟨b1, _, none⟩) l1w6).trans (Yw611)
           simp only [m0, m1, m2, m3, m4, m5, m6, m7, m8, m9, m10, m11, Result.andThen]
           exact ⟨trivial, rfl⟩)))
      refine wpQuiet_nil ?_
      clear hC
      intro C' hC'
      refine wpQuiet_nil ?_
      clear hC'
      intro wq7 hbq7
      replace hbq7 : Below w6.heap.size w6 wq7 := by rw [hbq7]; exact ⟨rfl, rfl, rfl, Nat.le_refl _, fun _ _ => rfl⟩
      clear Yw60 Yw61 Yw62 Yw63 Yw64 Yw65 Yw66 Yw67 Yw68 Yw69 Yw610 Yw611
      have hq7 := Lib.hid hbq7
      have hq7w := Lib.hid (hb6w.out.trans (hbq7.mono hb6w.out.size))
      clear hbq7
      refine wpTail4_one (by decide) ?_
      go_wp2_with fail
      refine (hmkT.out wq7 hq7w.out).mono ?_; rintro e w7 ⟨A7, c7, rfl, r7, hcc7, hmm7, hb7⟩
      have hb7w := Lib.hid (hq7w.out.trans (hb7.mono hq7w.out.size))
      have h17 := Lib.hid (h16.out.trans ((hq7.out.trans (hb7.mono hq7.out.size)).mono h16.out.size))
      have hb7x := Lib.hid hb7
      have r7H := Lib.hid r7
      clear r7 hb7
      go_wp2_with fail
      refine ⟨fun h => absurd h (by decide), ?_⟩
      refine wpTail4_quiet ?_
      intro C' hC'
      repeat (go_big_quiet_step (first | (intro _; with_reducible rfl)))
      refine wpQuiet_nil ?_
      clear hC'
      refine wpTail4_quiet ?_
      intro C' hC'
      repeat (go_big_quiet_step (first | (intro _; with_reducible rfl)))
      refine wpQuiet_nil ?_
      clear hC'
      refine wpTail4_quiet ?_
      intro C' hC'
      repeat (go_big_quiet_step (first | (intro _; with_reducible rfl)))
      refine wpQuiet_nil ?_
      clear hC'
      refine wpTail4_quiet ?_
      intro C' hC'
      repeat (go_big_quiet_step (first | (intro _; with_reducible rfl)))
      refine wpQuiet_nil ?_
      clear hC'
      refine wpTail4_quiet ?_
      intro C' hC'
      repeat (go_big_quiet_step (first | (intro _; with_reducible rfl)))
      refine wpQuiet_nil ?_
      clear hC'
      refine wpTail4_list _ _ _ (by simp) ?_
      simp only [List.map_nil]
      have l1w7 := Nat.lt_of_lt_of_le l1 h17.out.size
      have Yw70 := (h17.out.cell (p := ⟨b1, _, none⟩) l1).trans (B1H.out.cell 0 rfl)
      have Yw71 := (h17.out.cell (p := ⟨b1, _, none⟩) l1).trans (B1H.out.cell 1 rfl)
      have Yw72 := (h17.out.cell (p := ⟨b1, _, none⟩) l1).trans (B1H.out.cell 2 rfl)
      have Yw73 := (h17.out.cell (p := ⟨b1, _, none⟩) l1).trans (B1H.out.cell 3 rfl)
      have Yw74 := (h17.out.cell (p := ⟨b1, _, none⟩) l1).trans (B1H.out.cell 4 rfl)
      have Yw75 := (h17.out.cell (p := ⟨b1, _, none⟩) l1).trans (B1H.out.cell 5 rfl)
      have Yw76 := (h17.out.cell (p := ⟨b1, _, none⟩) l1).trans (B1H.out.cell 6 rfl)
      have Yw77 := (h17.out.cell (p := ⟨b1, _, none⟩) l1).trans (B1H.out.cell 7 rfl)
      have Yw78 := (h17.out.cell (p := ⟨b1, _, none⟩) l1).trans (B1H.out.cell 8 rfl)
      have Yw79 := (h17.out.cell (p := ⟨b1, _, none⟩) l1).trans (B1H.out.cell 9 rfl)
      have Yw710 := (h17.out.cell (p := ⟨b1, _, none⟩) l1).trans (B1H.out.cell 10 rfl)
      have Yw711 := (h17.out.cell (p := ⟨b1, _, none⟩) l1).trans (B1H.out.cell 11 rfl)
      go_wp2_with fail
      go_upto_region 8 with fail
      refine wp_region_lateM w7.heap.size [0, 0, 0, 0, 2, 4, 4, 4, 4, 4] (by kernel_rfl) (by kernel_rfl) (Nat.le_refl _) ?_
      intro C hC
      simp only [pickK, pickT, Nat.reduceLeDiff, Nat.reduceEqDiff, ↓reduceIte]
      repeat (go_big_quiet_step (first
        | (intro _; with_reducible rfl)
        | (intro hc; simp only [hcutD, Result.andThen]; exact ⟨trivial, rfl⟩)
        | (intro hc
           have m0 := (hc.cell (p := ⟨b1, _, none⟩) l1w7).trans (Yw70)
           have m1 := (hc.cell (p := ⟨b1, _, none⟩) l1w7).trans (Yw71)
           have m2 := (hc.cell (p := ⟨b1, _, none⟩) l1w7).trans (Yw72)
           have m3 := (hc.cell (p := ⟨b1, _, none⟩) l1w7).trans (Yw73)
           have m4 := (hc.cell (p := ⟨b1, _, none⟩) l1w7).trans (Yw74)
           have m5 := (hc.cell (p := ⟨b1, _, none⟩) l1w7).trans (Yw75)
           have m6 := (hc.cell (p := ⟨b1, _, none⟩) l1w7).trans (Yw76)
           have m7 := (hc.cell (p := ⟨b1, _, none⟩) l1w7).trans (Yw77)
           have m8 := (hc.cell (p := ⟨b1, _, none⟩) l1w7).trans (Yw78)
           have m9 := (hc.cell (p := ⟨b1, _, none⟩) l1w7).trans (Yw79)
           have m10 := (hc.cell (p := ⟨b1, _, none⟩) l1w7).trans (Yw710)
           have m11 := (hc.cell (p := ⟨b1, _, none⟩) l1w7).trans (Yw711)
           simp only [m0, m1, m2, m3, m4, m5, m6, m7, m8, m9, m10, m11, Result.andThen]
           exact ⟨trivial, rfl⟩)))
      refine wpQuiet_nil ?_
      clear hC
      intro C' hC'
      refine wpQuiet_nil ?_
      clear hC'
      intro wq8 hbq8
      replace hbq8 : Below w7.heap.size w7 wq8 := by rw [hbq8]; exact ⟨rfl, rfl, rfl, Nat.le_refl _, fun _ _ => rfl⟩
      clear Yw70 Yw71 Yw72 Yw73 Yw74 Yw75 Yw76 Yw77 Yw78 Yw79 Yw710 Yw711
      have hq8 := Lib.hid hbq8
      have hq8w := Lib.hid (hb7w.out.trans (hbq8.mono hb7w.out.size))
      clear hbq8
      refine wpTail4_one (by decide) ?_
      go_wp2_with fail
      refine (hmkD.out wq8 hq8w.out).mono ?_; rintro e w8 ⟨A8, c8, rfl, r8, hcc8, hmm8, hb8⟩
      have hb8w := Lib.hid (hq8w.out.trans (hb8.mono hq8w.out.size))
      have h18 := Lib.hid (h17.out.trans ((hq8.out.trans (hb8.mono hq8.out.size)).mono h17.out.size))
      have hb8x := Lib.hid hb8
      have r8H := Lib.hid r8
      clear r8 hb8
      go_wp2_with fail
      refine ⟨fun h => absurd h (by decide), ?_⟩
      refine wpTail4_quiet ?_
      intro C' hC'
      repeat (go_big_quiet_step (first | (intro _; with_reducible rfl)))
      refine wpQuiet_nil ?_
      clear hC'
      refine wpTail4_quiet ?_
      intro C' hC'
      repeat (go_big_quiet_step (first | (intro _; with_reducible rfl)))
      refine wpQuiet_nil ?_
      clear hC'
      refine wpTail4_quiet ?_
      intro C' hC'
      repeat (go_big_quiet_step (first | (intro _; with_reducible rfl)))
      refine wpQuiet_nil ?_
      clear hC'
      refine wpTail4_quiet ?_
      intro C' hC'
      repeat (go_big_quiet_step (first | (intro _; with_reducible rfl)))
      refine wpQuiet_nil ?_
      clear hC'
      refine wpTail4_quiet ?_
      intro C' hC'
      repeat (go_big_quiet_step (first | (intro _; with_reducible rfl)))
      refine wpQuiet_nil ?_
      clear hC'
      refine wpTail4_list _ _ _ (by simp) ?_
      simp only [List.map_nil]
      by_cases he : eL = 0
      · obtain ⟨heT0, heD0⟩ := hspl.out.1 he
        subst he heT0 heD0
        have hOK := Lib.hid (okC_of hnl.out heLH.out)
        have hCL : rL = makeC M L := by rw [← hrLH.out]; exact resC_ok heLH.out
        have hCT : rL.filter (fun c => decide (c.run < (kk : Int))) = rT := by rw [hCL, ← hrTH.out, resC_ok heTH.out]; exact make_low kk hlenk.out
        have hCD : (rL.filter (fun c => !decide (c.run < (kk : Int)))).map (shiftC kk) = rD := by rw [hCL, ← hrDH.out, resC_ok heDH.out]; exact make_high kk hlenk.out
        have hsum : mL = mT + mD := by
          rw [← hmLH.out, ← hmTH.out, ← hmDH.out, ← hCT, ← hCD, List.length_map]
          have : rL.length = (rL.filter (fun c => decide (c.run < (kk : Int)))).length + (rL.filter (fun c => !decide (c.run < (kk : Int)))).length := filter_add _ rL
          omega
        have hmb : mL ≤ 2000 := by have := makeC_len_le (L := L) hOK.out.good; have := hLH.out.len; rw [← hmLH.out, hCL]; omega
        have hfs : Hid (firstC rL t = firstC rT t + firstC rD t) := by
          show _ = _
          rw [hCL, ← hrTH.out, ← hrDH.out, resC_ok heTH.out, resC_ok heDH.out]
          exact first_split kk hlenk.out t
        have hco : Hid (∀ x ∈ rL, 0 ≤ x.run ∧ x.run < (n : Int)) := fun x hx => by
          rw [hCL] at hx
          have := (conn_ok hOK.out hx).2.2.2
          have hl := hLH.out.len
          exact ⟨this.1, by omega⟩
        have hCTH := Lib.hid hCT
        have hCDH := Lib.hid hCD
        have hne0 : ((mL : Int) != (mT : Int) + (mD : Int)) = false := by simp; omega
        have h67 := Lib.hid (hq7.out.trans (hb7x.out.mono hq7.out.size))
        have h78 := Lib.hid (hq8.out.trans (hb8x.out.mono hq8.out.size))
        have r6w := Lib.hid (r6H.out.below (h67.out.trans (h78.out.mono h67.out.size)))
        have r7w := Lib.hid (r7H.out.below h78.out)
        have hb0 : Hid (Below w8.heap.size w8 w8) := Below.refl _ _
        clear hCL hCT hCD heLH heTH heDH hrLH hrTH hrDH hmkL hmkT hmkD
        go_wp2_with fail
        go_loopw [15, 16, 17] (fun vi vk vj wr => ∃ j : Nat, j ≤ mL ∧ vi = .int .i64 (((rL.take j).filter (fun c => decide (c.run < (kk : Int)))).length : Nat) ∧ vk = .int .i64 (((rL.take j).filter (fun c => !decide (c.run < (kk : Int)))).length : Nat) ∧ vj = .int .i64 j ∧ Hid (Below w8.heap.size w8 wr)) (fun _ _ vj _ => mL - (intOf vj).toNat)
        case atStart => exact ⟨0, Nat.zero_le _, rfl, rfl, rfl, hb0⟩
        case round =>
          clear hb0
          obtain ⟨j, hj, rfl, rfl, rfl, hb⟩ := hrel
          have hbr := Lib.hid (hb8w.out.trans (hb.out.mono hb8w.out.size))
          by_cases hjl : j < mL
          · have hjI : (j : Int) < (mL : Int) := by omega
            obtain ⟨b9, o9, x, rfl, hb9r, hx9, hc9⟩ := (r6w.out.below hb.out).get hjl
            have hrun := hco.out x (List.mem_of_getElem? hx9)
            obtain ⟨x1, x2, x3, x4, x5, x6⟩ := x
            simp only at hrun
            obtain ⟨rr, hrr⟩ := Int.eq_ofNat_of_zero_le hrun.1
            subst hrr
            have f0 := hc9 0 _ rfl
            have f1 := hc9 1 _ rfl
            have f2 := hc9 2 _ rfl
            have f3 := hc9 3 _ rfl
            have f4 := hc9 4 _ rfl
            have f5 := hc9 5 _ rfl
            simp only [Nat.add_zero] at f0
            have hx9H := Lib.hid hx9
            have hbI : ((rL.take j).filter (fun c => decide (c.run < (kk : Int)))).length ≤ 2000 := by
              have h1 := List.length_filter_le (fun c : ConnP => decide (c.run < (kk : Int))) (rL.take j)
              rw [List.length_take] at h1; omega
            have hbK : ((rL.take j).filter (fun c => !decide (c.run < (kk : Int)))).length ≤ 2000 := by
              have h1 := List.length_filter_le (fun c : ConnP => !decide (c.run < (kk : Int))) (rL.take j)
              rw [List.length_take] at h1; omega
            have hti := Lib.hid (take_filter (p := fun c => decide (c.run < (kk : Int))) hx9)
            have htk := Lib.hid (take_filter (p := fun c => !decide (c.run < (kk : Int))) hx9)
            have hai := Lib.hid (fun h => filter_at (p := fun c => decide (c.run < (kk : Int))) hx9 h)
            have hak := Lib.hid (fun h => filter_at (p := fun c => !decide (c.run < (kk : Int))) hx9 h)
            rw [hCTH.out] at hai
            obtain ⟨qi, hqi⟩ : ∃ q, ((rL.take j).filter (fun c => decide (c.run < (kk : Int)))).length = q := ⟨_, rfl⟩
            obtain ⟨qk, hqk⟩ : ∃ q, ((rL.take j).filter (fun c => !decide (c.run < (kk : Int)))).length = q := ⟨_, rfl⟩
            rw [hqi] at hbI hti hai ⊢
            rw [hqk] at hbK htk hak ⊢
            have hrunb : rr < n := by omega
            clear hc9 hx9 hqi hqk hrun
            have hbwa := below_alloc wr #[.int .i64 x1, .int .i64 x2, .int .i64 x3, .int .i64 x4, .int .i64 rr, .int .i64 x6] 42
            have Bwa := Bx.new wr 42 [.int .i64 x1, .int .i64 x2, .int .i64 x3, .int .i64 x4, .int .i64 rr, .int .i64 x6]
            obtain ⟨wa, hwa⟩ : ∃ q, wr.alloc (.cells #[.int .i64 x1, .int .i64 x2, .int .i64 x3, .int .i64 x4, .int .i64 rr, .int .i64 x6] 42) = q := ⟨_, rfl⟩
            change Bx (wr.alloc (.cells #[.int .i64 x1, .int .i64 x2, .int .i64 x3, .int .i64 x4, .int .i64 rr, .int .i64 x6] 42)) _ _ _ at Bwa
            rw [hwa] at hbwa Bwa
            obtain ⟨ba, hbaE⟩ : ∃ q, wr.heap.size = q := ⟨_, rfl⟩
            rw [hbaE] at Bwa
            have hbz := Lib.hid (hb.out.trans (hbwa.mono hb.out.size))
            have q0 := Bwa.cell 0 rfl
            have q1 := Bwa.cell 1 rfl
            have q2 := Bwa.cell 2 rfl
            have q3 := Bwa.cell 3 rfl
            have q4 := Bwa.cell 4 rfl
            have q5 := Bwa.cell 5 rfl
            have BwaH := Lib.hid Bwa
            have hbaL : Hid (w8.heap.size ≤ ba) := by have := hb.out.size; show _ ≤ _; omega
            have lba := Bwa.lt
            clear Bwa hbwa
            by_cases hlow : (rr : Int) < (kk : Int)
            · have hlb : decide ((rr : Int) < (kk : Int)) = true := decide_eq_true hlow
              have hA := hai.out hlb
              have hqm : qi < mT := by rw [← hmTH.out]; exact (List.getElem?_eq_some_iff.1 hA).1
              have hge : decide (mT ≤ qi) = false := decide_eq_false (by omega)
              have hqI : (qi : Int) < (mT : Int) := by omega
              obtain ⟨b8, o8, y, hA7, hb8r, hy8, hd8⟩ := (r7w.out.below hbz.out).get hqm
              subst hA7
              obtain rfl : y = ⟨x1, x2, x3, x4, rr, x6⟩ := Option.some.inj (hy8.symm.trans hA)
              have v0 := hd8 0 _ rfl
              have v1 := hd8 1 _ rfl
              have v2 := hd8 2 _ rfl
              have v3 := hd8 3 _ rfl
              have v4 := hd8 4 _ rfl
              have v5 := hd8 5 _ rfl
              simp only [Nat.add_zero] at v0
              have hti2 : Hid (((rL.take (j + 1)).filter (fun c => decide (c.run < (kk : Int)))).length = qi + 1) := Lib.hid (by have := hti.out; simpa [hlow] using this)
              have htk2 : Hid (((rL.take (j + 1)).filter (fun c => !decide (c.run < (kk : Int)))).length = qk) := Lib.hid (by have := htk.out; simpa [hlow] using this)
              clear hd8 hy8 hA
              go_wp2_with fail
              go_upto_region 19 with fail
              refine wp_region_below wa.heap.size (by kernel_rfl) (by kernel_rfl) ?_
              intro C hC
              repeat (go_big_quiet_step (first
                | ((intro _; with_reducible rfl))
                | (intro hc; have m0 := (hc.cell (p := ⟨b8, _, none⟩) hb8r).trans v0; have m1 := (hc.cell (p := ⟨b8, _, none⟩) hb8r).trans v1; have m2 := (hc.cell (p := ⟨b8, _, none⟩) hb8r).trans v2; have m3 := (hc.cell (p := ⟨b8, _, none⟩) hb8r).trans v3; have m4 := (hc.cell (p := ⟨b8, _, none⟩) hb8r).trans v4; have m5 := (hc.cell (p := ⟨b8, _, none⟩) hb8r).trans v5; have m6 := (hc.cell (p := ⟨ba, _, none⟩) lba).trans q0; have m7 := (hc.cell (p := ⟨ba, _, none⟩) lba).trans q1; have m8 := (hc.cell (p := ⟨ba, _, none⟩) lba).trans q2; have m9 := (hc.cell (p := ⟨ba, _, none⟩) lba).trans q3; have m10 := (hc.cell (p := ⟨ba, _, none⟩) lba).trans q4; have m11 := (hc.cell (p := ⟨ba, _, none⟩) lba).trans q5; simp only [m0, m1, m2, m3, m4, m5, m6, m7, m8, m9, m10, m11, Result.andThen]; exact ⟨trivial, rfl⟩)
              ))
              refine wpQuiet_nil ?_
              intro w9 hb9
              clear hC
              clear hwa hbaE
              have hbF := Lib.hid (hbz.out.trans (hb9.mono hbz.out.size))
              clear hb9
              go_wp2_with fail
              go_roundw
              case rel => exact ⟨j + 1, by omega, congrArg (Value.int .i64) (by have := hti2.out; omega), congrArg (Value.int .i64) (by have := htk2.out; omega), by go_num, hbF⟩
              case measure => simp [intOf]; omega
            · have hlb : decide ((rr : Int) < (kk : Int)) = false := decide_eq_false hlow
              obtain ⟨sr, rfl⟩ : ∃ sr, rr = kk + sr := ⟨rr - kk, by omega⟩
              have hA := hak.out (by simp only [hlb]; rfl)
              have hA2 : rD[qk]? = some ⟨x1, x2, x3, x4, (sr : Int), x6⟩ := by
                rw [← hCDH.out, List.getElem?_map, hA]
                show some (shiftC kk _) = _
                unfold shiftC
                simp only [Option.some.injEq, ConnP.mk.injEq, true_and, and_true]
                omega
              have hqm : qk < mD := by rw [← hmDH.out]; exact (List.getElem?_eq_some_iff.1 hA2).1
              have hge : decide (mD ≤ qk) = false := decide_eq_false (by omega)
              have hqI : (qk : Int) < (mD : Int) := by omega
              have hbwb0 := below_alloc wr #[.int .i64 x1, .int .i64 x2, .int .i64 x3, .int .i64 x4, .int .i64 sr, .int .i64 x6] 42
              have Bwb := Bx.new wr 42 [.int .i64 x1, .int .i64 x2, .int .i64 x3, .int .i64 x4, .int .i64 sr, .int .i64 x6]
              obtain ⟨wb, hwb⟩ : ∃ q, wr.alloc (.cells #[.int .i64 x1, .int .i64 x2, .int .i64 x3, .int .i64 x4, .int .i64 sr, .int .i64 x6] 42) = q := ⟨_, rfl⟩
              change Bx (wr.alloc (.cells #[.int .i64 x1, .int .i64 x2, .int .i64 x3, .int .i64 x4, .int .i64 sr, .int .i64 x6] 42)) _ _ _ at Bwb
              rw [hwb] at hbwb0 Bwb
              rw [hbaE] at Bwb
              have hbwb : Hid (Below w8.heap.size w8 wb) := Lib.hid (hb.out.trans (hbwb0.mono hb.out.size))
              clear hbwb0
              have hsub : ((kk : Int) + (sr : Int)) - (kk : Int) = (sr : Int) := by omega
              have hcast : (((kk + sr : Nat)) : Int) = (kk : Int) + (sr : Int) := by omega
              obtain ⟨b8, o8, y, hA7, hb8r, hy8, hd8⟩ := (r8H.out.below hbwb.out).get hqm
              subst hA7
              obtain rfl : y = ⟨x1, x2, x3, x4, sr, x6⟩ := Option.some.inj (hy8.symm.trans hA2)
              have v0 := hd8 0 _ rfl
              have v1 := hd8 1 _ rfl
              have v2 := hd8 2 _ rfl
              have v3 := hd8 3 _ rfl
              have v4 := hd8 4 _ rfl
              have v5 := hd8 5 _ rfl
              simp only [Nat.add_zero] at v0
              have u0 := Bwb.cell 0 rfl
              have u1 := Bwb.cell 1 rfl
              have u2 := Bwb.cell 2 rfl
              have u3 := Bwb.cell 3 rfl
              have u4 := Bwb.cell 4 rfl
              have u5 := Bwb.cell 5 rfl
              have lbb := Bwb.lt
              have hno : ¬ ((kk : Int) + (sr : Int) < (kk : Int)) := by omega
              have hyes : (kk : Int) ≤ (kk : Int) + (sr : Int) := by omega
              have hti2 : Hid (((rL.take (j + 1)).filter (fun c => decide (c.run < (kk : Int)))).length = qi) := Lib.hid (by have := hti.out; simpa [hno, hyes] using this)
              have htk2 : Hid (((rL.take (j + 1)).filter (fun c => !decide (c.run < (kk : Int)))).length = qk + 1) := Lib.hid (by have := htk.out; simpa [hno, hyes] using this)
              clear hd8 hy8 hA hA2 Bwb hno hyes
              go_wp2_with fail
              go_upto_region 23 with fail
              refine wp_region_below wb.heap.size (by kernel_rfl) (by kernel_rfl) ?_
              intro C hC
              repeat (go_big_quiet_step (first
                | ((intro _; with_reducible rfl))
                | (intro hc; have m0 := (hc.cell (p := ⟨b8, _, none⟩) hb8r).trans v0; have m1 := (hc.cell (p := ⟨b8, _, none⟩) hb8r).trans v1; have m2 := (hc.cell (p := ⟨b8, _, none⟩) hb8r).trans v2; have m3 := (hc.cell (p := ⟨b8, _, none⟩) hb8r).trans v3; have m4 := (hc.cell (p := ⟨b8, _, none⟩) hb8r).trans v4; have m5 := (hc.cell (p := ⟨b8, _, none⟩) hb8r).trans v5; have m6 := (hc.cell (p := ⟨ba, _, none⟩) lbb).trans u0; have m7 := (hc.cell (p := ⟨ba, _, none⟩) lbb).trans u1; have m8 := (hc.cell (p := ⟨ba, _, none⟩) lbb).trans u2; have m9 := (hc.cell (p := ⟨ba, _, none⟩) lbb).trans u3; have m10 := (hc.cell (p := ⟨ba, _, none⟩) lbb).trans u4; have m11 := (hc.cell (p := ⟨ba, _, none⟩) lbb).trans u5; simp only [m0, m1, m2, m3, m4, m5, m6, m7, m8, m9, m10, m11, Result.andThen]; exact ⟨trivial, rfl⟩)
              ))
              refine wpQuiet_nil ?_
              intro w9 hb9
              clear hC
              clear hwa hbaE hwb
              have hbF := Lib.hid (hbwb.out.trans (hb9.mono hbwb.out.size))
              clear hb9
              go_wp2_with fail
              go_roundw
              case rel => exact ⟨j + 1, by omega, congrArg (Value.int .i64) (by have := hti2.out; omega), congrArg (Value.int .i64) (by have := htk2.out; omega), by go_num, hbF⟩
              case measure => simp [intOf]; omega
          · rw [← hsum]
            have hsumH := Lib.hid hsum
            clear hne0 hco hsum
            have hfL := Lib.hid (fun w h => cfirst_any A6 mL c6 rL t w h (by omega))
            have hfT := Lib.hid (fun w h => cfirst_any A7 mT c7 rT t w h (by have := hsumH.out; omega))
            have hfD := Lib.hid (fun w h => cfirst_any A8 mD c8 rD t w h (by have := hsumH.out; omega))
            have hle := firstC_le t rL
            rw [hmLH.out] at hle
            have hlow := Lib.hid (firstC_low t rL)
            have hatF := Lib.hid (firstC_at t rL)
            obtain ⟨fL, hfLe⟩ : ∃ q, firstC rL t = q := ⟨_, rfl⟩
            obtain ⟨fT, hfTe⟩ : ∃ q, firstC rT t = q := ⟨_, rfl⟩
            obtain ⟨fD, hfDe⟩ : ∃ q, firstC rD t = q := ⟨_, rfl⟩
            rw [hfLe] at hfL hle hfs hlow hatF
            rw [hfTe] at hfT hfs
            rw [hfDe] at hfD hfs
            clear hfLe hfTe hfDe
            clear hcutT hcutD
            by_cases h0 : fL = 0
            · subst h0
              have hsumF : (fT : Int) + (fD : Int) = 0 := by have := hfs.out; omega
              have hTb : fT ≤ 2000 := by omega
              have hDb : fD ≤ 2000 := by omega
              simp only [Int.natCast_zero] at hfL
              by_cases hfe : mL = 0
              · subst hfe
                go_wp2_with fail
                refine (hfL.out wr (r6w.out.below hb.out)).mono ?_; rintro e w9 ⟨rfl, hb9⟩
                have h9 := Lib.hid (hb.out.trans (hb9.mono hb.out.size))
                clear hb9
                go_wp2_with fail
                refine (hfT.out w9 (r7w.out.below h9.out)).mono ?_; rintro e w10 ⟨rfl, hb10⟩
                have h10 := Lib.hid (h9.out.trans (hb10.mono h9.out.size))
                clear hb10
                go_wp2_with fail
                refine (hfD.out w10 (r8H.out.below h10.out)).mono ?_; rintro e w11 ⟨rfl, hb11⟩
                have h11 := Lib.hid (h10.out.trans (hb11.mono h10.out.size))
                have h11w := Lib.hid (hb8w.out.trans (h11.out.mono hb8w.out.size))
                clear hb11
                go_wp2_with fail
                go_returns
                exact ⟨by simp, h11w.out⟩
              · have hfeb : ((0 : Int) == (mL : Int)) = false := by simp; omega
                have hfI0 : (0 : Int) < (mL : Int) := by omega
                go_wp2_with fail
                refine (hfL.out wr (r6w.out.below hb.out)).mono ?_; rintro e w9 ⟨rfl, hb9⟩
                have h9 := Lib.hid (hb.out.trans (hb9.mono hb.out.size))
                clear hb9
                go_wp2_with fail
                refine (hfT.out w9 (r7w.out.below h9.out)).mono ?_; rintro e w10 ⟨rfl, hb10⟩
                have h10 := Lib.hid (h9.out.trans (hb10.mono h9.out.size))
                clear hb10
                go_wp2_with fail
                refine (hfD.out w10 (r8H.out.below h10.out)).mono ?_; rintro e w11 ⟨rfl, hb11⟩
                have h11 := Lib.hid (h10.out.trans (hb11.mono h10.out.size))
                have h11w := Lib.hid (hb8w.out.trans (h11.out.mono hb8w.out.size))
                clear hb11
                obtain ⟨b9, o9, z, hA9, hb9r, hz9, hc9⟩ := (r6w.out.below h11.out).get (show 0 < mL by omega)
                cases hA9
                have hzl := hatF.out z hz9
                obtain ⟨z1, z2, z3, z4, z5, z6⟩ := z
                have z0 := hc9 0 _ rfl
                simp only [Nat.add_zero, Nat.zero_mul] at z0
                have zd : decide (z1 ≥ t) = true := decide_eq_true hzl
                clear hc9 hz9 hzl
                clear hfe
                go_wp2_with fail
                go_returns
                exact ⟨by simp, h11w.out⟩
            · obtain ⟨f1, rfl⟩ : ∃ f1, fL = f1 + 1 := ⟨fL - 1, by omega⟩
              clear h0
              have hsumF : (fT : Int) + (fD : Int) = (f1 : Int) + 1 := by have := hfs.out; omega
              have hTb : fT ≤ 2000 := by omega
              have hDb : fD ≤ 2000 := by omega
              simp only [Int.natCast_add, Int.natCast_one, Int.natCast_zero] at hfL
              have hz : ((f1 : Int) + 1 == 0) = false := by simp; omega
              have htn : ((f1 : Int) + 1).toNat = f1 + 1 := by omega
              by_cases hfe : mL = f1 + 1
              · subst hfe
                go_wp2_with fail
                refine (hfL.out wr (r6w.out.below hb.out)).mono ?_; rintro e w9 ⟨rfl, hb9⟩
                have h9 := Lib.hid (hb.out.trans (hb9.mono hb.out.size))
                clear hb9
                go_wp2_with fail
                refine (hfT.out w9 (r7w.out.below h9.out)).mono ?_; rintro e w10 ⟨rfl, hb10⟩
                have h10 := Lib.hid (h9.out.trans (hb10.mono h9.out.size))
                clear hb10
                go_wp2_with fail
                refine (hfD.out w10 (r8H.out.below h10.out)).mono ?_; rintro e w11 ⟨rfl, hb11⟩
                have h11 := Lib.hid (h10.out.trans (hb11.mono h10.out.size))
                have h11w := Lib.hid (hb8w.out.trans (h11.out.mono hb8w.out.size))
                clear hb11
                have hfI : (f1 : Int) < ((f1 : Int) + 1) := by omega
                obtain ⟨b9, o9, z, hA9, hb9r, hz9, hc9⟩ := (r6w.out.below h11.out).get (show f1 < f1 + 1 by omega)
                cases hA9
                have hzl := hlow.out f1 z (by omega) hz9
                obtain ⟨y1, y2, y3, y4, y5, y6⟩ := z
                have y0 := hc9 0 _ rfl
                simp only [Nat.add_zero, Nat.zero_mul] at y0
                have yd : decide (y1 < t) = true := decide_eq_true hzl
                clear hc9 hz9 hzl
                go_wp2_with fail
                go_returns
                exact ⟨by simp, h11w.out⟩
              · have hfeb : (((f1 : Int) + 1) == (mL : Int)) = false := by simp; omega
                have hfI0 : ((f1 : Int) + 1) < (mL : Int) := by omega
                go_wp2_with fail
                refine (hfL.out wr (r6w.out.below hb.out)).mono ?_; rintro e w9 ⟨rfl, hb9⟩
                have h9 := Lib.hid (hb.out.trans (hb9.mono hb.out.size))
                clear hb9
                go_wp2_with fail
                refine (hfT.out w9 (r7w.out.below h9.out)).mono ?_; rintro e w10 ⟨rfl, hb10⟩
                have h10 := Lib.hid (h9.out.trans (hb10.mono h9.out.size))
                clear hb10
                go_wp2_with fail
                refine (hfD.out w10 (r8H.out.below h10.out)).mono ?_; rintro e w11 ⟨rfl, hb11⟩
                have h11 := Lib.hid (h10.out.trans (hb11.mono h10.out.size))
                have h11w := Lib.hid (hb8w.out.trans (h11.out.mono hb8w.out.size))
                clear hb11
                obtain ⟨b9, o9, z, hA9, hb9r, hz9, hc9⟩ := (r6w.out.below h11.out).get (show f1 + 1 < mL by omega)
                cases hA9
                have hzl := hatF.out z hz9
                obtain ⟨z1, z2, z3, z4, z5, z6⟩ := z
                have z0 := hc9 0 _ rfl
                simp only [Nat.add_zero, Nat.zero_mul] at z0
                have zd : decide (z1 ≥ t) = true := decide_eq_true hzl
                clear hc9 hz9 hzl
                clear hfe
                have hfI : (f1 : Int) < (mL : Int) := by omega
                obtain ⟨b9, o9, z, hA9, hb9r, hz9, hc9⟩ := (r6w.out.below h11.out).get (show f1 < mL by omega)
                cases hA9
                have hzl := hlow.out f1 z (by omega) hz9
                obtain ⟨y1, y2, y3, y4, y5, y6⟩ := z
                have y0 := hc9 0 _ rfl
                simp only [Nat.add_zero, Nat.zero_mul] at y0
                have yd : decide (y1 < t) = true := decide_eq_true hzl
                clear hc9 hz9 hzl
                go_wp2_with fail
                go_returns
                exact ⟨by simp, h11w.out⟩
      · have hor := or_ne (fun h => he (hspl.out.2 h))
        have heb : (eL != 0) = true := by simp [he]
        clear hmkL hmkT hmkD
        by_cases heT0 : eT = 0
        · have hT0 : (eT != 0) = false := by simp [heT0]
          have hD0 : (eD != 0) = true := by simp; omega
          clear hor heT0 he
          go_wp2_with fail
          go_returns
          exact ⟨rfl, hb8w.out⟩
        · have hT0 : (eT != 0) = true := by simp [heT0]
          clear hor heT0 he
          go_wp2_with fail
          go_returns
          exact ⟨rfl, hb8w.out⟩
end Go.Proofs.YtechdefolfboeaaGreatDoor

