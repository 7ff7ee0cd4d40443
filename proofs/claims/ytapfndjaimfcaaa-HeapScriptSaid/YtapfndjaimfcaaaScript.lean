/-
  Walk: timetablelaw12.HeapScript (gen22.py).
-/
import Derived.Test.YtapfndjaimfcaaaScript1
import Derived.Test.YtapfndjaimfcaaaOpen5
namespace Go.Proofs.Ytapfndjaimfcaaa
open Go.RowKit Go.Shelf B K
set_option linter.unusedVariables false
set_option linter.unusedSimpArgs false
set_option maxHeartbeats 8000000
theorem below_dr (w : World) : Below w.heap.size w { w with drawn := w.drawn + 1 } := ⟨rfl, rfl, rfl, Nat.le_refl _, fun _ _ => rfl⟩
theorem pickS_any (a m : Int) (w : World) (hm : 1 ≤ m ∧ m ≤ 1099511627776) (ha : -9223372036854775808 ≤ a ∧ a ≤ 9223372036854775807) :
    Calls Try.prog 16 #[.int .i64 a, .int .i64 m] w fun e w' => ∃ k : Nat, e = .returned (.int .i64 (k : Int)) ∧ (k : Int) < m ∧ Below w.heap.size w w' := by
  have h0 : decide (m < 1) = false := decide_eq_false (by omega)
  have h1 : a.tmod m < m := Int.tmod_lt_of_pos a (by omega)
  have h2 : -m < a.tmod m := by
    rcases Int.le_total 0 a with h | h
    · have := Int.tmod_nonneg (b := m) h; omega
    · have h1 := Int.tmod_lt_of_pos (-a) (show (0 : Int) < m by omega)
      rw [Int.neg_tmod] at h1; omega
  obtain ⟨q, hq⟩ : ∃ q, a.tmod m = q := ⟨_, rfl⟩
  rw [hq] at h1 h2
  have hm0 : m ≠ 0 := by omega
  have hw : IntKind.i64.wrap (a.tmod m) = q := by rw [hq, IntKind.wrap_i64]; omega
  have hw2 : IntKind.i64.wrap q = q := by rw [IntKind.wrap_i64]; omega
  go_enter Try.func16, Try.ntmps16
  by_cases hneg : q < 0
  · have hw3 : IntKind.i64.wrap (q + m) = q + m := by rw [IntKind.wrap_i64]; omega
    go_wp2_with fail
    go_returns
    exact ⟨(q + m).toNat, ret_int (by omega), by omega, Below.refl _ _⟩
  · have hneg' : decide (q < 0) = false := decide_eq_false hneg
    go_wp2_with fail
    go_returns
    exact ⟨q.toNat, ret_int (by omega), by omega, Below.refl _ _⟩
set_option maxRecDepth 100000 in
theorem lawScript_any (A : Option Addr) (n c : Nat) (l : List (Int × Int × Int)) (w : World) (hr : Rd w 3 tripE A n l) (hwf : ∀ x ∈ l, (Lit.int .i64 x.1).wf = true ∧ (Lit.int .i64 x.2.1).wf = true ∧ (Lit.int .i64 x.2.2).wf = true) :
    Calls Try.prog 11 #[.slice A n c] w fun e w' => e = .returned (.bool true) ∧ Below w.heap.size w w' := by
  have hwfh := Lib.hid hwf
  clear hwf
  go_enter Try.func11, Try.ntmps11
  go_wp2_with fail
  refine (lives12_any _).mono ?_; rintro e w1 ⟨rfl, hb1⟩
  have r1 := Lib.hid (hr.below hb1)
  have hb1h := Lib.hid hb1
  clear hr hb1
  by_cases hn : 200 < n
  · have hd1 : decide ((200 : Int) < (n : Int)) = true := decide_eq_true (by omega)
    go_wp2_with fail
    go_returns
    exact ⟨rfl, hb1h.out⟩
  have hd1 : decide ((200 : Int) < (n : Int)) = false := decide_eq_false (by omega)
  go_wp2_with fail
  refine (New_any (base := w1.heap.size) [] (by simp) (Nat.le_refl _)).mono ?_; rintro e w2 ⟨h, rfl, hh, H2, hb2⟩
  have hH2 := Lib.hid H2
  have hb2h := Lib.hid hb2
  clear H2 hb2
  go_wp2_with fail
  refine (rNew_any w2).mono ?_; rintro e w3 ⟨hp, rfl, hhp, hR3, hb3⟩
  have hP3 : Hid (Pr w3 w1.heap.size h hp [] [] ∧ St [] ∧ (0 : Nat) ≤ 0 ∧ Below w1.heap.size w1 w3) := by
    have hb13 := hb2h.out.trans (hb3.mono hb2h.out.size)
    refine ⟨⟨[hp], (hH2.out.more fun y hy => .inr (by simp at hy; omega)).below hb3, hR3, hb13.size, Nat.le_trans hb2h.out.size hhp⟩, St.nil, Nat.le_refl _, hb13⟩
  clear hR3 hb3 hH2 hb2h
  go_wp2_with fail
  go_loopw [5] (fun i wr => ∃ (k : Nat) (S : List It), k ≤ n ∧ i = .int .i64 k ∧ Hid (Pr wr w1.heap.size h hp S S ∧ St S ∧ S.length ≤ k ∧ Below w1.heap.size w1 wr)) (fun i _ => n - (intOf i).toNat)
  case atStart => exact ⟨0, [], Nat.zero_le _, rfl, hP3.out⟩
  case round =>
    clear hP3
    obtain ⟨k, S, hk, rfl, hH⟩ := hrel
    by_cases hlt : k < n
    · obtain ⟨b, o, x1, x2, x3, rfl, hbs, hx, p1', p2', p3'⟩ := r1.out.trip hlt
      obtain ⟨hPr, hSt, hSk, hbr⟩ := hH.out
      clear hH
      have hwx := hwfh.out _ (List.mem_of_getElem? hx)
      have hb5 := wf_bounds hwx.1
      have hw3 := hwx.2.2
      simp only at hb5 hw3
      have hkn : (k : Int) < (n : Int) := by omega
      have p1 := (hbr.cell (p := ⟨b, o + k * 3, none⟩) hbs).trans p1'
      have hPick := Lib.hid (pickS_any x1 5 wr (by decide) hb5)
      have hPrh := Lib.hid hPr
      have hSth := Lib.hid hSt
      have hbrh := Lib.hid hbr
      have hSl : S.length + 1 ≤ 1099511627776 := by omega
      clear hPr hSt hbr hx hwx hb5
      go_wp2_with fail
      refine hPick.out.mono ?_; rintro e w4 ⟨kind, rfl, hkd, hb4⟩
      have hPr4 := Lib.hid (hPrh.out.below hb4)
      have hbw4 := Lib.hid (hbrh.out.trans (hb4.mono hbrh.out.size))
      have p2 := (hbw4.out.cell (p := ⟨b, o + k * 3 + 1, none⟩) hbs).trans p2'
      have p3 := (hbw4.out.cell (p := ⟨b, o + k * 3 + 2, none⟩) hbs).trans p3'
      clear hPick hPrh hbrh hb4 p1
      have hcase : kind = 0 ∨ kind = 1 ∨ kind = 2 ∨ kind = 3 ∨ kind = 4 := by omega
      clear hkd
      rcases hcase with rfl | rfl | rfl | rfl | rfl
      · obtain ⟨S1, hS1⟩ : ∃ q, pushS S (x2, x3) = q := ⟨_, rfl⟩
        obtain ⟨q, hq⟩ : ∃ q, pushE S (x2, x3) = q := ⟨_, rfl⟩
        have hHP : Hid (∀ W, Pr W w1.heap.size h hp S S → Calls Try.prog 31 #[.pointer (some ⟨h, 0, none⟩), .agg #[.int .i64 x2, .int .i64 x3]] W fun e w' => e = .returned (.int .i64 q) ∧ Pr w' w1.heap.size h hp S1 S ∧ Below w1.heap.size W w') := fun W HW => by
          rw [← hS1, ← hq]; exact hPush_step HW (x2, x3) hw3 hSl
        have hRP : Hid (∀ W, Pr W w1.heap.size h hp S1 S → Calls Try.prog 39 #[.pointer (some ⟨hp, 0, none⟩), .agg #[.int .i64 x2, .int .i64 x3]] W fun e w' => e = .returned (.int .i64 q) ∧ Pr w' w1.heap.size h hp S1 S1 ∧ Below w1.heap.size W w') := fun W HW => by
          have := rPush_step HW hSth.out (x2, x3) hSl
          rw [hS1, hq] at this; exact this
        have hSt1 : Hid (St S1) := by rw [← hS1]; exact pushS_st hSth.out _
        have hS1k : S1.length ≤ k + 1 := by rw [← hS1]; have := pushS_len S (x2, x3); omega
        have hS1l : S1.length ≤ 1099511627776 := by omega
        have hqq : (q == q) = true := by simp
        clear hS1 hq hSth
        go_wp2_with fail
        go_upto_region 16 with fail
        refine wp_region_ghost (fun fl x w => Below w1.heap.size w4 w ∧ (fl 6 = false → Pr w w1.heap.size h hp S S) ∧ (fl 13 = true → fl 6 = true) ∧ (fl 6 = true → fl 13 = false → Pr w w1.heap.size h hp S1 S) ∧ (fl 13 = true → Pr w w1.heap.size h hp S1 S1)) (by kernel_rfl) (by kernel_rfl) (by kernel_rfl) (by kernel_rfl) (by kernel_rfl) ?_ ?_
        · intro x0
          exact ⟨⟨rfl, rfl, rfl, Nat.le_refl _, fun _ _ => rfl⟩, fun _ => hPr4.out.below (below_dr w4), (fun h => by cases h), (fun h => by cases h), fun h => by cases h⟩
        intro base O hbase hO
        have kx0 : Hid (∀ xs, evX base O xs (.tmp 0) = .slice (some ⟨b, o, none⟩) n c) := fun xs => by rw [hbase, hO]; rfl
        have kx3 : Hid (∀ xs, evX base O xs (.tmp 3) = .pointer (some ⟨h, 0, none⟩)) := fun xs => by rw [hbase, hO]; rfl
        have kx4 : Hid (∀ xs, evX base O xs (.tmp 4) = .pointer (some ⟨hp, 0, none⟩)) := fun xs => by rw [hbase, hO]; rfl
        have kx5 : Hid (∀ xs, evX base O xs (.tmp 5) = .int .i64 (k : Int)) := fun xs => by rw [hbase, hO]; rfl
        have kx59 : Hid (∀ xs, evX base O xs (.tmp 59) = xs 0) := fun xs => by rw [hO]; rfl
        have kx60 : Hid (∀ xs, evX base O xs (.tmp 60) = xs 1) := fun xs => by rw [hO]; rfl
        have kx61 : Hid (∀ xs, evX base O xs (.tmp 61) = xs 2) := fun xs => by rw [hO]; rfl
        have kx62 : Hid (∀ xs, evX base O xs (.tmp 62) = xs 3) := fun xs => by rw [hO]; rfl
        have kx63 : Hid (∀ xs, evX base O xs (.tmp 63) = xs 4) := fun xs => by rw [hO]; rfl
        have kx64 : Hid (∀ xs, evX base O xs (.tmp 64) = xs 5) := fun xs => by rw [hO]; rfl
        have kx65 : Hid (∀ xs, evX base O xs (.tmp 65) = xs 6) := fun xs => by rw [hO]; rfl
        have kx66 : Hid (∀ xs, evX base O xs (.tmp 66) = xs 7) := fun xs => by rw [hO]; rfl
        have kx67 : Hid (∀ xs, evX base O xs (.tmp 67) = xs 8) := fun xs => by rw [hO]; rfl
        have kx68 : Hid (∀ xs, evX base O xs (.tmp 68) = xs 9) := fun xs => by rw [hO]; rfl
        have kx69 : Hid (∀ xs, evX base O xs (.tmp 69) = xs 10) := fun xs => by rw [hO]; rfl
        have kx70 : Hid (∀ xs, evX base O xs (.tmp 70) = xs 11) := fun xs => by rw [hO]; rfl
        have kx71 : Hid (∀ xs, evX base O xs (.tmp 71) = xs 12) := fun xs => by rw [hO]; rfl
        have kx72 : Hid (∀ xs, evX base O xs (.tmp 72) = xs 13) := fun xs => by rw [hO]; rfl
        have kx73 : Hid (∀ xs, evX base O xs (.tmp 73) = xs 14) := fun xs => by rw [hO]; rfl
        clear hbase hO
        apply gh_det (n := 0)
        · intro fl xs w ev hG hD hl hdone hev K hK
          have e3 := (hev (.tmp 3)).trans (kx3.out xs)
          rw [if_pos (wantedX_none rfl)]
          have ef : ∀ f, ev (.func f) = .func (.func f) #[] #[] := fun f => (hev _).trans rfl
          clear hev hD
          go_simp
          exact hK _ _ rfl hG
        apply gh_det (n := 1)
        · intro fl xs w ev hG hD hl hdone hev K hK
          have e0 := (hev (.tmp 0)).trans (kx0.out xs)
          rw [if_pos (wantedX_none rfl)]
          have ef : ∀ f, ev (.func f) = .func (.func f) #[] #[] := fun f => (hev _).trans rfl
          clear hev hD
          go_simp
          exact hK _ _ rfl hG
        apply gh_det (n := 2)
        · intro fl xs w ev hG hD hl hdone hev K hK
          have e5 := (hev (.tmp 5)).trans (kx5.out xs)
          rw [if_pos (wantedX_none rfl)]
          have ef : ∀ f, ev (.func f) = .func (.func f) #[] #[] := fun f => (hev _).trans rfl
          clear hev hD
          go_simp
          exact hK _ _ rfl hG
        apply gh_det (n := 3)
        · intro fl xs w ev hG hD hl hdone hev K hK
          have e60 := (hev (.tmp 60)).trans (kx60.out xs)
          have d1 := hD.at_ 1 rfl rfl
          replace e60 := e60.trans d1
          have e61 := (hev (.tmp 61)).trans (kx61.out xs)
          have d2 := hD.at_ 2 rfl rfl
          replace e61 := e61.trans d2
          rw [if_pos (wantedX_none rfl)]
          have ef : ∀ f, ev (.func f) = .func (.func f) #[] #[] := fun f => (hev _).trans rfl
          clear hev hD
          go_simp
          exact hK _ _ rfl hG
        apply gh_det (n := 4)
        · intro fl xs w ev hG hD hl hdone hev K hK
          have e62 := (hev (.tmp 62)).trans (kx62.out xs)
          have d3 := hD.at_ 3 rfl rfl
          replace e62 := e62.trans d3
          rw [if_pos (wantedX_none rfl)]
          have ef : ∀ f, ev (.func f) = .func (.func f) #[] #[] := fun f => (hev _).trans rfl
          clear hev hD
          go_simp
          exact hK _ _ rfl hG
        apply gh_det (n := 5)
        · intro fl xs w ev hG hD hl hdone hev K hK
          have e63 := (hev (.tmp 63)).trans (kx63.out xs)
          have d4 := hD.at_ 4 rfl rfl
          replace e63 := e63.trans d4
          rw [if_pos (wantedX_none rfl)]
          have ef : ∀ f, ev (.func f) = .func (.func f) #[] #[] := fun f => (hev _).trans rfl
          clear hev hD
          have mm1 := (hG.1.cell (p := ⟨b, o + k * 3 + 1, none⟩) hbs).trans p2
          have mm2 := (hG.1.cell (p := ⟨b, o + k * 3 + 2, none⟩) hbs).trans p3
          have mm3 := (hG.1.cell (p := ⟨b, o + k * 3 + 1 + 1, none⟩) hbs).trans p3
          go_simp
          exact hK _ _ rfl hG
        apply gh_det (n := 6)
        · intro fl xs w ev hG hD hl hdone hev K hK
          have e59 := (hev (.tmp 59)).trans (kx59.out xs)
          have d0 := hD.at_ 0 rfl rfl
          replace e59 := e59.trans d0
          have e64 := (hev (.tmp 64)).trans (kx64.out xs)
          have d5 := hD.at_ 5 rfl rfl
          replace e64 := e64.trans d5
          rw [if_pos (wantedX_none rfl)]
          have ef : ∀ f, ev (.func f) = .func (.func f) #[] #[] := fun f => (hev _).trans rfl
          clear hev hD
          go_simp
          refine (hHP.out _ (hG.2.1 hl)).mono ?_; rintro e w' ⟨rfl, hP, hb⟩
          exact ⟨_, rfl, hK _ _ rfl ⟨hG.1.trans hb, (fun h => by cases h), fun _ => rfl, fun _ _ => hP, fun h => absurd (hG.2.2.1 h) (by rw [hl]; decide)⟩⟩
        apply gh_det (n := 7)
        · intro fl xs w ev hG hD hl hdone hev K hK
          have e4 := (hev (.tmp 4)).trans (kx4.out xs)
          rw [if_pos (wantedX_none rfl)]
          have ef : ∀ f, ev (.func f) = .func (.func f) #[] #[] := fun f => (hev _).trans rfl
          clear hev hD
          go_simp
          exact hK _ _ rfl hG
        apply gh_det (n := 8)
        · intro fl xs w ev hG hD hl hdone hev K hK
          have e0 := (hev (.tmp 0)).trans (kx0.out xs)
          rw [if_pos (wantedX_none rfl)]
          have ef : ∀ f, ev (.func f) = .func (.func f) #[] #[] := fun f => (hev _).trans rfl
          clear hev hD
          go_simp
          exact hK _ _ rfl hG
        apply gh_det (n := 9)
        · intro fl xs w ev hG hD hl hdone hev K hK
          have e5 := (hev (.tmp 5)).trans (kx5.out xs)
          rw [if_pos (wantedX_none rfl)]
          have ef : ∀ f, ev (.func f) = .func (.func f) #[] #[] := fun f => (hev _).trans rfl
          clear hev hD
          go_simp
          exact hK _ _ rfl hG
        apply gh_det (n := 10)
        · intro fl xs w ev hG hD hl hdone hev K hK
          have e67 := (hev (.tmp 67)).trans (kx67.out xs)
          have d8 := hD.at_ 8 rfl rfl
          replace e67 := e67.trans d8
          have e68 := (hev (.tmp 68)).trans (kx68.out xs)
          have d9 := hD.at_ 9 rfl rfl
          replace e68 := e68.trans d9
          rw [if_pos (wantedX_none rfl)]
          have ef : ∀ f, ev (.func f) = .func (.func f) #[] #[] := fun f => (hev _).trans rfl
          clear hev hD
          go_simp
          exact hK _ _ rfl hG
        apply gh_det (n := 11)
        · intro fl xs w ev hG hD hl hdone hev K hK
          have e69 := (hev (.tmp 69)).trans (kx69.out xs)
          have d10 := hD.at_ 10 rfl rfl
          replace e69 := e69.trans d10
          rw [if_pos (wantedX_none rfl)]
          have ef : ∀ f, ev (.func f) = .func (.func f) #[] #[] := fun f => (hev _).trans rfl
          clear hev hD
          go_simp
          exact hK _ _ rfl hG
        apply gh_det (n := 12)
        · intro fl xs w ev hG hD hl hdone hev K hK
          have e70 := (hev (.tmp 70)).trans (kx70.out xs)
          have d11 := hD.at_ 11 rfl rfl
          replace e70 := e70.trans d11
          rw [if_pos (wantedX_none rfl)]
          have ef : ∀ f, ev (.func f) = .func (.func f) #[] #[] := fun f => (hev _).trans rfl
          clear hev hD
          have mm1 := (hG.1.cell (p := ⟨b, o + k * 3 + 1, none⟩) hbs).trans p2
          have mm2 := (hG.1.cell (p := ⟨b, o + k * 3 + 2, none⟩) hbs).trans p3
          have mm3 := (hG.1.cell (p := ⟨b, o + k * 3 + 1 + 1, none⟩) hbs).trans p3
          go_simp
          exact hK _ _ rfl hG
        apply gh_det (n := 13)
        · intro fl xs w ev hG hD hl hdone hev K hK
          have e66 := (hev (.tmp 66)).trans (kx66.out xs)
          have d7 := hD.at_ 7 rfl rfl
          replace e66 := e66.trans d7
          have e71 := (hev (.tmp 71)).trans (kx71.out xs)
          have d12 := hD.at_ 12 rfl rfl
          replace e71 := e71.trans d12
          rw [if_pos (wantedX_none rfl)]
          have ef : ∀ f, ev (.func f) = .func (.func f) #[] #[] := fun f => (hev _).trans rfl
          clear hev hD
          go_simp
          refine (hRP.out _ (hG.2.2.2.1 (done_of hdone 6 rfl) hl)).mono ?_; rintro e w' ⟨rfl, hP, hb⟩
          exact ⟨_, rfl, hK _ _ rfl ⟨hG.1.trans hb, (fun h => absurd (done_of hdone 6 rfl) (by rw [show fl 6 = false from h]; decide)), fun _ => done_of hdone 6 rfl, (fun _ h => by cases h), fun _ => hP⟩⟩
        apply gh_det (n := 14)
        · intro fl xs w ev hG hD hl hdone hev K hK
          have e65 := (hev (.tmp 65)).trans (kx65.out xs)
          have d6 := hD.at_ 6 rfl rfl
          replace e65 := e65.trans d6
          have e72 := (hev (.tmp 72)).trans (kx72.out xs)
          have d13 := hD.at_ 13 rfl rfl
          replace e72 := e72.trans d13
          rw [if_pos (wantedX_none rfl)]
          have ef : ∀ f, ev (.func f) = .func (.func f) #[] #[] := fun f => (hev _).trans rfl
          clear hev hD
          go_simp
          exact hK _ _ rfl hG
        apply gh_det (n := 15)
        · intro fl xs w ev hG hD hl hdone hev K hK
          have e73 := (hev (.tmp 73)).trans (kx73.out xs)
          have d14 := hD.at_ 14 rfl rfl
          replace e73 := e73.trans d14
          rw [if_pos (wantedX_none rfl)]
          have ef : ∀ f, ev (.func f) = .func (.func f) #[] #[] := fun f => (hev _).trans rfl
          clear hev hD
          go_simp
          exact hK _ _ rfl hG
        clear kx0 kx3 kx4 kx5 kx59 kx60 kx61 kx62 kx63 kx64 kx65 kx66 kx67 kx68 kx69 kx70 kx71 kx72 kx73
        intro xs w9 hG hI
        have hz := hI 15 _ rfl
        obtain ⟨hb9, _, _, _, hP9⟩ := hG
        have hPz := Lib.hid (hP9 rfl)
        clear hI hP9
        simp only [List.append_eq, List.cons_append, List.nil_append, setAll, List.setIfInBounds_toArray, List.set_cons_zero, List.set_cons_succ]
        rw [hz]
        clear hz
        have hbz := Lib.hid (hbw4.out.trans hb9)
        clear hb9
        go_wp2_with fail
        go_upto_region 25 with fail
        have hPz' := Lib.hid hPz.out
        obtain ⟨wz, hwz⟩ : ∃ q, w9 = q := ⟨_, rfl⟩
        rw [hwz] at hPz hPz' hbz ⊢
        clear hwz
        obtain ⟨X, hQ0, hR0, _, _⟩ := hPz.out
        obtain ⟨A5, c5, hh5, r50, _⟩ := hR0
        have hQ := Lib.hid hQ0
        have r5 := Lib.hid r50
        have c0 := cell_of_one hh5
        have zhp := (Array.getElem?_eq_some_iff.1 hh5).1
        have hAll : Hid (∀ W, Below wz.heap.size wz W → Calls Try.prog 34 #[.pointer (some ⟨h, 0, none⟩)] W fun e w' => RetAll W S1 e w') := fun W hW => by
          have := All_any (hQ.out.below hW)
          rw [hSt1.out.same] at this
          exact this
        have hSS : ((S1.length : Int) != (S1.length : Int)) = false := by simp
        clear hQ0 r50 hh5 hPz
        refine wp_region_ghost (fun fl x w => Below wz.heap.size wz w ∧ (fl 14 = true → ∃ A7 c7, x 14 = .slice A7 S1.length c7 ∧ Rd w 2 pairE A7 S1.length S1)) (by kernel_rfl) (by kernel_rfl) (by kernel_rfl) (by kernel_rfl) (by kernel_rfl) ?_ ?_
        · intro x0
          exact ⟨⟨rfl, rfl, rfl, Nat.le_refl _, fun _ _ => rfl⟩, fun h => by cases h⟩
        intro base O hbase hO
        have kx3 : Hid (∀ xs, evX base O xs (.tmp 3) = .pointer (some ⟨h, 0, none⟩)) := fun xs => by rw [hbase, hO]; rfl
        have kx4 : Hid (∀ xs, evX base O xs (.tmp 4) = .pointer (some ⟨hp, 0, none⟩)) := fun xs => by rw [hbase, hO]; rfl
        have kx6 : Hid (∀ xs, evX base O xs (.tmp 6) = .bool true) := fun xs => by rw [hbase, hO]; rfl
        have kx138 : Hid (∀ xs, evX base O xs (.tmp 138) = xs 0) := fun xs => by rw [hO]; rfl
        have kx139 : Hid (∀ xs, evX base O xs (.tmp 139) = xs 1) := fun xs => by rw [hO]; rfl
        have kx140 : Hid (∀ xs, evX base O xs (.tmp 140) = xs 2) := fun xs => by rw [hO]; rfl
        have kx141 : Hid (∀ xs, evX base O xs (.tmp 141) = xs 3) := fun xs => by rw [hO]; rfl
        have kx142 : Hid (∀ xs, evX base O xs (.tmp 142) = xs 4) := fun xs => by rw [hO]; rfl
        have kx143 : Hid (∀ xs, evX base O xs (.tmp 143) = xs 5) := fun xs => by rw [hO]; rfl
        have kx144 : Hid (∀ xs, evX base O xs (.tmp 144) = xs 6) := fun xs => by rw [hO]; rfl
        have kx145 : Hid (∀ xs, evX base O xs (.tmp 145) = xs 7) := fun xs => by rw [hO]; rfl
        have kx146 : Hid (∀ xs, evX base O xs (.tmp 146) = xs 8) := fun xs => by rw [hO]; rfl
        have kx147 : Hid (∀ xs, evX base O xs (.tmp 147) = xs 9) := fun xs => by rw [hO]; rfl
        have kx148 : Hid (∀ xs, evX base O xs (.tmp 148) = xs 10) := fun xs => by rw [hO]; rfl
        have kx149 : Hid (∀ xs, evX base O xs (.tmp 149) = xs 11) := fun xs => by rw [hO]; rfl
        have kx150 : Hid (∀ xs, evX base O xs (.tmp 150) = xs 12) := fun xs => by rw [hO]; rfl
        have kx151 : Hid (∀ xs, evX base O xs (.tmp 151) = xs 13) := fun xs => by rw [hO]; rfl
        have kx152 : Hid (∀ xs, evX base O xs (.tmp 152) = xs 14) := fun xs => by rw [hO]; rfl
        have kx153 : Hid (∀ xs, evX base O xs (.tmp 153) = xs 15) := fun xs => by rw [hO]; rfl
        have kx154 : Hid (∀ xs, evX base O xs (.tmp 154) = xs 16) := fun xs => by rw [hO]; rfl
        have kx155 : Hid (∀ xs, evX base O xs (.tmp 155) = xs 17) := fun xs => by rw [hO]; rfl
        have kx156 : Hid (∀ xs, evX base O xs (.tmp 156) = xs 18) := fun xs => by rw [hO]; rfl
        have kx157 : Hid (∀ xs, evX base O xs (.tmp 157) = xs 19) := fun xs => by rw [hO]; rfl
        have kx158 : Hid (∀ xs, evX base O xs (.tmp 158) = xs 20) := fun xs => by rw [hO]; rfl
        clear hbase hO
        apply gh_det (n := 0)
        · intro fl xs w ev hG hD hl hdone hev K hK
          have e6 := (hev (.tmp 6)).trans (kx6.out xs)
          rw [if_pos (wantedX_none rfl)]
          have ef : ∀ f, ev (.func f) = .func (.func f) #[] #[] := fun f => (hev _).trans rfl
          clear hev hD
          go_simp
          exact hK _ _ rfl hG
        apply gh_det (n := 1)
        · intro fl xs w ev hG hD hl hdone hev K hK
          have e138 := (hev (.tmp 138)).trans (kx138.out xs)
          have d0 := hD.at_ 0 rfl rfl
          replace e138 := e138.trans d0
          rw [if_pos (wantedX_none rfl)]
          have ef : ∀ f, ev (.func f) = .func (.func f) #[] #[] := fun f => (hev _).trans rfl
          clear hev hD
          go_simp
          exact hK _ _ rfl hG
        apply gh_det (n := 2)
        · intro fl xs w ev hG hD hl hdone hev K hK
          have e139 := (hev (.tmp 139)).trans (kx139.out xs)
          have d1 := hD.at_ 1 rfl rfl
          replace e139 := e139.trans d1
          rw [if_pos (wantedX_none rfl)]
          have ef : ∀ f, ev (.func f) = .func (.func f) #[] #[] := fun f => (hev _).trans rfl
          clear hev hD
          go_simp
          exact hK _ _ rfl hG
        apply gh_det (n := 3)
        · intro fl xs w ev hG hD hl hdone hev K hK
          have e3 := (hev (.tmp 3)).trans (kx3.out xs)
          have dg := hD.at_ 2 rfl rfl
          rw [if_pos (wantedX_yes 2 false rfl dg)]
          have ef : ∀ f, ev (.func f) = .func (.func f) #[] #[] := fun f => (hev _).trans rfl
          clear hev hD
          go_simp
          exact hK _ _ rfl hG
        apply gh_det (n := 4)
        · intro fl xs w ev hG hD hl hdone hev K hK
          have e141 := (hev (.tmp 141)).trans (kx141.out xs)
          have d3 := hD.at_ 3 rfl rfl
          replace e141 := e141.trans d3
          have dg := hD.at_ 2 rfl rfl
          rw [if_pos (wantedX_yes 2 false rfl dg)]
          have ef : ∀ f, ev (.func f) = .func (.func f) #[] #[] := fun f => (hev _).trans rfl
          clear hev hD
          go_simp
          refine (Len_any (hQ.out.below hG.1)).mono ?_; rintro e w' ⟨rfl, hw'⟩
          subst hw'
          exact ⟨_, rfl, hK _ _ rfl hG⟩
        apply gh_det (n := 5)
        · intro fl xs w ev hG hD hl hdone hev K hK
          have e4 := (hev (.tmp 4)).trans (kx4.out xs)
          have dg := hD.at_ 2 rfl rfl
          rw [if_pos (wantedX_yes 2 false rfl dg)]
          have ef : ∀ f, ev (.func f) = .func (.func f) #[] #[] := fun f => (hev _).trans rfl
          clear hev hD
          go_simp
          exact hK _ _ rfl hG
        apply gh_det (n := 6)
        · intro fl xs w ev hG hD hl hdone hev K hK
          have e143 := (hev (.tmp 143)).trans (kx143.out xs)
          have d5 := hD.at_ 5 rfl rfl
          replace e143 := e143.trans d5
          have dg := hD.at_ 2 rfl rfl
          rw [if_pos (wantedX_yes 2 false rfl dg)]
          have ef : ∀ f, ev (.func f) = .func (.func f) #[] #[] := fun f => (hev _).trans rfl
          clear hev hD
          go_simp
          exact hK _ _ rfl hG
        apply gh_det (n := 7)
        · intro fl xs w ev hG hD hl hdone hev K hK
          have e144 := (hev (.tmp 144)).trans (kx144.out xs)
          have d6 := hD.at_ 6 rfl rfl
          replace e144 := e144.trans d6
          have dg := hD.at_ 2 rfl rfl
          rw [if_pos (wantedX_yes 2 false rfl dg)]
          have ef : ∀ f, ev (.func f) = .func (.func f) #[] #[] := fun f => (hev _).trans rfl
          clear hev hD
          go_simp
          exact hK _ _ rfl hG
        apply gh_det (n := 8)
        · intro fl xs w ev hG hD hl hdone hev K hK
          have e145 := (hev (.tmp 145)).trans (kx145.out xs)
          have d7 := hD.at_ 7 rfl rfl
          replace e145 := e145.trans d7
          have dg := hD.at_ 2 rfl rfl
          rw [if_pos (wantedX_yes 2 false rfl dg)]
          have ef : ∀ f, ev (.func f) = .func (.func f) #[] #[] := fun f => (hev _).trans rfl
          clear hev hD
          have m0 := (hG.1.cell (p := ⟨hp, 0, none⟩) zhp).trans c0
          go_simp
          exact hK _ _ rfl hG
        apply gh_det (n := 9)
        · intro fl xs w ev hG hD hl hdone hev K hK
          have e146 := (hev (.tmp 146)).trans (kx146.out xs)
          have d8 := hD.at_ 8 rfl rfl
          replace e146 := e146.trans d8
          have dg := hD.at_ 2 rfl rfl
          rw [if_pos (wantedX_yes 2 false rfl dg)]
          have ef : ∀ f, ev (.func f) = .func (.func f) #[] #[] := fun f => (hev _).trans rfl
          clear hev hD
          go_simp
          exact hK _ _ rfl hG
        apply gh_det (n := 10)
        · intro fl xs w ev hG hD hl hdone hev K hK
          have e142 := (hev (.tmp 142)).trans (kx142.out xs)
          have d4 := hD.at_ 4 rfl rfl
          replace e142 := e142.trans d4
          have e147 := (hev (.tmp 147)).trans (kx147.out xs)
          have d9 := hD.at_ 9 rfl rfl
          replace e147 := e147.trans d9
          have dg := hD.at_ 2 rfl rfl
          rw [if_pos (wantedX_yes 2 false rfl dg)]
          have ef : ∀ f, ev (.func f) = .func (.func f) #[] #[] := fun f => (hev _).trans rfl
          clear hev hD
          go_simp
          exact hK _ _ rfl hG
        apply gh_det (n := 11)
        · intro fl xs w ev hG hD hl hdone hev K hK
          have e140 := (hev (.tmp 140)).trans (kx140.out xs)
          have d2 := hD.at_ 2 rfl rfl
          replace e140 := e140.trans d2
          have e148 := (hev (.tmp 148)).trans (kx148.out xs)
          have d10 := hD.at_ 10 rfl rfl
          replace e148 := e148.trans d10
          rw [if_pos (wantedX_none rfl)]
          have ef : ∀ f, ev (.func f) = .func (.func f) #[] #[] := fun f => (hev _).trans rfl
          have ec : ∀ v, ev (.const v) = v := fun v => (hev _).trans rfl
          clear hev hD
          go_simp
          exact hK _ _ rfl hG
        apply gh_det (n := 12)
        · intro fl xs w ev hG hD hl hdone hev K hK
          have e149 := (hev (.tmp 149)).trans (kx149.out xs)
          have d11 := hD.at_ 11 rfl rfl
          replace e149 := e149.trans d11
          rw [if_pos (wantedX_none rfl)]
          have ef : ∀ f, ev (.func f) = .func (.func f) #[] #[] := fun f => (hev _).trans rfl
          clear hev hD
          go_simp
          exact hK _ _ rfl hG
        apply gh_det (n := 13)
        · intro fl xs w ev hG hD hl hdone hev K hK
          have e3 := (hev (.tmp 3)).trans (kx3.out xs)
          have dg := hD.at_ 12 rfl rfl
          rw [if_pos (wantedX_yes 12 false rfl dg)]
          have ef : ∀ f, ev (.func f) = .func (.func f) #[] #[] := fun f => (hev _).trans rfl
          clear hev hD
          go_simp
          exact hK _ _ rfl hG
        refine gh_any (n := 14) (fun _ => True) ?_ ?_
        · intro fl xs w ev hG hD hl hdone hev K hK
          have e151 := (hev (.tmp 151)).trans (kx151.out xs)
          have d13 := hD.at_ 13 rfl rfl
          replace e151 := e151.trans d13
          have dg := hD.at_ 12 rfl rfl
          rw [if_pos (wantedX_yes 12 false rfl dg)]
          have ef : ∀ f, ev (.func f) = .func (.func f) #[] #[] := fun f => (hev _).trans rfl
          clear hev hD
          go_simp
          refine (hAll.out _ hG.1).mono ?_; rintro e w' ⟨A7, c7, rfl, r7, _, _, hb7⟩
          exact ⟨_, rfl, hK _ _ trivial ⟨hG.1.trans (hb7.mono hG.1.size), fun _ => ⟨A7, c7, rfl, r7⟩⟩⟩
        apply gh_det (n := 15)
        · intro fl xs w ev hG hD hl hdone hev K hK
          have e4 := (hev (.tmp 4)).trans (kx4.out xs)
          have dg := hD.at_ 12 rfl rfl
          rw [if_pos (wantedX_yes 12 false rfl dg)]
          have ef : ∀ f, ev (.func f) = .func (.func f) #[] #[] := fun f => (hev _).trans rfl
          clear hev hD
          go_simp
          exact hK _ _ rfl hG
        apply gh_det (n := 16)
        · intro fl xs w ev hG hD hl hdone hev K hK
          have e153 := (hev (.tmp 153)).trans (kx153.out xs)
          have d15 := hD.at_ 15 rfl rfl
          replace e153 := e153.trans d15
          have dg := hD.at_ 12 rfl rfl
          rw [if_pos (wantedX_yes 12 false rfl dg)]
          have ef : ∀ f, ev (.func f) = .func (.func f) #[] #[] := fun f => (hev _).trans rfl
          clear hev hD
          go_simp
          exact hK _ _ rfl hG
        apply gh_det (n := 17)
        · intro fl xs w ev hG hD hl hdone hev K hK
          have e154 := (hev (.tmp 154)).trans (kx154.out xs)
          have d16 := hD.at_ 16 rfl rfl
          replace e154 := e154.trans d16
          have dg := hD.at_ 12 rfl rfl
          rw [if_pos (wantedX_yes 12 false rfl dg)]
          have ef : ∀ f, ev (.func f) = .func (.func f) #[] #[] := fun f => (hev _).trans rfl
          clear hev hD
          go_simp
          exact hK _ _ rfl hG
        apply gh_det (n := 18)
        · intro fl xs w ev hG hD hl hdone hev K hK
          have e155 := (hev (.tmp 155)).trans (kx155.out xs)
          have d17 := hD.at_ 17 rfl rfl
          replace e155 := e155.trans d17
          have dg := hD.at_ 12 rfl rfl
          rw [if_pos (wantedX_yes 12 false rfl dg)]
          have ef : ∀ f, ev (.func f) = .func (.func f) #[] #[] := fun f => (hev _).trans rfl
          clear hev hD
          have m0 := (hG.1.cell (p := ⟨hp, 0, none⟩) zhp).trans c0
          go_simp
          exact hK _ _ rfl hG
        apply gh_det (n := 19)
        · intro fl xs w ev hG hD hl hdone hev K hK
          have e152 := (hev (.tmp 152)).trans (kx152.out xs)
          have e156 := (hev (.tmp 156)).trans (kx156.out xs)
          have d18 := hD.at_ 18 rfl rfl
          replace e156 := e156.trans d18
          have dg := hD.at_ 12 rfl rfl
          rw [if_pos (wantedX_yes 12 false rfl dg)]
          have ef : ∀ f, ev (.func f) = .func (.func f) #[] #[] := fun f => (hev _).trans rfl
          clear hev hD
          obtain ⟨A7, c7, e7, r7⟩ := hG.2 (done_of hdone 14 rfl)
          have hSm := sameI_any A7 S1.length c7 S1 A5 S1.length c5 S1 w r7 (r5.out.below hG.1) hS1l hS1l
          rw [decide_eq_true rfl] at hSm
          have hSmh := Lib.hid hSm
          rw [e7] at e152
          clear hSm r7 e7
          go_simp
          refine hSmh.out.mono ?_; rintro e w' ⟨rfl, hb7⟩
          exact ⟨_, rfl, hK _ _ rfl ⟨hG.1.trans (hb7.mono hG.1.size), fun h => by obtain ⟨A8, c8, e8, r8⟩ := hG.2 h; exact ⟨A8, c8, e8, r8.below hb7⟩⟩⟩
        apply gh_det (n := 20)
        · intro fl xs w ev hG hD hl hdone hev K hK
          have e157 := (hev (.tmp 157)).trans (kx157.out xs)
          have d19 := hD.at_ 19 rfl rfl
          replace e157 := e157.trans d19
          have dg := hD.at_ 12 rfl rfl
          rw [if_pos (wantedX_yes 12 false rfl dg)]
          have ef : ∀ f, ev (.func f) = .func (.func f) #[] #[] := fun f => (hev _).trans rfl
          clear hev hD
          go_simp
          exact hK _ _ rfl hG
        apply gh_det (n := 21)
        · intro fl xs w ev hG hD hl hdone hev K hK
          have e150 := (hev (.tmp 150)).trans (kx150.out xs)
          have d12 := hD.at_ 12 rfl rfl
          replace e150 := e150.trans d12
          have e158 := (hev (.tmp 158)).trans (kx158.out xs)
          have d20 := hD.at_ 20 rfl rfl
          replace e158 := e158.trans d20
          rw [if_pos (wantedX_none rfl)]
          have ef : ∀ f, ev (.func f) = .func (.func f) #[] #[] := fun f => (hev _).trans rfl
          have ec : ∀ v, ev (.const v) = v := fun v => (hev _).trans rfl
          clear hev hD
          go_simp
          exact hK _ _ rfl hG
        clear kx3 kx4 kx6 kx138 kx139 kx140 kx141 kx142 kx143 kx144 kx145 kx146 kx147 kx148 kx149 kx150 kx151 kx152 kx153 kx154 kx155 kx156 kx157 kx158
        intro xs w10 hG hI
        have hz := hI 21 _ rfl
        obtain ⟨hb9, _⟩ := hG
        have hfin : Hid (Pr w10 w1.heap.size h hp S1 S1 ∧ St S1 ∧ S1.length ≤ k + 1 ∧ Below w1.heap.size w1 w10) := ⟨hPz'.out.below hb9, hSt1.out, hS1k, hbz.out.trans (hb9.mono hbz.out.size)⟩
        clear hI hb9
        simp only [List.append_eq, List.cons_append, List.nil_append, setAll, List.setIfInBounds_toArray, List.set_cons_zero, List.set_cons_succ]
        rw [hz]
        clear hz
        go_wp2_with fail
        go_roundw
        case rel => exact ⟨k + 1, S1, by omega, by go_num, hfin.out⟩
        case measure => simp [intOf]; omega
      · obtain ⟨S1, hS1⟩ : ∃ q, pushS S (x2, x3) = q := ⟨_, rfl⟩
        obtain ⟨q, hq⟩ : ∃ q, pushE S (x2, x3) = q := ⟨_, rfl⟩
        have hHP : Hid (∀ W, Pr W w1.heap.size h hp S S → Calls Try.prog 31 #[.pointer (some ⟨h, 0, none⟩), .agg #[.int .i64 x2, .int .i64 x3]] W fun e w' => e = .returned (.int .i64 q) ∧ Pr w' w1.heap.size h hp S1 S ∧ Below w1.heap.size W w') := fun W HW => by
          rw [← hS1, ← hq]; exact hPush_step HW (x2, x3) hw3 hSl
        have hRP : Hid (∀ W, Pr W w1.heap.size h hp S1 S → Calls Try.prog 39 #[.pointer (some ⟨hp, 0, none⟩), .agg #[.int .i64 x2, .int .i64 x3]] W fun e w' => e = .returned (.int .i64 q) ∧ Pr w' w1.heap.size h hp S1 S1 ∧ Below w1.heap.size W w') := fun W HW => by
          have := rPush_step HW hSth.out (x2, x3) hSl
          rw [hS1, hq] at this; exact this
        have hSt1 : Hid (St S1) := by rw [← hS1]; exact pushS_st hSth.out _
        have hS1k : S1.length ≤ k + 1 := by rw [← hS1]; have := pushS_len S (x2, x3); omega
        have hS1l : S1.length ≤ 1099511627776 := by omega
        have hqq : (q == q) = true := by simp
        clear hS1 hq hSth
        go_wp2_with fail
        go_upto_region 16 with fail
        refine wp_region_ghost (fun fl x w => Below w1.heap.size w4 w ∧ (fl 6 = false → Pr w w1.heap.size h hp S S) ∧ (fl 13 = true → fl 6 = true) ∧ (fl 6 = true → fl 13 = false → Pr w w1.heap.size h hp S1 S) ∧ (fl 13 = true → Pr w w1.heap.size h hp S1 S1)) (by kernel_rfl) (by kernel_rfl) (by kernel_rfl) (by kernel_rfl) (by kernel_rfl) ?_ ?_
        · intro x0
          exact ⟨⟨rfl, rfl, rfl, Nat.le_refl _, fun _ _ => rfl⟩, fun _ => hPr4.out.below (below_dr w4), (fun h => by cases h), (fun h => by cases h), fun h => by cases h⟩
        intro base O hbase hO
        have kx0 : Hid (∀ xs, evX base O xs (.tmp 0) = .slice (some ⟨b, o, none⟩) n c) := fun xs => by rw [hbase, hO]; rfl
        have kx3 : Hid (∀ xs, evX base O xs (.tmp 3) = .pointer (some ⟨h, 0, none⟩)) := fun xs => by rw [hbase, hO]; rfl
        have kx4 : Hid (∀ xs, evX base O xs (.tmp 4) = .pointer (some ⟨hp, 0, none⟩)) := fun xs => by rw [hbase, hO]; rfl
        have kx5 : Hid (∀ xs, evX base O xs (.tmp 5) = .int .i64 (k : Int)) := fun xs => by rw [hbase, hO]; rfl
        have kx59 : Hid (∀ xs, evX base O xs (.tmp 59) = xs 0) := fun xs => by rw [hO]; rfl
        have kx60 : Hid (∀ xs, evX base O xs (.tmp 60) = xs 1) := fun xs => by rw [hO]; rfl
        have kx61 : Hid (∀ xs, evX base O xs (.tmp 61) = xs 2) := fun xs => by rw [hO]; rfl
        have kx62 : Hid (∀ xs, evX base O xs (.tmp 62) = xs 3) := fun xs => by rw [hO]; rfl
        have kx63 : Hid (∀ xs, evX base O xs (.tmp 63) = xs 4) := fun xs => by rw [hO]; rfl
        have kx64 : Hid (∀ xs, evX base O xs (.tmp 64) = xs 5) := fun xs => by rw [hO]; rfl
        have kx65 : Hid (∀ xs, evX base O xs (.tmp 65) = xs 6) := fun xs => by rw [hO]; rfl
        have kx66 : Hid (∀ xs, evX base O xs (.tmp 66) = xs 7) := fun xs => by rw [hO]; rfl
        have kx67 : Hid (∀ xs, evX base O xs (.tmp 67) = xs 8) := fun xs => by rw [hO]; rfl
        have kx68 : Hid (∀ xs, evX base O xs (.tmp 68) = xs 9) := fun xs => by rw [hO]; rfl
        have kx69 : Hid (∀ xs, evX base O xs (.tmp 69) = xs 10) := fun xs => by rw [hO]; rfl
        have kx70 : Hid (∀ xs, evX base O xs (.tmp 70) = xs 11) := fun xs => by rw [hO]; rfl
        have kx71 : Hid (∀ xs, evX base O xs (.tmp 71) = xs 12) := fun xs => by rw [hO]; rfl
        have kx72 : Hid (∀ xs, evX base O xs (.tmp 72) = xs 13) := fun xs => by rw [hO]; rfl
        have kx73 : Hid (∀ xs, evX base O xs (.tmp 73) = xs 14) := fun xs => by rw [hO]; rfl
        clear hbase hO
        apply gh_det (n := 0)
        · intro fl xs w ev hG hD hl hdone hev K hK
          have e3 := (hev (.tmp 3)).trans (kx3.out xs)
          rw [if_pos (wantedX_none rfl)]
          have ef : ∀ f, ev (.func f) = .func (.func f) #[] #[] := fun f => (hev _).trans rfl
          clear hev hD
          go_simp
          exact hK _ _ rfl hG
        apply gh_det (n := 1)
        · intro fl xs w ev hG hD hl hdone hev K hK
          have e0 := (hev (.tmp 0)).trans (kx0.out xs)
          rw [if_pos (wantedX_none rfl)]
          have ef : ∀ f, ev (.func f) = .func (.func f) #[] #[] := fun f => (hev _).trans rfl
          clear hev hD
          go_simp
          exact hK _ _ rfl hG
        apply gh_det (n := 2)
        · intro fl xs w ev hG hD hl hdone hev K hK
          have e5 := (hev (.tmp 5)).trans (kx5.out xs)
          rw [if_pos (wantedX_none rfl)]
          have ef : ∀ f, ev (.func f) = .func (.func f) #[] #[] := fun f => (hev _).trans rfl
          clear hev hD
          go_simp
          exact hK _ _ rfl hG
        apply gh_det (n := 3)
        · intro fl xs w ev hG hD hl hdone hev K hK
          have e60 := (hev (.tmp 60)).trans (kx60.out xs)
          have d1 := hD.at_ 1 rfl rfl
          replace e60 := e60.trans d1
          have e61 := (hev (.tmp 61)).trans (kx61.out xs)
          have d2 := hD.at_ 2 rfl rfl
          replace e61 := e61.trans d2
          rw [if_pos (wantedX_none rfl)]
          have ef : ∀ f, ev (.func f) = .func (.func f) #[] #[] := fun f => (hev _).trans rfl
          clear hev hD
          go_simp
          exact hK _ _ rfl hG
        apply gh_det (n := 4)
        · intro fl xs w ev hG hD hl hdone hev K hK
          have e62 := (hev (.tmp 62)).trans (kx62.out xs)
          have d3 := hD.at_ 3 rfl rfl
          replace e62 := e62.trans d3
          rw [if_pos (wantedX_none rfl)]
          have ef : ∀ f, ev (.func f) = .func (.func f) #[] #[] := fun f => (hev _).trans rfl
          clear hev hD
          go_simp
          exact hK _ _ rfl hG
        apply gh_det (n := 5)
        · intro fl xs w ev hG hD hl hdone hev K hK
          have e63 := (hev (.tmp 63)).trans (kx63.out xs)
          have d4 := hD.at_ 4 rfl rfl
          replace e63 := e63.trans d4
          rw [if_pos (wantedX_none rfl)]
          have ef : ∀ f, ev (.func f) = .func (.func f) #[] #[] := fun f => (hev _).trans rfl
          clear hev hD
          have mm1 := (hG.1.cell (p := ⟨b, o + k * 3 + 1, none⟩) hbs).trans p2
          have mm2 := (hG.1.cell (p := ⟨b, o + k * 3 + 2, none⟩) hbs).trans p3
          have mm3 := (hG.1.cell (p := ⟨b, o + k * 3 + 1 + 1, none⟩) hbs).trans p3
          go_simp
          exact hK _ _ rfl hG
        apply gh_det (n := 6)
        · intro fl xs w ev hG hD hl hdone hev K hK
          have e59 := (hev (.tmp 59)).trans (kx59.out xs)
          have d0 := hD.at_ 0 rfl rfl
          replace e59 := e59.trans d0
          have e64 := (hev (.tmp 64)).trans (kx64.out xs)
          have d5 := hD.at_ 5 rfl rfl
          replace e64 := e64.trans d5
          rw [if_pos (wantedX_none rfl)]
          have ef : ∀ f, ev (.func f) = .func (.func f) #[] #[] := fun f => (hev _).trans rfl
          clear hev hD
          go_simp
          refine (hHP.out _ (hG.2.1 hl)).mono ?_; rintro e w' ⟨rfl, hP, hb⟩
          exact ⟨_, rfl, hK _ _ rfl ⟨hG.1.trans hb, (fun h => by cases h), fun _ => rfl, fun _ _ => hP, fun h => absurd (hG.2.2.1 h) (by rw [hl]; decide)⟩⟩
        apply gh_det (n := 7)
        · intro fl xs w ev hG hD hl hdone hev K hK
          have e4 := (hev (.tmp 4)).trans (kx4.out xs)
          rw [if_pos (wantedX_none rfl)]
          have ef : ∀ f, ev (.func f) = .func (.func f) #[] #[] := fun f => (hev _).trans rfl
          clear hev hD
          go_simp
          exact hK _ _ rfl hG
        apply gh_det (n := 8)
        · intro fl xs w ev hG hD hl hdone hev K hK
          have e0 := (hev (.tmp 0)).trans (kx0.out xs)
          rw [if_pos (wantedX_none rfl)]
          have ef : ∀ f, ev (.func f) = .func (.func f) #[] #[] := fun f => (hev _).trans rfl
          clear hev hD
          go_simp
          exact hK _ _ rfl hG
        apply gh_det (n := 9)
        · intro fl xs w ev hG hD hl hdone hev K hK
          have e5 := (hev (.tmp 5)).trans (kx5.out xs)
          rw [if_pos (wantedX_none rfl)]
          have ef : ∀ f, ev (.func f) = .func (.func f) #[] #[] := fun f => (hev _).trans rfl
          clear hev hD
          go_simp
          exact hK _ _ rfl hG
        apply gh_det (n := 10)
        · intro fl xs w ev hG hD hl hdone hev K hK
          have e67 := (hev (.tmp 67)).trans (kx67.out xs)
          have d8 := hD.at_ 8 rfl rfl
          replace e67 := e67.trans d8
          have e68 := (hev (.tmp 68)).trans (kx68.out xs)
          have d9 := hD.at_ 9 rfl rfl
          replace e68 := e68.trans d9
          rw [if_pos (wantedX_none rfl)]
          have ef : ∀ f, ev (.func f) = .func (.func f) #[] #[] := fun f => (hev _).trans rfl
          clear hev hD
          go_simp
          exact hK _ _ rfl hG
        apply gh_det (n := 11)
        · intro fl xs w ev hG hD hl hdone hev K hK
          have e69 := (hev (.tmp 69)).trans (kx69.out xs)
          have d10 := hD.at_ 10 rfl rfl
          replace e69 := e69.trans d10
          rw [if_pos (wantedX_none rfl)]
          have ef : ∀ f, ev (.func f) = .func (.func f) #[] #[] := fun f => (hev _).trans rfl
          clear hev hD
          go_simp
          exact hK _ _ rfl hG
        apply gh_det (n := 12)
        · intro fl xs w ev hG hD hl hdone hev K hK
          have e70 := (hev (.tmp 70)).trans (kx70.out xs)
          have d11 := hD.at_ 11 rfl rfl
          replace e70 := e70.trans d11
          rw [if_pos (wantedX_none rfl)]
          have ef : ∀ f, ev (.func f) = .func (.func f) #[] #[] := fun f => (hev _).trans rfl
          clear hev hD
          have mm1 := (hG.1.cell (p := ⟨b, o + k * 3 + 1, none⟩) hbs).trans p2
          have mm2 := (hG.1.cell (p := ⟨b, o + k * 3 + 2, none⟩) hbs).trans p3
          have mm3 := (hG.1.cell (p := ⟨b, o + k * 3 + 1 + 1, none⟩) hbs).trans p3
          go_simp
          exact hK _ _ rfl hG
        apply gh_det (n := 13)
        · intro fl xs w ev hG hD hl hdone hev K hK
          have e66 := (hev (.tmp 66)).trans (kx66.out xs)
          have d7 := hD.at_ 7 rfl rfl
          replace e66 := e66.trans d7
          have e71 := (hev (.tmp 71)).trans (kx71.out xs)
          have d12 := hD.at_ 12 rfl rfl
          replace e71 := e71.trans d12
          rw [if_pos (wantedX_none rfl)]
          have ef : ∀ f, ev (.func f) = .func (.func f) #[] #[] := fun f => (hev _).trans rfl
          clear hev hD
          go_simp
          refine (hRP.out _ (hG.2.2.2.1 (done_of hdone 6 rfl) hl)).mono ?_; rintro e w' ⟨rfl, hP, hb⟩
          exact ⟨_, rfl, hK _ _ rfl ⟨hG.1.trans hb, (fun h => absurd (done_of hdone 6 rfl) (by rw [show fl 6 = false from h]; decide)), fun _ => done_of hdone 6 rfl, (fun _ h => by cases h), fun _ => hP⟩⟩
        apply gh_det (n := 14)
        · intro fl xs w ev hG hD hl hdone hev K hK
          have e65 := (hev (.tmp 65)).trans (kx65.out xs)
          have d6 := hD.at_ 6 rfl rfl
          replace e65 := e65.trans d6
          have e72 := (hev (.tmp 72)).trans (kx72.out xs)
          have d13 := hD.at_ 13 rfl rfl
          replace e72 := e72.trans d13
          rw [if_pos (wantedX_none rfl)]
          have ef : ∀ f, ev (.func f) = .func (.func f) #[] #[] := fun f => (hev _).trans rfl
          clear hev hD
          go_simp
          exact hK _ _ rfl hG
        apply gh_det (n := 15)
        · intro fl xs w ev hG hD hl hdone hev K hK
          have e73 := (hev (.tmp 73)).trans (kx73.out xs)
          have d14 := hD.at_ 14 rfl rfl
          replace e73 := e73.trans d14
          rw [if_pos (wantedX_none rfl)]
          have ef : ∀ f, ev (.func f) = .func (.func f) #[] #[] := fun f => (hev _).trans rfl
          clear hev hD
          go_simp
          exact hK _ _ rfl hG
        clear kx0 kx3 kx4 kx5 kx59 kx60 kx61 kx62 kx63 kx64 kx65 kx66 kx67 kx68 kx69 kx70 kx71 kx72 kx73
        intro xs w9 hG hI
        have hz := hI 15 _ rfl
        obtain ⟨hb9, _, _, _, hP9⟩ := hG
        have hPz := Lib.hid (hP9 rfl)
        clear hI hP9
        simp only [List.append_eq, List.cons_append, List.nil_append, setAll, List.setIfInBounds_toArray, List.set_cons_zero, List.set_cons_succ]
        rw [hz]
        clear hz
        have hbz := Lib.hid (hbw4.out.trans hb9)
        clear hb9
        go_wp2_with fail
        go_upto_region 25 with fail
        have hPz' := Lib.hid hPz.out
        obtain ⟨wz, hwz⟩ : ∃ q, w9 = q := ⟨_, rfl⟩
        rw [hwz] at hPz hPz' hbz ⊢
        clear hwz
        obtain ⟨X, hQ0, hR0, _, _⟩ := hPz.out
        obtain ⟨A5, c5, hh5, r50, _⟩ := hR0
        have hQ := Lib.hid hQ0
        have r5 := Lib.hid r50
        have c0 := cell_of_one hh5
        have zhp := (Array.getElem?_eq_some_iff.1 hh5).1
        have hAll : Hid (∀ W, Below wz.heap.size wz W → Calls Try.prog 34 #[.pointer (some ⟨h, 0, none⟩)] W fun e w' => RetAll W S1 e w') := fun W hW => by
          have := All_any (hQ.out.below hW)
          rw [hSt1.out.same] at this
          exact this
        have hSS : ((S1.length : Int) != (S1.length : Int)) = false := by simp
        clear hQ0 r50 hh5 hPz
        refine wp_region_ghost (fun fl x w => Below wz.heap.size wz w ∧ (fl 14 = true → ∃ A7 c7, x 14 = .slice A7 S1.length c7 ∧ Rd w 2 pairE A7 S1.length S1)) (by kernel_rfl) (by kernel_rfl) (by kernel_rfl) (by kernel_rfl) (by kernel_rfl) ?_ ?_
        · intro x0
          exact ⟨⟨rfl, rfl, rfl, Nat.le_refl _, fun _ _ => rfl⟩, fun h => by cases h⟩
        intro base O hbase hO
        have kx3 : Hid (∀ xs, evX base O xs (.tmp 3) = .pointer (some ⟨h, 0, none⟩)) := fun xs => by rw [hbase, hO]; rfl
        have kx4 : Hid (∀ xs, evX base O xs (.tmp 4) = .pointer (some ⟨hp, 0, none⟩)) := fun xs => by rw [hbase, hO]; rfl
        have kx6 : Hid (∀ xs, evX base O xs (.tmp 6) = .bool true) := fun xs => by rw [hbase, hO]; rfl
        have kx138 : Hid (∀ xs, evX base O xs (.tmp 138) = xs 0) := fun xs => by rw [hO]; rfl
        have kx139 : Hid (∀ xs, evX base O xs (.tmp 139) = xs 1) := fun xs => by rw [hO]; rfl
        have kx140 : Hid (∀ xs, evX base O xs (.tmp 140) = xs 2) := fun xs => by rw [hO]; rfl
        have kx141 : Hid (∀ xs, evX base O xs (.tmp 141) = xs 3) := fun xs => by rw [hO]; rfl
        have kx142 : Hid (∀ xs, evX base O xs (.tmp 142) = xs 4) := fun xs => by rw [hO]; rfl
        have kx143 : Hid (∀ xs, evX base O xs (.tmp 143) = xs 5) := fun xs => by rw [hO]; rfl
        have kx144 : Hid (∀ xs, evX base O xs (.tmp 144) = xs 6) := fun xs => by rw [hO]; rfl
        have kx145 : Hid (∀ xs, evX base O xs (.tmp 145) = xs 7) := fun xs => by rw [hO]; rfl
        have kx146 : Hid (∀ xs, evX base O xs (.tmp 146) = xs 8) := fun xs => by rw [hO]; rfl
        have kx147 : Hid (∀ xs, evX base O xs (.tmp 147) = xs 9) := fun xs => by rw [hO]; rfl
        have kx148 : Hid (∀ xs, evX base O xs (.tmp 148) = xs 10) := fun xs => by rw [hO]; rfl
        have kx149 : Hid (∀ xs, evX base O xs (.tmp 149) = xs 11) := fun xs => by rw [hO]; rfl
        have kx150 : Hid (∀ xs, evX base O xs (.tmp 150) = xs 12) := fun xs => by rw [hO]; rfl
        have kx151 : Hid (∀ xs, evX base O xs (.tmp 151) = xs 13) := fun xs => by rw [hO]; rfl
        have kx152 : Hid (∀ xs, evX base O xs (.tmp 152) = xs 14) := fun xs => by rw [hO]; rfl
        have kx153 : Hid (∀ xs, evX base O xs (.tmp 153) = xs 15) := fun xs => by rw [hO]; rfl
        have kx154 : Hid (∀ xs, evX base O xs (.tmp 154) = xs 16) := fun xs => by rw [hO]; rfl
        have kx155 : Hid (∀ xs, evX base O xs (.tmp 155) = xs 17) := fun xs => by rw [hO]; rfl
        have kx156 : Hid (∀ xs, evX base O xs (.tmp 156) = xs 18) := fun xs => by rw [hO]; rfl
        have kx157 : Hid (∀ xs, evX base O xs (.tmp 157) = xs 19) := fun xs => by rw [hO]; rfl
        have kx158 : Hid (∀ xs, evX base O xs (.tmp 158) = xs 20) := fun xs => by rw [hO]; rfl
        clear hbase hO
        apply gh_det (n := 0)
        · intro fl xs w ev hG hD hl hdone hev K hK
          have e6 := (hev (.tmp 6)).trans (kx6.out xs)
          rw [if_pos (wantedX_none rfl)]
          have ef : ∀ f, ev (.func f) = .func (.func f) #[] #[] := fun f => (hev _).trans rfl
          clear hev hD
          go_simp
          exact hK _ _ rfl hG
        apply gh_det (n := 1)
        · intro fl xs w ev hG hD hl hdone hev K hK
          have e138 := (hev (.tmp 138)).trans (kx138.out xs)
          have d0 := hD.at_ 0 rfl rfl
          replace e138 := e138.trans d0
          rw [if_pos (wantedX_none rfl)]
          have ef : ∀ f, ev (.func f) = .func (.func f) #[] #[] := fun f => (hev _).trans rfl
          clear hev hD
          go_simp
          exact hK _ _ rfl hG
        apply gh_det (n := 2)
        · intro fl xs w ev hG hD hl hdone hev K hK
          have e139 := (hev (.tmp 139)).trans (kx139.out xs)
          have d1 := hD.at_ 1 rfl rfl
          replace e139 := e139.trans d1
          rw [if_pos (wantedX_none rfl)]
          have ef : ∀ f, ev (.func f) = .func (.func f) #[] #[] := fun f => (hev _).trans rfl
          clear hev hD
          go_simp
          exact hK _ _ rfl hG
        apply gh_det (n := 3)
        · intro fl xs w ev hG hD hl hdone hev K hK
          have e3 := (hev (.tmp 3)).trans (kx3.out xs)
          have dg := hD.at_ 2 rfl rfl
          rw [if_pos (wantedX_yes 2 false rfl dg)]
          have ef : ∀ f, ev (.func f) = .func (.func f) #[] #[] := fun f => (hev _).trans rfl
          clear hev hD
          go_simp
          exact hK _ _ rfl hG
        apply gh_det (n := 4)
        · intro fl xs w ev hG hD hl hdone hev K hK
          have e141 := (hev (.tmp 141)).trans (kx141.out xs)
          have d3 := hD.at_ 3 rfl rfl
          replace e141 := e141.trans d3
          have dg := hD.at_ 2 rfl rfl
          rw [if_pos (wantedX_yes 2 false rfl dg)]
          have ef : ∀ f, ev (.func f) = .func (.func f) #[] #[] := fun f => (hev _).trans rfl
          clear hev hD
          go_simp
          refine (Len_any (hQ.out.below hG.1)).mono ?_; rintro e w' ⟨rfl, hw'⟩
          subst hw'
          exact ⟨_, rfl, hK _ _ rfl hG⟩
        apply gh_det (n := 5)
        · intro fl xs w ev hG hD hl hdone hev K hK
          have e4 := (hev (.tmp 4)).trans (kx4.out xs)
          have dg := hD.at_ 2 rfl rfl
          rw [if_pos (wantedX_yes 2 false rfl dg)]
          have ef : ∀ f, ev (.func f) = .func (.func f) #[] #[] := fun f => (hev _).trans rfl
          clear hev hD
          go_simp
          exact hK _ _ rfl hG
        apply gh_det (n := 6)
        · intro fl xs w ev hG hD hl hdone hev K hK
          have e143 := (hev (.tmp 143)).trans (kx143.out xs)
          have d5 := hD.at_ 5 rfl rfl
          replace e143 := e143.trans d5
          have dg := hD.at_ 2 rfl rfl
          rw [if_pos (wantedX_yes 2 false rfl dg)]
          have ef : ∀ f, ev (.func f) = .func (.func f) #[] #[] := fun f => (hev _).trans rfl
          clear hev hD
          go_simp
          exact hK _ _ rfl hG
        apply gh_det (n := 7)
        · intro fl xs w ev hG hD hl hdone hev K hK
          have e144 := (hev (.tmp 144)).trans (kx144.out xs)
          have d6 := hD.at_ 6 rfl rfl
          replace e144 := e144.trans d6
          have dg := hD.at_ 2 rfl rfl
          rw [if_pos (wantedX_yes 2 false rfl dg)]
          have ef : ∀ f, ev (.func f) = .func (.func f) #[] #[] := fun f => (hev _).trans rfl
          clear hev hD
          go_simp
          exact hK _ _ rfl hG
        apply gh_det (n := 8)
        · intro fl xs w ev hG hD hl hdone hev K hK
          have e145 := (hev (.tmp 145)).trans (kx145.out xs)
          have d7 := hD.at_ 7 rfl rfl
          replace e145 := e145.trans d7
          have dg := hD.at_ 2 rfl rfl
          rw [if_pos (wantedX_yes 2 false rfl dg)]
          have ef : ∀ f, ev (.func f) = .func (.func f) #[] #[] := fun f => (hev _).trans rfl
          clear hev hD
          have m0 := (hG.1.cell (p := ⟨hp, 0, none⟩) zhp).trans c0
          go_simp
          exact hK _ _ rfl hG
        apply gh_det (n := 9)
        · intro fl xs w ev hG hD hl hdone hev K hK
          have e146 := (hev (.tmp 146)).trans (kx146.out xs)
          have d8 := hD.at_ 8 rfl rfl
          replace e146 := e146.trans d8
          have dg := hD.at_ 2 rfl rfl
          rw [if_pos (wantedX_yes 2 false rfl dg)]
          have ef : ∀ f, ev (.func f) = .func (.func f) #[] #[] := fun f => (hev _).trans rfl
          clear hev hD
          go_simp
          exact hK _ _ rfl hG
        apply gh_det (n := 10)
        · intro fl xs w ev hG hD hl hdone hev K hK
          have e142 := (hev (.tmp 142)).trans (kx142.out xs)
          have d4 := hD.at_ 4 rfl rfl
          replace e142 := e142.trans d4
          have e147 := (hev (.tmp 147)).trans (kx147.out xs)
          have d9 := hD.at_ 9 rfl rfl
          replace e147 := e147.trans d9
          have dg := hD.at_ 2 rfl rfl
          rw [if_pos (wantedX_yes 2 false rfl dg)]
          have ef : ∀ f, ev (.func f) = .func (.func f) #[] #[] := fun f => (hev _).trans rfl
          clear hev hD
          go_simp
          exact hK _ _ rfl hG
        apply gh_det (n := 11)
        · intro fl xs w ev hG hD hl hdone hev K hK
          have e140 := (hev (.tmp 140)).trans (kx140.out xs)
          have d2 := hD.at_ 2 rfl rfl
          replace e140 := e140.trans d2
          have e148 := (hev (.tmp 148)).trans (kx148.out xs)
          have d10 := hD.at_ 10 rfl rfl
          replace e148 := e148.trans d10
          rw [if_pos (wantedX_none rfl)]
          have ef : ∀ f, ev (.func f) = .func (.func f) #[] #[] := fun f => (hev _).trans rfl
          have ec : ∀ v, ev (.const v) = v := fun v => (hev _).trans rfl
          clear hev hD
          go_simp
          exact hK _ _ rfl hG
        apply gh_det (n := 12)
        · intro fl xs w ev hG hD hl hdone hev K hK
          have e149 := (hev (.tmp 149)).trans (kx149.out xs)
          have d11 := hD.at_ 11 rfl rfl
          replace e149 := e149.trans d11
          rw [if_pos (wantedX_none rfl)]
          have ef : ∀ f, ev (.func f) = .func (.func f) #[] #[] := fun f => (hev _).trans rfl
          clear hev hD
          go_simp
          exact hK _ _ rfl hG
        apply gh_det (n := 13)
        · intro fl xs w ev hG hD hl hdone hev K hK
          have e3 := (hev (.tmp 3)).trans (kx3.out xs)
          have dg := hD.at_ 12 rfl rfl
          rw [if_pos (wantedX_yes 12 false rfl dg)]
          have ef : ∀ f, ev (.func f) = .func (.func f) #[] #[] := fun f => (hev _).trans rfl
          clear hev hD
          go_simp
          exact hK _ _ rfl hG
        refine gh_any (n := 14) (fun _ => True) ?_ ?_
        · intro fl xs w ev hG hD hl hdone hev K hK
          have e151 := (hev (.tmp 151)).trans (kx151.out xs)
          have d13 := hD.at_ 13 rfl rfl
          replace e151 := e151.trans d13
          have dg := hD.at_ 12 rfl rfl
          rw [if_pos (wantedX_yes 12 false rfl dg)]
          have ef : ∀ f, ev (.func f) = .func (.func f) #[] #[] := fun f => (hev _).trans rfl
          clear hev hD
          go_simp
          refine (hAll.out _ hG.1).mono ?_; rintro e w' ⟨A7, c7, rfl, r7, _, _, hb7⟩
          exact ⟨_, rfl, hK _ _ trivial ⟨hG.1.trans (hb7.mono hG.1.size), fun _ => ⟨A7, c7, rfl, r7⟩⟩⟩
        apply gh_det (n := 15)
        · intro fl xs w ev hG hD hl hdone hev K hK
          have e4 := (hev (.tmp 4)).trans (kx4.out xs)
          have dg := hD.at_ 12 rfl rfl
          rw [if_pos (wantedX_yes 12 false rfl dg)]
          have ef : ∀ f, ev (.func f) = .func (.func f) #[] #[] := fun f => (hev _).trans rfl
          clear hev hD
          go_simp
          exact hK _ _ rfl hG
        apply gh_det (n := 16)
        · intro fl xs w ev hG hD hl hdone hev K hK
          have e153 := (hev (.tmp 153)).trans (kx153.out xs)
          have d15 := hD.at_ 15 rfl rfl
          replace e153 := e153.trans d15
          have dg := hD.at_ 12 rfl rfl
          rw [if_pos (wantedX_yes 12 false rfl dg)]
          have ef : ∀ f, ev (.func f) = .func (.func f) #[] #[] := fun f => (hev _).trans rfl
          clear hev hD
          go_simp
          exact hK _ _ rfl hG
        apply gh_det (n := 17)
        · intro fl xs w ev hG hD hl hdone hev K hK
          have e154 := (hev (.tmp 154)).trans (kx154.out xs)
          have d16 := hD.at_ 16 rfl rfl
          replace e154 := e154.trans d16
          have dg := hD.at_ 12 rfl rfl
          rw [if_pos (wantedX_yes 12 false rfl dg)]
          have ef : ∀ f, ev (.func f) = .func (.func f) #[] #[] := fun f => (hev _).trans rfl
          clear hev hD
          go_simp
          exact hK _ _ rfl hG
        apply gh_det (n := 18)
        · intro fl xs w ev hG hD hl hdone hev K hK
          have e155 := (hev (.tmp 155)).trans (kx155.out xs)
          have d17 := hD.at_ 17 rfl rfl
          replace e155 := e155.trans d17
          have dg := hD.at_ 12 rfl rfl
          rw [if_pos (wantedX_yes 12 false rfl dg)]
          have ef : ∀ f, ev (.func f) = .func (.func f) #[] #[] := fun f => (hev _).trans rfl
          clear hev hD
          have m0 := (hG.1.cell (p := ⟨hp, 0, none⟩) zhp).trans c0
          go_simp
          exact hK _ _ rfl hG
        apply gh_det (n := 19)
        · intro fl xs w ev hG hD hl hdone hev K hK
          have e152 := (hev (.tmp 152)).trans (kx152.out xs)
          have e156 := (hev (.tmp 156)).trans (kx156.out xs)
          have d18 := hD.at_ 18 rfl rfl
          replace e156 := e156.trans d18
          have dg := hD.at_ 12 rfl rfl
          rw [if_pos (wantedX_yes 12 false rfl dg)]
          have ef : ∀ f, ev (.func f) = .func (.func f) #[] #[] := fun f => (hev _).trans rfl
          clear hev hD
          obtain ⟨A7, c7, e7, r7⟩ := hG.2 (done_of hdone 14 rfl)
          have hSm := sameI_any A7 S1.length c7 S1 A5 S1.length c5 S1 w r7 (r5.out.below hG.1) hS1l hS1l
          rw [decide_eq_true rfl] at hSm
          have hSmh := Lib.hid hSm
          rw [e7] at e152
          clear hSm r7 e7
          go_simp
          refine hSmh.out.mono ?_; rintro e w' ⟨rfl, hb7⟩
          exact ⟨_, rfl, hK _ _ rfl ⟨hG.1.trans (hb7.mono hG.1.size), fun h => by obtain ⟨A8, c8, e8, r8⟩ := hG.2 h; exact ⟨A8, c8, e8, r8.below hb7⟩⟩⟩
        apply gh_det (n := 20)
        · intro fl xs w ev hG hD hl hdone hev K hK
          have e157 := (hev (.tmp 157)).trans (kx157.out xs)
          have d19 := hD.at_ 19 rfl rfl
          replace e157 := e157.trans d19
          have dg := hD.at_ 12 rfl rfl
          rw [if_pos (wantedX_yes 12 false rfl dg)]
          have ef : ∀ f, ev (.func f) = .func (.func f) #[] #[] := fun f => (hev _).trans rfl
          clear hev hD
          go_simp
          exact hK _ _ rfl hG
        apply gh_det (n := 21)
        · intro fl xs w ev hG hD hl hdone hev K hK
          have e150 := (hev (.tmp 150)).trans (kx150.out xs)
          have d12 := hD.at_ 12 rfl rfl
          replace e150 := e150.trans d12
          have e158 := (hev (.tmp 158)).trans (kx158.out xs)
          have d20 := hD.at_ 20 rfl rfl
          replace e158 := e158.trans d20
          rw [if_pos (wantedX_none rfl)]
          have ef : ∀ f, ev (.func f) = .func (.func f) #[] #[] := fun f => (hev _).trans rfl
          have ec : ∀ v, ev (.const v) = v := fun v => (hev _).trans rfl
          clear hev hD
          go_simp
          exact hK _ _ rfl hG
        clear kx3 kx4 kx6 kx138 kx139 kx140 kx141 kx142 kx143 kx144 kx145 kx146 kx147 kx148 kx149 kx150 kx151 kx152 kx153 kx154 kx155 kx156 kx157 kx158
        intro xs w10 hG hI
        have hz := hI 21 _ rfl
        obtain ⟨hb9, _⟩ := hG
        have hfin : Hid (Pr w10 w1.heap.size h hp S1 S1 ∧ St S1 ∧ S1.length ≤ k + 1 ∧ Below w1.heap.size w1 w10) := ⟨hPz'.out.below hb9, hSt1.out, hS1k, hbz.out.trans (hb9.mono hbz.out.size)⟩
        clear hI hb9
        simp only [List.append_eq, List.cons_append, List.nil_append, setAll, List.setIfInBounds_toArray, List.set_cons_zero, List.set_cons_succ]
        rw [hz]
        clear hz
        go_wp2_with fail
        go_roundw
        case rel => exact ⟨k + 1, S1, by omega, by go_num, hfin.out⟩
        case measure => simp [intOf]; omega
      · obtain ⟨y1, y2, pb, hV⟩ := popV_form S
        obtain ⟨S1, hS1⟩ : ∃ q, S.tail = q := ⟨_, rfl⟩
        have hHP : Hid (∀ W, Pr W w1.heap.size h hp S S → Calls Try.prog 35 #[.pointer (some ⟨h, 0, none⟩)] W fun e w' => e = .returned (.tuple #[.agg #[.int .i64 y1, .int .i64 y2], .bool pb]) ∧ Pr w' w1.heap.size h hp S1 S ∧ Below w1.heap.size W w') := fun W HW => by
          rw [← hS1, ← hV]; exact hPop_step HW hSth.out
        have hRP : Hid (∀ W, Pr W w1.heap.size h hp S1 S → Calls Try.prog 40 #[.pointer (some ⟨hp, 0, none⟩)] W fun e w' => e = .returned (.tuple #[.agg #[.int .i64 y1, .int .i64 y2], .bool pb]) ∧ Pr w' w1.heap.size h hp S1 S1 ∧ Below w1.heap.size W w' ∧ But W w' [hp]) := fun W HW => by
          have := rPop_step HW
          rw [hV] at this
          rw [← hS1] at this ⊢
          exact this
        have hSt1 : Hid (St S1) := by rw [← hS1]; exact ⟨hSth.out.srt.sublist (List.tail_sublist S), hSth.out.nd.sublist ((List.tail_sublist S).map Prod.snd)⟩
        have hS1k : S1.length ≤ k + 1 := by rw [← hS1]; rw [List.length_tail]; omega
        have hS1l : S1.length ≤ 1099511627776 := by omega
        have e1 : (y1 == y1) = true := by simp
        have e2 : (y2 == y2) = true := by simp
        have e3 : (pb == pb) = true := by simp
        clear hS1 hV hSth
        go_wp2_with fail
        refine (hHP.out _ hPr4.out).mono ?_; rintro e w5 ⟨rfl, hP5, hb5⟩
        have ha5 := (Below.refl _ w5).alloc (Nat.le_refl w5.heap.size) (.cells #[.int .i64 y1, .int .i64 y2] 53)
        have hn5 := heap_alloc_new w5 (.cells #[.int .i64 y1, .int .i64 y2] 53)
        have hPW5 := Lib.hid (hP5.below ha5)
        have hbW5 := Lib.hid (hbw4.out.trans (hb5.trans (ha5.mono hP5.bas)))
        have hhp5 := hP5.lt
        obtain ⟨W5, hW5⟩ : ∃ q, w5.alloc (.cells #[.int .i64 y1, .int .i64 y2] 53) = q := ⟨_, rfl⟩
        obtain ⟨b5, hb5e⟩ : ∃ q, w5.heap.size = q := ⟨_, rfl⟩
        rw [hW5] at hn5 hPW5 hbW5
        rw [hb5e] at hn5
        have hn5h := Lib.hid hn5
        clear hHP hP5 hb5 ha5 hn5
        go_wp2_with fail
        refine (hRP.out _ hPW5.out).mono ?_; rintro e w6 ⟨rfl, hP6, hb6, hbut6⟩
        have hl5 := (Array.getElem?_eq_some_iff.1 hn5h.out).1
        have hn56 := (hbut6.keep b5 hl5 (by simp; omega)).trans hn5h.out
        have hl56 := (Array.getElem?_eq_some_iff.1 hn56).1
        have ha6 := (Below.refl _ w6).alloc (Nat.le_refl w6.heap.size) (.cells #[.int .i64 y1, .int .i64 y2] 53)
        have hn6 := heap_alloc_new w6 (.cells #[.int .i64 y1, .int .i64 y2] 53)
        have hPz := Lib.hid (hP6.below ha6)
        have hbz := Lib.hid (hbW5.out.trans (hb6.trans (ha6.mono hP6.bas)))
        have hn57 := (ha6.block b5 hl56).trans hn56
        obtain ⟨W6, hW6⟩ : ∃ q, w6.alloc (.cells #[.int .i64 y1, .int .i64 y2] 53) = q := ⟨_, rfl⟩
        obtain ⟨b6, hb6e⟩ : ∃ q, w6.heap.size = q := ⟨_, rfl⟩
        rw [hW6] at hn6 hPz hbz hn57
        rw [hb6e] at hn6
        have k0 : W6.cell? ⟨b5, 0, none⟩ = some (.int .i64 y1) := by rw [cell_of_row _ _ _ _ _ _ hn57]; rfl
        have k1 : W6.cell? ⟨b5, 1, none⟩ = some (.int .i64 y2) := by rw [cell_of_row _ _ _ _ _ _ hn57]; rfl
        have k2 : W6.cell? ⟨b6, 0, none⟩ = some (.int .i64 y1) := by rw [cell_of_row _ _ _ _ _ _ hn6]; rfl
        have k3 : W6.cell? ⟨b6, 1, none⟩ = some (.int .i64 y2) := by rw [cell_of_row _ _ _ _ _ _ hn6]; rfl
        clear hRP hP6 hb6 hbut6 hn56 ha6 hn6 hn57 hPW5 hn5h
        go_wp2_with fail
        go_upto_region 25 with fail
        have hPz' := Lib.hid hPz.out
        obtain ⟨wz, hwz⟩ : ∃ q, W6 = q := ⟨_, rfl⟩
        rw [hwz] at hPz hPz' hbz ⊢
        clear hwz
        obtain ⟨X, hQ0, hR0, _, _⟩ := hPz.out
        obtain ⟨A5, c5, hh5, r50, _⟩ := hR0
        have hQ := Lib.hid hQ0
        have r5 := Lib.hid r50
        have c0 := cell_of_one hh5
        have zhp := (Array.getElem?_eq_some_iff.1 hh5).1
        have hAll : Hid (∀ W, Below wz.heap.size wz W → Calls Try.prog 34 #[.pointer (some ⟨h, 0, none⟩)] W fun e w' => RetAll W S1 e w') := fun W hW => by
          have := All_any (hQ.out.below hW)
          rw [hSt1.out.same] at this
          exact this
        have hSS : ((S1.length : Int) != (S1.length : Int)) = false := by simp
        clear hQ0 r50 hh5 hPz
        refine wp_region_ghost (fun fl x w => Below wz.heap.size wz w ∧ (fl 14 = true → ∃ A7 c7, x 14 = .slice A7 S1.length c7 ∧ Rd w 2 pairE A7 S1.length S1)) (by kernel_rfl) (by kernel_rfl) (by kernel_rfl) (by kernel_rfl) (by kernel_rfl) ?_ ?_
        · intro x0
          exact ⟨⟨rfl, rfl, rfl, Nat.le_refl _, fun _ _ => rfl⟩, fun h => by cases h⟩
        intro base O hbase hO
        have kx3 : Hid (∀ xs, evX base O xs (.tmp 3) = .pointer (some ⟨h, 0, none⟩)) := fun xs => by rw [hbase, hO]; rfl
        have kx4 : Hid (∀ xs, evX base O xs (.tmp 4) = .pointer (some ⟨hp, 0, none⟩)) := fun xs => by rw [hbase, hO]; rfl
        have kx6 : Hid (∀ xs, evX base O xs (.tmp 6) = .bool true) := fun xs => by rw [hbase, hO]; rfl
        have kx138 : Hid (∀ xs, evX base O xs (.tmp 138) = xs 0) := fun xs => by rw [hO]; rfl
        have kx139 : Hid (∀ xs, evX base O xs (.tmp 139) = xs 1) := fun xs => by rw [hO]; rfl
        have kx140 : Hid (∀ xs, evX base O xs (.tmp 140) = xs 2) := fun xs => by rw [hO]; rfl
        have kx141 : Hid (∀ xs, evX base O xs (.tmp 141) = xs 3) := fun xs => by rw [hO]; rfl
        have kx142 : Hid (∀ xs, evX base O xs (.tmp 142) = xs 4) := fun xs => by rw [hO]; rfl
        have kx143 : Hid (∀ xs, evX base O xs (.tmp 143) = xs 5) := fun xs => by rw [hO]; rfl
        have kx144 : Hid (∀ xs, evX base O xs (.tmp 144) = xs 6) := fun xs => by rw [hO]; rfl
        have kx145 : Hid (∀ xs, evX base O xs (.tmp 145) = xs 7) := fun xs => by rw [hO]; rfl
        have kx146 : Hid (∀ xs, evX base O xs (.tmp 146) = xs 8) := fun xs => by rw [hO]; rfl
        have kx147 : Hid (∀ xs, evX base O xs (.tmp 147) = xs 9) := fun xs => by rw [hO]; rfl
        have kx148 : Hid (∀ xs, evX base O xs (.tmp 148) = xs 10) := fun xs => by rw [hO]; rfl
        have kx149 : Hid (∀ xs, evX base O xs (.tmp 149) = xs 11) := fun xs => by rw [hO]; rfl
        have kx150 : Hid (∀ xs, evX base O xs (.tmp 150) = xs 12) := fun xs => by rw [hO]; rfl
        have kx151 : Hid (∀ xs, evX base O xs (.tmp 151) = xs 13) := fun xs => by rw [hO]; rfl
        have kx152 : Hid (∀ xs, evX base O xs (.tmp 152) = xs 14) := fun xs => by rw [hO]; rfl
        have kx153 : Hid (∀ xs, evX base O xs (.tmp 153) = xs 15) := fun xs => by rw [hO]; rfl
        have kx154 : Hid (∀ xs, evX base O xs (.tmp 154) = xs 16) := fun xs => by rw [hO]; rfl
        have kx155 : Hid (∀ xs, evX base O xs (.tmp 155) = xs 17) := fun xs => by rw [hO]; rfl
        have kx156 : Hid (∀ xs, evX base O xs (.tmp 156) = xs 18) := fun xs => by rw [hO]; rfl
        have kx157 : Hid (∀ xs, evX base O xs (.tmp 157) = xs 19) := fun xs => by rw [hO]; rfl
        have kx158 : Hid (∀ xs, evX base O xs (.tmp 158) = xs 20) := fun xs => by rw [hO]; rfl
        clear hbase hO
        apply gh_det (n := 0)
        · intro fl xs w ev hG hD hl hdone hev K hK
          have e6 := (hev (.tmp 6)).trans (kx6.out xs)
          rw [if_pos (wantedX_none rfl)]
          have ef : ∀ f, ev (.func f) = .func (.func f) #[] #[] := fun f => (hev _).trans rfl
          clear hev hD
          go_simp
          exact hK _ _ rfl hG
        apply gh_det (n := 1)
        · intro fl xs w ev hG hD hl hdone hev K hK
          have e138 := (hev (.tmp 138)).trans (kx138.out xs)
          have d0 := hD.at_ 0 rfl rfl
          replace e138 := e138.trans d0
          rw [if_pos (wantedX_none rfl)]
          have ef : ∀ f, ev (.func f) = .func (.func f) #[] #[] := fun f => (hev _).trans rfl
          clear hev hD
          go_simp
          exact hK _ _ rfl hG
        apply gh_det (n := 2)
        · intro fl xs w ev hG hD hl hdone hev K hK
          have e139 := (hev (.tmp 139)).trans (kx139.out xs)
          have d1 := hD.at_ 1 rfl rfl
          replace e139 := e139.trans d1
          rw [if_pos (wantedX_none rfl)]
          have ef : ∀ f, ev (.func f) = .func (.func f) #[] #[] := fun f => (hev _).trans rfl
          clear hev hD
          go_simp
          exact hK _ _ rfl hG
        apply gh_det (n := 3)
        · intro fl xs w ev hG hD hl hdone hev K hK
          have e3 := (hev (.tmp 3)).trans (kx3.out xs)
          have dg := hD.at_ 2 rfl rfl
          rw [if_pos (wantedX_yes 2 false rfl dg)]
          have ef : ∀ f, ev (.func f) = .func (.func f) #[] #[] := fun f => (hev _).trans rfl
          clear hev hD
          go_simp
          exact hK _ _ rfl hG
        apply gh_det (n := 4)
        · intro fl xs w ev hG hD hl hdone hev K hK
          have e141 := (hev (.tmp 141)).trans (kx141.out xs)
          have d3 := hD.at_ 3 rfl rfl
          replace e141 := e141.trans d3
          have dg := hD.at_ 2 rfl rfl
          rw [if_pos (wantedX_yes 2 false rfl dg)]
          have ef : ∀ f, ev (.func f) = .func (.func f) #[] #[] := fun f => (hev _).trans rfl
          clear hev hD
          go_simp
          refine (Len_any (hQ.out.below hG.1)).mono ?_; rintro e w' ⟨rfl, hw'⟩
          subst hw'
          exact ⟨_, rfl, hK _ _ rfl hG⟩
        apply gh_det (n := 5)
        · intro fl xs w ev hG hD hl hdone hev K hK
          have e4 := (hev (.tmp 4)).trans (kx4.out xs)
          have dg := hD.at_ 2 rfl rfl
          rw [if_pos (wantedX_yes 2 false rfl dg)]
          have ef : ∀ f, ev (.func f) = .func (.func f) #[] #[] := fun f => (hev _).trans rfl
          clear hev hD
          go_simp
          exact hK _ _ rfl hG
        apply gh_det (n := 6)
        · intro fl xs w ev hG hD hl hdone hev K hK
          have e143 := (hev (.tmp 143)).trans (kx143.out xs)
          have d5 := hD.at_ 5 rfl rfl
          replace e143 := e143.trans d5
          have dg := hD.at_ 2 rfl rfl
          rw [if_pos (wantedX_yes 2 false rfl dg)]
          have ef : ∀ f, ev (.func f) = .func (.func f) #[] #[] := fun f => (hev _).trans rfl
          clear hev hD
          go_simp
          exact hK _ _ rfl hG
        apply gh_det (n := 7)
        · intro fl xs w ev hG hD hl hdone hev K hK
          have e144 := (hev (.tmp 144)).trans (kx144.out xs)
          have d6 := hD.at_ 6 rfl rfl
          replace e144 := e144.trans d6
          have dg := hD.at_ 2 rfl rfl
          rw [if_pos (wantedX_yes 2 false rfl dg)]
          have ef : ∀ f, ev (.func f) = .func (.func f) #[] #[] := fun f => (hev _).trans rfl
          clear hev hD
          go_simp
          exact hK _ _ rfl hG
        apply gh_det (n := 8)
        · intro fl xs w ev hG hD hl hdone hev K hK
          have e145 := (hev (.tmp 145)).trans (kx145.out xs)
          have d7 := hD.at_ 7 rfl rfl
          replace e145 := e145.trans d7
          have dg := hD.at_ 2 rfl rfl
          rw [if_pos (wantedX_yes 2 false rfl dg)]
          have ef : ∀ f, ev (.func f) = .func (.func f) #[] #[] := fun f => (hev _).trans rfl
          clear hev hD
          have m0 := (hG.1.cell (p := ⟨hp, 0, none⟩) zhp).trans c0
          go_simp
          exact hK _ _ rfl hG
        apply gh_det (n := 9)
        · intro fl xs w ev hG hD hl hdone hev K hK
          have e146 := (hev (.tmp 146)).trans (kx146.out xs)
          have d8 := hD.at_ 8 rfl rfl
          replace e146 := e146.trans d8
          have dg := hD.at_ 2 rfl rfl
          rw [if_pos (wantedX_yes 2 false rfl dg)]
          have ef : ∀ f, ev (.func f) = .func (.func f) #[] #[] := fun f => (hev _).trans rfl
          clear hev hD
          go_simp
          exact hK _ _ rfl hG
        apply gh_det (n := 10)
        · intro fl xs w ev hG hD hl hdone hev K hK
          have e142 := (hev (.tmp 142)).trans (kx142.out xs)
          have d4 := hD.at_ 4 rfl rfl
          replace e142 := e142.trans d4
          have e147 := (hev (.tmp 147)).trans (kx147.out xs)
          have d9 := hD.at_ 9 rfl rfl
          replace e147 := e147.trans d9
          have dg := hD.at_ 2 rfl rfl
          rw [if_pos (wantedX_yes 2 false rfl dg)]
          have ef : ∀ f, ev (.func f) = .func (.func f) #[] #[] := fun f => (hev _).trans rfl
          clear hev hD
          go_simp
          exact hK _ _ rfl hG
        apply gh_det (n := 11)
        · intro fl xs w ev hG hD hl hdone hev K hK
          have e140 := (hev (.tmp 140)).trans (kx140.out xs)
          have d2 := hD.at_ 2 rfl rfl
          replace e140 := e140.trans d2
          have e148 := (hev (.tmp 148)).trans (kx148.out xs)
          have d10 := hD.at_ 10 rfl rfl
          replace e148 := e148.trans d10
          rw [if_pos (wantedX_none rfl)]
          have ef : ∀ f, ev (.func f) = .func (.func f) #[] #[] := fun f => (hev _).trans rfl
          have ec : ∀ v, ev (.const v) = v := fun v => (hev _).trans rfl
          clear hev hD
          go_simp
          exact hK _ _ rfl hG
        apply gh_det (n := 12)
        · intro fl xs w ev hG hD hl hdone hev K hK
          have e149 := (hev (.tmp 149)).trans (kx149.out xs)
          have d11 := hD.at_ 11 rfl rfl
          replace e149 := e149.trans d11
          rw [if_pos (wantedX_none rfl)]
          have ef : ∀ f, ev (.func f) = .func (.func f) #[] #[] := fun f => (hev _).trans rfl
          clear hev hD
          go_simp
          exact hK _ _ rfl hG
        apply gh_det (n := 13)
        · intro fl xs w ev hG hD hl hdone hev K hK
          have e3 := (hev (.tmp 3)).trans (kx3.out xs)
          have dg := hD.at_ 12 rfl rfl
          rw [if_pos (wantedX_yes 12 false rfl dg)]
          have ef : ∀ f, ev (.func f) = .func (.func f) #[] #[] := fun f => (hev _).trans rfl
          clear hev hD
          go_simp
          exact hK _ _ rfl hG
        refine gh_any (n := 14) (fun _ => True) ?_ ?_
        · intro fl xs w ev hG hD hl hdone hev K hK
          have e151 := (hev (.tmp 151)).trans (kx151.out xs)
          have d13 := hD.at_ 13 rfl rfl
          replace e151 := e151.trans d13
          have dg := hD.at_ 12 rfl rfl
          rw [if_pos (wantedX_yes 12 false rfl dg)]
          have ef : ∀ f, ev (.func f) = .func (.func f) #[] #[] := fun f => (hev _).trans rfl
          clear hev hD
          go_simp
          refine (hAll.out _ hG.1).mono ?_; rintro e w' ⟨A7, c7, rfl, r7, _, _, hb7⟩
          exact ⟨_, rfl, hK _ _ trivial ⟨hG.1.trans (hb7.mono hG.1.size), fun _ => ⟨A7, c7, rfl, r7⟩⟩⟩
        apply gh_det (n := 15)
        · intro fl xs w ev hG hD hl hdone hev K hK
          have e4 := (hev (.tmp 4)).trans (kx4.out xs)
          have dg := hD.at_ 12 rfl rfl
          rw [if_pos (wantedX_yes 12 false rfl dg)]
          have ef : ∀ f, ev (.func f) = .func (.func f) #[] #[] := fun f => (hev _).trans rfl
          clear hev hD
          go_simp
          exact hK _ _ rfl hG
        apply gh_det (n := 16)
        · intro fl xs w ev hG hD hl hdone hev K hK
          have e153 := (hev (.tmp 153)).trans (kx153.out xs)
          have d15 := hD.at_ 15 rfl rfl
          replace e153 := e153.trans d15
          have dg := hD.at_ 12 rfl rfl
          rw [if_pos (wantedX_yes 12 false rfl dg)]
          have ef : ∀ f, ev (.func f) = .func (.func f) #[] #[] := fun f => (hev _).trans rfl
          clear hev hD
          go_simp
          exact hK _ _ rfl hG
        apply gh_det (n := 17)
        · intro fl xs w ev hG hD hl hdone hev K hK
          have e154 := (hev (.tmp 154)).trans (kx154.out xs)
          have d16 := hD.at_ 16 rfl rfl
          replace e154 := e154.trans d16
          have dg := hD.at_ 12 rfl rfl
          rw [if_pos (wantedX_yes 12 false rfl dg)]
          have ef : ∀ f, ev (.func f) = .func (.func f) #[] #[] := fun f => (hev _).trans rfl
          clear hev hD
          go_simp
          exact hK _ _ rfl hG
        apply gh_det (n := 18)
        · intro fl xs w ev hG hD hl hdone hev K hK
          have e155 := (hev (.tmp 155)).trans (kx155.out xs)
          have d17 := hD.at_ 17 rfl rfl
          replace e155 := e155.trans d17
          have dg := hD.at_ 12 rfl rfl
          rw [if_pos (wantedX_yes 12 false rfl dg)]
          have ef : ∀ f, ev (.func f) = .func (.func f) #[] #[] := fun f => (hev _).trans rfl
          clear hev hD
          have m0 := (hG.1.cell (p := ⟨hp, 0, none⟩) zhp).trans c0
          go_simp
          exact hK _ _ rfl hG
        apply gh_det (n := 19)
        · intro fl xs w ev hG hD hl hdone hev K hK
          have e152 := (hev (.tmp 152)).trans (kx152.out xs)
          have e156 := (hev (.tmp 156)).trans (kx156.out xs)
          have d18 := hD.at_ 18 rfl rfl
          replace e156 := e156.trans d18
          have dg := hD.at_ 12 rfl rfl
          rw [if_pos (wantedX_yes 12 false rfl dg)]
          have ef : ∀ f, ev (.func f) = .func (.func f) #[] #[] := fun f => (hev _).trans rfl
          clear hev hD
          obtain ⟨A7, c7, e7, r7⟩ := hG.2 (done_of hdone 14 rfl)
          have hSm := sameI_any A7 S1.length c7 S1 A5 S1.length c5 S1 w r7 (r5.out.below hG.1) hS1l hS1l
          rw [decide_eq_true rfl] at hSm
          have hSmh := Lib.hid hSm
          rw [e7] at e152
          clear hSm r7 e7
          go_simp
          refine hSmh.out.mono ?_; rintro e w' ⟨rfl, hb7⟩
          exact ⟨_, rfl, hK _ _ rfl ⟨hG.1.trans (hb7.mono hG.1.size), fun h => by obtain ⟨A8, c8, e8, r8⟩ := hG.2 h; exact ⟨A8, c8, e8, r8.below hb7⟩⟩⟩
        apply gh_det (n := 20)
        · intro fl xs w ev hG hD hl hdone hev K hK
          have e157 := (hev (.tmp 157)).trans (kx157.out xs)
          have d19 := hD.at_ 19 rfl rfl
          replace e157 := e157.trans d19
          have dg := hD.at_ 12 rfl rfl
          rw [if_pos (wantedX_yes 12 false rfl dg)]
          have ef : ∀ f, ev (.func f) = .func (.func f) #[] #[] := fun f => (hev _).trans rfl
          clear hev hD
          go_simp
          exact hK _ _ rfl hG
        apply gh_det (n := 21)
        · intro fl xs w ev hG hD hl hdone hev K hK
          have e150 := (hev (.tmp 150)).trans (kx150.out xs)
          have d12 := hD.at_ 12 rfl rfl
          replace e150 := e150.trans d12
          have e158 := (hev (.tmp 158)).trans (kx158.out xs)
          have d20 := hD.at_ 20 rfl rfl
          replace e158 := e158.trans d20
          rw [if_pos (wantedX_none rfl)]
          have ef : ∀ f, ev (.func f) = .func (.func f) #[] #[] := fun f => (hev _).trans rfl
          have ec : ∀ v, ev (.const v) = v := fun v => (hev _).trans rfl
          clear hev hD
          go_simp
          exact hK _ _ rfl hG
        clear kx3 kx4 kx6 kx138 kx139 kx140 kx141 kx142 kx143 kx144 kx145 kx146 kx147 kx148 kx149 kx150 kx151 kx152 kx153 kx154 kx155 kx156 kx157 kx158
        intro xs w10 hG hI
        have hz := hI 21 _ rfl
        obtain ⟨hb9, _⟩ := hG
        have hfin : Hid (Pr w10 w1.heap.size h hp S1 S1 ∧ St S1 ∧ S1.length ≤ k + 1 ∧ Below w1.heap.size w1 w10) := ⟨hPz'.out.below hb9, hSt1.out, hS1k, hbz.out.trans (hb9.mono hbz.out.size)⟩
        clear hI hb9
        simp only [List.append_eq, List.cons_append, List.nil_append, setAll, List.setIfInBounds_toArray, List.set_cons_zero, List.set_cons_succ]
        rw [hz]
        clear hz
        go_wp2_with fail
        go_roundw
        case rel => exact ⟨k + 1, S1, by omega, by go_num, hfin.out⟩
        case measure => simp [intOf]; omega
      · obtain ⟨lb, le, S1, hL⟩ := low_ex S x3 x2
        have hHL : Hid (∀ W, Pr W w1.heap.size h hp S S → Calls Try.prog 36 #[.pointer (some ⟨h, 0, none⟩), .int .i64 x3, .int .i64 x2] W fun e w' => e = .returned (.tuple #[.bool lb, .int .i64 le]) ∧ Pr w' w1.heap.size h hp S1 S ∧ Below w1.heap.size W w') := fun W HW => hLower_step HW hSth.out hL hw3
        have hRL : Hid (∀ W, Pr W w1.heap.size h hp S1 S → Calls Try.prog 41 #[.pointer (some ⟨hp, 0, none⟩), .int .i64 x3, .int .i64 x2] W fun e w' => e = .returned (.tuple #[.bool lb, .int .i64 le]) ∧ Pr w' w1.heap.size h hp S1 S1 ∧ Below w1.heap.size W w') := fun W HW => rLower_step HW hSth.out hL hSl
        obtain ⟨hs1, hs2⟩ := hL.st hSth.out
        have hSt1 := Lib.hid hs1
        have hS1k : S1.length ≤ k + 1 := by omega
        have hS1l : S1.length ≤ 1099511627776 := by omega
        have e1 : (lb == lb) = true := by simp
        have e2 : (le == le) = true := by simp
        clear hL hs1 hs2 hSth
        go_wp2_with fail
        go_upto_region 22 with fail
        refine wp_region_ghost (fun fl x w => Below w1.heap.size w4 w ∧ (fl 13 = false → Pr w w1.heap.size h hp S S) ∧ (fl 13 = true → Pr w w1.heap.size h hp S1 S)) (by kernel_rfl) (by kernel_rfl) (by kernel_rfl) (by kernel_rfl) (by kernel_rfl) ?_ ?_
        · intro x0
          exact ⟨⟨rfl, rfl, rfl, Nat.le_refl _, fun _ _ => rfl⟩, fun _ => hPr4.out.below (below_dr w4), fun h => by cases h⟩
        intro base O hbase hO
        have kx0 : Hid (∀ xs, evX base O xs (.tmp 0) = .slice (some ⟨b, o, none⟩) n c) := fun xs => by rw [hbase, hO]; rfl
        have kx3 : Hid (∀ xs, evX base O xs (.tmp 3) = .pointer (some ⟨h, 0, none⟩)) := fun xs => by rw [hbase, hO]; rfl
        have kx5 : Hid (∀ xs, evX base O xs (.tmp 5) = .int .i64 (k : Int)) := fun xs => by rw [hbase, hO]; rfl
        have kx96 : Hid (∀ xs, evX base O xs (.tmp 96) = xs 14) := fun xs => by rw [hO]; rfl
        have kx97 : Hid (∀ xs, evX base O xs (.tmp 97) = xs 0) := fun xs => by rw [hO]; rfl
        have kx98 : Hid (∀ xs, evX base O xs (.tmp 98) = xs 1) := fun xs => by rw [hO]; rfl
        have kx99 : Hid (∀ xs, evX base O xs (.tmp 99) = xs 2) := fun xs => by rw [hO]; rfl
        have kx100 : Hid (∀ xs, evX base O xs (.tmp 100) = xs 3) := fun xs => by rw [hO]; rfl
        have kx101 : Hid (∀ xs, evX base O xs (.tmp 101) = xs 4) := fun xs => by rw [hO]; rfl
        have kx102 : Hid (∀ xs, evX base O xs (.tmp 102) = xs 5) := fun xs => by rw [hO]; rfl
        have kx103 : Hid (∀ xs, evX base O xs (.tmp 103) = xs 6) := fun xs => by rw [hO]; rfl
        have kx104 : Hid (∀ xs, evX base O xs (.tmp 104) = xs 7) := fun xs => by rw [hO]; rfl
        have kx105 : Hid (∀ xs, evX base O xs (.tmp 105) = xs 8) := fun xs => by rw [hO]; rfl
        have kx106 : Hid (∀ xs, evX base O xs (.tmp 106) = xs 9) := fun xs => by rw [hO]; rfl
        have kx107 : Hid (∀ xs, evX base O xs (.tmp 107) = xs 10) := fun xs => by rw [hO]; rfl
        have kx108 : Hid (∀ xs, evX base O xs (.tmp 108) = xs 11) := fun xs => by rw [hO]; rfl
        have kx109 : Hid (∀ xs, evX base O xs (.tmp 109) = xs 12) := fun xs => by rw [hO]; rfl
        have kx110 : Hid (∀ xs, evX base O xs (.tmp 110) = xs 13) := fun xs => by rw [hO]; rfl
        have kx111 : Hid (∀ xs, evX base O xs (.tmp 111) = xs 15) := fun xs => by rw [hO]; rfl
        have kx112 : Hid (∀ xs, evX base O xs (.tmp 112) = xs 16) := fun xs => by rw [hO]; rfl
        clear hbase hO
        apply gh_det (n := 0)
        · intro fl xs w ev hG hD hl hdone hev K hK
          have e3 := (hev (.tmp 3)).trans (kx3.out xs)
          rw [if_pos (wantedX_none rfl)]
          have ef : ∀ f, ev (.func f) = .func (.func f) #[] #[] := fun f => (hev _).trans rfl
          clear hev hD
          go_simp
          exact hK _ _ rfl hG
        apply gh_det (n := 1)
        · intro fl xs w ev hG hD hl hdone hev K hK
          have e0 := (hev (.tmp 0)).trans (kx0.out xs)
          rw [if_pos (wantedX_none rfl)]
          have ef : ∀ f, ev (.func f) = .func (.func f) #[] #[] := fun f => (hev _).trans rfl
          clear hev hD
          go_simp
          exact hK _ _ rfl hG
        apply gh_det (n := 2)
        · intro fl xs w ev hG hD hl hdone hev K hK
          have e5 := (hev (.tmp 5)).trans (kx5.out xs)
          rw [if_pos (wantedX_none rfl)]
          have ef : ∀ f, ev (.func f) = .func (.func f) #[] #[] := fun f => (hev _).trans rfl
          clear hev hD
          go_simp
          exact hK _ _ rfl hG
        apply gh_det (n := 3)
        · intro fl xs w ev hG hD hl hdone hev K hK
          have e98 := (hev (.tmp 98)).trans (kx98.out xs)
          have d1 := hD.at_ 1 rfl rfl
          replace e98 := e98.trans d1
          have e99 := (hev (.tmp 99)).trans (kx99.out xs)
          have d2 := hD.at_ 2 rfl rfl
          replace e99 := e99.trans d2
          rw [if_pos (wantedX_none rfl)]
          have ef : ∀ f, ev (.func f) = .func (.func f) #[] #[] := fun f => (hev _).trans rfl
          clear hev hD
          go_simp
          exact hK _ _ rfl hG
        apply gh_det (n := 4)
        · intro fl xs w ev hG hD hl hdone hev K hK
          have e100 := (hev (.tmp 100)).trans (kx100.out xs)
          have d3 := hD.at_ 3 rfl rfl
          replace e100 := e100.trans d3
          rw [if_pos (wantedX_none rfl)]
          have ef : ∀ f, ev (.func f) = .func (.func f) #[] #[] := fun f => (hev _).trans rfl
          clear hev hD
          go_simp
          exact hK _ _ rfl hG
        apply gh_det (n := 5)
        · intro fl xs w ev hG hD hl hdone hev K hK
          have e101 := (hev (.tmp 101)).trans (kx101.out xs)
          have d4 := hD.at_ 4 rfl rfl
          replace e101 := e101.trans d4
          rw [if_pos (wantedX_none rfl)]
          have ef : ∀ f, ev (.func f) = .func (.func f) #[] #[] := fun f => (hev _).trans rfl
          clear hev hD
          go_simp
          exact hK _ _ rfl hG
        apply gh_det (n := 6)
        · intro fl xs w ev hG hD hl hdone hev K hK
          have e102 := (hev (.tmp 102)).trans (kx102.out xs)
          have d5 := hD.at_ 5 rfl rfl
          replace e102 := e102.trans d5
          rw [if_pos (wantedX_none rfl)]
          have ef : ∀ f, ev (.func f) = .func (.func f) #[] #[] := fun f => (hev _).trans rfl
          clear hev hD
          have mm1 := (hG.1.cell (p := ⟨b, o + k * 3 + 1, none⟩) hbs).trans p2
          have mm2 := (hG.1.cell (p := ⟨b, o + k * 3 + 2, none⟩) hbs).trans p3
          have mm3 := (hG.1.cell (p := ⟨b, o + k * 3 + 1 + 1, none⟩) hbs).trans p3
          go_simp
          exact hK _ _ rfl hG
        apply gh_det (n := 7)
        · intro fl xs w ev hG hD hl hdone hev K hK
          have e0 := (hev (.tmp 0)).trans (kx0.out xs)
          rw [if_pos (wantedX_none rfl)]
          have ef : ∀ f, ev (.func f) = .func (.func f) #[] #[] := fun f => (hev _).trans rfl
          clear hev hD
          go_simp
          exact hK _ _ rfl hG
        apply gh_det (n := 8)
        · intro fl xs w ev hG hD hl hdone hev K hK
          have e5 := (hev (.tmp 5)).trans (kx5.out xs)
          rw [if_pos (wantedX_none rfl)]
          have ef : ∀ f, ev (.func f) = .func (.func f) #[] #[] := fun f => (hev _).trans rfl
          clear hev hD
          go_simp
          exact hK _ _ rfl hG
        apply gh_det (n := 9)
        · intro fl xs w ev hG hD hl hdone hev K hK
          have e104 := (hev (.tmp 104)).trans (kx104.out xs)
          have d7 := hD.at_ 7 rfl rfl
          replace e104 := e104.trans d7
          have e105 := (hev (.tmp 105)).trans (kx105.out xs)
          have d8 := hD.at_ 8 rfl rfl
          replace e105 := e105.trans d8
          rw [if_pos (wantedX_none rfl)]
          have ef : ∀ f, ev (.func f) = .func (.func f) #[] #[] := fun f => (hev _).trans rfl
          clear hev hD
          go_simp
          exact hK _ _ rfl hG
        apply gh_det (n := 10)
        · intro fl xs w ev hG hD hl hdone hev K hK
          have e106 := (hev (.tmp 106)).trans (kx106.out xs)
          have d9 := hD.at_ 9 rfl rfl
          replace e106 := e106.trans d9
          rw [if_pos (wantedX_none rfl)]
          have ef : ∀ f, ev (.func f) = .func (.func f) #[] #[] := fun f => (hev _).trans rfl
          clear hev hD
          go_simp
          exact hK _ _ rfl hG
        apply gh_det (n := 11)
        · intro fl xs w ev hG hD hl hdone hev K hK
          have e107 := (hev (.tmp 107)).trans (kx107.out xs)
          have d10 := hD.at_ 10 rfl rfl
          replace e107 := e107.trans d10
          rw [if_pos (wantedX_none rfl)]
          have ef : ∀ f, ev (.func f) = .func (.func f) #[] #[] := fun f => (hev _).trans rfl
          clear hev hD
          go_simp
          exact hK _ _ rfl hG
        apply gh_det (n := 12)
        · intro fl xs w ev hG hD hl hdone hev K hK
          have e108 := (hev (.tmp 108)).trans (kx108.out xs)
          have d11 := hD.at_ 11 rfl rfl
          replace e108 := e108.trans d11
          rw [if_pos (wantedX_none rfl)]
          have ef : ∀ f, ev (.func f) = .func (.func f) #[] #[] := fun f => (hev _).trans rfl
          clear hev hD
          have mm1 := (hG.1.cell (p := ⟨b, o + k * 3 + 1, none⟩) hbs).trans p2
          have mm2 := (hG.1.cell (p := ⟨b, o + k * 3 + 2, none⟩) hbs).trans p3
          have mm3 := (hG.1.cell (p := ⟨b, o + k * 3 + 1 + 1, none⟩) hbs).trans p3
          go_simp
          exact hK _ _ rfl hG
        apply gh_det (n := 13)
        · intro fl xs w ev hG hD hl hdone hev K hK
          have e97 := (hev (.tmp 97)).trans (kx97.out xs)
          have d0 := hD.at_ 0 rfl rfl
          replace e97 := e97.trans d0
          have e103 := (hev (.tmp 103)).trans (kx103.out xs)
          have d6 := hD.at_ 6 rfl rfl
          replace e103 := e103.trans d6
          have e109 := (hev (.tmp 109)).trans (kx109.out xs)
          have d12 := hD.at_ 12 rfl rfl
          replace e109 := e109.trans d12
          rw [if_pos (wantedX_none rfl)]
          have ef : ∀ f, ev (.func f) = .func (.func f) #[] #[] := fun f => (hev _).trans rfl
          clear hev hD
          go_simp
          refine (hHL.out _ (hG.2.1 hl)).mono ?_; rintro e w' ⟨rfl, hP, hb⟩
          exact ⟨_, rfl, hK _ _ rfl ⟨hG.1.trans hb, (fun h => by cases h), fun _ => hP⟩⟩
        apply gh_det (n := 14)
        · intro fl xs w ev hG hD hl hdone hev K hK
          have e110 := (hev (.tmp 110)).trans (kx110.out xs)
          have d13 := hD.at_ 13 rfl rfl
          replace e110 := e110.trans d13
          rw [if_pos (wantedX_none rfl)]
          have ef : ∀ f, ev (.func f) = .func (.func f) #[] #[] := fun f => (hev _).trans rfl
          clear hev hD
          go_simp
          exact hK _ _ rfl hG
        apply gh_det (n := 15)
        · intro fl xs w ev hG hD hl hdone hev K hK
          have e96 := (hev (.tmp 96)).trans (kx96.out xs)
          have d14 := hD.at_ 14 rfl rfl
          replace e96 := e96.trans d14
          rw [if_pos (wantedX_none rfl)]
          have ef : ∀ f, ev (.func f) = .func (.func f) #[] #[] := fun f => (hev _).trans rfl
          clear hev hD
          go_simp
          exact hK _ _ rfl hG
        apply gh_det (n := 16)
        · intro fl xs w ev hG hD hl hdone hev K hK
          have e96 := (hev (.tmp 96)).trans (kx96.out xs)
          have d14 := hD.at_ 14 rfl rfl
          replace e96 := e96.trans d14
          rw [if_pos (wantedX_none rfl)]
          have ef : ∀ f, ev (.func f) = .func (.func f) #[] #[] := fun f => (hev _).trans rfl
          clear hev hD
          go_simp
          exact hK _ _ rfl hG
        apply gh_det (n := 17)
        · intro fl xs w ev hG hD hl hdone hev K hK
          have e111 := (hev (.tmp 111)).trans (kx111.out xs)
          have d15 := hD.at_ 15 rfl rfl
          replace e111 := e111.trans d15
          rw [if_pos (wantedX_none rfl)]
          have ef : ∀ f, ev (.func f) = .func (.func f) #[] #[] := fun f => (hev _).trans rfl
          clear hev hD
          go_simp
          exact hK _ _ rfl hG
        apply gh_det (n := 18)
        · intro fl xs w ev hG hD hl hdone hev K hK
          have e112 := (hev (.tmp 112)).trans (kx112.out xs)
          have d16 := hD.at_ 16 rfl rfl
          replace e112 := e112.trans d16
          rw [if_pos (wantedX_none rfl)]
          have ef : ∀ f, ev (.func f) = .func (.func f) #[] #[] := fun f => (hev _).trans rfl
          clear hev hD
          go_simp
          exact hK _ _ rfl hG
        clear kx0 kx3 kx5 kx96 kx97 kx98 kx99 kx100 kx101 kx102 kx103 kx104 kx105 kx106 kx107 kx108 kx109 kx110 kx111 kx112
        intro xs w9 hG hI
        have hz := hI 17 _ rfl
        have hz2 := hI 18 _ rfl
        obtain ⟨hb9, _, hP9⟩ := hG
        have hPz := Lib.hid (hP9 rfl)
        clear hI hP9
        simp only [List.append_eq, List.cons_append, List.nil_append, setAll, List.setIfInBounds_toArray, List.set_cons_zero, List.set_cons_succ]
        rw [hz, hz2]
        clear hz hz2
        obtain ⟨w5, hw5⟩ : ∃ q, w9 = q := ⟨_, rfl⟩
        rw [hw5] at hPz hb9 ⊢
        clear hw5
        have hPr5 := hPz
        have hbw5 := Lib.hid (hbw4.out.trans hb9)
        have p2 := (hbw5.out.cell (p := ⟨b, o + k * 3 + 1, none⟩) hbs).trans p2'
        have p3 := (hbw5.out.cell (p := ⟨b, o + k * 3 + 2, none⟩) hbs).trans p3'
        clear hb9 hPz hHL
        go_wp2_with fail
        go_upto_region 23 with fail
        refine wp_region_ghost (fun fl x w => Below w1.heap.size w5 w ∧ (fl 13 = false → Pr w w1.heap.size h hp S1 S) ∧ (fl 13 = true → Pr w w1.heap.size h hp S1 S1)) (by kernel_rfl) (by kernel_rfl) (by kernel_rfl) (by kernel_rfl) (by kernel_rfl) ?_ ?_
        · intro x0
          exact ⟨⟨rfl, rfl, rfl, Nat.le_refl _, fun _ _ => rfl⟩, fun _ => hPr5.out.below (below_dr w5), fun h => by cases h⟩
        intro base O hbase hO
        have kx0 : Hid (∀ xs, evX base O xs (.tmp 0) = .slice (some ⟨b, o, none⟩) n c) := fun xs => by rw [hbase, hO]; rfl
        have kx4 : Hid (∀ xs, evX base O xs (.tmp 4) = .pointer (some ⟨hp, 0, none⟩)) := fun xs => by rw [hbase, hO]; rfl
        have kx5 : Hid (∀ xs, evX base O xs (.tmp 5) = .int .i64 (k : Int)) := fun xs => by rw [hbase, hO]; rfl
        have kx113 : Hid (∀ xs, evX base O xs (.tmp 113) = xs 14) := fun xs => by rw [hO]; rfl
        have kx114 : Hid (∀ xs, evX base O xs (.tmp 114) = xs 0) := fun xs => by rw [hO]; rfl
        have kx115 : Hid (∀ xs, evX base O xs (.tmp 115) = xs 1) := fun xs => by rw [hO]; rfl
        have kx116 : Hid (∀ xs, evX base O xs (.tmp 116) = xs 2) := fun xs => by rw [hO]; rfl
        have kx117 : Hid (∀ xs, evX base O xs (.tmp 117) = xs 3) := fun xs => by rw [hO]; rfl
        have kx118 : Hid (∀ xs, evX base O xs (.tmp 118) = xs 4) := fun xs => by rw [hO]; rfl
        have kx119 : Hid (∀ xs, evX base O xs (.tmp 119) = xs 5) := fun xs => by rw [hO]; rfl
        have kx120 : Hid (∀ xs, evX base O xs (.tmp 120) = xs 6) := fun xs => by rw [hO]; rfl
        have kx121 : Hid (∀ xs, evX base O xs (.tmp 121) = xs 7) := fun xs => by rw [hO]; rfl
        have kx122 : Hid (∀ xs, evX base O xs (.tmp 122) = xs 8) := fun xs => by rw [hO]; rfl
        have kx123 : Hid (∀ xs, evX base O xs (.tmp 123) = xs 9) := fun xs => by rw [hO]; rfl
        have kx124 : Hid (∀ xs, evX base O xs (.tmp 124) = xs 10) := fun xs => by rw [hO]; rfl
        have kx125 : Hid (∀ xs, evX base O xs (.tmp 125) = xs 11) := fun xs => by rw [hO]; rfl
        have kx126 : Hid (∀ xs, evX base O xs (.tmp 126) = xs 12) := fun xs => by rw [hO]; rfl
        have kx127 : Hid (∀ xs, evX base O xs (.tmp 127) = xs 13) := fun xs => by rw [hO]; rfl
        have kx128 : Hid (∀ xs, evX base O xs (.tmp 128) = xs 15) := fun xs => by rw [hO]; rfl
        have kx129 : Hid (∀ xs, evX base O xs (.tmp 129) = xs 16) := fun xs => by rw [hO]; rfl
        clear hbase hO
        apply gh_det (n := 0)
        · intro fl xs w ev hG hD hl hdone hev K hK
          have e4 := (hev (.tmp 4)).trans (kx4.out xs)
          rw [if_pos (wantedX_none rfl)]
          have ef : ∀ f, ev (.func f) = .func (.func f) #[] #[] := fun f => (hev _).trans rfl
          clear hev hD
          go_simp
          exact hK _ _ rfl hG
        apply gh_det (n := 1)
        · intro fl xs w ev hG hD hl hdone hev K hK
          have e0 := (hev (.tmp 0)).trans (kx0.out xs)
          rw [if_pos (wantedX_none rfl)]
          have ef : ∀ f, ev (.func f) = .func (.func f) #[] #[] := fun f => (hev _).trans rfl
          clear hev hD
          go_simp
          exact hK _ _ rfl hG
        apply gh_det (n := 2)
        · intro fl xs w ev hG hD hl hdone hev K hK
          have e5 := (hev (.tmp 5)).trans (kx5.out xs)
          rw [if_pos (wantedX_none rfl)]
          have ef : ∀ f, ev (.func f) = .func (.func f) #[] #[] := fun f => (hev _).trans rfl
          clear hev hD
          go_simp
          exact hK _ _ rfl hG
        apply gh_det (n := 3)
        · intro fl xs w ev hG hD hl hdone hev K hK
          have e115 := (hev (.tmp 115)).trans (kx115.out xs)
          have d1 := hD.at_ 1 rfl rfl
          replace e115 := e115.trans d1
          have e116 := (hev (.tmp 116)).trans (kx116.out xs)
          have d2 := hD.at_ 2 rfl rfl
          replace e116 := e116.trans d2
          rw [if_pos (wantedX_none rfl)]
          have ef : ∀ f, ev (.func f) = .func (.func f) #[] #[] := fun f => (hev _).trans rfl
          clear hev hD
          go_simp
          exact hK _ _ rfl hG
        apply gh_det (n := 4)
        · intro fl xs w ev hG hD hl hdone hev K hK
          have e117 := (hev (.tmp 117)).trans (kx117.out xs)
          have d3 := hD.at_ 3 rfl rfl
          replace e117 := e117.trans d3
          rw [if_pos (wantedX_none rfl)]
          have ef : ∀ f, ev (.func f) = .func (.func f) #[] #[] := fun f => (hev _).trans rfl
          clear hev hD
          go_simp
          exact hK _ _ rfl hG
        apply gh_det (n := 5)
        · intro fl xs w ev hG hD hl hdone hev K hK
          have e118 := (hev (.tmp 118)).trans (kx118.out xs)
          have d4 := hD.at_ 4 rfl rfl
          replace e118 := e118.trans d4
          rw [if_pos (wantedX_none rfl)]
          have ef : ∀ f, ev (.func f) = .func (.func f) #[] #[] := fun f => (hev _).trans rfl
          clear hev hD
          go_simp
          exact hK _ _ rfl hG
        apply gh_det (n := 6)
        · intro fl xs w ev hG hD hl hdone hev K hK
          have e119 := (hev (.tmp 119)).trans (kx119.out xs)
          have d5 := hD.at_ 5 rfl rfl
          replace e119 := e119.trans d5
          rw [if_pos (wantedX_none rfl)]
          have ef : ∀ f, ev (.func f) = .func (.func f) #[] #[] := fun f => (hev _).trans rfl
          clear hev hD
          have mm1 := (hG.1.cell (p := ⟨b, o + k * 3 + 1, none⟩) hbs).trans p2
          have mm2 := (hG.1.cell (p := ⟨b, o + k * 3 + 2, none⟩) hbs).trans p3
          have mm3 := (hG.1.cell (p := ⟨b, o + k * 3 + 1 + 1, none⟩) hbs).trans p3
          go_simp
          exact hK _ _ rfl hG
        apply gh_det (n := 7)
        · intro fl xs w ev hG hD hl hdone hev K hK
          have e0 := (hev (.tmp 0)).trans (kx0.out xs)
          rw [if_pos (wantedX_none rfl)]
          have ef : ∀ f, ev (.func f) = .func (.func f) #[] #[] := fun f => (hev _).trans rfl
          clear hev hD
          go_simp
          exact hK _ _ rfl hG
        apply gh_det (n := 8)
        · intro fl xs w ev hG hD hl hdone hev K hK
          have e5 := (hev (.tmp 5)).trans (kx5.out xs)
          rw [if_pos (wantedX_none rfl)]
          have ef : ∀ f, ev (.func f) = .func (.func f) #[] #[] := fun f => (hev _).trans rfl
          clear hev hD
          go_simp
          exact hK _ _ rfl hG
        apply gh_det (n := 9)
        · intro fl xs w ev hG hD hl hdone hev K hK
          have e121 := (hev (.tmp 121)).trans (kx121.out xs)
          have d7 := hD.at_ 7 rfl rfl
          replace e121 := e121.trans d7
          have e122 := (hev (.tmp 122)).trans (kx122.out xs)
          have d8 := hD.at_ 8 rfl rfl
          replace e122 := e122.trans d8
          rw [if_pos (wantedX_none rfl)]
          have ef : ∀ f, ev (.func f) = .func (.func f) #[] #[] := fun f => (hev _).trans rfl
          clear hev hD
          go_simp
          exact hK _ _ rfl hG
        apply gh_det (n := 10)
        · intro fl xs w ev hG hD hl hdone hev K hK
          have e123 := (hev (.tmp 123)).trans (kx123.out xs)
          have d9 := hD.at_ 9 rfl rfl
          replace e123 := e123.trans d9
          rw [if_pos (wantedX_none rfl)]
          have ef : ∀ f, ev (.func f) = .func (.func f) #[] #[] := fun f => (hev _).trans rfl
          clear hev hD
          go_simp
          exact hK _ _ rfl hG
        apply gh_det (n := 11)
        · intro fl xs w ev hG hD hl hdone hev K hK
          have e124 := (hev (.tmp 124)).trans (kx124.out xs)
          have d10 := hD.at_ 10 rfl rfl
          replace e124 := e124.trans d10
          rw [if_pos (wantedX_none rfl)]
          have ef : ∀ f, ev (.func f) = .func (.func f) #[] #[] := fun f => (hev _).trans rfl
          clear hev hD
          go_simp
          exact hK _ _ rfl hG
        apply gh_det (n := 12)
        · intro fl xs w ev hG hD hl hdone hev K hK
          have e125 := (hev (.tmp 125)).trans (kx125.out xs)
          have d11 := hD.at_ 11 rfl rfl
          replace e125 := e125.trans d11
          rw [if_pos (wantedX_none rfl)]
          have ef : ∀ f, ev (.func f) = .func (.func f) #[] #[] := fun f => (hev _).trans rfl
          clear hev hD
          have mm1 := (hG.1.cell (p := ⟨b, o + k * 3 + 1, none⟩) hbs).trans p2
          have mm2 := (hG.1.cell (p := ⟨b, o + k * 3 + 2, none⟩) hbs).trans p3
          have mm3 := (hG.1.cell (p := ⟨b, o + k * 3 + 1 + 1, none⟩) hbs).trans p3
          go_simp
          exact hK _ _ rfl hG
        apply gh_det (n := 13)
        · intro fl xs w ev hG hD hl hdone hev K hK
          have e114 := (hev (.tmp 114)).trans (kx114.out xs)
          have d0 := hD.at_ 0 rfl rfl
          replace e114 := e114.trans d0
          have e120 := (hev (.tmp 120)).trans (kx120.out xs)
          have d6 := hD.at_ 6 rfl rfl
          replace e120 := e120.trans d6
          have e126 := (hev (.tmp 126)).trans (kx126.out xs)
          have d12 := hD.at_ 12 rfl rfl
          replace e126 := e126.trans d12
          rw [if_pos (wantedX_none rfl)]
          have ef : ∀ f, ev (.func f) = .func (.func f) #[] #[] := fun f => (hev _).trans rfl
          clear hev hD
          go_simp
          refine (hRL.out _ (hG.2.1 hl)).mono ?_; rintro e w' ⟨rfl, hP, hb⟩
          exact ⟨_, rfl, hK _ _ rfl ⟨hG.1.trans hb, (fun h => by cases h), fun _ => hP⟩⟩
        apply gh_det (n := 14)
        · intro fl xs w ev hG hD hl hdone hev K hK
          have e127 := (hev (.tmp 127)).trans (kx127.out xs)
          have d13 := hD.at_ 13 rfl rfl
          replace e127 := e127.trans d13
          rw [if_pos (wantedX_none rfl)]
          have ef : ∀ f, ev (.func f) = .func (.func f) #[] #[] := fun f => (hev _).trans rfl
          clear hev hD
          go_simp
          exact hK _ _ rfl hG
        apply gh_det (n := 15)
        · intro fl xs w ev hG hD hl hdone hev K hK
          have e113 := (hev (.tmp 113)).trans (kx113.out xs)
          have d14 := hD.at_ 14 rfl rfl
          replace e113 := e113.trans d14
          rw [if_pos (wantedX_none rfl)]
          have ef : ∀ f, ev (.func f) = .func (.func f) #[] #[] := fun f => (hev _).trans rfl
          clear hev hD
          go_simp
          exact hK _ _ rfl hG
        apply gh_det (n := 16)
        · intro fl xs w ev hG hD hl hdone hev K hK
          have e113 := (hev (.tmp 113)).trans (kx113.out xs)
          have d14 := hD.at_ 14 rfl rfl
          replace e113 := e113.trans d14
          rw [if_pos (wantedX_none rfl)]
          have ef : ∀ f, ev (.func f) = .func (.func f) #[] #[] := fun f => (hev _).trans rfl
          clear hev hD
          go_simp
          exact hK _ _ rfl hG
        apply gh_det (n := 17)
        · intro fl xs w ev hG hD hl hdone hev K hK
          have e128 := (hev (.tmp 128)).trans (kx128.out xs)
          have d15 := hD.at_ 15 rfl rfl
          replace e128 := e128.trans d15
          rw [if_pos (wantedX_none rfl)]
          have ef : ∀ f, ev (.func f) = .func (.func f) #[] #[] := fun f => (hev _).trans rfl
          clear hev hD
          go_simp
          exact hK _ _ rfl hG
        apply gh_det (n := 18)
        · intro fl xs w ev hG hD hl hdone hev K hK
          have e129 := (hev (.tmp 129)).trans (kx129.out xs)
          have d16 := hD.at_ 16 rfl rfl
          replace e129 := e129.trans d16
          rw [if_pos (wantedX_none rfl)]
          have ef : ∀ f, ev (.func f) = .func (.func f) #[] #[] := fun f => (hev _).trans rfl
          clear hev hD
          go_simp
          exact hK _ _ rfl hG
        clear kx0 kx4 kx5 kx113 kx114 kx115 kx116 kx117 kx118 kx119 kx120 kx121 kx122 kx123 kx124 kx125 kx126 kx127 kx128 kx129
        intro xs w9 hG hI
        have hz := hI 17 _ rfl
        have hz2 := hI 18 _ rfl
        obtain ⟨hb9, _, hP9⟩ := hG
        have hPz := Lib.hid (hP9 rfl)
        clear hI hP9
        simp only [List.append_eq, List.cons_append, List.nil_append, setAll, List.setIfInBounds_toArray, List.set_cons_zero, List.set_cons_succ]
        rw [hz, hz2]
        clear hz hz2
        have hbz := Lib.hid (hbw5.out.trans hb9)
        clear hb9
        go_wp2_with fail
        go_upto_region 25 with fail
        have hPz' := Lib.hid hPz.out
        obtain ⟨wz, hwz⟩ : ∃ q, w9 = q := ⟨_, rfl⟩
        rw [hwz] at hPz hPz' hbz ⊢
        clear hwz
        obtain ⟨X, hQ0, hR0, _, _⟩ := hPz.out
        obtain ⟨A5, c5, hh5, r50, _⟩ := hR0
        have hQ := Lib.hid hQ0
        have r5 := Lib.hid r50
        have c0 := cell_of_one hh5
        have zhp := (Array.getElem?_eq_some_iff.1 hh5).1
        have hAll : Hid (∀ W, Below wz.heap.size wz W → Calls Try.prog 34 #[.pointer (some ⟨h, 0, none⟩)] W fun e w' => RetAll W S1 e w') := fun W hW => by
          have := All_any (hQ.out.below hW)
          rw [hSt1.out.same] at this
          exact this
        have hSS : ((S1.length : Int) != (S1.length : Int)) = false := by simp
        clear hQ0 r50 hh5 hPz
        refine wp_region_ghost (fun fl x w => Below wz.heap.size wz w ∧ (fl 14 = true → ∃ A7 c7, x 14 = .slice A7 S1.length c7 ∧ Rd w 2 pairE A7 S1.length S1)) (by kernel_rfl) (by kernel_rfl) (by kernel_rfl) (by kernel_rfl) (by kernel_rfl) ?_ ?_
        · intro x0
          exact ⟨⟨rfl, rfl, rfl, Nat.le_refl _, fun _ _ => rfl⟩, fun h => by cases h⟩
        intro base O hbase hO
        have kx3 : Hid (∀ xs, evX base O xs (.tmp 3) = .pointer (some ⟨h, 0, none⟩)) := fun xs => by rw [hbase, hO]; rfl
        have kx4 : Hid (∀ xs, evX base O xs (.tmp 4) = .pointer (some ⟨hp, 0, none⟩)) := fun xs => by rw [hbase, hO]; rfl
        have kx6 : Hid (∀ xs, evX base O xs (.tmp 6) = .bool true) := fun xs => by rw [hbase, hO]; rfl
        have kx138 : Hid (∀ xs, evX base O xs (.tmp 138) = xs 0) := fun xs => by rw [hO]; rfl
        have kx139 : Hid (∀ xs, evX base O xs (.tmp 139) = xs 1) := fun xs => by rw [hO]; rfl
        have kx140 : Hid (∀ xs, evX base O xs (.tmp 140) = xs 2) := fun xs => by rw [hO]; rfl
        have kx141 : Hid (∀ xs, evX base O xs (.tmp 141) = xs 3) := fun xs => by rw [hO]; rfl
        have kx142 : Hid (∀ xs, evX base O xs (.tmp 142) = xs 4) := fun xs => by rw [hO]; rfl
        have kx143 : Hid (∀ xs, evX base O xs (.tmp 143) = xs 5) := fun xs => by rw [hO]; rfl
        have kx144 : Hid (∀ xs, evX base O xs (.tmp 144) = xs 6) := fun xs => by rw [hO]; rfl
        have kx145 : Hid (∀ xs, evX base O xs (.tmp 145) = xs 7) := fun xs => by rw [hO]; rfl
        have kx146 : Hid (∀ xs, evX base O xs (.tmp 146) = xs 8) := fun xs => by rw [hO]; rfl
        have kx147 : Hid (∀ xs, evX base O xs (.tmp 147) = xs 9) := fun xs => by rw [hO]; rfl
        have kx148 : Hid (∀ xs, evX base O xs (.tmp 148) = xs 10) := fun xs => by rw [hO]; rfl
        have kx149 : Hid (∀ xs, evX base O xs (.tmp 149) = xs 11) := fun xs => by rw [hO]; rfl
        have kx150 : Hid (∀ xs, evX base O xs (.tmp 150) = xs 12) := fun xs => by rw [hO]; rfl
        have kx151 : Hid (∀ xs, evX base O xs (.tmp 151) = xs 13) := fun xs => by rw [hO]; rfl
        have kx152 : Hid (∀ xs, evX base O xs (.tmp 152) = xs 14) := fun xs => by rw [hO]; rfl
        have kx153 : Hid (∀ xs, evX base O xs (.tmp 153) = xs 15) := fun xs => by rw [hO]; rfl
        have kx154 : Hid (∀ xs, evX base O xs (.tmp 154) = xs 16) := fun xs => by rw [hO]; rfl
        have kx155 : Hid (∀ xs, evX base O xs (.tmp 155) = xs 17) := fun xs => by rw [hO]; rfl
        have kx156 : Hid (∀ xs, evX base O xs (.tmp 156) = xs 18) := fun xs => by rw [hO]; rfl
        have kx157 : Hid (∀ xs, evX base O xs (.tmp 157) = xs 19) := fun xs => by rw [hO]; rfl
        have kx158 : Hid (∀ xs, evX base O xs (.tmp 158) = xs 20) := fun xs => by rw [hO]; rfl
        clear hbase hO
        apply gh_det (n := 0)
        · intro fl xs w ev hG hD hl hdone hev K hK
          have e6 := (hev (.tmp 6)).trans (kx6.out xs)
          rw [if_pos (wantedX_none rfl)]
          have ef : ∀ f, ev (.func f) = .func (.func f) #[] #[] := fun f => (hev _).trans rfl
          clear hev hD
          go_simp
          exact hK _ _ rfl hG
        apply gh_det (n := 1)
        · intro fl xs w ev hG hD hl hdone hev K hK
          have e138 := (hev (.tmp 138)).trans (kx138.out xs)
          have d0 := hD.at_ 0 rfl rfl
          replace e138 := e138.trans d0
          rw [if_pos (wantedX_none rfl)]
          have ef : ∀ f, ev (.func f) = .func (.func f) #[] #[] := fun f => (hev _).trans rfl
          clear hev hD
          go_simp
          exact hK _ _ rfl hG
        apply gh_det (n := 2)
        · intro fl xs w ev hG hD hl hdone hev K hK
          have e139 := (hev (.tmp 139)).trans (kx139.out xs)
          have d1 := hD.at_ 1 rfl rfl
          replace e139 := e139.trans d1
          rw [if_pos (wantedX_none rfl)]
          have ef : ∀ f, ev (.func f) = .func (.func f) #[] #[] := fun f => (hev _).trans rfl
          clear hev hD
          go_simp
          exact hK _ _ rfl hG
        apply gh_det (n := 3)
        · intro fl xs w ev hG hD hl hdone hev K hK
          have e3 := (hev (.tmp 3)).trans (kx3.out xs)
          have dg := hD.at_ 2 rfl rfl
          rw [if_pos (wantedX_yes 2 false rfl dg)]
          have ef : ∀ f, ev (.func f) = .func (.func f) #[] #[] := fun f => (hev _).trans rfl
          clear hev hD
          go_simp
          exact hK _ _ rfl hG
        apply gh_det (n := 4)
        · intro fl xs w ev hG hD hl hdone hev K hK
          have e141 := (hev (.tmp 141)).trans (kx141.out xs)
          have d3 := hD.at_ 3 rfl rfl
          replace e141 := e141.trans d3
          have dg := hD.at_ 2 rfl rfl
          rw [if_pos (wantedX_yes 2 false rfl dg)]
          have ef : ∀ f, ev (.func f) = .func (.func f) #[] #[] := fun f => (hev _).trans rfl
          clear hev hD
          go_simp
          refine (Len_any (hQ.out.below hG.1)).mono ?_; rintro e w' ⟨rfl, hw'⟩
          subst hw'
          exact ⟨_, rfl, hK _ _ rfl hG⟩
        apply gh_det (n := 5)
        · intro fl xs w ev hG hD hl hdone hev K hK
          have e4 := (hev (.tmp 4)).trans (kx4.out xs)
          have dg := hD.at_ 2 rfl rfl
          rw [if_pos (wantedX_yes 2 false rfl dg)]
          have ef : ∀ f, ev (.func f) = .func (.func f) #[] #[] := fun f => (hev _).trans rfl
          clear hev hD
          go_simp
          exact hK _ _ rfl hG
        apply gh_det (n := 6)
        · intro fl xs w ev hG hD hl hdone hev K hK
          have e143 := (hev (.tmp 143)).trans (kx143.out xs)
          have d5 := hD.at_ 5 rfl rfl
          replace e143 := e143.trans d5
          have dg := hD.at_ 2 rfl rfl
          rw [if_pos (wantedX_yes 2 false rfl dg)]
          have ef : ∀ f, ev (.func f) = .func (.func f) #[] #[] := fun f => (hev _).trans rfl
          clear hev hD
          go_simp
          exact hK _ _ rfl hG
        apply gh_det (n := 7)
        · intro fl xs w ev hG hD hl hdone hev K hK
          have e144 := (hev (.tmp 144)).trans (kx144.out xs)
          have d6 := hD.at_ 6 rfl rfl
          replace e144 := e144.trans d6
          have dg := hD.at_ 2 rfl rfl
          rw [if_pos (wantedX_yes 2 false rfl dg)]
          have ef : ∀ f, ev (.func f) = .func (.func f) #[] #[] := fun f => (hev _).trans rfl
          clear hev hD
          go_simp
          exact hK _ _ rfl hG
        apply gh_det (n := 8)
        · intro fl xs w ev hG hD hl hdone hev K hK
          have e145 := (hev (.tmp 145)).trans (kx145.out xs)
          have d7 := hD.at_ 7 rfl rfl
          replace e145 := e145.trans d7
          have dg := hD.at_ 2 rfl rfl
          rw [if_pos (wantedX_yes 2 false rfl dg)]
          have ef : ∀ f, ev (.func f) = .func (.func f) #[] #[] := fun f => (hev _).trans rfl
          clear hev hD
          have m0 := (hG.1.cell (p := ⟨hp, 0, none⟩) zhp).trans c0
          go_simp
          exact hK _ _ rfl hG
        apply gh_det (n := 9)
        · intro fl xs w ev hG hD hl hdone hev K hK
          have e146 := (hev (.tmp 146)).trans (kx146.out xs)
          have d8 := hD.at_ 8 rfl rfl
          replace e146 := e146.trans d8
          have dg := hD.at_ 2 rfl rfl
          rw [if_pos (wantedX_yes 2 false rfl dg)]
          have ef : ∀ f, ev (.func f) = .func (.func f) #[] #[] := fun f => (hev _).trans rfl
          clear hev hD
          go_simp
          exact hK _ _ rfl hG
        apply gh_det (n := 10)
        · intro fl xs w ev hG hD hl hdone hev K hK
          have e142 := (hev (.tmp 142)).trans (kx142.out xs)
          have d4 := hD.at_ 4 rfl rfl
          replace e142 := e142.trans d4
          have e147 := (hev (.tmp 147)).trans (kx147.out xs)
          have d9 := hD.at_ 9 rfl rfl
          replace e147 := e147.trans d9
          have dg := hD.at_ 2 rfl rfl
          rw [if_pos (wantedX_yes 2 false rfl dg)]
          have ef : ∀ f, ev (.func f) = .func (.func f) #[] #[] := fun f => (hev _).trans rfl
          clear hev hD
          go_simp
          exact hK _ _ rfl hG
        apply gh_det (n := 11)
        · intro fl xs w ev hG hD hl hdone hev K hK
          have e140 := (hev (.tmp 140)).trans (kx140.out xs)
          have d2 := hD.at_ 2 rfl rfl
          replace e140 := e140.trans d2
          have e148 := (hev (.tmp 148)).trans (kx148.out xs)
          have d10 := hD.at_ 10 rfl rfl
          replace e148 := e148.trans d10
          rw [if_pos (wantedX_none rfl)]
          have ef : ∀ f, ev (.func f) = .func (.func f) #[] #[] := fun f => (hev _).trans rfl
          have ec : ∀ v, ev (.const v) = v := fun v => (hev _).trans rfl
          clear hev hD
          go_simp
          exact hK _ _ rfl hG
        apply gh_det (n := 12)
        · intro fl xs w ev hG hD hl hdone hev K hK
          have e149 := (hev (.tmp 149)).trans (kx149.out xs)
          have d11 := hD.at_ 11 rfl rfl
          replace e149 := e149.trans d11
          rw [if_pos (wantedX_none rfl)]
          have ef : ∀ f, ev (.func f) = .func (.func f) #[] #[] := fun f => (hev _).trans rfl
          clear hev hD
          go_simp
          exact hK _ _ rfl hG
        apply gh_det (n := 13)
        · intro fl xs w ev hG hD hl hdone hev K hK
          have e3 := (hev (.tmp 3)).trans (kx3.out xs)
          have dg := hD.at_ 12 rfl rfl
          rw [if_pos (wantedX_yes 12 false rfl dg)]
          have ef : ∀ f, ev (.func f) = .func (.func f) #[] #[] := fun f => (hev _).trans rfl
          clear hev hD
          go_simp
          exact hK _ _ rfl hG
        refine gh_any (n := 14) (fun _ => True) ?_ ?_
        · intro fl xs w ev hG hD hl hdone hev K hK
          have e151 := (hev (.tmp 151)).trans (kx151.out xs)
          have d13 := hD.at_ 13 rfl rfl
          replace e151 := e151.trans d13
          have dg := hD.at_ 12 rfl rfl
          rw [if_pos (wantedX_yes 12 false rfl dg)]
          have ef : ∀ f, ev (.func f) = .func (.func f) #[] #[] := fun f => (hev _).trans rfl
          clear hev hD
          go_simp
          refine (hAll.out _ hG.1).mono ?_; rintro e w' ⟨A7, c7, rfl, r7, _, _, hb7⟩
          exact ⟨_, rfl, hK _ _ trivial ⟨hG.1.trans (hb7.mono hG.1.size), fun _ => ⟨A7, c7, rfl, r7⟩⟩⟩
        apply gh_det (n := 15)
        · intro fl xs w ev hG hD hl hdone hev K hK
          have e4 := (hev (.tmp 4)).trans (kx4.out xs)
          have dg := hD.at_ 12 rfl rfl
          rw [if_pos (wantedX_yes 12 false rfl dg)]
          have ef : ∀ f, ev (.func f) = .func (.func f) #[] #[] := fun f => (hev _).trans rfl
          clear hev hD
          go_simp
          exact hK _ _ rfl hG
        apply gh_det (n := 16)
        · intro fl xs w ev hG hD hl hdone hev K hK
          have e153 := (hev (.tmp 153)).trans (kx153.out xs)
          have d15 := hD.at_ 15 rfl rfl
          replace e153 := e153.trans d15
          have dg := hD.at_ 12 rfl rfl
          rw [if_pos (wantedX_yes 12 false rfl dg)]
          have ef : ∀ f, ev (.func f) = .func (.func f) #[] #[] := fun f => (hev _).trans rfl
          clear hev hD
          go_simp
          exact hK _ _ rfl hG
        apply gh_det (n := 17)
        · intro fl xs w ev hG hD hl hdone hev K hK
          have e154 := (hev (.tmp 154)).trans (kx154.out xs)
          have d16 := hD.at_ 16 rfl rfl
          replace e154 := e154.trans d16
          have dg := hD.at_ 12 rfl rfl
          rw [if_pos (wantedX_yes 12 false rfl dg)]
          have ef : ∀ f, ev (.func f) = .func (.func f) #[] #[] := fun f => (hev _).trans rfl
          clear hev hD
          go_simp
          exact hK _ _ rfl hG
        apply gh_det (n := 18)
        · intro fl xs w ev hG hD hl hdone hev K hK
          have e155 := (hev (.tmp 155)).trans (kx155.out xs)
          have d17 := hD.at_ 17 rfl rfl
          replace e155 := e155.trans d17
          have dg := hD.at_ 12 rfl rfl
          rw [if_pos (wantedX_yes 12 false rfl dg)]
          have ef : ∀ f, ev (.func f) = .func (.func f) #[] #[] := fun f => (hev _).trans rfl
          clear hev hD
          have m0 := (hG.1.cell (p := ⟨hp, 0, none⟩) zhp).trans c0
          go_simp
          exact hK _ _ rfl hG
        apply gh_det (n := 19)
        · intro fl xs w ev hG hD hl hdone hev K hK
          have e152 := (hev (.tmp 152)).trans (kx152.out xs)
          have e156 := (hev (.tmp 156)).trans (kx156.out xs)
          have d18 := hD.at_ 18 rfl rfl
          replace e156 := e156.trans d18
          have dg := hD.at_ 12 rfl rfl
          rw [if_pos (wantedX_yes 12 false rfl dg)]
          have ef : ∀ f, ev (.func f) = .func (.func f) #[] #[] := fun f => (hev _).trans rfl
          clear hev hD
          obtain ⟨A7, c7, e7, r7⟩ := hG.2 (done_of hdone 14 rfl)
          have hSm := sameI_any A7 S1.length c7 S1 A5 S1.length c5 S1 w r7 (r5.out.below hG.1) hS1l hS1l
          rw [decide_eq_true rfl] at hSm
          have hSmh := Lib.hid hSm
          rw [e7] at e152
          clear hSm r7 e7
          go_simp
          refine hSmh.out.mono ?_; rintro e w' ⟨rfl, hb7⟩
          exact ⟨_, rfl, hK _ _ rfl ⟨hG.1.trans (hb7.mono hG.1.size), fun h => by obtain ⟨A8, c8, e8, r8⟩ := hG.2 h; exact ⟨A8, c8, e8, r8.below hb7⟩⟩⟩
        apply gh_det (n := 20)
        · intro fl xs w ev hG hD hl hdone hev K hK
          have e157 := (hev (.tmp 157)).trans (kx157.out xs)
          have d19 := hD.at_ 19 rfl rfl
          replace e157 := e157.trans d19
          have dg := hD.at_ 12 rfl rfl
          rw [if_pos (wantedX_yes 12 false rfl dg)]
          have ef : ∀ f, ev (.func f) = .func (.func f) #[] #[] := fun f => (hev _).trans rfl
          clear hev hD
          go_simp
          exact hK _ _ rfl hG
        apply gh_det (n := 21)
        · intro fl xs w ev hG hD hl hdone hev K hK
          have e150 := (hev (.tmp 150)).trans (kx150.out xs)
          have d12 := hD.at_ 12 rfl rfl
          replace e150 := e150.trans d12
          have e158 := (hev (.tmp 158)).trans (kx158.out xs)
          have d20 := hD.at_ 20 rfl rfl
          replace e158 := e158.trans d20
          rw [if_pos (wantedX_none rfl)]
          have ef : ∀ f, ev (.func f) = .func (.func f) #[] #[] := fun f => (hev _).trans rfl
          have ec : ∀ v, ev (.const v) = v := fun v => (hev _).trans rfl
          clear hev hD
          go_simp
          exact hK _ _ rfl hG
        clear kx3 kx4 kx6 kx138 kx139 kx140 kx141 kx142 kx143 kx144 kx145 kx146 kx147 kx148 kx149 kx150 kx151 kx152 kx153 kx154 kx155 kx156 kx157 kx158
        intro xs w10 hG hI
        have hz := hI 21 _ rfl
        obtain ⟨hb9, _⟩ := hG
        have hfin : Hid (Pr w10 w1.heap.size h hp S1 S1 ∧ St S1 ∧ S1.length ≤ k + 1 ∧ Below w1.heap.size w1 w10) := ⟨hPz'.out.below hb9, hSt1.out, hS1k, hbz.out.trans (hb9.mono hbz.out.size)⟩
        clear hI hb9
        simp only [List.append_eq, List.cons_append, List.nil_append, setAll, List.setIfInBounds_toArray, List.set_cons_zero, List.set_cons_succ]
        rw [hz]
        clear hz
        go_wp2_with fail
        go_roundw
        case rel => exact ⟨k + 1, S1, by omega, by go_num, hfin.out⟩
        case measure => simp [intOf]; omega
      · obtain ⟨y1, y2, pb, hV⟩ := popV_form S
        obtain ⟨S1, hS1⟩ : ∃ q, S = q := ⟨_, rfl⟩
        have hHP : Hid (∀ W, Pr W w1.heap.size h hp S S → Calls Try.prog 37 #[.pointer (some ⟨h, 0, none⟩)] W fun e w' => e = .returned (.tuple #[.agg #[.int .i64 y1, .int .i64 y2], .bool pb]) ∧ Pr w' w1.heap.size h hp S1 S ∧ Below w1.heap.size W w') := fun W HW => by
          rw [← hS1, ← hV]; exact hTop_step HW hSth.out
        have hRP : Hid (∀ W, Pr W w1.heap.size h hp S1 S → Calls Try.prog 42 #[.pointer (some ⟨hp, 0, none⟩)] W fun e w' => e = .returned (.tuple #[.agg #[.int .i64 y1, .int .i64 y2], .bool pb]) ∧ Pr w' w1.heap.size h hp S1 S1 ∧ Below w1.heap.size W w' ∧ But W w' [hp]) := fun W HW => by
          have := rTop_step HW
          rw [hV] at this
          rw [← hS1] at this ⊢
          exact this
        have hSt1 : Hid (St S1) := by rw [← hS1]; exact hSth.out
        have hS1k : S1.length ≤ k + 1 := by rw [← hS1]; omega
        have hS1l : S1.length ≤ 1099511627776 := by omega
        have e1 : (y1 == y1) = true := by simp
        have e2 : (y2 == y2) = true := by simp
        have e3 : (pb == pb) = true := by simp
        clear hS1 hV hSth
        go_wp2_with fail
        refine (hHP.out _ hPr4.out).mono ?_; rintro e w5 ⟨rfl, hP5, hb5⟩
        have ha5 := (Below.refl _ w5).alloc (Nat.le_refl w5.heap.size) (.cells #[.int .i64 y1, .int .i64 y2] 53)
        have hn5 := heap_alloc_new w5 (.cells #[.int .i64 y1, .int .i64 y2] 53)
        have hPW5 := Lib.hid (hP5.below ha5)
        have hbW5 := Lib.hid (hbw4.out.trans (hb5.trans (ha5.mono hP5.bas)))
        have hhp5 := hP5.lt
        obtain ⟨W5, hW5⟩ : ∃ q, w5.alloc (.cells #[.int .i64 y1, .int .i64 y2] 53) = q := ⟨_, rfl⟩
        obtain ⟨b5, hb5e⟩ : ∃ q, w5.heap.size = q := ⟨_, rfl⟩
        rw [hW5] at hn5 hPW5 hbW5
        rw [hb5e] at hn5
        have hn5h := Lib.hid hn5
        clear hHP hP5 hb5 ha5 hn5
        go_wp2_with fail
        refine (hRP.out _ hPW5.out).mono ?_; rintro e w6 ⟨rfl, hP6, hb6, hbut6⟩
        have hl5 := (Array.getElem?_eq_some_iff.1 hn5h.out).1
        have hn56 := (hbut6.keep b5 hl5 (by simp; omega)).trans hn5h.out
        have hl56 := (Array.getElem?_eq_some_iff.1 hn56).1
        have ha6 := (Below.refl _ w6).alloc (Nat.le_refl w6.heap.size) (.cells #[.int .i64 y1, .int .i64 y2] 53)
        have hn6 := heap_alloc_new w6 (.cells #[.int .i64 y1, .int .i64 y2] 53)
        have hPz := Lib.hid (hP6.below ha6)
        have hbz := Lib.hid (hbW5.out.trans (hb6.trans (ha6.mono hP6.bas)))
        have hn57 := (ha6.block b5 hl56).trans hn56
        obtain ⟨W6, hW6⟩ : ∃ q, w6.alloc (.cells #[.int .i64 y1, .int .i64 y2] 53) = q := ⟨_, rfl⟩
        obtain ⟨b6, hb6e⟩ : ∃ q, w6.heap.size = q := ⟨_, rfl⟩
        rw [hW6] at hn6 hPz hbz hn57
        rw [hb6e] at hn6
        have k0 : W6.cell? ⟨b5, 0, none⟩ = some (.int .i64 y1) := by rw [cell_of_row _ _ _ _ _ _ hn57]; rfl
        have k1 : W6.cell? ⟨b5, 1, none⟩ = some (.int .i64 y2) := by rw [cell_of_row _ _ _ _ _ _ hn57]; rfl
        have k2 : W6.cell? ⟨b6, 0, none⟩ = some (.int .i64 y1) := by rw [cell_of_row _ _ _ _ _ _ hn6]; rfl
        have k3 : W6.cell? ⟨b6, 1, none⟩ = some (.int .i64 y2) := by rw [cell_of_row _ _ _ _ _ _ hn6]; rfl
        clear hRP hP6 hb6 hbut6 hn56 ha6 hn6 hn57 hPW5 hn5h
        go_wp2_with fail
        go_upto_region 25 with fail
        have hPz' := Lib.hid hPz.out
        obtain ⟨wz, hwz⟩ : ∃ q, W6 = q := ⟨_, rfl⟩
        rw [hwz] at hPz hPz' hbz ⊢
        clear hwz
        obtain ⟨X, hQ0, hR0, _, _⟩ := hPz.out
        obtain ⟨A5, c5, hh5, r50, _⟩ := hR0
        have hQ := Lib.hid hQ0
        have r5 := Lib.hid r50
        have c0 := cell_of_one hh5
        have zhp := (Array.getElem?_eq_some_iff.1 hh5).1
        have hAll : Hid (∀ W, Below wz.heap.size wz W → Calls Try.prog 34 #[.pointer (some ⟨h, 0, none⟩)] W fun e w' => RetAll W S1 e w') := fun W hW => by
          have := All_any (hQ.out.below hW)
          rw [hSt1.out.same] at this
          exact this
        have hSS : ((S1.length : Int) != (S1.length : Int)) = false := by simp
        clear hQ0 r50 hh5 hPz
        refine wp_region_ghost (fun fl x w => Below wz.heap.size wz w ∧ (fl 14 = true → ∃ A7 c7, x 14 = .slice A7 S1.length c7 ∧ Rd w 2 pairE A7 S1.length S1)) (by kernel_rfl) (by kernel_rfl) (by kernel_rfl) (by kernel_rfl) (by kernel_rfl) ?_ ?_
        · intro x0
          exact ⟨⟨rfl, rfl, rfl, Nat.le_refl _, fun _ _ => rfl⟩, fun h => by cases h⟩
        intro base O hbase hO
        have kx3 : Hid (∀ xs, evX base O xs (.tmp 3) = .pointer (some ⟨h, 0, none⟩)) := fun xs => by rw [hbase, hO]; rfl
        have kx4 : Hid (∀ xs, evX base O xs (.tmp 4) = .pointer (some ⟨hp, 0, none⟩)) := fun xs => by rw [hbase, hO]; rfl
        have kx6 : Hid (∀ xs, evX base O xs (.tmp 6) = .bool true) := fun xs => by rw [hbase, hO]; rfl
        have kx138 : Hid (∀ xs, evX base O xs (.tmp 138) = xs 0) := fun xs => by rw [hO]; rfl
        have kx139 : Hid (∀ xs, evX base O xs (.tmp 139) = xs 1) := fun xs => by rw [hO]; rfl
        have kx140 : Hid (∀ xs, evX base O xs (.tmp 140) = xs 2) := fun xs => by rw [hO]; rfl
        have kx141 : Hid (∀ xs, evX base O xs (.tmp 141) = xs 3) := fun xs => by rw [hO]; rfl
        have kx142 : Hid (∀ xs, evX base O xs (.tmp 142) = xs 4) := fun xs => by rw [hO]; rfl
        have kx143 : Hid (∀ xs, evX base O xs (.tmp 143) = xs 5) := fun xs => by rw [hO]; rfl
        have kx144 : Hid (∀ xs, evX base O xs (.tmp 144) = xs 6) := fun xs => by rw [hO]; rfl
        have kx145 : Hid (∀ xs, evX base O xs (.tmp 145) = xs 7) := fun xs => by rw [hO]; rfl
        have kx146 : Hid (∀ xs, evX base O xs (.tmp 146) = xs 8) := fun xs => by rw [hO]; rfl
        have kx147 : Hid (∀ xs, evX base O xs (.tmp 147) = xs 9) := fun xs => by rw [hO]; rfl
        have kx148 : Hid (∀ xs, evX base O xs (.tmp 148) = xs 10) := fun xs => by rw [hO]; rfl
        have kx149 : Hid (∀ xs, evX base O xs (.tmp 149) = xs 11) := fun xs => by rw [hO]; rfl
        have kx150 : Hid (∀ xs, evX base O xs (.tmp 150) = xs 12) := fun xs => by rw [hO]; rfl
        have kx151 : Hid (∀ xs, evX base O xs (.tmp 151) = xs 13) := fun xs => by rw [hO]; rfl
        have kx152 : Hid (∀ xs, evX base O xs (.tmp 152) = xs 14) := fun xs => by rw [hO]; rfl
        have kx153 : Hid (∀ xs, evX base O xs (.tmp 153) = xs 15) := fun xs => by rw [hO]; rfl
        have kx154 : Hid (∀ xs, evX base O xs (.tmp 154) = xs 16) := fun xs => by rw [hO]; rfl
        have kx155 : Hid (∀ xs, evX base O xs (.tmp 155) = xs 17) := fun xs => by rw [hO]; rfl
        have kx156 : Hid (∀ xs, evX base O xs (.tmp 156) = xs 18) := fun xs => by rw [hO]; rfl
        have kx157 : Hid (∀ xs, evX base O xs (.tmp 157) = xs 19) := fun xs => by rw [hO]; rfl
        have kx158 : Hid (∀ xs, evX base O xs (.tmp 158) = xs 20) := fun xs => by rw [hO]; rfl
        clear hbase hO
        apply gh_det (n := 0)
        · intro fl xs w ev hG hD hl hdone hev K hK
          have e6 := (hev (.tmp 6)).trans (kx6.out xs)
          rw [if_pos (wantedX_none rfl)]
          have ef : ∀ f, ev (.func f) = .func (.func f) #[] #[] := fun f => (hev _).trans rfl
          clear hev hD
          go_simp
          exact hK _ _ rfl hG
        apply gh_det (n := 1)
        · intro fl xs w ev hG hD hl hdone hev K hK
          have e138 := (hev (.tmp 138)).trans (kx138.out xs)
          have d0 := hD.at_ 0 rfl rfl
          replace e138 := e138.trans d0
          rw [if_pos (wantedX_none rfl)]
          have ef : ∀ f, ev (.func f) = .func (.func f) #[] #[] := fun f => (hev _).trans rfl
          clear hev hD
          go_simp
          exact hK _ _ rfl hG
        apply gh_det (n := 2)
        · intro fl xs w ev hG hD hl hdone hev K hK
          have e139 := (hev (.tmp 139)).trans (kx139.out xs)
          have d1 := hD.at_ 1 rfl rfl
          replace e139 := e139.trans d1
          rw [if_pos (wantedX_none rfl)]
          have ef : ∀ f, ev (.func f) = .func (.func f) #[] #[] := fun f => (hev _).trans rfl
          clear hev hD
          go_simp
          exact hK _ _ rfl hG
        apply gh_det (n := 3)
        · intro fl xs w ev hG hD hl hdone hev K hK
          have e3 := (hev (.tmp 3)).trans (kx3.out xs)
          have dg := hD.at_ 2 rfl rfl
          rw [if_pos (wantedX_yes 2 false rfl dg)]
          have ef : ∀ f, ev (.func f) = .func (.func f) #[] #[] := fun f => (hev _).trans rfl
          clear hev hD
          go_simp
          exact hK _ _ rfl hG
        apply gh_det (n := 4)
        · intro fl xs w ev hG hD hl hdone hev K hK
          have e141 := (hev (.tmp 141)).trans (kx141.out xs)
          have d3 := hD.at_ 3 rfl rfl
          replace e141 := e141.trans d3
          have dg := hD.at_ 2 rfl rfl
          rw [if_pos (wantedX_yes 2 false rfl dg)]
          have ef : ∀ f, ev (.func f) = .func (.func f) #[] #[] := fun f => (hev _).trans rfl
          clear hev hD
          go_simp
          refine (Len_any (hQ.out.below hG.1)).mono ?_; rintro e w' ⟨rfl, hw'⟩
          subst hw'
          exact ⟨_, rfl, hK _ _ rfl hG⟩
        apply gh_det (n := 5)
        · intro fl xs w ev hG hD hl hdone hev K hK
          have e4 := (hev (.tmp 4)).trans (kx4.out xs)
          have dg := hD.at_ 2 rfl rfl
          rw [if_pos (wantedX_yes 2 false rfl dg)]
          have ef : ∀ f, ev (.func f) = .func (.func f) #[] #[] := fun f => (hev _).trans rfl
          clear hev hD
          go_simp
          exact hK _ _ rfl hG
        apply gh_det (n := 6)
        · intro fl xs w ev hG hD hl hdone hev K hK
          have e143 := (hev (.tmp 143)).trans (kx143.out xs)
          have d5 := hD.at_ 5 rfl rfl
          replace e143 := e143.trans d5
          have dg := hD.at_ 2 rfl rfl
          rw [if_pos (wantedX_yes 2 false rfl dg)]
          have ef : ∀ f, ev (.func f) = .func (.func f) #[] #[] := fun f => (hev _).trans rfl
          clear hev hD
          go_simp
          exact hK _ _ rfl hG
        apply gh_det (n := 7)
        · intro fl xs w ev hG hD hl hdone hev K hK
          have e144 := (hev (.tmp 144)).trans (kx144.out xs)
          have d6 := hD.at_ 6 rfl rfl
          replace e144 := e144.trans d6
          have dg := hD.at_ 2 rfl rfl
          rw [if_pos (wantedX_yes 2 false rfl dg)]
          have ef : ∀ f, ev (.func f) = .func (.func f) #[] #[] := fun f => (hev _).trans rfl
          clear hev hD
          go_simp
          exact hK _ _ rfl hG
        apply gh_det (n := 8)
        · intro fl xs w ev hG hD hl hdone hev K hK
          have e145 := (hev (.tmp 145)).trans (kx145.out xs)
          have d7 := hD.at_ 7 rfl rfl
          replace e145 := e145.trans d7
          have dg := hD.at_ 2 rfl rfl
          rw [if_pos (wantedX_yes 2 false rfl dg)]
          have ef : ∀ f, ev (.func f) = .func (.func f) #[] #[] := fun f => (hev _).trans rfl
          clear hev hD
          have m0 := (hG.1.cell (p := ⟨hp, 0, none⟩) zhp).trans c0
          go_simp
          exact hK _ _ rfl hG
        apply gh_det (n := 9)
        · intro fl xs w ev hG hD hl hdone hev K hK
          have e146 := (hev (.tmp 146)).trans (kx146.out xs)
          have d8 := hD.at_ 8 rfl rfl
          replace e146 := e146.trans d8
          have dg := hD.at_ 2 rfl rfl
          rw [if_pos (wantedX_yes 2 false rfl dg)]
          have ef : ∀ f, ev (.func f) = .func (.func f) #[] #[] := fun f => (hev _).trans rfl
          clear hev hD
          go_simp
          exact hK _ _ rfl hG
        apply gh_det (n := 10)
        · intro fl xs w ev hG hD hl hdone hev K hK
          have e142 := (hev (.tmp 142)).trans (kx142.out xs)
          have d4 := hD.at_ 4 rfl rfl
          replace e142 := e142.trans d4
          have e147 := (hev (.tmp 147)).trans (kx147.out xs)
          have d9 := hD.at_ 9 rfl rfl
          replace e147 := e147.trans d9
          have dg := hD.at_ 2 rfl rfl
          rw [if_pos (wantedX_yes 2 false rfl dg)]
          have ef : ∀ f, ev (.func f) = .func (.func f) #[] #[] := fun f => (hev _).trans rfl
          clear hev hD
          go_simp
          exact hK _ _ rfl hG
        apply gh_det (n := 11)
        · intro fl xs w ev hG hD hl hdone hev K hK
          have e140 := (hev (.tmp 140)).trans (kx140.out xs)
          have d2 := hD.at_ 2 rfl rfl
          replace e140 := e140.trans d2
          have e148 := (hev (.tmp 148)).trans (kx148.out xs)
          have d10 := hD.at_ 10 rfl rfl
          replace e148 := e148.trans d10
          rw [if_pos (wantedX_none rfl)]
          have ef : ∀ f, ev (.func f) = .func (.func f) #[] #[] := fun f => (hev _).trans rfl
          have ec : ∀ v, ev (.const v) = v := fun v => (hev _).trans rfl
          clear hev hD
          go_simp
          exact hK _ _ rfl hG
        apply gh_det (n := 12)
        · intro fl xs w ev hG hD hl hdone hev K hK
          have e149 := (hev (.tmp 149)).trans (kx149.out xs)
          have d11 := hD.at_ 11 rfl rfl
          replace e149 := e149.trans d11
          rw [if_pos (wantedX_none rfl)]
          have ef : ∀ f, ev (.func f) = .func (.func f) #[] #[] := fun f => (hev _).trans rfl
          clear hev hD
          go_simp
          exact hK _ _ rfl hG
        apply gh_det (n := 13)
        · intro fl xs w ev hG hD hl hdone hev K hK
          have e3 := (hev (.tmp 3)).trans (kx3.out xs)
          have dg := hD.at_ 12 rfl rfl
          rw [if_pos (wantedX_yes 12 false rfl dg)]
          have ef : ∀ f, ev (.func f) = .func (.func f) #[] #[] := fun f => (hev _).trans rfl
          clear hev hD
          go_simp
          exact hK _ _ rfl hG
        refine gh_any (n := 14) (fun _ => True) ?_ ?_
        · intro fl xs w ev hG hD hl hdone hev K hK
          have e151 := (hev (.tmp 151)).trans (kx151.out xs)
          have d13 := hD.at_ 13 rfl rfl
          replace e151 := e151.trans d13
          have dg := hD.at_ 12 rfl rfl
          rw [if_pos (wantedX_yes 12 false rfl dg)]
          have ef : ∀ f, ev (.func f) = .func (.func f) #[] #[] := fun f => (hev _).trans rfl
          clear hev hD
          go_simp
          refine (hAll.out _ hG.1).mono ?_; rintro e w' ⟨A7, c7, rfl, r7, _, _, hb7⟩
          exact ⟨_, rfl, hK _ _ trivial ⟨hG.1.trans (hb7.mono hG.1.size), fun _ => ⟨A7, c7, rfl, r7⟩⟩⟩
        apply gh_det (n := 15)
        · intro fl xs w ev hG hD hl hdone hev K hK
          have e4 := (hev (.tmp 4)).trans (kx4.out xs)
          have dg := hD.at_ 12 rfl rfl
          rw [if_pos (wantedX_yes 12 false rfl dg)]
          have ef : ∀ f, ev (.func f) = .func (.func f) #[] #[] := fun f => (hev _).trans rfl
          clear hev hD
          go_simp
          exact hK _ _ rfl hG
        apply gh_det (n := 16)
        · intro fl xs w ev hG hD hl hdone hev K hK
          have e153 := (hev (.tmp 153)).trans (kx153.out xs)
          have d15 := hD.at_ 15 rfl rfl
          replace e153 := e153.trans d15
          have dg := hD.at_ 12 rfl rfl
          rw [if_pos (wantedX_yes 12 false rfl dg)]
          have ef : ∀ f, ev (.func f) = .func (.func f) #[] #[] := fun f => (hev _).trans rfl
          clear hev hD
          go_simp
          exact hK _ _ rfl hG
        apply gh_det (n := 17)
        · intro fl xs w ev hG hD hl hdone hev K hK
          have e154 := (hev (.tmp 154)).trans (kx154.out xs)
          have d16 := hD.at_ 16 rfl rfl
          replace e154 := e154.trans d16
          have dg := hD.at_ 12 rfl rfl
          rw [if_pos (wantedX_yes 12 false rfl dg)]
          have ef : ∀ f, ev (.func f) = .func (.func f) #[] #[] := fun f => (hev _).trans rfl
          clear hev hD
          go_simp
          exact hK _ _ rfl hG
        apply gh_det (n := 18)
        · intro fl xs w ev hG hD hl hdone hev K hK
          have e155 := (hev (.tmp 155)).trans (kx155.out xs)
          have d17 := hD.at_ 17 rfl rfl
          replace e155 := e155.trans d17
          have dg := hD.at_ 12 rfl rfl
          rw [if_pos (wantedX_yes 12 false rfl dg)]
          have ef : ∀ f, ev (.func f) = .func (.func f) #[] #[] := fun f => (hev _).trans rfl
          clear hev hD
          have m0 := (hG.1.cell (p := ⟨hp, 0, none⟩) zhp).trans c0
          go_simp
          exact hK _ _ rfl hG
        apply gh_det (n := 19)
        · intro fl xs w ev hG hD hl hdone hev K hK
          have e152 := (hev (.tmp 152)).trans (kx152.out xs)
          have e156 := (hev (.tmp 156)).trans (kx156.out xs)
          have d18 := hD.at_ 18 rfl rfl
          replace e156 := e156.trans d18
          have dg := hD.at_ 12 rfl rfl
          rw [if_pos (wantedX_yes 12 false rfl dg)]
          have ef : ∀ f, ev (.func f) = .func (.func f) #[] #[] := fun f => (hev _).trans rfl
          clear hev hD
          obtain ⟨A7, c7, e7, r7⟩ := hG.2 (done_of hdone 14 rfl)
          have hSm := sameI_any A7 S1.length c7 S1 A5 S1.length c5 S1 w r7 (r5.out.below hG.1) hS1l hS1l
          rw [decide_eq_true rfl] at hSm
          have hSmh := Lib.hid hSm
          rw [e7] at e152
          clear hSm r7 e7
          go_simp
          refine hSmh.out.mono ?_; rintro e w' ⟨rfl, hb7⟩
          exact ⟨_, rfl, hK _ _ rfl ⟨hG.1.trans (hb7.mono hG.1.size), fun h => by obtain ⟨A8, c8, e8, r8⟩ := hG.2 h; exact ⟨A8, c8, e8, r8.below hb7⟩⟩⟩
        apply gh_det (n := 20)
        · intro fl xs w ev hG hD hl hdone hev K hK
          have e157 := (hev (.tmp 157)).trans (kx157.out xs)
          have d19 := hD.at_ 19 rfl rfl
          replace e157 := e157.trans d19
          have dg := hD.at_ 12 rfl rfl
          rw [if_pos (wantedX_yes 12 false rfl dg)]
          have ef : ∀ f, ev (.func f) = .func (.func f) #[] #[] := fun f => (hev _).trans rfl
          clear hev hD
          go_simp
          exact hK _ _ rfl hG
        apply gh_det (n := 21)
        · intro fl xs w ev hG hD hl hdone hev K hK
          have e150 := (hev (.tmp 150)).trans (kx150.out xs)
          have d12 := hD.at_ 12 rfl rfl
          replace e150 := e150.trans d12
          have e158 := (hev (.tmp 158)).trans (kx158.out xs)
          have d20 := hD.at_ 20 rfl rfl
          replace e158 := e158.trans d20
          rw [if_pos (wantedX_none rfl)]
          have ef : ∀ f, ev (.func f) = .func (.func f) #[] #[] := fun f => (hev _).trans rfl
          have ec : ∀ v, ev (.const v) = v := fun v => (hev _).trans rfl
          clear hev hD
          go_simp
          exact hK _ _ rfl hG
        clear kx3 kx4 kx6 kx138 kx139 kx140 kx141 kx142 kx143 kx144 kx145 kx146 kx147 kx148 kx149 kx150 kx151 kx152 kx153 kx154 kx155 kx156 kx157 kx158
        intro xs w10 hG hI
        have hz := hI 21 _ rfl
        obtain ⟨hb9, _⟩ := hG
        have hfin : Hid (Pr w10 w1.heap.size h hp S1 S1 ∧ St S1 ∧ S1.length ≤ k + 1 ∧ Below w1.heap.size w1 w10) := ⟨hPz'.out.below hb9, hSt1.out, hS1k, hbz.out.trans (hb9.mono hbz.out.size)⟩
        clear hI hb9
        simp only [List.append_eq, List.cons_append, List.nil_append, setAll, List.setIfInBounds_toArray, List.set_cons_zero, List.set_cons_succ]
        rw [hz]
        clear hz
        go_wp2_with fail
        go_roundw
        case rel => exact ⟨k + 1, S1, by omega, by go_num, hfin.out⟩
        case measure => simp [intOf]; omega
    · obtain rfl : k = n := by omega
      have hkn : decide ((k : Int) < (k : Int)) = false := decide_eq_false (by omega)
      have hfin := Lib.hid (hb1h.out.trans (hH.out.2.2.2.mono hb1h.out.size))
      clear hH
      go_wp2_with fail
      go_returns
      exact ⟨rfl, hfin.out⟩
end Go.Proofs.Ytapfndjaimfcaaa
