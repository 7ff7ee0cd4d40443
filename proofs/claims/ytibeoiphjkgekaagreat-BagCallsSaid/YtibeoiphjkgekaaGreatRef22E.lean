/-
  Walks: the reference's PutTriple, Put (gen18.py).
-/
import Derived.Test.YtibeoiphjkgekaaGreatRef22D
namespace Go.Proofs.YtibeoiphjkgekaaGreat
open Go.RowKit B K Go.Shelf
set_option linter.unusedVariables false
set_option linter.unusedSimpArgs false
set_option maxHeartbeats 4000000
set_option maxRecDepth 100000 in
theorem rPut3_any (x1 x2 x3 : Int) (A : Option Addr) (n c : Nat) (l : List P3) (w0 : World) (hr : Rd w0 3 tripE A n l) (hn : n ≤ 1000000) :
    Calls Tryz.prog 10 #[.slice A n c, .agg #[.int .i64 x1, .int .i64 x2, .int .i64 x3]] w0 fun e w' => RetP 3 tripE w0 (L3 (l ++ [(x1, x2, x3)])) (decide ((x1, x2, x3) ∈ L3 (l ++ [(x1, x2, x3)])) && !decide ((x1, x2, x3) ∈ l)) e w' := by
  have bx := Bx3.new w0 27 x1 x2 x3
  have hb0 : Below w0.heap.size w0 (w0.alloc (.cells #[.int .i64 x1, .int .i64 x2, .int .i64 x3] 27)) := (Below.refl _ w0).alloc (Nat.le_refl _) _
  have hll := Lib.hid hr.len
  have r1 := Lib.hid (hr.below hb0)
  obtain ⟨W1, hW1⟩ : ∃ q, w0.alloc (.cells #[.int .i64 x1, .int .i64 x2, .int .i64 x3] 27) = q := ⟨_, rfl⟩
  obtain ⟨bk, hbk⟩ : ∃ q, w0.heap.size = q := ⟨_, rfl⟩
  rw [hW1] at bx hb0 r1
  rw [hbk] at bx
  have b0 := bx.c0
  have b1 := bx.c1
  have b2 := bx.c2
  have zbk := bx.lt
  have hb0h := Lib.hid hb0
  obtain ⟨K3, hK3⟩ : ∃ K3, L3 (l ++ [(x1, x2, x3)]) = K3 := ⟨_, rfl⟩
  have hK3l : K3.length ≤ 1000001 := by
    rw [← hK3]
    have := L3_len (l ++ [(x1, x2, x3)])
    rw [List.length_append, hll.out] at this
    simp only [List.length_cons, List.length_nil] at this
    omega
  have hLst : Hid (∀ (W : World) (A7 : Option Addr) (n7 c7 : Nat), Rd W 3 tripE A7 n7 (l ++ [(x1, x2, x3)]) → n7 ≤ 1099511627 → Calls Tryz.prog 16 #[.slice A7 n7 c7] W fun e w' => RetR 3 tripE W K3 e w') := fun W A7 n7 c7 h1 h2 => by
    rw [← hK3]; exact rLeast3_any A7 n7 c7 _ W h1 h2
  rw [hK3]
  obtain ⟨bb, hbb⟩ : ∃ bb, (decide ((x1, x2, x3) ∈ K3) && !decide ((x1, x2, x3) ∈ l)) = bb := ⟨_, rfl⟩
  rw [hbb]
  have hbbh := Lib.hid hbb
  clear hr bx hb0 hK3 hbb
  go_enter Tryz.func10, Tryz.ntmps10
  go_upto_region 1 with fail
  refine wp_region_ghost (fun fl x w => Below W1.heap.size W1 w ∧ (fl 6 = false → GT3 tripE 27 3 W1 undef l (l ++ [(x1, x2, x3)]) (l ++ [(x1, x2, x3)]) (x1, x2, x3) (fl 0) (fl 2) (fl 5) false false (fl 4) true true (x 0) (x 2) (x 5) undef (x 4) undef w) ∧ (fl 6 = true → fl 0 = true ∧ fl 2 = true ∧ fl 4 = true ∧ fl 5 = true) ∧ (fl 6 = true → ∃ A9 c9, x 6 = .slice A9 K3.length c9 ∧ Rd w 3 tripE A9 K3.length K3 ∧ K3.length ≤ c9 ∧ c9 ≤ 9223372036854775807 ∧ (fl 7 = true → x 7 = .slice A9 K3.length c9)) ∧ (fl 7 = true → fl 6 = true)) (by kernel_rfl) (by kernel_rfl) (by kernel_rfl) (by kernel_rfl) (by kernel_rfl) ?_ ?_
  · intro x0
    exact ⟨⟨rfl, rfl, rfl, Nat.le_refl _, fun _ _ => rfl⟩, fun _ => GT3.start rfl rfl rfl rfl rfl rfl rfl, (fun h => by cases h), (fun h => by cases h), fun h => by cases h⟩
  intro base O hbase hO
  have kx0 : Hid (∀ xs, evX base O xs (.tmp 0) = .slice A n c) := fun xs => by rw [hbase, hO]; rfl
  have kx3 : Hid (∀ xs, evX base O xs (.tmp 3) = .pointer (some ⟨bk, 0, none⟩)) := fun xs => by rw [hbase, hO]; rfl
  have kx10 : Hid (∀ xs, evX base O xs (.tmp 10) = xs 0) := fun xs => by rw [hO]; rfl
  have kx11 : Hid (∀ xs, evX base O xs (.tmp 11) = xs 1) := fun xs => by rw [hO]; rfl
  have kx12 : Hid (∀ xs, evX base O xs (.tmp 12) = xs 2) := fun xs => by rw [hO]; rfl
  have kx13 : Hid (∀ xs, evX base O xs (.tmp 13) = xs 3) := fun xs => by rw [hO]; rfl
  have kx14 : Hid (∀ xs, evX base O xs (.tmp 14) = xs 4) := fun xs => by rw [hO]; rfl
  have kx15 : Hid (∀ xs, evX base O xs (.tmp 15) = xs 5) := fun xs => by rw [hO]; rfl
  have kx16 : Hid (∀ xs, evX base O xs (.tmp 16) = xs 6) := fun xs => by rw [hO]; rfl
  clear hbase hO
  refine gh_any (n := 0) (fun _ => True) ?_ ?_
  · intro fl xs w ev hG hD hl hdone hev K hK
    rw [if_pos (wantedX_none rfl)]
    have ef : ∀ f, ev (.func f) = .func (.func f) #[] #[] := fun f => (hev _).trans rfl
    clear hev hD
    have h6 := bne2 (fun h => (hG.2.2.1 h).1) hl
    have g := (hG.2.1 h6).l0S hl
    go_simp
    exact hK _ _ trivial ⟨g.bel, fun _ => g, fun h => ⟨rfl, (hG.2.2.1 h).2⟩, (fun h => Bool.noConfusion (h6.symm.trans h)), hG.2.2.2.2⟩
  apply gh_det (n := 1)
  · intro fl xs w ev hG hD hl hdone hev K hK
    have e0 := (hev (.tmp 0)).trans (kx0.out xs)
    rw [if_pos (wantedX_none rfl)]
    have ef : ∀ f, ev (.func f) = .func (.func f) #[] #[] := fun f => (hev _).trans rfl
    clear hev hD
    go_simp
    exact hK _ _ rfl hG
  refine gh_any (n := 2) (fun _ => True) ?_ ?_
  · intro fl xs w ev hG hD hl hdone hev K hK
    have e10 := (hev (.tmp 10)).trans (kx10.out xs)
    have e11 := (hev (.tmp 11)).trans (kx11.out xs)
    have d1 := hD.at_ 1 rfl rfl
    replace e11 := e11.trans d1
    rw [if_pos (wantedX_none rfl)]
    have ef : ∀ f, ev (.func f) = .func (.func f) #[] #[] := fun f => (hev _).trans rfl
    clear hev hD
    have h6 := bne2 (fun h => (hG.2.2.1 h).2.1) hl
    have own := (hG.2.1 h6).o0 (done_of hdone 0 rfl) hl
    obtain ⟨v', w1', hrun, own1, hgr, hnew⟩ := app_trips (L := []) c own (r1.out.below hG.1) (by have := hll.out; (try simp only [List.length_append, List.length_cons, List.length_nil]); omega) (hG.2.1 h6).bel.size
    rw [List.nil_append] at own1
    have g := (hG.2.1 h6).a1S hl (done_of hdone 0 rfl) rfl own1 hgr hnew
    exact outcome_append (.tmp 10) (.tmp 11) 25 rfl e10 e11 hrun (hK _ _ trivial ⟨g.bel, fun _ => g, (fun h => ⟨(hG.2.2.1 h).1, rfl, (hG.2.2.1 h).2.2⟩), (fun h => Bool.noConfusion (h6.symm.trans h)), hG.2.2.2.2⟩)
  apply gh_det (n := 3)
  · intro fl xs w ev hG hD hl hdone hev K hK
    have e3 := (hev (.tmp 3)).trans (kx3.out xs)
    rw [if_pos (wantedX_none rfl)]
    have ef : ∀ f, ev (.func f) = .func (.func f) #[] #[] := fun f => (hev _).trans rfl
    clear hev hD
    have m0 := (hG.1.cell (p := ⟨bk, 0, none⟩) zbk).trans b0
    have m1 := (hG.1.cell (p := ⟨bk, 1, none⟩) zbk).trans b1
    have m2 := (hG.1.cell (p := ⟨bk, 2, none⟩) zbk).trans b2
    go_simp
    exact hK _ _ rfl hG
  refine gh_any (n := 4) (fun _ => True) ?_ ?_
  · intro fl xs w ev hG hD hl hdone hev K hK
    have e13 := (hev (.tmp 13)).trans (kx13.out xs)
    have d3 := hD.at_ 3 rfl rfl
    replace e13 := e13.trans d3
    rw [if_pos (wantedX_none rfl)]
    have ef : ∀ f, ev (.func f) = .func (.func f) #[] #[] := fun f => (hev _).trans rfl
    clear hev hD
    have h6 := bne2 (fun h => (hG.2.2.1 h).2.2.1) hl
    have g := fun c => (hG.2.1 h6).litS (c := c) hl tripE_len
    go_simp
    exact hK _ _ trivial ⟨(g 1).bel, fun _ => g 1, (fun h => ⟨(hG.2.2.1 h).1, (hG.2.2.1 h).2.1, rfl, (hG.2.2.1 h).2.2.2⟩), (fun h => Bool.noConfusion (h6.symm.trans h)), hG.2.2.2.2⟩
  refine gh_any (n := 5) (fun _ => True) ?_ ?_
  · intro fl xs w ev hG hD hl hdone hev K hK
    have e12 := (hev (.tmp 12)).trans (kx12.out xs)
    have e14 := (hev (.tmp 14)).trans (kx14.out xs)
    rw [if_pos (wantedX_none rfl)]
    have ef : ∀ f, ev (.func f) = .func (.func f) #[] #[] := fun f => (hev _).trans rfl
    clear hev hD
    have h6 := bne2 (fun h => (hG.2.2.1 h).2.2.2) hl
    have own := (hG.2.1 h6).o1 (done_of hdone 2 rfl) hl
    obtain ⟨g5, c5, e5, r5, _⟩ := (hG.2.1 h6).ol (done_of hdone 4 rfl) hl
    rw [e5] at e14
    obtain ⟨v', w1', hrun, own1, hgr, hnew⟩ := app_trips c5 own r5 (by have := hll.out; (try simp only [List.length_append, List.length_cons, List.length_nil]); omega) (hG.2.1 h6).bel.size
    have g := (hG.2.1 h6).a2S hl (done_of hdone 2 rfl) (done_of hdone 4 rfl) own1 hgr
    exact outcome_append (.tmp 12) (.tmp 14) 25 rfl e12 e14 hrun (hK _ _ trivial ⟨g.bel, fun _ => g, (fun h => ⟨(hG.2.2.1 h).1, (hG.2.2.1 h).2.1, (hG.2.2.1 h).2.2.1, rfl⟩), (fun h => Bool.noConfusion (h6.symm.trans h)), hG.2.2.2.2⟩)
  refine gh_any (n := 6) (fun _ => True) ?_ ?_
  · intro fl xs w ev hG hD hl hdone hev K hK
    have e15 := (hev (.tmp 15)).trans (kx15.out xs)
    rw [if_pos (wantedX_none rfl)]
    have ef : ∀ f, ev (.func f) = .func (.func f) #[] #[] := fun f => (hev _).trans rfl
    clear hev hD
    have g := hG.2.1 hl
    have h5 := done_of hdone 5 rfl
    have own := g.o2 h5 rfl
    obtain ⟨n7, hn7⟩ : ∃ n7, (l ++ [(x1, x2, x3)]).length = n7 := ⟨_, rfl⟩
    have hn7l : n7 ≤ 1099511627 := by rw [← hn7]; simp only [List.length_append, List.length_cons, List.length_nil]; have := hll.out; omega
    rw [hn7] at own
    obtain ⟨A7, c7, e7, r7, _⟩ := Rd.of_own tripE_len hn7 own
    rw [e7] at e15
    have hC := Lib.hid (hLst.out w A7 n7 c7 r7 hn7l)
    clear own hn7 e7 r7
    go_simp
    refine hC.out.mono ?_; rintro e w' ⟨A9, c9, rfl, r9, s9, t9, hb9⟩
    exact ⟨_, rfl, hK _ _ trivial ⟨hG.1.trans (hb9.mono hG.1.size), (fun h => by cases h), fun _ => ⟨g.c01 (g.c12 h5), g.c12 h5, g.cli h5, h5⟩, fun _ => ⟨A9, c9, rfl, r9, s9, t9, fun h7 => Bool.noConfusion (hl.symm.trans (hG.2.2.2.2 h7))⟩, fun _ => rfl⟩⟩
  refine gh_any (n := 7) (fun _ => True) ?_ ?_
  · intro fl xs w ev hG hD hl hdone hev K hK
    have e16 := (hev (.tmp 16)).trans (kx16.out xs)
    rw [if_pos (wantedX_none rfl)]
    have ef : ∀ f, ev (.func f) = .func (.func f) #[] #[] := fun f => (hev _).trans rfl
    clear hev hD
    have h6 := done_of hdone 6 rfl
    obtain ⟨A9, c9, e9, r9, s9, t9, _⟩ := hG.2.2.2.1 h6
    rw [e9] at e16
    go_simp
    exact hK _ _ trivial ⟨hG.1, (fun h => Bool.noConfusion (h6.symm.trans h)), hG.2.2.1, fun _ => ⟨A9, c9, e9, r9, s9, t9, fun _ => rfl⟩, fun _ => h6⟩
  clear kx0 kx3 kx10 kx11 kx12 kx13 kx14 kx15 kx16
  intro xs w2 hG hI
  obtain ⟨A9, c9, _, r9, s9, t9, e9⟩ := hG.2.2.2.1 rfl
  replace e9 := e9 rfl
  have hb9 := hG.1
  clear hG hI
  simp only [List.append_eq, List.cons_append, List.nil_append, setAll, List.setIfInBounds_toArray, List.set_cons_zero, List.set_cons_succ]
  rw [e9]
  clear e9
  have hb02 := Lib.hid (hb0h.out.trans (hb9.mono hb0h.out.size))
  have r9h := Lib.hid r9
  have r2 := Lib.hid (r1.out.below hb9)
  have b0c := (hb9.cell (p := ⟨bk, 0, none⟩) zbk).trans b0
  have b1c := (hb9.cell (p := ⟨bk, 1, none⟩) zbk).trans b1
  have b2c := (hb9.cell (p := ⟨bk, 2, none⟩) zbk).trans b2
  have zbk2 := Nat.lt_of_lt_of_le zbk hb9.size
  clear hb9 r9 r1 b0 b1 b2 zbk hLst
  go_wp2_with fail
  go_loopw [7, 8] (fun v iv wr => ∃ (k : Nat), k ≤ K3.length ∧ iv = .int .i64 k ∧ v = .bool (decide ((x1, x2, x3) ∈ K3.take k)) ∧ Hid (Below w2.heap.size w2 wr)) (fun _ iv _ => K3.length - (intOf iv).toNat)
  case atStart => exact ⟨0, Nat.zero_le _, rfl, by simp, Below.refl _ _⟩
  case round =>
    obtain ⟨k, hk, rfl, rfl, hbk⟩ := hrel
    have z0 := (hbk.out.cell (p := ⟨bk, 0, none⟩) zbk2).trans b0c
    have z1 := (hbk.out.cell (p := ⟨bk, 1, none⟩) zbk2).trans b1c
    have z2 := (hbk.out.cell (p := ⟨bk, 2, none⟩) zbk2).trans b2c
    have zbk3 := Nat.lt_of_lt_of_le zbk2 hbk.out.size
    by_cases hkn : k < K3.length
    · obtain ⟨b, o, y1, y2, y3, rfl, zb, hy, y1c, y2c, y3c⟩ := (r9h.out.below hbk.out).trip hkn
      have hkn2 : (k : Int) < (K3.length : Int) := by omega
      have hst : decide ((x1, x2, x3) ∈ K3.take (k + 1)) = (decide ((x1, x2, x3) ∈ K3.take k) || decide ((x1, x2, x3) = (y1, y2, y3))) := by
        rw [take_at hy, Bool.eq_iff_iff]
        simp only [List.mem_append, List.mem_singleton, Bool.or_eq_true, decide_eq_true_eq]
      clear hy
      obtain ⟨gv, hgv⟩ : ∃ gv, (decide ((x1, x2, x3) ∈ K3.take k)) = gv := ⟨_, rfl⟩
      rw [hgv] at hst ⊢
      cases gv with
      | true =>
        have hnx : Hid ((decide ((x1, x2, x3) ∈ K3.take (k + 1))) = true) := by show _ = _; rw [hst]; rfl
        clear hst hgv
        go_wp2_with fail
        go_upto_region 6 with fail
        refine wp_region_below wr.heap.size (by kernel_rfl) (by kernel_rfl) ?_
        intro C hC
        repeat (go_big_quiet_step (first
          | ((intro _; with_reducible rfl))
          | (intro hc; have m0 := (hc.cell (p := ⟨b, o + k * 3, none⟩) zb).trans y1c; have m1 := (hc.cell (p := ⟨b, o + k * 3 + 1, none⟩) zb).trans y2c; have m2 := (hc.cell (p := ⟨b, o + k * 3 + 2, none⟩) zb).trans y3c; have m3 := (hc.cell (p := ⟨bk, 0, none⟩) zbk3).trans z0; have m4 := (hc.cell (p := ⟨bk, 1, none⟩) zbk3).trans z1; have m5 := (hc.cell (p := ⟨bk, 2, none⟩) zbk3).trans z2; simp only [m0, m1, m2, m3, m4, m5, Result.andThen]; exact ⟨trivial, rfl⟩)))
        refine wpQuiet_nil ?_
        intro w9 hb9
        clear hC
        have hfin := Lib.hid (hbk.out.trans (hb9.mono hbk.out.size))
        clear hb9
        go_wp2_with fail
        go_roundw
        case rel => exact ⟨k + 1, by omega, by go_num, by rw [hnx.out], hfin.out⟩
        case measure => simp [intOf]; omega
      | false =>
        by_cases f0 : y1 = x1
        rotate_left
        · have fb : (y1 == x1) = false := by simpa using f0
          have hnx : Hid ((decide ((x1, x2, x3) ∈ K3.take (k + 1))) = false) := by
            show _ = _
            rw [hst, decide_eq_false (show (x1, x2, x3) ≠ (y1, y2, y3) from fun e => f0 (by cases e; rfl))]; rfl
          clear hst hgv f0
          go_wp2_with fail
          go_upto_region 6 with fail
          refine wp_region_below wr.heap.size (by kernel_rfl) (by kernel_rfl) ?_
          intro C hC
          repeat (go_big_quiet_step (first
            | ((intro _; with_reducible rfl))
            | (intro hc; have m0 := (hc.cell (p := ⟨b, o + k * 3, none⟩) zb).trans y1c; have m1 := (hc.cell (p := ⟨b, o + k * 3 + 1, none⟩) zb).trans y2c; have m2 := (hc.cell (p := ⟨b, o + k * 3 + 2, none⟩) zb).trans y3c; have m3 := (hc.cell (p := ⟨bk, 0, none⟩) zbk3).trans z0; have m4 := (hc.cell (p := ⟨bk, 1, none⟩) zbk3).trans z1; have m5 := (hc.cell (p := ⟨bk, 2, none⟩) zbk3).trans z2; simp only [m0, m1, m2, m3, m4, m5, Result.andThen]; exact ⟨trivial, rfl⟩)))
          refine wpQuiet_nil ?_
          intro w9 hb9
          clear hC
          have hfin := Lib.hid (hbk.out.trans (hb9.mono hbk.out.size))
          clear hb9
          go_wp2_with fail
          go_roundw
          case rel => exact ⟨k + 1, by omega, by go_num, by rw [hnx.out], hfin.out⟩
          case measure => simp [intOf]; omega
        replace f0 := f0.symm
        subst f0
        by_cases f1 : y2 = x2
        rotate_left
        · have fb : (y2 == x2) = false := by simpa using f1
          have hnx : Hid ((decide ((x1, x2, x3) ∈ K3.take (k + 1))) = false) := by
            show _ = _
            rw [hst, decide_eq_false (show (x1, x2, x3) ≠ (x1, y2, y3) from fun e => f1 (by cases e; rfl))]; rfl
          clear hst hgv f1
          go_wp2_with fail
          go_upto_region 6 with fail
          refine wp_region_below wr.heap.size (by kernel_rfl) (by kernel_rfl) ?_
          intro C hC
          repeat (go_big_quiet_step (first
            | ((intro _; with_reducible rfl))
            | (intro hc; have m0 := (hc.cell (p := ⟨b, o + k * 3, none⟩) zb).trans y1c; have m1 := (hc.cell (p := ⟨b, o + k * 3 + 1, none⟩) zb).trans y2c; have m2 := (hc.cell (p := ⟨b, o + k * 3 + 2, none⟩) zb).trans y3c; have m3 := (hc.cell (p := ⟨bk, 0, none⟩) zbk3).trans z0; have m4 := (hc.cell (p := ⟨bk, 1, none⟩) zbk3).trans z1; have m5 := (hc.cell (p := ⟨bk, 2, none⟩) zbk3).trans z2; simp only [m0, m1, m2, m3, m4, m5, Result.andThen]; exact ⟨trivial, rfl⟩)))
          refine wpQuiet_nil ?_
          intro w9 hb9
          clear hC
          have hfin := Lib.hid (hbk.out.trans (hb9.mono hbk.out.size))
          clear hb9
          go_wp2_with fail
          go_roundw
          case rel => exact ⟨k + 1, by omega, by go_num, by rw [hnx.out], hfin.out⟩
          case measure => simp [intOf]; omega
        replace f1 := f1.symm
        subst f1
        by_cases f2 : y3 = x3
        rotate_left
        · have fb : (y3 == x3) = false := by simpa using f2
          have hnx : Hid ((decide ((x1, x2, x3) ∈ K3.take (k + 1))) = false) := by
            show _ = _
            rw [hst, decide_eq_false (show (x1, x2, x3) ≠ (x1, x2, y3) from fun e => f2 (by cases e; rfl))]; rfl
          clear hst hgv f2
          go_wp2_with fail
          go_upto_region 6 with fail
          refine wp_region_below wr.heap.size (by kernel_rfl) (by kernel_rfl) ?_
          intro C hC
          repeat (go_big_quiet_step (first
            | ((intro _; with_reducible rfl))
            | (intro hc; have m0 := (hc.cell (p := ⟨b, o + k * 3, none⟩) zb).trans y1c; have m1 := (hc.cell (p := ⟨b, o + k * 3 + 1, none⟩) zb).trans y2c; have m2 := (hc.cell (p := ⟨b, o + k * 3 + 2, none⟩) zb).trans y3c; have m3 := (hc.cell (p := ⟨bk, 0, none⟩) zbk3).trans z0; have m4 := (hc.cell (p := ⟨bk, 1, none⟩) zbk3).trans z1; have m5 := (hc.cell (p := ⟨bk, 2, none⟩) zbk3).trans z2; simp only [m0, m1, m2, m3, m4, m5, Result.andThen]; exact ⟨trivial, rfl⟩)))
          refine wpQuiet_nil ?_
          intro w9 hb9
          clear hC
          have hfin := Lib.hid (hbk.out.trans (hb9.mono hbk.out.size))
          clear hb9
          go_wp2_with fail
          go_roundw
          case rel => exact ⟨k + 1, by omega, by go_num, by rw [hnx.out], hfin.out⟩
          case measure => simp [intOf]; omega
        replace f2 := f2.symm
        subst f2
        have hnx : Hid ((decide ((x1, x2, x3) ∈ K3.take (k + 1))) = true) := by show _ = _; rw [hst, decide_eq_true rfl]; rfl
        clear hst hgv
        go_wp2_with fail
        go_upto_region 6 with fail
        refine wp_region_below wr.heap.size (by kernel_rfl) (by kernel_rfl) ?_
        intro C hC
        repeat (go_big_quiet_step (first
          | ((intro _; with_reducible rfl))
          | (intro hc; have m0 := (hc.cell (p := ⟨b, o + k * 3, none⟩) zb).trans y1c; have m1 := (hc.cell (p := ⟨b, o + k * 3 + 1, none⟩) zb).trans y2c; have m2 := (hc.cell (p := ⟨b, o + k * 3 + 2, none⟩) zb).trans y3c; have m3 := (hc.cell (p := ⟨bk, 0, none⟩) zbk3).trans z0; have m4 := (hc.cell (p := ⟨bk, 1, none⟩) zbk3).trans z1; have m5 := (hc.cell (p := ⟨bk, 2, none⟩) zbk3).trans z2; simp only [m0, m1, m2, m3, m4, m5, Result.andThen]; exact ⟨trivial, rfl⟩)))
        refine wpQuiet_nil ?_
        intro w9 hb9
        clear hC
        have hfin := Lib.hid (hbk.out.trans (hb9.mono hbk.out.size))
        clear hb9
        go_wp2_with fail
        go_roundw
        case rel => exact ⟨k + 1, by omega, by go_num, by rw [hnx.out], hfin.out⟩
        case measure => simp [intOf]; omega
    · obtain rfl : k = K3.length := by omega
      have hkn2 : decide ((K3.length : Int) < (K3.length : Int)) = false := decide_eq_false (by omega)
      rw [List.take_of_length_le (Nat.le_refl _)]
      obtain ⟨gK, hgK⟩ : ∃ gK, decide ((x1, x2, x3) ∈ K3) = gK := ⟨_, rfl⟩
      rw [hgK] at hbbh ⊢
      clear hgK
      have hb03 := Lib.hid (hb02.out.trans (hbk.out.mono hb02.out.size))
      have r3 := Lib.hid (r2.out.below hbk.out)
      have r9k := Lib.hid (r9h.out.below hbk.out)
      clear r2 r9h hb02 b0c b1c b2c zbk2 hbk
      obtain ⟨w3, hw3⟩ : ∃ q, wr = q := ⟨_, rfl⟩
      rw [hw3] at hb03 r3 r9k z0 z1 z2 zbk3 ⊢
      clear hw3
      have b0c := z0
      have b1c := z1
      have b2c := z2
      have zbk2 := zbk3
      clear z0 z1 z2 zbk3
      go_wp2_with fail
      go_loopw [7, 9] (fun v iv wr => ∃ (k : Nat), k ≤ n ∧ iv = .int .i64 k ∧ v = .bool (gK && !decide ((x1, x2, x3) ∈ l.take k)) ∧ Hid (Below w3.heap.size w3 wr)) (fun _ iv _ => n - (intOf iv).toNat)
      case atStart => exact ⟨0, Nat.zero_le _, rfl, by simp, Below.refl _ _⟩
      case round =>
        obtain ⟨k, hk, rfl, rfl, hbk⟩ := hrel
        have z0 := (hbk.out.cell (p := ⟨bk, 0, none⟩) zbk2).trans b0c
        have z1 := (hbk.out.cell (p := ⟨bk, 1, none⟩) zbk2).trans b1c
        have z2 := (hbk.out.cell (p := ⟨bk, 2, none⟩) zbk2).trans b2c
        have zbk3 := Nat.lt_of_lt_of_le zbk2 hbk.out.size
        by_cases hkn : k < n
        · obtain ⟨b, o, y1, y2, y3, rfl, zb, hy, y1c, y2c, y3c⟩ := (r3.out.below hbk.out).trip hkn
          have hkn2 : (k : Int) < (n : Int) := by omega
          have hst : (gK && !decide ((x1, x2, x3) ∈ l.take (k + 1))) = ((gK && !decide ((x1, x2, x3) ∈ l.take k)) && !decide ((x1, x2, x3) = (y1, y2, y3))) := by
            rw [take_at hy, Bool.eq_iff_iff]
            simp only [List.mem_append, List.mem_singleton, Bool.and_eq_true, Bool.not_eq_true', decide_eq_false_iff_not, not_or, and_assoc]
          clear hy
          obtain ⟨gv, hgv⟩ : ∃ gv, (gK && !decide ((x1, x2, x3) ∈ l.take k)) = gv := ⟨_, rfl⟩
          rw [hgv] at hst ⊢
          cases gv with
          | false =>
            have hnx : Hid ((gK && !decide ((x1, x2, x3) ∈ l.take (k + 1))) = false) := by show _ = _; rw [hst]; rfl
            clear hst hgv
            go_wp2_with fail
            go_upto_region 10 with fail
            refine wp_region_below wr.heap.size (by kernel_rfl) (by kernel_rfl) ?_
            intro C hC
            repeat (go_big_quiet_step (first
              | ((intro _; with_reducible rfl))
              | (intro hc; have m0 := (hc.cell (p := ⟨b, o + k * 3, none⟩) zb).trans y1c; have m1 := (hc.cell (p := ⟨b, o + k * 3 + 1, none⟩) zb).trans y2c; have m2 := (hc.cell (p := ⟨b, o + k * 3 + 2, none⟩) zb).trans y3c; have m3 := (hc.cell (p := ⟨bk, 0, none⟩) zbk3).trans z0; have m4 := (hc.cell (p := ⟨bk, 1, none⟩) zbk3).trans z1; have m5 := (hc.cell (p := ⟨bk, 2, none⟩) zbk3).trans z2; simp only [m0, m1, m2, m3, m4, m5, Result.andThen]; exact ⟨trivial, rfl⟩)))
            refine wpQuiet_nil ?_
            intro w9 hb9
            clear hC
            have hfin := Lib.hid (hbk.out.trans (hb9.mono hbk.out.size))
            clear hb9
            go_wp2_with fail
            go_roundw
            case rel => exact ⟨k + 1, by omega, by go_num, by rw [hnx.out], hfin.out⟩
            case measure => simp [intOf]; omega
          | true =>
            by_cases f0 : y1 = x1
            rotate_left
            · have fb : (y1 == x1) = false := by simpa using f0
              have hnx : Hid ((gK && !decide ((x1, x2, x3) ∈ l.take (k + 1))) = true) := by
                show _ = _
                rw [hst, decide_eq_false (show (x1, x2, x3) ≠ (y1, y2, y3) from fun e => f0 (by cases e; rfl))]; rfl
              clear hst hgv f0
              go_wp2_with fail
              go_upto_region 10 with fail
              refine wp_region_below wr.heap.size (by kernel_rfl) (by kernel_rfl) ?_
              intro C hC
              repeat (go_big_quiet_step (first
                | ((intro _; with_reducible rfl))
                | (intro hc; have m0 := (hc.cell (p := ⟨b, o + k * 3, none⟩) zb).trans y1c; have m1 := (hc.cell (p := ⟨b, o + k * 3 + 1, none⟩) zb).trans y2c; have m2 := (hc.cell (p := ⟨b, o + k * 3 + 2, none⟩) zb).trans y3c; have m3 := (hc.cell (p := ⟨bk, 0, none⟩) zbk3).trans z0; have m4 := (hc.cell (p := ⟨bk, 1, none⟩) zbk3).trans z1; have m5 := (hc.cell (p := ⟨bk, 2, none⟩) zbk3).trans z2; simp only [m0, m1, m2, m3, m4, m5, Result.andThen]; exact ⟨trivial, rfl⟩)))
              refine wpQuiet_nil ?_
              intro w9 hb9
              clear hC
              have hfin := Lib.hid (hbk.out.trans (hb9.mono hbk.out.size))
              clear hb9
              go_wp2_with fail
              go_roundw
              case rel => exact ⟨k + 1, by omega, by go_num, by rw [hnx.out], hfin.out⟩
              case measure => simp [intOf]; omega
            replace f0 := f0.symm
            subst f0
            by_cases f1 : y2 = x2
            rotate_left
            · have fb : (y2 == x2) = false := by simpa using f1
              have hnx : Hid ((gK && !decide ((x1, x2, x3) ∈ l.take (k + 1))) = true) := by
                show _ = _
                rw [hst, decide_eq_false (show (x1, x2, x3) ≠ (x1, y2, y3) from fun e => f1 (by cases e; rfl))]; rfl
              clear hst hgv f1
              go_wp2_with fail
              go_upto_region 10 with fail
              refine wp_region_below wr.heap.size (by kernel_rfl) (by kernel_rfl) ?_
              intro C hC
              repeat (go_big_quiet_step (first
                | ((intro _; with_reducible rfl))
                | (intro hc; have m0 := (hc.cell (p := ⟨b, o + k * 3, none⟩) zb).trans y1c; have m1 := (hc.cell (p := ⟨b, o + k * 3 + 1, none⟩) zb).trans y2c; have m2 := (hc.cell (p := ⟨b, o + k * 3 + 2, none⟩) zb).trans y3c; have m3 := (hc.cell (p := ⟨bk, 0, none⟩) zbk3).trans z0; have m4 := (hc.cell (p := ⟨bk, 1, none⟩) zbk3).trans z1; have m5 := (hc.cell (p := ⟨bk, 2, none⟩) zbk3).trans z2; simp only [m0, m1, m2, m3, m4, m5, Result.andThen]; exact ⟨trivial, rfl⟩)))
              refine wpQuiet_nil ?_
              intro w9 hb9
              clear hC
              have hfin := Lib.hid (hbk.out.trans (hb9.mono hbk.out.size))
              clear hb9
              go_wp2_with fail
              go_roundw
              case rel => exact ⟨k + 1, by omega, by go_num, by rw [hnx.out], hfin.out⟩
              case measure => simp [intOf]; omega
            replace f1 := f1.symm
            subst f1
            by_cases f2 : y3 = x3
            rotate_left
            · have fb : (y3 == x3) = false := by simpa using f2
              have hnx : Hid ((gK && !decide ((x1, x2, x3) ∈ l.take (k + 1))) = true) := by
                show _ = _
                rw [hst, decide_eq_false (show (x1, x2, x3) ≠ (x1, x2, y3) from fun e => f2 (by cases e; rfl))]; rfl
              clear hst hgv f2
              go_wp2_with fail
              go_upto_region 10 with fail
              refine wp_region_below wr.heap.size (by kernel_rfl) (by kernel_rfl) ?_
              intro C hC
              repeat (go_big_quiet_step (first
                | ((intro _; with_reducible rfl))
                | (intro hc; have m0 := (hc.cell (p := ⟨b, o + k * 3, none⟩) zb).trans y1c; have m1 := (hc.cell (p := ⟨b, o + k * 3 + 1, none⟩) zb).trans y2c; have m2 := (hc.cell (p := ⟨b, o + k * 3 + 2, none⟩) zb).trans y3c; have m3 := (hc.cell (p := ⟨bk, 0, none⟩) zbk3).trans z0; have m4 := (hc.cell (p := ⟨bk, 1, none⟩) zbk3).trans z1; have m5 := (hc.cell (p := ⟨bk, 2, none⟩) zbk3).trans z2; simp only [m0, m1, m2, m3, m4, m5, Result.andThen]; exact ⟨trivial, rfl⟩)))
              refine wpQuiet_nil ?_
              intro w9 hb9
              clear hC
              have hfin := Lib.hid (hbk.out.trans (hb9.mono hbk.out.size))
              clear hb9
              go_wp2_with fail
              go_roundw
              case rel => exact ⟨k + 1, by omega, by go_num, by rw [hnx.out], hfin.out⟩
              case measure => simp [intOf]; omega
            replace f2 := f2.symm
            subst f2
            have hnx : Hid ((gK && !decide ((x1, x2, x3) ∈ l.take (k + 1))) = false) := by show _ = _; rw [hst, decide_eq_true rfl]; rfl
            clear hst hgv
            go_wp2_with fail
            go_upto_region 10 with fail
            refine wp_region_below wr.heap.size (by kernel_rfl) (by kernel_rfl) ?_
            intro C hC
            repeat (go_big_quiet_step (first
              | ((intro _; with_reducible rfl))
              | (intro hc; have m0 := (hc.cell (p := ⟨b, o + k * 3, none⟩) zb).trans y1c; have m1 := (hc.cell (p := ⟨b, o + k * 3 + 1, none⟩) zb).trans y2c; have m2 := (hc.cell (p := ⟨b, o + k * 3 + 2, none⟩) zb).trans y3c; have m3 := (hc.cell (p := ⟨bk, 0, none⟩) zbk3).trans z0; have m4 := (hc.cell (p := ⟨bk, 1, none⟩) zbk3).trans z1; have m5 := (hc.cell (p := ⟨bk, 2, none⟩) zbk3).trans z2; simp only [m0, m1, m2, m3, m4, m5, Result.andThen]; exact ⟨trivial, rfl⟩)))
            refine wpQuiet_nil ?_
            intro w9 hb9
            clear hC
            have hfin := Lib.hid (hbk.out.trans (hb9.mono hbk.out.size))
            clear hb9
            go_wp2_with fail
            go_roundw
            case rel => exact ⟨k + 1, by omega, by go_num, by rw [hnx.out], hfin.out⟩
            case measure => simp [intOf]; omega
        · obtain rfl : k = n := by omega
          have hkn2 : decide ((k : Int) < (k : Int)) = false := decide_eq_false (by omega)
          rw [List.take_of_length_le (by rw [hll.out]; exact Nat.le_refl _), hbbh.out]
          have r9z := Lib.hid (r9k.out.below hbk.out)
          have hbz := Lib.hid (hb03.out.trans (hbk.out.mono hb03.out.size))
          clear hbk
          go_wp2_with fail
          go_returns
          exact .mk A9 c9 rfl r9z.out s9 t9 hbz.out
set_option maxRecDepth 100000 in
theorem rPut2_any (x1 x2 : Int) (A : Option Addr) (n c : Nat) (l : List P2) (w0 : World) (hr : Rd w0 2 pairE A n l) (hn : n ≤ 1000000) :
    Calls Tryz.prog 7 #[.slice A n c, .agg #[.int .i64 x1, .int .i64 x2]] w0 fun e w' => RetP 2 pairE w0 (L2 (l ++ [(x1, x2)])) (decide ((x1, x2) ∈ L2 (l ++ [(x1, x2)])) && !decide ((x1, x2) ∈ l)) e w' := by
  have bx := Bx2.new w0 24 x1 x2
  have hb0 : Below w0.heap.size w0 (w0.alloc (.cells #[.int .i64 x1, .int .i64 x2] 24)) := (Below.refl _ w0).alloc (Nat.le_refl _) _
  have hll := Lib.hid hr.len
  have r1 := Lib.hid (hr.below hb0)
  obtain ⟨W1, hW1⟩ : ∃ q, w0.alloc (.cells #[.int .i64 x1, .int .i64 x2] 24) = q := ⟨_, rfl⟩
  obtain ⟨bk, hbk⟩ : ∃ q, w0.heap.size = q := ⟨_, rfl⟩
  rw [hW1] at bx hb0 r1
  rw [hbk] at bx
  have b0 := bx.c0
  have b1 := bx.c1
  have zbk := bx.lt
  have hb0h := Lib.hid hb0
  obtain ⟨bb, hbb⟩ : ∃ bb, (decide ((x1, x2) ∈ L2 (l ++ [(x1, x2)])) && !decide ((x1, x2) ∈ l)) = bb := ⟨_, rfl⟩
  rw [hbb]
  have e1 : L3 (ofF 0 l ++ [((0 : Int), x1, x2)]) = ofF 0 (L2 (l ++ [(x1, x2)])) := by
    rw [← L3_pairs]
    congr 1
    unfold ofF
    rw [List.map_append]; rfl
  have e2 : (decide (((0 : Int), x1, x2) ∈ ofF 0 (L2 (l ++ [(x1, x2)]))) && !decide (((0 : Int), x1, x2) ∈ ofF 0 l)) = bb := by
    rw [← hbb]
    congr 1
    · rw [Bool.eq_iff_iff, decide_eq_true_eq, decide_eq_true_eq, mem_ofF]; simp
    · rw [Bool.eq_iff_iff, Bool.not_eq_true', Bool.not_eq_true', decide_eq_false_iff_not, decide_eq_false_iff_not, mem_ofF]; simp
  have hpl : (L2 (l ++ [(x1, x2)])).length ≤ 1000001 := by
    have := L2_len (l ++ [(x1, x2)])
    rw [List.length_append, hll.out] at this
    simp only [List.length_cons, List.length_nil] at this
    omega
  obtain ⟨K2, hK2⟩ : ∃ K2, L2 (l ++ [(x1, x2)]) = K2 := ⟨_, rfl⟩
  rw [hK2] at e1 e2 hpl ⊢
  obtain ⟨K3, hK3⟩ : ∃ K3, ofF 0 K2 = K3 := ⟨_, rfl⟩
  rw [hK3] at e1 e2
  have hT : Hid (∀ W, Below W1.heap.size W1 W → Calls Tryz.prog 39 #[.slice A n c] W fun e w' => ∃ A1 c1, e = .returned (.slice A1 (ofF 0 l).length c1) ∧ Rd w' 3 tripE A1 (ofF 0 l).length (ofF 0 l) ∧ (A1 = none → (ofF 0 l).length = 0) ∧ Below W.heap.size W w') := fun W hW => by
    refine (rtrips_any A n c l W (r1.out.below hW) (by omega)).mono ?_
    rintro e w' ⟨A1, c1, he, r, _, _, hb⟩
    exact ⟨A1, c1, he, r, r.some2, hb⟩
  have hP : Hid (∀ W, Below W1.heap.size W1 W → ∀ A1 c1, Rd W 3 tripE A1 (ofF 0 l).length (ofF 0 l) → (A1 = none → (ofF 0 l).length = 0) → Calls Tryz.prog 10 #[.slice A1 (ofF 0 l).length c1, .agg #[.int .i64 0, .int .i64 x1, .int .i64 x2]] W fun e w' => ∃ A2 c2, e = .returned (.tuple #[.slice A2 K3.length c2, .bool bb]) ∧ Rd w' 3 tripE A2 K3.length K3 ∧ Below W.heap.size W w') := fun W hW A1 c1 h1 h2 => by
    have := rPut3_any 0 x1 x2 A1 (ofF 0 l).length c1 (ofF 0 l) W h1 (by rw [ofF_len, hll.out]; exact hn)
    rw [e1, e2] at this
    refine this.mono ?_
    rintro e w' ⟨A2, c2, he, r, _, _, hb⟩
    exact ⟨A2, c2, he, r, hb⟩
  have hK3h := Lib.hid hK3
  have hK2h := Lib.hid hK2
  have hK3l : K3.length ≤ 1099511627 := by rw [← hK3, ofF_len]; omega
  clear hr bx hb0 hbb e1 e2 hK2 hK3 hpl r1
  go_enter Tryz.func7, Tryz.ntmps7
  go_upto_region 1 with fail
  refine wp_region_ghost (fun fl x w => Below W1.heap.size W1 w ∧ (fl 1 = true → ∃ A1 c1, x 1 = .slice A1 (ofF 0 l).length c1 ∧ Rd w 3 tripE A1 (ofF 0 l).length (ofF 0 l) ∧ (A1 = none → (ofF 0 l).length = 0)) ∧ (fl 7 = true → ∃ A2 c2, x 7 = .tuple #[.slice A2 K3.length c2, .bool bb] ∧ Rd w 3 tripE A2 K3.length K3 ∧ (fl 8 = true → x 8 = x 7) ∧ (fl 9 = true → x 9 = .slice A2 K3.length c2) ∧ (fl 11 = true → x 11 = .slice A2 K3.length c2)) ∧ (fl 8 = true → fl 7 = true) ∧ (fl 9 = true → fl 7 = true) ∧ (fl 11 = true → fl 7 = true)) (by kernel_rfl) (by kernel_rfl) (by kernel_rfl) (by kernel_rfl) (by kernel_rfl) ?_ ?_
  · intro x0
    exact ⟨⟨rfl, rfl, rfl, Nat.le_refl _, fun _ _ => rfl⟩, (fun h => by cases h), (fun h => by cases h), (fun h => by cases h), (fun h => by cases h), fun h => by cases h⟩
  intro base O hbase hO
  have kx0 : Hid (∀ xs, evX base O xs (.tmp 0) = .slice A n c) := fun xs => by rw [hbase, hO]; rfl
  have kx3 : Hid (∀ xs, evX base O xs (.tmp 3) = .pointer (some ⟨bk, 0, none⟩)) := fun xs => by rw [hbase, hO]; rfl
  have kx8 : Hid (∀ xs, evX base O xs (.tmp 8) = xs 8) := fun xs => by rw [hO]; rfl
  have kx9 : Hid (∀ xs, evX base O xs (.tmp 9) = xs 0) := fun xs => by rw [hO]; rfl
  have kx10 : Hid (∀ xs, evX base O xs (.tmp 10) = xs 1) := fun xs => by rw [hO]; rfl
  have kx11 : Hid (∀ xs, evX base O xs (.tmp 11) = xs 2) := fun xs => by rw [hO]; rfl
  have kx12 : Hid (∀ xs, evX base O xs (.tmp 12) = xs 3) := fun xs => by rw [hO]; rfl
  have kx13 : Hid (∀ xs, evX base O xs (.tmp 13) = xs 4) := fun xs => by rw [hO]; rfl
  have kx14 : Hid (∀ xs, evX base O xs (.tmp 14) = xs 5) := fun xs => by rw [hO]; rfl
  have kx15 : Hid (∀ xs, evX base O xs (.tmp 15) = xs 6) := fun xs => by rw [hO]; rfl
  have kx16 : Hid (∀ xs, evX base O xs (.tmp 16) = xs 7) := fun xs => by rw [hO]; rfl
  have kx17 : Hid (∀ xs, evX base O xs (.tmp 17) = xs 9) := fun xs => by rw [hO]; rfl
  have kx18 : Hid (∀ xs, evX base O xs (.tmp 18) = xs 10) := fun xs => by rw [hO]; rfl
  clear hbase hO
  apply gh_det (n := 0)
  · intro fl xs w ev hG hD hl hdone hev K hK
    have e0 := (hev (.tmp 0)).trans (kx0.out xs)
    rw [if_pos (wantedX_none rfl)]
    have ef : ∀ f, ev (.func f) = .func (.func f) #[] #[] := fun f => (hev _).trans rfl
    clear hev hD
    go_simp
    exact hK _ _ rfl hG
  refine gh_any (n := 1) (fun _ => True) ?_ ?_
  · intro fl xs w ev hG hD hl hdone hev K hK
    have e9 := (hev (.tmp 9)).trans (kx9.out xs)
    have d0 := hD.at_ 0 rfl rfl
    replace e9 := e9.trans d0
    rw [if_pos (wantedX_none rfl)]
    have ef : ∀ f, ev (.func f) = .func (.func f) #[] #[] := fun f => (hev _).trans rfl
    clear hev hD
    go_simp
    refine (hT.out _ hG.1).mono ?_; rintro e w' ⟨A1, c1, rfl, r1, hA1, hb1⟩
    refine ⟨_, rfl, hK _ _ trivial ⟨hG.1.trans (hb1.mono hG.1.size), fun _ => ⟨A1, c1, rfl, r1, hA1⟩, fun h => ?_, hG.2.2.2⟩⟩
    obtain ⟨A2, c2, e2, r2, z⟩ := hG.2.2.1 h
    exact ⟨A2, c2, e2, r2.below hb1, z⟩
  apply gh_det (n := 2)
  · intro fl xs w ev hG hD hl hdone hev K hK
    have e3 := (hev (.tmp 3)).trans (kx3.out xs)
    rw [if_pos (wantedX_none rfl)]
    have ef : ∀ f, ev (.func f) = .func (.func f) #[] #[] := fun f => (hev _).trans rfl
    clear hev hD
    go_simp
    exact hK _ _ rfl hG
  apply gh_det (n := 3)
  · intro fl xs w ev hG hD hl hdone hev K hK
    have e11 := (hev (.tmp 11)).trans (kx11.out xs)
    have d2 := hD.at_ 2 rfl rfl
    replace e11 := e11.trans d2
    rw [if_pos (wantedX_none rfl)]
    have ef : ∀ f, ev (.func f) = .func (.func f) #[] #[] := fun f => (hev _).trans rfl
    clear hev hD
    have m0 := (hG.1.cell (p := ⟨bk, 0, none⟩) zbk).trans b0
    go_simp
    exact hK _ _ rfl hG
  apply gh_det (n := 4)
  · intro fl xs w ev hG hD hl hdone hev K hK
    have e3 := (hev (.tmp 3)).trans (kx3.out xs)
    rw [if_pos (wantedX_none rfl)]
    have ef : ∀ f, ev (.func f) = .func (.func f) #[] #[] := fun f => (hev _).trans rfl
    clear hev hD
    go_simp
    exact hK _ _ rfl hG
  apply gh_det (n := 5)
  · intro fl xs w ev hG hD hl hdone hev K hK
    have e13 := (hev (.tmp 13)).trans (kx13.out xs)
    have d4 := hD.at_ 4 rfl rfl
    replace e13 := e13.trans d4
    rw [if_pos (wantedX_none rfl)]
    have ef : ∀ f, ev (.func f) = .func (.func f) #[] #[] := fun f => (hev _).trans rfl
    clear hev hD
    have m0 := (hG.1.cell (p := ⟨bk, 1, none⟩) zbk).trans b1
    go_simp
    exact hK _ _ rfl hG
  apply gh_det (n := 6)
  · intro fl xs w ev hG hD hl hdone hev K hK
    have e12 := (hev (.tmp 12)).trans (kx12.out xs)
    have d3 := hD.at_ 3 rfl rfl
    replace e12 := e12.trans d3
    have e14 := (hev (.tmp 14)).trans (kx14.out xs)
    have d5 := hD.at_ 5 rfl rfl
    replace e14 := e14.trans d5
    rw [if_pos (wantedX_none rfl)]
    have ef : ∀ f, ev (.func f) = .func (.func f) #[] #[] := fun f => (hev _).trans rfl
    clear hev hD
    go_simp
    exact hK _ _ rfl hG
  refine gh_any (n := 7) (fun _ => True) ?_ ?_
  · intro fl xs w ev hG hD hl hdone hev K hK
    have e10 := (hev (.tmp 10)).trans (kx10.out xs)
    have e15 := (hev (.tmp 15)).trans (kx15.out xs)
    have d6 := hD.at_ 6 rfl rfl
    replace e15 := e15.trans d6
    rw [if_pos (wantedX_none rfl)]
    have ef : ∀ f, ev (.func f) = .func (.func f) #[] #[] := fun f => (hev _).trans rfl
    clear hev hD
    obtain ⟨A1, c1, e1, r1, hA1⟩ := hG.2.1 (done_of hdone 1 rfl)
    rw [e1] at e10
    go_simp
    refine (hP.out _ hG.1 A1 c1 r1 hA1).mono ?_; rintro e w' ⟨A2, c2, rfl, r2, hb2⟩
    exact ⟨_, rfl, hK _ _ trivial ⟨hG.1.trans (hb2.mono hG.1.size), fun h => ⟨A1, c1, e1, r1.below hb2, hA1⟩, fun _ => ⟨A2, c2, rfl, r2, (fun h => Bool.noConfusion (hl.symm.trans (hG.2.2.2.1 h))), (fun h => Bool.noConfusion (hl.symm.trans (hG.2.2.2.2.1 h))), fun h => Bool.noConfusion (hl.symm.trans (hG.2.2.2.2.2 h))⟩, fun _ => rfl, fun _ => rfl, fun _ => rfl⟩⟩
  refine gh_any (n := 8) (fun _ => True) ?_ ?_
  · intro fl xs w ev hG hD hl hdone hev K hK
    have e16 := (hev (.tmp 16)).trans (kx16.out xs)
    rw [if_pos (wantedX_none rfl)]
    have ef : ∀ f, ev (.func f) = .func (.func f) #[] #[] := fun f => (hev _).trans rfl
    clear hev hD
    have h7 := done_of hdone 7 rfl
    obtain ⟨A2, c2, e2, r2, z1, z2, z3⟩ := hG.2.2.1 h7
    go_simp
    exact hK _ _ trivial ⟨hG.1, hG.2.1, fun _ => ⟨A2, c2, e2, r2, fun _ => e2.symm, z2, z3⟩, fun _ => h7, hG.2.2.2.2⟩
  refine gh_any (n := 9) (fun _ => True) ?_ ?_
  · intro fl xs w ev hG hD hl hdone hev K hK
    have e8 := (hev (.tmp 8)).trans (kx8.out xs)
    rw [if_pos (wantedX_none rfl)]
    have ef : ∀ f, ev (.func f) = .func (.func f) #[] #[] := fun f => (hev _).trans rfl
    clear hev hD
    have h8 := done_of hdone 8 rfl
    have h7 := hG.2.2.2.1 h8
    obtain ⟨A2, c2, e2, r2, z1, z2, z3⟩ := hG.2.2.1 h7
    rw [z1 h8, e2] at e8
    go_simp
    exact hK _ _ trivial ⟨hG.1, hG.2.1, fun _ => ⟨A2, c2, e2, r2, z1, fun _ => rfl, z3⟩, hG.2.2.2.1, fun _ => h7, hG.2.2.2.2.2⟩
  apply gh_det (n := 10)
  · intro fl xs w ev hG hD hl hdone hev K hK
    have e8 := (hev (.tmp 8)).trans (kx8.out xs)
    rw [if_pos (wantedX_none rfl)]
    have ef : ∀ f, ev (.func f) = .func (.func f) #[] #[] := fun f => (hev _).trans rfl
    clear hev hD
    have h8 := done_of hdone 8 rfl
    have h7 := hG.2.2.2.1 h8
    obtain ⟨A2, c2, e2, r2, z1, z2, z3⟩ := hG.2.2.1 h7
    rw [z1 h8, e2] at e8
    go_simp
    exact hK _ _ rfl hG
  refine gh_any (n := 11) (fun _ => True) ?_ ?_
  · intro fl xs w ev hG hD hl hdone hev K hK
    have e17 := (hev (.tmp 17)).trans (kx17.out xs)
    rw [if_pos (wantedX_none rfl)]
    have ef : ∀ f, ev (.func f) = .func (.func f) #[] #[] := fun f => (hev _).trans rfl
    clear hev hD
    have h9 := done_of hdone 9 rfl
    have h7 := hG.2.2.2.2.1 h9
    obtain ⟨A2, c2, e2, r2, z1, z2, z3⟩ := hG.2.2.1 h7
    rw [z2 h9] at e17
    go_simp
    exact hK _ _ trivial ⟨hG.1, hG.2.1, fun _ => ⟨A2, c2, e2, r2, z1, z2, fun _ => rfl⟩, hG.2.2.2.1, hG.2.2.2.2.1, fun _ => h7⟩
  apply gh_det (n := 12)
  · intro fl xs w ev hG hD hl hdone hev K hK
    have e18 := (hev (.tmp 18)).trans (kx18.out xs)
    have d10 := hD.at_ 10 rfl rfl
    replace e18 := e18.trans d10
    rw [if_pos (wantedX_none rfl)]
    have ef : ∀ f, ev (.func f) = .func (.func f) #[] #[] := fun f => (hev _).trans rfl
    clear hev hD
    go_simp
    exact hK _ _ rfl hG
  clear kx0 kx3 kx8 kx9 kx10 kx11 kx12 kx13 kx14 kx15 kx16 kx17 kx18
  intro xs w9 hG hI
  have hz := hI 12 _ rfl
  obtain ⟨A9, c9, _, r9, _, _, e9⟩ := hG.2.2.1 rfl
  replace e9 := e9 rfl
  have hb9 := hG.1
  clear hG hI
  simp only [List.append_eq, List.cons_append, List.nil_append, setAll, List.setIfInBounds_toArray, List.set_cons_zero, List.set_cons_succ]
  rw [hz, e9]
  clear hz e9
  have hS := Lib.hid (rpairs_any A9 K3.length c9 K3 w9 r9 hK3l)
  rw [show K3.map Prod.snd = K2 from by rw [← hK3h.out]; exact pairs_of K2] at hS
  have hb2 := Lib.hid (hb0h.out.trans (hb9.mono hb0h.out.size))
  clear r9 hb9 hT hP
  go_wp2_with fail
  refine hS.out.mono ?_; rintro e w4 ⟨A4, c4, rfl, r4, s4, t4, hb4⟩
  have r4h := Lib.hid r4
  have hb4h := Lib.hid (hb2.out.trans (hb4.mono hb2.out.size))
  clear r4 hb4
  go_wp2_with fail
  go_returns
  exact .mk A4 c4 rfl r4h.out s4 t4 hb4h.out
end Go.Proofs.YtibeoiphjkgekaaGreat
