/-
  Walk: timetablelaw22.BagBeats answers true.
-/
import Derived.Test.YtlkephcmbfanhaaBag10
import Derived.Test.YtlkephcmbfanhaaBagPlain3
import Derived.Test.YtlkephcmbfanhaaBagGhost2
import Derived.Test.YtlkephcmbfanhaaQuiet
namespace Go.Proofs.Ytlkephcmbfanhaa
open Go.RowKit B K Go.Shelf
set_option linter.unusedVariables false
set_option linter.unusedSimpArgs false
set_option maxHeartbeats 4000000
set_option maxRecDepth 100000 in
theorem beatsLaw_any (a1 a2 a3 d1 d2 d3 f1 f2 f3 : Int) (w : World) :
    Calls Try.prog 3 #[.agg #[.int .i64 a1, .int .i64 a2, .int .i64 a3], .agg #[.int .i64 d1, .int .i64 d2, .int .i64 d3], .agg #[.int .i64 f1, .int .i64 f2, .int .i64 f3]] w fun e w' => e = .returned (.bool true) ∧ Below w.heap.size w w' := by
  have b1 := Bx3.new w 23 a1 a2 a3
  obtain ⟨wa, hwa⟩ : ∃ q, w.alloc (.cells #[.int .i64 a1, .int .i64 a2, .int .i64 a3] 23) = q := ⟨_, rfl⟩
  have b2 := Bx3.new wa 23 d1 d2 d3
  obtain ⟨wb, hwb⟩ : ∃ q, wa.alloc (.cells #[.int .i64 d1, .int .i64 d2, .int .i64 d3] 23) = q := ⟨_, rfl⟩
  have b3 := Bx3.new wb 23 f1 f2 f3
  obtain ⟨wc, hwc⟩ : ∃ q, wb.alloc (.cells #[.int .i64 f1, .int .i64 f2, .int .i64 f3] 23) = q := ⟨_, rfl⟩
  have x1 : Below w.heap.size w wa := by rw [← hwa]; exact (Below.refl _ w).alloc (Nat.le_refl _) _
  have x2 : Below wa.heap.size wa wb := by rw [← hwb]; exact (Below.refl _ wa).alloc (Nat.le_refl _) _
  have x3 : Below wb.heap.size wb wc := by rw [← hwc]; exact (Below.refl _ wb).alloc (Nat.le_refl _) _
  rw [hwa] at b1
  rw [hwb] at b2
  rw [hwc] at b3
  have b1 := (b1.below x2).below x3
  have b2 := b2.below x3
  have hb0 := x1.trans ((x2.trans (x3.mono x2.size)).mono x1.size)
  clear x1 x2 x3
  go_enter Try.func3, Try.ntmps3
  go_wp2_with fail
  clear hwa hwb hwc
  refine (lives_any _).mono ?_; rintro e wr ⟨rfl, hb⟩
  have b1 := b1.below hb
  have b2 := b2.below hb
  have b3 := b3.below hb
  have hb := hb0.trans (hb.mono hb0.size)
  go_upto_region 3 with fail
  refine wp_region_ghost (GB wr (a2, a3) (d2, d3)) (by kernel_rfl) (by kernel_rfl) (by kernel_rfl) (by kernel_rfl) (by kernel_rfl) ?_ ?_
  · intro x
    exact GB.start rfl rfl rfl rfl ⟨rfl, rfl, rfl, Nat.le_refl _, fun _ _ => rfl⟩
  intro base O hbase hO
  have kx3 : Hid (∀ xs, evX base O xs (.tmp 3) = .pointer (some ⟨w.heap.size, 0, none⟩)) := fun xs => by rw [hbase, hO]; rfl
  have kx4 : Hid (∀ xs, evX base O xs (.tmp 4) = .pointer (some ⟨wa.heap.size, 0, none⟩)) := fun xs => by rw [hbase, hO]; rfl
  have kx7 : Hid (∀ xs, evX base O xs (.tmp 7) = xs 10) := fun xs => by rw [hO]; rfl
  have kx8 : Hid (∀ xs, evX base O xs (.tmp 8) = xs 11) := fun xs => by rw [hO]; rfl
  have kx11 : Hid (∀ xs, evX base O xs (.tmp 11) = xs 0) := fun xs => by rw [hO]; rfl
  have kx12 : Hid (∀ xs, evX base O xs (.tmp 12) = xs 1) := fun xs => by rw [hO]; rfl
  have kx13 : Hid (∀ xs, evX base O xs (.tmp 13) = xs 2) := fun xs => by rw [hO]; rfl
  have kx14 : Hid (∀ xs, evX base O xs (.tmp 14) = xs 3) := fun xs => by rw [hO]; rfl
  have kx15 : Hid (∀ xs, evX base O xs (.tmp 15) = xs 4) := fun xs => by rw [hO]; rfl
  have kx16 : Hid (∀ xs, evX base O xs (.tmp 16) = xs 5) := fun xs => by rw [hO]; rfl
  have kx17 : Hid (∀ xs, evX base O xs (.tmp 17) = xs 6) := fun xs => by rw [hO]; rfl
  have kx18 : Hid (∀ xs, evX base O xs (.tmp 18) = xs 7) := fun xs => by rw [hO]; rfl
  have kx19 : Hid (∀ xs, evX base O xs (.tmp 19) = xs 8) := fun xs => by rw [hO]; rfl
  have kx20 : Hid (∀ xs, evX base O xs (.tmp 20) = xs 9) := fun xs => by rw [hO]; rfl
  clear hbase hO
  apply gh_det (n := 0)
  · intro fl xs w ev hG hD hl hdone hev K hK
    have e3 := (hev (.tmp 3)).trans (kx3.out xs)
    rw [if_pos (wantedX_none rfl)]
    have ef : ∀ f, ev (.func f) = .func (.func f) #[] #[] := fun f => (hev _).trans rfl
    clear hev hD
    go_simp
    exact hK _ _ rfl hG
  apply gh_det (n := 1)
  · intro fl xs w ev hG hD hl hdone hev K hK
    have e11 := (hev (.tmp 11)).trans (kx11.out xs)
    have d0 := hD.at_ 0 rfl rfl
    replace e11 := e11.trans d0
    rw [if_pos (wantedX_none rfl)]
    have ef : ∀ f, ev (.func f) = .func (.func f) #[] #[] := fun f => (hev _).trans rfl
    clear hev hD
    have m := (b1.below hG.1).c1
    go_simp
    exact hK _ _ rfl hG
  apply gh_det (n := 2)
  · intro fl xs w ev hG hD hl hdone hev K hK
    have e3 := (hev (.tmp 3)).trans (kx3.out xs)
    rw [if_pos (wantedX_none rfl)]
    have ef : ∀ f, ev (.func f) = .func (.func f) #[] #[] := fun f => (hev _).trans rfl
    clear hev hD
    go_simp
    exact hK _ _ rfl hG
  apply gh_det (n := 3)
  · intro fl xs w ev hG hD hl hdone hev K hK
    have e13 := (hev (.tmp 13)).trans (kx13.out xs)
    have d2 := hD.at_ 2 rfl rfl
    replace e13 := e13.trans d2
    rw [if_pos (wantedX_none rfl)]
    have ef : ∀ f, ev (.func f) = .func (.func f) #[] #[] := fun f => (hev _).trans rfl
    clear hev hD
    have m := (b1.below hG.1).c2
    go_simp
    exact hK _ _ rfl hG
  apply gh_det (n := 4)
  · intro fl xs w ev hG hD hl hdone hev K hK
    have e12 := (hev (.tmp 12)).trans (kx12.out xs)
    have d1 := hD.at_ 1 rfl rfl
    replace e12 := e12.trans d1
    have e14 := (hev (.tmp 14)).trans (kx14.out xs)
    have d3 := hD.at_ 3 rfl rfl
    replace e14 := e14.trans d3
    rw [if_pos (wantedX_none rfl)]
    have ef : ∀ f, ev (.func f) = .func (.func f) #[] #[] := fun f => (hev _).trans rfl
    clear hev hD
    go_simp
    refine (lpair_any a2 a3 _).mono ?_; rintro e w' ⟨rfl, hg⟩
    exact ⟨_, rfl, hK _ _ rfl (hG.up hg.below)⟩
  apply gh_det (n := 5)
  · intro fl xs w ev hG hD hl hdone hev K hK
    have e4 := (hev (.tmp 4)).trans (kx4.out xs)
    rw [if_pos (wantedX_none rfl)]
    have ef : ∀ f, ev (.func f) = .func (.func f) #[] #[] := fun f => (hev _).trans rfl
    clear hev hD
    go_simp
    exact hK _ _ rfl hG
  apply gh_det (n := 6)
  · intro fl xs w ev hG hD hl hdone hev K hK
    have e16 := (hev (.tmp 16)).trans (kx16.out xs)
    have d5 := hD.at_ 5 rfl rfl
    replace e16 := e16.trans d5
    rw [if_pos (wantedX_none rfl)]
    have ef : ∀ f, ev (.func f) = .func (.func f) #[] #[] := fun f => (hev _).trans rfl
    clear hev hD
    have m := (b2.below hG.1).c1
    go_simp
    exact hK _ _ rfl hG
  apply gh_det (n := 7)
  · intro fl xs w ev hG hD hl hdone hev K hK
    have e4 := (hev (.tmp 4)).trans (kx4.out xs)
    rw [if_pos (wantedX_none rfl)]
    have ef : ∀ f, ev (.func f) = .func (.func f) #[] #[] := fun f => (hev _).trans rfl
    clear hev hD
    go_simp
    exact hK _ _ rfl hG
  apply gh_det (n := 8)
  · intro fl xs w ev hG hD hl hdone hev K hK
    have e18 := (hev (.tmp 18)).trans (kx18.out xs)
    have d7 := hD.at_ 7 rfl rfl
    replace e18 := e18.trans d7
    rw [if_pos (wantedX_none rfl)]
    have ef : ∀ f, ev (.func f) = .func (.func f) #[] #[] := fun f => (hev _).trans rfl
    clear hev hD
    have m := (b2.below hG.1).c2
    go_simp
    exact hK _ _ rfl hG
  apply gh_det (n := 9)
  · intro fl xs w ev hG hD hl hdone hev K hK
    have e17 := (hev (.tmp 17)).trans (kx17.out xs)
    have d6 := hD.at_ 6 rfl rfl
    replace e17 := e17.trans d6
    have e19 := (hev (.tmp 19)).trans (kx19.out xs)
    have d8 := hD.at_ 8 rfl rfl
    replace e19 := e19.trans d8
    rw [if_pos (wantedX_none rfl)]
    have ef : ∀ f, ev (.func f) = .func (.func f) #[] #[] := fun f => (hev _).trans rfl
    clear hev hD
    go_simp
    refine (lpair_any d2 d3 _).mono ?_; rintro e w' ⟨rfl, hg⟩
    exact ⟨_, rfl, hK _ _ rfl (hG.up hg.below)⟩
  refine gh_any (n := 10) (fun _ => True) ?_ ?_
  · intro fl xs w ev hG hD hl hdone hev K hK
    rw [if_pos (wantedX_none rfl)]
    have ef : ∀ f, ev (.func f) = .func (.func f) #[] #[] := fun f => (hev _).trans rfl
    clear hev hD
    go_simp
    exact hK _ _ trivial (hG.s10 hl)
  refine gh_any (n := 11) (fun _ => True) ?_ ?_
  · intro fl xs w ev hG hD hl hdone hev K hK
    rw [if_pos (wantedX_none rfl)]
    have ef : ∀ f, ev (.func f) = .func (.func f) #[] #[] := fun f => (hev _).trans rfl
    clear hev hD
    go_simp
    exact hK _ _ trivial (hG.s11 hl)
  refine gh_any (n := 12) (fun _ => True) ?_ ?_
  · intro fl xs w ev hG hD hl hdone hev K hK
    have e7 := (hev (.tmp 7)).trans (kx7.out xs)
    have e15 := (hev (.tmp 15)).trans (kx15.out xs)
    have d4 := hD.at_ 4 rfl rfl
    replace e15 := e15.trans d4
    rw [if_pos (wantedX_none rfl)]
    have ef : ∀ f, ev (.func f) = .func (.func f) #[] #[] := fun f => (hev _).trans rfl
    clear hev hD
    obtain ⟨k, ek, hk, u, z, hu, hp⟩ := hG.2.2.2.1 (done_of hdone 10 rfl)
    have c0 : w.cell? ⟨k, 0, none⟩ = some (.int .i64 u) := by rw [cell_of_row _ _ _ _ _ _ hu]; rfl
    have c1 : w.cell? ⟨k, 1, none⟩ = some (.int .i64 z) := by rw [cell_of_row _ _ _ _ _ _ hu]; rfl
    obtain ⟨z0, z1, z2, z3⟩ := pair_set (u0 := .int .i64 a2) (u1 := .int .i64 a3) hu
    have hbx : Below wr.heap.size w ((w.setCell ⟨k, 0, none⟩ (.int .i64 a2)).setCell ⟨k, 1, none⟩ (.int .i64 a3)) := ((Below.refl _ w).setCell hk _).setCell hk _
    rw [ek] at e7
    go_simp
    exact hK _ _ trivial (hG.s12 (done_of hdone 10 rfl) ek z3 z2 hbx)
  refine gh_any (n := 13) (fun _ => True) ?_ ?_
  · intro fl xs w ev hG hD hl hdone hev K hK
    have e8 := (hev (.tmp 8)).trans (kx8.out xs)
    have e20 := (hev (.tmp 20)).trans (kx20.out xs)
    have d9 := hD.at_ 9 rfl rfl
    replace e20 := e20.trans d9
    rw [if_pos (wantedX_none rfl)]
    have ef : ∀ f, ev (.func f) = .func (.func f) #[] #[] := fun f => (hev _).trans rfl
    clear hev hD
    obtain ⟨k, ek, hk, u, z, hu, hp⟩ := hG.2.2.2.2.1 (done_of hdone 11 rfl)
    have c0 : w.cell? ⟨k, 0, none⟩ = some (.int .i64 u) := by rw [cell_of_row _ _ _ _ _ _ hu]; rfl
    have c1 : w.cell? ⟨k, 1, none⟩ = some (.int .i64 z) := by rw [cell_of_row _ _ _ _ _ _ hu]; rfl
    obtain ⟨z0, z1, z2, z3⟩ := pair_set (u0 := .int .i64 d2) (u1 := .int .i64 d3) hu
    have hbx : Below wr.heap.size w ((w.setCell ⟨k, 0, none⟩ (.int .i64 d2)).setCell ⟨k, 1, none⟩ (.int .i64 d3)) := ((Below.refl _ w).setCell hk _).setCell hk _
    rw [ek] at e8
    go_simp
    exact hK _ _ trivial (hG.s13 (done_of hdone 11 rfl) ek z3 z2 hbx)
  intro xs w4 hG hI
  clear hI
  obtain ⟨g1, _, _, g4, g5, _⟩ := hG
  obtain ⟨k, ek, hk, u, z, hu, hp⟩ := g4 rfl
  obtain ⟨q, eq, hq, u', z', hu', hp'⟩ := g5 rfl
  have hp := hp rfl
  have hp' := hp' rfl
  rw [(Prod.mk.inj hp).1, (Prod.mk.inj hp).2] at hu
  rw [(Prod.mk.inj hp').1, (Prod.mk.inj hp').2] at hu'
  have bb : BB w4 _ _ _ k q a1 a2 a3 d1 d2 d3 f1 f2 f3 := ⟨b1.below g1, b2.below g1, b3.below g1, ⟨(Array.getElem?_eq_some_iff.1 hu).1, by rw [cell_of_row _ _ _ _ _ _ hu]; rfl, by rw [cell_of_row _ _ _ _ _ _ hu]; rfl⟩, ⟨(Array.getElem?_eq_some_iff.1 hu').1, by rw [cell_of_row _ _ _ _ _ _ hu']; rfl, by rw [cell_of_row _ _ _ _ _ _ hu']; rfl⟩⟩
  simp only [List.append_eq, List.cons_append, List.nil_append, setAll, List.setIfInBounds_toArray, List.set_cons_zero, List.set_cons_succ]
  rw [ek, eq]
  have hb := hb.trans (g1.mono hb.size)
  clear g1 g4 g5 ek eq hu hu' hp hp' b1 b2 b3 hb0
  generalize hA : w.heap.size = A, wa.heap.size = B, wb.heap.size = E at *
  obtain ⟨c1, c2, c3, c4, c5, c6, c7, c8, c9, c10, c11, c12, c13⟩ := bb.cells
  have i3 := beats3_irr (a1, a2, a3)
  have i2 := beats2_irr (a2, a3)
  go_wp2_with fail
  refine (Beats3_any a1 a2 a3 a1 a2 a3 _).mono ?_; rintro e w5 ⟨rfl, hs⟩
  rw [i3]
  clear c1 c2 c3 c4 c5 c6 c7 c8 c9 c10 c11 c12 c13
  replace hb := hb.trans (hs.mono (Nat.le_of_lt bb.b1.lt))
  replace bb := bb.below hs
  clear hs
  obtain ⟨c1, c2, c3, c4, c5, c6, c7, c8, c9, c10, c11, c12, c13⟩ := bb.cells
  go_wp2_with fail
  refine (Beats2_any a2 a3 a2 a3 _).mono ?_; rintro e w6 ⟨rfl, hs⟩
  rw [i2]
  clear c1 c2 c3 c4 c5 c6 c7 c8 c9 c10 c11 c12 c13
  replace hb := hb.trans (hs.mono (Nat.le_of_lt bb.b1.lt))
  replace bb := bb.below hs
  clear hs
  obtain ⟨c1, c2, c3, c4, c5, c6, c7, c8, c9, c10, c11, c12, c13⟩ := bb.cells
  clear i3 i2
  go_wp2_with fail
  cases hx0 : beats3 (a1, a2, a3) (d1, d2, d3) with
  | false =>
    have hx := Lib.hid hx0
    clear hx0
    refine (Beats3_any a1 a2 a3 d1 d2 d3 _).mono ?_; rintro e w7 ⟨rfl, hs⟩
    rw [hx.out]
    clear c1 c2 c3 c4 c5 c6 c7 c8 c9 c10 c11 c12 c13
    replace hb := hb.trans (hs.mono (Nat.le_of_lt bb.b1.lt))
    replace bb := bb.below hs
    clear hs
    obtain ⟨c1, c2, c3, c4, c5, c6, c7, c8, c9, c10, c11, c12, c13⟩ := bb.cells
    go_wp2_with fail
    cases hy0 : beats2 (a2, a3) (d2, d3) with
    | false =>
      have hy := Lib.hid hy0
      clear hy0
      refine (Beats2_any a2 a3 d2 d3 _).mono ?_; rintro e w8 ⟨rfl, hs⟩
      rw [hy.out]
      clear c1 c2 c3 c4 c5 c6 c7 c8 c9 c10 c11 c12 c13
      replace hb := hb.trans (hs.mono (Nat.le_of_lt bb.b1.lt))
      replace bb := bb.below hs
      clear hs
      obtain ⟨c1, c2, c3, c4, c5, c6, c7, c8, c9, c10, c11, c12, c13⟩ := bb.cells
      go_wp2_with fail
      refine (Beats3_any a1 a2 a3 d1 d2 d3 _).mono ?_; rintro e w9 ⟨rfl, hs⟩
      rw [hx.out]
      clear c1 c2 c3 c4 c5 c6 c7 c8 c9 c10 c11 c12 c13
      replace hb := hb.trans (hs.mono (Nat.le_of_lt bb.b1.lt))
      replace bb := bb.below hs
      clear hs
      obtain ⟨c1, c2, c3, c4, c5, c6, c7, c8, c9, c10, c11, c12, c13⟩ := bb.cells
      go_upto_region 8 with fail
      by_cases hd : a1 = d1
      · subst hd
        have hn2 : (a1 != a1) = false := by simp
        refine wp_region_below w9.heap.size (by kernel_rfl) (by kernel_rfl) ?_
        intro C hC
        repeat (go_big_quiet_step (first
          | ((intro _; with_reducible rfl))
          | (intro hc; have m1 := (hc.cell (p := ⟨A, _, none⟩) bb.b1.lt).trans c1; have m2 := (hc.cell (p := ⟨A, _, none⟩) bb.b1.lt).trans c2; have m3 := (hc.cell (p := ⟨A, _, none⟩) bb.b1.lt).trans c3; have m4 := (hc.cell (p := ⟨B, _, none⟩) bb.b2.lt).trans c4; have m5 := (hc.cell (p := ⟨B, _, none⟩) bb.b2.lt).trans c5; have m6 := (hc.cell (p := ⟨B, _, none⟩) bb.b2.lt).trans c6; have m7 := (hc.cell (p := ⟨k, _, none⟩) bb.p1.lt).trans c10; have m8 := (hc.cell (p := ⟨k, _, none⟩) bb.p1.lt).trans c11; have m9 := (hc.cell (p := ⟨q, _, none⟩) bb.p2.lt).trans c12; have m10 := (hc.cell (p := ⟨q, _, none⟩) bb.p2.lt).trans c13; simp only [m1, m2, m3, m4, m5, m6, m7, m8, m9, m10, Result.andThen]; exact ⟨trivial, rfl⟩)
          | (intro hc; refine (Beats3_any _ _ _ _ _ _ _).mono ?_; rintro e w'' ⟨rfl, hs⟩; exact ⟨congrArg (fun b => Ending.returned (.bool b)) hx.out, hc.trans (hs.mono hc.size)⟩)
          | (intro hc; refine (Beats2_any _ _ _ _ _).mono ?_; rintro e w'' ⟨rfl, hs⟩; exact ⟨congrArg (fun b => Ending.returned (.bool b)) hy.out, hc.trans (hs.mono hc.size)⟩)))
        refine wpQuiet_nil ?_
        intro w' hb4
        clear hC
        go_wp2_with fail
        go_returns
        exact ⟨rfl, by rw [hA]; exact hb.trans (hb4.mono (Nat.le_of_lt bb.b1.lt))⟩
      · have hn : (a1 == d1) = false := by simp [hd]
        have hn2 : (a1 != d1) = true := by simp [hd]
        clear hd
        refine wp_region_below w9.heap.size (by kernel_rfl) (by kernel_rfl) ?_
        intro C hC
        repeat (go_big_quiet_step (first
          | ((intro _; with_reducible rfl))
          | (intro hc; have m1 := (hc.cell (p := ⟨A, _, none⟩) bb.b1.lt).trans c1; have m2 := (hc.cell (p := ⟨A, _, none⟩) bb.b1.lt).trans c2; have m3 := (hc.cell (p := ⟨A, _, none⟩) bb.b1.lt).trans c3; have m4 := (hc.cell (p := ⟨B, _, none⟩) bb.b2.lt).trans c4; have m5 := (hc.cell (p := ⟨B, _, none⟩) bb.b2.lt).trans c5; have m6 := (hc.cell (p := ⟨B, _, none⟩) bb.b2.lt).trans c6; have m7 := (hc.cell (p := ⟨k, _, none⟩) bb.p1.lt).trans c10; have m8 := (hc.cell (p := ⟨k, _, none⟩) bb.p1.lt).trans c11; have m9 := (hc.cell (p := ⟨q, _, none⟩) bb.p2.lt).trans c12; have m10 := (hc.cell (p := ⟨q, _, none⟩) bb.p2.lt).trans c13; simp only [m1, m2, m3, m4, m5, m6, m7, m8, m9, m10, Result.andThen]; exact ⟨trivial, rfl⟩)))
        refine wpQuiet_nil ?_
        intro w' hb4
        clear hC
        go_wp2_with fail
        go_returns
        exact ⟨rfl, by rw [hA]; exact hb.trans (hb4.mono (Nat.le_of_lt bb.b1.lt))⟩
    | true =>
      have hy := Lib.hid hy0
      clear hy0
      refine (Beats2_any a2 a3 d2 d3 _).mono ?_; rintro e w11 ⟨rfl, hs⟩
      rw [hy.out]
      clear c1 c2 c3 c4 c5 c6 c7 c8 c9 c10 c11 c12 c13
      replace hb := hb.trans (hs.mono (Nat.le_of_lt bb.b1.lt))
      replace bb := bb.below hs
      clear hs
      obtain ⟨c1, c2, c3, c4, c5, c6, c7, c8, c9, c10, c11, c12, c13⟩ := bb.cells
      go_wp2_with fail
      have asy := beats2_asy (a2, a3) (d2, d3)
      rw [hy.out, Bool.true_and] at asy
      refine (Beats2_any d2 d3 a2 a3 _).mono ?_; rintro e w12 ⟨rfl, hs⟩
      rw [asy]
      clear c1 c2 c3 c4 c5 c6 c7 c8 c9 c10 c11 c12 c13
      replace hb := hb.trans (hs.mono (Nat.le_of_lt bb.b1.lt))
      replace bb := bb.below hs
      clear hs
      obtain ⟨c1, c2, c3, c4, c5, c6, c7, c8, c9, c10, c11, c12, c13⟩ := bb.cells
      clear asy
      go_wp2_with fail
      refine (Beats3_any a1 a2 a3 d1 d2 d3 _).mono ?_; rintro e w13 ⟨rfl, hs⟩
      rw [hx.out]
      clear c1 c2 c3 c4 c5 c6 c7 c8 c9 c10 c11 c12 c13
      replace hb := hb.trans (hs.mono (Nat.le_of_lt bb.b1.lt))
      replace bb := bb.below hs
      clear hs
      obtain ⟨c1, c2, c3, c4, c5, c6, c7, c8, c9, c10, c11, c12, c13⟩ := bb.cells
      go_upto_region 8 with fail
      by_cases hd : a1 = d1
      · subst hd
        have ex := beats3_two a1 a2 a3 d2 d3
        rw [hx.out, hy.out] at ex
        cases ex
      · have hn : (a1 == d1) = false := by simp [hd]
        have hn2 : (a1 != d1) = true := by simp [hd]
        clear hd
        refine wp_region_below w13.heap.size (by kernel_rfl) (by kernel_rfl) ?_
        intro C hC
        repeat (go_big_quiet_step (first
          | ((intro _; with_reducible rfl))
          | (intro hc; have m1 := (hc.cell (p := ⟨A, _, none⟩) bb.b1.lt).trans c1; have m2 := (hc.cell (p := ⟨A, _, none⟩) bb.b1.lt).trans c2; have m3 := (hc.cell (p := ⟨A, _, none⟩) bb.b1.lt).trans c3; have m4 := (hc.cell (p := ⟨B, _, none⟩) bb.b2.lt).trans c4; have m5 := (hc.cell (p := ⟨B, _, none⟩) bb.b2.lt).trans c5; have m6 := (hc.cell (p := ⟨B, _, none⟩) bb.b2.lt).trans c6; have m7 := (hc.cell (p := ⟨k, _, none⟩) bb.p1.lt).trans c10; have m8 := (hc.cell (p := ⟨k, _, none⟩) bb.p1.lt).trans c11; have m9 := (hc.cell (p := ⟨q, _, none⟩) bb.p2.lt).trans c12; have m10 := (hc.cell (p := ⟨q, _, none⟩) bb.p2.lt).trans c13; simp only [m1, m2, m3, m4, m5, m6, m7, m8, m9, m10, Result.andThen]; exact ⟨trivial, rfl⟩)))
        refine wpQuiet_nil ?_
        intro w' hb4
        clear hC
        go_wp2_with fail
        go_returns
        exact ⟨rfl, by rw [hA]; exact hb.trans (hb4.mono (Nat.le_of_lt bb.b1.lt))⟩
  | true =>
    have hx := Lib.hid hx0
    clear hx0
    refine (Beats3_any a1 a2 a3 d1 d2 d3 _).mono ?_; rintro e w15 ⟨rfl, hs⟩
    rw [hx.out]
    clear c1 c2 c3 c4 c5 c6 c7 c8 c9 c10 c11 c12 c13
    replace hb := hb.trans (hs.mono (Nat.le_of_lt bb.b1.lt))
    replace bb := bb.below hs
    clear hs
    obtain ⟨c1, c2, c3, c4, c5, c6, c7, c8, c9, c10, c11, c12, c13⟩ := bb.cells
    go_wp2_with fail
    have asy := beats3_asy (a1, a2, a3) (d1, d2, d3)
    rw [hx.out, Bool.true_and] at asy
    refine (Beats3_any d1 d2 d3 a1 a2 a3 _).mono ?_; rintro e w16 ⟨rfl, hs⟩
    rw [asy]
    clear c1 c2 c3 c4 c5 c6 c7 c8 c9 c10 c11 c12 c13
    replace hb := hb.trans (hs.mono (Nat.le_of_lt bb.b1.lt))
    replace bb := bb.below hs
    clear hs
    obtain ⟨c1, c2, c3, c4, c5, c6, c7, c8, c9, c10, c11, c12, c13⟩ := bb.cells
    clear asy
    go_wp2_with fail
    cases hy0 : beats2 (a2, a3) (d2, d3) with
    | false =>
      have hy := Lib.hid hy0
      clear hy0
      refine (Beats2_any a2 a3 d2 d3 _).mono ?_; rintro e w17 ⟨rfl, hs⟩
      rw [hy.out]
      clear c1 c2 c3 c4 c5 c6 c7 c8 c9 c10 c11 c12 c13
      replace hb := hb.trans (hs.mono (Nat.le_of_lt bb.b1.lt))
      replace bb := bb.below hs
      clear hs
      obtain ⟨c1, c2, c3, c4, c5, c6, c7, c8, c9, c10, c11, c12, c13⟩ := bb.cells
      go_wp2_with fail
      refine (Beats3_any a1 a2 a3 d1 d2 d3 _).mono ?_; rintro e w18 ⟨rfl, hs⟩
      rw [hx.out]
      clear c1 c2 c3 c4 c5 c6 c7 c8 c9 c10 c11 c12 c13
      replace hb := hb.trans (hs.mono (Nat.le_of_lt bb.b1.lt))
      replace bb := bb.below hs
      clear hs
      obtain ⟨c1, c2, c3, c4, c5, c6, c7, c8, c9, c10, c11, c12, c13⟩ := bb.cells
      go_wp2_with fail
      cases hz0 : beats3 (d1, d2, d3) (f1, f2, f3) with
      | false =>
        have hz := Lib.hid hz0
        clear hz0
        refine (Beats3_any d1 d2 d3 f1 f2 f3 _).mono ?_; rintro e w19 ⟨rfl, hs⟩
        rw [hz.out]
        clear c1 c2 c3 c4 c5 c6 c7 c8 c9 c10 c11 c12 c13
        replace hb := hb.trans (hs.mono (Nat.le_of_lt bb.b1.lt))
        replace bb := bb.below hs
        clear hs
        obtain ⟨c1, c2, c3, c4, c5, c6, c7, c8, c9, c10, c11, c12, c13⟩ := bb.cells
        go_upto_region 8 with fail
        by_cases hd : a1 = d1
        · subst hd
          have ex := beats3_two a1 a2 a3 d2 d3
          rw [hx.out, hy.out] at ex
          cases ex
        · have hn : (a1 == d1) = false := by simp [hd]
          have hn2 : (a1 != d1) = true := by simp [hd]
          clear hd
          refine wp_region_below w19.heap.size (by kernel_rfl) (by kernel_rfl) ?_
          intro C hC
          repeat (go_big_quiet_step (first
            | ((intro _; with_reducible rfl))
            | (intro hc; have m1 := (hc.cell (p := ⟨A, _, none⟩) bb.b1.lt).trans c1; have m2 := (hc.cell (p := ⟨A, _, none⟩) bb.b1.lt).trans c2; have m3 := (hc.cell (p := ⟨A, _, none⟩) bb.b1.lt).trans c3; have m4 := (hc.cell (p := ⟨B, _, none⟩) bb.b2.lt).trans c4; have m5 := (hc.cell (p := ⟨B, _, none⟩) bb.b2.lt).trans c5; have m6 := (hc.cell (p := ⟨B, _, none⟩) bb.b2.lt).trans c6; have m7 := (hc.cell (p := ⟨k, _, none⟩) bb.p1.lt).trans c10; have m8 := (hc.cell (p := ⟨k, _, none⟩) bb.p1.lt).trans c11; have m9 := (hc.cell (p := ⟨q, _, none⟩) bb.p2.lt).trans c12; have m10 := (hc.cell (p := ⟨q, _, none⟩) bb.p2.lt).trans c13; simp only [m1, m2, m3, m4, m5, m6, m7, m8, m9, m10, Result.andThen]; exact ⟨trivial, rfl⟩)))
          refine wpQuiet_nil ?_
          intro w' hb4
          clear hC
          go_wp2_with fail
          go_returns
          exact ⟨rfl, by rw [hA]; exact hb.trans (hb4.mono (Nat.le_of_lt bb.b1.lt))⟩
      | true =>
        have hz := Lib.hid hz0
        clear hz0
        refine (Beats3_any d1 d2 d3 f1 f2 f3 _).mono ?_; rintro e w19 ⟨rfl, hs⟩
        rw [hz.out]
        clear c1 c2 c3 c4 c5 c6 c7 c8 c9 c10 c11 c12 c13
        replace hb := hb.trans (hs.mono (Nat.le_of_lt bb.b1.lt))
        replace bb := bb.below hs
        clear hs
        obtain ⟨c1, c2, c3, c4, c5, c6, c7, c8, c9, c10, c11, c12, c13⟩ := bb.cells
        go_wp2_with fail
        refine (Beats3_any a1 a2 a3 f1 f2 f3 _).mono ?_; rintro e w21 ⟨rfl, hs⟩
        rw [beats3_trans _ _ _ hx.out hz.out]
        clear c1 c2 c3 c4 c5 c6 c7 c8 c9 c10 c11 c12 c13
        replace hb := hb.trans (hs.mono (Nat.le_of_lt bb.b1.lt))
        replace bb := bb.below hs
        clear hs
        obtain ⟨c1, c2, c3, c4, c5, c6, c7, c8, c9, c10, c11, c12, c13⟩ := bb.cells
        go_upto_region 8 with fail
        by_cases hd : a1 = d1
        · subst hd
          have ex := beats3_two a1 a2 a3 d2 d3
          rw [hx.out, hy.out] at ex
          cases ex
        · have hn : (a1 == d1) = false := by simp [hd]
          have hn2 : (a1 != d1) = true := by simp [hd]
          clear hd
          refine wp_region_below w21.heap.size (by kernel_rfl) (by kernel_rfl) ?_
          intro C hC
          repeat (go_big_quiet_step (first
            | ((intro _; with_reducible rfl))
            | (intro hc; have m1 := (hc.cell (p := ⟨A, _, none⟩) bb.b1.lt).trans c1; have m2 := (hc.cell (p := ⟨A, _, none⟩) bb.b1.lt).trans c2; have m3 := (hc.cell (p := ⟨A, _, none⟩) bb.b1.lt).trans c3; have m4 := (hc.cell (p := ⟨B, _, none⟩) bb.b2.lt).trans c4; have m5 := (hc.cell (p := ⟨B, _, none⟩) bb.b2.lt).trans c5; have m6 := (hc.cell (p := ⟨B, _, none⟩) bb.b2.lt).trans c6; have m7 := (hc.cell (p := ⟨k, _, none⟩) bb.p1.lt).trans c10; have m8 := (hc.cell (p := ⟨k, _, none⟩) bb.p1.lt).trans c11; have m9 := (hc.cell (p := ⟨q, _, none⟩) bb.p2.lt).trans c12; have m10 := (hc.cell (p := ⟨q, _, none⟩) bb.p2.lt).trans c13; simp only [m1, m2, m3, m4, m5, m6, m7, m8, m9, m10, Result.andThen]; exact ⟨trivial, rfl⟩)))
          refine wpQuiet_nil ?_
          intro w' hb4
          clear hC
          go_wp2_with fail
          go_returns
          exact ⟨rfl, by rw [hA]; exact hb.trans (hb4.mono (Nat.le_of_lt bb.b1.lt))⟩
    | true =>
      have hy := Lib.hid hy0
      clear hy0
      refine (Beats2_any a2 a3 d2 d3 _).mono ?_; rintro e w23 ⟨rfl, hs⟩
      rw [hy.out]
      clear c1 c2 c3 c4 c5 c6 c7 c8 c9 c10 c11 c12 c13
      replace hb := hb.trans (hs.mono (Nat.le_of_lt bb.b1.lt))
      replace bb := bb.below hs
      clear hs
      obtain ⟨c1, c2, c3, c4, c5, c6, c7, c8, c9, c10, c11, c12, c13⟩ := bb.cells
      go_wp2_with fail
      have asy := beats2_asy (a2, a3) (d2, d3)
      rw [hy.out, Bool.true_and] at asy
      refine (Beats2_any d2 d3 a2 a3 _).mono ?_; rintro e w24 ⟨rfl, hs⟩
      rw [asy]
      clear c1 c2 c3 c4 c5 c6 c7 c8 c9 c10 c11 c12 c13
      replace hb := hb.trans (hs.mono (Nat.le_of_lt bb.b1.lt))
      replace bb := bb.below hs
      clear hs
      obtain ⟨c1, c2, c3, c4, c5, c6, c7, c8, c9, c10, c11, c12, c13⟩ := bb.cells
      clear asy
      go_wp2_with fail
      refine (Beats3_any a1 a2 a3 d1 d2 d3 _).mono ?_; rintro e w25 ⟨rfl, hs⟩
      rw [hx.out]
      clear c1 c2 c3 c4 c5 c6 c7 c8 c9 c10 c11 c12 c13
      replace hb := hb.trans (hs.mono (Nat.le_of_lt bb.b1.lt))
      replace bb := bb.below hs
      clear hs
      obtain ⟨c1, c2, c3, c4, c5, c6, c7, c8, c9, c10, c11, c12, c13⟩ := bb.cells
      go_wp2_with fail
      cases hz0 : beats3 (d1, d2, d3) (f1, f2, f3) with
      | false =>
        have hz := Lib.hid hz0
        clear hz0
        refine (Beats3_any d1 d2 d3 f1 f2 f3 _).mono ?_; rintro e w26 ⟨rfl, hs⟩
        rw [hz.out]
        clear c1 c2 c3 c4 c5 c6 c7 c8 c9 c10 c11 c12 c13
        replace hb := hb.trans (hs.mono (Nat.le_of_lt bb.b1.lt))
        replace bb := bb.below hs
        clear hs
        obtain ⟨c1, c2, c3, c4, c5, c6, c7, c8, c9, c10, c11, c12, c13⟩ := bb.cells
        go_upto_region 8 with fail
        by_cases hd : a1 = d1
        · subst hd
          have hn2 : (a1 != a1) = false := by simp
          refine wp_region_below w26.heap.size (by kernel_rfl) (by kernel_rfl) ?_
          intro C hC
          repeat (go_big_quiet_step (first
            | ((intro _; with_reducible rfl))
            | (intro hc; have m1 := (hc.cell (p := ⟨A, _, none⟩) bb.b1.lt).trans c1; have m2 := (hc.cell (p := ⟨A, _, none⟩) bb.b1.lt).trans c2; have m3 := (hc.cell (p := ⟨A, _, none⟩) bb.b1.lt).trans c3; have m4 := (hc.cell (p := ⟨B, _, none⟩) bb.b2.lt).trans c4; have m5 := (hc.cell (p := ⟨B, _, none⟩) bb.b2.lt).trans c5; have m6 := (hc.cell (p := ⟨B, _, none⟩) bb.b2.lt).trans c6; have m7 := (hc.cell (p := ⟨k, _, none⟩) bb.p1.lt).trans c10; have m8 := (hc.cell (p := ⟨k, _, none⟩) bb.p1.lt).trans c11; have m9 := (hc.cell (p := ⟨q, _, none⟩) bb.p2.lt).trans c12; have m10 := (hc.cell (p := ⟨q, _, none⟩) bb.p2.lt).trans c13; simp only [m1, m2, m3, m4, m5, m6, m7, m8, m9, m10, Result.andThen]; exact ⟨trivial, rfl⟩)
            | (intro hc; refine (Beats3_any _ _ _ _ _ _ _).mono ?_; rintro e w'' ⟨rfl, hs⟩; exact ⟨congrArg (fun b => Ending.returned (.bool b)) hx.out, hc.trans (hs.mono hc.size)⟩)
            | (intro hc; refine (Beats2_any _ _ _ _ _).mono ?_; rintro e w'' ⟨rfl, hs⟩; exact ⟨congrArg (fun b => Ending.returned (.bool b)) hy.out, hc.trans (hs.mono hc.size)⟩)))
          refine wpQuiet_nil ?_
          intro w' hb4
          clear hC
          go_wp2_with fail
          go_returns
          exact ⟨rfl, by rw [hA]; exact hb.trans (hb4.mono (Nat.le_of_lt bb.b1.lt))⟩
        · have hn : (a1 == d1) = false := by simp [hd]
          have hn2 : (a1 != d1) = true := by simp [hd]
          clear hd
          refine wp_region_below w26.heap.size (by kernel_rfl) (by kernel_rfl) ?_
          intro C hC
          repeat (go_big_quiet_step (first
            | ((intro _; with_reducible rfl))
            | (intro hc; have m1 := (hc.cell (p := ⟨A, _, none⟩) bb.b1.lt).trans c1; have m2 := (hc.cell (p := ⟨A, _, none⟩) bb.b1.lt).trans c2; have m3 := (hc.cell (p := ⟨A, _, none⟩) bb.b1.lt).trans c3; have m4 := (hc.cell (p := ⟨B, _, none⟩) bb.b2.lt).trans c4; have m5 := (hc.cell (p := ⟨B, _, none⟩) bb.b2.lt).trans c5; have m6 := (hc.cell (p := ⟨B, _, none⟩) bb.b2.lt).trans c6; have m7 := (hc.cell (p := ⟨k, _, none⟩) bb.p1.lt).trans c10; have m8 := (hc.cell (p := ⟨k, _, none⟩) bb.p1.lt).trans c11; have m9 := (hc.cell (p := ⟨q, _, none⟩) bb.p2.lt).trans c12; have m10 := (hc.cell (p := ⟨q, _, none⟩) bb.p2.lt).trans c13; simp only [m1, m2, m3, m4, m5, m6, m7, m8, m9, m10, Result.andThen]; exact ⟨trivial, rfl⟩)))
          refine wpQuiet_nil ?_
          intro w' hb4
          clear hC
          go_wp2_with fail
          go_returns
          exact ⟨rfl, by rw [hA]; exact hb.trans (hb4.mono (Nat.le_of_lt bb.b1.lt))⟩
      | true =>
        have hz := Lib.hid hz0
        clear hz0
        refine (Beats3_any d1 d2 d3 f1 f2 f3 _).mono ?_; rintro e w26 ⟨rfl, hs⟩
        rw [hz.out]
        clear c1 c2 c3 c4 c5 c6 c7 c8 c9 c10 c11 c12 c13
        replace hb := hb.trans (hs.mono (Nat.le_of_lt bb.b1.lt))
        replace bb := bb.below hs
        clear hs
        obtain ⟨c1, c2, c3, c4, c5, c6, c7, c8, c9, c10, c11, c12, c13⟩ := bb.cells
        go_wp2_with fail
        refine (Beats3_any a1 a2 a3 f1 f2 f3 _).mono ?_; rintro e w28 ⟨rfl, hs⟩
        rw [beats3_trans _ _ _ hx.out hz.out]
        clear c1 c2 c3 c4 c5 c6 c7 c8 c9 c10 c11 c12 c13
        replace hb := hb.trans (hs.mono (Nat.le_of_lt bb.b1.lt))
        replace bb := bb.below hs
        clear hs
        obtain ⟨c1, c2, c3, c4, c5, c6, c7, c8, c9, c10, c11, c12, c13⟩ := bb.cells
        go_upto_region 8 with fail
        by_cases hd : a1 = d1
        · subst hd
          have hn2 : (a1 != a1) = false := by simp
          refine wp_region_below w28.heap.size (by kernel_rfl) (by kernel_rfl) ?_
          intro C hC
          repeat (go_big_quiet_step (first
            | ((intro _; with_reducible rfl))
            | (intro hc; have m1 := (hc.cell (p := ⟨A, _, none⟩) bb.b1.lt).trans c1; have m2 := (hc.cell (p := ⟨A, _, none⟩) bb.b1.lt).trans c2; have m3 := (hc.cell (p := ⟨A, _, none⟩) bb.b1.lt).trans c3; have m4 := (hc.cell (p := ⟨B, _, none⟩) bb.b2.lt).trans c4; have m5 := (hc.cell (p := ⟨B, _, none⟩) bb.b2.lt).trans c5; have m6 := (hc.cell (p := ⟨B, _, none⟩) bb.b2.lt).trans c6; have m7 := (hc.cell (p := ⟨k, _, none⟩) bb.p1.lt).trans c10; have m8 := (hc.cell (p := ⟨k, _, none⟩) bb.p1.lt).trans c11; have m9 := (hc.cell (p := ⟨q, _, none⟩) bb.p2.lt).trans c12; have m10 := (hc.cell (p := ⟨q, _, none⟩) bb.p2.lt).trans c13; simp only [m1, m2, m3, m4, m5, m6, m7, m8, m9, m10, Result.andThen]; exact ⟨trivial, rfl⟩)
            | (intro hc; refine (Beats3_any _ _ _ _ _ _ _).mono ?_; rintro e w'' ⟨rfl, hs⟩; exact ⟨congrArg (fun b => Ending.returned (.bool b)) hx.out, hc.trans (hs.mono hc.size)⟩)
            | (intro hc; refine (Beats2_any _ _ _ _ _).mono ?_; rintro e w'' ⟨rfl, hs⟩; exact ⟨congrArg (fun b => Ending.returned (.bool b)) hy.out, hc.trans (hs.mono hc.size)⟩)))
          refine wpQuiet_nil ?_
          intro w' hb4
          clear hC
          go_wp2_with fail
          go_returns
          exact ⟨rfl, by rw [hA]; exact hb.trans (hb4.mono (Nat.le_of_lt bb.b1.lt))⟩
        · have hn : (a1 == d1) = false := by simp [hd]
          have hn2 : (a1 != d1) = true := by simp [hd]
          clear hd
          refine wp_region_below w28.heap.size (by kernel_rfl) (by kernel_rfl) ?_
          intro C hC
          repeat (go_big_quiet_step (first
            | ((intro _; with_reducible rfl))
            | (intro hc; have m1 := (hc.cell (p := ⟨A, _, none⟩) bb.b1.lt).trans c1; have m2 := (hc.cell (p := ⟨A, _, none⟩) bb.b1.lt).trans c2; have m3 := (hc.cell (p := ⟨A, _, none⟩) bb.b1.lt).trans c3; have m4 := (hc.cell (p := ⟨B, _, none⟩) bb.b2.lt).trans c4; have m5 := (hc.cell (p := ⟨B, _, none⟩) bb.b2.lt).trans c5; have m6 := (hc.cell (p := ⟨B, _, none⟩) bb.b2.lt).trans c6; have m7 := (hc.cell (p := ⟨k, _, none⟩) bb.p1.lt).trans c10; have m8 := (hc.cell (p := ⟨k, _, none⟩) bb.p1.lt).trans c11; have m9 := (hc.cell (p := ⟨q, _, none⟩) bb.p2.lt).trans c12; have m10 := (hc.cell (p := ⟨q, _, none⟩) bb.p2.lt).trans c13; simp only [m1, m2, m3, m4, m5, m6, m7, m8, m9, m10, Result.andThen]; exact ⟨trivial, rfl⟩)))
          refine wpQuiet_nil ?_
          intro w' hb4
          clear hC
          go_wp2_with fail
          go_returns
          exact ⟨rfl, by rw [hA]; exact hb.trans (hb4.mono (Nat.le_of_lt bb.b1.lt))⟩
end Go.Proofs.Ytlkephcmbfanhaa
