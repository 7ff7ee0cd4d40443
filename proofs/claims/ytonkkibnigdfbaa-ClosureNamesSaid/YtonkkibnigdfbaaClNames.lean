/-
  Walk: timetablelaw14.ClosureNames answers true (clo/gen6.py).
-/
import Derived.Test.YtonkkibnigdfbaaClLives
import Derived.Test.YtonkkibnigdfbaaClLen
namespace Go.Proofs.Ytonkkibnigdfbaa
open Go.RowKit Go.Shelf B K
set_option linter.unusedVariables false
set_option linter.unusedSimpArgs false
set_option maxHeartbeats 4000000
section
variable {A B : Option Addr} {c d : Nat} {w : World}
theorem xcMake (hr : RNet w exC A 3 B 4) : Calls Try.prog 41 #[.agg #[.int .i64 90, .slice A 3 c, .slice B 4 d]] w fun e w' => ∃ A' c', e = .returned (.tuple #[.slice A' 3 c', .int .i64 0]) ∧ RRows w' exCC A' 3 ∧ Below w.heap.size w w' := by
  refine (cmake_any (c := c) (d := d) exC_small w hr).mono ?_
  rintro e w' ⟨A', c', he, h1, _, _, hb⟩
  rw [exC_mk, show chkN exC = 0 from by decide] at he
  rw [exC_mk] at h1
  exact ⟨A', c', he, h1, hb⟩
theorem xcPlain (hr : RNet w exC A 3 B 4) : Calls Try.prog 44 #[.agg #[.int .i64 90, .slice A 3 c, .slice B 4 d]] w fun e w' => ∃ A' c', e = .returned (.tuple #[.slice A' 4 c', .int .i64 0]) ∧ Rd w' 1 (numE .i64) A' 4 [0, 1, 2, 3] ∧ Below w.heap.size w w' := by
  refine (cplain_any (c := c) (d := d) exC_small w hr).mono ?_
  rintro e w' ⟨A', c', he, h1, hb⟩
  rw [show plR exC = [0, 1, 2, 3] from by decide, show chkN exC = 0 from by decide] at he
  rw [show plR exC = [0, 1, 2, 3] from by decide] at h1
  exact ⟨A', c', he, h1, hb⟩
theorem xcPlain1 (hr : RNet w { exC with cs := [[], [(4, 5)], []] } A 3 B 4) : Calls Try.prog 44 #[.agg #[.int .i64 90, .slice A 3 c, .slice B 4 d]] w fun e w' => ∃ A' c', e = .returned (.tuple #[.slice A' 0 c', .int .i64 0]) ∧ Below w.heap.size w w' := by
  refine (cplain_any (c := c) (d := d) (N := { exC with cs := [[], [(4, 5)], []] }) ⟨by decide, by decide, by decide, by decide⟩ w hr).mono ?_
  rintro e w' ⟨A', c', he, h1, hb⟩
  rw [show plR { exC with cs := [[], [(4, 5)], []] } = [] from by decide, show chkN { exC with cs := [[], [(4, 5)], []] } = 0 from by decide] at he
  exact ⟨A', c', he, hb⟩
theorem xcMake0 : Calls Try.prog 41 #[.agg #[.int .i64 (-1), .slice none 0 0, .slice none 0 0]] w fun e w' => ∃ A' n' c', e = .returned (.tuple #[.slice A' n' c', .int .i64 2]) ∧ Below w.heap.size w w' := by
  refine (cmake_any (N := ⟨-1, [], []⟩) (A := none) (B := none) (n := 0) (m := 0) (c := 0) (d := 0) ⟨by decide, by decide, by decide, by decide⟩ w ⟨rfl, rfl, fun k l h => (by cases h), fun k l h => (by cases h)⟩).mono ?_
  rintro e w' ⟨A', c', he, _, _, _, hb⟩
  rw [show chkN ⟨-1, [], []⟩ = 2 from by decide] at he
  exact ⟨A', _, c', he, hb⟩
end
theorem exCC_wf : RowsWf exCC := ⟨by decide, by decide⟩
theorem frozen_cells {w : World} {b o : Nat} {vs : Array Value} {t : TypeId} (h : w.heap[b]? = some (.cells vs t)) : w.frozen? ⟨b, o, none⟩ = false := by simp [World.frozen?, h]
theorem heap_set1 {w : World} {b : Nat} {x y z u : Value} {t : TypeId} (h : w.heap[b]? = some (.cells #[x, y, z] t)) : (w.setCell ⟨b, 1, none⟩ u).heap[b]? = some (.cells #[x, u, z] t) := by
  have hlt := (Array.getElem?_eq_some_iff.1 h).1
  have h' := (Array.getElem?_eq_some_iff.1 h).2
  show (w.heap.modify b _)[b]? = _
  rw [Array.getElem?_eq_getElem (by simpa using hlt), Array.getElem_modify_self, h']
  rfl
theorem rd_win {w : World} {b : Nat} {x y : Int} {t : TypeId} (h : w.heap[b]? = some (.cells #[.int .i64 x, .int .i64 y] t)) : Rd w 2 pairE (some ⟨b, 0, none⟩) 1 [(x, y)] := by
  refine ⟨rfl, fun _ => ⟨_, 0, rfl, (Array.getElem?_eq_some_iff.1 h).1, fun i z hx j u hu => ?_⟩⟩
  have hi : i = 0 := by have := (List.getElem?_eq_some_iff.1 hx).1; simpa using this
  subst hi
  simp at hx; subst hx
  rw [cell_of_row _ _ _ _ _ _ h]
  simpa [pairE] using hu
set_option maxRecDepth 100000 in
theorem cnames_any (w0 : World) : Calls Try.prog 13 #[] w0 fun e w' => e = .returned (.bool true) ∧ Below w0.heap.size w0 w' := by
  go_enter Try.func13, Try.ntmps13
  go_wp2_with fail
  refine (cexample_any _).mono ?_; rintro e w1 ⟨A, c, B, d, rfl, hr, hb1⟩
  have s1 := Lib.hid hb1
  have hC := Lib.hid (xcMake (c := c) (d := d) hr)
  clear hr hb1
  go_wp2_with fail
  refine hC.out.mono ?_; rintro e w2 ⟨A1, c1, rfl, hRw, hb2⟩
  have s2 := Lib.hid (s1.out.trans (hb2.mono s1.out.size))
  have hRwh := Lib.hid hRw
  clear hC hb2 hRw
  go_wp2_with fail
  refine (cexampleB_any _).mono ?_; rintro e w3 ⟨k1, k2, rfl, hk1, hk12, r1, r2, hb3⟩
  have hb4 : Below w3.heap.size w3 (w3.alloc (.cells #[.int .i64 90, .slice (some ⟨k1, 0, none⟩) 3 3, .slice (some ⟨k2, 0, none⟩) 4 4] 25)) := (Below.refl _ w3).alloc (Nat.le_refl _) _
  obtain ⟨x0, x1, x2⟩ := rowBx3 w3 25 (.int .i64 90) (.slice (some ⟨k1, 0, none⟩) 3 3) (.slice (some ⟨k2, 0, none⟩) 4 4)
  have hl1 := (Array.getElem?_eq_some_iff.1 r1).1
  have hl2 := (Array.getElem?_eq_some_iff.1 r2).1
  have r1 := (hb4.block k1 hl1).trans r1
  have r2 := (hb4.block k2 hl2).trans r2
  have hbn : w3.heap.size < (w3.alloc (.cells #[.int .i64 90, .slice (some ⟨k1, 0, none⟩) 3 3, .slice (some ⟨k2, 0, none⟩) 4 4] 25)).heap.size := by simp
  obtain ⟨w4, hw4⟩ : ∃ q, w3.alloc (.cells #[.int .i64 90, .slice (some ⟨k1, 0, none⟩) 3 3, .slice (some ⟨k2, 0, none⟩) 4 4] 25) = q := ⟨_, rfl⟩
  rw [hw4] at hb4 x0 x1 x2 r1 r2 hbn
  obtain ⟨bn, hbn'⟩ : ∃ q, w3.heap.size = q := ⟨_, rfl⟩
  rw [hbn'] at x0 x1 x2 hbn hl1 hl2
  have hb14 : Below w2.heap.size w2 w4 := hb3.trans (hb4.mono hb3.size)
  have hb5 : Below w4.heap.size w4 (w4.alloc (.cells #[.int .i64 4, .int .i64 5] 70)) := (Below.refl _ w4).alloc (Nat.le_refl _) _
  have hn5 := heap_alloc_new w4 (.cells #[.int .i64 4, .int .i64 5] 70)
  have hl1' : k1 < w4.heap.size := by omega
  have hl2' : k2 < w4.heap.size := by omega
  have hf : (w4.alloc (.cells #[.int .i64 4, .int .i64 5] 70)).frozen? ⟨k1, 1, none⟩ = false := frozen_cells ((hb5.block k1 hl1').trans r1)
  have f1 : (w4.alloc (.cells #[.int .i64 4, .int .i64 5] 70)).cell? ⟨k1, 1, none⟩ = some (.slice none 0 0) := by rw [cell_of_row _ _ _ _ _ _ ((hb5.block k1 hl1').trans r1)]; rfl
  have r5 := (hb5.block k1 hl1').trans r1
  have r6 := (hb5.block k2 hl2').trans r2
  have x0' := (hb5.cell (p := ⟨bn, 0, none⟩) hbn).trans x0
  have x1' := (hb5.cell (p := ⟨bn, 1, none⟩) hbn).trans x1
  have x2' := (hb5.cell (p := ⟨bn, 2, none⟩) hbn).trans x2
  have hb15 := hb14.trans (hb5.mono hb14.size)
  obtain ⟨w5, hw5⟩ : ∃ q, w4.alloc (.cells #[.int .i64 4, .int .i64 5] 70) = q := ⟨_, rfl⟩
  rw [hw5] at hf f1 r5 r6 x0' x1' x2' hb15 hn5 hb5
  obtain ⟨b4, hb4'⟩ : ∃ q, w4.heap.size = q := ⟨_, rfl⟩
  rw [hb4'] at hn5
  have hl14 : k1 < b4 := by omega
  have hkb : bn ≠ k1 := by omega
  have r7 := heap_set1 (u := .slice (some ⟨b4, 0, none⟩) 1 1) r5
  have r8 := (Below.heap_setCell w5 ⟨k1, 1, none⟩ (.slice (some ⟨b4, 0, none⟩) 1 1) k2 (fun h => hk12 h.symm)).trans r6
  have r9 := (Below.heap_setCell w5 ⟨k1, 1, none⟩ (.slice (some ⟨b4, 0, none⟩) 1 1) b4 (by show b4 ≠ k1; omega)).trans hn5
  have y0 := (World.cell?_setCell_other w5 ⟨k1, 1, none⟩ ⟨bn, 0, none⟩ (.slice (some ⟨b4, 0, none⟩) 1 1) (fun e => hkb (congrArg Addr.block e).symm)).trans x0'
  have y1 := (World.cell?_setCell_other w5 ⟨k1, 1, none⟩ ⟨bn, 1, none⟩ (.slice (some ⟨b4, 0, none⟩) 1 1) (fun e => hkb (congrArg Addr.block e).symm)).trans x1'
  have y2 := (World.cell?_setCell_other w5 ⟨k1, 1, none⟩ ⟨bn, 2, none⟩ (.slice (some ⟨b4, 0, none⟩) 1 1) (fun e => hkb (congrArg Addr.block e).symm)).trans x2'
  have hb16 : Below w2.heap.size w2 (w5.setCell ⟨k1, 1, none⟩ (.slice (some ⟨b4, 0, none⟩) 1 1)) := hb15.setCell hk1 _
  obtain ⟨w6, hw6⟩ : ∃ q, w5.setCell ⟨k1, 1, none⟩ (.slice (some ⟨b4, 0, none⟩) 1 1) = q := ⟨_, rfl⟩
  rw [hw6] at r7 r8 r9 y0 y1 y2 hb16
  have hr6 := exC_net r7 r8 ⟨rd_win r9, by omega, by omega⟩
  have hC := Lib.hid (xcPlain1 (c := 3) (d := 4) hr6)
  have s6 := Lib.hid hb16
  clear r1 r2 r5 r6 r7 r8 r9 hr6 hb16 hb15 hb14 hb5 hb4 hb3 hk1 hk12 hl1 hl2 hl1' hl2' hbn hn5 hl14 hkb
  go_wp2_with fail
  refine hC.out.mono ?_; rintro e w7 ⟨A3, c3, rfl, hb7⟩
  have s7 := Lib.hid (s6.out.trans (hb7.mono s6.out.size))
  clear hw4 hw5 hw6 hbn' hb4' x0 x1 x2 x0' x1' x2' y0 y1 y2 f1 hf hC hb7
  go_wp2_with fail
  refine (cexample_any _).mono ?_; rintro e w8 ⟨A, c, B, d, rfl, hr, hb8⟩
  have s8 := Lib.hid (s7.out.trans (hb8.mono s7.out.size))
  have hC := Lib.hid (xcPlain (c := c) (d := d) hr)
  clear hr hb8
  go_wp2_with fail
  refine hC.out.mono ?_; rintro e w9 ⟨A4, c4, rfl, hR4, hb9⟩
  have s9 := Lib.hid (s8.out.trans (hb9.mono s8.out.size))
  have hR4h := Lib.hid hR4
  clear hC hb9 hR4
  go_wp2_with fail
  refine xcMake0.mono ?_; rintro e w10 ⟨A5, n5, c5, rfl, hb10⟩
  have t10 := Lib.hid hb10
  clear hb10
  go_wp2_with fail
  refine (clives_any _).mono ?_; rintro e w11 ⟨rfl, hb11⟩
  have t11 := Lib.hid (t10.out.trans (hb11.mono t10.out.size))
  clear hb11
  have ha := (Below.refl _ w11).alloc (Nat.le_refl _) (.cells #[.int .i64 0, .int .i64 1, .int .i64 2, .int .i64 3] 3)
  have hl := Rd.lit w11 1 (numE .i64) nume_len 3 [0, 1, 2, 3]
  have hC := Lib.hid (sameI_any A4 4 c4 [0, 1, 2, 3] (some ⟨w11.heap.size, 0, none⟩) 4 4 [0, 1, 2, 3] _ ((hR4h.out.below t11.out).below ha) hl (by omega) (by omega))
  rw [decide_eq_true rfl] at hC
  have ha := Lib.hid ha
  rename_i haX; clear haX
  clear hl
  go_wp2_with fail
  refine hC.out.mono ?_; rintro e w12 ⟨rfl, hb12⟩
  have s12 := Lib.hid ((s9.out.trans (t11.out.mono s9.out.size)).trans ((ha.out.trans (hb12.mono ha.out.size)).mono (s9.out.trans (t11.out.mono s9.out.size)).size))
  clear hC ha hb12
  have hC := Lib.hid (cLen_any c1 (0) (2) w12 (hRwh.out.below s12.out) exCC_wf (by decide) (by decide))
  rw [show lenC exCC (0) (2) = 7 from by decide] at hC
  go_wp2_with fail
  refine hC.out.mono ?_; rintro e w13 ⟨rfl, hbx⟩
  have s13 := Lib.hid (s12.out.trans (hbx.mono s12.out.size))
  clear hC hbx
  have hC := Lib.hid (cLen_any c1 (3) (0) w13 (hRwh.out.below s13.out) exCC_wf (by decide) (by decide))
  rw [show lenC exCC (3) (0) = 4611686018427387904 from by decide] at hC
  go_wp2_with fail
  refine hC.out.mono ?_; rintro e w14 ⟨rfl, hbx⟩
  have s14 := Lib.hid (s13.out.trans (hbx.mono s13.out.size))
  clear hC hbx
  have hC := Lib.hid (cLen_any c1 (0) (3) w14 (hRwh.out.below s14.out) exCC_wf (by decide) (by decide))
  rw [show lenC exCC (0) (3) = 4611686018427387904 from by decide] at hC
  go_wp2_with fail
  refine hC.out.mono ?_; rintro e w15 ⟨rfl, hbx⟩
  have s15 := Lib.hid (s14.out.trans (hbx.mono s14.out.size))
  clear hC hbx
  have hC := Lib.hid (cWithin_any c1 (1) (3) w15 (hRwh.out.below s15.out) exCC_wf)
  rw [show withinC exCC (1) (3) = [1, 0] from by decide] at hC
  go_wp2_with fail
  refine hC.out.mono ?_; rintro e w16 ⟨A6, c6, rfl, hR6, _, _, hb16⟩
  have s16 := Lib.hid (s15.out.trans (hb16.mono s15.out.size))
  have hl6 : ([1, 0] : List Int).length = 2 := rfl
  rw [hl6] at hR6 ⊢
  have ha := (Below.refl _ w16).alloc (Nat.le_refl _) (.cells #[.int .i64 1, .int .i64 0] 3)
  have hl := Rd.lit w16 1 (numE .i64) nume_len 3 [1, 0]
  have hD := Lib.hid (sameI_any A6 2 c6 [1, 0] (some ⟨w16.heap.size, 0, none⟩) 2 2 [1, 0] _ (hR6.below ha) hl (by omega) (by omega))
  rw [decide_eq_true rfl] at hD
  have hah := Lib.hid ha
  clear hl hC hb16 hR6 ha hl6
  go_wp2_with fail
  refine hD.out.mono ?_; rintro e w17 ⟨rfl, hb17⟩
  have s17 := Lib.hid (s16.out.trans ((hah.out.trans (hb17.mono hah.out.size)).mono s16.out.size))
  clear hD hah hb17
  have hC := Lib.hid (cWithin_any c1 (-1) (3) w17 (hRwh.out.below s17.out) exCC_wf)
  rw [show withinC exCC (-1) (3) = [] from by decide] at hC
  go_wp2_with fail
  refine hC.out.mono ?_; rintro e w18 ⟨A7, c7, rfl, _, _, _, hb18⟩
  have s18 := Lib.hid (s17.out.trans (hb18.mono s17.out.size))
  have hl7 : ([] : List Int).length = 0 := rfl
  rw [hl7]
  clear hC hb18 hl7
  go_wp2_with fail
  go_returns
  exact ⟨rfl, s2.out.trans (s18.out.mono s2.out.size)⟩
end Go.Proofs.Ytonkkibnigdfbaa
