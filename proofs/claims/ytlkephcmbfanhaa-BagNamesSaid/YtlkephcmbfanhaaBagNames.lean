/-
  Walk: timetablelaw22.BagNames answers true.
-/
import Derived.Test.YtlkephcmbfanhaaBag12
namespace Go.Proofs.Ytlkephcmbfanhaa
open Go.RowKit B K Go.Shelf
set_option linter.unusedVariables false
set_option linter.unusedSimpArgs false
set_option maxHeartbeats 4000000
theorem Rd.some2 {α : Type} {w : World} {size n : Nat} {enc : α → List Value} {A : Option Addr} {l : List α} (h : Rd w size enc A n l) : A = none → n = 0 := by
  intro hA
  by_cases hn : n = 0
  · exact hn
  · obtain ⟨k, off, e, _⟩ := h.2 (by omega)
    rw [hA] at e; cases e
theorem names1 (A : Option Addr) (c : Nat) (w : World) (hr : Rd w 2 pairE A 1 [(9, 1)]) :
    Calls Try.prog 24 #[.slice A 1 c, .agg #[.int .i64 9, .int .i64 1]] w fun e w' => ∃ A' c', e = .returned (.tuple #[.slice A' 1 c', .bool false]) ∧ Rd w' 2 pairE A' 1 [(9, 1)] ∧ Below w.heap.size w w' := by
  refine (Put2_any 9 1 A 1 c [(9, 1)] w hr (by omega) (Rd.some2 hr)).mono ?_; rintro e w' ⟨A', c', he, r, _, _, hb⟩
  have e1 : L2 ([(9, 1)] ++ [(9, 1)]) = [(9, 1)] := by decide
  have e2 : (decide (((9, 1) : P2) ∈ ([(9, 1)] : List P2)) && !decide (((9, 1) : P2) ∈ ([(9, 1)] : List P2))) = false := by decide
  rw [e1] at he r
  rw [e2] at he
  exact ⟨A', c', he, r, hb⟩
theorem names2 (A : Option Addr) (c : Nat) (w : World) (hr : Rd w 2 pairE A 1 [(9, 1)]) :
    Calls Try.prog 24 #[.slice A 1 c, .agg #[.int .i64 7, .int .i64 2]] w fun e w' => ∃ A' c', e = .returned (.tuple #[.slice A' 2 c', .bool true]) ∧ Rd w' 2 pairE A' 2 [(9, 1), (7, 2)] ∧ Below w.heap.size w w' := by
  refine (Put2_any 7 2 A 1 c [(9, 1)] w hr (by omega) (Rd.some2 hr)).mono ?_; rintro e w' ⟨A', c', he, r, _, _, hb⟩
  have e1 : L2 ([(9, 1)] ++ [(7, 2)]) = [(9, 1), (7, 2)] := by decide
  have e2 : (decide (((7, 2) : P2) ∈ ([(9, 1), (7, 2)] : List P2)) && !decide (((7, 2) : P2) ∈ ([(9, 1)] : List P2))) = true := by decide
  rw [e1] at he r
  rw [e2] at he
  exact ⟨A', c', he, r, hb⟩
theorem names3 (A : Option Addr) (c : Nat) (w : World) (hr : Rd w 2 pairE A 2 [(9, 1), (7, 2)]) :
    Calls Try.prog 24 #[.slice A 2 c, .agg #[.int .i64 (-1), .int .i64 0]] w fun e w' => ∃ A' c', e = .returned (.tuple #[.slice A' 2 c', .bool false]) ∧ Rd w' 2 pairE A' 2 [(9, 1), (7, 2)] ∧ Below w.heap.size w w' := by
  refine (Put2_any (-1) 0 A 2 c [(9, 1), (7, 2)] w hr (by omega) (Rd.some2 hr)).mono ?_; rintro e w' ⟨A', c', he, r, _, _, hb⟩
  have e1 : L2 ([(9, 1), (7, 2)] ++ [(-1, 0)]) = [(9, 1), (7, 2)] := by decide
  have e2 : (decide (((-1, 0) : P2) ∈ ([(9, 1), (7, 2)] : List P2)) && !decide (((-1, 0) : P2) ∈ ([(9, 1), (7, 2)] : List P2))) = false := by decide
  rw [e1] at he r
  rw [e2] at he
  exact ⟨A', c', he, r, hb⟩
set_option maxRecDepth 100000 in
theorem names_any (w : World) :
    Calls Try.prog 7 #[] w fun e w' => e = .returned (.bool true) ∧ Below w.heap.size w w' := by
  have hb0 := Below.refl w.heap.size w
  go_enter Try.func7, Try.ntmps7
  go_wp2_with fail
  refine (lpair_any 9 1 _).mono ?_; rintro e w1 ⟨rfl, hg1⟩
  have hb1 := hb0.trans (hg1.below.mono hb0.size)
  clear hg1 hb0
  have r1 := Rd.lit w1 2 pairE pairE_len2 26 [(9, 1)]
  have hbx : Below w1.heap.size w1 (w1.alloc (.cells #[.int .i64 9, .int .i64 1] 26)) := (Below.refl _ w1).alloc (Nat.le_refl _) _
  have hb1 := hb1.trans (hbx.mono hb1.size)
  clear hbx
  go_wp2_with fail
  refine (lpair_any 9 1 _).mono ?_; rintro e w2 ⟨rfl, hg2⟩
  have r1 := r1.below hg2.below
  have hb2 := hb1.trans (hg2.below.mono hb1.size)
  clear hg2 hb1
  go_wp2_with fail
  refine (names1 _ 1 _ r1).mono ?_; rintro e w3 ⟨A2, c2, rfl, r2, hb3⟩
  have hbx := hb3
  have r1 := r1.below hbx
  have hb3 := hb2.trans (hbx.mono hb2.size)
  clear hbx hb2
  clear r1
  go_wp2_with fail
  refine (lpair_any 7 2 _).mono ?_; rintro e w4 ⟨rfl, hg4⟩
  have r2 := r2.below hg4.below
  have hb4 := hb3.trans (hg4.below.mono hb3.size)
  clear hg4 hb3
  go_wp2_with fail
  refine (names2 A2 c2 _ r2).mono ?_; rintro e w5 ⟨A3, c3, rfl, r3, hb5⟩
  have hbx := hb5
  have r2 := r2.below hbx
  have hb5 := hb4.trans (hbx.mono hb4.size)
  clear hbx hb4
  go_wp2_with fail
  refine (lpair_any (-1) 0 _).mono ?_; rintro e w6 ⟨rfl, hg6⟩
  have r2 := r2.below hg6.below
  have r3 := r3.below hg6.below
  have hb6 := hb5.trans (hg6.below.mono hb5.size)
  clear hg6 hb5
  go_wp2_with fail
  refine (names3 A3 c3 _ r3).mono ?_; rintro e w7 ⟨A4, c4, rfl, r4, hb7⟩
  have hbx := hb7
  have r2 := r2.below hbx
  have r3 := r3.below hbx
  have hb7 := hb6.trans (hbx.mono hb6.size)
  clear hbx hb6
  clear r2
  clear r4
  go_wp2_with fail
  refine (lives_any _).mono ?_; rintro e w8 ⟨rfl, hb8⟩
  have hbx := hb8
  have r3 := r3.below hbx
  have hb8 := hb7.trans (hbx.mono hb7.size)
  clear hbx hb7
  go_wp2_with fail
  refine (Best_any A3 2 c3 [(9, 1), (7, 2)] 1 _ r3 (by omega)).mono ?_; rintro e w9 ⟨rfl, hb9⟩
  rw [show bestF 1 [(9, 1), (7, 2)] = 9 from by decide]
  have hbx := hb9
  have r3 := r3.below hbx
  have hb9 := hb8.trans (hbx.mono hb8.size)
  clear hbx hb8
  go_wp2_with fail
  refine (Best_any A3 2 c3 [(9, 1), (7, 2)] 0 _ r3 (by omega)).mono ?_; rintro e w10 ⟨rfl, hb10⟩
  rw [show bestF 0 [(9, 1), (7, 2)] = 4611686018427387904 from by decide]
  have hbx := hb10
  have r3 := r3.below hbx
  have hb10 := hb9.trans (hbx.mono hb9.size)
  clear hbx hb9
  go_wp2_with fail
  refine (lpair_any 0 17 _).mono ?_; rintro e w11 ⟨rfl, hg11⟩
  have r3 := r3.below hg11.below
  have hb11 := hb10.trans (hg11.below.mono hb10.size)
  clear hg11 hb10
  go_wp2_with fail
  refine (Check2_any 0 17 _).mono ?_; rintro e w12 ⟨rfl, hb12⟩
  rw [show chkB (may2 (0, 17)) = 2 from by decide]
  have hbx := hb12
  have r3 := r3.below hbx
  have hb12 := hb11.trans (hbx.mono hb11.size)
  clear hbx hb11
  go_wp2_with fail
  refine (ltriple_any 4 3 0 _).mono ?_; rintro e w13 ⟨rfl, hg13⟩
  have r3 := r3.below hg13.below
  have hb13 := hb12.trans (hg13.below.mono hb12.size)
  clear hg13 hb12
  go_wp2_with fail
  refine (Check3_any 4 3 0 _).mono ?_; rintro e w14 ⟨rfl, hb14⟩
  rw [show chkB (may3 (4, 3, 0)) = 2 from by decide]
  have hbx := hb14
  have r3 := r3.below hbx
  have hb14 := hb13.trans (hbx.mono hb13.size)
  clear hbx hb13
  go_wp2_with fail
  refine (lpair_any 1 1 _).mono ?_; rintro e w15 ⟨rfl, hg15⟩
  have r3 := r3.below hg15.below
  have hb15 := hb14.trans (hg15.below.mono hb14.size)
  clear hg15 hb14
  go_wp2_with fail
  refine (lpair_any 1 1 _).mono ?_; rintro e w16 ⟨rfl, hg16⟩
  have r3 := r3.below hg16.below
  have hb16 := hb15.trans (hg16.below.mono hb15.size)
  clear hg16 hb15
  go_wp2_with fail
  refine (Beats2_any 1 1 1 1 _).mono ?_; rintro e w17 ⟨rfl, hb17⟩
  rw [show beats2 (1, 1) (1, 1) = false from by decide]
  have hbx := hb17
  have r3 := r3.below hbx
  have hb17 := hb16.trans (hbx.mono hb16.size)
  clear hbx hb16
  go_wp2_with fail
  refine (ltriple_any 2 5 1 _).mono ?_; rintro e w18 ⟨rfl, hg18⟩
  have r3 := r3.below hg18.below
  have hb18 := hb17.trans (hg18.below.mono hb17.size)
  clear hg18 hb17
  go_wp2_with fail
  refine (ltriple_any 1 5 1 _).mono ?_; rintro e w19 ⟨rfl, hg19⟩
  have r3 := r3.below hg19.below
  have hb19 := hb18.trans (hg19.below.mono hb18.size)
  clear hg19 hb18
  go_wp2_with fail
  refine (Beats3_any 2 5 1 1 5 1 _).mono ?_; rintro e w20 ⟨rfl, hb20⟩
  rw [show beats3 (2, 5, 1) (1, 5, 1) = true from by decide]
  have hbx := hb20
  have r3 := r3.below hbx
  have hb20 := hb19.trans (hbx.mono hb19.size)
  clear hbx hb19
  go_wp2_with fail
  refine (Good2_any none 0 0 [] _ Rd.nil (by omega)).mono ?_; rintro e w21 ⟨rfl, hb21⟩
  rw [show decide (L2 [] = []) = true from by decide]
  have hbx := hb21
  have r3 := r3.below hbx
  have hb21 := hb20.trans (hbx.mono hb20.size)
  clear hbx hb20
  go_wp2_with fail
  refine (ltriple_any 1 9 1 _).mono ?_; rintro e w22 ⟨rfl, hg22⟩
  have r3 := r3.below hg22.below
  have hb22 := hb21.trans (hg22.below.mono hb21.size)
  clear hg22 hb21
  go_wp2_with fail
  refine (ltriple_any 1 9 1 _).mono ?_; rintro e w23 ⟨rfl, hg23⟩
  have r3 := r3.below hg23.below
  have hb23 := hb22.trans (hg23.below.mono hb22.size)
  clear hg23 hb22
  have r5 := Rd.lit w23 3 tripE tripE_len 23 [(1, 9, 1), (1, 9, 1)]
  have hbx : Below w23.heap.size w23 (w23.alloc (.cells #[.int .i64 1, .int .i64 9, .int .i64 1, .int .i64 1, .int .i64 9, .int .i64 1] 23)) := (Below.refl _ w23).alloc (Nat.le_refl _) _
  have r3 := r3.below hbx
  have hb23 := hb23.trans (hbx.mono hb23.size)
  clear hbx
  go_wp2_with fail
  refine (Good3_any _ 2 2 [(1, 9, 1), (1, 9, 1)] _ r5 (by omega)).mono ?_; rintro e w24 ⟨rfl, hb24⟩
  rw [show decide (L3 [(1, 9, 1), (1, 9, 1)] = [(1, 9, 1), (1, 9, 1)]) = false from by decide]
  have hbx := hb24
  have r3 := r3.below hbx
  have r5 := r5.below hbx
  have hb24 := hb23.trans (hbx.mono hb23.size)
  clear hbx hb23
  clear r5
  go_wp2_with fail
  refine (Of_any A3 2 c3 [(9, 1), (7, 2)] 3 _ r3 (by omega)).mono ?_; rintro e w25 ⟨A6, c6, rfl, r6, s6, t6, hb25⟩
  rw [show (ofF 3 [(9, 1), (7, 2)]).length = 2 from rfl]
  have hbx := hb25
  have r3 := r3.below hbx
  have hb25 := hb24.trans (hbx.mono hb24.size)
  clear hbx hb24
  go_wp2_with fail
  go_returns
  exact ⟨rfl, hb25⟩
end Go.Proofs.Ytlkephcmbfanhaa
