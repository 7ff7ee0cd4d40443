/-
  Walk: timetablelaw22.BagPairs answers true.
-/
import Derived.Test.YtlkephcmbfanhaaBag11
namespace Go.Proofs.Ytlkephcmbfanhaa
open Go.RowKit B K Go.Shelf
set_option linter.unusedVariables false
set_option linter.unusedSimpArgs false
set_option maxHeartbeats 4000000
def lateB (d : Int) (l : List P2) : Bool := l.all fun y => decide (d ≤ y.1)
theorem lateB_snoc (d : Int) (l : List P2) (x : P2) : lateB d (l ++ [x]) = (lateB d l && decide (d ≤ x.1)) := by unfold lateB; simp
theorem tmod_bd (d : Int) : -1048576 < d.tmod 1048576 ∧ d.tmod 1048576 < 1048576 := by
  constructor
  · rcases Int.le_total 0 d with h | h
    · have := Int.tmod_nonneg (b := 1048576) h; omega
    · have h1 := Int.tmod_lt_of_pos (-d) (show (0 : Int) < 1048576 by omega)
      rw [Int.neg_tmod] at h1; omega
  · exact Int.tmod_lt_of_pos d (by omega)
set_option maxRecDepth 100000 in
theorem pairs_any (A : Option Addr) (n c : Nat) (l : List P2) (d m : Int) (w : World) (hr : Rd w 2 pairE A n l) (hc : n ≤ c) (hc2 : c ≤ 9223372036854775807) (hd : -9223372036854775808 ≤ d ∧ d ≤ 9223372036854775807) :
    Calls Try.prog 6 #[.slice A n c, .int .i64 d, .int .i64 m] w fun e w' => e = .returned (.bool true) ∧ Below w.heap.size w w' := by
  go_enter Try.func6, Try.ntmps6
  go_wp2_with fail
  refine (lives_any _).mono ?_; rintro e w1 ⟨rfl, hb1⟩
  by_cases hn : 60 < n
  · go_wp2_with fail
    go_returns
    exact ⟨rfl, hb1⟩
  · go_wp2_with fail
    refine (Least2_any A n c l _ (hr.below hb1) (by omega)).mono ?_; rintro e w2 ⟨A2, c2, rfl, r2, s2, t2, hb2⟩
    have hb2 := hb1.trans (hb2.mono hb1.size)
    have hkl : (L2 l).length ≤ 60 := by have := L2_len l; have := hr.len; omega
    obtain ⟨k, hk⟩ : ∃ k, (L2 l).length = k := ⟨_, rfl⟩
    rw [hk] at r2 s2 hkl ⊢
    have hk' := Lib.hid hk
    clear hk
    go_wp2_with fail
    go_loopw [8] (fun i wr => ∃ (j : Nat), 1 ≤ j ∧ i = .int .i64 j ∧ Below w.heap.size w wr ∧ Below w2.heap.size w2 wr) (fun i _ => k + 1 - (intOf i).toNat)
    case atStart => exact ⟨1, Nat.le_refl _, rfl, hb2, Below.refl _ _⟩
    case round =>
      obtain ⟨j, hj, rfl, hb, hbk⟩ := hrel
      by_cases hlt : j < k
      · obtain ⟨j0, rfl⟩ : ∃ j0, j = j0 + 1 := ⟨j - 1, by omega⟩
        obtain ⟨b, o, x1, x2, rfl, hbs, hx, h1, h2⟩ := (r2.below hbk).pair (k := j0) (by omega)
        obtain ⟨b', o', y1, y2, e, _, hy, g1, g2⟩ := (r2.below hbk).pair (k := j0 + 1) hlt
        cases e
        obtain ⟨f1, f2⟩ := L2_next l j0 _ _ hx hy
        simp only at f1 f2
        clear hx hy
        have d1 : decide (y2 ≤ x2) = false := decide_eq_false (by omega)
        have d2 : decide (x1 ≤ y1) = false := decide_eq_false (by omega)
        have hw : IntKind.i64.wrap (j0 : Int) = j0 := IntWalk.i64_in _ (by omega)
        have z1 : (0 : Int) ≤ (j0 : Int) := by omega
        have z2 : (j0 : Int) < (k : Int) := by omega
        have z3 : (j0 : Int) + 1 < (k : Int) := by omega
        go_wp2_with fail
        go_quiet (fail)
        go_wp2_with fail
        go_roundw
        case rel => exact ⟨j0 + 1 + 1, by omega, by go_num, below_drewN hb _, below_drewN hbk _⟩
        case measure => simp [intOf]; omega
      · clear hj
        go_wp2_with fail
        refine (Best_any A2 k c2 (L2 l) m _ (r2.below hbk) (by omega)).mono ?_; rintro e w3 ⟨rfl, hb3⟩
        rw [best_L2]
        have hbk3 := hbk.trans (hb3.mono hbk.size)
        have hb3 := hb.trans (hb3.mono hb.size)
        go_wp2_with fail
        refine (Best_any A n c l m _ (hr.below hb3) (by omega)).mono ?_; rintro e w4 ⟨rfl, hb4⟩
        have hbk4 := hbk3.trans (hb4.mono hbk3.size)
        have hb4 := hb3.trans (hb4.mono hb3.size)
        clear hb3 hbk3 hb hbk hb1
        obtain ⟨dd1, dd2⟩ := tmod_bd d
        obtain ⟨d', hd'⟩ : ∃ q, d.tmod 1048576 = q := ⟨_, rfl⟩
        rw [hd'] at dd1 dd2
        go_wp2_with fail
        have hd'' := Lib.hid hd'
        clear hd'
        go_loopw [9, 10] (fun v i wr => ∃ (j : Nat), j ≤ k ∧ i = .int .i64 j ∧ v = .bool (lateB d' ((L2 l).take j)) ∧ Below w.heap.size w wr ∧ Below w2.heap.size w2 wr) (fun _ i _ => k - (intOf i).toNat)
        case atStart => exact ⟨0, Nat.zero_le _, rfl, rfl, hb4, hbk4⟩
        case round =>
          obtain ⟨j, hj, rfl, rfl, hb, hbk⟩ := hrel
          by_cases hlt : j < k
          · obtain ⟨b, o, x1, x2, rfl, hbs, hx, h1, h2⟩ := (r2.below hbk).pair hlt
            have htk := Lib.hid (take_at hx)
            clear hx
            cases hl : lateB d' ((L2 l).take j) with
            | false =>
              have hnext : Hid (lateB d' ((L2 l).take (j + 1)) = false) := by show _ = _; rw [htk.out, lateB_snoc, hl]; rfl
              clear hl
              go_wp2_with fail
              go_roundw
              case rel => exact ⟨j + 1, by omega, by go_num, by rw [hnext.out], hb, hbk⟩
              case measure => simp [intOf]; omega
            | true =>
              have hnext : Hid (lateB d' ((L2 l).take (j + 1)) = decide (d' ≤ x1)) := by show _ = _; rw [htk.out, lateB_snoc, hl]; rfl
              clear hl
              go_wp2_with fail
              go_roundw
              case rel => exact ⟨j + 1, by omega, by go_num, by rw [hnext.out], hb, hbk⟩
              case measure => simp [intOf]; omega
          · obtain rfl : j = k := by omega
            have htk : (L2 l).take j = L2 l := List.take_of_length_le (by rw [hk'.out]; omega)
            rw [htk]
            by_cases hneg : d' < 0
            · go_wp2_with fail
              go_returns
              exact ⟨rfl, hb⟩
            · have hneg' : decide (d' < 0) = false := decide_eq_false hneg
              cases hl : lateB d' (L2 l) with
              | false =>
                go_wp2_with fail
                go_returns
                exact ⟨rfl, hb⟩
              | true =>
                have hall : Hid (∀ p ∈ L2 l, d' ≤ p.1) := by
                  intro p hp
                  unfold lateB at hl
                  have := List.all_eq_true.1 hl p hp
                  simpa using this
                have g1 : Hid (L3 (ofF d' (L2 l)) = ofF d' (L2 l)) := L3_of (by omega) hall.out
                have g2 : Hid (behindF d' (ofF d' (L2 l)) = L2 l) := behind_of (by omega) hall.out
                have g3 : Hid (behindF (d' + 1) (ofF d' (L2 l)) = []) := behind_of'
                have g4 : Hid ((ofF d' (L2 l)).length = j) := by show _ = _; unfold ofF; rw [List.length_map]; exact hk'.out
                clear hl htk
                go_wp2_with fail
                refine (Of_any A2 j c2 (L2 l) d' _ (r2.below hbk) (by omega)).mono ?_; rintro e w5 ⟨A5, c5, rfl, r5, s5, t5, hb5⟩
                rw [g4.out] at r5 s5 ⊢
                have hbk5 := hbk.trans (hb5.mono hbk.size)
                have hb5 := hb.trans (hb5.mono hb.size)
                go_wp2_with fail
                refine (Good3_any A5 j c5 (ofF d' (L2 l)) _ r5 (by omega)).mono ?_; rintro e w6 ⟨rfl, hb6⟩
                rw [decide_eq_true g1.out]
                have r5 := r5.below hb6
                have hbk6 := hbk5.trans (hb6.mono hbk5.size)
                have hb6 := hb5.trans (hb6.mono hb5.size)
                go_wp2_with fail
                refine (Behind_any A5 j c5 (ofF d' (L2 l)) d' _ r5 (by omega)).mono ?_; rintro e w7 ⟨A7, c7, rfl, r7, s7, t7, hb7⟩
                rw [g2.out, L2_self, hk'.out] at r7 s7
                rw [g2.out, L2_self, hk'.out]
                have r5 := r5.below hb7
                have hbk7 := hbk6.trans (hb7.mono hbk6.size)
                have hb7 := hb6.trans (hb7.mono hb6.size)
                go_wp2_with fail
                refine (sameP_any A7 j c7 (L2 l) A2 j c2 (L2 l) _ r7 (r2.below hbk7) (by omega) (by omega)).mono ?_; rintro e w8 ⟨rfl, hb8⟩
                rw [decide_eq_true (rfl : L2 l = L2 l)]
                have r5 := r5.below hb8
                have hb8 := hb7.trans (hb8.mono hb7.size)
                go_wp2_with fail
                refine (Behind_any A5 j c5 (ofF d' (L2 l)) (d' + 1) _ r5 (by omega)).mono ?_; rintro e w9 ⟨A9, c9, rfl, r9, s9, t9, hb9⟩
                have hz : (L2 (behindF (d' + 1) (ofF d' (L2 l)))).length = 0 := by rw [g3.out]; rfl
                have hb9 := hb8.trans (hb9.mono hb8.size)
                rw [hz]
                clear hz
                go_wp2_with fail
                go_returns
                exact ⟨rfl, hb9⟩
end Go.Proofs.Ytlkephcmbfanhaa
