/-
  Walk: timetablelaw08.WindowFinds answers true, whatever the row and the numbers.
-/
import Derived.Test.YtjbhdfjbockkfaaWin5
import Derived.Test.YtjbhdfjbockkfaaWinPlain2
import Derived.Deep.DeepCutAuto
namespace Go.Proofs.Ytjbhdfjbockkfaa
open Go.RowKit B Go.Shelf
set_option maxHeartbeats 2000000
set_option maxRecDepth 100000 in
theorem finds_any (A : Option Addr) (n c : Nat) (l : W.Row) (x m y : Int) (w : World) (hr : Rd w 2 pairE A n l) (hc : n ≤ c) (hc2 : c ≤ 9223372036854775807) :
    Calls Try.prog 3 #[.slice A n c, .int .i64 x, .int .i64 m, .int .i64 y] w fun e w' => e = .returned (.bool true) ∧ Below w.heap.size w w' := by
  go_enter Try.func3, Try.ntmps3
  go_wp2_with fail
  refine (lives_any _).mono ?_; rintro e w1 ⟨rfl, hb1⟩
  have hr1 := hr.below hb1
  by_cases hlong : 300 < n
  · go_wp2_with fail
    go_returns
    exact ⟨rfl, hb1⟩
  · have hn : n ≤ 300 := by omega
    clear hlong
    go_wp2_with fail
    refine (good_any A n c l _ hr1 (by omega)).mono ?_; rintro e w2 ⟨rfl, hb2⟩
    have hb2' := hb1.trans (hb2.mono hb1.size)
    have hr2 := hr1.below hb2
    clear hb1 hb2 hr1
    cases hg : W.good l
    · go_wp2_with fail
      go_returns
      exact ⟨rfl, hb2'⟩
    · by_cases hd : (0 ≤ x ∧ x ≤ 1099511627776) ∧ (x ≤ y ∧ y ≤ 1099511627776) ∧ 1 ≤ m ∧ m ≤ 1099511627776
      · obtain ⟨hx, hy, hm⟩ := hd
        have hgh := Lib.hid hg
        clear hg
        have f1 := W.next_ge hgh.out hx
        obtain ⟨f2, _, _, f3⟩ := W.gap_spec hgh.out hx (n := 1) (by omega)
        obtain ⟨f4, f5, f6, f7⟩ := W.gap_spec hgh.out hx hm
        have f8 : W.free l x ≤ W.gap l x m := W.free_le_gap hgh.out hx hm
        have f2 : x ≤ W.free l x := f2
        have f3 : W.free l x ≤ 2199023255552 := f3
        have f5 := Lib.hid f5
        have f6 := Lib.hid f6
        have fha : W.next l x ≤ 1099511627776 → W.has l (W.next l x) = true := W.next_has hgh.out hx
        have fhb : W.free l x ≤ 1099511627776 → W.has l (W.free l x) = false := fun h => W.has_false hgh.out ⟨by omega, h⟩ (W.free_not hgh.out hx)
        have fha := Lib.hid fha
        have fhb := Lib.hid fhb
        have fgy : Hid (W.gap l x 1 = W.free l x) := rfl
        rename_i _ _ g1 g2 g3 g4 _ _; clear g1 g2 g3 g4
        go_wp2_with fail
        refine (next_any A n c l x _ hr2 (by omega)).mono ?_; rintro e w3 ⟨rfl, hb3⟩
        have hr3 := hr2.below hb3
        go_wp2_with fail
        refine (free_any A n c l x _ hr3 (by omega) hc hc2).mono ?_; rintro e w4 ⟨rfl, hb4⟩
        have hr4 := hr3.below hb4
        go_wp2_with fail
        refine (gap_any A n c l x m _ hr4 (by omega) hc hc2).mono ?_; rintro e w5 ⟨rfl, hb5⟩
        have hr5 := hr4.below hb5
        have hb5' := hb2'.trans ((hb3.trans ((hb4.trans (hb5.mono hb4.size)).mono hb3.size)).mono hb2'.size)
        clear hb2' hb3 hb4 hb5 hr2 hr3 hr4
        obtain ⟨a, ha⟩ : ∃ a, W.next l x = a := ⟨_, rfl⟩
        obtain ⟨b, hb⟩ : ∃ b, W.free l x = b := ⟨_, rfl⟩
        obtain ⟨g, hgp⟩ : ∃ g, W.gap l x m = g := ⟨_, rfl⟩
        rw [ha] at f1 fha ⊢
        rw [hb] at f2 f3 f8 fhb fgy ⊢
        rw [hgp] at f4 f5 f6 f7 f8 ⊢
        have ha := Lib.hid ha
        have hb := Lib.hid hb
        have hgp := Lib.hid hgp
        rename_i g1 g2 g3; clear g1 g2 g3
        go_upto_region 6 with fail
        go_cut [98] (fun s wx => s = .bool false ∧ Below w.heap.size w wx ∧ Rd wx 2 pairE A n l)
        case first =>
          clear f5 f6 ha hb hgp
          by_cases ha' : a ≤ 1099511627776
          · have fa := fha.out ha'
            by_cases hb' : b ≤ 1099511627776
            · have fb := fhb.out hb'
              go_wp2_with fail
              refine (has_any A n c l a _ hr5 (by omega)).mono ?_; rintro e w6 ⟨rfl, hb6⟩
              have hr6 := hr5.below hb6
              have hb6' := hb5'.trans (hb6.mono hb5'.size)
              clear hb6
              go_wp2_with fail
              refine (has_any A n c l b _ hr6 (by omega)).mono ?_; rintro e w7 ⟨rfl, hb7⟩
              have hr7 := hr6.below hb7
              have hb7' := hb6'.trans (hb7.mono hb6'.size)
              clear hb7
              go_wp2_with fail
              refine (gap_any A n c l x 1 _ hr7 (by omega) hc hc2).mono ?_; rintro e wz ⟨rfl, hbz⟩
              have fg := fgy.out
              go_wp2_with fail
              go_meet
              case rel => exact ⟨congrArg Value.bool (by simp; omega), hb7'.trans (hbz.mono hb7'.size), hr7.below hbz⟩
            · go_wp2_with fail
              refine (has_any A n c l a _ hr5 (by omega)).mono ?_; rintro e w6 ⟨rfl, hb6⟩
              have hr6 := hr5.below hb6
              have hb6' := hb5'.trans (hb6.mono hb5'.size)
              clear hb6
              go_wp2_with fail
              refine (gap_any A n c l x 1 _ hr6 (by omega) hc hc2).mono ?_; rintro e wz ⟨rfl, hbz⟩
              have fg := fgy.out
              go_wp2_with fail
              go_meet
              case rel => exact ⟨congrArg Value.bool (by simp; omega), hb6'.trans (hbz.mono hb6'.size), hr6.below hbz⟩
          · by_cases hb' : b ≤ 1099511627776
            · have fb := fhb.out hb'
              go_wp2_with fail
              refine (has_any A n c l b _ hr5 (by omega)).mono ?_; rintro e w6 ⟨rfl, hb6⟩
              have hr6 := hr5.below hb6
              have hb6' := hb5'.trans (hb6.mono hb5'.size)
              clear hb6
              go_wp2_with fail
              refine (gap_any A n c l x 1 _ hr6 (by omega) hc hc2).mono ?_; rintro e wz ⟨rfl, hbz⟩
              have fg := fgy.out
              go_wp2_with fail
              go_meet
              case rel => exact ⟨congrArg Value.bool (by simp; omega), hb6'.trans (hbz.mono hb6'.size), hr6.below hbz⟩
            · go_wp2_with fail
              refine (gap_any A n c l x 1 _ hr5 (by omega) hc hc2).mono ?_; rintro e wz ⟨rfl, hbz⟩
              have fg := fgy.out
              go_wp2_with fail
              go_meet
              case rel => exact ⟨congrArg Value.bool (by simp; omega), hb5'.trans (hbz.mono hb5'.size), hr5.below hbz⟩
        case rest =>
          obtain ⟨rfl, hb6, hr6⟩ := hcut
          clear hb5' hr5 fha fhb fgy
          go_upto_region 8 with fail
          go_cut [117] (fun s wx => s = .bool false ∧ Below w.heap.size w wx ∧ Rd wx 2 pairE A n l)
          case first =>
            cases hh : W.has l y
            · have hyb : b ≤ y := by
                have := W.free_least hgh.out hx hy.1 (fun h => by rw [(W.has_iff hgh.out (by omega)).2 h] at hh; cases hh)
                rw [hb.out] at this; exact this
              clear f5 f6 ha hb hgp
              go_wp2_with fail
              refine (has_any A n c l y _ hr6 (by omega)).mono ?_; rintro e w7 ⟨rfl, hb7⟩
              have hr7 := hr6.below hb7
              have hb7' := hb6.trans (hb7.mono hb6.size)
              clear hb7
              go_wp2_with fail
              refine (has_any A n c l y _ hr7 (by omega)).mono ?_; rintro e w8 ⟨rfl, hb8⟩
              have hr8 := hr7.below hb8
              have hb8' := hb7'.trans (hb8.mono hb7'.size)
              clear hb8
              go_wp2_with fail
              go_meet
              case rel => exact ⟨congrArg Value.bool (by simp; omega), hb8', hr8⟩
            · have hya : a ≤ y := by
                have := W.next_least hgh.out hx hy.1 ((W.has_iff hgh.out (by omega)).1 hh)
                rw [ha.out] at this; exact this
              clear f5 f6 ha hb hgp
              go_wp2_with fail
              refine (has_any A n c l y _ hr6 (by omega)).mono ?_; rintro e w7 ⟨rfl, hb7⟩
              have hr7 := hr6.below hb7
              have hb7' := hb6.trans (hb7.mono hb6.size)
              clear hb7
              go_wp2_with fail
              refine (has_any A n c l y _ hr7 (by omega)).mono ?_; rintro e w8 ⟨rfl, hb8⟩
              have hr8 := hr7.below hb8
              have hb8' := hb7'.trans (hb8.mono hb7'.size)
              clear hb8
              go_wp2_with fail
              go_meet
              case rel => exact ⟨congrArg Value.bool (by simp; omega), hb8', hr8⟩
          case rest =>
            obtain ⟨rfl, hb7, hr7⟩ := hcut
            clear hb6 hr6 ha hb hgp
            go_wp2_with fail
            go_loopw [12, 13, 14] (fun h o i wr => ∃ (k : Nat), k ≤ n ∧ i = .int .i64 k ∧ h = .bool false ∧ o = .bool (W.ownF y m (l.take k)) ∧ Below w.heap.size w wr ∧ Rd wr 2 pairE A n l) (fun _ _ i _ => n - (intOf i).toNat)
            case atStart => exact ⟨0, Nat.zero_le _, rfl, rfl, rfl, hb7, hr7⟩
            case round =>
              obtain ⟨k, hk, rfl, rfl, rfl, hbk, hrk⟩ := hrel
              clear hr7 hr
              by_cases hlt : k < n
              · obtain ⟨ab, ao, p, q, rfl, hbs, hl, h1, h2⟩ := hrk.pair hlt
                have hnh := f5.out k p q hl
                have hl := Lib.hid hl
                rename_i hx1; clear hx1
                obtain ⟨ow, how⟩ : ∃ ow, W.ownF y m (l.take k) = ow := ⟨_, rfl⟩
                have hnx : Hid (W.ownF y m (l.take (k + 1)) = (ow || (decide (p < y + m) && decide (y < q)))) := by show _ = _; rw [take_at hl.out, W.ownF_snoc, how]
                rw [how]
                clear how hl
                by_cases hpg : p < g + m <;> by_cases hpm : p < y + m <;> cases ow
                all_goals
                  go_wp2_with fail
                  go_roundw
                  case rel => exact ⟨k + 1, by omega, by go_num, congrArg Value.bool (by first | rfl | (simp; omega)), congrArg Value.bool (by rw [hnx.out]; first | rfl | (simp; done) | (simp; omega) | (simp [hpm]; done)), hbk, hrk⟩
                  case measure => simp [intOf]; omega
              · by_cases hyg : y < g
                · have hown : W.ownF y m (l.take k) = true := by
                    rw [List.take_of_length_le (by rw [hrk.len]; omega)]; exact W.ownF_yes (f6.out y hy.1 hyg)
                  go_wp2_with fail
                  go_returns
                  exact ⟨ret_bool (by first | rfl | simp [hown]), hbk⟩
                · go_wp2_with fail
                  go_returns
                  exact ⟨ret_bool (by first | rfl | (simp; omega)), hbk⟩
      · go_wp2_with fail
        all_goals
          first
            | (exfalso; omega)
            | (go_returns; exact ⟨rfl, hb2'⟩)
theorem finds_any2 (A : Option Addr) (n c : Nat) (l : W.Row) (x m y : Int) (w : World) (hr : Rd w 2 pairE A n l) (hc : n ≤ c) (hc2 : c ≤ 9223372036854775807)
    (_ : -9223372036854775808 ≤ x ∧ x ≤ 9223372036854775807) (_ : -9223372036854775808 ≤ m ∧ m ≤ 9223372036854775807) (_ : -9223372036854775808 ≤ y ∧ y ≤ 9223372036854775807) :
    Calls Try.prog 3 #[.slice A n c, .int .i64 x, .int .i64 m, .int .i64 y] w fun e w' => e = .returned (.bool true) ∧ Below w.heap.size w w' := finds_any A n c l x m y w hr hc hc2
end Go.Proofs.Ytjbhdfjbockkfaa
