/-
  Walks: the document's answer: Gap, Free.
-/
import Derived.Test.YtjbhdfjbockkfaaRef3
namespace Go.Proofs.Ytjbhdfjbockkfaa
open Go.RowKit B
set_option linter.unusedVariables false
set_option linter.unusedSimpArgs false
set_option maxHeartbeats 1000000
theorem rgap_any (A : Option Addr) (n c : Nat) (l : W.Row) (x m : Int) (w : World) (hr : Rd w 2 pairE A n l) (hn : n ≤ 1099511627776) :
    Calls Try.prog 29 #[.slice A n c, .int .i64 x, .int .i64 m] w fun e w' => e = .returned (.int .i64 (W.gap l x m)) ∧ Below w.heap.size w w' := by
  have hu := Lib.hid (W.gap_ref l x m)
  obtain ⟨u, hu2⟩ : ∃ u, W.gap l x m = u := ⟨_, rfl⟩
  rw [hu2] at hu ⊢
  clear hu2
  go_enter Try.func29, Try.ntmps29
  go_wp2_with fail
  refine (rasked_any A n c l x _ hr (by omega)).mono ?_; rintro e w1 ⟨rfl, hb1⟩
  have hr := hr.below hb1
  cases hq : W.asked l x
  · obtain rfl : u = 4611686018427387904 := by have := hu.out; rw [if_neg (by rw [hq]; simp)] at this; exact this
    go_wp2_with fail
    go_returns
    exact ⟨ret_int rfl, hb1⟩
  · have hx := W.chk_zero (W.asked_chk hq)
    have hgd := Lib.hid (W.asked_good hq)
    have hq := Lib.hid hq
    go_wp2_with fail
    refine (rchk_any m _).mono ?_; rintro e w2 ⟨rfl, rfl⟩
    by_cases hm : W.chk m = 0
    · have hm1 := W.chk_zero hm
      have hu : Hid (u = if 0 < m then W.gapR m x l else x) := by have := hu.out; rw [if_pos ⟨hq.out, hm⟩] at this; exact this
      rw [hm]
      clear hm
      go_wp2_with fail
      go_loopw [7, 8] (fun yv i wr => ∃ (k : Nat) (y : Int), k ≤ n ∧ yv = .int .i64 y ∧ i = .int .i64 k ∧ Below w.heap.size w wr ∧ Rd wr 2 pairE A n l ∧ (0 ≤ y ∧ y ≤ 2199023255552) ∧ Hid (u = if 0 < m then W.gapR m y (l.drop k) else y)) (fun _ i _ => n - (intOf i).toNat)
      case atStart => exact ⟨0, x, Nat.zero_le _, rfl, rfl, hb1, hr, by omega, hu⟩
      case round =>
        clear hr hu hb1
        obtain ⟨k, y, hk, rfl, rfl, hb, hr, hy, hu⟩ := hrel
        by_cases hlt : k < n
        · by_cases hm0 : 0 < m
          · obtain ⟨b, o, p, q, rfl, hbs, hl, h1, h2⟩ := hr.pair hlt
            have hqb := W.goodF_bounds l _ hgd.out k p q hl
            have hd := Lib.hid (drop_at hl); clear hl
            by_cases h3 : p < y + m
            · by_cases h4 : y < q
              · have hu' : Hid (u = if 0 < m then W.gapR m q (l.drop (k + 1)) else q) := by
                  have := hu.out; rw [if_pos hm0, hd.out, W.gapR, if_pos ⟨h3, h4⟩] at this; show _ = _; rw [if_pos hm0]; exact this
                go_wp2_with fail
                go_roundw
                case rel => exact ⟨k + 1, q, by omega, rfl, by go_num, hb, hr, by omega, hu'⟩
                case measure => simp [intOf]; omega
              · have hu' : Hid (u = if 0 < m then W.gapR m y (l.drop (k + 1)) else y) := by
                  have := hu.out; rw [if_pos hm0, hd.out, W.gapR, if_neg (by omega)] at this; show _ = _; rw [if_pos hm0]; exact this
                go_wp2_with fail
                go_roundw
                case rel => exact ⟨k + 1, y, by omega, rfl, by go_num, hb, hr, by omega, hu'⟩
                case measure => simp [intOf]; omega
            · have h3' : decide (p < y + m) = false := decide_eq_false h3
              have hu' : Hid (u = if 0 < m then W.gapR m y (l.drop (k + 1)) else y) := by
                have := hu.out; rw [if_pos hm0, hd.out, W.gapR, if_neg (by omega)] at this; show _ = _; rw [if_pos hm0]; exact this
              go_wp2_with fail
              go_roundw
              case rel => exact ⟨k + 1, y, by omega, rfl, by go_num, hb, hr, by omega, hu'⟩
              case measure => simp [intOf]; omega
          · obtain rfl : u = y := by have := hu.out; rw [if_neg hm0] at this; exact this
            go_wp2_with fail
            go_returns
            exact ⟨ret_int rfl, hb⟩
        · obtain rfl : u = y := by
            have := hu.out
            rw [List.drop_eq_nil_of_le (by rw [hr.len]; omega)] at this
            split at this <;> exact this
          go_wp2_with fail
          go_returns
          exact ⟨ret_int rfl, hb⟩
    · obtain rfl : u = 4611686018427387904 := by have := hu.out; rw [if_neg (fun h => hm h.2)] at this; exact this
      have hm9 := (W.chk_cases m).resolve_left hm
      rw [hm9]
      go_wp2_with fail
      go_returns
      exact ⟨ret_int rfl, hb1⟩
theorem rfree_any (A : Option Addr) (n c : Nat) (l : W.Row) (x : Int) (w : World) (hr : Rd w 2 pairE A n l) (hn : n ≤ 1099511627776) :
    Calls Try.prog 28 #[.slice A n c, .int .i64 x] w fun e w' => e = .returned (.int .i64 (W.free l x)) ∧ Below w.heap.size w w' := by
  go_enter Try.func28, Try.ntmps28
  go_wp2_with fail
  refine (rgap_any A n c l x 1 _ hr (by omega)).mono ?_; rintro e w1 ⟨rfl, hb1⟩
  go_wp2_with fail
  go_returns
  exact ⟨rfl, hb1⟩
end Go.Proofs.Ytjbhdfjbockkfaa
