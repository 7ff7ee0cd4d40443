/-
  Walks: the document's answer: Has, Next, Gap, Free, Sum.
-/
import Derived.Test.YtjbhdfjbockkfaaRef2
import Derived.Test.YtjbhdfjbockkfaaRefPlain
import Derived.Test.YtjbhdfjbockkfaaWin2
import Derived.Lib.MinMax
namespace Go.Proofs.Ytjbhdfjbockkfaa
open Go.RowKit B
set_option linter.unusedVariables false
set_option linter.unusedSimpArgs false
set_option maxHeartbeats 1000000
theorem rhas_any (A : Option Addr) (n c : Nat) (l : W.Row) (x : Int) (w : World) (hr : Rd w 2 pairE A n l) (hn : n ≤ 1099511627776) :
    Calls Try.prog 26 #[.slice A n c, .int .i64 x] w fun e w' => e = .returned (.bool (W.has l x)) ∧ Below w.heap.size w w' := by
  have hu := Lib.hid (W.has_ref l x)
  obtain ⟨u, hu2⟩ : ∃ u, W.has l x = u := ⟨_, rfl⟩
  rw [hu2] at hu ⊢
  clear hu2
  go_enter Try.func26, Try.ntmps26
  go_wp2
  go_loopw [5] (fun i wr => ∃ (k : Nat), k ≤ n ∧ i = .int .i64 k ∧ Below w.heap.size w wr ∧ Rd wr 2 pairE A n l ∧ Hid (u = if W.asked l x then W.hasR x (l.drop k) else false)) (fun i _ => n - (intOf i).toNat)
  case atStart => exact ⟨0, Nat.zero_le _, rfl, Below.refl _ _, hr, hu⟩
  case round =>
    clear hr hu
    obtain ⟨k, hk, rfl, hb, hr, hu⟩ := hrel
    by_cases hlt : k < n
    · go_wp2_with fail
      refine (rasked_any A n c l x _ hr (by omega)).mono ?_; rintro e w1 ⟨rfl, hb1⟩
      have hr := hr.below hb1
      have hb := hb.trans (hb1.mono hb.size)
      cases hq : W.asked l x
      · obtain rfl : u = false := by have := hu.out; rw [hq] at this; exact this
        go_wp2_with fail
        go_returns
        exact ⟨ret_bool rfl, hb⟩
      · obtain ⟨b, o, p, q, rfl, hbs, hl, h1, h2⟩ := hr.pair hlt
        have hd := Lib.hid (drop_at hl); clear hl
        have hq := Lib.hid hq
        by_cases h : p ≤ x ∧ x < q
        · obtain rfl : u = true := by have := hu.out; rw [hq.out, hd.out] at this; rw [this]; unfold W.hasR; rw [if_pos h]; rfl
          obtain ⟨h3, h4⟩ := h
          go_wp2_with fail
          go_returns
          exact ⟨ret_bool rfl, hb⟩
        · have hu' : Hid (u = if W.asked l x then W.hasR x (l.drop (k + 1)) else false) := by
            have := hu.out; rw [hd.out] at this; show _ = _; rw [this, show W.hasR x ((p, q) :: l.drop (k + 1)) = W.hasR x (l.drop (k + 1)) from by rw [W.hasR, if_neg h]]
          by_cases h3 : p ≤ x
          · have h4 : q ≤ x := by omega
            go_wp2_with fail
            go_roundw
            case rel => exact ⟨k + 1, by omega, by go_num, hb, hr, hu'⟩
            case measure => simp [intOf]; omega
          · have h3' : decide (p ≤ x) = false := decide_eq_false h3
            go_wp2_with fail
            go_roundw
            case rel => exact ⟨k + 1, by omega, by go_num, hb, hr, hu'⟩
            case measure => simp [intOf]; omega
    · obtain rfl : u = false := by have := hu.out; rw [List.drop_eq_nil_of_le (by rw [hr.len]; omega)] at this; rw [this]; split <;> rfl
      go_wp2_with fail
      go_returns
      exact ⟨ret_bool rfl, hb⟩
theorem rnext_any (A : Option Addr) (n c : Nat) (l : W.Row) (x : Int) (w : World) (hr : Rd w 2 pairE A n l) (hn : n ≤ 1099511627776) :
    Calls Try.prog 27 #[.slice A n c, .int .i64 x] w fun e w' => e = .returned (.int .i64 (W.next l x)) ∧ Below w.heap.size w w' := by
  have hu := Lib.hid (W.next_ref l x)
  obtain ⟨u, hu2⟩ : ∃ u, W.next l x = u := ⟨_, rfl⟩
  rw [hu2] at hu ⊢
  clear hu2
  go_enter Try.func27, Try.ntmps27
  go_wp2
  go_loopw [5] (fun i wr => ∃ (k : Nat), k ≤ n ∧ i = .int .i64 k ∧ Below w.heap.size w wr ∧ Rd wr 2 pairE A n l ∧ Hid (u = if W.asked l x then W.nextR x (l.drop k) else W.inf)) (fun i _ => n - (intOf i).toNat)
  case atStart => exact ⟨0, Nat.zero_le _, rfl, Below.refl _ _, hr, hu⟩
  case round =>
    clear hr hu
    obtain ⟨k, hk, rfl, hb, hr, hu⟩ := hrel
    by_cases hlt : k < n
    · go_wp2_with fail
      refine (rasked_any A n c l x _ hr (by omega)).mono ?_; rintro e w1 ⟨rfl, hb1⟩
      have hr := hr.below hb1
      have hb := hb.trans (hb1.mono hb.size)
      cases hq : W.asked l x
      · obtain rfl : u = 4611686018427387904 := by have := hu.out; rw [hq] at this; exact this
        go_wp2_with fail
        go_returns
        exact ⟨ret_int rfl, hb⟩
      · obtain ⟨b, o, p, q, rfl, hbs, hl, h1, h2⟩ := hr.pair hlt
        have hd := Lib.hid (drop_at hl); clear hl
        have hq := Lib.hid hq
        by_cases h : x < q
        · obtain rfl : u = max x p := by have := hu.out; rw [hq.out, hd.out] at this; rw [this]; unfold W.nextR; rw [if_pos h]; rfl
          go_wp2_with fail
          go_returns
          exact ⟨ret_int (by first | rfl | (split <;> omega) | omega), hb⟩
        · have hu' : Hid (u = if W.asked l x then W.nextR x (l.drop (k + 1)) else W.inf) := by
            have := hu.out; rw [hd.out] at this; show _ = _; rw [this, show W.nextR x ((p, q) :: l.drop (k + 1)) = W.nextR x (l.drop (k + 1)) from by rw [W.nextR, if_neg h]]
          go_wp2_with fail
          go_roundw
          case rel => exact ⟨k + 1, by omega, by go_num, hb, hr, hu'⟩
          case measure => simp [intOf]; omega
    · obtain rfl : u = 4611686018427387904 := by have := hu.out; rw [List.drop_eq_nil_of_le (by rw [hr.len]; omega)] at this; rw [this]; split <;> rfl
      go_wp2_with fail
      go_returns
      exact ⟨ret_int rfl, hb⟩
end Go.Proofs.Ytjbhdfjbockkfaa
