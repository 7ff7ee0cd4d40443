/-
  Walks: tick.within, tick.Check, tick.Count, window.Check, Good, Sum, asked.
-/
import Derived.Test.YtjbhdfjbockkfaaProg
import Derived.Test.YtjbhdfjbockkfaaBase
import Derived.Test.YtjbhdfjbockkfaaWinPlain
import Derived.Handy
import Derived.BigQuiet
import Derived.Deep.QuietTactic
namespace Go.Proofs.Ytjbhdfjbockkfaa
open Go.RowKit B
set_option maxHeartbeats 400000
theorem cut_wins (A : Option Addr) (n c k : Nat) (hk : k ≤ n) (W : World) :
    (Instr.slice 22 (.slice A n c) (some (.int .i64 (k : Int))) none none).run Try.prog W = .ok (.slice (cutA A c k 2) (n - k) (c - k)) W :=
  run_cut Try.underlying22 (by kernel_rfl) (fun W => by simp [go_sem]) A n c k hk .i64 W
theorem within_any (lo x hi : Int) (w : World) :
    Calls Try.prog 47 #[.int .i64 lo, .int .i64 x, .int .i64 hi] w fun e w' => e = .returned (.bool (decide (lo ≤ x ∧ x ≤ hi))) ∧ w = w' := by
  go_enter Try.func47, Try.ntmps47
  go_wp2
  all_goals go_returns
  · refine ⟨?_, rfl⟩; congr; symm; simp; omega
  · refine ⟨?_, rfl⟩; congr 2; simp; omega
theorem tcheck_any (x : Int) (w : World) :
    Calls Try.prog 33 #[.int .i64 x] w fun e w' => e = .returned (.int .i64 (W.chk x)) ∧ w = w' := by
  go_enter Try.func33, Try.ntmps33
  by_cases h : 0 ≤ x ∧ x ≤ 1099511627776
  · have hd : decide (0 ≤ x ∧ x ≤ 1099511627776) = true := by simpa using h
    go_wp2_with (go_at_call 47; refine (within_any _ _ _ _).mono ?_; rintro e w' ⟨rfl, rfl⟩)
    go_returns
    exact ⟨ret_int (W.chk_ok h).symm, rfl⟩
  · have hd : decide (0 ≤ x ∧ x ≤ 1099511627776) = false := by simpa using h
    go_wp2_with (go_at_call 47; refine (within_any _ _ _ _).mono ?_; rintro e w' ⟨rfl, rfl⟩)
    go_returns
    exact ⟨ret_int (W.chk_no h).symm, rfl⟩
theorem good_any (A : Option Addr) (n c : Nat) (l : W.Row) (w : World) (hr : Rd w 2 pairE A n l) (hn : n ≤ 9223372036854775807) :
    Calls Try.prog 10 #[.slice A n c] w fun e w' => e = .returned (.bool (W.good l)) ∧ Below w.heap.size w w' := by
  go_enter Try.func10, Try.ntmps10
  go_wp2
  go_loopw [3, 8] (fun p i wr => ∃ (k : Nat) (x : Int), k ≤ n ∧ i = .int .i64 k ∧ p = .int .i64 x ∧ Below w.heap.size w wr ∧ Hid (W.good l = W.goodF x (l.drop k))) (fun _ i _ => n - (intOf i).toNat)
  case atStart => exact ⟨0, -1, Nat.zero_le _, rfl, rfl, Below.refl _ _, rfl⟩
  case round =>
    obtain ⟨k, x, hk, rfl, rfl, hb, hg⟩ := hrel
    by_cases hlt : k < n
    · obtain ⟨b, o, p, q, rfl, hbs, hl, h1, h2⟩ := (hr.below hb).pair hlt
      have hd := Lib.hid (drop_at hl); clear hl
      by_cases hok : x < p ∧ p < q ∧ q ≤ 2199023255552
      · obtain ⟨hx1, hx2, hx3⟩ := hok
        go_wp2
        go_roundw
        case rel => exact ⟨k + 1, q, by omega, by go_num, rfl, hb.alloc hb.size _, by show _ = _; rw [hg.out, hd.out]; exact W.goodF_yes hx1 hx2 hx3⟩
        case measure => simp [intOf]; omega
      · go_wp2
        all_goals
          go_returns
          exact ⟨ret_bool (by rw [hg.out, hd.out, W.goodF_no (by omega)]), hb.alloc hb.size _⟩
    · go_wp2
      go_returns
      refine ⟨ret_bool ?_, hb⟩
      rw [hg.out, List.drop_eq_nil_of_le (by rw [hr.len]; omega)]; rfl
theorem asked_any (A : Option Addr) (n c : Nat) (l : W.Row) (x : Int) (w : World) (hr : Rd w 2 pairE A n l) (hn : n ≤ 9223372036854775807) :
    Calls Try.prog 31 #[.slice A n c, .int .i64 x] w fun e w' => e = .returned (.bool (W.asked l x)) ∧ Below w.heap.size w w' := by
  go_enter Try.func31, Try.ntmps31
  rcases W.chk_cases x with h | h
  · go_wp2_with (first | (go_at_call 33; refine (tcheck_any _ _).mono ?_; rintro e w' ⟨rfl, rfl⟩) | (go_at_call 10; refine (good_any A n c l _ hr hn).mono ?_; rintro e w' ⟨rfl, hb⟩))
    go_returns
    exact ⟨ret_bool (by simp [W.asked, h]), hb⟩
  · go_wp2_with (first | (go_at_call 33; refine (tcheck_any _ _).mono ?_; rintro e w' ⟨rfl, rfl⟩) | (go_at_call 10; refine (good_any A n c l _ hr hn).mono ?_; rintro e w' ⟨rfl, hb⟩))
    go_returns
    exact ⟨ret_bool (by simp [W.asked, h]), Below.refl _ _⟩
theorem sum_any (A : Option Addr) (n c : Nat) (l : W.Row) (w : World) (hr : Rd w 2 pairE A n l) (hn : n ≤ 9223372036854775807) :
    Calls Try.prog 16 #[.slice A n c] w fun e w' => e = .returned (.int .i64 (W.sum l)) ∧ Below w.heap.size w w' := by
  go_enter Try.func16, Try.ntmps16
  cases hg : W.good l
  · have hf : Hid (W.sum l = 0) := by show _ = _; unfold W.sum; rw [hg]; rfl
    go_wp2_with (go_at_call 10; refine (good_any A n c l _ hr hn).mono ?_; rintro e w' ⟨rfl, hb⟩)
    go_returns
    exact ⟨ret_int hf.out.symm, hb⟩
  · have hf : Hid (W.sum l = W.sumF l) := by show _ = _; unfold W.sum; rw [hg]; rfl
    have hsb := W.sumF_bounds l (-1) hg (by omega) (by omega)
    have hg0 := Lib.hid (show W.goodF (-1) l = true from hg)
    go_wp2_with (go_at_call 10; refine (good_any A n c l _ hr hn).mono ?_; rintro e w1 ⟨rfl, hb1⟩)
    clear hg
    go_loopw [2, 10] (fun p i wr => ∃ (k : Nat) (x y : Int), k ≤ n ∧ i = .int .i64 k ∧ p = .int .i64 x ∧ Below w.heap.size w wr ∧ 0 ≤ x ∧ Hid (x + W.sumF (l.drop k) = W.sumF l) ∧ -1 ≤ y ∧ y ≤ 2199023255552 ∧ Hid (W.goodF y (l.drop k) = true)) (fun _ i _ => n - (intOf i).toNat)
    case atStart => exact ⟨0, 0, -1, Nat.zero_le _, rfl, rfl, hb1, by omega, by show _ = _; simp, by omega, by omega, hg0⟩
    case round =>
      obtain ⟨k, x, y, hk, rfl, rfl, hb, hx, hs, hy, hy2, hgd⟩ := hrel
      by_cases hlt : k < n
      · obtain ⟨b, o, p, q, rfl, hbs, hl, h1, h2⟩ := (hr.below hb).pair hlt
        have hd := Lib.hid (drop_at hl); clear hl
        obtain ⟨g1, g2, g3, g4⟩ := W.goodF_cons (by rw [← hd.out]; exact hgd.out : W.goodF y ((p, q) :: l.drop (k + 1)) = true)
        have g5 := W.sumF_bounds _ _ g4 (by omega) (by omega)
        have hs2 := hs.out
        rw [hd.out, W.sumF] at hs2
        have hx2 : x ≤ 2199023255553 := by omega
        have g4 := Lib.hid g4
        have hs3 := Lib.hid hs2
        clear hs2 g5
        rename_i g40 _ ; clear g40
        go_wp2
        go_roundw
        case rel => exact ⟨k + 1, x + (q - p), q, by omega, by go_num, rfl, hb.alloc hb.size _, by omega, by have := hs3.out; show _ = _; omega, by omega, by omega, g4⟩
        case measure => simp [intOf]; omega
      · go_wp2
        go_returns
        refine ⟨ret_int ?_, hb⟩
        have := hs.out
        rw [List.drop_eq_nil_of_le (by rw [hr.len]; omega)] at this
        rw [hf.out, ← this]; simp [W.sumF]
theorem check_any (f v n : Int) (w : World) :
    Calls Try.prog 20 #[.agg #[.int .i64 f, .int .i64 v, .int .i64 n]] w fun e w' => e = .returned (.int .i64 (W.chkT f v n)) ∧ Below w.heap.size w w' := by
  go_enter Try.func20, Try.ntmps20
  by_cases hv : v = 0
  · subst hv
    rcases W.chk_cases f with h | h
    all_goals
      go_wp2_with (go_at_call 33; refine (tcheck_any _ _).mono ?_; rintro e w' ⟨rfl, rfl⟩)
      all_goals
        go_returns
        exact ⟨ret_int (by unfold W.chkT; first | (rw [if_pos (by omega)]) | (rw [if_neg (by omega)])), (Below.refl _ _).alloc (Nat.le_refl _) _⟩
  · have hv2 : (v != 0) = true := by simp [hv]
    rcases W.chk_cases f with h | h
    all_goals
      go_wp2_with (go_at_call 33; refine (tcheck_any _ _).mono ?_; rintro e w' ⟨rfl, rfl⟩)
      all_goals
        go_returns
        exact ⟨ret_int (by unfold W.chkT; first | (rw [if_pos (by omega)]) | (rw [if_neg (by omega)])), (Below.refl _ _).alloc (Nat.le_refl _) _⟩
theorem count_any (f v u : Int) (w : World) :
    Calls Try.prog 34 #[.int .i64 f, .int .i64 v, .int .i64 u] w fun e w' => e = .returned (.int .i64 (W.count f v u)) ∧ w = w' := by
  go_enter Try.func34, Try.ntmps34
  by_cases hh : W.chk f = 0 ∧ W.chk v = 0 ∧ W.chk u = 0 ∧ f ≤ u
  · obtain ⟨h1, h2, h3, h4⟩ := hh
    have := W.chk_zero h1
    have := W.chk_zero h2
    have := W.chk_zero h3
    by_cases hv : v = 0
    · subst hv
      go_wp2_with (go_at_call 33; refine (tcheck_any _ _).mono ?_; rintro e w' ⟨rfl, rfl⟩)
      go_returns
      exact ⟨ret_int (by unfold W.count; rw [if_pos ⟨h1, h2, h3, h4⟩, if_pos rfl]), rfl⟩
    · have hq0 : 0 ≤ (u - f) / v := Int.ediv_nonneg (by omega) (by omega)
      have hq1 : (u - f) / v ≤ 1099511627776 := Int.le_trans (Int.ediv_le_self _ (by omega)) (by omega)
      go_wp2_with (go_at_call 33; refine (tcheck_any _ _).mono ?_; rintro e w' ⟨rfl, rfl⟩)
      go_returns
      exact ⟨ret_int (by unfold W.count; rw [if_pos ⟨h1, h2, h3, h4⟩, if_neg hv]), rfl⟩
  · have h0 : Hid (W.count f v u = 0) := by show _ = _; unfold W.count; rw [if_neg hh]
    rcases W.chk_cases f with h1 | h1 <;> rcases W.chk_cases v with h2 | h2 <;> rcases W.chk_cases u with h3 | h3
    all_goals
      go_wp2_with (go_at_call 33; refine (tcheck_any _ _).mono ?_; rintro e w' ⟨rfl, rfl⟩)
      all_goals
        go_returns
        exact ⟨ret_int (by rw [h0.out]), rfl⟩
end Go.Proofs.Ytjbhdfjbockkfaa
