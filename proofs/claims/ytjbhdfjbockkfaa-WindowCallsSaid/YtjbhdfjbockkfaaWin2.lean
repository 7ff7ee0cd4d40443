/-
  Walks: window.behind (over slices.BinarySearchFunc), Next, Has, Gap, Free.
-/
import Derived.Test.YtjbhdfjbockkfaaWin1
namespace Go.Proofs.Ytjbhdfjbockkfaa
open Go.RowKit B
set_option maxHeartbeats 400000
def cmpW (b x : Int) : Int := if b ≤ x then -1 else 1
theorem cmpW_le {b x : Int} (h : b ≤ x) : cmpW b x = -1 := if_pos h
theorem cmpW_gt {b x : Int} (h : x < b) : cmpW b x = 1 := if_neg (by omega)
theorem behindc_any (a b x : Int) (w : World) :
    Calls Try.prog 46 #[.agg #[.int .i64 a, .int .i64 b], .int .i64 x] w fun e w' => e = .returned (.int .i64 (cmpW b x)) ∧ Below w.heap.size w w' := by
  go_enter Try.func46, Try.ntmps46
  go_wp2
  all_goals
    go_returns
    exact ⟨ret_int (by first | rw [cmpW_le (by omega)] | rw [cmpW_gt (by omega)]), (Below.refl _ _).alloc (Nat.le_refl _) _⟩
theorem bsf_any (A : Option Addr) (n c : Nat) (l : W.Row) (x : Int) (w : World) (hr : Rd w 2 pairE A n l) (hn : n ≤ 1099511627776) (hg : W.good l = true) :
    Calls Try.prog 45 #[.slice A n c, .int .i64 x, .func (.func 46) #[] #[]] w fun e w' => e = .returned (.tuple #[.int .i64 (W.bh l x), .bool false]) ∧ Below w.heap.size w w' := by
  have hgd := Lib.hid (show W.goodF (-1) l = true from hg)
  clear hg
  go_enter Try.func45, Try.ntmps45
  go_wp2
  go_loopw [9, 10] (fun p q wr => ∃ (i j : Nat), i ≤ j ∧ j ≤ n ∧ p = .int .i64 i ∧ q = .int .i64 j ∧ Below w.heap.size w wr ∧
    Hid (∀ (k : Nat) (a b : Int), k < i → l[k]? = some (a, b) → b ≤ x) ∧ Hid (∀ (k : Nat) (a b : Int), j ≤ k → l[k]? = some (a, b) → x < b)) (fun p q _ => (intOf q).toNat - (intOf p).toNat)
  case atStart => exact ⟨0, n, Nat.zero_le _, Nat.le_refl _, rfl, rfl, Below.refl _ _, fun k a b h => absurd h (by omega), fun k a b h hk => by rw [List.getElem?_eq_none (by rw [hr.len]; exact h)] at hk; cases hk⟩
  case round =>
    obtain ⟨i, j, hij, hj, rfl, rfl, hb, h1, h2⟩ := hrel
    by_cases hlt : i < j
    · have hm : (i + j) / 2 < n := by omega
      obtain ⟨b, o, p, q, rfl, hbs, hl, hc1, hc2⟩ := (hr.below hb).pair hm
      have hl := Lib.hid hl
      by_cases hq : q ≤ x
      · have hcm := cmpW_le hq
        go_wp2_with (go_at_call 46; refine (behindc_any _ _ _ _).mono ?_; rintro e w' ⟨rfl, hb2⟩)
        go_roundw
        case rel =>
          refine ⟨(i + j) / 2 + 1, j, by omega, hj, by go_num, rfl, hb.trans (hb2.mono hb.size), fun k a b hk hka => ?_, h2⟩
          rcases Nat.lt_or_ge k ((i + j) / 2) with h | h
          · exact Int.le_trans (Int.le_of_lt (Int.lt_trans (W.good_rise l _ hgd.out k _ a b _ _ h hka hl.out) (W.goodF_bounds l _ hgd.out _ _ _ hl.out).2.1)) hq
          · obtain rfl : k = (i + j) / 2 := by omega
            have := hl.out
            rw [hka] at this; cases this; exact hq
        case measure => simp [intOf]; omega
      · have hcm := cmpW_gt (b := q) (x := x) (by omega)
        go_wp2_with (go_at_call 46; refine (behindc_any _ _ _ _).mono ?_; rintro e w' ⟨rfl, hb2⟩)
        go_roundw
        case rel =>
          refine ⟨i, (i + j) / 2, by omega, by omega, rfl, by go_num, hb.trans (hb2.mono hb.size), h1, fun k a b hk hka => ?_⟩
          rcases Nat.lt_or_ge ((i + j) / 2) k with h | h
          · exact Int.lt_trans (Int.lt_trans (by omega) (W.good_rise l _ hgd.out _ k _ _ a b h hl.out hka)) (W.goodF_bounds l _ hgd.out _ _ _ hka).2.1
          · obtain rfl : k = (i + j) / 2 := by omega
            have := hl.out
            rw [hka] at this; cases this; omega
        case measure => simp [intOf]; omega
    · obtain rfl : i = j := by omega
      have hbh : Hid (W.bh l x = i) := W.bh_eq l x i (by rw [hr.len]; exact hj) h1.out (fun a b h => h2.out i a b (Nat.le_refl _) h)
      by_cases hin : i < n
      · obtain ⟨b, o, p, q, rfl, hbs, hl, hc1, hc2⟩ := (hr.below hb).pair hin
        have hcm := cmpW_gt (b := q) (x := x) (h2.out i p q (Nat.le_refl _) hl)
        clear hl
        go_wp2_with (go_at_call 46; refine (behindc_any _ _ _ _).mono ?_; rintro e w' ⟨rfl, hb2⟩)
        go_ret2
        exact ⟨by rw [hbh.out]; rfl, hb.trans (hb2.mono hb.size)⟩
      · go_wp2_with (go_at_call 46; refine (behindc_any _ _ _ _).mono ?_; rintro e w' ⟨rfl, hb2⟩)
        go_ret2
        exact ⟨by rw [hbh.out]; rfl, hb⟩
theorem behind_any (A : Option Addr) (n c : Nat) (l : W.Row) (x : Int) (w : World) (hr : Rd w 2 pairE A n l) (hn : n ≤ 1099511627776) (hg : W.good l = true) :
    Calls Try.prog 32 #[.slice A n c, .int .i64 x] w fun e w' => e = .returned (.int .i64 (W.bh l x)) ∧ Below w.heap.size w w' := by
  go_enter Try.func32, Try.ntmps32
  go_wp2_with (go_at_call 45; refine (bsf_any A n c l x _ hr hn hg).mono ?_; rintro e w' ⟨rfl, hb⟩)
  go_returns
  exact ⟨rfl, hb⟩
theorem next_any (A : Option Addr) (n c : Nat) (l : W.Row) (x : Int) (w : World) (hr : Rd w 2 pairE A n l) (hn : n ≤ 1099511627776) :
    Calls Try.prog 11 #[.slice A n c, .int .i64 x] w fun e w' => e = .returned (.int .i64 (W.next l x)) ∧ Below w.heap.size w w' := by
  go_enter Try.func11, Try.ntmps11
  cases ha : W.asked l x
  · have hf : Hid (W.next l x = 4611686018427387904) := by show _ = _; unfold W.next; rw [ha]; rfl
    go_wp2_with (go_at_call 31; refine (asked_any A n c l x _ hr (by omega)).mono ?_; rintro e w' ⟨rfl, hb⟩)
    go_returns
    exact ⟨ret_int hf.out.symm, hb⟩
  · have hg : W.good l = true := W.asked_good ha
    have hf : Hid (W.next l x = W.nextF l x) := by show _ = _; unfold W.next; rw [ha]; rfl
    have hle := W.bh_le l x
    rw [hr.len] at hle
    go_wp2_with fail
    refine (asked_any A n c l x _ hr (by omega)).mono ?_; rintro e w1 ⟨rfl, hb⟩
    go_wp2_with fail
    refine (behind_any A n c l x _ (hr.below hb) (by omega) hg).mono ?_; rintro e w2 ⟨rfl, hb2⟩
    by_cases hlt : W.bh l x < n
    · obtain ⟨b, o, p, q, rfl, hbs, hl, hc1, hc2⟩ := ((hr.below hb).below hb2).pair hlt
      have hf2 : Hid (W.next l x = max x p) := by show _ = _; rw [hf.out]; unfold W.nextF; rw [drop_at hl]
      clear hl
      have hne : ((W.bh l x : Int) == (n : Int)) = false := by simp; omega
      go_wp2_with fail
      all_goals
        go_returns
        exact ⟨ret_int (by rw [hf2.out]; try omega), hb.trans (hb2.mono hb.size)⟩
    · have heq : ((W.bh l x : Int) == (n : Int)) = true := by simp; omega
      have hf2 : Hid (W.next l x = 4611686018427387904) := by
        show _ = _; rw [hf.out]; unfold W.nextF; rw [List.drop_eq_nil_of_le (by rw [hr.len]; omega)]; rfl
      go_wp2_with fail
      go_returns
      exact ⟨ret_int hf2.out.symm, hb.trans (hb2.mono hb.size)⟩
theorem has_any (A : Option Addr) (n c : Nat) (l : W.Row) (x : Int) (w : World) (hr : Rd w 2 pairE A n l) (hn : n ≤ 1099511627776) :
    Calls Try.prog 14 #[.slice A n c, .int .i64 x] w fun e w' => e = .returned (.bool (W.has l x)) ∧ Below w.heap.size w w' := by
  go_enter Try.func14, Try.ntmps14
  cases ha : W.asked l x
  · go_wp2_with fail
    refine (asked_any A n c l x _ hr (by omega)).mono ?_; rintro e w1 ⟨rfl, hb⟩
    go_wp2_with fail
    go_returns
    exact ⟨ret_bool (by unfold W.has; rw [ha]; rfl), hb⟩
  · go_wp2_with fail
    refine (asked_any A n c l x _ hr (by omega)).mono ?_; rintro e w1 ⟨rfl, hb⟩
    go_wp2_with fail
    refine (next_any A n c l x _ (hr.below hb) (by omega)).mono ?_; rintro e w2 ⟨rfl, hb2⟩
    go_wp2_with fail
    go_returns
    refine ⟨ret_bool ?_, hb.trans (hb2.mono hb.size)⟩
    unfold W.has
    rw [ha, Bool.true_and]
    rfl
theorem gap_any (A : Option Addr) (n c : Nat) (l : W.Row) (x m : Int) (w : World) (hr : Rd w 2 pairE A n l) (hn : n ≤ 1099511627776) (hc : n ≤ c) (hc2 : c ≤ 9223372036854775807) :
    Calls Try.prog 13 #[.slice A n c, .int .i64 x, .int .i64 m] w fun e w' => e = .returned (.int .i64 (W.gap l x m)) ∧ Below w.heap.size w w' := by
  go_enter Try.func13, Try.ntmps13
  cases ha : W.asked l x
  · have hf : Hid (W.gap l x m = 4611686018427387904) := by show _ = _; unfold W.gap; rw [ha, if_neg (by simp)]; rfl
    go_wp2_with fail
    refine (asked_any A n c l x _ hr (by omega)).mono ?_; rintro e w1 ⟨rfl, hb⟩
    go_wp2_with fail
    go_returns
    exact ⟨ret_int hf.out.symm, hb⟩
  · rcases W.chk_cases m with h | h
    · have hf : Hid (W.gap l x m = if m = 0 then x else W.gapF m x (l.drop (W.bh l x))) := by show _ = _; unfold W.gap; rw [ha, if_pos ⟨rfl, h⟩]
      have hm := W.chk_zero h
      have hx := W.chk_zero (W.asked_chk ha)
      have hg := Lib.hid (W.asked_good ha)
      go_wp2_with fail
      refine (asked_any A n c l x _ hr (by omega)).mono ?_; rintro e w1 ⟨rfl, hb⟩
      go_wp2_with fail
      refine (tcheck_any _ _).mono ?_; rintro e w2 ⟨rfl, rfl⟩
      by_cases h0 : m = 0
      · subst h0
        go_wp2_with fail
        go_returns
        exact ⟨ret_int (by rw [hf.out]; simp), hb⟩
      · have hm0 : (m == 0) = false := by simp [h0]
        have hf2 : Hid (W.gap l x m = W.gapF m x (l.drop (W.bh l x))) := by show _ = _; rw [hf.out, if_neg h0]
        have hle := W.bh_le l x
        rw [hr.len] at hle
        go_wp2_with fail
        refine (behind_any A n c l x _ (hr.below hb) (by omega) hg.out).mono ?_; rintro e w2 ⟨rfl, hb2⟩
        have hr3 := ((hr.below hb).below hb2).drop hle hc
        have hcut := cut_wins A n c (W.bh l x) hle
        go_wp2_with fail
        clear hcut
        obtain ⟨A', hA'⟩ : ∃ A', cutA A c (W.bh l x) 2 = A' := ⟨_, rfl⟩
        rw [hA'] at hr3 ⊢
        obtain ⟨l', hl'⟩ : ∃ l', l.drop (W.bh l x) = l' := ⟨_, rfl⟩
        rw [hl'] at hr3 hf2
        have hgl := W.goodF_bounds l _ hg.out
        have hgd : Hid (∀ (i : Nat) (a b : Int), l'[i]? = some (a, b) → -1 < a ∧ a < b ∧ b ≤ 2199023255552) := fun i a b h => hgl (W.bh l x + i) a b (by rw [← hl', List.getElem?_drop] at h; exact h)
        obtain ⟨n', hn'⟩ : ∃ n', n - W.bh l x = n' := ⟨_, rfl⟩
        have hn2 : n' ≤ n := by omega
        rw [hn'] at hr3 ⊢
        have hb3 := hb.trans (hb2.mono hb.size)
        clear hgl hl' hA' hn' hle hb hb2
        go_loopw [1, 27] (fun p i wr => ∃ (k : Nat) (y : Int), k ≤ n' ∧ i = .int .i64 k ∧ p = .int .i64 y ∧ 0 ≤ y ∧ y ≤ 2199023255552 ∧ Below w.heap.size w wr ∧ Below w2.heap.size w2 wr ∧ Hid (W.gap l x m = W.gapF m y (l'.drop k))) (fun _ i _ => n' - (intOf i).toNat)
        case atStart => exact ⟨0, x, Nat.zero_le _, rfl, rfl, hx.1, by omega, hb3, Below.refl _ _, hf2⟩
        case round =>
          obtain ⟨k, y, hk, rfl, rfl, hy0, hy1, hb, hbb, hs⟩ := hrel
          by_cases hlt : k < n'
          · obtain ⟨b, o, p, q, rfl, hbs, hl, h1, h2⟩ := (hr3.below hbb).pair hlt
            have hd := Lib.hid (drop_at hl)
            have hpq := hgd.out _ _ _ hl
            clear hl
            by_cases hst : y + m ≤ p
            · go_wp2_with fail
              go_returns
              exact ⟨ret_int (by rw [hs.out, hd.out, W.gapF, if_pos hst]), hb.alloc hb.size _⟩
            · go_wp2_with fail
              go_roundw
              case rel => exact ⟨k + 1, q, by omega, by go_num, rfl, by omega, by omega, hb.alloc hb.size _, hbb.alloc hbb.size _, by show _ = _; rw [hs.out, hd.out, W.gapF, if_neg hst]⟩
              case measure => simp [intOf]; omega
          · go_wp2_with fail
            go_returns
            exact ⟨ret_int (by rw [hs.out, List.drop_eq_nil_of_le (by rw [hr3.len]; omega), W.gapF]), hb⟩
    · have hf : Hid (W.gap l x m = 4611686018427387904) := by show _ = _; unfold W.gap; rw [if_neg (by omega)]; rfl
      go_wp2_with fail
      refine (asked_any A n c l x _ hr (by omega)).mono ?_; rintro e w1 ⟨rfl, hb⟩
      go_wp2_with fail
      refine (tcheck_any _ _).mono ?_; rintro e w2 ⟨rfl, rfl⟩
      go_wp2_with fail
      go_returns
      exact ⟨ret_int hf.out.symm, hb⟩
theorem free_any (A : Option Addr) (n c : Nat) (l : W.Row) (x : Int) (w : World) (hr : Rd w 2 pairE A n l) (hn : n ≤ 1099511627776) (hc : n ≤ c) (hc2 : c ≤ 9223372036854775807) :
    Calls Try.prog 12 #[.slice A n c, .int .i64 x] w fun e w' => e = .returned (.int .i64 (W.free l x)) ∧ Below w.heap.size w w' := by
  go_enter Try.func12, Try.ntmps12
  go_wp2_with fail
  refine (gap_any A n c l x 1 _ hr hn hc hc2).mono ?_; rintro e w1 ⟨rfl, hb⟩
  go_wp2_with fail
  go_returns
  exact ⟨rfl, hb⟩
end Go.Proofs.Ytjbhdfjbockkfaa
