/-
  Walks: the document's answers on windows: Check, Good, asked, Has, Gap (ref08.py).
-/
import Derived.Test.YtonkkibnigdfbaaSpS
import Derived.Deep.DeepCutAuto
import Derived.Lib.MinMax
namespace Go.Proofs.Ytonkkibnigdfbaa
set_option linter.unusedVariables false
namespace W
def hasR (x : Int) : Row → Bool
  | [] => false
  | (a, b) :: r => if a ≤ x ∧ x < b then true else hasR x r
def nextR (x : Int) : Row → Int
  | [] => inf
  | (a, b) :: r => if x < b then max x a else nextR x r
def gapR (n : Int) : Int → Row → Int
  | y, [] => y
  | y, (a, b) :: r => if a < y + n ∧ y < b then gapR n b r else gapR n y r
theorem hasR_iff (x : Int) : ∀ l : Row, hasR x l = true ↔ inRow l x := by
  intro l
  induction l with
  | nil => simp only [hasR, Bool.false_eq_true, false_iff]; rintro ⟨i, a, b, h, _⟩; simp at h
  | cons q r ih =>
    obtain ⟨a, b⟩ := q
    unfold hasR
    by_cases h : a ≤ x ∧ x < b
    · rw [if_pos h]; exact ⟨fun _ => ⟨0, a, b, rfl, h.1, h.2⟩, fun _ => rfl⟩
    · rw [if_neg h, ih]
      constructor
      · rintro ⟨i, c, d, h1, h2⟩; exact ⟨i + 1, c, d, by simpa using h1, h2⟩
      · rintro ⟨i, c, d, h1, h2, h3⟩
        cases i with
        | zero => simp at h1; obtain ⟨rfl, rfl⟩ := h1; exact absurd ⟨h2, h3⟩ h
        | succ i => exact ⟨i, c, d, by simpa using h1, h2, h3⟩
theorem has_ref (l : Row) (x : Int) : W.has l x = if asked l x then hasR x l else false := by
  by_cases h : asked l x = true
  · rw [if_pos h, Bool.eq_iff_iff, has_iff (asked_good h) (chk_zero (asked_chk h)), hasR_iff]
  · rw [if_neg h]; unfold has; rw [Bool.not_eq_true] at h; rw [h]; rfl
theorem nextF_ref (x : Int) : ∀ l : Row, nextF l x = nextR x l := by
  intro l
  induction l with
  | nil => rfl
  | cons q r ih =>
    obtain ⟨a, b⟩ := q
    unfold nextR
    by_cases h : x < b
    · rw [if_pos h]; unfold nextF bh; rw [if_neg (by omega)]; rfl
    · rw [if_neg h, ← ih]; unfold nextF; rw [show bh ((a, b) :: r) x = bh r x + 1 from by rw [bh, if_pos (by omega)], List.drop_succ_cons]
theorem next_ref (l : Row) (x : Int) : W.next l x = if asked l x then nextR x l else inf := by unfold next; rw [nextF_ref]
theorem gapR_stop (n : Int) : ∀ (l : Row) (p y : Int), goodF p l = true → y + n ≤ p → gapR n y l = y := by
  intro l
  induction l with
  | nil => intro p y _ _; rfl
  | cons q r ih =>
    obtain ⟨a, b⟩ := q
    intro p y h hy
    obtain ⟨h1, h2, h3, h4⟩ := goodF_cons h
    unfold gapR
    rw [if_neg (by omega)]
    exact ih b y h4 (by omega)
theorem gapR_eq (n : Int) (hn : 1 ≤ n) : ∀ (l : Row) (p y : Int), goodF p l = true → y ≤ p → gapR n y l = gapF n y l := by
  intro l
  induction l with
  | nil => intro p y _ _; rfl
  | cons q r ih =>
    obtain ⟨a, b⟩ := q
    intro p y h hy
    obtain ⟨h1, h2, h3, h4⟩ := goodF_cons h
    unfold gapR gapF
    by_cases hc : y + n ≤ a
    · rw [if_neg (by omega), if_pos hc]; exact gapR_stop n r b y h4 (by omega)
    · rw [if_pos (by omega), if_neg hc]; exact ih b b h4 (by omega)
theorem gapR_bh (n : Int) (hn : 1 ≤ n) : ∀ (l : Row) (p x : Int), goodF p l = true → gapR n x l = gapF n x (l.drop (bh l x)) := by
  intro l
  induction l with
  | nil => intro p x _; rfl
  | cons q r ih =>
    obtain ⟨a, b⟩ := q
    intro p x h
    obtain ⟨h1, h2, h3, h4⟩ := goodF_cons h
    by_cases hb : b ≤ x
    · rw [show bh ((a, b) :: r) x = bh r x + 1 from by rw [bh, if_pos hb], List.drop_succ_cons, ← ih b x h4]
      unfold gapR
      rw [if_neg (by omega)]
      cases r <;> rfl
    · rw [show bh ((a, b) :: r) x = 0 from by rw [bh, if_neg hb], List.drop_zero]
      unfold gapR gapF
      by_cases hc : x + n ≤ a
      · rw [if_neg (by omega), if_pos hc]; exact gapR_stop n r b x h4 (by omega)
      · rw [if_pos (by omega), if_neg hc]; exact gapR_eq n hn r b b h4 (by omega)
theorem gap_ref (l : Row) (x n : Int) : W.gap l x n = if asked l x = true ∧ chk n = 0 then (if 0 < n then gapR n x l else x) else inf := by
  unfold gap
  by_cases h : asked l x = true ∧ chk n = 0
  · rw [if_pos h, if_pos h]
    have := chk_zero h.2
    by_cases hn : n = 0
    · rw [if_pos hn, if_neg (by omega)]
    · rw [if_neg hn, if_pos (by omega), gapR_bh n (by omega) l (-1) x (asked_good h.1)]
  · rw [if_neg h, if_neg h]
end W
end Go.Proofs.Ytonkkibnigdfbaa
namespace Go.Proofs.Ytonkkibnigdfbaa
open Go.RowKit B
set_option linter.unusedVariables false
set_option linter.unusedSimpArgs false
set_option maxHeartbeats 1000000
theorem rchkW_any (x : Int) (w : World) :
    Calls Try.prog 51 #[.int .i64 x] w fun e w' => e = .returned (.int .i64 (W.chk x)) ∧ w = w' := by
  go_enter Try.func51, Try.ntmps51
  by_cases h : 0 ≤ x ∧ x ≤ 1099511627776
  · obtain ⟨h1, h2⟩ := h
    go_wp2
    go_returns
    exact ⟨ret_int (W.chk_ok ⟨h1, h2⟩).symm, rfl⟩
  · go_wp2
    all_goals
      first
        | (exfalso; omega)
        | (go_returns; exact ⟨ret_int (W.chk_no h).symm, rfl⟩)
theorem rgood_any (A : Option Addr) (n c : Nat) (l : W.Row) (w : World) (hr : Rd w 2 pairE A n l) (hn : n ≤ 9223372036854775807) :
    Calls Try.prog 52 #[.slice A n c] w fun e w' => e = .returned (.bool (W.good l)) ∧ Below w.heap.size w w' := by
  go_enter Try.func52, Try.ntmps52
  go_wp2
  go_loopw [3] (fun i wr => ∃ (k : Nat) (x : Int), k ≤ n ∧ i = .int .i64 k ∧ Below w.heap.size w wr ∧ Rd wr 2 pairE A n l ∧ Hid (W.good l = W.goodF x (l.drop k)) ∧ Hid ((k = 0 ∧ x = -1) ∨ (0 ≤ x ∧ ∃ j y, k = j + 1 ∧ l[j]? = some (y, x)))) (fun i _ => n - (intOf i).toNat)
  case atStart => exact ⟨0, -1, Nat.zero_le _, rfl, Below.refl _ _, hr, rfl, .inl ⟨rfl, rfl⟩⟩
  case round =>
    clear hr
    obtain ⟨k, x, hk, rfl, hb, hr, hg, hp⟩ := hrel
    by_cases hlt : k < n
    · obtain ⟨b, o, p, q, rfl, hbs, hl, h1, h2⟩ := hr.pair hlt
      have hl' := Lib.hid hl
      have hd := Lib.hid (drop_at hl); clear hl
      by_cases c1 : p < 0
      · have hx : Hid (W.goodF x (l.drop k) = false) := by
          show _ = _
          rw [hd.out]
          refine W.goodF_no ?_
          rcases hp.out with ⟨_, rfl⟩ | ⟨h, _⟩ <;> omega
        go_upto_region 4 with fail
        go_quiet (fail)
        go_wp2
        go_returns
        exact ⟨ret_bool (by rw [hg.out, hx.out]), ⟨hb.os, hb.tape, hb.output, hb.size, hb.block⟩⟩
      · have c1' : decide (p < 0) = false := decide_eq_false c1
        by_cases c2 : q ≤ p
        · have hx : Hid (W.goodF x (l.drop k) = false) := by
            show _ = _
            rw [hd.out]
            exact W.goodF_no (by omega)
          go_upto_region 4 with fail
          go_quiet (fail)
          go_wp2
          go_returns
          exact ⟨ret_bool (by rw [hg.out, hx.out]), ⟨hb.os, hb.tape, hb.output, hb.size, hb.block⟩⟩
        · have c2' : decide (q ≤ p) = false := decide_eq_false c2
          by_cases c3 : 2199023255552 < q
          · have hx : Hid (W.goodF x (l.drop k) = false) := by
              show _ = _
              rw [hd.out]
              exact W.goodF_no (by omega)
            go_upto_region 4 with fail
            go_quiet (fail)
            go_wp2
            go_returns
            exact ⟨ret_bool (by rw [hg.out, hx.out]), ⟨hb.os, hb.tape, hb.output, hb.size, hb.block⟩⟩
          · have c3' : decide (2199023255552 < q) = false := decide_eq_false c3
            rcases hp.out with ⟨hk0, hx0⟩ | ⟨hx0, j, y, rfl, hj⟩
            · have hx : Hid (W.goodF x (l.drop k) = W.goodF q (l.drop (k + 1))) := by
                show _ = _
                rw [hd.out]
                exact W.goodF_yes (by omega) (by omega) (by omega)
              have hk1 : decide ((0 : Int) < (k : Int)) = false := decide_eq_false (by omega)
              have hk2 : decide (0 < k) = false := decide_eq_false (by omega)
              clear hp hx0 hk0
              go_upto_region 4 with fail
              go_quiet (fail)
              go_wp2
              go_roundw
              case rel => exact ⟨k + 1, q, by omega, by go_num, ⟨hb.os, hb.tape, hb.output, hb.size, hb.block⟩, hr.below ⟨rfl, rfl, rfl, Nat.le_refl _, fun _ _ => rfl⟩, by show _ = _; rw [hg.out, hx.out], .inr ⟨by omega, k, p, rfl, hl'.out⟩⟩
              case measure => simp [intOf]; omega
            · obtain ⟨b', o', p', q', hbb, _, hj', e1, e2⟩ := hr.pair (k := j) (by omega)
              cases hbb
              rw [hj] at hj'
              cases hj'
              clear hj hp e1
              by_cases c4 : p ≤ x
              · have hx : Hid (W.goodF x (l.drop (j + 1)) = false) := by
                  show _ = _
                  rw [hd.out]
                  exact W.goodF_no (by omega)
                go_upto_region 4 with fail
                go_quiet (fail)
                go_wp2
                go_returns
                exact ⟨ret_bool (by rw [hg.out, hx.out]), ⟨hb.os, hb.tape, hb.output, hb.size, hb.block⟩⟩
              · have hx : Hid (W.goodF x (l.drop (j + 1)) = W.goodF q (l.drop (j + 1 + 1))) := by
                  show _ = _
                  rw [hd.out]
                  exact W.goodF_yes (by omega) (by omega) (by omega)
                go_upto_region 4 with fail
                go_quiet (fail)
                go_wp2
                go_roundw
                case rel => exact ⟨j + 1 + 1, q, by omega, by go_num, ⟨hb.os, hb.tape, hb.output, hb.size, hb.block⟩, hr.below ⟨rfl, rfl, rfl, Nat.le_refl _, fun _ _ => rfl⟩, by show _ = _; rw [hg.out, hx.out], .inr ⟨by omega, j + 1, p, rfl, hl'.out⟩⟩
                case measure => simp [intOf]; omega
    · go_wp2
      go_returns
      refine ⟨ret_bool ?_, hb⟩
      rw [hg.out, List.drop_eq_nil_of_le (by rw [hr.len]; omega)]; rfl
theorem rasked_any (A : Option Addr) (n c : Nat) (l : W.Row) (x : Int) (w : World) (hr : Rd w 2 pairE A n l) (hn : n ≤ 9223372036854775807) :
    Calls Try.prog 108 #[.slice A n c, .int .i64 x] w fun e w' => e = .returned (.bool (W.asked l x)) ∧ Below w.heap.size w w' := by
  go_enter Try.func108, Try.ntmps108
  go_wp2_with fail
  refine (rgood_any A n c l _ hr hn).mono ?_; rintro e w1 ⟨rfl, hb⟩
  cases hg : W.good l
  · go_wp2_with fail
    go_returns
    exact ⟨ret_bool (by simp [W.asked, hg]), hb⟩
  · go_wp2_with fail
    refine (rchkW_any x _).mono ?_; rintro e w2 ⟨rfl, rfl⟩
    go_wp2_with fail
    go_returns
    exact ⟨ret_bool (by unfold W.asked; rw [hg]; rcases W.chk_cases x with h | h <;> simp [h]), hb⟩
theorem rhas_any (A : Option Addr) (n c : Nat) (l : W.Row) (x : Int) (w : World) (hr : Rd w 2 pairE A n l) (hn : n ≤ 1099511627776) :
    Calls Try.prog 88 #[.slice A n c, .int .i64 x] w fun e w' => e = .returned (.bool (W.has l x)) ∧ Below w.heap.size w w' := by
  have hu := Lib.hid (W.has_ref l x)
  obtain ⟨u, hu2⟩ : ∃ u, W.has l x = u := ⟨_, rfl⟩
  rw [hu2] at hu ⊢
  clear hu2
  go_enter Try.func88, Try.ntmps88
  go_wp2
  go_loopw [5] (fun i wr => ∃ (k : Nat), k ≤ n ∧ i = .int .i64 k ∧ Below w.heap.size w wr ∧ Rd wr 2 pairE A n l ∧ Hid (u = if W.asked l x then W.hasR x (l.drop k) else false)) (fun i _ => n - (intOf i).toNat)
  case atStart => exact ⟨0, Nat.zero_le _, rfl, Below.refl _ _, hr, hu⟩
  case round =>
    clear hr hu
    obtain ⟨k, hk, rfl, hb, hr, hu⟩ := hrel
    by_cases hlt : k < n
    · go_wp2_with fail
      refine (rasked_any A n c l x _ hr (by omega)).mono ?_; rintro e w1 ⟨rfl, hb1⟩
      have hr := hr.below hb1
      have hb := hb.trans (hb1.mono hb.size)
      cases hq : W.asked l x
      · obtain rfl : u = false := by have := hu.out; rw [hq] at this; exact this
        go_wp2_with fail
        go_returns
        exact ⟨ret_bool rfl, hb⟩
      · obtain ⟨b, o, p, q, rfl, hbs, hl, h1, h2⟩ := hr.pair hlt
        have hd := Lib.hid (drop_at hl); clear hl
        have hq := Lib.hid hq
        by_cases h : p ≤ x ∧ x < q
        · obtain rfl : u = true := by have := hu.out; rw [hq.out, hd.out] at this; rw [this]; unfold W.hasR; rw [if_pos h]; rfl
          obtain ⟨h3, h4⟩ := h
          go_wp2_with fail
          go_returns
          exact ⟨ret_bool rfl, hb⟩
        · have hu' : Hid (u = if W.asked l x then W.hasR x (l.drop (k + 1)) else false) := by
            have := hu.out; rw [hd.out] at this; show _ = _; rw [this, show W.hasR x ((p, q) :: l.drop (k + 1)) = W.hasR x (l.drop (k + 1)) from by rw [W.hasR, if_neg h]]
          by_cases h3 : p ≤ x
          · have h4 : q ≤ x := by omega
            go_wp2_with fail
            go_roundw
            case rel => exact ⟨k + 1, by omega, by go_num, hb, hr, hu'⟩
            case measure => simp [intOf]; omega
          · have h3' : decide (p ≤ x) = false := decide_eq_false h3
            go_wp2_with fail
            go_roundw
            case rel => exact ⟨k + 1, by omega, by go_num, hb, hr, hu'⟩
            case measure => simp [intOf]; omega
    · obtain rfl : u = false := by have := hu.out; rw [List.drop_eq_nil_of_le (by rw [hr.len]; omega)] at this; rw [this]; split <;> rfl
      go_wp2_with fail
      go_returns
      exact ⟨ret_bool rfl, hb⟩
theorem rgap_any (A : Option Addr) (n c : Nat) (l : W.Row) (x m : Int) (w : World) (hr : Rd w 2 pairE A n l) (hn : n ≤ 1099511627776) :
    Calls Try.prog 89 #[.slice A n c, .int .i64 x, .int .i64 m] w fun e w' => e = .returned (.int .i64 (W.gap l x m)) ∧ Below w.heap.size w w' := by
  have hu := Lib.hid (W.gap_ref l x m)
  obtain ⟨u, hu2⟩ : ∃ u, W.gap l x m = u := ⟨_, rfl⟩
  rw [hu2] at hu ⊢
  clear hu2
  go_enter Try.func89, Try.ntmps89
  go_wp2_with fail
  refine (rasked_any A n c l x _ hr (by omega)).mono ?_; rintro e w1 ⟨rfl, hb1⟩
  have hr := hr.below hb1
  cases hq : W.asked l x
  · obtain rfl : u = 4611686018427387904 := by have := hu.out; rw [if_neg (by rw [hq]; simp)] at this; exact this
    go_wp2_with fail
    go_returns
    exact ⟨ret_int rfl, hb1⟩
  · have hx := W.chk_zero (W.asked_chk hq)
    have hgd := Lib.hid (W.asked_good hq)
    have hq := Lib.hid hq
    go_wp2_with fail
    refine (rchkW_any m _).mono ?_; rintro e w2 ⟨rfl, rfl⟩
    by_cases hm : W.chk m = 0
    · have hm1 := W.chk_zero hm
      have hu : Hid (u = if 0 < m then W.gapR m x l else x) := by have := hu.out; rw [if_pos ⟨hq.out, hm⟩] at this; exact this
      rw [hm]
      clear hm
      go_wp2_with fail
      go_loopw [7, 8] (fun yv i wr => ∃ (k : Nat) (y : Int), k ≤ n ∧ yv = .int .i64 y ∧ i = .int .i64 k ∧ Below w.heap.size w wr ∧ Rd wr 2 pairE A n l ∧ (0 ≤ y ∧ y ≤ 2199023255552) ∧ Hid (u = if 0 < m then W.gapR m y (l.drop k) else y)) (fun _ i _ => n - (intOf i).toNat)
      case atStart => exact ⟨0, x, Nat.zero_le _, rfl, rfl, hb1, hr, by omega, hu⟩
      case round =>
        clear hr hu hb1
        obtain ⟨k, y, hk, rfl, rfl, hb, hr, hy, hu⟩ := hrel
        by_cases hlt : k < n
        · by_cases hm0 : 0 < m
          · obtain ⟨b, o, p, q, rfl, hbs, hl, h1, h2⟩ := hr.pair hlt
            have hqb := W.goodF_bounds l _ hgd.out k p q hl
            have hd := Lib.hid (drop_at hl); clear hl
            by_cases h3 : p < y + m
            · by_cases h4 : y < q
              · have hu' : Hid (u = if 0 < m then W.gapR m q (l.drop (k + 1)) else q) := by
                  have := hu.out; rw [if_pos hm0, hd.out, W.gapR, if_pos ⟨h3, h4⟩] at this; show _ = _; rw [if_pos hm0]; exact this
                go_wp2_with fail
                go_roundw
                case rel => exact ⟨k + 1, q, by omega, rfl, by go_num, hb, hr, by omega, hu'⟩
                case measure => simp [intOf]; omega
              · have hu' : Hid (u = if 0 < m then W.gapR m y (l.drop (k + 1)) else y) := by
                  have := hu.out; rw [if_pos hm0, hd.out, W.gapR, if_neg (by omega)] at this; show _ = _; rw [if_pos hm0]; exact this
                go_wp2_with fail
                go_roundw
                case rel => exact ⟨k + 1, y, by omega, rfl, by go_num, hb, hr, by omega, hu'⟩
                case measure => simp [intOf]; omega
            · have h3' : decide (p < y + m) = false := decide_eq_false h3
              have hu' : Hid (u = if 0 < m then W.gapR m y (l.drop (k + 1)) else y) := by
                have := hu.out; rw [if_pos hm0, hd.out, W.gapR, if_neg (by omega)] at this; show _ = _; rw [if_pos hm0]; exact this
              go_wp2_with fail
              go_roundw
              case rel => exact ⟨k + 1, y, by omega, rfl, by go_num, hb, hr, by omega, hu'⟩
              case measure => simp [intOf]; omega
          · obtain rfl : u = y := by have := hu.out; rw [if_neg hm0] at this; exact this
            go_wp2_with fail
            go_returns
            exact ⟨ret_int rfl, hb⟩
        · obtain rfl : u = y := by
            have := hu.out
            rw [List.drop_eq_nil_of_le (by rw [hr.len]; omega)] at this
            split at this <;> exact this
          go_wp2_with fail
          go_returns
          exact ⟨ret_int rfl, hb⟩
    · obtain rfl : u = 4611686018427387904 := by have := hu.out; rw [if_neg (fun h => hm h.2)] at this; exact this
      have hm9 := (W.chk_cases m).resolve_left hm
      rw [hm9]
      go_wp2_with fail
      go_returns
      exact ⟨ret_int rfl, hb1⟩
end Go.Proofs.Ytonkkibnigdfbaa
