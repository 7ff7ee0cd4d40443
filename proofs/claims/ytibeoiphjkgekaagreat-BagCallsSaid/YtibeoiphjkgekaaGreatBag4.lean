/-
  Walks: slices.IndexFunc, ContainsFunc, Index, Contains, Equal and timetablekit.Same at pairs and triples.
-/
import Derived.Test.YtibeoiphjkgekaaGreatBag3
import Derived.Test.YtibeoiphjkgekaaGreatBox
import Derived.Test.YtibeoiphjkgekaaGreatBagIdx
namespace Go.Proofs.YtibeoiphjkgekaaGreat
open Go.RowKit B K
set_option linter.unusedVariables false
set_option linter.unusedSimpArgs false
set_option maxHeartbeats 1000000
theorem idxFP_any (g : Nat) (lb : Array Value) (eg : ∀ args w, (callFunc g args).run Tryz.prog w = .ok (.enter g args) w) (p : P2 → Bool) (A : Option Addr) (n c : Nat) (l : List P2) (w : World) (hr : Rd w 2 pairE A n l) (hn : n ≤ 1099511627776)
    (hp : ∀ (W : World) (x : P2), Below w.heap.size w W → Calls Tryz.prog g (#[.agg (pairE x).toArray] ++ lb) W fun e w' => e = .returned (.bool (p x)) ∧ Below W.heap.size W w') :
    Calls Tryz.prog 83 #[.slice A n c, .func (.func g) #[] lb] w fun e w' => e = .returned (.int .i64 (idx p l)) ∧ Below w.heap.size w w' := by
  go_enter Tryz.func83, Tryz.ntmps83
  go_wp2_with fail
  go_loopw [8] (fun i wr => ∃ (k : Nat), k ≤ n ∧ i = .int .i64 k ∧ Below w.heap.size w wr ∧ Hid (∀ y ∈ l.take k, p y = false)) (fun i _ => n - (intOf i).toNat)
  case atStart => exact ⟨0, Nat.zero_le _, rfl, Below.refl _ _, fun y hy => by simp at hy⟩
  case round =>
    obtain ⟨k, hk, rfl, hb, hno⟩ := hrel
    by_cases hlt : k < n
    · obtain ⟨b, o, x1, x2, rfl, hbs, hx, h1, h2⟩ := (hr.below hb).pair hlt
      have hx := Lib.hid hx
      rename_i hx0; clear hx0
      have hcall := hp wr (x1, x2) hb
      simp only [pairE, Array.append_eq_append, List.append_toArray, List.cons_append, List.nil_append] at hcall
      clear hp
      cases hq : p (x1, x2) with
      | true =>
        rw [hq] at hcall
        have hi : Hid (idx p l = k) := idx_at hx.out hno.out hq
        clear hq
        go_wp2_with fail
        refine hcall.mono ?_; rintro e w2 ⟨rfl, hb2⟩
        go_wp2_with fail
        go_returns
        exact ⟨ret_int hi.out.symm, hb.trans (hb2.mono hb.size)⟩
      | false =>
        rw [hq] at hcall
        have hno' : Hid (∀ y ∈ l.take (k + 1), p y = false) := by
          intro y hy
          rw [take_at hx.out, List.mem_append] at hy
          rcases hy with hy | hy
          · exact hno.out y hy
          · simp at hy; subst hy; exact hq
        clear hq
        go_wp2_with fail
        refine hcall.mono ?_; rintro e w2 ⟨rfl, hb2⟩
        go_wp2_with fail
        go_roundw
        case rel => exact ⟨k + 1, by omega, by go_num, hb.trans (hb2.mono hb.size), hno'⟩
        case measure => simp [intOf]; omega
    · go_wp2
      go_returns
      exact ⟨ret_int (by rw [idx_no]; intro y hy; exact hno.out y (by rwa [List.take_of_length_le (by rw [hr.len]; omega)])), hb⟩
theorem contFP_any (g : Nat) (lb : Array Value) (eg : ∀ args w, (callFunc g args).run Tryz.prog w = .ok (.enter g args) w) (p : P2 → Bool) (A : Option Addr) (n c : Nat) (l : List P2) (w : World) (hr : Rd w 2 pairE A n l) (hn : n ≤ 1099511627776)
    (hp : ∀ (W : World) (x : P2), Below w.heap.size w W → Calls Tryz.prog g (#[.agg (pairE x).toArray] ++ lb) W fun e w' => e = .returned (.bool (p x)) ∧ Below W.heap.size W w') :
    Calls Tryz.prog 67 #[.slice A n c, .func (.func g) #[] lb] w fun e w' => e = .returned (.bool (l.any p)) ∧ Below w.heap.size w w' := by
  go_enter Tryz.func67, Tryz.ntmps67
  go_wp2_with fail
  refine (idxFP_any g lb eg p A n c l _ hr hn hp).mono ?_; rintro e w1 ⟨rfl, hb⟩
  go_wp2_with fail
  go_returns
  exact ⟨ret_bool (idx_any p l), hb⟩
theorem idxFT_any (g : Nat) (lb : Array Value) (eg : ∀ args w, (callFunc g args).run Tryz.prog w = .ok (.enter g args) w) (p : P3 → Bool) (A : Option Addr) (n c : Nat) (l : List P3) (w : World) (hr : Rd w 3 tripE A n l) (hn : n ≤ 1099511627776)
    (hp : ∀ (W : World) (x : P3), Below w.heap.size w W → Calls Tryz.prog g (#[.agg (tripE x).toArray] ++ lb) W fun e w' => e = .returned (.bool (p x)) ∧ Below W.heap.size W w') :
    Calls Tryz.prog 89 #[.slice A n c, .func (.func g) #[] lb] w fun e w' => e = .returned (.int .i64 (idx p l)) ∧ Below w.heap.size w w' := by
  go_enter Tryz.func89, Tryz.ntmps89
  go_wp2_with fail
  go_loopw [8] (fun i wr => ∃ (k : Nat), k ≤ n ∧ i = .int .i64 k ∧ Below w.heap.size w wr ∧ Hid (∀ y ∈ l.take k, p y = false)) (fun i _ => n - (intOf i).toNat)
  case atStart => exact ⟨0, Nat.zero_le _, rfl, Below.refl _ _, fun y hy => by simp at hy⟩
  case round =>
    obtain ⟨k, hk, rfl, hb, hno⟩ := hrel
    by_cases hlt : k < n
    · obtain ⟨b, o, x1, x2, x3, rfl, hbs, hx, h1, h2, h3⟩ := (hr.below hb).trip hlt
      have hx := Lib.hid hx
      rename_i hx0; clear hx0
      have hcall := hp wr (x1, x2, x3) hb
      simp only [tripE, Array.append_eq_append, List.append_toArray, List.cons_append, List.nil_append] at hcall
      clear hp
      cases hq : p (x1, x2, x3) with
      | true =>
        rw [hq] at hcall
        have hi : Hid (idx p l = k) := idx_at hx.out hno.out hq
        clear hq
        go_wp2_with fail
        refine hcall.mono ?_; rintro e w2 ⟨rfl, hb2⟩
        go_wp2_with fail
        go_returns
        exact ⟨ret_int hi.out.symm, hb.trans (hb2.mono hb.size)⟩
      | false =>
        rw [hq] at hcall
        have hno' : Hid (∀ y ∈ l.take (k + 1), p y = false) := by
          intro y hy
          rw [take_at hx.out, List.mem_append] at hy
          rcases hy with hy | hy
          · exact hno.out y hy
          · simp at hy; subst hy; exact hq
        clear hq
        go_wp2_with fail
        refine hcall.mono ?_; rintro e w2 ⟨rfl, hb2⟩
        go_wp2_with fail
        go_roundw
        case rel => exact ⟨k + 1, by omega, by go_num, hb.trans (hb2.mono hb.size), hno'⟩
        case measure => simp [intOf]; omega
    · go_wp2
      go_returns
      exact ⟨ret_int (by rw [idx_no]; intro y hy; exact hno.out y (by rwa [List.take_of_length_le (by rw [hr.len]; omega)])), hb⟩
theorem contFT_any (g : Nat) (lb : Array Value) (eg : ∀ args w, (callFunc g args).run Tryz.prog w = .ok (.enter g args) w) (p : P3 → Bool) (A : Option Addr) (n c : Nat) (l : List P3) (w : World) (hr : Rd w 3 tripE A n l) (hn : n ≤ 1099511627776)
    (hp : ∀ (W : World) (x : P3), Below w.heap.size w W → Calls Tryz.prog g (#[.agg (tripE x).toArray] ++ lb) W fun e w' => e = .returned (.bool (p x)) ∧ Below W.heap.size W w') :
    Calls Tryz.prog 77 #[.slice A n c, .func (.func g) #[] lb] w fun e w' => e = .returned (.bool (l.any p)) ∧ Below w.heap.size w w' := by
  go_enter Tryz.func77, Tryz.ntmps77
  go_wp2_with fail
  refine (idxFT_any g lb eg p A n c l _ hr hn hp).mono ?_; rintro e w1 ⟨rfl, hb⟩
  go_wp2_with fail
  go_returns
  exact ⟨ret_bool (idx_any p l), hb⟩
set_option maxRecDepth 100000 in
theorem sameP_any (A : Option Addr) (n c : Nat) (l : List P2) (A' : Option Addr) (n' c' : Nat) (l' : List P2) (w : World) (hr : Rd w 2 pairE A n l) (hr' : Rd w 2 pairE A' n' l') (hn : n ≤ 1099511627776) (hn' : n' ≤ 1099511627776) :
    Calls Tryz.prog 11 #[.slice A n c, .slice A' n' c'] w fun e w' => e = .returned (.bool (decide (l = l'))) ∧ Below w.heap.size w w' := by
  go_enter Tryz.func11, Tryz.ntmps11
  by_cases hnn : n = n'
  · subst hnn
    go_wp2
    go_loopw [5] (fun i wr => ∃ (k : Nat), k ≤ n ∧ i = .int .i64 k ∧ Below w.heap.size w wr ∧ Hid (l.take k = l'.take k)) (fun i _ => n - (intOf i).toNat)
    case atStart => exact ⟨0, Nat.zero_le _, rfl, Below.refl _ _, rfl⟩
    case round =>
      obtain ⟨k, hk, rfl, hb, heq⟩ := hrel
      by_cases hlt : k < n
      · obtain ⟨b, o, x1, x2, rfl, hbs, hl, h1, h2⟩ := (hr.below hb).pair hlt
        obtain ⟨b', o', y1, y2, rfl, hbs', hl', g1, g2⟩ := (hr'.below hb).pair hlt
        have hl := Lib.hid hl
        have hl' := Lib.hid hl'
        rename_i hx1 hx2; clear hx1 hx2
        have hlt2 : (k : Int) < (n : Int) := by omega
        by_cases e1 : x1 = y1
        · subst e1
          by_cases e2 : x2 = y2
          · subst e2
            go_wp2
            go_quiet (fail)
            go_wp2
            go_roundw
            case rel => exact ⟨k + 1, by omega, by go_num, below_drewN hb _, by show _ = _; rw [take_at hl.out, take_at hl'.out, heq.out]⟩
            case measure => simp [intOf]; omega
          · have hn : (x2 == y2) = false := by simp [e2]
            have hne : Hid (((x1, x2) : P2) ≠ ((x1, y2) : P2)) := by show _ ≠ _; simp [e2]
            clear e2
            have hll : Hid (l ≠ l') := by
              intro e
              apply hne.out
              have := hl.out; rw [e, hl'.out] at this
              exact (Option.some.inj this).symm
            clear hne
            go_wp2
            go_quiet (fail)
            go_wp2
            go_returns
            exact ⟨ret_bool (by symm; rw [decide_eq_false_iff_not]; exact hll.out), below_drewN hb _⟩
        · have hn : (x1 == y1) = false := by simp [e1]
          have hne : Hid (((x1, x2) : P2) ≠ ((y1, y2) : P2)) := by show _ ≠ _; simp [e1]
          clear e1
          have hll : Hid (l ≠ l') := by
            intro e
            apply hne.out
            have := hl.out; rw [e, hl'.out] at this
            exact (Option.some.inj this).symm
          clear hne
          go_wp2
          go_quiet (fail)
          go_wp2
          go_returns
          exact ⟨ret_bool (by symm; rw [decide_eq_false_iff_not]; exact hll.out), below_drewN hb _⟩
      · go_wp2
        go_returns
        exact ⟨ret_bool (by symm; rw [decide_eq_true_eq]; have := heq.out; rwa [List.take_of_length_le (by rw [hr.len]; omega), List.take_of_length_le (by rw [hr'.len]; omega)] at this), hb⟩
  · have hne : ((n : Int) != (n' : Int)) = true := by simp; omega
    go_wp2
    go_returns
    exact ⟨ret_bool (by symm; rw [decide_eq_false_iff_not]; intro e; apply hnn; rw [← hr.len, ← hr'.len, e]), Below.refl _ _⟩
set_option maxRecDepth 100000 in
theorem sameT_any (A : Option Addr) (n c : Nat) (l : List P3) (A' : Option Addr) (n' c' : Nat) (l' : List P3) (w : World) (hr : Rd w 3 tripE A n l) (hr' : Rd w 3 tripE A' n' l') (hn : n ≤ 1099511627776) (hn' : n' ≤ 1099511627776) :
    Calls Tryz.prog 12 #[.slice A n c, .slice A' n' c'] w fun e w' => e = .returned (.bool (decide (l = l'))) ∧ Below w.heap.size w w' := by
  go_enter Tryz.func12, Tryz.ntmps12
  by_cases hnn : n = n'
  · subst hnn
    go_wp2
    go_loopw [5] (fun i wr => ∃ (k : Nat), k ≤ n ∧ i = .int .i64 k ∧ Below w.heap.size w wr ∧ Hid (l.take k = l'.take k)) (fun i _ => n - (intOf i).toNat)
    case atStart => exact ⟨0, Nat.zero_le _, rfl, Below.refl _ _, rfl⟩
    case round =>
      obtain ⟨k, hk, rfl, hb, heq⟩ := hrel
      by_cases hlt : k < n
      · obtain ⟨b, o, x1, x2, x3, rfl, hbs, hl, h1, h2, h3⟩ := (hr.below hb).trip hlt
        obtain ⟨b', o', y1, y2, y3, rfl, hbs', hl', g1, g2, g3⟩ := (hr'.below hb).trip hlt
        have hl := Lib.hid hl
        have hl' := Lib.hid hl'
        rename_i hx1 hx2; clear hx1 hx2
        have hlt2 : (k : Int) < (n : Int) := by omega
        by_cases e1 : x1 = y1
        · subst e1
          by_cases e2 : x2 = y2
          · subst e2
            by_cases e3 : x3 = y3
            · subst e3
              go_wp2
              go_quiet (fail)
              go_wp2
              go_roundw
              case rel => exact ⟨k + 1, by omega, by go_num, below_drewN hb _, by show _ = _; rw [take_at hl.out, take_at hl'.out, heq.out]⟩
              case measure => simp [intOf]; omega
            · have hn : (x3 == y3) = false := by simp [e3]
              have hne : Hid (((x1, x2, x3) : P3) ≠ ((x1, x2, y3) : P3)) := by show _ ≠ _; simp [e3]
              clear e3
              have hll : Hid (l ≠ l') := by
                intro e
                apply hne.out
                have := hl.out; rw [e, hl'.out] at this
                exact (Option.some.inj this).symm
              clear hne
              go_wp2
              go_quiet (fail)
              go_wp2
              go_returns
              exact ⟨ret_bool (by symm; rw [decide_eq_false_iff_not]; exact hll.out), below_drewN hb _⟩
          · have hn : (x2 == y2) = false := by simp [e2]
            have hne : Hid (((x1, x2, x3) : P3) ≠ ((x1, y2, y3) : P3)) := by show _ ≠ _; simp [e2]
            clear e2
            have hll : Hid (l ≠ l') := by
              intro e
              apply hne.out
              have := hl.out; rw [e, hl'.out] at this
              exact (Option.some.inj this).symm
            clear hne
            go_wp2
            go_quiet (fail)
            go_wp2
            go_returns
            exact ⟨ret_bool (by symm; rw [decide_eq_false_iff_not]; exact hll.out), below_drewN hb _⟩
        · have hn : (x1 == y1) = false := by simp [e1]
          have hne : Hid (((x1, x2, x3) : P3) ≠ ((y1, y2, y3) : P3)) := by show _ ≠ _; simp [e1]
          clear e1
          have hll : Hid (l ≠ l') := by
            intro e
            apply hne.out
            have := hl.out; rw [e, hl'.out] at this
            exact (Option.some.inj this).symm
          clear hne
          go_wp2
          go_quiet (fail)
          go_wp2
          go_returns
          exact ⟨ret_bool (by symm; rw [decide_eq_false_iff_not]; exact hll.out), below_drewN hb _⟩
      · go_wp2
        go_returns
        exact ⟨ret_bool (by symm; rw [decide_eq_true_eq]; have := heq.out; rwa [List.take_of_length_le (by rw [hr.len]; omega), List.take_of_length_le (by rw [hr'.len]; omega)] at this), hb⟩
  · have hne : ((n : Int) != (n' : Int)) = true := by simp; omega
    go_wp2
    go_returns
    exact ⟨ret_bool (by symm; rw [decide_eq_false_iff_not]; intro e; apply hnn; rw [← hr.len, ← hr'.len, e]), Below.refl _ _⟩
set_option maxRecDepth 100000 in
theorem equalP_any (A : Option Addr) (n c : Nat) (l : List P2) (A' : Option Addr) (n' c' : Nat) (l' : List P2) (w : World) (hr : Rd w 2 pairE A n l) (hr' : Rd w 2 pairE A' n' l') (hn : n ≤ 1099511627776) (hn' : n' ≤ 1099511627776) :
    Calls Tryz.prog 60 #[.slice A n c, .slice A' n' c'] w fun e w' => e = .returned (.bool (decide (l = l'))) ∧ Below w.heap.size w w' := by
  go_enter Tryz.func60, Tryz.ntmps60
  by_cases hnn : n = n'
  · subst hnn
    go_wp2
    go_loopw [13] (fun i wr => ∃ (k : Nat), k ≤ n ∧ i = .int .i64 k ∧ Below w.heap.size w wr ∧ Hid (l.take k = l'.take k)) (fun i _ => n - (intOf i).toNat)
    case atStart => exact ⟨0, Nat.zero_le _, rfl, Below.refl _ _, rfl⟩
    case round =>
      obtain ⟨k, hk, rfl, hb, heq⟩ := hrel
      by_cases hlt : k < n
      · obtain ⟨b, o, x1, x2, rfl, hbs, hl, h1, h2⟩ := (hr.below hb).pair hlt
        obtain ⟨b', o', y1, y2, rfl, hbs', hl', g1, g2⟩ := (hr'.below hb).pair hlt
        have hl := Lib.hid hl
        have hl' := Lib.hid hl'
        rename_i hx1 hx2; clear hx1 hx2
        have hlt2 : (k : Int) < (n : Int) := by omega
        by_cases e1 : x1 = y1
        · subst e1
          by_cases e2 : x2 = y2
          · subst e2
            go_wp2
            go_quiet (fail)
            go_wp2
            go_roundw
            case rel => exact ⟨k + 1, by omega, by go_num, below_drewN hb _, by show _ = _; rw [take_at hl.out, take_at hl'.out, heq.out]⟩
            case measure => simp [intOf]; omega
          · have hn : (x2 == y2) = false := by simp [e2]
            have hne : Hid (((x1, x2) : P2) ≠ ((x1, y2) : P2)) := by show _ ≠ _; simp [e2]
            clear e2
            have hll : Hid (l ≠ l') := by
              intro e
              apply hne.out
              have := hl.out; rw [e, hl'.out] at this
              exact (Option.some.inj this).symm
            clear hne
            go_wp2
            go_quiet (fail)
            go_wp2
            go_returns
            exact ⟨ret_bool (by symm; rw [decide_eq_false_iff_not]; exact hll.out), below_drewN hb _⟩
        · have hn : (x1 == y1) = false := by simp [e1]
          have hne : Hid (((x1, x2) : P2) ≠ ((y1, y2) : P2)) := by show _ ≠ _; simp [e1]
          clear e1
          have hll : Hid (l ≠ l') := by
            intro e
            apply hne.out
            have := hl.out; rw [e, hl'.out] at this
            exact (Option.some.inj this).symm
          clear hne
          go_wp2
          go_quiet (fail)
          go_wp2
          go_returns
          exact ⟨ret_bool (by symm; rw [decide_eq_false_iff_not]; exact hll.out), below_drewN hb _⟩
      · go_wp2
        go_returns
        exact ⟨ret_bool (by symm; rw [decide_eq_true_eq]; have := heq.out; rwa [List.take_of_length_le (by rw [hr.len]; omega), List.take_of_length_le (by rw [hr'.len]; omega)] at this), hb⟩
  · have hne : ((n : Int) != (n' : Int)) = true := by simp; omega
    go_wp2
    go_returns
    exact ⟨ret_bool (by symm; rw [decide_eq_false_iff_not]; intro e; apply hnn; rw [← hr.len, ← hr'.len, e]), Below.refl _ _⟩
set_option maxRecDepth 100000 in
theorem equalT_any (A : Option Addr) (n c : Nat) (l : List P3) (A' : Option Addr) (n' c' : Nat) (l' : List P3) (w : World) (hr : Rd w 3 tripE A n l) (hr' : Rd w 3 tripE A' n' l') (hn : n ≤ 1099511627776) (hn' : n' ≤ 1099511627776) :
    Calls Tryz.prog 61 #[.slice A n c, .slice A' n' c'] w fun e w' => e = .returned (.bool (decide (l = l'))) ∧ Below w.heap.size w w' := by
  go_enter Tryz.func61, Tryz.ntmps61
  by_cases hnn : n = n'
  · subst hnn
    go_wp2
    go_loopw [13] (fun i wr => ∃ (k : Nat), k ≤ n ∧ i = .int .i64 k ∧ Below w.heap.size w wr ∧ Hid (l.take k = l'.take k)) (fun i _ => n - (intOf i).toNat)
    case atStart => exact ⟨0, Nat.zero_le _, rfl, Below.refl _ _, rfl⟩
    case round =>
      obtain ⟨k, hk, rfl, hb, heq⟩ := hrel
      by_cases hlt : k < n
      · obtain ⟨b, o, x1, x2, x3, rfl, hbs, hl, h1, h2, h3⟩ := (hr.below hb).trip hlt
        obtain ⟨b', o', y1, y2, y3, rfl, hbs', hl', g1, g2, g3⟩ := (hr'.below hb).trip hlt
        have hl := Lib.hid hl
        have hl' := Lib.hid hl'
        rename_i hx1 hx2; clear hx1 hx2
        have hlt2 : (k : Int) < (n : Int) := by omega
        by_cases e1 : x1 = y1
        · subst e1
          by_cases e2 : x2 = y2
          · subst e2
            by_cases e3 : x3 = y3
            · subst e3
              go_wp2
              go_quiet (fail)
              go_wp2
              go_roundw
              case rel => exact ⟨k + 1, by omega, by go_num, below_drewN hb _, by show _ = _; rw [take_at hl.out, take_at hl'.out, heq.out]⟩
              case measure => simp [intOf]; omega
            · have hn : (x3 == y3) = false := by simp [e3]
              have hne : Hid (((x1, x2, x3) : P3) ≠ ((x1, x2, y3) : P3)) := by show _ ≠ _; simp [e3]
              clear e3
              have hll : Hid (l ≠ l') := by
                intro e
                apply hne.out
                have := hl.out; rw [e, hl'.out] at this
                exact (Option.some.inj this).symm
              clear hne
              go_wp2
              go_quiet (fail)
              go_wp2
              go_returns
              exact ⟨ret_bool (by symm; rw [decide_eq_false_iff_not]; exact hll.out), below_drewN hb _⟩
          · have hn : (x2 == y2) = false := by simp [e2]
            have hne : Hid (((x1, x2, x3) : P3) ≠ ((x1, y2, y3) : P3)) := by show _ ≠ _; simp [e2]
            clear e2
            have hll : Hid (l ≠ l') := by
              intro e
              apply hne.out
              have := hl.out; rw [e, hl'.out] at this
              exact (Option.some.inj this).symm
            clear hne
            go_wp2
            go_quiet (fail)
            go_wp2
            go_returns
            exact ⟨ret_bool (by symm; rw [decide_eq_false_iff_not]; exact hll.out), below_drewN hb _⟩
        · have hn : (x1 == y1) = false := by simp [e1]
          have hne : Hid (((x1, x2, x3) : P3) ≠ ((y1, y2, y3) : P3)) := by show _ ≠ _; simp [e1]
          clear e1
          have hll : Hid (l ≠ l') := by
            intro e
            apply hne.out
            have := hl.out; rw [e, hl'.out] at this
            exact (Option.some.inj this).symm
          clear hne
          go_wp2
          go_quiet (fail)
          go_wp2
          go_returns
          exact ⟨ret_bool (by symm; rw [decide_eq_false_iff_not]; exact hll.out), below_drewN hb _⟩
      · go_wp2
        go_returns
        exact ⟨ret_bool (by symm; rw [decide_eq_true_eq]; have := heq.out; rwa [List.take_of_length_le (by rw [hr.len]; omega), List.take_of_length_le (by rw [hr'.len]; omega)] at this), hb⟩
  · have hne : ((n : Int) != (n' : Int)) = true := by simp; omega
    go_wp2
    go_returns
    exact ⟨ret_bool (by symm; rw [decide_eq_false_iff_not]; intro e; apply hnn; rw [← hr.len, ← hr'.len, e]), Below.refl _ _⟩
set_option maxRecDepth 100000 in
theorem indexP_any (x1 x2 : Int) (A : Option Addr) (n c : Nat) (l : List P2) (w : World) (hr : Rd w 2 pairE A n l) (hn : n ≤ 1099511627776) :
    Calls Tryz.prog 65 #[.slice A n c, .agg #[.int .i64 x1, .int .i64 x2]] w fun e w' => e = .returned (.int .i64 (idx (fun y => decide ((x1, x2) = y)) l)) ∧ Below w.heap.size w w' := by
  have bx0 := Bx2.new w 24 x1 x2
  go_enter Tryz.func65, Tryz.ntmps65
  go_wp2_with fail
  have hr := hr.below ((Below.refl _ w).alloc (Nat.le_refl _) (.cells #[.int .i64 x1, .int .i64 x2] 24))
  have hb0 : Below w.heap.size w (w.alloc (.cells #[.int .i64 x1, .int .i64 x2] 24)) := (Below.refl _ w).alloc (Nat.le_refl _) _
  have hs0 : w.heap.size < (w.alloc (.cells #[.int .i64 x1, .int .i64 x2] 24)).heap.size := by simp
  generalize w.alloc (.cells #[.int .i64 x1, .int .i64 x2] 24) = w0 at *
  go_loopw [8] (fun i wr => ∃ (k : Nat), k ≤ n ∧ i = .int .i64 k ∧ Below w0.heap.size w0 wr ∧ Hid (∀ y ∈ l.take k, decide ((x1, x2) = y) = false)) (fun i _ => n - (intOf i).toNat)
  case atStart => exact ⟨0, Nat.zero_le _, rfl, Below.refl _ _, fun y hy => by simp at hy⟩
  case round =>
    obtain ⟨k, hk, rfl, hb, hno⟩ := hrel
    have hbw := hb0.trans (hb.mono (by omega))
    have bx := bx0.below hb
    obtain ⟨h1, h2⟩ := (⟨bx.c0, bx.c1⟩ : _ ∧ _)
    by_cases hlt : k < n
    · obtain ⟨b, o, y1, y2, rfl, hbs, hx, g1, g2⟩ := (hr.below hb).pair hlt
      have hx := Lib.hid hx
      rename_i hx0; clear hx0
      have hlt2 : (k : Int) < (n : Int) := by omega
      by_cases e1 : x1 = y1
      · subst e1
        by_cases e2 : x2 = y2
        · subst e2
          have hi : Hid (idx (fun y => decide ((x1, x2) = y)) l = k) := idx_at hx.out hno.out (by simp)
          go_wp2_with fail
          go_quiet (fail)
          go_wp2_with fail
          go_returns
          exact ⟨ret_int hi.out.symm, below_drewN hbw _⟩
        · have hn : (x2 == y2) = false := by simp [e2]
          have hne : Hid (((x1, x2) : P2) ≠ ((x1, y2) : P2)) := by show _ ≠ _; simp [e2]
          clear e2
          have hno' : Hid (∀ y ∈ l.take (k + 1), decide ((x1, x2) = y) = false) := by
            intro y hy
            rw [take_at hx.out, List.mem_append] at hy
            rcases hy with hy | hy
            · exact hno.out y hy
            · simp at hy; subst hy; exact decide_eq_false hne.out
          clear hne hno
          go_wp2_with fail
          go_quiet (fail)
          go_wp2_with fail
          go_roundw
          case rel => exact ⟨k + 1, by omega, by go_num, below_drewN hb _, hno'⟩
          case measure => simp [intOf]; omega
      · have hn : (x1 == y1) = false := by simp [e1]
        have hne : Hid (((x1, x2) : P2) ≠ ((y1, y2) : P2)) := by show _ ≠ _; simp [e1]
        clear e1
        have hno' : Hid (∀ y ∈ l.take (k + 1), decide ((x1, x2) = y) = false) := by
          intro y hy
          rw [take_at hx.out, List.mem_append] at hy
          rcases hy with hy | hy
          · exact hno.out y hy
          · simp at hy; subst hy; exact decide_eq_false hne.out
        clear hne hno
        go_wp2_with fail
        go_quiet (fail)
        go_wp2_with fail
        go_roundw
        case rel => exact ⟨k + 1, by omega, by go_num, below_drewN hb _, hno'⟩
        case measure => simp [intOf]; omega
    · go_wp2_with fail
      go_returns
      exact ⟨ret_int (by rw [idx_no]; intro y hy; exact hno.out y (by rwa [List.take_of_length_le (by rw [hr.len]; omega)])), hbw⟩
set_option maxRecDepth 100000 in
theorem containsP_any (x1 x2 : Int) (A : Option Addr) (n c : Nat) (l : List P2) (w : World) (hr : Rd w 2 pairE A n l) (hn : n ≤ 1099511627776) :
    Calls Tryz.prog 38 #[.slice A n c, .agg #[.int .i64 x1, .int .i64 x2]] w fun e w' => e = .returned (.bool (decide ((x1, x2) ∈ l))) ∧ Below w.heap.size w w' := by
  go_enter Tryz.func38, Tryz.ntmps38
  go_wp2_with fail
  refine (indexP_any x1 x2 A n c l _ (hr.below ((Below.refl _ w).alloc (Nat.le_refl _) _)) hn).mono ?_; rintro e w1 ⟨rfl, hb⟩
  go_wp2_with fail
  go_returns
  exact ⟨ret_bool ((idx_mem _ l).trans (decide_eq_decide.2 Iff.rfl)), ((Below.refl _ w).alloc (Nat.le_refl _) _).trans (hb.mono (by simp))⟩
set_option maxRecDepth 100000 in
theorem indexT_any (x1 x2 x3 : Int) (A : Option Addr) (n c : Nat) (l : List P3) (w : World) (hr : Rd w 3 tripE A n l) (hn : n ≤ 1099511627776) :
    Calls Tryz.prog 66 #[.slice A n c, .agg #[.int .i64 x1, .int .i64 x2, .int .i64 x3]] w fun e w' => e = .returned (.int .i64 (idx (fun y => decide ((x1, x2, x3) = y)) l)) ∧ Below w.heap.size w w' := by
  have bx0 := Bx3.new w 27 x1 x2 x3
  go_enter Tryz.func66, Tryz.ntmps66
  go_wp2_with fail
  have hr := hr.below ((Below.refl _ w).alloc (Nat.le_refl _) (.cells #[.int .i64 x1, .int .i64 x2, .int .i64 x3] 27))
  have hb0 : Below w.heap.size w (w.alloc (.cells #[.int .i64 x1, .int .i64 x2, .int .i64 x3] 27)) := (Below.refl _ w).alloc (Nat.le_refl _) _
  have hs0 : w.heap.size < (w.alloc (.cells #[.int .i64 x1, .int .i64 x2, .int .i64 x3] 27)).heap.size := by simp
  generalize w.alloc (.cells #[.int .i64 x1, .int .i64 x2, .int .i64 x3] 27) = w0 at *
  go_loopw [8] (fun i wr => ∃ (k : Nat), k ≤ n ∧ i = .int .i64 k ∧ Below w0.heap.size w0 wr ∧ Hid (∀ y ∈ l.take k, decide ((x1, x2, x3) = y) = false)) (fun i _ => n - (intOf i).toNat)
  case atStart => exact ⟨0, Nat.zero_le _, rfl, Below.refl _ _, fun y hy => by simp at hy⟩
  case round =>
    obtain ⟨k, hk, rfl, hb, hno⟩ := hrel
    have hbw := hb0.trans (hb.mono (by omega))
    have bx := bx0.below hb
    obtain ⟨h1, h2, h3⟩ := (⟨bx.c0, bx.c1, bx.c2⟩ : _ ∧ _ ∧ _)
    by_cases hlt : k < n
    · obtain ⟨b, o, y1, y2, y3, rfl, hbs, hx, g1, g2, g3⟩ := (hr.below hb).trip hlt
      have hx := Lib.hid hx
      rename_i hx0; clear hx0
      have hlt2 : (k : Int) < (n : Int) := by omega
      by_cases e1 : x1 = y1
      · subst e1
        by_cases e2 : x2 = y2
        · subst e2
          by_cases e3 : x3 = y3
          · subst e3
            have hi : Hid (idx (fun y => decide ((x1, x2, x3) = y)) l = k) := idx_at hx.out hno.out (by simp)
            go_wp2_with fail
            go_quiet (fail)
            go_wp2_with fail
            go_returns
            exact ⟨ret_int hi.out.symm, below_drewN hbw _⟩
          · have hn : (x3 == y3) = false := by simp [e3]
            have hne : Hid (((x1, x2, x3) : P3) ≠ ((x1, x2, y3) : P3)) := by show _ ≠ _; simp [e3]
            clear e3
            have hno' : Hid (∀ y ∈ l.take (k + 1), decide ((x1, x2, x3) = y) = false) := by
              intro y hy
              rw [take_at hx.out, List.mem_append] at hy
              rcases hy with hy | hy
              · exact hno.out y hy
              · simp at hy; subst hy; exact decide_eq_false hne.out
            clear hne hno
            go_wp2_with fail
            go_quiet (fail)
            go_wp2_with fail
            go_roundw
            case rel => exact ⟨k + 1, by omega, by go_num, below_drewN hb _, hno'⟩
            case measure => simp [intOf]; omega
        · have hn : (x2 == y2) = false := by simp [e2]
          have hne : Hid (((x1, x2, x3) : P3) ≠ ((x1, y2, y3) : P3)) := by show _ ≠ _; simp [e2]
          clear e2
          have hno' : Hid (∀ y ∈ l.take (k + 1), decide ((x1, x2, x3) = y) = false) := by
            intro y hy
            rw [take_at hx.out, List.mem_append] at hy
            rcases hy with hy | hy
            · exact hno.out y hy
            · simp at hy; subst hy; exact decide_eq_false hne.out
          clear hne hno
          go_wp2_with fail
          go_quiet (fail)
          go_wp2_with fail
          go_roundw
          case rel => exact ⟨k + 1, by omega, by go_num, below_drewN hb _, hno'⟩
          case measure => simp [intOf]; omega
      · have hn : (x1 == y1) = false := by simp [e1]
        have hne : Hid (((x1, x2, x3) : P3) ≠ ((y1, y2, y3) : P3)) := by show _ ≠ _; simp [e1]
        clear e1
        have hno' : Hid (∀ y ∈ l.take (k + 1), decide ((x1, x2, x3) = y) = false) := by
          intro y hy
          rw [take_at hx.out, List.mem_append] at hy
          rcases hy with hy | hy
          · exact hno.out y hy
          · simp at hy; subst hy; exact decide_eq_false hne.out
        clear hne hno
        go_wp2_with fail
        go_quiet (fail)
        go_wp2_with fail
        go_roundw
        case rel => exact ⟨k + 1, by omega, by go_num, below_drewN hb _, hno'⟩
        case measure => simp [intOf]; omega
    · go_wp2_with fail
      go_returns
      exact ⟨ret_int (by rw [idx_no]; intro y hy; exact hno.out y (by rwa [List.take_of_length_le (by rw [hr.len]; omega)])), hbw⟩
set_option maxRecDepth 100000 in
theorem containsT_any (x1 x2 x3 : Int) (A : Option Addr) (n c : Nat) (l : List P3) (w : World) (hr : Rd w 3 tripE A n l) (hn : n ≤ 1099511627776) :
    Calls Tryz.prog 42 #[.slice A n c, .agg #[.int .i64 x1, .int .i64 x2, .int .i64 x3]] w fun e w' => e = .returned (.bool (decide ((x1, x2, x3) ∈ l))) ∧ Below w.heap.size w w' := by
  go_enter Tryz.func42, Tryz.ntmps42
  go_wp2_with fail
  refine (indexT_any x1 x2 x3 A n c l _ (hr.below ((Below.refl _ w).alloc (Nat.le_refl _) _)) hn).mono ?_; rintro e w1 ⟨rfl, hb⟩
  go_wp2_with fail
  go_returns
  exact ⟨ret_bool ((idx_mem _ l).trans (decide_eq_decide.2 Iff.rfl)), ((Below.refl _ w).alloc (Nat.le_refl _) _).trans (hb.mono (by simp))⟩
end Go.Proofs.YtibeoiphjkgekaaGreat
