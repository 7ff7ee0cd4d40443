/-
  Texts of the walk chapter, merged (clo/merge.py).
-/
import Derived.Test.YtonkkibnigdfbaaSpS
import Derived.WalkLawsBesides
import Derived.Handy
import Derived.BigQuiet
import Derived.Deep.QuietTactic
import Derived.Lib.Hide
import Derived.Shelf.Abstract
import Derived.Deep.Cut
import Derived.Laws.EntriesVeiled
namespace Go.Proofs.Ytonkkibnigdfbaa
namespace T
def chk (x : Int) : Int := if 0 ≤ x ∧ x ≤ 1099511627776 then 0 else 9
theorem chk_ok {x : Int} (h : 0 ≤ x ∧ x ≤ 1099511627776) : chk x = 0 := if_pos h
theorem chk_no {x : Int} (h : ¬ (0 ≤ x ∧ x ≤ 1099511627776)) : chk x = 9 := if_neg h
theorem chk_zero {x : Int} (h : chk x = 0) : 0 ≤ x ∧ x ≤ 1099511627776 := by
  unfold chk at h; split at h
  · assumption
  · omega
theorem chk_cases (x : Int) : chk x = 0 ∨ chk x = 9 := by unfold chk; split <;> simp
end T
open Go.RowKit B
set_option linter.unusedVariables false
theorem within_any (lo x hi : Int) (w : World) :
    Calls Try.prog 98 #[.int .i64 lo, .int .i64 x, .int .i64 hi] w fun e w' => e = .returned (.bool (decide (lo ≤ x ∧ x ≤ hi))) ∧ w = w' := by
  go_enter Try.func98, Try.ntmps98
  go_wp2
  all_goals go_returns
  · refine ⟨?_, rfl⟩; congr; symm; simp; omega
  · refine ⟨?_, rfl⟩; congr 2; simp; omega
theorem tcheck_any (x : Int) (w : World) :
    Calls Try.prog 76 #[.int .i64 x] w fun e w' => e = .returned (.int .i64 (T.chk x)) ∧ w = w' := by
  go_enter Try.func76, Try.ntmps76
  by_cases h : 0 ≤ x ∧ x ≤ 1099511627776
  · have hd : decide (0 ≤ x ∧ x ≤ 1099511627776) = true := by simpa using h
    go_wp2_with (go_at_call 98; refine (within_any _ _ _ _).mono ?_; rintro e w' ⟨rfl, rfl⟩)
    go_returns
    exact ⟨ret_int (T.chk_ok h).symm, rfl⟩
  · have hd : decide (0 ≤ x ∧ x ≤ 1099511627776) = false := by simpa using h
    go_wp2_with (go_at_call 98; refine (within_any _ _ _ _).mono ?_; rintro e w' ⟨rfl, rfl⟩)
    go_returns
    exact ⟨ret_int (T.chk_no h).symm, rfl⟩
end Go.Proofs.Ytonkkibnigdfbaa
namespace Go.Proofs.Ytonkkibnigdfbaa
namespace K
def idx {α : Type} (p : α → Bool) (l : List α) : Int := if l.any p then (l.findIdx p : Int) else -1
theorem idx_at {α : Type} {p : α → Bool} {l : List α} {k : Nat} {x : α} (h : l[k]? = some x) (hno : ∀ y ∈ l.take k, p y = false) (hp : p x = true) : idx p l = k := by
  obtain ⟨hlt, hx⟩ := List.getElem?_eq_some_iff.1 h
  have hany : l.any p = true := List.any_eq_true.2 ⟨x, hx ▸ List.getElem_mem hlt, hp⟩
  unfold idx
  rw [if_pos hany]
  congr 1
  rw [List.findIdx_eq hlt]
  refine ⟨by rw [hx]; exact hp, fun j hj => ?_⟩
  have := hno l[j] (by rw [List.mem_take_iff_getElem]; exact ⟨j, by omega, rfl⟩)
  exact this
theorem idx_no {α : Type} {p : α → Bool} {l : List α} (h : ∀ y ∈ l, p y = false) : idx p l = -1 := by
  unfold idx
  rw [if_neg]
  intro hh
  obtain ⟨y, hy, hp⟩ := List.any_eq_true.1 hh
  rw [h y hy] at hp; cases hp
theorem idx_any {α : Type} (p : α → Bool) (l : List α) : decide (0 ≤ idx p l) = l.any p := by
  unfold idx
  cases h : l.any p with
  | true => simp
  | false => simp
theorem idx_mem {α : Type} [DecidableEq α] (x : α) (l : List α) : decide (0 ≤ idx (fun y => decide (x = y)) l) = decide (x ∈ l) := by
  rw [idx_any, Bool.eq_iff_iff, List.any_eq_true, decide_eq_true_eq]
  constructor
  · rintro ⟨y, hy, e⟩; rw [decide_eq_true_eq] at e; rw [e]; exact hy
  · intro h; exact ⟨x, h, by simp⟩
end K
end Go.Proofs.Ytonkkibnigdfbaa
namespace Go.Proofs.Ytonkkibnigdfbaa
open Go.RowKit Go.Shelf B K
set_option linter.unusedVariables false
set_option linter.unusedSimpArgs false
set_option maxHeartbeats 1000000
abbrev Ed := Int × Int × Int
def okE (n : Int) (e : Ed) : Bool := decide (0 ≤ e.1 ∧ e.1 < n ∧ 0 ≤ e.2.1 ∧ e.2.1 < n ∧ e.1 ≠ e.2.1 ∧ 1 ≤ e.2.2 ∧ e.2.2 ≤ 1099511627776)
theorem okE_iff {n : Int} {e : Ed} : okE n e = true ↔ 0 ≤ e.1 ∧ e.1 < n ∧ 0 ≤ e.2.1 ∧ e.2.1 < n ∧ e.1 ≠ e.2.1 ∧ 1 ≤ e.2.2 ∧ e.2.2 ≤ 1099511627776 := by simp [okE]
def chkE (n : Int) (l : List Ed) : Int := if 4096 < l.length then 3 else if n < 0 ∨ 256 < n ∨ l.any (fun e => !okE n e) = true then 2 else 0
theorem isT_any {t : Int} (h : 0 ≤ t ∧ t ≤ 1099511627776) (w : World) : Calls Try.prog 135 #[.int .i64 t] w fun e w' => e = .returned (.bool true) ∧ w' = w := by
  have hc := T.chk_ok h
  have hne : (t == 4611686018427387904) = false := by simp; omega
  go_enter Try.func135, Try.ntmps135
  go_wp2_with (go_at_call 76; refine (tcheck_any _ _).mono ?_; rintro e w' ⟨rfl, rfl⟩)
  go_returns
  exact ⟨rfl, rfl⟩
theorem small_any (t : Int) (w : World) : Calls Try.prog 136 #[.int .i64 t] w fun e w' => e = .returned (.tuple #[.int .i64 (if 0 ≤ t ∧ t ≤ 1099511627776 then t else 0), .int .i64 (T.chk t)]) ∧ w' = w := by
  by_cases h : 0 ≤ t ∧ t ≤ 1099511627776
  · have hc := T.chk_ok h
    rw [if_pos h, hc]
    go_enter Try.func136, Try.ntmps136
    go_wp2_with (go_at_call 76; refine (tcheck_any _ _).mono ?_; rintro e w' ⟨rfl, rfl⟩)
    go_returns
    exact ⟨rfl, rfl⟩
  · have hc := T.chk_no h
    rw [if_neg h, hc]
    go_enter Try.func136, Try.ntmps136
    go_wp2_with (go_at_call 76; refine (tcheck_any _ _).mono ?_; rintro e w' ⟨rfl, rfl⟩)
    go_returns
    exact ⟨rfl, rfl⟩
theorem addT_any {a b : Int} (ha : 0 ≤ a ∧ a ≤ 1099511627776) (hb : 0 ≤ b ∧ b ≤ 1099511627776) (w : World) :
    Calls Try.prog 113 #[.int .i64 a, .int .i64 b] w fun e w' => e = .returned (.tuple #[.int .i64 (if a + b ≤ 1099511627776 then a + b else 0), .int .i64 (if a + b ≤ 1099511627776 then 0 else 9)]) ∧ w' = w := by
  have hmx : (max a b == 4611686018427387904) = false := by simp; omega
  by_cases h : a + b ≤ 1099511627776
  · have hc : T.chk (a + b) = 0 := T.chk_ok ⟨by omega, h⟩
    have hi : (if 0 ≤ a + b ∧ a + b ≤ 1099511627776 then a + b else 0) = a + b := if_pos ⟨by omega, h⟩
    rw [if_pos h, if_pos h]
    go_enter Try.func113, Try.ntmps113
    go_wp2_with (first | (go_at_call 135; with_reducible refine (isT_any ha _).mono ?_; rintro e w' ⟨rfl, rfl⟩) | (go_at_call 135; with_reducible refine (isT_any hb _).mono ?_; rintro e w' ⟨rfl, rfl⟩) | (go_at_call 136; refine (small_any _ _).mono ?_; rintro e w' ⟨rfl, rfl⟩))
    all_goals (first | omega | skip)
    all_goals (go_returns; exact ⟨rfl, rfl⟩)
  · have hc : T.chk (a + b) = 9 := T.chk_no (by omega)
    have hi : (if 0 ≤ a + b ∧ a + b ≤ 1099511627776 then a + b else 0) = 0 := if_neg (by omega)
    rw [if_neg h, if_neg h]
    go_enter Try.func113, Try.ntmps113
    go_wp2_with (first | (go_at_call 135; with_reducible refine (isT_any ha _).mono ?_; rintro e w' ⟨rfl, rfl⟩) | (go_at_call 135; with_reducible refine (isT_any hb _).mono ?_; rintro e w' ⟨rfl, rfl⟩) | (go_at_call 136; refine (small_any _ _).mono ?_; rintro e w' ⟨rfl, rfl⟩))
    all_goals (first | omega | skip)
    all_goals (go_returns; exact ⟨rfl, rfl⟩)
theorem idxE_any (g : Nat) (lb : Array Value) (eg : ∀ args w, (callFunc g args).run Try.prog w = .ok (.enter g args) w) (p : Ed → Bool) (A : Option Addr) (n c : Nat) (l : List Ed) (w : World) (hr : Rd w 3 tripE A n l) (hn : n ≤ 1099511627776)
    (hp : ∀ (W : World) (x : Ed), x ∈ l → Below w.heap.size w W → Calls Try.prog g (#[.agg (tripE x).toArray] ++ lb) W fun e w' => e = .returned (.bool (p x)) ∧ Below W.heap.size W w') :
    Calls Try.prog 134 #[.slice A n c, .func (.func g) #[] lb] w fun e w' => e = .returned (.int .i64 (idx p l)) ∧ Below w.heap.size w w' := by
  go_enter Try.func134, Try.ntmps134
  go_wp2_with fail
  go_loopw [8] (fun i wr => ∃ (k : Nat), k ≤ n ∧ i = .int .i64 k ∧ Below w.heap.size w wr ∧ Hid (∀ y ∈ l.take k, p y = false)) (fun i _ => n - (intOf i).toNat)
  case atStart => exact ⟨0, Nat.zero_le _, rfl, Below.refl _ _, fun y hy => by simp at hy⟩
  case round =>
    obtain ⟨k, hk, rfl, hb, hno⟩ := hrel
    by_cases hlt : k < n
    · obtain ⟨b, o, x1, x2, x3, rfl, hbs, hx, h1, h2, h3⟩ := (hr.below hb).trip hlt
      have hcall := hp wr (x1, x2, x3) (List.mem_of_getElem? hx) hb
      have hx := Lib.hid hx
      rename_i hx0; clear hx0
      simp only [tripE, Array.append_eq_append, List.append_toArray, List.cons_append, List.nil_append] at hcall
      clear hp
      cases hq : p (x1, x2, x3) with
      | true =>
        rw [hq] at hcall
        have hi : Hid (idx p l = k) := idx_at hx.out hno.out hq
        clear hq
        go_wp2_with fail
        refine hcall.mono ?_; rintro e w2 ⟨rfl, hb2⟩
        go_wp2_with fail
        go_returns
        exact ⟨ret_int hi.out.symm, hb.trans (hb2.mono hb.size)⟩
      | false =>
        rw [hq] at hcall
        have hno' : Hid (∀ y ∈ l.take (k + 1), p y = false) := by
          intro y hy
          rw [take_at hx.out, List.mem_append] at hy
          rcases hy with hy | hy
          · exact hno.out y hy
          · simp at hy; subst hy; exact hq
        clear hq
        go_wp2_with fail
        refine hcall.mono ?_; rintro e w2 ⟨rfl, hb2⟩
        go_wp2_with fail
        go_roundw
        case rel => exact ⟨k + 1, by omega, by go_num, hb.trans (hb2.mono hb.size), hno'⟩
        case measure => simp [intOf]; omega
    · go_wp2
      go_returns
      exact ⟨ret_int (by rw [idx_no]; intro y hy; exact hno.out y (by rwa [List.take_of_length_le (by rw [hr.len]; omega)])), hb⟩
theorem contE_any (g : Nat) (lb : Array Value) (eg : ∀ args w, (callFunc g args).run Try.prog w = .ok (.enter g args) w) (p : Ed → Bool) (A : Option Addr) (n c : Nat) (l : List Ed) (w : World) (hr : Rd w 3 tripE A n l) (hn : n ≤ 1099511627776)
    (hp : ∀ (W : World) (x : Ed), x ∈ l → Below w.heap.size w W → Calls Try.prog g (#[.agg (tripE x).toArray] ++ lb) W fun e w' => e = .returned (.bool (p x)) ∧ Below W.heap.size W w') :
    Calls Try.prog 110 #[.slice A n c, .func (.func g) #[] lb] w fun e w' => e = .returned (.bool (l.any p)) ∧ Below w.heap.size w w' := by
  go_enter Try.func110, Try.ntmps110
  go_wp2_with fail
  refine (idxE_any g lb eg p A n c l _ hr hn hp).mono ?_; rintro e w1 ⟨rfl, hb⟩
  go_wp2_with fail
  go_returns
  exact ⟨ret_bool (idx_any p l), hb⟩
end Go.Proofs.Ytonkkibnigdfbaa
namespace Go.Proofs.Ytonkkibnigdfbaa
open Go.RowKit Go.Shelf B K
set_option linter.unusedVariables false
set_option linter.unusedSimpArgs false
set_option maxHeartbeats 1000000
theorem chk1_any {bn : Nat} {n : Int} (i : Int) (w : World) (hn : w.cell? ⟨bn, 0, none⟩ = some (.int .i64 n)) :
    Calls Try.prog 109 #[.int .i64 i, .pointer (some ⟨bn, 0, none⟩)] w fun e w' => e = .returned (.bool (decide (0 ≤ i ∧ i < n))) ∧ w' = w := by
  by_cases h1 : 0 ≤ i
  · by_cases h2 : i < n
    · rw [decide_eq_true (⟨h1, h2⟩ : 0 ≤ i ∧ i < n)]
      go_enter Try.func109, Try.ntmps109
      go_wp2
      go_returns
      exact ⟨rfl, rfl⟩
    · rw [decide_eq_false (by omega : ¬ (0 ≤ i ∧ i < n))]
      have hd : decide (i < n) = false := decide_eq_false h2
      go_enter Try.func109, Try.ntmps109
      go_wp2
      go_returns
      exact ⟨rfl, rfl⟩
  · rw [decide_eq_false (by omega : ¬ (0 ≤ i ∧ i < n))]
    have hd : decide (0 ≤ i) = false := decide_eq_false h1
    go_enter Try.func109, Try.ntmps109
    go_wp2
    go_returns
    exact ⟨rfl, rfl⟩
set_option maxRecDepth 100000 in
theorem chk2_any {bf bn : Nat} {n : Int} (x1 x2 x3 : Int) (w : World) (hf : w.cell? ⟨bf, 0, none⟩ = some (.func (.func 109) #[] #[.pointer (some ⟨bn, 0, none⟩)])) (hn : w.cell? ⟨bn, 0, none⟩ = some (.int .i64 n)) (hbf : bf < w.heap.size) (hbn : bn < w.heap.size) :
    Calls Try.prog 111 #[.agg #[.int .i64 x1, .int .i64 x2, .int .i64 x3], .pointer (some ⟨bf, 0, none⟩)] w fun e w' => e = .returned (.bool (!okE n (x1, x2, x3))) ∧ Below w.heap.size w w' := by
  have hb1 : Below w.heap.size w (w.alloc (.cells #[.int .i64 x1, .int .i64 x2, .int .i64 x3] 85)) := (Below.refl _ w).alloc (Nat.le_refl _) _
  have bx := Bx3.new w 85 x1 x2 x3
  have hf1 := (hb1.cell (p := ⟨bf, 0, none⟩) hbf).trans hf
  have hn1 := (hb1.cell (p := ⟨bn, 0, none⟩) hbn).trans hn
  obtain ⟨W, hW⟩ : ∃ q, w.alloc (.cells #[.int .i64 x1, .int .i64 x2, .int .i64 x3] 85) = q := ⟨_, rfl⟩
  rw [hW] at hb1 bx hf1 hn1
  obtain ⟨bk, hbk⟩ : ∃ q, w.heap.size = q := ⟨_, rfl⟩
  rw [hbk] at bx
  have c0 := bx.c0
  have c1 := bx.c1
  have c2 := bx.c2
  have k1 := Lib.hid (chk1_any x1 W hn1)
  have k2 := Lib.hid (chk1_any x2 W hn1)
  have hok : okE n (x1, x2, x3) = decide (0 ≤ x1 ∧ x1 < n ∧ 0 ≤ x2 ∧ x2 < n ∧ x1 ≠ x2 ∧ 1 ≤ x3 ∧ x3 ≤ 1099511627776) := rfl
  clear bx hf hn
  by_cases h1 : 0 ≤ x1 ∧ x1 < n
  · rw [decide_eq_true h1] at k1
    by_cases h2 : 0 ≤ x2 ∧ x2 < n
    · rw [decide_eq_true h2] at k2
      by_cases h3 : x1 = x2
      · have hr : okE n (x1, x2, x3) = false := by rw [hok, decide_eq_false (by omega)]
        have he : (x1 == x2) = true := by simp [h3]
        rw [hr]
        clear hok hr h1 h2 h3
        go_enter Try.func111, Try.ntmps111
        go_wp2_with (first | (with_reducible refine k1.out.mono ?_; rintro e w' ⟨rfl, rfl⟩) | (with_reducible refine k2.out.mono ?_; rintro e w' ⟨rfl, rfl⟩))
        go_returns
        exact ⟨rfl, hb1⟩
      · have he : (x1 == x2) = false := by simp [h3]
        by_cases h4 : x3 < 1
        · have hr : okE n (x1, x2, x3) = false := by rw [hok, decide_eq_false (by omega)]
          rw [hr]
          clear hok hr h1 h2 h3
          go_enter Try.func111, Try.ntmps111
          go_wp2_with (first | (with_reducible refine k1.out.mono ?_; rintro e w' ⟨rfl, rfl⟩) | (with_reducible refine k2.out.mono ?_; rintro e w' ⟨rfl, rfl⟩))
          go_returns
          exact ⟨rfl, hb1⟩
        · have hd : decide (x3 < 1) = false := decide_eq_false h4
          have hr : okE n (x1, x2, x3) = decide (x3 ≤ 1099511627776) := by rw [hok]; exact decide_eq_decide.2 (by omega)
          rw [hr]
          by_cases h5 : x3 ≤ 1099511627776
          · have hd2 : decide (1099511627776 < x3) = false := decide_eq_false (by omega)
            clear hok hr h1 h2 h3
            go_enter Try.func111, Try.ntmps111
            go_wp2_with (first | (with_reducible refine k1.out.mono ?_; rintro e w' ⟨rfl, rfl⟩) | (with_reducible refine k2.out.mono ?_; rintro e w' ⟨rfl, rfl⟩))
            go_returns
            exact ⟨ret_bool (by simp; omega), hb1⟩
          · have hd2 : decide (1099511627776 < x3) = true := decide_eq_true (by omega)
            clear hok hr h1 h2 h3
            go_enter Try.func111, Try.ntmps111
            go_wp2_with (first | (with_reducible refine k1.out.mono ?_; rintro e w' ⟨rfl, rfl⟩) | (with_reducible refine k2.out.mono ?_; rintro e w' ⟨rfl, rfl⟩))
            go_returns
            exact ⟨ret_bool (by simp; omega), hb1⟩
    · rw [decide_eq_false h2] at k2
      have hr : okE n (x1, x2, x3) = false := by rw [hok, decide_eq_false (by omega)]
      rw [hr]
      clear hok hr h1 h2
      go_enter Try.func111, Try.ntmps111
      go_wp2_with (first | (with_reducible refine k1.out.mono ?_; rintro e w' ⟨rfl, rfl⟩) | (with_reducible refine k2.out.mono ?_; rintro e w' ⟨rfl, rfl⟩))
      go_returns
      exact ⟨rfl, hb1⟩
  · rw [decide_eq_false h1] at k1
    have hr : okE n (x1, x2, x3) = false := by rw [hok, decide_eq_false (by omega)]
    rw [hr]
    clear hok hr h1
    go_enter Try.func111, Try.ntmps111
    go_wp2_with (first | (with_reducible refine k1.out.mono ?_; rintro e w' ⟨rfl, rfl⟩) | (with_reducible refine k2.out.mono ?_; rintro e w' ⟨rfl, rfl⟩))
    go_returns
    exact ⟨rfl, hb1⟩
set_option maxRecDepth 100000 in
theorem chk_any (n : Int) (A : Option Addr) (m c : Nat) (l : List Ed) (w : World) (hr : Rd w 3 tripE A m l) (hm : m ≤ 1099511627776) :
    Calls Try.prog 90 #[.int .i64 n, .slice A m c] w fun e w' => e = .returned (.int .i64 (chkE n l)) ∧ Below w.heap.size w w' := by
  have hl := hr.len
  have hb1 : Below w.heap.size w (w.alloc (.cells #[.int .i64 n] 3)) := (Below.refl _ w).alloc (Nat.le_refl _) _
  by_cases h1 : 4096 < m
  · have hv : chkE n l = 3 := by unfold chkE; rw [if_pos (by omega)]
    rw [hv]
    clear hv hl
    go_enter Try.func90, Try.ntmps90
    go_wp2_with fail
    go_returns
    exact ⟨rfl, hb1⟩
  · have hw1 := alloc_one w (.int .i64 n) 3
    have hbU : Below w.heap.size w ((w.alloc (.cells #[.int .i64 n] 3)).alloc (.cells #[.nilFunc] 107)) := hb1.alloc hb1.size _
    have hw2 := alloc_one (w.alloc (.cells #[.int .i64 n] 3)) .nilFunc 107
    have hbb : Below (w.alloc (.cells #[.int .i64 n] 3)).heap.size (w.alloc (.cells #[.int .i64 n] 3)) ((w.alloc (.cells #[.int .i64 n] 3)).alloc (.cells #[.nilFunc] 107)) := (Below.refl _ _).alloc (Nat.le_refl _) _
    have hcU := (hbb.cell (p := ⟨w.heap.size, 0, none⟩) (by simp)).trans (cell_of_one hw1)
    rw [show (w.alloc (.cells #[.int .i64 n] 3)).heap.size = w.heap.size + 1 by simp] at hw2
    obtain ⟨U, hU⟩ : ∃ q, (w.alloc (.cells #[.int .i64 n] 3)).alloc (.cells #[.nilFunc] 107) = q := ⟨_, rfl⟩
    have hsU : U.heap.size = w.heap.size + 2 := by rw [← hU]; simp
    rw [hU] at hbU hcU hw2
    have hcU2 := cell_of_one hw2
    have hfU2 := free_of_one hw2
    have hw3 := one_setCell (u := .func (.func 109) #[] #[.pointer (some ⟨w.heap.size, 0, none⟩)]) hw2
    have hb2 : Below w.heap.size w (U.setCell ⟨w.heap.size + 1, 0, none⟩ (.func (.func 109) #[] #[.pointer (some ⟨w.heap.size, 0, none⟩)])) := hbU.setCell (by simp) _
    have hbut : But U (U.setCell ⟨w.heap.size + 1, 0, none⟩ (.func (.func 109) #[] #[.pointer (some ⟨w.heap.size, 0, none⟩)])) [w.heap.size + 1] := But.of_set _ _ _ (by simp)
    have hc1 := (hbut.cell (p := ⟨w.heap.size, 0, none⟩) (show w.heap.size < U.heap.size by omega) (by simp)).trans hcU
    have hc2 := cell_of_one hw3
    obtain ⟨W, hW⟩ : ∃ q, U.setCell ⟨w.heap.size + 1, 0, none⟩ (.func (.func 109) #[] #[.pointer (some ⟨w.heap.size, 0, none⟩)]) = q := ⟨_, rfl⟩
    have hsz : W.heap.size = w.heap.size + 2 := by rw [← hW]; simp [hsU]
    rw [hW] at hb2 hc1 hc2
    have hC := Lib.hid (contE_any 111 #[.pointer (some ⟨w.heap.size + 1, 0, none⟩)] (enters_of Try.func111 (by kernel_rfl) rfl) (fun e => !okE n e) A m c l W (hr.below hb2) hm (fun V x _ hV => by
      obtain ⟨x1, x2, x3⟩ := x
      exact chk2_any x1 x2 x3 V ((hV.cell (p := ⟨w.heap.size + 1, 0, none⟩) (show w.heap.size + 1 < W.heap.size by omega)).trans hc2) ((hV.cell (p := ⟨w.heap.size, 0, none⟩) (show w.heap.size < W.heap.size by omega)).trans hc1) (by have := hV.size; omega) (by have := hV.size; omega)))
    by_cases h2 : n < 0
    · have hv : chkE n l = 2 := by unfold chkE; rw [if_neg (by omega), if_pos (.inl h2)]
      rw [hv]
      clear hv hl hC hw1 hw2 hw3 hbb hbut hbU hsU
      go_enter Try.func90, Try.ntmps90
      go_wp2_with fail
      go_returns
      exact ⟨rfl, hb2⟩
    · have hd2 : decide (n < 0) = false := decide_eq_false h2
      by_cases h3 : 256 < n
      · have hv : chkE n l = 2 := by unfold chkE; rw [if_neg (by omega), if_pos (.inr (.inl h3))]
        rw [hv]
        clear hv hl hC hw1 hw2 hw3 hbb hbut hbU hsU
        go_enter Try.func90, Try.ntmps90
        go_wp2_with fail
        go_returns
        exact ⟨rfl, hb2⟩
      · have hd3 : decide (256 < n) = false := decide_eq_false h3
        cases ha : l.any (fun e => !okE n e) with
        | true =>
          have hv : chkE n l = 2 := by unfold chkE; rw [if_neg (by omega), if_pos (.inr (.inr ha))]
          rw [hv]
          rw [ha] at hC
          clear hv hl hw1 hw2 hw3 hbb hbut hbU hsU ha
          go_enter Try.func90, Try.ntmps90
          go_wp2_with (go_at_call 110; refine hC.out.mono ?_; rintro e w4 ⟨rfl, hb4⟩)
          go_returns
          exact ⟨rfl, hb2.trans (hb4.mono hb2.size)⟩
        | false =>
          have hv : chkE n l = 0 := by unfold chkE; rw [if_neg (by omega), if_neg (by rw [ha]; simp; omega)]
          rw [hv]
          rw [ha] at hC
          clear hv hl hw1 hw2 hw3 hbb hbut hbU hsU ha
          go_enter Try.func90, Try.ntmps90
          go_wp2_with (go_at_call 110; refine hC.out.mono ?_; rintro e w4 ⟨rfl, hb4⟩)
          go_returns
          exact ⟨rfl, hb2.trans (hb4.mono hb2.size)⟩
end Go.Proofs.Ytonkkibnigdfbaa
namespace Go.Proofs.Ytonkkibnigdfbaa
open Go.RowKit Go.Shelf B K
set_option linter.unusedVariables false
set_option linter.unusedSimpArgs false
theorem infoEdge : (Try.prog.info? 85).map (fun i => (i.zero, i.size, i.bytes)) = some (some (.agg #[.int .i64 0, .int .i64 0, .int .i64 0]), 3, 24) := by kernel_rfl
/-- block ob holds n rows of edges: row i is F i -/
def OutW (w : World) (base ob n : Nat) (F : Nat → List Ed) : Prop :=
  base ≤ ob ∧ ∃ cs : Array Value, w.heap[ob]? = some (.cells cs 83 (0, 0)) ∧ cs.size = n ∧ (∀ (i : Nat) (v : Value), cs[i]? = some v → w.ownsRow base 85 3 v (F i).length ((F i).flatMap tripE)) ∧
    ∀ (i j : Nat) (v u : Value) (g : Nat), i ≠ j → cs[i]? = some v → cs[j]? = some u → v.ownBlock = some g → u.ownBlock ≠ some g
/-- .. for reading alone -/
def OutR (w : World) (ob n : Nat) (F : Nat → List Ed) : Prop := ob < w.heap.size ∧ ∀ i, i < n → ∃ A c, w.cell? ⟨ob, i, none⟩ = some (.slice A (F i).length c) ∧ Rd w 3 tripE A (F i).length (F i)
theorem OutW.toR {w : World} {base ob n : Nat} {F : Nat → List Ed} (h : OutW w base ob n F) : OutR w ob n F := by
  obtain ⟨_, cs, h1, h2, h3, _⟩ := h
  refine ⟨(Array.getElem?_eq_some_iff.1 h1).1, fun i hi => ?_⟩
  have hi' : i < cs.size := by omega
  have hv : cs[i]? = some cs[i] := Array.getElem?_eq_getElem hi'
  obtain ⟨A, c, e, r, _, _⟩ := Rd.of_own (enc := tripE) tripE_len rfl (h3 i _ hv)
  refine ⟨A, c, ?_, r⟩
  rw [cell_of_row _ _ _ _ _ _ h1, hv, e]
theorem OutR.below {w w' : World} {ob n : Nat} {F : Nat → List Ed} (h : OutR w ob n F) (hb : Below w.heap.size w w') : OutR w' ob n F :=
  ⟨Nat.lt_of_lt_of_le h.1 hb.size, fun i hi => by
    obtain ⟨A, c, h1, h2⟩ := h.2 i hi
    exact ⟨A, c, (hb.cell (p := ⟨ob, i, none⟩) h.1).trans h1, h2.below hb⟩⟩
/-- the rows' blocks while one more edge is appended to row a -/
def GN (w0 : World) (base ob : Nat) (cs : Array Value) (a : Nat) (sv : Value) (l : List Ed) (x1 x2 x3 : Int) (fl : Nat → Bool) (xs : Nat → Value) (w : World) : Prop :=
  But w0 w (ob :: sv.ownBlock.toList) ∧ (fl 12 = true → fl 7 = true ∧ fl 10 = true) ∧ (fl 10 = true → fl 9 = true) ∧
  (fl 9 = true → ∃ k, xs 9 = .slice (some ⟨k, 0, none⟩) 1 1 ∧ w0.heap.size ≤ k ∧ (fl 10 = false → w.heap[k]? = some (.cells #[.int .i64 x1, .int .i64 x2, .int .i64 x3] 85 (0, 0)))) ∧
  (fl 10 = false → w.ownsRow base 85 3 sv l.length (l.flatMap tripE)) ∧
  (fl 10 = true → w.ownsRow base 85 3 (xs 10) (l ++ [(x1, x2, x3)]).length ((l ++ [(x1, x2, x3)]).flatMap tripE) ∧ ((xs 10).ownBlock = sv.ownBlock ∨ ∀ k, (xs 10).ownBlock = some k → w0.heap.size ≤ k)) ∧
  (fl 12 = false → w.heap[ob]? = some (.cells cs 83 (0, 0))) ∧
  (fl 12 = true → w.heap[ob]? = some (.cells (cs.setIfInBounds a (xs 10)) 83 (0, 0)))
section
variable {w0 w w1 : World} {base ob a : Nat} {cs : Array Value} {sv v v' : Value} {l : List Ed} {x1 x2 x3 : Int} {fl : Nat → Bool} {xs : Nat → Value}
theorem GN.start (h7 : fl 7 = false) (h9 : fl 9 = false) (h10 : fl 10 = false) (h12 : fl 12 = false) (hH : w0.heap[ob]? = some (.cells cs 83 (0, 0)))
    (own : w0.ownsRow base 85 3 sv l.length (l.flatMap tripE)) : GN w0 base ob cs a sv l x1 x2 x3 fl xs { w0 with drawn := w0.drawn + 1 } :=
  ⟨⟨rfl, rfl, rfl, Nat.le_refl _, fun _ _ _ => rfl⟩, fun h => (by rw [h12] at h; cases h), fun h => (by rw [h10] at h; cases h), fun h => (by rw [h9] at h; cases h), fun _ => own, fun h => (by rw [h10] at h; cases h), fun _ => hH, fun h => (by rw [h12] at h; cases h)⟩
theorem GN.not12 (H : GN w0 base ob cs a sv l x1 x2 x3 fl xs w) (h7 : fl 7 = false) : fl 12 = false := by
  cases e : fl 12 with
  | false => rfl
  | true => rw [(H.2.1 e).1] at h7; cases h7
theorem GN.at_ (H : GN w0 base ob cs a sv l x1 x2 x3 fl xs w) (h12 : fl 12 = false) (hv : cs[a]? = some sv) : w.cell? ⟨ob, a, none⟩ = some sv := by rw [cell_of_row _ _ _ _ _ _ (H.2.2.2.2.2.2.1 h12), hv]
theorem GN.frozen (H : GN w0 base ob cs a sv l x1 x2 x3 fl xs w) (h12 : fl 12 = false) : w.frozen? ⟨ob, a, none⟩ = false := by simp [World.frozen?, H.2.2.2.2.2.2.1 h12]
theorem GN.s7 (H : GN w0 base ob cs a sv l x1 x2 x3 fl xs w) : GN w0 base ob cs a sv l x1 x2 x3 (updB fl 7) (upd xs 7 v) w := by
  obtain ⟨g1, g2, g3, g4, g5, g6, g7, g8⟩ := H
  exact ⟨g1, fun h => ⟨rfl, (g2 h).2⟩, g3, g4, g5, g6, g7, g8⟩
theorem GN.s9 (H : GN w0 base ob cs a sv l x1 x2 x3 fl xs w) (h9 : fl 9 = false) : GN w0 base ob cs a sv l x1 x2 x3 (updB fl 9) (upd xs 9 (.slice (some ⟨w.heap.size, 0, none⟩) 1 1)) (w.alloc (.cells #[.int .i64 x1, .int .i64 x2, .int .i64 x3] 85)) := by
  obtain ⟨g1, g2, g3, g4, g5, g6, g7, g8⟩ := H
  have h10 : fl 10 = false := by
    cases e : fl 10 with
    | false => rfl
    | true => rw [g3 e] at h9; cases h9
  have h12 : fl 12 = false := by
    cases e : fl 12 with
    | false => rfl
    | true => rw [(g2 e).2] at h10; cases h10
  have hb : Below w.heap.size w (w.alloc (.cells #[.int .i64 x1, .int .i64 x2, .int .i64 x3] 85)) := (Below.refl _ w).alloc (Nat.le_refl _) _
  have hh := (Array.getElem?_eq_some_iff.1 (g7 h12)).1
  exact ⟨g1.trans (But.of_below hb _), fun h => (by rw [show updB fl 9 12 = fl 12 from rfl, h12] at h; cases h), fun h => rfl, fun _ => ⟨w.heap.size, rfl, g1.size, fun _ => heap_alloc_new w _⟩, fun _ => (g5 h10).alloc _, fun h => (by rw [show updB fl 9 10 = fl 10 from rfl, h10] at h; cases h),
    fun _ => (hb.block ob hh).trans (g7 h12), fun h => (by rw [show updB fl 9 12 = fl 12 from rfl, h12] at h; cases h)⟩
theorem GN.s10 (H : GN w0 base ob cs a sv l x1 x2 x3 fl xs w) (h10 : fl 10 = false) (h9 : fl 9 = true) (hgr : w.grownBy w1 sv.ownBlock) (own : w1.ownsRow base 85 3 v' (l.length + 1) ((l ++ [(x1, x2, x3)]).flatMap tripE))
    (hnew : v'.ownBlock = sv.ownBlock ∨ v'.ownBlock = some w.heap.size) (hgo : sv.ownBlock ≠ some ob) : GN w0 base ob cs a sv l x1 x2 x3 (updB fl 10) (upd xs 10 v') w1 := by
  obtain ⟨g1, g2, g3, g4, g5, g6, g7, g8⟩ := H
  have h12 : fl 12 = false := by
    cases e : fl 12 with
    | false => rfl
    | true => rw [(g2 e).2] at h10; cases h10
  have hb : But w w1 (ob :: sv.ownBlock.toList) := ⟨hgr.os, hgr.tape, hgr.output, hgr.size, fun i hi hx => hgr.block i hi (fun e => hx (by simp [← e]))⟩
  obtain ⟨k, e1, e2, e3⟩ := g4 h9
  have hh := (Array.getElem?_eq_some_iff.1 (g7 h12)).1
  refine ⟨g1.trans hb, fun h => (by rw [show updB fl 10 12 = fl 12 from rfl, h12] at h; cases h), fun _ => h9, fun _ => ⟨k, e1, e2, fun h => (by cases h)⟩, fun h => (by cases h), fun _ => ⟨?_, ?_⟩,
    fun _ => (hgr.block ob hh (fun e => hgo e.symm)).trans (g7 h12), fun h => (by rw [show updB fl 10 12 = fl 12 from rfl, h12] at h; cases h)⟩
  · rw [List.length_append]
    exact own
  · rcases hnew with e | e
    · exact .inl e
    · exact .inr fun k hk => by
        have hk : v'.ownBlock = some k := hk
        rw [e] at hk; cases hk; exact g1.size
theorem GN.s12 (H : GN w0 base ob cs a sv l x1 x2 x3 fl xs w) (h12 : fl 12 = false) (h7 : fl 7 = true) (h10 : fl 10 = true) (hgo : sv.ownBlock ≠ some ob) (ho0 : ob < w0.heap.size) : GN w0 base ob cs a sv l x1 x2 x3 (updB fl 12) (upd xs 12 v) (w.setCell ⟨ob, a, none⟩ (xs 10)) := by
  obtain ⟨g1, g2, g3, g4, g5, g6, g7, g8⟩ := H
  have hh := g7 h12
  have hset : ∀ j, j ≠ ob → (w.setCell ⟨ob, a, none⟩ (xs 10)).heap[j]? = w.heap[j]? := fun j hj => Below.heap_setCell _ _ _ _ hj
  refine ⟨g1.trans (But.of_set _ _ _ (by simp)), fun _ => ⟨h7, h10⟩, g3, fun h9 => ?_, fun h => (by rw [show updB fl 12 10 = fl 10 from rfl, h10] at h; cases h), fun _ => ?_, fun h => (by cases h), fun _ => ?_⟩
  · obtain ⟨k, e1, e2, e3⟩ := g4 h9
    exact ⟨k, e1, e2, fun h => (by rw [show updB fl 12 10 = fl 10 from rfl, h10] at h; cases h)⟩
  · obtain ⟨o1, o2⟩ := g6 h10
    refine ⟨own_keep o1 fun k hk => hset k (fun e => ?_), o2⟩
    subst e
    rcases o2 with e | e
    · exact hgo (by rw [← e]; exact hk)
    · have := e k hk; omega
  · have hb := (Array.getElem?_eq_some_iff.1 hh).1
    have e : w.heap[ob] = .cells cs 83 (0, 0) := by rw [Array.getElem?_eq_getElem hb] at hh; exact Option.some.inj hh
    show (w.setCell ⟨ob, a, none⟩ (xs 10)).heap[ob]? = some (.cells (cs.setIfInBounds a (xs 10)) 83 (0, 0))
    simp [World.setCell, hh, hb, Array.getElem_modify, e]
end
end Go.Proofs.Ytonkkibnigdfbaa
namespace Go.Proofs.Ytonkkibnigdfbaa
open Go.RowKit Go.Shelf B K
set_option linter.unusedVariables false
set_option linter.unusedSimpArgs false
set_option maxHeartbeats 2000000
theorem rd_trip {w : World} {k : Nat} {a b c : Int} (h : w.heap[k]? = some (.cells #[.int .i64 a, .int .i64 b, .int .i64 c] 85 (0, 0))) : Rd w 3 tripE (some ⟨k, 0, none⟩) 1 [(a, b, c)] :=
  ⟨rfl, fun _ => ⟨k, 0, rfl, (Array.getElem?_eq_some_iff.1 h).1, fun i x hx j u hu => by
    have hi : i = 0 := by
      have := (List.getElem?_eq_some_iff.1 hx).1
      simpa using this
    subst hi
    simp at hx
    subst hx
    rw [cell_of_row _ _ _ _ _ _ h, Nat.zero_mul, Nat.add_zero, Nat.zero_add]
    simpa [tripE] using hu⟩⟩
theorem made_nil (n : Nat) (i : Nat) (v : Value) (h : (madeCells #[.slice none 0 0] n)[i]? = some v) : v = .slice none 0 0 := by
  have h2 : (madeCells #[.slice none 0 0] n).toList[i]? = some v := by rw [Array.getElem?_toList]; exact h
  rw [toList_madeCells_one] at h2
  exact List.eq_of_mem_replicate (List.mem_of_getElem? h2)
theorem infoEdges : (Try.prog.info? 83).map (fun i => (i.zero, i.size, i.bytes)) = some (some (.slice none 0 0), 1, 24) := by kernel_rfl
/-- the edges by stop -/
def byStop (l : List Ed) (i : Nat) : List Ed := l.filter fun e => decide (e.1 = (i : Int))
theorem byStop_snoc (l : List Ed) (e : Ed) (i : Nat) : byStop (l ++ [e]) i = if e.1 = (i : Int) then byStop l i ++ [e] else byStop l i := by
  unfold byStop
  rw [List.filter_append]
  by_cases h : e.1 = (i : Int) <;> simp [h]
theorem byStop_len (l : List Ed) (i : Nat) : (byStop l i).length ≤ l.length := List.length_filter_le _ _
/-- one edge more -/
theorem OutW.step {w0 w : World} {base ob n a : Nat} {F F' : Nat → List Ed} {cs : Array Value} {sv v' : Value} {e : Ed} (hbo : base ≤ ob) (hob : w0.heap[ob]? = some (.cells cs 83 (0, 0))) (hcs : cs.size = n)
    (hrow : ∀ (i : Nat) (v : Value), cs[i]? = some v → w0.ownsRow base 85 3 v (F i).length ((F i).flatMap tripE)) (hdis : ∀ (i j : Nat) (v u : Value) (g : Nat), i ≠ j → cs[i]? = some v → cs[j]? = some u → v.ownBlock = some g → u.ownBlock ≠ some g)
    (hva : cs[a]? = some sv) (hF : ∀ i, F' i = if i = a then F a ++ [e] else F i) (hb : But w0 w (ob :: sv.ownBlock.toList)) (hob' : w.heap[ob]? = some (.cells (cs.setIfInBounds a v') 83 (0, 0)))
    (own : w.ownsRow base 85 3 v' (F a ++ [e]).length ((F a ++ [e]).flatMap tripE)) (hnew : v'.ownBlock = sv.ownBlock ∨ ∀ k, v'.ownBlock = some k → w0.heap.size ≤ k) : OutW w base ob n F' := by
  have hal := (Array.getElem?_eq_some_iff.1 hva).1
  have key : ∀ (i : Nat) (v : Value), (cs.setIfInBounds a v')[i]? = some v → (i = a ∧ v = v') ∨ (i ≠ a ∧ cs[i]? = some v) := fun i v hv => by
    by_cases hi : i = a
    · subst hi
      rw [Array.getElem?_setIfInBounds_self] at hv
      rw [if_pos hal] at hv
      exact .inl ⟨rfl, (Option.some.inj hv).symm⟩
    · rw [Array.getElem?_setIfInBounds_ne (Ne.symm hi)] at hv
      exact .inr ⟨hi, hv⟩
  refine ⟨hbo, _, hob', by simpa using hcs, fun i v hv => ?_, fun i j v u g hij hv hu hg => ?_⟩
  · rcases key i v hv with ⟨rfl, rfl⟩ | ⟨hi, hv2⟩
    · rw [hF, if_pos rfl]; exact own
    · rw [hF, if_neg hi]
      refine own_keep (hrow i v hv2) fun k hk => hb.keep k ((hrow i v hv2).lt k hk).2 ?_
      rw [List.mem_cons, Option.mem_toList]
      rintro (rfl | h)
      · rcases (hrow i v hv2).2 with ⟨h0, _⟩ | ⟨g, cap, cur, h0, _, hh, _⟩
        · rw [h0] at hk; cases hk
        · rw [h0] at hk
          simp only [Value.ownBlock, Option.some.injEq] at hk
          rw [hk, hob] at hh; simp at hh
      · exact hdis a i sv v k (Ne.symm hi) hva hv2 h hk
  · rcases key i v hv with ⟨rfl, rfl⟩ | ⟨hi, hv2⟩
    · rcases key j u hu with ⟨rfl, _⟩ | ⟨hj, hu2⟩
      · exact absurd rfl hij
      · intro hgu
        rcases hnew with e | e
        · exact hdis i j sv u g hij hva hu2 (by rw [← e]; exact hg) hgu
        · have := e g hg
          have := ((hrow j u hu2).lt g hgu).2
          omega
    · rcases key j u hu with ⟨rfl, rfl⟩ | ⟨hj, hu2⟩
      · intro hgu
        rcases hnew with e | e
        · exact hdis i j v sv g hij hv2 hva hg (by rw [← e]; exact hgu)
        · have := e g hgu
          have := ((hrow i v hv2).lt g hg).2
          omega
      · exact hdis i j v u g hij hv2 hu2 hg
set_option maxRecDepth 100000 in
theorem near_any (n : Nat) (A : Option Addr) (m c : Nat) (l : List Ed) (w : World) (hr : Rd w 3 tripE A m l) (hm : m ≤ 4096) (hn : n ≤ 256) (hl : ∀ e ∈ l, 0 ≤ e.1 ∧ e.1 < (n : Int)) :
    Calls Try.prog 91 #[.int .i64 n, .slice A m c] w fun e w' => ∃ ob, e = .returned (.slice (some ⟨ob, 0, none⟩) n n) ∧ OutR w' ob n (byStop l) ∧ Below w.heap.size w w' := by
  obtain ⟨ob, hobe⟩ : ∃ q, w.heap.size = q := ⟨_, rfl⟩
  have hmk : (Instr.makeSlice 126 (.int .i64 (n : Int)) (.int .i64 (n : Int))).run Try.prog w = .ok (.slice (some ⟨ob, 0, none⟩) n n) (w.alloc (.cells (madeCells #[.slice none 0 0] n) 83)) := by
    rw [← hobe]
    obtain ⟨i, hi, hz, hs, hb⟩ := info_parts infoEdges
    have := run_make w 126 83 i _ Try.underlying126 hi hz .i64 .i64 (n : Int) (n : Int) (by omega) (Int.le_refl _) (by rw [hb]; omega) (by omega)
    rw [hs] at this
    simpa [Value.cells] using this
  have h0 : OutW (w.alloc (.cells (madeCells #[.slice none 0 0] n) 83)) w.heap.size w.heap.size n (byStop []) := by
    refine ⟨Nat.le_refl _, _, heap_alloc_new w _, size_madeCells _ _, fun i v hv => ?_, fun i j v u g _ hv _ hg => ?_⟩
    · rw [made_nil n i v hv]
      exact World.ownsRow_nil _ _ _ _
    · rw [made_nil n i v hv] at hg; cases hg
  have hb0 : Below w.heap.size w (w.alloc (.cells (madeCells #[.slice none 0 0] n) 83)) := (Below.refl _ w).alloc (Nat.le_refl _) _
  have hlen := hr.len
  go_enter Try.func91, Try.ntmps91
  have h0' : OutW (w.alloc (.cells (madeCells #[.slice none 0 0] n) 83)) w.heap.size ob n (byStop []) := by
    have := h0
    rw [hobe] at this ⊢
    exact this
  clear h0
  have hobe2 := Lib.hid hobe
  clear hobe
  go_wp2_with fail
  go_loopw [12] (fun i wr => ∃ (k : Nat), k ≤ m ∧ i = .int .i64 k ∧ OutW wr w.heap.size ob n (byStop (l.take k)) ∧ Below w.heap.size w wr) (fun i _ => m - (intOf i).toNat)
  case atStart => exact ⟨0, Nat.zero_le _, rfl, by rw [List.take_zero]; exact h0', hb0⟩
  case round =>
    clear h0' hb0 hmk
    obtain ⟨k, hk, rfl, hO, hb⟩ := hrel
    by_cases hlt : k < m
    · obtain ⟨b, o, x1, x2, x3, rfl, hbs, hx, h1, h2, h3⟩ := (hr.below hb).trip hlt
      have htk := Lib.hid (take_at hx)
      obtain ⟨hx0, hxn⟩ := hl _ (List.mem_of_getElem? hx)
      simp only at hx0 hxn
      obtain ⟨a, rfl⟩ : ∃ a : Nat, x1 = a := ⟨x1.toNat, by omega⟩
      have han : a < n := by omega
      have ha1 : Below wr.heap.size wr (wr.alloc (.cells #[.int .i64 a, .int .i64 x2, .int .i64 x3] 85)) := (Below.refl _ wr).alloc (Nat.le_refl _) _
      have bx := Bx3.new wr 85 a x2 x3
      obtain ⟨hbo, cs, hob, hcs, hrow, hdis⟩ := hO
      have hol0 := (Array.getElem?_eq_some_iff.1 hob).1
      have hva : cs[a]? = some cs[a] := Array.getElem?_eq_getElem (by omega)
      obtain ⟨sv, hsv⟩ : ∃ q, cs[a] = q := ⟨_, rfl⟩
      rw [hsv] at hva
      have hgo : sv.ownBlock ≠ some ob := by
        intro e
        rcases (hrow a sv hva).2 with ⟨h0, _⟩ | ⟨g, cap, cur, h0, _, hh, _⟩
        · rw [h0] at e; cases e
        · rw [h0] at e
          simp only [Value.ownBlock, Option.some.injEq] at e
          rw [e, hob] at hh; simp at hh
      have hob2 := (ha1.block ob hol0).trans hob
      have hrow2 : ∀ (i : Nat) (v : Value), cs[i]? = some v → (wr.alloc (.cells #[.int .i64 a, .int .i64 x2, .int .i64 x3] 85)).ownsRow w.heap.size 85 3 v (byStop (l.take k) i).length ((byStop (l.take k) i).flatMap tripE) := fun i v hv => own_up (hrow i v hv) ha1
      have hbkn : wr.heap.size ∉ ob :: sv.ownBlock.toList := by
        rw [List.mem_cons, Option.mem_toList]
        rintro (e | e)
        · omega
        · have := ((hrow a sv hva).lt _ e).2; omega
      have hb2 := hb.trans (ha1.mono hb.size)
      obtain ⟨W2, hW2⟩ : ∃ q, wr.alloc (.cells #[.int .i64 a, .int .i64 x2, .int .i64 x3] 85) = q := ⟨_, rfl⟩
      obtain ⟨bk, hbke⟩ : ∃ q, wr.heap.size = q := ⟨_, rfl⟩
      rw [hW2] at hob2 hrow2 hb2 bx ha1
      rw [hbke] at bx hbkn
      have hbk := bx.lt
      have q0 := bx.c0
      have q1 := bx.c1
      have q2 := bx.c2
      have hol := (Array.getElem?_eq_some_iff.1 hob2).1
      have hbase2 : w.heap.size ≤ W2.heap.size := hb2.size
      have own2 := Lib.hid (hrow2 a sv hva)
      obtain ⟨F, hF⟩ : ∃ F, byStop (l.take k) = F := ⟨_, rfl⟩
      rw [hF] at own2 hrow2
      have hnFm : (F a).length ≤ k := by
        rw [← hF]
        exact Nat.le_trans (byStop_len _ _) (List.length_take_le _ _)
      obtain ⟨A0, c0, hsv0, _, _, _⟩ := Rd.of_own (enc := tripE) tripE_len rfl own2.out
      obtain ⟨nF, hnF0⟩ : ∃ q, (F a).length = q := ⟨_, rfl⟩
      rw [hnF0] at hsv0
      subst hsv0
      have hfin : Hid (∀ (v' : Value) (w' : World), But W2 w' (ob :: (Value.slice A0 nF c0).ownBlock.toList) → w'.heap[ob]? = some (.cells (cs.setIfInBounds a v') 83 (0, 0)) →
          w'.ownsRow w.heap.size 85 3 v' (F a ++ [((a : Int), x2, x3)]).length ((F a ++ [((a : Int), x2, x3)]).flatMap tripE) → (v'.ownBlock = (Value.slice A0 nF c0).ownBlock ∨ ∀ k, v'.ownBlock = some k → W2.heap.size ≤ k) →
          OutW w' w.heap.size ob n (byStop (l.take (k + 1))) ∧ Below w.heap.size w w') := fun v' w' hbut hob' hown hnew => by
        refine ⟨OutW.step (F := F) hbo hob2 hcs hrow2 hdis hva (fun i => ?_) hbut hob' hown hnew, hb2.trans (hbut.below hb2.size fun x hx => ?_)⟩
        · rw [htk.out, byStop_snoc, hF]
          by_cases hi : i = a
          · subst hi; rw [if_pos rfl, if_pos rfl]
          · rw [if_neg hi, if_neg (by show ¬ (a : Int) = (i : Int); omega)]
        · rw [List.mem_cons, Option.mem_toList] at hx
          rcases hx with rfl | hx
          · exact hbo
          · exact ((hrow2 a _ hva).lt x hx).1
      have han2 : (a : Int) < (n : Int) := by omega
      have hcs0 := hcs
      clear hrow hrow2 hdis hob hF htk hx hb hbo ha1 hb2 hsv hx0 hxn bx hol0
      go_upto_region 5 with fail
      refine wp_region_ghost (GN W2 w.heap.size ob cs a (.slice A0 nF c0) (F a) a x2 x3) (by kernel_rfl) (by kernel_rfl) (by kernel_rfl) (by kernel_rfl) (by kernel_rfl) ?_ ?_
      · intro x0
        exact GN.start rfl rfl rfl rfl hob2 own2.out
      intro base O hbase hO
      have kx5 : Hid (∀ xs, evX base O xs (.tmp 5) = .slice (some ⟨ob, 0, none⟩) n n) := fun xs => by rw [hbase, hO]; rfl
      have kx7 : Hid (∀ xs, evX base O xs (.tmp 7) = .pointer (some ⟨bk, 0, none⟩)) := fun xs => by rw [hbase, hO]; rfl
      have kx16 : Hid (∀ xs, evX base O xs (.tmp 16) = xs 0) := fun xs => by rw [hO]; rfl
      have kx17 : Hid (∀ xs, evX base O xs (.tmp 17) = xs 1) := fun xs => by rw [hO]; rfl
      have kx18 : Hid (∀ xs, evX base O xs (.tmp 18) = xs 2) := fun xs => by rw [hO]; rfl
      have kx19 : Hid (∀ xs, evX base O xs (.tmp 19) = xs 3) := fun xs => by rw [hO]; rfl
      have kx20 : Hid (∀ xs, evX base O xs (.tmp 20) = xs 4) := fun xs => by rw [hO]; rfl
      have kx21 : Hid (∀ xs, evX base O xs (.tmp 21) = xs 5) := fun xs => by rw [hO]; rfl
      have kx22 : Hid (∀ xs, evX base O xs (.tmp 22) = xs 6) := fun xs => by rw [hO]; rfl
      have kx23 : Hid (∀ xs, evX base O xs (.tmp 23) = xs 7) := fun xs => by rw [hO]; rfl
      have kx24 : Hid (∀ xs, evX base O xs (.tmp 24) = xs 8) := fun xs => by rw [hO]; rfl
      have kx25 : Hid (∀ xs, evX base O xs (.tmp 25) = xs 9) := fun xs => by rw [hO]; rfl
      have kx26 : Hid (∀ xs, evX base O xs (.tmp 26) = xs 10) := fun xs => by rw [hO]; rfl
      have kx27 : Hid (∀ xs, evX base O xs (.tmp 27) = xs 11) := fun xs => by rw [hO]; rfl
      clear hbase hO
      apply gh_det (n := 0)
      · intro fl xs w ev hG hD hl hdone hev K hK
        have e5 := (hev (.tmp 5)).trans (kx5.out xs)
        rw [if_pos (wantedX_none rfl)]
        have ef : ∀ f, ev (.func f) = .func (.func f) #[] #[] := fun f => (hev _).trans rfl
        clear hev hD
        go_simp
        exact hK _ _ rfl hG
      apply gh_det (n := 1)
      · intro fl xs w ev hG hD hl hdone hev K hK
        have e7 := (hev (.tmp 7)).trans (kx7.out xs)
        rw [if_pos (wantedX_none rfl)]
        have ef : ∀ f, ev (.func f) = .func (.func f) #[] #[] := fun f => (hev _).trans rfl
        clear hev hD
        go_simp
        exact hK _ _ rfl hG
      apply gh_det (n := 2)
      · intro fl xs w ev hG hD hl hdone hev K hK
        have e17 := (hev (.tmp 17)).trans (kx17.out xs)
        have d1 := hD.at_ 1 rfl rfl
        replace e17 := e17.trans d1
        rw [if_pos (wantedX_none rfl)]
        have ef : ∀ f, ev (.func f) = .func (.func f) #[] #[] := fun f => (hev _).trans rfl
        clear hev hD
        have m0 := (hG.1.cell (p := ⟨bk, 0, none⟩) hbk hbkn).trans q0
        go_simp
        exact hK _ _ rfl hG
      apply gh_det (n := 3)
      · intro fl xs w ev hG hD hl hdone hev K hK
        have e5 := (hev (.tmp 5)).trans (kx5.out xs)
        rw [if_pos (wantedX_none rfl)]
        have ef : ∀ f, ev (.func f) = .func (.func f) #[] #[] := fun f => (hev _).trans rfl
        clear hev hD
        go_simp
        exact hK _ _ rfl hG
      apply gh_det (n := 4)
      · intro fl xs w ev hG hD hl hdone hev K hK
        have e7 := (hev (.tmp 7)).trans (kx7.out xs)
        rw [if_pos (wantedX_none rfl)]
        have ef : ∀ f, ev (.func f) = .func (.func f) #[] #[] := fun f => (hev _).trans rfl
        clear hev hD
        go_simp
        exact hK _ _ rfl hG
      apply gh_det (n := 5)
      · intro fl xs w ev hG hD hl hdone hev K hK
        have e20 := (hev (.tmp 20)).trans (kx20.out xs)
        have d4 := hD.at_ 4 rfl rfl
        replace e20 := e20.trans d4
        rw [if_pos (wantedX_none rfl)]
        have ef : ∀ f, ev (.func f) = .func (.func f) #[] #[] := fun f => (hev _).trans rfl
        clear hev hD
        have m0 := (hG.1.cell (p := ⟨bk, 0, none⟩) hbk hbkn).trans q0
        go_simp
        exact hK _ _ rfl hG
      apply gh_det (n := 6)
      · intro fl xs w ev hG hD hl hdone hev K hK
        have e19 := (hev (.tmp 19)).trans (kx19.out xs)
        have d3 := hD.at_ 3 rfl rfl
        replace e19 := e19.trans d3
        have e21 := (hev (.tmp 21)).trans (kx21.out xs)
        have d5 := hD.at_ 5 rfl rfl
        replace e21 := e21.trans d5
        rw [if_pos (wantedX_none rfl)]
        have ef : ∀ f, ev (.func f) = .func (.func f) #[] #[] := fun f => (hev _).trans rfl
        clear hev hD
        go_simp
        exact hK _ _ rfl hG
      apply gh_det (n := 7)
      · intro fl xs w ev hG hD hl hdone hev K hK
        have e22 := (hev (.tmp 22)).trans (kx22.out xs)
        have d6 := hD.at_ 6 rfl rfl
        replace e22 := e22.trans d6
        rw [if_pos (wantedX_none rfl)]
        have ef : ∀ f, ev (.func f) = .func (.func f) #[] #[] := fun f => (hev _).trans rfl
        clear hev hD
        have m0 := hG.at_ (hG.not12 hl) hva
        go_simp
        exact hK _ _ rfl hG.s7
      apply gh_det (n := 8)
      · intro fl xs w ev hG hD hl hdone hev K hK
        have e7 := (hev (.tmp 7)).trans (kx7.out xs)
        rw [if_pos (wantedX_none rfl)]
        have ef : ∀ f, ev (.func f) = .func (.func f) #[] #[] := fun f => (hev _).trans rfl
        clear hev hD
        have m0 := (hG.1.cell (p := ⟨bk, 0, none⟩) hbk hbkn).trans q0
        have m1 := (hG.1.cell (p := ⟨bk, 1, none⟩) hbk hbkn).trans q1
        have m2 := (hG.1.cell (p := ⟨bk, 2, none⟩) hbk hbkn).trans q2
        go_simp
        exact hK _ _ rfl hG
      refine gh_any (n := 9) (fun _ => True) ?_ ?_
      · intro fl xs w ev hG hD hl hdone hev K hK
        have e24 := (hev (.tmp 24)).trans (kx24.out xs)
        have d8 := hD.at_ 8 rfl rfl
        replace e24 := e24.trans d8
        rw [if_pos (wantedX_none rfl)]
        have ef : ∀ f, ev (.func f) = .func (.func f) #[] #[] := fun f => (hev _).trans rfl
        clear hev hD
        go_simp
        exact hK _ _ trivial (hG.s9 hl)
      refine gh_any (n := 10) (fun _ => True) ?_ ?_
      · intro fl xs w ev hG hD hl hdone hev K hK
        have e23 := (hev (.tmp 23)).trans (kx23.out xs)
        have d7 := hD.at_ 7 rfl rfl
        replace e23 := e23.trans d7
        have e25 := (hev (.tmp 25)).trans (kx25.out xs)
        rw [if_pos (wantedX_none rfl)]
        have ef : ∀ f, ev (.func f) = .func (.func f) #[] #[] := fun f => (hev _).trans rfl
        clear hev hD
        obtain ⟨k1, ek, hk1, hkb⟩ := hG.2.2.2.1 (done_of hdone 9 rfl)
        have own := hG.2.2.2.2.1 hl
        rw [ek] at e25
        obtain ⟨v', w1, hrun, own1, hgr, hnew⟩ := own_append (enc := tripE) Try.underlying83 infoEdge rfl (by decide) tripE_len tripE_one 1 own (rd_trip (hkb hl)) (by omega) (by decide) (Nat.le_trans hbase2 hG.1.size)
        exact outcome_append (.tmp 23) (.tmp 25) 83 rfl e23 e25 hrun (hK _ _ trivial (hG.s10 hl (done_of hdone 9 rfl) hgr own1 hnew hgo))
      apply gh_det (n := 11)
      · intro fl xs w ev hG hD hl hdone hev K hK
        have e16 := (hev (.tmp 16)).trans (kx16.out xs)
        have d0 := hD.at_ 0 rfl rfl
        replace e16 := e16.trans d0
        have e18 := (hev (.tmp 18)).trans (kx18.out xs)
        have d2 := hD.at_ 2 rfl rfl
        replace e18 := e18.trans d2
        rw [if_pos (wantedX_none rfl)]
        have ef : ∀ f, ev (.func f) = .func (.func f) #[] #[] := fun f => (hev _).trans rfl
        clear hev hD
        go_simp
        exact hK _ _ rfl hG
      refine gh_any (n := 12) (fun _ => True) ?_ ?_
      · intro fl xs w ev hG hD hl hdone hev K hK
        have e27 := (hev (.tmp 27)).trans (kx27.out xs)
        have d11 := hD.at_ 11 rfl rfl
        replace e27 := e27.trans d11
        have e26 := (hev (.tmp 26)).trans (kx26.out xs)
        rw [if_pos (wantedX_none rfl)]
        have ef : ∀ f, ev (.func f) = .func (.func f) #[] #[] := fun f => (hev _).trans rfl
        clear hev hD
        have h7 := done_of hdone 7 rfl
        have h10 := done_of hdone 10 rfl
        have c00 := hG.at_ hl hva
        have f0 := hG.frozen hl
        have hgo2 := GN.s12 (v := undef) hG hl h7 h10 hgo hol
        obtain ⟨A7, c7, e7, _⟩ := Rd.of_own (enc := tripE) tripE_len rfl (hG.2.2.2.2.2.1 h10).1
        generalize (F a ++ [((a : Int), x2, x3)]).length = n7 at e7
        rw [e7] at hgo2 e26
        go_simp
        exact hK _ _ trivial hgo2
      intro xs w' hG hI
      clear hI
      obtain ⟨g1, g2, g3, g4, g5, g6, g7, g8⟩ := hG
      obtain ⟨hO9, hb9⟩ := hfin.out (xs 10) w' g1 (g8 rfl) (g6 rfl).1 (g6 rfl).2
      clear g1 g2 g3 g4 g5 g6 g7 g8 hfin
      simp only [List.append_eq, List.cons_append, List.nil_append, setAll, List.setIfInBounds_toArray, List.set_cons_zero, List.set_cons_succ]
      go_wp2_with fail
      go_roundw
      case rel => exact ⟨k + 1, by omega, by go_num, hO9, hb9⟩
      case measure => simp [intOf]; omega
    · obtain rfl : k = m := by omega
      rw [List.take_of_length_le (by omega)] at hO
      have hR := hO.toR
      go_wp2_with fail
      go_returns
      exact ⟨ob, rfl, hR, hb⟩
end Go.Proofs.Ytonkkibnigdfbaa
namespace Go.Proofs.Ytonkkibnigdfbaa
set_option linter.unusedVariables false
set_option linter.unusedSimpArgs false
/-- how far each stop is from s -/
structure IsDist (n : Nat) (l : List Ed) (s : Nat) (d : List Int) : Prop where
  len : d.length = n
  s0 : d[s]? = some 0
  rng : ∀ (i : Nat) (v : Int), d[i]? = some v → v = (4611686018427387904 : Int) ∨ (0 ≤ v ∧ v ≤ (1099511627776 : Int))
  rel : ∀ e ∈ l, ∀ (a b : Nat) (u v : Int), e.1 = a → e.2.1 = b → d[a]? = some u → d[b]? = some v → u + e.2.2 ≤ (1099511627776 : Int) → v ≤ u + e.2.2
  sup : ∀ (i : Nat) (v : Int), i ≠ s → d[i]? = some v → v ≤ (1099511627776 : Int) → ∃ e ∈ l, e.2.1 = (i : Int) ∧ ∃ (p : Nat) (u : Int), e.1 = (p : Int) ∧ d[p]? = some u ∧ u + e.2.2 = v
def EdsOk (n : Nat) (l : List Ed) : Prop := ∀ e ∈ l, 0 ≤ e.1 ∧ e.1 < n ∧ 0 ≤ e.2.1 ∧ e.2.1 < n ∧ e.1 ≠ e.2.1 ∧ 1 ≤ e.2.2 ∧ e.2.2 ≤ (1099511627776 : Int)
theorem eds_ok {n : Nat} {l : List Ed} (h : chkE n l = 0) : EdsOk n l := fun e he => by
  unfold chkE at h
  split at h
  · omega
  · split at h
    · omega
    · rename_i h2
      have h3 : okE n e = true := by
        cases hk : okE n e with
        | true => rfl
        | false => exact absurd (List.any_eq_true.2 ⟨e, he, by rw [hk]; rfl⟩) (fun hh => h2 (.inr (.inr hh)))
      exact okE_iff.1 h3
theorem chk_len {n : Int} {l : List Ed} (h : chkE n l = 0) : l.length ≤ 4096 ∧ 0 ≤ n ∧ n ≤ 256 := by
  unfold chkE at h
  split at h
  · omega
  · split at h
    · omega
    · omega
theorem IsDist.le {n : Nat} {l : List Ed} {s : Nat} {d d' : List Int} (hl : EdsOk n l) (h : IsDist n l s d) (h' : IsDist n l s d') : ∀ (k : Nat) (i : Nat) (u v : Int), v.toNat ≤ k → d[i]? = some u → d'[i]? = some v → v ≤ (1099511627776 : Int) → u ≤ v
  | k, i, u, v, hk, hu, hv, hvt => by
    by_cases hi : i = s
    · subst hi
      rw [h.s0] at hu; rw [h'.s0] at hv
      cases hu; cases hv; omega
    · obtain ⟨e, he, e2, p, v', e1, hp, hs⟩ := h'.sup i v hi hv hvt
      obtain ⟨_, _, _, _, _, hlo, _⟩ := hl e he
      have hv0 : 0 ≤ v' := by rcases h'.rng p v' hp with h1 | h1 <;> omega
      have hpn : p < d.length := by
        have := (List.getElem?_eq_some_iff.1 hp).1
        rw [h.len, ← h'.len]; exact this
      have hp2 : d[p]? = some d[p] := List.getElem?_eq_getElem hpn
      have ih := IsDist.le hl h h' (k - 1) p d[p] v' (by omega) hp2 hp (by omega)
      have := h.rel e he p i d[p] u e1 e2 hp2 hu (by omega)
      omega
termination_by k => k
decreasing_by omega
theorem IsDist.uniq {n : Nat} {l : List Ed} {s : Nat} {d d' : List Int} (hl : EdsOk n l) (h : IsDist n l s d) (h' : IsDist n l s d') : d = d' := by
  refine List.ext_getElem? fun i => ?_
  by_cases hi : i < n
  · obtain ⟨u, hu⟩ : ∃ u, d[i]? = some u := ⟨d[i]'(by rw [h.len]; exact hi), List.getElem?_eq_getElem _⟩
    obtain ⟨v, hv⟩ : ∃ v, d'[i]? = some v := ⟨d'[i]'(by rw [h'.len]; exact hi), List.getElem?_eq_getElem _⟩
    rw [hu, hv]
    have hru := h.rng i u hu
    have hrv := h'.rng i v hv
    by_cases hvt : v ≤ (1099511627776 : Int)
    · have h1 := IsDist.le hl h h' _ i u v (Nat.le_refl _) hu hv hvt
      have h2 := IsDist.le hl h' h _ i v u (Nat.le_refl _) hv hu (by omega)
      congr 1; omega
    · by_cases hut : u ≤ (1099511627776 : Int)
      · have h2 := IsDist.le hl h' h _ i v u (Nat.le_refl _) hv hu hut
        omega
      · congr 1; omega
  · rw [List.getElem?_eq_none (by rw [h.len]; omega), List.getElem?_eq_none (by rw [h'.len]; omega)]
/-- what the search keeps: the row d, the heap S; all that went out are at most m far, all in it at least; the edges pend are still to be gone -/
structure Dij (n : Nat) (l : List Ed) (s c : Nat) (d : List Int) (S : List It) (m : Int) (pend : List Ed) : Prop where
  len : d.length = n
  sn : s < n
  s0 : d[s]? = some 0
  m0 : 0 ≤ m ∧ m ≤ (1099511627776 : Int)
  rng : ∀ (i : Nat) (v : Int), d[i]? = some v → v = (4611686018427387904 : Int) ∨ (0 ≤ v ∧ v ≤ (1099511627776 : Int))
  it : ∀ x ∈ S, ∃ i : Nat, x.2 = (i : Int) ∧ d[i]? = some x.1 ∧ x.1 ≤ (1099511627776 : Int) ∧ m ≤ x.1
  nd : (S.map Prod.snd).Nodup
  pop : ∀ (i : Nat) (v : Int), d[i]? = some v → v ≤ (1099511627776 : Int) → (v, (i : Int)) ∉ S → v ≤ m ∧ ∀ e ∈ l, e.1 = (i : Int) → e ∈ pend ∨ (1099511627776 : Int) < v + e.2.2 ∨ ∃ (b : Nat) (u : Int), e.2.1 = (b : Int) ∧ d[b]? = some u ∧ u ≤ v + e.2.2
  sup : ∀ (i : Nat) (v : Int), i ≠ s → d[i]? = some v → v ≤ (1099511627776 : Int) → ∃ e ∈ l, e.2.1 = (i : Int) ∧ ∃ (p : Nat) (u : Int), e.1 = (p : Int) ∧ d[p]? = some u ∧ u ≤ (1099511627776 : Int) ∧ (u, (p : Int)) ∉ S ∧ u + e.2.2 = v
  cnt : d.countP (fun v => decide (v = (4611686018427387904 : Int))) + S.length ≤ c
  cn : c ≤ n
section
variable {n s c : Nat} {l pend : List Ed} {d : List Int} {S S2 : List It} {m : Int}
theorem Dij.start (hs : s < n) : Dij n l s n ((List.replicate n (4611686018427387904 : Int)).set s 0) [(0, (s : Int))] 0 [] := by
  have key : ∀ (i : Nat) (v : Int), ((List.replicate n (4611686018427387904 : Int)).set s 0)[i]? = some v → (i = s ∧ v = 0) ∨ (i ≠ s ∧ v = (4611686018427387904 : Int)) := fun i v hv => by
    rw [List.getElem?_set] at hv
    by_cases h : s = i
    · subst h
      rw [if_pos rfl] at hv
      simp [hs] at hv
      exact .inl ⟨rfl, hv.symm⟩
    · rw [if_neg h] at hv
      rw [List.getElem?_replicate] at hv
      split at hv
      · exact .inr ⟨fun e => h e.symm, (Option.some.inj hv).symm⟩
      · cases hv
  have hs0 : ((List.replicate n (4611686018427387904 : Int)).set s 0)[s]? = some 0 := by rw [List.getElem?_set]; simp [hs]
  refine ⟨by simp, hs, hs0, by decide, fun i v hv => ?_, fun x hx => ?_, by simp, fun i v hv hvt hn => ?_, fun i v hi hv hvt => ?_, ?_, Nat.le_refl _⟩
  · rcases key i v hv with ⟨_, h⟩ | ⟨_, h⟩
    · right; rw [h]; decide
    · left; exact h
  · rw [List.mem_singleton] at hx; subst hx
    exact ⟨s, rfl, hs0, (by decide : (0 : Int) ≤ (1099511627776 : Int)), (by decide : (0 : Int) ≤ 0)⟩
  · rcases key i v hv with ⟨rfl, rfl⟩ | ⟨_, rfl⟩
    · simp at hn
    · exact absurd hvt (by decide)
  · rcases key i v hv with ⟨rfl, _⟩ | ⟨_, rfl⟩
    · exact absurd rfl hi
    · exact absurd hvt (by decide)
  · rw [List.countP_set (by simpa using hs)]
    have : ¬ (0 : Int) = (4611686018427387904 : Int) := by decide
    simp [List.countP_replicate, this]
    omega
theorem Dij.perm (h : Dij n l s c d S m pend) (hp : S.Perm S2) : Dij n l s c d S2 m pend :=
  ⟨h.len, h.sn, h.s0, h.m0, h.rng, fun x hx => h.it x (hp.mem_iff.2 hx), (hp.map _).nodup_iff.1 h.nd, fun i v hv hvt hn => h.pop i v hv hvt (fun hx => hn (hp.mem_iff.1 hx)),
    fun i v hi hv hvt => by
      obtain ⟨e, he, e2, p, u, e1, hp1, hu, hn, hs⟩ := h.sup i v hi hv hvt
      exact ⟨e, he, e2, p, u, e1, hp1, hu, fun hx => hn (hp.mem_iff.2 hx), hs⟩, by rw [← hp.length_eq]; exact h.cnt, h.cn⟩
/-- one goes out -/
theorem Dij.out {x : It} (h : Dij n l s c d (x :: S) m []) (hmin : ∀ y ∈ S, ltI y x = false) : ∃ a : Nat, x.2 = (a : Int) ∧ a < n ∧ d[a]? = some x.1 ∧ (x.1, (a : Int)) ∉ S ∧ 1 ≤ c ∧ Dij n l s (c - 1) d S x.1 (byStop l a) := by
  obtain ⟨a, ha, hda, hxt, hmx⟩ := h.it x (List.mem_cons_self ..)
  have hnd := h.nd
  rw [List.map_cons, List.nodup_cons] at hnd
  have hnot : ∀ v : Int, (v, (a : Int)) ∉ S := fun v hv => hnd.1 (by rw [ha]; exact List.mem_map.2 ⟨_, hv, rfl⟩)
  have hal : a < n := by rw [← h.len]; exact (List.getElem?_eq_some_iff.1 hda).1
  refine ⟨a, ha, hal, hda, hnot _, ?_, h.len, h.sn, h.s0, ⟨by have := h.m0; omega, hxt⟩, h.rng, fun y hy => ?_, hnd.2, fun i v hv hvt hn => ?_, fun i v hi hv hvt => ?_, ?_, by have := h.cn; omega⟩
  · have := h.cnt
    simp only [List.length_cons] at this
    omega
  · obtain ⟨i, h1, h2, h3, _⟩ := h.it y (List.mem_cons_of_mem _ hy)
    have := ltI_no.1 (hmin y hy)
    exact ⟨i, h1, h2, h3, by omega⟩
  · by_cases hi : i = a
    · subst hi
      rw [hda] at hv; cases hv
      exact ⟨Int.le_refl _, fun e he e1 => .inl (List.mem_filter.2 ⟨he, by simpa using e1⟩)⟩
    · have hn2 : (v, (i : Int)) ∉ x :: S := by
        rw [List.mem_cons]
        rintro (h1 | h1)
        · have := congrArg Prod.snd h1
          simp only at this
          omega
        · exact hn h1
      obtain ⟨h1, h2⟩ := h.pop i v hv hvt hn2
      refine ⟨by omega, fun e he e1 => .inr ?_⟩
      rcases h2 e he e1 with h3 | h3
      · cases h3
      · exact h3
  · obtain ⟨e, he, e2, p, u, e1, hp1, hu, hn, hs⟩ := h.sup i v hi hv hvt
    exact ⟨e, he, e2, p, u, e1, hp1, hu, fun hx => hn (List.mem_cons_of_mem _ hx), hs⟩
  · have := h.cnt
    simp only [List.length_cons] at this
    omega
/-- an edge by which nothing comes nearer -/
theorem Dij.skip {e : Ed} {a b : Nat} (h : Dij n l s c d S m (e :: pend)) (ea : e.1 = (a : Int)) (eb : e.2.1 = (b : Int)) (hda : d[a]? = some m) (hno : (1099511627776 : Int) < m + e.2.2 ∨ ∃ u, d[b]? = some u ∧ u ≤ m + e.2.2) : Dij n l s c d S m pend := by
  refine ⟨h.len, h.sn, h.s0, h.m0, h.rng, h.it, h.nd, fun i v hv hvt hn => ?_, h.sup, h.cnt, h.cn⟩
  obtain ⟨h1, h2⟩ := h.pop i v hv hvt hn
  refine ⟨h1, fun e' he' e1 => ?_⟩
  rcases h2 e' he' e1 with h3 | h3
  · rcases List.mem_cons.1 h3 with rfl | h3
    · have hia : i = a := by omega
      subst hia
      rw [hda] at hv; cases hv
      rcases hno with h4 | ⟨u, h4, h5⟩
      · exact .inr (.inl h4)
      · exact .inr (.inr ⟨b, u, eb, h4, h5⟩)
    · exact .inl h3
  · exact .inr h3
/-- an edge by which a stop comes nearer: it stands in the heap, or is infinitely far -/
theorem Dij.where {e : Ed} {b : Nat} {u : Int} (h : Dij n l s c d S m (e :: pend)) (hl : 1 ≤ e.2.2) (hdb : d[b]? = some u) (hlt : m + e.2.2 < u) : (u = (4611686018427387904 : Int) ∧ (∀ y ∈ S, y.2 ≠ (b : Int)) ∧ S.length + 1 ≤ n) ∨ (u ≠ (4611686018427387904 : Int) ∧ ∃ S0, S.Perm ((u, (b : Int)) :: S0) ∧ ∀ y ∈ S0, y.2 ≠ (b : Int)) := by
  by_cases hu : u = (4611686018427387904 : Int)
  · refine .inl ⟨hu, fun y hy e => ?_, ?_⟩
    · obtain ⟨i, h1, h2, h3, _⟩ := h.it y hy
      have hib : i = b := by omega
      subst hib
      rw [hdb] at h2; cases h2
      rw [hu] at h3
      exact absurd h3 (by decide)
    · have hc : 0 < d.countP (fun v => decide (v = (4611686018427387904 : Int))) := List.countP_pos_iff.2 ⟨u, List.mem_of_getElem? hdb, by simpa using hu⟩
      have := h.cnt
      have := h.cn
      omega
  · refine .inr ⟨hu, ?_⟩
    have hut : u ≤ (1099511627776 : Int) := by rcases h.rng b u hdb with h1 | h1 <;> omega
    have hin : (u, (b : Int)) ∈ S := by
      by_cases hin : (u, (b : Int)) ∈ S
      · exact hin
      · have := (h.pop b u hdb hut hin).1
        omega
    obtain ⟨S1, S2, rfl⟩ := List.append_of_mem hin
    have hp : (S1 ++ (u, (b : Int)) :: S2).Perm ((u, (b : Int)) :: (S1 ++ S2)) := List.perm_middle
    refine ⟨S1 ++ S2, hp, fun y hy e => ?_⟩
    have hnd := (hp.map Prod.snd).nodup_iff.1 h.nd
    rw [List.map_cons, List.nodup_cons] at hnd
    exact hnd.1 (List.mem_map.2 ⟨y, hy, e⟩)
theorem Dij.nearer {e : Ed} {a b : Nat} {u : Int} {S0 : List It} (h : Dij n l s c d S m (e :: pend)) (he : e ∈ l) (ea : e.1 = (a : Int)) (eb : e.2.1 = (b : Int)) (hl : 1 ≤ e.2.2) (hda : d[a]? = some m) (haS : (m, (a : Int)) ∉ S)
    (hdb : d[b]? = some u) (hlt : m + e.2.2 < u) (htop : m + e.2.2 ≤ (1099511627776 : Int)) (hS : ∀ y, y ∈ S0 ↔ y ∈ S ∧ y.2 ≠ (b : Int)) (hnd : (S0.map Prod.snd).Nodup) (hcnt : S0.length + 1 + (if u = (4611686018427387904 : Int) then 0 else 1) ≤ S.length + 1) :
    Dij n l s c (d.set b (m + e.2.2)) ((m + e.2.2, (b : Int)) :: S0) m pend := by
  have hbn : b < d.length := (List.getElem?_eq_some_iff.1 hdb).1
  have hm0 := h.m0
  have key : ∀ (i : Nat) (v : Int), (d.set b (m + e.2.2))[i]? = some v → (i = b ∧ v = m + e.2.2) ∨ (i ≠ b ∧ d[i]? = some v) := fun i v hv => by
    rw [List.getElem?_set] at hv
    by_cases hi : b = i
    · subst hi
      rw [if_pos rfl, if_pos hbn] at hv
      exact .inl ⟨rfl, (Option.some.inj hv).symm⟩
    · rw [if_neg hi] at hv
      exact .inr ⟨fun e => hi e.symm, hv⟩
  have keep : ∀ (i : Nat) (v : Int), i ≠ b → d[i]? = some v → (d.set b (m + e.2.2))[i]? = some v := fun i v hi hv => by rw [List.getElem?_set, if_neg (fun e => hi e.symm)]; exact hv
  have self : (d.set b (m + e.2.2))[b]? = some (m + e.2.2) := by rw [List.getElem?_set, if_pos rfl, if_pos hbn]
  have hab : a ≠ b := by
    rintro rfl
    rw [hda] at hdb; cases hdb; omega
  have hbs : b ≠ s := by
    rintro rfl
    rw [h.s0] at hdb; cases hdb; omega
  have hfin : ∀ (i : Nat) (v : Int), d[i]? = some v → v ≤ (1099511627776 : Int) → (v, (i : Int)) ∉ S → i ≠ b := fun i v hv hvt hn e => by
    subst e
    rw [hdb] at hv; cases hv
    have := (h.pop i u hdb hvt hn).1
    omega
  refine ⟨by rw [List.length_set]; exact h.len, h.sn, keep s 0 (Ne.symm hbs) h.s0, hm0, fun i v hv => ?_, fun x hx => ?_, ?_, fun i v hv hvt hn => ?_, fun i v hi hv hvt => ?_, ?_, h.cn⟩
  · rcases key i v hv with ⟨_, rfl⟩ | ⟨_, hv⟩
    · right; omega
    · exact h.rng i v hv
  · rcases List.mem_cons.1 hx with rfl | hx
    · exact ⟨b, rfl, self, htop, by show m ≤ m + e.2.2; omega⟩
    · obtain ⟨hxS, hxb⟩ := (hS x).1 hx
      obtain ⟨i, h1, h2, h3, h4⟩ := h.it x hxS
      exact ⟨i, h1, keep i _ (fun e => hxb (by rw [h1, e])) h2, h3, h4⟩
  · rw [List.map_cons, List.nodup_cons]
    refine ⟨fun hx => ?_, hnd⟩
    obtain ⟨y, hy, hyb⟩ := List.mem_map.1 hx
    exact ((hS y).1 hy).2 hyb
  · rcases key i v hv with ⟨rfl, rfl⟩ | ⟨hib, hv2⟩
    · exact absurd (List.mem_cons_self ..) hn
    · clear hv
      have hv := hv2
      clear hv2
      have hnS : (v, (i : Int)) ∉ S := fun hx => hn (List.mem_cons_of_mem _ ((hS _).2 ⟨hx, by show (i : Int) ≠ b; omega⟩))
      obtain ⟨h1, h2⟩ := h.pop i v hv hvt hnS
      refine ⟨h1, fun e' he' e1 => ?_⟩
      rcases h2 e' he' e1 with h3 | h3 | ⟨b', u', h4, h5, h6⟩
      · rcases List.mem_cons.1 h3 with rfl | h3
        · have hia : i = a := by omega
          subst hia
          rw [hda] at hv; cases hv
          exact .inr (.inr ⟨b, _, eb, self, Int.le_refl _⟩)
        · exact .inl h3
      · exact .inr (.inl h3)
      · refine .inr (.inr ?_)
        by_cases hb' : b' = b
        · subst hb'
          rw [hdb] at h5; cases h5
          exact ⟨b', _, h4, self, by omega⟩
        · exact ⟨b', u', h4, keep _ _ hb' h5, h6⟩
  · have lift : ∀ (p : Nat) (u : Int), p ≠ b → (u, (p : Int)) ∉ S → (u, (p : Int)) ∉ ((m + e.2.2, (b : Int)) :: S0) := fun p u hp hn hx => by
      rcases List.mem_cons.1 hx with hx | hx
      · have := congrArg Prod.snd hx
        simp only at this
        omega
      · exact hn ((hS _).1 hx).1
    rcases key i v hv with ⟨rfl, rfl⟩ | ⟨hib, hv2⟩
    · exact ⟨e, he, eb, a, m, ea, keep a m hab hda, hm0.2, lift a m hab haS, rfl⟩
    · obtain ⟨e', he', e2, p, u', e1, hp1, hu, hn, hs⟩ := h.sup i v hi hv2 hvt
      have hpb := hfin p u' hp1 hu hn
      exact ⟨e', he', e2, p, u', e1, keep p u' hpb hp1, hu, lift p u' hpb hn, hs⟩
  · have hc := h.cnt
    have hdbe : d[b] = u := by rw [List.getElem?_eq_getElem hbn] at hdb; exact Option.some.inj hdb
    rw [List.countP_set hbn, hdbe]
    have hne : m + e.2.2 ≠ (4611686018427387904 : Int) := by omega
    simp only [decide_eq_true_eq, hne, if_false, List.length_cons, Nat.add_zero]
    by_cases hu : u = (4611686018427387904 : Int)
    · have hpos : 0 < d.countP (fun v => decide (v = (4611686018427387904 : Int))) := List.countP_pos_iff.2 ⟨u, List.mem_of_getElem? hdb, by simpa using hu⟩
      rw [if_pos hu] at hcnt ⊢
      omega
    · rw [if_neg hu] at hcnt ⊢
      omega
/-- what it comes to -/
theorem Dij.fin (hl : EdsOk n l) (h : Dij n l s c d [] m []) : IsDist n l s d := by
  refine ⟨h.len, h.s0, h.rng, fun e he a b u v ea eb hu hv ht => ?_, fun i v hi hv hvt => ?_⟩
  · by_cases hut : u ≤ (1099511627776 : Int)
    · rcases (h.pop a u hu hut (by simp)).2 e he ea with h1 | h1 | ⟨b', u', h1, h2, h3⟩
      · cases h1
      · omega
      · have : b' = b := by omega
        subst this
        rw [hv] at h2; cases h2; exact h3
    · rcases h.rng a u hu with h1 | h1
      · have := (hl e he).2.2.2.2.2.1
        omega
      · omega
  · obtain ⟨e, he, e2, p, u, e1, hp1, hu, hn, hs⟩ := h.sup i v hi hv hvt
    exact ⟨e, he, e2, p, u, e1, hp1, hs⟩
end
end Go.Proofs.Ytonkkibnigdfbaa
