/-
  Walks: the reference's Check, CheckTriple, Beats, BeatsTriple.
-/
import Derived.Test.YtibeoiphjkgekaaGreatBag12
import Derived.Test.YtibeoiphjkgekaaGreatCallsPlain
import Derived.Test.YtibeoiphjkgekaaGreatQuiet
namespace Go.Proofs.YtibeoiphjkgekaaGreat
open Go.RowKit B K Go.Shelf
set_option linter.unusedVariables false
set_option linter.unusedSimpArgs false
set_option maxHeartbeats 2000000
def tkE (t : Int) : Int := if 0 ≤ t ∧ t ≤ 1099511627776 then 0 else 9
theorem rt_any (t : Int) (w : World) : Calls Tryz.prog 59 #[.int .i64 t] w fun e w' => e = .returned (.int .i64 (tkE t)) ∧ w' = w := by
  unfold tkE
  by_cases h1 : t < 0
  · have d1 : decide (t < 0) = true := decide_eq_true h1
    rw [if_neg (by omega)]
    go_enter Tryz.func59, Tryz.ntmps59
    go_wp2
    go_returns
    exact ⟨rfl, rfl⟩
  · have d1 : decide (t < 0) = false := decide_eq_false h1
    by_cases h2 : 1099511627776 < t
    · have d2 : decide (1099511627776 < t) = true := decide_eq_true h2
      rw [if_neg (by omega)]
      go_enter Tryz.func59, Tryz.ntmps59
      go_wp2
      go_returns
      exact ⟨rfl, rfl⟩
    · have d2 : decide (1099511627776 < t) = false := decide_eq_false h2
      rw [if_pos (by omega)]
      go_enter Tryz.func59, Tryz.ntmps59
      go_wp2
      go_returns
      exact ⟨rfl, rfl⟩
theorem rChk2_any (a b : Int) (w : World) : Calls Tryz.prog 22 #[.agg #[.int .i64 a, .int .i64 b]] w fun e w' => e = .returned (.int .i64 (chkB (may2 (a, b)))) ∧ Below w.heap.size w w' := by
  have hb : Hid (Below w.heap.size w (w.alloc (.cells #[.int .i64 a, .int .i64 b] 24))) := (Below.refl _ w).alloc (Nat.le_refl _) _
  have hm : may2 (a, b) = decide (0 ≤ a ∧ a ≤ 1099511627776 ∧ 0 ≤ b ∧ b ≤ 16) := rfl
  by_cases h1 : 0 ≤ a ∧ a ≤ 1099511627776
  · have hk : Hid (∀ W, Calls Tryz.prog 59 #[.int .i64 a] W fun e w' => e = .returned (.int .i64 0) ∧ w' = W) := fun W => by
      have := rt_any a W
      unfold tkE at this
      rw [if_pos h1] at this; exact this
    by_cases h2 : b < 0
    · have d2 : decide (b < 0) = true := decide_eq_true h2
      rw [hm, decide_eq_false (by omega)]
      go_enter Tryz.func22, Tryz.ntmps22
      go_wp2_with (go_at_call 59; refine (hk.out _).mono ?_; rintro e w' ⟨rfl, rfl⟩)
      go_returns
      exact ⟨rfl, hb.out⟩
    · have d2 : decide (b < 0) = false := decide_eq_false h2
      by_cases h3 : 16 < b
      · have d3 : decide (16 < b) = true := decide_eq_true h3
        rw [hm, decide_eq_false (by omega)]
        go_enter Tryz.func22, Tryz.ntmps22
        go_wp2_with (go_at_call 59; refine (hk.out _).mono ?_; rintro e w' ⟨rfl, rfl⟩)
        go_returns
        exact ⟨rfl, hb.out⟩
      · have d3 : decide (16 < b) = false := decide_eq_false h3
        rw [hm, decide_eq_true (by omega)]
        go_enter Tryz.func22, Tryz.ntmps22
        go_wp2_with (go_at_call 59; refine (hk.out _).mono ?_; rintro e w' ⟨rfl, rfl⟩)
        go_returns
        exact ⟨rfl, hb.out⟩
  · have hk : Hid (∀ W, Calls Tryz.prog 59 #[.int .i64 a] W fun e w' => e = .returned (.int .i64 9) ∧ w' = W) := fun W => by
      have := rt_any a W
      unfold tkE at this
      rw [if_neg h1] at this; exact this
    rw [hm, decide_eq_false (by omega)]
    go_enter Tryz.func22, Tryz.ntmps22
    go_wp2_with (go_at_call 59; refine (hk.out _).mono ?_; rintro e w' ⟨rfl, rfl⟩)
    go_returns
    exact ⟨rfl, hb.out⟩
theorem rChk3_any (a b c : Int) (w : World) : Calls Tryz.prog 24 #[.agg #[.int .i64 a, .int .i64 b, .int .i64 c]] w fun e w' => e = .returned (.int .i64 (chkB (may3 (a, b, c)))) ∧ Below w.heap.size w w' := by
  have hb : Hid (Below w.heap.size w (w.alloc (.cells #[.int .i64 a, .int .i64 b, .int .i64 c] 27))) := (Below.refl _ w).alloc (Nat.le_refl _) _
  have hm : may3 (a, b, c) = (decide (0 ≤ a ∧ a ≤ 1099511627776 ∧ a ≤ b) && may2 (b, c)) := rfl
  by_cases h1 : 0 ≤ a ∧ a ≤ 1099511627776
  · have hk : Hid (∀ W, Calls Tryz.prog 59 #[.int .i64 a] W fun e w' => e = .returned (.int .i64 0) ∧ w' = W) := fun W => by
      have := rt_any a W
      unfold tkE at this
      rw [if_pos h1] at this; exact this
    by_cases h2 : b < a
    · have d2 : decide (b < a) = true := decide_eq_true h2
      rw [hm, decide_eq_false (by omega)]
      go_enter Tryz.func24, Tryz.ntmps24
      go_wp2_with (go_at_call 59; refine (hk.out _).mono ?_; rintro e w' ⟨rfl, rfl⟩)
      go_returns
      exact ⟨rfl, hb.out⟩
    · have d2 : decide (b < a) = false := decide_eq_false h2
      rw [hm, decide_eq_true (by omega), Bool.true_and]
      go_enter Tryz.func24, Tryz.ntmps24
      go_wp2_with (first | (go_at_call 59; with_reducible refine (hk.out _).mono ?_; rintro e w' ⟨rfl, rfl⟩) | (go_at_call 22; refine (rChk2_any b c _).mono ?_; rintro e w2 ⟨rfl, hb2⟩))
      go_returns
      exact ⟨rfl, hb.out.trans (hb2.mono hb.out.size)⟩
  · have hk : Hid (∀ W, Calls Tryz.prog 59 #[.int .i64 a] W fun e w' => e = .returned (.int .i64 9) ∧ w' = W) := fun W => by
      have := rt_any a W
      unfold tkE at this
      rw [if_neg h1] at this; exact this
    rw [hm, decide_eq_false (by omega)]
    go_enter Tryz.func24, Tryz.ntmps24
    go_wp2_with (go_at_call 59; refine (hk.out _).mono ?_; rintro e w' ⟨rfl, rfl⟩)
    go_returns
    exact ⟨rfl, hb.out⟩
theorem rBt2_any (a b c d : Int) (w : World) : Calls Tryz.prog 18 #[.agg #[.int .i64 a, .int .i64 b], .agg #[.int .i64 c, .int .i64 d]] w fun e w' => e = .returned (.bool (beats2 (a, b) (c, d))) ∧ Below w.heap.size w w' := by
  have hb : Hid (∀ w : World, Below w.heap.size w ((w.alloc (.cells #[.int .i64 a, .int .i64 b] 24)).alloc (.cells #[.int .i64 c, .int .i64 d] 24))) := fun w => ((Below.refl _ _).alloc (Nat.le_refl _) _).alloc (by simp) _
  by_cases h1 : a ≤ c
  · by_cases h2 : b ≤ d
    · by_cases h3 : a = c ∧ b = d
      · obtain ⟨rfl, rfl⟩ := h3
        have hf : Hid (K.beats2 (a, b) (a, b) = false) := ords2.irr _
        go_enter Tryz.func18, Tryz.ntmps18
        go_wp2
        go_returns
        exact ⟨ret_bool hf.out.symm, hb.out w⟩
      · have ht : Hid (K.beats2 (a, b) (c, d) = true) := beats2_iff.2 ⟨h1, h2, by show a ≠ c ∨ b ≠ d; omega⟩
        by_cases h4 : a = c
        · subst h4
          have hn : (b == d) = false := by simp; omega
          go_enter Tryz.func18, Tryz.ntmps18
          go_wp2
          go_returns
          exact ⟨ret_bool ht.out.symm, hb.out w⟩
        · have hn : (a == c) = false := by simp [h4]
          go_enter Tryz.func18, Tryz.ntmps18
          go_wp2
          go_returns
          exact ⟨ret_bool ht.out.symm, hb.out w⟩
    · have hf : Hid (K.beats2 (a, b) (c, d) = false) := bfalse beats2_iff (by show ¬ (a ≤ c ∧ b ≤ d ∧ _); omega)
      have hd : decide (b ≤ d) = false := decide_eq_false h2
      go_enter Tryz.func18, Tryz.ntmps18
      go_wp2
      go_returns
      exact ⟨ret_bool hf.out.symm, hb.out w⟩
  · have hf : Hid (K.beats2 (a, b) (c, d) = false) := bfalse beats2_iff (by show ¬ (a ≤ c ∧ b ≤ d ∧ _); omega)
    have hd : decide (a ≤ c) = false := decide_eq_false h1
    go_enter Tryz.func18, Tryz.ntmps18
    go_wp2
    go_returns
    exact ⟨ret_bool hf.out.symm, hb.out w⟩
theorem rBt3_any (a b c d f g : Int) (w : World) : Calls Tryz.prog 20 #[.agg #[.int .i64 a, .int .i64 b, .int .i64 c], .agg #[.int .i64 d, .int .i64 f, .int .i64 g]] w fun e w' => e = .returned (.bool (beats3 (a, b, c) (d, f, g))) ∧ Below w.heap.size w w' := by
  have hb : Hid (∀ w : World, Below w.heap.size w ((w.alloc (.cells #[.int .i64 a, .int .i64 b, .int .i64 c] 27)).alloc (.cells #[.int .i64 d, .int .i64 f, .int .i64 g] 27))) := fun w => ((Below.refl _ _).alloc (Nat.le_refl _) _).alloc (by simp) _
  obtain ⟨q, hq⟩ : ∃ q, beats3 (a, b, c) (d, f, g) = q := ⟨_, rfl⟩
  have hqh : Hid (q = true ↔ d ≤ a ∧ b ≤ f ∧ c ≤ g ∧ (a ≠ d ∨ b ≠ f ∨ c ≠ g)) := by rw [← hq]; exact beats3_iff
  rw [hq]
  clear hq
  by_cases h1 : d ≤ a
  rotate_left
  · have d1 : decide (d ≤ a) = false := decide_eq_false h1
    obtain rfl : q = false := bfalse hqh.out (by omega)
    go_enter Tryz.func20, Tryz.ntmps20
    go_wp2
    go_returns
    exact ⟨rfl, hb.out w⟩
  have d1 : decide (d ≤ a) = true := decide_eq_true h1
  by_cases h2 : b ≤ f
  rotate_left
  · have d2 : decide (b ≤ f) = false := decide_eq_false h2
    obtain rfl : q = false := bfalse hqh.out (by omega)
    go_enter Tryz.func20, Tryz.ntmps20
    go_wp2
    go_returns
    exact ⟨rfl, hb.out w⟩
  have d2 : decide (b ≤ f) = true := decide_eq_true h2
  by_cases h3 : c ≤ g
  rotate_left
  · have d3 : decide (c ≤ g) = false := decide_eq_false h3
    obtain rfl : q = false := bfalse hqh.out (by omega)
    go_enter Tryz.func20, Tryz.ntmps20
    go_wp2
    go_returns
    exact ⟨rfl, hb.out w⟩
  have d3 : decide (c ≤ g) = true := decide_eq_true h3
  by_cases h4 : a = d
  rotate_left
  · have e4 : (a == d) = false := by simpa using h4
    obtain rfl : q = true := hqh.out.2 ⟨h1, h2, h3, by omega⟩
    go_enter Tryz.func20, Tryz.ntmps20
    go_wp2
    go_returns
    exact ⟨rfl, hb.out w⟩
  subst h4
  by_cases h5 : b = f
  rotate_left
  · have e5 : (b == f) = false := by simpa using h5
    obtain rfl : q = true := hqh.out.2 ⟨h1, h2, h3, by omega⟩
    go_enter Tryz.func20, Tryz.ntmps20
    go_wp2
    go_returns
    exact ⟨rfl, hb.out w⟩
  subst h5
  by_cases h6 : c = g
  rotate_left
  · have e6 : (c == g) = false := by simpa using h6
    obtain rfl : q = true := hqh.out.2 ⟨h1, h2, h3, by omega⟩
    go_enter Tryz.func20, Tryz.ntmps20
    go_wp2
    go_returns
    exact ⟨rfl, hb.out w⟩
  subst h6
  obtain rfl : q = false := bfalse hqh.out (by omega)
  go_enter Tryz.func20, Tryz.ntmps20
  go_wp2
  go_returns
  exact ⟨rfl, hb.out w⟩
end Go.Proofs.YtibeoiphjkgekaaGreat
