/-
  Plain laws: the document's loops (Has, Next, Gap) answer as the plain words do.
-/
import Derived.Test.YtjbhdfjbockkfaaWinPlain2
namespace Go.Proofs.Ytjbhdfjbockkfaa
namespace W
def hasR (x : Int) : Row → Bool
  | [] => false
  | (a, b) :: r => if a ≤ x ∧ x < b then true else hasR x r
def nextR (x : Int) : Row → Int
  | [] => inf
  | (a, b) :: r => if x < b then max x a else nextR x r
def gapR (n : Int) : Int → Row → Int
  | y, [] => y
  | y, (a, b) :: r => if a < y + n ∧ y < b then gapR n b r else gapR n y r
theorem hasR_iff (x : Int) : ∀ l : Row, hasR x l = true ↔ inRow l x := by
  intro l
  induction l with
  | nil => simp only [hasR, Bool.false_eq_true, false_iff]; rintro ⟨i, a, b, h, _⟩; simp at h
  | cons q r ih =>
    obtain ⟨a, b⟩ := q
    unfold hasR
    by_cases h : a ≤ x ∧ x < b
    · rw [if_pos h]; exact ⟨fun _ => ⟨0, a, b, rfl, h.1, h.2⟩, fun _ => rfl⟩
    · rw [if_neg h, ih]
      constructor
      · rintro ⟨i, c, d, h1, h2⟩; exact ⟨i + 1, c, d, by simpa using h1, h2⟩
      · rintro ⟨i, c, d, h1, h2, h3⟩
        cases i with
        | zero => simp at h1; obtain ⟨rfl, rfl⟩ := h1; exact absurd ⟨h2, h3⟩ h
        | succ i => exact ⟨i, c, d, by simpa using h1, h2, h3⟩
theorem has_ref (l : Row) (x : Int) : W.has l x = if asked l x then hasR x l else false := by
  by_cases h : asked l x = true
  · rw [if_pos h, Bool.eq_iff_iff, has_iff (asked_good h) (chk_zero (asked_chk h)), hasR_iff]
  · rw [if_neg h]; unfold has; rw [Bool.not_eq_true] at h; rw [h]; rfl
theorem nextF_ref (x : Int) : ∀ l : Row, nextF l x = nextR x l := by
  intro l
  induction l with
  | nil => rfl
  | cons q r ih =>
    obtain ⟨a, b⟩ := q
    unfold nextR
    by_cases h : x < b
    · rw [if_pos h]; unfold nextF bh; rw [if_neg (by omega)]; rfl
    · rw [if_neg h, ← ih]; unfold nextF; rw [show bh ((a, b) :: r) x = bh r x + 1 from by rw [bh, if_pos (by omega)], List.drop_succ_cons]
theorem next_ref (l : Row) (x : Int) : W.next l x = if asked l x then nextR x l else inf := by unfold next; rw [nextF_ref]
theorem gapR_stop (n : Int) : ∀ (l : Row) (p y : Int), goodF p l = true → y + n ≤ p → gapR n y l = y := by
  intro l
  induction l with
  | nil => intro p y _ _; rfl
  | cons q r ih =>
    obtain ⟨a, b⟩ := q
    intro p y h hy
    obtain ⟨h1, h2, h3, h4⟩ := goodF_cons h
    unfold gapR
    rw [if_neg (by omega)]
    exact ih b y h4 (by omega)
theorem gapR_eq (n : Int) (hn : 1 ≤ n) : ∀ (l : Row) (p y : Int), goodF p l = true → y ≤ p → gapR n y l = gapF n y l := by
  intro l
  induction l with
  | nil => intro p y _ _; rfl
  | cons q r ih =>
    obtain ⟨a, b⟩ := q
    intro p y h hy
    obtain ⟨h1, h2, h3, h4⟩ := goodF_cons h
    unfold gapR gapF
    by_cases hc : y + n ≤ a
    · rw [if_neg (by omega), if_pos hc]; exact gapR_stop n r b y h4 (by omega)
    · rw [if_pos (by omega), if_neg hc]; exact ih b b h4 (by omega)
theorem gapR_bh (n : Int) (hn : 1 ≤ n) : ∀ (l : Row) (p x : Int), goodF p l = true → gapR n x l = gapF n x (l.drop (bh l x)) := by
  intro l
  induction l with
  | nil => intro p x _; rfl
  | cons q r ih =>
    obtain ⟨a, b⟩ := q
    intro p x h
    obtain ⟨h1, h2, h3, h4⟩ := goodF_cons h
    by_cases hb : b ≤ x
    · rw [show bh ((a, b) :: r) x = bh r x + 1 from by rw [bh, if_pos hb], List.drop_succ_cons, ← ih b x h4]
      unfold gapR
      rw [if_neg (by omega)]
      cases r <;> rfl
    · rw [show bh ((a, b) :: r) x = 0 from by rw [bh, if_neg hb], List.drop_zero]
      unfold gapR gapF
      by_cases hc : x + n ≤ a
      · rw [if_neg (by omega), if_pos hc]; exact gapR_stop n r b x h4 (by omega)
      · rw [if_pos (by omega), if_neg hc]; exact gapR_eq n hn r b b h4 (by omega)
theorem gap_ref (l : Row) (x n : Int) : W.gap l x n = if asked l x = true ∧ chk n = 0 then (if 0 < n then gapR n x l else x) else inf := by
  unfold gap
  by_cases h : asked l x = true ∧ chk n = 0
  · rw [if_pos h, if_pos h]
    have := chk_zero h.2
    by_cases hn : n = 0
    · rw [if_pos hn, if_neg (by omega)]
    · rw [if_neg hn, if_pos (by omega), gapR_bh n (by omega) l (-1) x (asked_good h.1)]
  · rw [if_neg h, if_neg h]
end W
end Go.Proofs.Ytjbhdfjbockkfaa
