/-
  Plain laws of the window layer: what Next, Free and Gap find. No program is named here.
-/
import Derived.Test.YtjbhdfjbockkfaaWinPlain
namespace Go.Proofs.Ytjbhdfjbockkfaa
namespace W
def inRow (l : Row) (y : Int) : Prop := ∃ (i : Nat) (a b : Int), l[i]? = some (a, b) ∧ a ≤ y ∧ y < b
theorem bh_before (l : Row) (x : Int) : ∀ (i : Nat) (a b : Int), i < bh l x → l[i]? = some (a, b) → b ≤ x := by
  induction l with
  | nil => intro i a b _ h; simp at h
  | cons q r ih =>
    obtain ⟨qa, qb⟩ := q
    intro i a b hi h
    unfold bh at hi
    split at hi
    · cases i with
      | zero => simp at h; obtain ⟨rfl, rfl⟩ := h; assumption
      | succ i => exact ih i a b (by omega) (by simpa using h)
    · omega
theorem nextF_cases (l : Row) (x : Int) : (bh l x = l.length ∧ nextF l x = inf) ∨ ∃ a b, l[bh l x]? = some (a, b) ∧ x < b ∧ nextF l x = max x a := by
  unfold nextF
  rcases Nat.lt_or_ge (bh l x) l.length with h | h
  · right
    obtain ⟨⟨a, b⟩, hp⟩ : ∃ p, l[bh l x]? = some p := ⟨_, List.getElem?_eq_getElem h⟩
    refine ⟨a, b, hp, bh_at l x a b hp, ?_⟩
    rw [show l.drop (bh l x) = (a, b) :: l.drop (bh l x + 1) from by
      obtain ⟨hlt, he⟩ := List.getElem?_eq_some_iff.1 hp
      rw [← he]; exact List.drop_eq_getElem_cons hlt]
  · left
    have := bh_le l x
    exact ⟨by omega, by rw [List.drop_eq_nil_of_le h]⟩
theorem asked_of {l : Row} {x : Int} (hg : good l = true) (hx : 0 ≤ x ∧ x ≤ 1099511627776) : asked l x = true := by
  unfold asked; rw [hg, chk_ok hx]; rfl
theorem has_iff {l : Row} {y : Int} (hg : good l = true) (hy : 0 ≤ y ∧ y ≤ 1099511627776) : has l y = true ↔ inRow l y := by
  unfold has next
  rw [asked_of hg hy]
  simp only [Bool.true_and, decide_eq_true_eq, if_true]
  constructor
  · intro h
    rcases nextF_cases l y with ⟨_, h2⟩ | ⟨a, b, h1, h2, h3⟩
    · rw [h2] at h; unfold inf at h; omega
    · exact ⟨_, a, b, h1, by omega, h2⟩
  · rintro ⟨i, a, b, h1, h2, h3⟩
    have hb : bh l y = i := by
      refine bh_eq l y i ?_ ?_ ?_
      · have := (List.getElem?_eq_some_iff.1 h1).1; omega
      · intro k a' b' hk hka
        have := good_rise l _ hg k i a' b' a b hk hka h1; omega
      · intro a' b' h; rw [h1] at h; cases h; exact h3
    rcases nextF_cases l y with ⟨h4, _⟩ | ⟨a', b', h4, _, h5⟩
    · rw [hb] at h4; have := (List.getElem?_eq_some_iff.1 h1).1; omega
    · rw [hb, h1] at h4; cases h4; omega
theorem has_false {l : Row} {y : Int} (hg : good l = true) (hy : 0 ≤ y ∧ y ≤ 1099511627776) (h : ¬ inRow l y) : has l y = false := by
  cases hh : has l y
  · rfl
  · exact absurd ((has_iff hg hy).1 hh) h
theorem next_eq {l : Row} {x : Int} (hg : good l = true) (hx : 0 ≤ x ∧ x ≤ 1099511627776) : next l x = nextF l x := by unfold next; rw [asked_of hg hx]; rfl
theorem next_ge {l : Row} {x : Int} (hg : good l = true) (hx : 0 ≤ x ∧ x ≤ 1099511627776) : x ≤ next l x := by
  rw [next_eq hg hx]
  rcases nextF_cases l x with ⟨_, h⟩ | ⟨a, b, _, _, h⟩ <;> rw [h]
  · unfold inf; omega
  · omega
theorem next_has {l : Row} {x : Int} (hg : good l = true) (hx : 0 ≤ x ∧ x ≤ 1099511627776) (h : next l x ≤ 1099511627776) : has l (next l x) = true := by
  have hge := next_ge hg hx
  refine (has_iff hg ⟨by omega, h⟩).2 ?_
  rw [next_eq hg hx] at *
  rcases nextF_cases l x with ⟨_, h1⟩ | ⟨a, b, h1, h2, h3⟩
  · rw [h1] at h; unfold inf at h; omega
  · have := (goodF_bounds l _ hg _ _ _ h1).2.1
    exact ⟨_, a, b, h1, by omega, by omega⟩
theorem next_least {l : Row} {x y : Int} (hg : good l = true) (hx : 0 ≤ x ∧ x ≤ 1099511627776) (hxy : x ≤ y) (h : inRow l y) : next l x ≤ y := by
  rw [next_eq hg hx]
  obtain ⟨i, a, b, h1, h2, h3⟩ := h
  have hi : bh l x ≤ i := by
    rcases Nat.lt_or_ge i (bh l x) with hlt | hge
    · have := bh_before l x i a b hlt h1; omega
    · exact hge
  rcases nextF_cases l x with ⟨h4, _⟩ | ⟨a', b', h4, _, h5⟩
  · have := (List.getElem?_eq_some_iff.1 h1).1; omega
  · rw [h5]
    rcases Nat.lt_or_eq_of_le hi with hlt | heq
    · have := good_rise l _ hg _ _ _ _ _ _ hlt h4 h1
      have := (goodF_bounds l _ hg _ _ _ h4).2.1
      omega
    · rw [heq, h1] at h4; cases h4; omega
/-- what gapF finds in windows that end behind x -/
theorem gapF_spec (n : Int) : ∀ (r : Row) (p x : Int), goodF p r = true → (∀ (i : Nat) (a b : Int), r[i]? = some (a, b) → x < b) →
    x ≤ gapF n x r ∧ (∀ (i : Nat) (a b : Int), r[i]? = some (a, b) → ¬ (a < gapF n x r + n ∧ gapF n x r < b)) ∧
    (∀ y, x ≤ y → y < gapF n x r → ∃ (i : Nat) (a b : Int), r[i]? = some (a, b) ∧ a < y + n ∧ y < b) ∧ (gapF n x r = x ∨ gapF n x r ≤ 2199023255552) := by
  intro r
  induction r with
  | nil => intro p x _ _; simp only [gapF]; exact ⟨Int.le_refl _, fun i a b h => by simp at h, fun y h1 h2 => by omega, .inl trivial⟩
  | cons q r ih =>
    obtain ⟨a, b⟩ := q
    intro p x hg hb
    obtain ⟨g1, g2, g3, g4⟩ := goodF_cons hg
    have hxb := hb 0 a b (by simp)
    have hrb : ∀ (i : Nat) (a' b' : Int), r[i]? = some (a', b') → b < a' ∧ b < b' := fun i a' b' h => by
      have := goodF_bounds r b g4 i a' b' h; omega
    simp only [gapF]
    split
    · refine ⟨Int.le_refl _, fun i a' b' h => ?_, fun y h1 h2 => by omega, .inl rfl⟩
      cases i with
      | zero => simp at h; obtain ⟨rfl, rfl⟩ := h; omega
      | succ i => have := hrb i a' b' (by simpa using h); omega
    · obtain ⟨i1, i2, i3, i4⟩ := ih b b g4 (fun i a' b' h => (hrb i a' b' h).2)
      refine ⟨by omega, fun i a' b' h => ?_, fun y h1 h2 => ?_, by right; omega⟩
      · cases i with
        | zero => simp at h; obtain ⟨rfl, rfl⟩ := h; omega
        | succ i => exact i2 i a' b' (by simpa using h)
      · rcases Int.lt_or_le y b with hyb | hyb
        · exact ⟨0, a, b, by simp, by omega, hyb⟩
        · obtain ⟨i, a', b', h3, h4, h5⟩ := i3 y hyb h2
          exact ⟨i + 1, a', b', by simpa using h3, h4, h5⟩
theorem goodF_drop : ∀ (l : Row) (p : Int) (k : Nat), goodF p l = true → ∃ p', goodF p' (l.drop k) = true := by
  intro l
  induction l with
  | nil => intro p k h; exact ⟨p, by simpa using h⟩
  | cons q r ih =>
    intro p k h
    obtain ⟨a, b⟩ := q
    cases k with
    | zero => exact ⟨p, by simpa using h⟩
    | succ k => exact ih b k (goodF_cons h).2.2.2
theorem gap_spec {l : Row} {x n : Int} (hg : good l = true) (hx : 0 ≤ x ∧ x ≤ 1099511627776) (hn : 1 ≤ n ∧ n ≤ 1099511627776) :
    x ≤ gap l x n ∧ (∀ (i : Nat) (a b : Int), l[i]? = some (a, b) → ¬ (a < gap l x n + n ∧ gap l x n < b)) ∧
    (∀ y, x ≤ y → y < gap l x n → ∃ (i : Nat) (a b : Int), l[i]? = some (a, b) ∧ a < y + n ∧ y < b) ∧ gap l x n ≤ 2199023255552 := by
  have he : gap l x n = gapF n x (l.drop (bh l x)) := by
    unfold gap; rw [if_pos ⟨asked_of hg hx, chk_ok ⟨by omega, hn.2⟩⟩, if_neg (by omega)]
  rw [he]
  obtain ⟨p', hp'⟩ := goodF_drop l _ (bh l x) hg
  have hbd : ∀ (i : Nat) (a b : Int), (l.drop (bh l x))[i]? = some (a, b) → x < b := fun i a b h => by
    rw [List.getElem?_drop] at h
    rcases Nat.eq_zero_or_pos i with h0 | h0
    · rw [h0, Nat.add_zero] at h; exact bh_at l x a b h
    · have hlt := (List.getElem?_eq_some_iff.1 h).1
      obtain ⟨⟨a0, b0⟩, hp⟩ : ∃ p, l[bh l x]? = some p := ⟨_, List.getElem?_eq_getElem (by omega)⟩
      have h1 := bh_at l x a0 b0 hp
      have h2 := good_rise l _ hg _ _ _ _ _ _ (by omega : bh l x < bh l x + i) hp h
      have h3 := (goodF_bounds l _ hg _ _ _ h).2.1
      omega
  obtain ⟨s1, s2, s3, s4⟩ := gapF_spec n _ p' x hp' hbd
  refine ⟨s1, fun i a b h => ?_, fun y h1 h2 => ?_, ?_⟩
  · rcases Nat.lt_or_ge i (bh l x) with hlt | hge
    · have := bh_before l x i a b hlt h; omega
    · exact s2 (i - bh l x) a b (by rw [List.getElem?_drop, show bh l x + (i - bh l x) = i by omega]; exact h)
  · obtain ⟨i, a, b, h3, h4⟩ := s3 y h1 h2
    exact ⟨bh l x + i, a, b, by rw [← List.getElem?_drop]; exact h3, h4⟩
  · rcases s4 with s4 | s4 <;> omega
/-- does one of the windows meet the m ticks from y on? -/
def ownF (y m : Int) (l : Row) : Bool := l.any fun p => decide (p.1 < y + m) && decide (y < p.2)
theorem ownF_snoc (y m a b : Int) (l : Row) : ownF y m (l ++ [(a, b)]) = (ownF y m l || (decide (a < y + m) && decide (y < b))) := by simp [ownF]
theorem ownF_yes {y m : Int} {l : Row} (h : ∃ (i : Nat) (a b : Int), l[i]? = some (a, b) ∧ a < y + m ∧ y < b) : ownF y m l = true := by
  obtain ⟨i, a, b, h1, h2, h3⟩ := h
  unfold ownF
  rw [List.any_eq_true]
  exact ⟨(a, b), List.mem_of_getElem? h1, by simp [h2, h3]⟩
theorem free_not {l : Row} {x : Int} (hg : good l = true) (hx : 0 ≤ x ∧ x ≤ 1099511627776) : ¬ inRow l (free l x) := by
  rintro ⟨i, a, b, h1, h2, h3⟩
  exact (gap_spec hg hx (n := 1) (by omega)).2.1 i a b h1 ⟨by unfold free at h2; omega, h3⟩
theorem free_least {l : Row} {x y : Int} (hg : good l = true) (hx : 0 ≤ x ∧ x ≤ 1099511627776) (hxy : x ≤ y) (h : ¬ inRow l y) : free l x ≤ y := by
  rcases Int.lt_or_le y (free l x) with hlt | hge
  · obtain ⟨i, a, b, h1, h2, h3⟩ := (gap_spec hg hx (n := 1) (by omega)).2.2.1 y hxy hlt
    exact absurd ⟨i, a, b, h1, by omega, h3⟩ h
  · exact hge
theorem free_le_gap {l : Row} {x n : Int} (hg : good l = true) (hx : 0 ≤ x ∧ x ≤ 1099511627776) (hn : 1 ≤ n ∧ n ≤ 1099511627776) : free l x ≤ gap l x n := by
  obtain ⟨s1, s2, _⟩ := gap_spec hg hx hn
  refine free_least hg hx s1 ?_
  rintro ⟨i, a, b, h1, h2, h3⟩
  exact s2 i a b h1 ⟨by omega, h3⟩
end W
end Go.Proofs.Ytjbhdfjbockkfaa
