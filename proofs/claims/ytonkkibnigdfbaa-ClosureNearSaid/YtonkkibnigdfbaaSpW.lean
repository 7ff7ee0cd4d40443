/-
  Texts of one chain, merged.
-/
import Derived.Lib.Hide
import Derived.Test.YtonkkibnigdfbaaProg
import Derived.Test.YtonkkibnigdfbaaSpB
import Derived.Handy
import Derived.BigQuiet
import Derived.Deep.QuietTactic
namespace Go.Proofs.Ytonkkibnigdfbaa
namespace W
abbrev Row := List (Int × Int)
def chk (x : Int) : Int := if 0 ≤ x ∧ x ≤ 1099511627776 then 0 else 9
theorem chk_ok {x : Int} (h : 0 ≤ x ∧ x ≤ 1099511627776) : chk x = 0 := if_pos h
theorem chk_no {x : Int} (h : ¬ (0 ≤ x ∧ x ≤ 1099511627776)) : chk x = 9 := if_neg h
theorem chk_zero {x : Int} (h : chk x = 0) : 0 ≤ x ∧ x ≤ 1099511627776 := by
  unfold chk at h; split at h
  · assumption
  · omega
theorem chk_cases (x : Int) : chk x = 0 ∨ chk x = 9 := by unfold chk; split <;> simp
def inf : Int := 4611686018427387904
def goodF : Int → Row → Bool
  | _, [] => true
  | p, (a, b) :: r => if a ≤ p ∨ b ≤ a ∨ 2199023255552 < b then false else goodF b r
def good (l : Row) : Bool := goodF (-1) l
theorem goodF_yes {p a b : Int} {r : Row} (h1 : p < a) (h2 : a < b) (h3 : b ≤ 2199023255552) : goodF p ((a, b) :: r) = goodF b r := by
  rw [goodF, if_neg (by omega)]
theorem goodF_no {p a b : Int} {r : Row} (h : a ≤ p ∨ b ≤ a ∨ 2199023255552 < b) : goodF p ((a, b) :: r) = false := by
  rw [goodF, if_pos h]
theorem goodF_cons {p a b : Int} {r : Row} (h : goodF p ((a, b) :: r) = true) : p < a ∧ a < b ∧ b ≤ 2199023255552 ∧ goodF b r = true := by
  unfold goodF at h; split at h
  · cases h
  · exact ⟨by omega, by omega, by omega, h⟩
def sumF : Row → Int
  | [] => 0
  | (a, b) :: r => (b - a) + sumF r
def sum (l : Row) : Int := if good l then sumF l else 0
def bh : Row → Int → Nat
  | [], _ => 0
  | (_, b) :: r, x => if b ≤ x then bh r x + 1 else 0
def asked (l : Row) (x : Int) : Bool := decide (chk x = 0) && good l
def nextF (l : Row) (x : Int) : Int := match l.drop (bh l x) with | [] => inf | p :: _ => max x p.1
def next (l : Row) (x : Int) : Int := if asked l x then nextF l x else inf
def has (l : Row) (x : Int) : Bool := asked l x && decide (next l x = x)
def gapF (n : Int) : Int → Row → Int
  | x, [] => x
  | x, (a, b) :: r => if x + n ≤ a then x else gapF n b r
def gap (l : Row) (x n : Int) : Int := if asked l x = true ∧ chk n = 0 then (if n = 0 then x else gapF n x (l.drop (bh l x))) else inf
def free (l : Row) (x : Int) : Int := gap l x 1
theorem bh_le (l : Row) (x : Int) : bh l x ≤ l.length := by
  induction l with
  | nil => simp [bh]
  | cons p r ih => obtain ⟨a, b⟩ := p; unfold bh; split <;> simp; exact ih
theorem goodF_bounds : ∀ (l : Row) (p : Int), goodF p l = true → ∀ (i : Nat) (a b : Int), l[i]? = some (a, b) → p < a ∧ a < b ∧ b ≤ 2199023255552 := by
  intro l
  induction l with
  | nil => intro p _ i a b h; simp at h
  | cons q r ih =>
    intro p h i a b hi
    obtain ⟨qa, qb⟩ := q
    obtain ⟨h1, h2, h3, h4⟩ := goodF_cons h
    cases i with
    | zero => simp at hi; obtain ⟨rfl, rfl⟩ := hi; exact ⟨h1, h2, h3⟩
    | succ i => have := ih qb h4 i a b (by simpa using hi); exact ⟨by omega, this.2⟩
/-- in a good row the ends rise -/
theorem good_rise : ∀ (l : Row) (p : Int), goodF p l = true → ∀ (i j : Nat) (a b a' b' : Int), i < j → l[i]? = some (a, b) → l[j]? = some (a', b') → b < a' := by
  intro l
  induction l with
  | nil => intro p _ i j a b a' b' _ h; simp at h
  | cons q r ih =>
    intro p h i j a b a' b' hij hi hj
    obtain ⟨qa, qb⟩ := q
    obtain ⟨h1, h2, h3, h4⟩ := goodF_cons h
    obtain ⟨j, rfl⟩ : ∃ j', j = j' + 1 := ⟨j - 1, by omega⟩
    cases i with
    | zero =>
      simp at hi hj; obtain ⟨rfl, rfl⟩ := hi
      exact (goodF_bounds r qb h4 j a' b' hj).1
    | succ i => exact ih qb h4 i j a b a' b' (by omega) (by simpa using hi) (by simpa using hj)
/-- the first window behind x, by what stands at its left and at its right -/
theorem bh_eq : ∀ (l : Row) (x : Int) (i : Nat), i ≤ l.length → (∀ (k : Nat) (a b : Int), k < i → l[k]? = some (a, b) → b ≤ x) → (∀ (a b : Int), l[i]? = some (a, b) → x < b) → bh l x = i := by
  intro l
  induction l with
  | nil => intro x i hi _ _; simp at hi; simp [bh, hi]
  | cons q r ih =>
    intro x i hi h1 h2
    obtain ⟨qa, qb⟩ := q
    cases i with
    | zero => have := h2 qa qb (by simp); unfold bh; rw [if_neg (by omega)]
    | succ i =>
      have := h1 0 qa qb (by omega) (by simp)
      unfold bh; rw [if_pos this, ih x i (by simpa using hi) (fun k a b hk hka => h1 (k + 1) a b (by omega) (by simpa using hka)) (fun a b hab => h2 a b (by simpa using hab))]
theorem bh_at (l : Row) (x : Int) : ∀ (a b : Int), l[bh l x]? = some (a, b) → x < b := by
  induction l with
  | nil => intro a b h; simp at h
  | cons q r ih =>
    obtain ⟨qa, qb⟩ := q
    intro a b h
    unfold bh at h
    split at h
    · exact ih a b (by simpa using h)
    · simp at h; obtain ⟨rfl, rfl⟩ := h; omega
theorem sumF_bounds : ∀ (l : Row) (p : Int), goodF p l = true → -1 ≤ p → p ≤ 2199023255552 → 0 ≤ sumF l ∧ sumF l ≤ 2199023255552 - p := by
  intro l
  induction l with
  | nil => intro p _ _ _; simp only [sumF]; omega
  | cons q r ih =>
    intro p h h0 h1
    obtain ⟨a, b⟩ := q
    obtain ⟨g1, g2, g3, g4⟩ := goodF_cons h
    have := ih b g4 (by omega) (by omega)
    simp only [sumF]; omega
def count (f e u : Int) : Int := if chk f = 0 ∧ chk e = 0 ∧ chk u = 0 ∧ f ≤ u then (if e = 0 then 1 else (u - f) / e + 1) else 0
def chkT (f e n : Int) : Int := if chk f ≠ 0 ∨ n < 1 ∨ 1099511627776 < n ∨ (e ≠ 0 ∧ (e < n ∨ 1099511627776 < e)) then 2 else 0
theorem asked_good {l : Row} {x : Int} (h : asked l x = true) : good l = true := by
  unfold asked at h; rw [Bool.and_eq_true] at h; exact h.2
theorem asked_chk {l : Row} {x : Int} (h : asked l x = true) : chk x = 0 := by
  unfold asked at h; rw [Bool.and_eq_true] at h; exact of_decide_eq_true h.1
/-- windows that overlap or touch are one: a row built from the left -/
def joinStep (acc : Row) (w : Int × Int) : Row := match acc.getLast? with | some q => if w.1 ≤ q.2 then acc.dropLast ++ [(q.1, max q.2 w.2)] else acc ++ [w] | none => [w]
def joinL (l : Row) : Row := l.foldl joinStep []
theorem joinStep_nil (w : Int × Int) : joinStep [] w = [w] := rfl
theorem joinStep_in (i : Row) (q w : Int × Int) (h : w.1 ≤ q.2) : joinStep (i ++ [q]) w = i ++ [(q.1, max q.2 w.2)] := by simp [joinStep, h]
theorem joinStep_out (i : Row) (q w : Int × Int) (h : q.2 < w.1) : joinStep (i ++ [q]) w = i ++ [q] ++ [w] := by
  have : ¬ w.1 ≤ q.2 := by omega
  simp [joinStep, this]
theorem joinStep_len (acc : Row) (w : Int × Int) : (joinStep acc w).length ≤ acc.length + 1 := by
  rcases List.eq_nil_or_concat acc with rfl | ⟨i, q, rfl⟩
  · simp [joinStep]
  · rw [List.concat_eq_append]
    by_cases h : w.1 ≤ q.2
    · rw [joinStep_in _ _ _ h]; simp
    · rw [joinStep_out _ _ _ (by omega)]; simp
theorem joinL_snoc (l : Row) (w : Int × Int) : joinL (l ++ [w]) = joinStep (joinL l) w := by simp [joinL]
theorem joinF_len : ∀ (l acc : Row), (l.foldl joinStep acc).length ≤ acc.length + l.length := by
  intro l
  induction l with
  | nil => intro acc; simp
  | cons w r ih => intro acc; have := ih (joinStep acc w); have := joinStep_len acc w; simp only [List.foldl_cons, List.length_cons]; omega
theorem joinL_len (l : Row) : (joinL l).length ≤ l.length := by have := joinF_len l []; simpa [joinL] using this
end W
end Go.Proofs.Ytonkkibnigdfbaa
namespace Go.Proofs.Ytonkkibnigdfbaa
namespace W
def inRow (l : Row) (y : Int) : Prop := ∃ (i : Nat) (a b : Int), l[i]? = some (a, b) ∧ a ≤ y ∧ y < b
theorem bh_before (l : Row) (x : Int) : ∀ (i : Nat) (a b : Int), i < bh l x → l[i]? = some (a, b) → b ≤ x := by
  induction l with
  | nil => intro i a b _ h; simp at h
  | cons q r ih =>
    obtain ⟨qa, qb⟩ := q
    intro i a b hi h
    unfold bh at hi
    split at hi
    · cases i with
      | zero => simp at h; obtain ⟨rfl, rfl⟩ := h; assumption
      | succ i => exact ih i a b (by omega) (by simpa using h)
    · omega
theorem nextF_cases (l : Row) (x : Int) : (bh l x = l.length ∧ nextF l x = inf) ∨ ∃ a b, l[bh l x]? = some (a, b) ∧ x < b ∧ nextF l x = max x a := by
  unfold nextF
  rcases Nat.lt_or_ge (bh l x) l.length with h | h
  · right
    obtain ⟨⟨a, b⟩, hp⟩ : ∃ p, l[bh l x]? = some p := ⟨_, List.getElem?_eq_getElem h⟩
    refine ⟨a, b, hp, bh_at l x a b hp, ?_⟩
    rw [show l.drop (bh l x) = (a, b) :: l.drop (bh l x + 1) from by
      obtain ⟨hlt, he⟩ := List.getElem?_eq_some_iff.1 hp
      rw [← he]; exact List.drop_eq_getElem_cons hlt]
  · left
    have := bh_le l x
    exact ⟨by omega, by rw [List.drop_eq_nil_of_le h]⟩
theorem asked_of {l : Row} {x : Int} (hg : good l = true) (hx : 0 ≤ x ∧ x ≤ 1099511627776) : asked l x = true := by
  unfold asked; rw [hg, chk_ok hx]; rfl
theorem has_iff {l : Row} {y : Int} (hg : good l = true) (hy : 0 ≤ y ∧ y ≤ 1099511627776) : has l y = true ↔ inRow l y := by
  unfold has next
  rw [asked_of hg hy]
  simp only [Bool.true_and, decide_eq_true_eq, if_true]
  constructor
  · intro h
    rcases nextF_cases l y with ⟨_, h2⟩ | ⟨a, b, h1, h2, h3⟩
    · rw [h2] at h; unfold inf at h; omega
    · exact ⟨_, a, b, h1, by omega, h2⟩
  · rintro ⟨i, a, b, h1, h2, h3⟩
    have hb : bh l y = i := by
      refine bh_eq l y i ?_ ?_ ?_
      · have := (List.getElem?_eq_some_iff.1 h1).1; omega
      · intro k a' b' hk hka
        have := good_rise l _ hg k i a' b' a b hk hka h1; omega
      · intro a' b' h; rw [h1] at h; cases h; exact h3
    rcases nextF_cases l y with ⟨h4, _⟩ | ⟨a', b', h4, _, h5⟩
    · rw [hb] at h4; have := (List.getElem?_eq_some_iff.1 h1).1; omega
    · rw [hb, h1] at h4; cases h4; omega
theorem has_false {l : Row} {y : Int} (hg : good l = true) (hy : 0 ≤ y ∧ y ≤ 1099511627776) (h : ¬ inRow l y) : has l y = false := by
  cases hh : has l y
  · rfl
  · exact absurd ((has_iff hg hy).1 hh) h
theorem next_eq {l : Row} {x : Int} (hg : good l = true) (hx : 0 ≤ x ∧ x ≤ 1099511627776) : next l x = nextF l x := by unfold next; rw [asked_of hg hx]; rfl
theorem next_ge {l : Row} {x : Int} (hg : good l = true) (hx : 0 ≤ x ∧ x ≤ 1099511627776) : x ≤ next l x := by
  rw [next_eq hg hx]
  rcases nextF_cases l x with ⟨_, h⟩ | ⟨a, b, _, _, h⟩ <;> rw [h]
  · unfold inf; omega
  · omega
theorem next_has {l : Row} {x : Int} (hg : good l = true) (hx : 0 ≤ x ∧ x ≤ 1099511627776) (h : next l x ≤ 1099511627776) : has l (next l x) = true := by
  have hge := next_ge hg hx
  refine (has_iff hg ⟨by omega, h⟩).2 ?_
  rw [next_eq hg hx] at *
  rcases nextF_cases l x with ⟨_, h1⟩ | ⟨a, b, h1, h2, h3⟩
  · rw [h1] at h; unfold inf at h; omega
  · have := (goodF_bounds l _ hg _ _ _ h1).2.1
    exact ⟨_, a, b, h1, by omega, by omega⟩
theorem next_least {l : Row} {x y : Int} (hg : good l = true) (hx : 0 ≤ x ∧ x ≤ 1099511627776) (hxy : x ≤ y) (h : inRow l y) : next l x ≤ y := by
  rw [next_eq hg hx]
  obtain ⟨i, a, b, h1, h2, h3⟩ := h
  have hi : bh l x ≤ i := by
    rcases Nat.lt_or_ge i (bh l x) with hlt | hge
    · have := bh_before l x i a b hlt h1; omega
    · exact hge
  rcases nextF_cases l x with ⟨h4, _⟩ | ⟨a', b', h4, _, h5⟩
  · have := (List.getElem?_eq_some_iff.1 h1).1; omega
  · rw [h5]
    rcases Nat.lt_or_eq_of_le hi with hlt | heq
    · have := good_rise l _ hg _ _ _ _ _ _ hlt h4 h1
      have := (goodF_bounds l _ hg _ _ _ h4).2.1
      omega
    · rw [heq, h1] at h4; cases h4; omega
/-- what gapF finds in windows that end behind x -/
theorem gapF_spec (n : Int) : ∀ (r : Row) (p x : Int), goodF p r = true → (∀ (i : Nat) (a b : Int), r[i]? = some (a, b) → x < b) →
    x ≤ gapF n x r ∧ (∀ (i : Nat) (a b : Int), r[i]? = some (a, b) → ¬ (a < gapF n x r + n ∧ gapF n x r < b)) ∧
    (∀ y, x ≤ y → y < gapF n x r → ∃ (i : Nat) (a b : Int), r[i]? = some (a, b) ∧ a < y + n ∧ y < b) ∧ (gapF n x r = x ∨ gapF n x r ≤ 2199023255552) := by
  intro r
  induction r with
  | nil => intro p x _ _; simp only [gapF]; exact ⟨Int.le_refl _, fun i a b h => by simp at h, fun y h1 h2 => by omega, .inl trivial⟩
  | cons q r ih =>
    obtain ⟨a, b⟩ := q
    intro p x hg hb
    obtain ⟨g1, g2, g3, g4⟩ := goodF_cons hg
    have hxb := hb 0 a b (by simp)
    have hrb : ∀ (i : Nat) (a' b' : Int), r[i]? = some (a', b') → b < a' ∧ b < b' := fun i a' b' h => by
      have := goodF_bounds r b g4 i a' b' h; omega
    simp only [gapF]
    split
    · refine ⟨Int.le_refl _, fun i a' b' h => ?_, fun y h1 h2 => by omega, .inl rfl⟩
      cases i with
      | zero => simp at h; obtain ⟨rfl, rfl⟩ := h; omega
      | succ i => have := hrb i a' b' (by simpa using h); omega
    · obtain ⟨i1, i2, i3, i4⟩ := ih b b g4 (fun i a' b' h => (hrb i a' b' h).2)
      refine ⟨by omega, fun i a' b' h => ?_, fun y h1 h2 => ?_, by right; omega⟩
      · cases i with
        | zero => simp at h; obtain ⟨rfl, rfl⟩ := h; omega
        | succ i => exact i2 i a' b' (by simpa using h)
      · rcases Int.lt_or_le y b with hyb | hyb
        · exact ⟨0, a, b, by simp, by omega, hyb⟩
        · obtain ⟨i, a', b', h3, h4, h5⟩ := i3 y hyb h2
          exact ⟨i + 1, a', b', by simpa using h3, h4, h5⟩
theorem goodF_drop : ∀ (l : Row) (p : Int) (k : Nat), goodF p l = true → ∃ p', goodF p' (l.drop k) = true := by
  intro l
  induction l with
  | nil => intro p k h; exact ⟨p, by simpa using h⟩
  | cons q r ih =>
    intro p k h
    obtain ⟨a, b⟩ := q
    cases k with
    | zero => exact ⟨p, by simpa using h⟩
    | succ k => exact ih b k (goodF_cons h).2.2.2
theorem gap_spec {l : Row} {x n : Int} (hg : good l = true) (hx : 0 ≤ x ∧ x ≤ 1099511627776) (hn : 1 ≤ n ∧ n ≤ 1099511627776) :
    x ≤ gap l x n ∧ (∀ (i : Nat) (a b : Int), l[i]? = some (a, b) → ¬ (a < gap l x n + n ∧ gap l x n < b)) ∧
    (∀ y, x ≤ y → y < gap l x n → ∃ (i : Nat) (a b : Int), l[i]? = some (a, b) ∧ a < y + n ∧ y < b) ∧ gap l x n ≤ 2199023255552 := by
  have he : gap l x n = gapF n x (l.drop (bh l x)) := by
    unfold gap; rw [if_pos ⟨asked_of hg hx, chk_ok ⟨by omega, hn.2⟩⟩, if_neg (by omega)]
  rw [he]
  obtain ⟨p', hp'⟩ := goodF_drop l _ (bh l x) hg
  have hbd : ∀ (i : Nat) (a b : Int), (l.drop (bh l x))[i]? = some (a, b) → x < b := fun i a b h => by
    rw [List.getElem?_drop] at h
    rcases Nat.eq_zero_or_pos i with h0 | h0
    · rw [h0, Nat.add_zero] at h; exact bh_at l x a b h
    · have hlt := (List.getElem?_eq_some_iff.1 h).1
      obtain ⟨⟨a0, b0⟩, hp⟩ : ∃ p, l[bh l x]? = some p := ⟨_, List.getElem?_eq_getElem (by omega)⟩
      have h1 := bh_at l x a0 b0 hp
      have h2 := good_rise l _ hg _ _ _ _ _ _ (by omega : bh l x < bh l x + i) hp h
      have h3 := (goodF_bounds l _ hg _ _ _ h).2.1
      omega
  obtain ⟨s1, s2, s3, s4⟩ := gapF_spec n _ p' x hp' hbd
  refine ⟨s1, fun i a b h => ?_, fun y h1 h2 => ?_, ?_⟩
  · rcases Nat.lt_or_ge i (bh l x) with hlt | hge
    · have := bh_before l x i a b hlt h; omega
    · exact s2 (i - bh l x) a b (by rw [List.getElem?_drop, show bh l x + (i - bh l x) = i by omega]; exact h)
  · obtain ⟨i, a, b, h3, h4⟩ := s3 y h1 h2
    exact ⟨bh l x + i, a, b, by rw [← List.getElem?_drop]; exact h3, h4⟩
  · rcases s4 with s4 | s4 <;> omega
/-- does one of the windows meet the m ticks from y on? -/
def ownF (y m : Int) (l : Row) : Bool := l.any fun p => decide (p.1 < y + m) && decide (y < p.2)
theorem ownF_snoc (y m a b : Int) (l : Row) : ownF y m (l ++ [(a, b)]) = (ownF y m l || (decide (a < y + m) && decide (y < b))) := by simp [ownF]
theorem ownF_yes {y m : Int} {l : Row} (h : ∃ (i : Nat) (a b : Int), l[i]? = some (a, b) ∧ a < y + m ∧ y < b) : ownF y m l = true := by
  obtain ⟨i, a, b, h1, h2, h3⟩ := h
  unfold ownF
  rw [List.any_eq_true]
  exact ⟨(a, b), List.mem_of_getElem? h1, by simp [h2, h3]⟩
theorem free_not {l : Row} {x : Int} (hg : good l = true) (hx : 0 ≤ x ∧ x ≤ 1099511627776) : ¬ inRow l (free l x) := by
  rintro ⟨i, a, b, h1, h2, h3⟩
  exact (gap_spec hg hx (n := 1) (by omega)).2.1 i a b h1 ⟨by unfold free at h2; omega, h3⟩
theorem free_least {l : Row} {x y : Int} (hg : good l = true) (hx : 0 ≤ x ∧ x ≤ 1099511627776) (hxy : x ≤ y) (h : ¬ inRow l y) : free l x ≤ y := by
  rcases Int.lt_or_le y (free l x) with hlt | hge
  · obtain ⟨i, a, b, h1, h2, h3⟩ := (gap_spec hg hx (n := 1) (by omega)).2.2.1 y hxy hlt
    exact absurd ⟨i, a, b, h1, by omega, h3⟩ h
  · exact hge
theorem free_le_gap {l : Row} {x n : Int} (hg : good l = true) (hx : 0 ≤ x ∧ x ≤ 1099511627776) (hn : 1 ≤ n ∧ n ≤ 1099511627776) : free l x ≤ gap l x n := by
  obtain ⟨s1, s2, _⟩ := gap_spec hg hx hn
  refine free_least hg hx s1 ?_
  rintro ⟨i, a, b, h1, h2, h3⟩
  exact s2 i a b h1 ⟨by omega, h3⟩
end W
end Go.Proofs.Ytonkkibnigdfbaa
namespace Go.Proofs.Ytonkkibnigdfbaa
open Go.RowKit B
set_option maxHeartbeats 400000
theorem cut_wins (A : Option Addr) (n c k : Nat) (hk : k ≤ n) (W : World) :
    (Instr.slice 36 (.slice A n c) (some (.int .i64 (k : Int))) none none).run Try.prog W = .ok (.slice (cutA A c k 2) (n - k) (c - k)) W :=
  run_cut Try.underlying36 (by kernel_rfl) (fun W => by simp [go_sem]) A n c k hk .i64 W
theorem withinW_any (lo x hi : Int) (w : World) :
    Calls Try.prog 98 #[.int .i64 lo, .int .i64 x, .int .i64 hi] w fun e w' => e = .returned (.bool (decide (lo ≤ x ∧ x ≤ hi))) ∧ w = w' := by
  go_enter Try.func98, Try.ntmps98
  go_wp2
  all_goals go_returns
  · refine ⟨?_, rfl⟩; congr; symm; simp; omega
  · refine ⟨?_, rfl⟩; congr 2; simp; omega
theorem tcheckW_any (x : Int) (w : World) :
    Calls Try.prog 76 #[.int .i64 x] w fun e w' => e = .returned (.int .i64 (W.chk x)) ∧ w = w' := by
  go_enter Try.func76, Try.ntmps76
  by_cases h : 0 ≤ x ∧ x ≤ 1099511627776
  · have hd : decide (0 ≤ x ∧ x ≤ 1099511627776) = true := by simpa using h
    go_wp2_with (go_at_call 98; refine (withinW_any _ _ _ _).mono ?_; rintro e w' ⟨rfl, rfl⟩)
    go_returns
    exact ⟨ret_int (W.chk_ok h).symm, rfl⟩
  · have hd : decide (0 ≤ x ∧ x ≤ 1099511627776) = false := by simpa using h
    go_wp2_with (go_at_call 98; refine (withinW_any _ _ _ _).mono ?_; rintro e w' ⟨rfl, rfl⟩)
    go_returns
    exact ⟨ret_int (W.chk_no h).symm, rfl⟩
theorem good_any (A : Option Addr) (n c : Nat) (l : W.Row) (w : World) (hr : Rd w 2 pairE A n l) (hn : n ≤ 9223372036854775807) :
    Calls Try.prog 75 #[.slice A n c] w fun e w' => e = .returned (.bool (W.good l)) ∧ Below w.heap.size w w' := by
  go_enter Try.func75, Try.ntmps75
  go_wp2
  go_loopw [3, 8] (fun p i wr => ∃ (k : Nat) (x : Int), k ≤ n ∧ i = .int .i64 k ∧ p = .int .i64 x ∧ Below w.heap.size w wr ∧ Hid (W.good l = W.goodF x (l.drop k))) (fun _ i _ => n - (intOf i).toNat)
  case atStart => exact ⟨0, -1, Nat.zero_le _, rfl, rfl, Below.refl _ _, rfl⟩
  case round =>
    obtain ⟨k, x, hk, rfl, rfl, hb, hg⟩ := hrel
    by_cases hlt : k < n
    · obtain ⟨b, o, p, q, rfl, hbs, hl, h1, h2⟩ := (hr.below hb).pair hlt
      have hd := Lib.hid (drop_at hl); clear hl
      by_cases hok : x < p ∧ p < q ∧ q ≤ 2199023255552
      · obtain ⟨hx1, hx2, hx3⟩ := hok
        go_wp2
        go_roundw
        case rel => exact ⟨k + 1, q, by omega, by go_num, rfl, hb.alloc hb.size _, by show _ = _; rw [hg.out, hd.out]; exact W.goodF_yes hx1 hx2 hx3⟩
        case measure => simp [intOf]; omega
      · go_wp2
        all_goals
          go_returns
          exact ⟨ret_bool (by rw [hg.out, hd.out, W.goodF_no (by omega)]), hb.alloc hb.size _⟩
    · go_wp2
      go_returns
      refine ⟨ret_bool ?_, hb⟩
      rw [hg.out, List.drop_eq_nil_of_le (by rw [hr.len]; omega)]; rfl
theorem asked_any (A : Option Addr) (n c : Nat) (l : W.Row) (x : Int) (w : World) (hr : Rd w 2 pairE A n l) (hn : n ≤ 9223372036854775807) :
    Calls Try.prog 142 #[.slice A n c, .int .i64 x] w fun e w' => e = .returned (.bool (W.asked l x)) ∧ Below w.heap.size w w' := by
  go_enter Try.func142, Try.ntmps142
  rcases W.chk_cases x with h | h
  · go_wp2_with (first | (go_at_call 76; refine (tcheckW_any _ _).mono ?_; rintro e w' ⟨rfl, rfl⟩) | (go_at_call 75; refine (good_any A n c l _ hr hn).mono ?_; rintro e w' ⟨rfl, hb⟩))
    go_returns
    exact ⟨ret_bool (by simp [W.asked, h]), hb⟩
  · go_wp2_with (first | (go_at_call 76; refine (tcheckW_any _ _).mono ?_; rintro e w' ⟨rfl, rfl⟩) | (go_at_call 75; refine (good_any A n c l _ hr hn).mono ?_; rintro e w' ⟨rfl, hb⟩))
    go_returns
    exact ⟨ret_bool (by simp [W.asked, h]), Below.refl _ _⟩
end Go.Proofs.Ytonkkibnigdfbaa
namespace Go.Proofs.Ytonkkibnigdfbaa
open Go.RowKit B
set_option maxHeartbeats 400000
def cmpW (b x : Int) : Int := if b ≤ x then -1 else 1
theorem cmpW_le {b x : Int} (h : b ≤ x) : cmpW b x = -1 := if_pos h
theorem cmpW_gt {b x : Int} (h : x < b) : cmpW b x = 1 := if_neg (by omega)
theorem behindc_any (a b x : Int) (w : World) :
    Calls Try.prog 146 #[.agg #[.int .i64 a, .int .i64 b], .int .i64 x] w fun e w' => e = .returned (.int .i64 (cmpW b x)) ∧ Below w.heap.size w w' := by
  go_enter Try.func146, Try.ntmps146
  go_wp2
  all_goals
    go_returns
    exact ⟨ret_int (by first | rw [cmpW_le (by omega)] | rw [cmpW_gt (by omega)]), (Below.refl _ _).alloc (Nat.le_refl _) _⟩
theorem bsf_any (A : Option Addr) (n c : Nat) (l : W.Row) (x : Int) (w : World) (hr : Rd w 2 pairE A n l) (hn : n ≤ 1099511627776) (hg : W.good l = true) :
    Calls Try.prog 145 #[.slice A n c, .int .i64 x, .func (.func 146) #[] #[]] w fun e w' => e = .returned (.tuple #[.int .i64 (W.bh l x), .bool false]) ∧ Below w.heap.size w w' := by
  have hgd := Lib.hid (show W.goodF (-1) l = true from hg)
  clear hg
  go_enter Try.func145, Try.ntmps145
  go_wp2
  go_loopw [9, 10] (fun p q wr => ∃ (i j : Nat), i ≤ j ∧ j ≤ n ∧ p = .int .i64 i ∧ q = .int .i64 j ∧ Below w.heap.size w wr ∧
    Hid (∀ (k : Nat) (a b : Int), k < i → l[k]? = some (a, b) → b ≤ x) ∧ Hid (∀ (k : Nat) (a b : Int), j ≤ k → l[k]? = some (a, b) → x < b)) (fun p q _ => (intOf q).toNat - (intOf p).toNat)
  case atStart => exact ⟨0, n, Nat.zero_le _, Nat.le_refl _, rfl, rfl, Below.refl _ _, fun k a b h => absurd h (by omega), fun k a b h hk => by rw [List.getElem?_eq_none (by rw [hr.len]; exact h)] at hk; cases hk⟩
  case round =>
    obtain ⟨i, j, hij, hj, rfl, rfl, hb, h1, h2⟩ := hrel
    by_cases hlt : i < j
    · have hm : (i + j) / 2 < n := by omega
      obtain ⟨b, o, p, q, rfl, hbs, hl, hc1, hc2⟩ := (hr.below hb).pair hm
      have hl := Lib.hid hl
      by_cases hq : q ≤ x
      · have hcm := cmpW_le hq
        go_wp2_with (go_at_call 146; refine (behindc_any _ _ _ _).mono ?_; rintro e w' ⟨rfl, hb2⟩)
        go_roundw
        case rel =>
          refine ⟨(i + j) / 2 + 1, j, by omega, hj, by go_num, rfl, hb.trans (hb2.mono hb.size), fun k a b hk hka => ?_, h2⟩
          rcases Nat.lt_or_ge k ((i + j) / 2) with h | h
          · exact Int.le_trans (Int.le_of_lt (Int.lt_trans (W.good_rise l _ hgd.out k _ a b _ _ h hka hl.out) (W.goodF_bounds l _ hgd.out _ _ _ hl.out).2.1)) hq
          · obtain rfl : k = (i + j) / 2 := by omega
            have := hl.out
            rw [hka] at this; cases this; exact hq
        case measure => simp [intOf]; omega
      · have hcm := cmpW_gt (b := q) (x := x) (by omega)
        go_wp2_with (go_at_call 146; refine (behindc_any _ _ _ _).mono ?_; rintro e w' ⟨rfl, hb2⟩)
        go_roundw
        case rel =>
          refine ⟨i, (i + j) / 2, by omega, by omega, rfl, by go_num, hb.trans (hb2.mono hb.size), h1, fun k a b hk hka => ?_⟩
          rcases Nat.lt_or_ge ((i + j) / 2) k with h | h
          · exact Int.lt_trans (Int.lt_trans (by omega) (W.good_rise l _ hgd.out _ k _ _ a b h hl.out hka)) (W.goodF_bounds l _ hgd.out _ _ _ hka).2.1
          · obtain rfl : k = (i + j) / 2 := by omega
            have := hl.out
            rw [hka] at this; cases this; omega
        case measure => simp [intOf]; omega
    · obtain rfl : i = j := by omega
      have hbh : Hid (W.bh l x = i) := W.bh_eq l x i (by rw [hr.len]; exact hj) h1.out (fun a b h => h2.out i a b (Nat.le_refl _) h)
      by_cases hin : i < n
      · obtain ⟨b, o, p, q, rfl, hbs, hl, hc1, hc2⟩ := (hr.below hb).pair hin
        have hcm := cmpW_gt (b := q) (x := x) (h2.out i p q (Nat.le_refl _) hl)
        clear hl
        go_wp2_with (go_at_call 146; refine (behindc_any _ _ _ _).mono ?_; rintro e w' ⟨rfl, hb2⟩)
        go_ret2
        exact ⟨by rw [hbh.out]; rfl, hb.trans (hb2.mono hb.size)⟩
      · go_wp2_with (go_at_call 146; refine (behindc_any _ _ _ _).mono ?_; rintro e w' ⟨rfl, hb2⟩)
        go_ret2
        exact ⟨by rw [hbh.out]; rfl, hb⟩
theorem behind_any (A : Option Addr) (n c : Nat) (l : W.Row) (x : Int) (w : World) (hr : Rd w 2 pairE A n l) (hn : n ≤ 1099511627776) (hg : W.good l = true) :
    Calls Try.prog 143 #[.slice A n c, .int .i64 x] w fun e w' => e = .returned (.int .i64 (W.bh l x)) ∧ Below w.heap.size w w' := by
  go_enter Try.func143, Try.ntmps143
  go_wp2_with (go_at_call 145; refine (bsf_any A n c l x _ hr hn hg).mono ?_; rintro e w' ⟨rfl, hb⟩)
  go_returns
  exact ⟨rfl, hb⟩
theorem next_any (A : Option Addr) (n c : Nat) (l : W.Row) (x : Int) (w : World) (hr : Rd w 2 pairE A n l) (hn : n ≤ 1099511627776) :
    Calls Try.prog 131 #[.slice A n c, .int .i64 x] w fun e w' => e = .returned (.int .i64 (W.next l x)) ∧ Below w.heap.size w w' := by
  go_enter Try.func131, Try.ntmps131
  cases ha : W.asked l x
  · have hf : Hid (W.next l x = 4611686018427387904) := by show _ = _; unfold W.next; rw [ha]; rfl
    go_wp2_with (go_at_call 142; refine (asked_any A n c l x _ hr (by omega)).mono ?_; rintro e w' ⟨rfl, hb⟩)
    go_returns
    exact ⟨ret_int hf.out.symm, hb⟩
  · have hg : W.good l = true := W.asked_good ha
    have hf : Hid (W.next l x = W.nextF l x) := by show _ = _; unfold W.next; rw [ha]; rfl
    have hle := W.bh_le l x
    rw [hr.len] at hle
    go_wp2_with fail
    refine (asked_any A n c l x _ hr (by omega)).mono ?_; rintro e w1 ⟨rfl, hb⟩
    go_wp2_with fail
    refine (behind_any A n c l x _ (hr.below hb) (by omega) hg).mono ?_; rintro e w2 ⟨rfl, hb2⟩
    by_cases hlt : W.bh l x < n
    · obtain ⟨b, o, p, q, rfl, hbs, hl, hc1, hc2⟩ := ((hr.below hb).below hb2).pair hlt
      have hf2 : Hid (W.next l x = max x p) := by show _ = _; rw [hf.out]; unfold W.nextF; rw [drop_at hl]
      clear hl
      have hne : ((W.bh l x : Int) == (n : Int)) = false := by simp; omega
      go_wp2_with fail
      all_goals
        go_returns
        exact ⟨ret_int (by rw [hf2.out]; try omega), hb.trans (hb2.mono hb.size)⟩
    · have heq : ((W.bh l x : Int) == (n : Int)) = true := by simp; omega
      have hf2 : Hid (W.next l x = 4611686018427387904) := by
        show _ = _; rw [hf.out]; unfold W.nextF; rw [List.drop_eq_nil_of_le (by rw [hr.len]; omega)]; rfl
      go_wp2_with fail
      go_returns
      exact ⟨ret_int hf2.out.symm, hb.trans (hb2.mono hb.size)⟩
theorem gap_any (A : Option Addr) (n c : Nat) (l : W.Row) (x m : Int) (w : World) (hr : Rd w 2 pairE A n l) (hn : n ≤ 1099511627776) (hc : n ≤ c) (hc2 : c ≤ 9223372036854775807) :
    Calls Try.prog 133 #[.slice A n c, .int .i64 x, .int .i64 m] w fun e w' => e = .returned (.int .i64 (W.gap l x m)) ∧ Below w.heap.size w w' := by
  go_enter Try.func133, Try.ntmps133
  cases ha : W.asked l x
  · have hf : Hid (W.gap l x m = 4611686018427387904) := by show _ = _; unfold W.gap; rw [ha, if_neg (by simp)]; rfl
    go_wp2_with fail
    refine (asked_any A n c l x _ hr (by omega)).mono ?_; rintro e w1 ⟨rfl, hb⟩
    go_wp2_with fail
    go_returns
    exact ⟨ret_int hf.out.symm, hb⟩
  · rcases W.chk_cases m with h | h
    · have hf : Hid (W.gap l x m = if m = 0 then x else W.gapF m x (l.drop (W.bh l x))) := by show _ = _; unfold W.gap; rw [ha, if_pos ⟨rfl, h⟩]
      have hm := W.chk_zero h
      have hx := W.chk_zero (W.asked_chk ha)
      have hg := Lib.hid (W.asked_good ha)
      go_wp2_with fail
      refine (asked_any A n c l x _ hr (by omega)).mono ?_; rintro e w1 ⟨rfl, hb⟩
      go_wp2_with fail
      refine (tcheckW_any _ _).mono ?_; rintro e w2 ⟨rfl, rfl⟩
      by_cases h0 : m = 0
      · subst h0
        go_wp2_with fail
        go_returns
        exact ⟨ret_int (by rw [hf.out]; simp), hb⟩
      · have hm0 : (m == 0) = false := by simp [h0]
        have hf2 : Hid (W.gap l x m = W.gapF m x (l.drop (W.bh l x))) := by show _ = _; rw [hf.out, if_neg h0]
        have hle := W.bh_le l x
        rw [hr.len] at hle
        go_wp2_with fail
        refine (behind_any A n c l x _ (hr.below hb) (by omega) hg.out).mono ?_; rintro e w2 ⟨rfl, hb2⟩
        have hr3 := ((hr.below hb).below hb2).drop hle hc
        have hcut := cut_wins A n c (W.bh l x) hle
        go_wp2_with fail
        clear hcut
        obtain ⟨A', hA'⟩ : ∃ A', cutA A c (W.bh l x) 2 = A' := ⟨_, rfl⟩
        rw [hA'] at hr3 ⊢
        obtain ⟨l', hl'⟩ : ∃ l', l.drop (W.bh l x) = l' := ⟨_, rfl⟩
        rw [hl'] at hr3 hf2
        have hgl := W.goodF_bounds l _ hg.out
        have hgd : Hid (∀ (i : Nat) (a b : Int), l'[i]? = some (a, b) → -1 < a ∧ a < b ∧ b ≤ 2199023255552) := fun i a b h => hgl (W.bh l x + i) a b (by rw [← hl', List.getElem?_drop] at h; exact h)
        obtain ⟨n', hn'⟩ : ∃ n', n - W.bh l x = n' := ⟨_, rfl⟩
        have hn2 : n' ≤ n := by omega
        rw [hn'] at hr3 ⊢
        have hb3 := hb.trans (hb2.mono hb.size)
        clear hgl hl' hA' hn' hle hb hb2
        go_loopw [1, 27] (fun p i wr => ∃ (k : Nat) (y : Int), k ≤ n' ∧ i = .int .i64 k ∧ p = .int .i64 y ∧ 0 ≤ y ∧ y ≤ 2199023255552 ∧ Below w.heap.size w wr ∧ Below w2.heap.size w2 wr ∧ Hid (W.gap l x m = W.gapF m y (l'.drop k))) (fun _ i _ => n' - (intOf i).toNat)
        case atStart => exact ⟨0, x, Nat.zero_le _, rfl, rfl, hx.1, by omega, hb3, Below.refl _ _, hf2⟩
        case round =>
          obtain ⟨k, y, hk, rfl, rfl, hy0, hy1, hb, hbb, hs⟩ := hrel
          by_cases hlt : k < n'
          · obtain ⟨b, o, p, q, rfl, hbs, hl, h1, h2⟩ := (hr3.below hbb).pair hlt
            have hd := Lib.hid (drop_at hl)
            have hpq := hgd.out _ _ _ hl
            clear hl
            by_cases hst : y + m ≤ p
            · go_wp2_with fail
              go_returns
              exact ⟨ret_int (by rw [hs.out, hd.out, W.gapF, if_pos hst]), hb.alloc hb.size _⟩
            · go_wp2_with fail
              go_roundw
              case rel => exact ⟨k + 1, q, by omega, by go_num, rfl, by omega, by omega, hb.alloc hb.size _, hbb.alloc hbb.size _, by show _ = _; rw [hs.out, hd.out, W.gapF, if_neg hst]⟩
              case measure => simp [intOf]; omega
          · go_wp2_with fail
            go_returns
            exact ⟨ret_int (by rw [hs.out, List.drop_eq_nil_of_le (by rw [hr3.len]; omega), W.gapF]), hb⟩
    · have hf : Hid (W.gap l x m = 4611686018427387904) := by show _ = _; unfold W.gap; rw [if_neg (by omega)]; rfl
      go_wp2_with fail
      refine (asked_any A n c l x _ hr (by omega)).mono ?_; rintro e w1 ⟨rfl, hb⟩
      go_wp2_with fail
      refine (tcheckW_any _ _).mono ?_; rintro e w2 ⟨rfl, rfl⟩
      go_wp2_with fail
      go_returns
      exact ⟨ret_int hf.out.symm, hb⟩
theorem free_any (A : Option Addr) (n c : Nat) (l : W.Row) (x : Int) (w : World) (hr : Rd w 2 pairE A n l) (hn : n ≤ 1099511627776) (hc : n ≤ c) (hc2 : c ≤ 9223372036854775807) :
    Calls Try.prog 129 #[.slice A n c, .int .i64 x] w fun e w' => e = .returned (.int .i64 (W.free l x)) ∧ Below w.heap.size w w' := by
  go_enter Try.func129, Try.ntmps129
  go_wp2_with fail
  refine (gap_any A n c l x 1 _ hr hn hc hc2).mono ?_; rintro e w1 ⟨rfl, hb⟩
  go_wp2_with fail
  go_returns
  exact ⟨rfl, hb⟩
end Go.Proofs.Ytonkkibnigdfbaa
