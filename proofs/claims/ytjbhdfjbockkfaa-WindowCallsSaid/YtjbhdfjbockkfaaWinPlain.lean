/-
  Plain words of the window layer: good rows, sums, what is asked of a row. No program is named here.
-/
import Derived.Lib.Hide
namespace Go.Proofs.Ytjbhdfjbockkfaa
namespace W
abbrev Row := List (Int × Int)
def chk (x : Int) : Int := if 0 ≤ x ∧ x ≤ 1099511627776 then 0 else 9
theorem chk_ok {x : Int} (h : 0 ≤ x ∧ x ≤ 1099511627776) : chk x = 0 := if_pos h
theorem chk_no {x : Int} (h : ¬ (0 ≤ x ∧ x ≤ 1099511627776)) : chk x = 9 := if_neg h
theorem chk_zero {x : Int} (h : chk x = 0) : 0 ≤ x ∧ x ≤ 1099511627776 := by
  unfold chk at h; split at h
  · assumption
  · omega
theorem chk_cases (x : Int) : chk x = 0 ∨ chk x = 9 := by unfold chk; split <;> simp
def inf : Int := 4611686018427387904
def goodF : Int → Row → Bool
  | _, [] => true
  | p, (a, b) :: r => if a ≤ p ∨ b ≤ a ∨ 2199023255552 < b then false else goodF b r
def good (l : Row) : Bool := goodF (-1) l
theorem goodF_yes {p a b : Int} {r : Row} (h1 : p < a) (h2 : a < b) (h3 : b ≤ 2199023255552) : goodF p ((a, b) :: r) = goodF b r := by
  rw [goodF, if_neg (by omega)]
theorem goodF_no {p a b : Int} {r : Row} (h : a ≤ p ∨ b ≤ a ∨ 2199023255552 < b) : goodF p ((a, b) :: r) = false := by
  rw [goodF, if_pos h]
theorem goodF_cons {p a b : Int} {r : Row} (h : goodF p ((a, b) :: r) = true) : p < a ∧ a < b ∧ b ≤ 2199023255552 ∧ goodF b r = true := by
  unfold goodF at h; split at h
  · cases h
  · exact ⟨by omega, by omega, by omega, h⟩
def sumF : Row → Int
  | [] => 0
  | (a, b) :: r => (b - a) + sumF r
def sum (l : Row) : Int := if good l then sumF l else 0
def bh : Row → Int → Nat
  | [], _ => 0
  | (_, b) :: r, x => if b ≤ x then bh r x + 1 else 0
def asked (l : Row) (x : Int) : Bool := decide (chk x = 0) && good l
def nextF (l : Row) (x : Int) : Int := match l.drop (bh l x) with | [] => inf | p :: _ => max x p.1
def next (l : Row) (x : Int) : Int := if asked l x then nextF l x else inf
def has (l : Row) (x : Int) : Bool := asked l x && decide (next l x = x)
def gapF (n : Int) : Int → Row → Int
  | x, [] => x
  | x, (a, b) :: r => if x + n ≤ a then x else gapF n b r
def gap (l : Row) (x n : Int) : Int := if asked l x = true ∧ chk n = 0 then (if n = 0 then x else gapF n x (l.drop (bh l x))) else inf
def free (l : Row) (x : Int) : Int := gap l x 1
theorem bh_le (l : Row) (x : Int) : bh l x ≤ l.length := by
  induction l with
  | nil => simp [bh]
  | cons p r ih => obtain ⟨a, b⟩ := p; unfold bh; split <;> simp; exact ih
theorem goodF_bounds : ∀ (l : Row) (p : Int), goodF p l = true → ∀ (i : Nat) (a b : Int), l[i]? = some (a, b) → p < a ∧ a < b ∧ b ≤ 2199023255552 := by
  intro l
  induction l with
  | nil => intro p _ i a b h; simp at h
  | cons q r ih =>
    intro p h i a b hi
    obtain ⟨qa, qb⟩ := q
    obtain ⟨h1, h2, h3, h4⟩ := goodF_cons h
    cases i with
    | zero => simp at hi; obtain ⟨rfl, rfl⟩ := hi; exact ⟨h1, h2, h3⟩
    | succ i => have := ih qb h4 i a b (by simpa using hi); exact ⟨by omega, this.2⟩
/-- in a good row the ends rise -/
theorem good_rise : ∀ (l : Row) (p : Int), goodF p l = true → ∀ (i j : Nat) (a b a' b' : Int), i < j → l[i]? = some (a, b) → l[j]? = some (a', b') → b < a' := by
  intro l
  induction l with
  | nil => intro p _ i j a b a' b' _ h; simp at h
  | cons q r ih =>
    intro p h i j a b a' b' hij hi hj
    obtain ⟨qa, qb⟩ := q
    obtain ⟨h1, h2, h3, h4⟩ := goodF_cons h
    obtain ⟨j, rfl⟩ : ∃ j', j = j' + 1 := ⟨j - 1, by omega⟩
    cases i with
    | zero =>
      simp at hi hj; obtain ⟨rfl, rfl⟩ := hi
      exact (goodF_bounds r qb h4 j a' b' hj).1
    | succ i => exact ih qb h4 i j a b a' b' (by omega) (by simpa using hi) (by simpa using hj)
/-- the first window behind x, by what stands at its left and at its right -/
theorem bh_eq : ∀ (l : Row) (x : Int) (i : Nat), i ≤ l.length → (∀ (k : Nat) (a b : Int), k < i → l[k]? = some (a, b) → b ≤ x) → (∀ (a b : Int), l[i]? = some (a, b) → x < b) → bh l x = i := by
  intro l
  induction l with
  | nil => intro x i hi _ _; simp at hi; simp [bh, hi]
  | cons q r ih =>
    intro x i hi h1 h2
    obtain ⟨qa, qb⟩ := q
    cases i with
    | zero => have := h2 qa qb (by simp); unfold bh; rw [if_neg (by omega)]
    | succ i =>
      have := h1 0 qa qb (by omega) (by simp)
      unfold bh; rw [if_pos this, ih x i (by simpa using hi) (fun k a b hk hka => h1 (k + 1) a b (by omega) (by simpa using hka)) (fun a b hab => h2 a b (by simpa using hab))]
theorem bh_at (l : Row) (x : Int) : ∀ (a b : Int), l[bh l x]? = some (a, b) → x < b := by
  induction l with
  | nil => intro a b h; simp at h
  | cons q r ih =>
    obtain ⟨qa, qb⟩ := q
    intro a b h
    unfold bh at h
    split at h
    · exact ih a b (by simpa using h)
    · simp at h; obtain ⟨rfl, rfl⟩ := h; omega
theorem sumF_bounds : ∀ (l : Row) (p : Int), goodF p l = true → -1 ≤ p → p ≤ 2199023255552 → 0 ≤ sumF l ∧ sumF l ≤ 2199023255552 - p := by
  intro l
  induction l with
  | nil => intro p _ _ _; simp only [sumF]; omega
  | cons q r ih =>
    intro p h h0 h1
    obtain ⟨a, b⟩ := q
    obtain ⟨g1, g2, g3, g4⟩ := goodF_cons h
    have := ih b g4 (by omega) (by omega)
    simp only [sumF]; omega
def count (f e u : Int) : Int := if chk f = 0 ∧ chk e = 0 ∧ chk u = 0 ∧ f ≤ u then (if e = 0 then 1 else (u - f) / e + 1) else 0
def chkT (f e n : Int) : Int := if chk f ≠ 0 ∨ n < 1 ∨ 1099511627776 < n ∨ (e ≠ 0 ∧ (e < n ∨ 1099511627776 < e)) then 2 else 0
theorem asked_good {l : Row} {x : Int} (h : asked l x = true) : good l = true := by
  unfold asked at h; rw [Bool.and_eq_true] at h; exact h.2
theorem asked_chk {l : Row} {x : Int} (h : asked l x = true) : chk x = 0 := by
  unfold asked at h; rw [Bool.and_eq_true] at h; exact of_decide_eq_true h.1
/-- windows that overlap or touch are one: a row built from the left -/
def joinStep (acc : Row) (w : Int × Int) : Row := match acc.getLast? with | some q => if w.1 ≤ q.2 then acc.dropLast ++ [(q.1, max q.2 w.2)] else acc ++ [w] | none => [w]
def joinL (l : Row) : Row := l.foldl joinStep []
theorem joinStep_nil (w : Int × Int) : joinStep [] w = [w] := rfl
theorem joinStep_in (i : Row) (q w : Int × Int) (h : w.1 ≤ q.2) : joinStep (i ++ [q]) w = i ++ [(q.1, max q.2 w.2)] := by simp [joinStep, h]
theorem joinStep_out (i : Row) (q w : Int × Int) (h : q.2 < w.1) : joinStep (i ++ [q]) w = i ++ [q] ++ [w] := by
  have : ¬ w.1 ≤ q.2 := by omega
  simp [joinStep, this]
theorem joinStep_len (acc : Row) (w : Int × Int) : (joinStep acc w).length ≤ acc.length + 1 := by
  rcases List.eq_nil_or_concat acc with rfl | ⟨i, q, rfl⟩
  · simp [joinStep]
  · rw [List.concat_eq_append]
    by_cases h : w.1 ≤ q.2
    · rw [joinStep_in _ _ _ h]; simp
    · rw [joinStep_out _ _ _ (by omega)]; simp
theorem joinL_snoc (l : Row) (w : Int × Int) : joinL (l ++ [w]) = joinStep (joinL l) w := by simp [joinL]
theorem joinF_len : ∀ (l acc : Row), (l.foldl joinStep acc).length ≤ acc.length + l.length := by
  intro l
  induction l with
  | nil => intro acc; simp
  | cons w r ih => intro acc; have := ih (joinStep acc w); have := joinStep_len acc w; simp only [List.foldl_cons, List.length_cons]; omega
theorem joinL_len (l : Row) : (joinL l).length ≤ l.length := by have := joinF_len l []; simpa [joinL] using this
end W
end Go.Proofs.Ytjbhdfjbockkfaa
