/-
  Plain laws: the windows of times have just the ticks that are told by remainder.
-/
import Derived.Test.YtjbhdfjbockkfaaWin4
import Derived.Test.YtjbhdfjbockkfaaWinPlain3
namespace Go.Proofs.Ytjbhdfjbockkfaa
open W
theorem srt_of_at : ∀ (l : Row) (p : Int), (∀ (i : Nat) (a b : Int), l[i]? = some (a, b) → p ≤ a ∧ 0 ≤ a ∧ a < b ∧ b ≤ 2199023255552) →
    (∀ (i : Nat) (a b a' b' : Int), l[i]? = some (a, b) → l[i + 1]? = some (a', b') → a ≤ a') → srt p l := by
  intro l
  induction l with
  | nil => intro p _ _; trivial
  | cons q r ih =>
    obtain ⟨a, b⟩ := q
    intro p h1 h2
    obtain ⟨g1, g2, g3, g4⟩ := h1 0 a b rfl
    have hr : ∀ (i : Nat) (c d : Int), r[i]? = some (c, d) → a ≤ c := by
      intro i
      induction i with
      | zero => intro c d hc; exact h2 0 a b c d rfl (by simpa using hc)
      | succ i ihi =>
        intro c d hc
        obtain ⟨⟨c', d'⟩, hc'⟩ : ∃ q, r[i]? = some q := ⟨_, List.getElem?_eq_getElem (by have := (List.getElem?_eq_some_iff.1 hc).1; omega)⟩
        have := h2 (i + 1) c' d' c d (by simpa using hc') (by simpa using hc)
        have := ihi c' d' hc'
        omega
    refine ⟨g1, g2, g3, g4, ih a (fun i c d hc => ?_) (fun i c d c' d' hc hd => h2 (i + 1) c d c' d' (by simpa using hc) (by simpa using hd))⟩
    have := h1 (i + 1) c d (by simpa using hc)
    exact ⟨hr i c d hc, this.2⟩
/-- what is in the windows of times, by remainder -/
def inT (f v n h x : Int) : Bool :=
  if x < f ∨ h < f then false else if v = 0 then decide (x < f + n) else if h < f + (x - f) / v * v then decide (x < f + (h - f) / v * v + n) else decide (x < f + (x - f) / v * v + n)
theorem chkT_parts {f v n : Int} (h : W.chkT f v n = 0) : (0 ≤ f ∧ f ≤ 1099511627776) ∧ (1 ≤ n ∧ n ≤ 1099511627776) ∧ (v = 0 ∨ (n ≤ v ∧ v ≤ 1099511627776)) := by
  unfold W.chkT at h
  split at h
  · cases h
  · rename_i h0
    have h1 := W.chk_zero (x := f) (by omega)
    exact ⟨h1, by omega, by omega⟩
theorem winsM_ok {f v n h : Int} (hz : (winsM f v n h).2 = 0) : W.chkT f v n = 0 ∧ W.chk h = 0 ∧ W.count f v h ≤ 256 ∧ (winsM f v n h).1 = W.joinL (eachL f v n (W.count f v h).toNat) := by
  have h9 : ∀ x, W.chk x ≠ 0 → W.chk x = 9 := fun x hx => (W.chk_cases x).resolve_left hx
  unfold winsM at hz ⊢
  by_cases h1 : W.chkT f v n ≠ 0
  · rw [if_pos h1] at hz; exact absurd hz h1
  · rw [if_neg h1] at hz ⊢
    by_cases h2 : W.chk h ≠ 0
    · rw [if_pos h2] at hz; exact absurd hz h2
    · rw [if_neg h2] at hz ⊢
      by_cases h3 : 256 < W.count f v h
      · rw [if_pos h3] at hz; simp at hz
      · rw [if_neg h3]; exact ⟨by simpa using h1, by simpa using h2, by omega, rfl⟩
theorem winsM_no {f v n h : Int} (hz : (winsM f v n h).2 ≠ 0) : (winsM f v n h).1 = [] := by
  unfold winsM at hz ⊢
  split
  · rfl
  · split
    · rfl
    · split
      · rfl
      · rename_i h1 h2 h3; rw [if_neg h1, if_neg h2, if_neg h3] at hz; exact absurd rfl hz
theorem count_at {f v n h : Int} (hT : W.chkT f v n = 0) (hh : W.chk h = 0) {i : Nat} : i < (W.count f v h).toNat ↔ f ≤ h ∧ (v = 0 → i = 0) ∧ (v ≠ 0 → (i : Int) ≤ (h - f) / v) := by
  obtain ⟨h1, h2, h3⟩ := chkT_parts hT
  have hv : W.chk v = 0 := W.chk_ok (by omega)
  have hf : W.chk f = 0 := W.chk_ok (by omega)
  unfold W.count
  by_cases hle : f ≤ h
  · rw [if_pos ⟨hf, hv, hh, hle⟩]
    by_cases hv0 : v = 0
    · rw [if_pos hv0]
      constructor
      · intro hi; exact ⟨hle, fun _ => by omega, fun h => absurd hv0 h⟩
      · intro ⟨_, h, _⟩; have := h hv0; omega
    · rw [if_neg hv0]
      have hq : 0 ≤ (h - f) / v := Int.ediv_nonneg (by omega) (by omega)
      constructor
      · intro hi; exact ⟨hle, fun h => absurd h hv0, fun _ => by omega⟩
      · intro ⟨_, _, h⟩; have := h hv0; omega
  · rw [if_neg (by omega)]
    simp
    omega
theorem count_step {f v n h : Int} (hT : W.chkT f v n = 0) (hh : W.chk h = 0) {i : Nat} (hi : i < (W.count f v h).toNat) : f + i * v ≤ h := by
  obtain ⟨h1, h2, h3⟩ := chkT_parts hT
  obtain ⟨g1, g2, g3⟩ := (count_at hT hh).1 hi
  by_cases hv : v = 0
  · subst hv; simp; omega
  · have h4 : (i : Int) * v ≤ (h - f) / v * v := Int.mul_le_mul_of_nonneg_right (g3 hv) (by omega)
    have h5 : (h - f) / v * v ≤ h - f := Int.ediv_mul_le _ hv
    omega
theorem each_srt {f v n h : Int} (hT : W.chkT f v n = 0) (hh : W.chk h = 0) : srt 0 (eachL f v n (W.count f v h).toNat) := by
  obtain ⟨h1, h2, h3⟩ := chkT_parts hT
  have hhb := W.chk_zero hh
  have hv : 0 ≤ v := by omega
  refine srt_of_at _ _ (fun i a b hab => ?_) (fun i a b a' b' hab hab' => ?_)
  · have hi : i < (W.count f v h).toNat := by have := (List.getElem?_eq_some_iff.1 hab).1; rwa [eachL_len] at this
    rw [eachL_at f v n _ i hi] at hab
    cases hab
    have h4 := count_step hT hh hi
    have h5 : 0 ≤ (i : Int) * v := Int.mul_nonneg (by omega) hv
    omega
  · have hi : i + 1 < (W.count f v h).toNat := by have := (List.getElem?_eq_some_iff.1 hab').1; rwa [eachL_len] at this
    rw [eachL_at f v n _ _ hi] at hab'
    rw [eachL_at f v n _ i (by omega)] at hab
    cases hab; cases hab'
    rw [show ((i + 1 : Nat) : Int) * v = i * v + v by rw [Int.natCast_add, Int.add_mul]; simp]
    omega
theorem each_in (f v n : Int) (m : Nat) (y : Int) : inRow (eachL f v n m) y ↔ ∃ i : Nat, i < m ∧ f + i * v ≤ y ∧ y < f + i * v + n := by
  constructor
  · rintro ⟨i, a, b, h, h1, h2⟩
    have hi : i < m := by have := (List.getElem?_eq_some_iff.1 h).1; rwa [eachL_len] at this
    rw [eachL_at f v n m i hi] at h
    cases h
    exact ⟨i, hi, h1, h2⟩
  · rintro ⟨i, hi, h1, h2⟩
    exact ⟨i, _, _, eachL_at f v n m i hi, h1, h2⟩
theorem inT_iff {f v n h : Int} (hT : W.chkT f v n = 0) (hh : W.chk h = 0) (y : Int) : inRow (eachL f v n (W.count f v h).toNat) y ↔ inT f v n h y = true := by
  obtain ⟨h1, h2, h3⟩ := chkT_parts hT
  rw [each_in]
  unfold inT
  by_cases h4 : y < f ∨ h < f
  · rw [if_pos h4]
    simp only [Bool.false_eq_true, iff_false]
    rintro ⟨i, hi, g1, g2⟩
    have := (count_at hT hh).1 hi
    have : 0 ≤ (i : Int) * v := Int.mul_nonneg (by omega) (by omega)
    omega
  · rw [if_neg h4]
    by_cases hv : v = 0
    · rw [if_pos hv]
      subst hv
      simp only [decide_eq_true_eq]
      constructor
      · rintro ⟨i, hi, g1, g2⟩; simp at g2; omega
      · intro g; exact ⟨0, (count_at hT hh).2 ⟨by omega, fun _ => rfl, fun h => absurd rfl h⟩, by simp; omega, by simp; omega⟩
    · rw [if_neg hv]
      have hvp : 0 < v := by omega
      have q1 : (y - f) / v * v ≤ y - f := Int.ediv_mul_le _ hv
      have q2 : y - f < (y - f) / v * v + v := by have := Int.lt_ediv_add_one_mul_self (y - f) hvp; rw [Int.add_mul] at this; omega
      have r1 : (h - f) / v * v ≤ h - f := Int.ediv_mul_le _ hv
      have r2 : h - f < (h - f) / v * v + v := by have := Int.lt_ediv_add_one_mul_self (h - f) hvp; rw [Int.add_mul] at this; omega
      have q0 : 0 ≤ (y - f) / v := Int.ediv_nonneg (by omega) (by omega)
      generalize (y - f) / v = q at *
      generalize hR : (h - f) / v = r at *
      have key : ∀ i : Int, i * v ≤ y - f → y - f < i * v + n → i = q := by
        intro i g1 g2
        have a1 : i * v < (q + 1) * v := by rw [Int.add_mul]; omega
        have a2 : q * v < (i + 1) * v := by rw [Int.add_mul]; omega
        have := Int.lt_of_mul_lt_mul_right a1 (by omega)
        have := Int.lt_of_mul_lt_mul_right a2 (by omega)
        omega
      by_cases h5 : h < f + q * v
      · rw [if_pos h5]
        simp only [decide_eq_true_eq]
        have a3 : r * v < q * v := by omega
        have a4 := Int.lt_of_mul_lt_mul_right a3 (by omega)
        have a5 : (r + 1) * v ≤ q * v := Int.mul_le_mul_of_nonneg_right (by omega) (by omega)
        rw [Int.add_mul] at a5
        constructor
        · rintro ⟨i, hi, g1, g2⟩
          obtain rfl : (i : Int) = q := key i (by omega) (by omega)
          have := count_step hT hh hi
          omega
        · intro g; omega
      · rw [if_neg h5]
        simp only [decide_eq_true_eq]
        constructor
        · rintro ⟨i, hi, g1, g2⟩
          obtain rfl : (i : Int) = q := key i (by omega) (by omega)
          omega
        · intro g
          obtain ⟨i, rfl⟩ : ∃ i : Nat, q = i := ⟨q.toNat, by omega⟩
          refine ⟨i, (count_at hT hh).2 ⟨by omega, fun h => absurd h hv, fun _ => ?_⟩, by omega, g⟩
          rw [hR]
          have a6 : (i : Int) * v < (r + 1) * v := by rw [Int.add_mul]; omega
          have := Int.lt_of_mul_lt_mul_right a6 (by omega)
          omega
theorem wins_good {f v n h : Int} (hz : (winsM f v n h).2 = 0) : W.good (winsM f v n h).1 = true ∧ (∀ y, inRow (winsM f v n h).1 y ↔ inT f v n h y = true) ∧ (winsM f v n h).1.length ≤ 256 := by
  obtain ⟨h1, h2, h3, h4⟩ := winsM_ok hz
  obtain ⟨g1, g2, _⟩ := join_facts _ [] 0 (each_srt h1 h2) rfl (fun i a b h => by simp at h)
  rw [h4]
  refine ⟨g1, fun y => ?_, ?_⟩
  · unfold W.joinL; rw [g2 y, ← inT_iff h1 h2]; simp [inRow_nil]
  · have := W.joinL_len (eachL f v n (W.count f v h).toNat); rw [eachL_len] at this; omega
end Go.Proofs.Ytjbhdfjbockkfaa
