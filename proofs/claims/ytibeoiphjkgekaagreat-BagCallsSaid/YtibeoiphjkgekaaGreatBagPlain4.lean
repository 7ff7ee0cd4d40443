/-
  Plain law: what stands in what is kept.
-/
import Derived.Test.YtibeoiphjkgekaaGreatBagPlain3
namespace Go.Proofs.YtibeoiphjkgekaaGreat.B
open K
set_option linter.unusedSimpArgs false
theorem L3_chk {l : List P3} {i : Nat} {x : P3} (h : (L3 l)[i]? = some x) : chkB (may3 x) = 0 := by
  rw [L3_may (List.mem_of_getElem? h)]; rfl
theorem L3_no {l : List P3} {i j : Nat} {x y : P3} (h : (L3 l)[i]? = some x) (h2 : (L3 l)[j]? = some y) : beats3 x y = false :=
  (L3_mem.1 (List.mem_of_getElem? h2)).2.2 x (L3_sub (List.mem_of_getElem? h)) (L3_may (List.mem_of_getElem? h))
theorem L3_next {l : List P3} {i : Nat} {a b : P3} (ha : (L3 l)[i]? = some a) (hb : (L3 l)[i + 1]? = some b) : a.1 ≤ b.1 ∧ (a.1 = b.1 → a.2.2 < b.2.2) := by
  obtain ⟨i1, e1⟩ := List.getElem?_eq_some_iff.1 ha
  obtain ⟨i2, e2⟩ := List.getElem?_eq_some_iff.1 hb
  have hs := List.pairwise_iff_getElem.1 (L3_is l).1 i (i + 1) i1 i2 (by omega)
  rw [e1, e2, lt3_iff] at hs
  have hn := L3_no ha hb
  refine ⟨by omega, fun e => ?_⟩
  have h2 : ¬ beats3 a b = true := by rw [hn]; simp
  rw [beats3_iff] at h2
  omega
/-- one of l, over what is kept -/
def covB (k : List P3) (x : P3) (b : Bool) : Bool := k.foldl (fun b m => b || decide (m = x) || beats3 m x) b
theorem covB_snoc (k : List P3) (m x : P3) (b : Bool) : covB (k ++ [m]) x b = (covB k x b || decide (m = x) || beats3 m x) := by unfold covB; rw [List.foldl_append]; rfl
theorem covB_true {x : P3} : ∀ (k : List P3) (b : Bool), (b = true ∨ ∃ m ∈ k, m = x ∨ beats3 m x = true) → covB k x b = true := by
  intro k
  induction k with
  | nil => intro b h; rcases h with h | ⟨m, hm, _⟩; exact h; cases hm
  | cons y r ih =>
    intro b h
    show covB r x (b || decide (y = x) || beats3 y x) = true
    refine ih _ ?_
    rcases h with h | ⟨m, hm, h⟩
    · left; simp [h]
    · rcases List.mem_cons.1 hm with rfl | hm
      · left; rcases h with h | h <;> simp [h]
      · exact .inr ⟨m, hm, h⟩
theorem L3_covB {l : List P3} {x : P3} (hx : x ∈ l) : covB (L3 l) x (chkB (may3 x) != 0) = true := by
  refine covB_true _ _ ?_
  cases hm : may3 x with
  | false => left; rfl
  | true =>
    obtain ⟨m, h1, _, h2⟩ := L3_cov hx hm
    exact .inr ⟨m, h1, h2⟩
theorem L3_turned (l : List P3) (k : Nat) : L3 ((l.drop k ++ l.take k) ++ l.take k) = L3 l := by
  refine L3_same fun x => ?_
  have h : x ∈ l ↔ x ∈ l.take k ∨ x ∈ l.drop k := by
    conv => lhs; rw [← List.take_append_drop k l]
    rw [List.mem_append]
  rw [List.mem_append, List.mem_append, h]
  constructor
  · rintro ((h | h) | h)
    · exact .inr h
    · exact .inl h
    · exact .inl h
  · rintro (h | h)
    · exact .inr h
    · exact .inl (.inl h)
end Go.Proofs.YtibeoiphjkgekaaGreat.B
