/-
  A text of the chain.
-/
import Derived.Test.YtechdefolfboeaaGreatDoorPt1
namespace Go.Proofs.YtechdefolfboeaaGreatDoor
open Go.RowKit B K
set_option linter.unusedVariables false
set_option linter.unusedSimpArgs false
theorem tripStops_ok {M : WorldP} (hG : GoodW M) (t : Int) : (∀ s ∈ tripStops M t, 0 ≤ s ∧ s < M.stops.length) ∧ ∀ (k : Nat) a b, (tripStops M t)[k]? = some a → (tripStops M t)[k + 1]? = some b → a ≠ b := by
  unfold tripStops
  split
  · exact ⟨fun s h => (by cases h), fun k a b h => (by simp at h)⟩
  · split
    · exact ⟨fun s h => (by cases h), fun k a b h => (by simp at h)⟩
    · split
      · exact ⟨fun s h => (by cases h), fun k a b h => (by simp at h)⟩
      · rename_i r h
        have := hG.routes r (List.mem_of_getElem? h)
        exact ⟨this.2.2.2.1, this.2.2.2.2.2.2⟩
theorem conn_ok {M : WorldP} {L : List RunP} (h : OkC M L) {x : ConnP} (hx : x ∈ makeC M L) : (0 ≤ x.fr ∧ x.fr < (M.stops.length : Int)) ∧ (0 ≤ x.to_ ∧ x.to_ < (M.stops.length : Int)) ∧ x.fr ≠ x.to_ ∧ 0 ≤ x.run ∧ x.run < (L.length : Int) := by
  obtain ⟨n, r, p, hr, hp, rfl⟩ := ridesL_mem.1 ((makeC_perm M L).mem_iff.1 hx)
  have hf := h.fit r (List.mem_of_getElem? hr)
  obtain ⟨d, a, f, t, _, _, h1, h2, _, e⟩ := hf.ride (n := n) hp
  obtain ⟨k1, k2⟩ := tripStops_ok h.good r.trip
  have hn := (List.getElem?_eq_some_iff.1 hr).1
  rw [e]
  exact ⟨k1 f (List.mem_of_getElem? h1), k1 t (List.mem_of_getElem? h2), k2 p f t h1 h2, by simp only; omega, by simp only; omega⟩
/-- how many are below a number -/
def cutN {α : Type} (f : α → Int) (l : List α) (k : Nat) : Nat := (l.filter fun x => decide (f x < (k : Int))).length
theorem cutN_succ {α : Type} (f : α → Int) (l : List α) (k : Nat) : cutN f l (k + 1) = cutN f l k + (l.filter fun x => f x == (k : Int)).length := by
  have h := cut_sum f l k
  unfold cutN
  rw [show (((k + 1 : Nat) : Int)) = (k : Int) + 1 by omega]
  exact h
theorem cutN_zero {α : Type} {f : α → Int} {l : List α} (h : ∀ x ∈ l, 0 ≤ f x) : cutN f l 0 = 0 := cut_zero f l h
theorem cutN_all {α : Type} {f : α → Int} {l : List α} {N : Nat} (h : ∀ x ∈ l, f x < (N : Int)) : cutN f l N = l.length := cut_all f l N h
theorem cutN_le {α : Type} (f : α → Int) (l : List α) (k : Nat) : cutN f l k ≤ l.length := List.length_filter_le _ _
/-- a sorted list, neighbour by neighbour -/
theorem next_lt {l : List ConnP} (h : l.Pairwise fun a b => ltC a b = true) {j : Nat} {x y : ConnP} (hx : l[j]? = some x) (hy : l[j + 1]? = some y) : ltC x y = true := by
  obtain ⟨h1, e1⟩ := List.getElem?_eq_some_iff.1 hx
  obtain ⟨h2, e2⟩ := List.getElem?_eq_some_iff.1 hy
  have := List.pairwise_iff_getElem.1 h j (j + 1) h1 h2 (by omega)
  rw [e1, e2] at this
  exact this
end Go.Proofs.YtechdefolfboeaaGreatDoor

