/-
  A text of the chain.
-/
import Derived.Test.YtechdefolfboeaaGreatDoorJn1
namespace Go.Proofs.YtechdefolfboeaaGreatDoor
open Go.RowKit B K
set_option linter.unusedVariables false
set_option linter.unusedSimpArgs false
theorem tripStops_ok {M : WorldP} (hG : GoodW M) (t : Int) : (∀ s ∈ tripStops M t, 0 ≤ s ∧ s < M.stops.length) ∧ ∀ (k : Nat) a b, (tripStops M t)[k]? = some a → (tripStops M t)[k + 1]? = some b → a ≠ b := by
  unfold tripStops
  split
  · exact ⟨fun s h => (by cases h), fun k a b h => (by simp at h)⟩
  · split
    · exact ⟨fun s h => (by cases h), fun k a b h => (by simp at h)⟩
    · split
      · exact ⟨fun s h => (by cases h), fun k a b h => (by simp at h)⟩
      · rename_i r h
        have := hG.routes r (List.mem_of_getElem? h)
        exact ⟨this.2.2.2.1, this.2.2.2.2.2.2⟩
theorem conn_ok {M : WorldP} {L : List RunP} (h : OkC M L) {x : ConnP} (hx : x ∈ makeC M L) : (0 ≤ x.fr ∧ x.fr < (M.stops.length : Int)) ∧ (0 ≤ x.to_ ∧ x.to_ < (M.stops.length : Int)) ∧ x.fr ≠ x.to_ ∧ 0 ≤ x.run ∧ x.run < (L.length : Int) := by
  obtain ⟨n, r, p, hr, hp, rfl⟩ := ridesL_mem.1 ((makeC_perm M L).mem_iff.1 hx)
  have hf := h.fit r (List.mem_of_getElem? hr)
  obtain ⟨d, a, f, t, _, _, h1, h2, _, e⟩ := hf.ride (n := n) hp
  obtain ⟨k1, k2⟩ := tripStops_ok h.good r.trip
  have hn := (List.getElem?_eq_some_iff.1 hr).1
  rw [e]
  exact ⟨k1 f (List.mem_of_getElem? h1), k1 t (List.mem_of_getElem? h2), k2 p f t h1 h2, by simp only; omega, by simp only; omega⟩
end Go.Proofs.YtechdefolfboeaaGreatDoor

