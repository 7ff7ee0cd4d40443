/-
  Plain law: spread by parts, one stop alone after the other, the least of all is it.
-/
import Derived.Test.YtonkkibnigdfbaaSpS
namespace Go.Proofs.Ytonkkibnigdfbaa
set_option linter.unusedVariables false
set_option linter.unusedSimpArgs false
/-- the least of the labels handed in and of the parts spread so far -/
structure PartI (N : NetP) (n : Nat) (arr D : List Int) (k : Nat) (L : List Int) : Prop where
  len : L.length = n
  lo : ∀ i, lab D i ≤ lab L i
  hi : ∀ i, lab L i ≤ lab arr i
  all : ∀ s, s < k → lab arr s ≠ W.inf → ∃ E, Spr N (single n s (lab arr s)) E ∧ ∀ i, lab L i ≤ lab E i
  src : ∀ i, lab L i = lab arr i ∨ ∃ s E, Spr N (single n s (lab arr s)) E ∧ lab L i = lab E i ∧ ∀ i', lab L i' ≤ lab E i'
section
variable {N : NetP} {n k : Nat} {arr D L E : List Int}
theorem PartI.start (h : Spr N arr D) (ha : arr.length = n) : PartI N n arr D 0 arr :=
  ⟨ha, h.le, fun i => Int.le_refl _, fun s hs => absurd hs (by omega), fun i => .inl rfl⟩
theorem PartI.skip (h : PartI N n arr D k L) (hk : lab arr k = W.inf) : PartI N n arr D (k + 1) L :=
  ⟨h.len, h.lo, h.hi, fun s hs hne => by
    by_cases hsk : s = k
    · subst hsk; exact absurd hk hne
    · exact h.all s (by omega) hne, h.src⟩
theorem PartI.step (h : PartI N n arr D k L) (hD : Spr N arr D) (ha : arr.length = n) (hk : k < n) (hN : N.cs.length = n) (hO : OkN N) (hA : LabsOk N arr) (hE : Spr N (single n k (lab arr k)) E) : PartI N n arr D (k + 1) (minL L E) := by
  have hl : L.length = E.length := by rw [h.len, hE.ok.1, hN]
  have hm := minL_lab hl
  refine ⟨by rw [minL_len hl]; exact h.len, fun i => ?_, fun i => ?_, fun s hs hne => ?_, fun i => ?_⟩
  · rw [hm]
    have h1 := h.lo i
    have h2 := hD.mono hE (fun s => by
      rw [single_lab hk]
      split
      · rename_i e; subst e; exact Int.le_refl _
      · have h9 := inf_big
        have h8 := hO.hz
        rcases hA.at s with h7 | h7 <;> omega) i
    omega
  · rw [hm]
    have := h.hi i
    omega
  · by_cases hsk : s = k
    · subst hsk
      exact ⟨E, hE, fun i => by rw [hm]; omega⟩
    · obtain ⟨E', h1, h2⟩ := h.all s (by omega) hne
      exact ⟨E', h1, fun i => by rw [hm]; have := h2 i; omega⟩
  · rw [hm]
    rcases Int.le_total (lab E i) (lab L i) with h1 | h1
    · exact .inr ⟨k, E, hE, by omega, fun i' => by rw [hm]; omega⟩
    · rcases h.src i with h2 | ⟨s, E', h2, h3, h4⟩
      · exact .inl (by omega)
      · exact .inr ⟨s, E', h2, by omega, fun i' => by rw [hm]; have := h4 i'; omega⟩
theorem PartI.done (h : PartI N n arr D n L) (hD : Spr N arr D) (ha : LabsOk N arr) (hN : N.cs.length = n) (hO : OkN N) : L = D := by
  have hL : LabsOk N L := labsOk_of (by rw [h.len, hN]) fun i => by
    rcases h.src i with h1 | ⟨s, E, h1, h2, _⟩
    · rw [h1]; exact ha.at i
    · rw [h2]; exact h1.ok.at i
  refine lab_ext (by rw [h.len, hD.ok.1, hN]) fun i => ?_
  have h1 := h.lo i
  have h2 := hD.gr L hL (fun l hl hne => ?_) h.hi i
  · omega
  · have hok := okL_iff.1 (hO.lk l hl)
    rcases h.src l.a.toNat with h3 | ⟨s, E, h3, h4, h5⟩
    · have h6 : l.a.toNat < n := by omega
      obtain ⟨E, h7, h8⟩ := h.all l.a.toNat h6 (by rw [← h3]; exact hne)
      have h9 := h7.le l.a.toNat
      rw [single_lab h6, if_pos rfl] at h9
      have h10 := h8 l.a.toNat
      have h11 : lab E l.a.toNat = lab L l.a.toNat := by omega
      have h12 := h7.cl l hl (by rw [h11]; exact hne)
      rw [h11] at h12
      have := h8 l.b.toNat
      omega
    · have h12 := h3.cl l hl (by rw [← h4]; exact hne)
      rw [← h4] at h12
      have := h5 l.b.toNat
      omega
end
end Go.Proofs.Ytonkkibnigdfbaa
