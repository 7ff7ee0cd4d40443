/-
  Plain laws for WalkMore: edges in whatever order; more edges; edges both ways.
-/



import Derived.Test.YtonkkibnigdfbaaClRow
namespace Go.Proofs.Ytonkkibnigdfbaa
open K
set_option linter.unusedVariables false
set_option linter.unusedSimpArgs false
theorem IsDist.mem {n s : Nat} {l l' : List Ed} {d : List Int} (h : IsDist n l s d) (hm : ∀ e, e ∈ l ↔ e ∈ l') : IsDist n l' s d :=
  ⟨h.len, h.s0, h.rng, fun e he => h.rel e ((hm e).2 he), fun i v hi hv hvt => by
    obtain ⟨e, he, r⟩ := h.sup i v hi hv hvt
    exact ⟨e, (hm e).1 he, r⟩⟩
theorem IsDist.more0 {n s : Nat} {l l' : List Ed} {d d' : List Int} (hl : EdsOk n l) (h : IsDist n l s d) (h' : IsDist n l' s d') (hs : ∀ e ∈ l, e ∈ l') : ∀ (k i : Nat) (u v : Int), v.toNat ≤ k → d[i]? = some v → d'[i]? = some u → v ≤ 1099511627776 → u ≤ v
  | k, i, u, v, hk, hv, hu, hvt => by
    by_cases hi : i = s
    · subst hi
      rw [h.s0] at hv; rw [h'.s0] at hu
      cases hv; cases hu; exact Int.le_refl _
    · obtain ⟨e, he, e2, p, y, e1, hp, hsum⟩ := h.sup i v hi hv hvt
      have hlo := (hl e he).2.2.2.2.2.1
      have hry := h.rng p y hp
      obtain ⟨x, hx⟩ : ∃ x, d'[p]? = some x := ⟨d'[p]'(by rw [h'.len, ← h.len]; exact (List.getElem?_eq_some_iff.1 hp).1), List.getElem?_eq_getElem _⟩
      have ih := IsDist.more0 hl h h' hs (k - 1) p x y (by omega) hp hx (by omega)
      have := h'.rel e (hs e he) p i x u e1 e2 hx hu (by omega)
      omega
termination_by k => k
decreasing_by omega
/-- more edges make nothing farther -/
theorem IsDist.more {n s : Nat} {l l' : List Ed} {d d' : List Int} (hl : EdsOk n l) (h : IsDist n l s d) (h' : IsDist n l' s d') (hs : ∀ e ∈ l, e ∈ l') {i : Nat} {u v : Int} (hv : d[i]? = some v) (hu : d'[i]? = some u) : u ≤ v := by
  have h1 := h.rng i v hv
  have h2 := h'.rng i u hu
  by_cases hvt : v ≤ 1099511627776
  · exact IsDist.more0 hl h h' hs v.toNat i u v (Nat.le_refl _) hv hu hvt
  · omega
def revE (e : Ed) : Ed := (e.2.1, e.1, e.2.2)
def bothE (l : List Ed) : List Ed := l ++ l.map revE
theorem revE_revE (e : Ed) : revE (revE e) = e := rfl
theorem both_rev {l : List Ed} : ∀ e ∈ bothE l, revE e ∈ bothE l := fun e he => by
  unfold bothE at he ⊢
  rw [List.mem_append, List.mem_map] at he ⊢
  rcases he with he | ⟨e0, he, rfl⟩
  · exact .inr ⟨e, he, rfl⟩
  · exact .inl he
theorem sym_le {n : Nat} {L : List Ed} (hl : EdsOk n L) (hrev : ∀ e ∈ L, revE e ∈ L) {D : Nat → List Int} (hD : ∀ i, i < n → IsDist n L i (D i)) {c : Nat} (hc : c < n) : ∀ (k j : Nat) (v x : Int), v.toNat ≤ k → (D c)[j]? = some v → v ≤ 1099511627776 → (D j)[c]? = some x → x ≤ v
  | k, j, v, x, hk, hv, hvt, hx => by
    have h := hD c hc
    have hj : j < n := by rw [← h.len]; exact (List.getElem?_eq_some_iff.1 hv).1
    by_cases hi : j = c
    · subst hi; rw [h.s0] at hv hx; cases hv; cases hx; exact Int.le_refl _
    · obtain ⟨e, he, e2, p, y, e1, hp, hsum⟩ := h.sup j v hi hv hvt
      have hb := hl e he
      have hry := h.rng p y hp
      have hpn : p < n := by omega
      obtain ⟨z, hz⟩ := (hD p hpn).get hc
      have ih := sym_le hl hrev hD hc (k - 1) p y z (by omega) hp (by omega) hz
      obtain ⟨q, hq⟩ := (hD j hj).get hpn
      have hrel := (hD j hj).rel (revE e) (hrev e he) j p 0 q e2 e1 (hD j hj).s0 hq (by show 0 + e.2.2 ≤ _; omega)
      have hrel : q ≤ 0 + e.2.2 := hrel
      have hq0 := (hD j hj).rng p q hq
      have hz0 := (hD p hpn).rng c z hz
      have := IsDist.tri hl (hD j hj) (hD p hpn) hq z.toNat c z x (Nat.le_refl _) hz (by omega) (by omega) hx
      omega
termination_by k => k
decreasing_by omega
/-- edges both ways: as far back as forth -/
theorem sym_eq {n : Nat} {L : List Ed} (hl : EdsOk n L) (hrev : ∀ e ∈ L, revE e ∈ L) {D : Nat → List Int} (hD : ∀ i, i < n → IsDist n L i (D i)) {i k : Nat} {x y : Int} (hx : (D i)[k]? = some x) (hy : (D k)[i]? = some y) (hi : i < n) (hk : k < n) : x = y := by
  have h1 := (hD i hi).rng k x hx
  have h2 := (hD k hk).rng i y hy
  have a1 : x ≤ 1099511627776 → y ≤ x := fun h => sym_le hl hrev hD hi x.toNat k x y (Nat.le_refl _) hx h hy
  have a2 : y ≤ 1099511627776 → x ≤ y := fun h => sym_le hl hrev hD hk y.toNat i y x (Nat.le_refl _) hy h hx
  rcases h1 with h1 | h1 <;> rcases h2 with h2 | h2 <;> omega
theorem eds_append {n : Nat} {l l' : List Ed} (h : EdsOk n l) (h' : EdsOk n l') : EdsOk n (l ++ l') := fun e he => (List.mem_append.1 he).elim (h e) (h' e)
theorem eds_both {n : Nat} {l : List Ed} (h : EdsOk n l) : EdsOk n (bothE l) := eds_append h fun e he => by
  obtain ⟨e0, he0, rfl⟩ := List.mem_map.1 he
  obtain ⟨h1, h2, h3, h4, h5, h6, h7⟩ := h e0 he0
  exact ⟨h3, h4, h1, h2, fun e => h5 e.symm, h6, h7⟩
theorem mem_turn {l : List Ed} (k : Nat) (e : Ed) : e ∈ l ↔ e ∈ l.drop k ++ l.take k := by
  rw [List.mem_append]
  constructor
  · intro h
    rw [← List.take_append_drop k l, List.mem_append] at h
    exact h.symm
  · rintro (h | h)
    · exact List.mem_of_mem_drop h
    · exact List.mem_of_mem_take h
end Go.Proofs.Ytonkkibnigdfbaa
