/-
  Plain law of the reference's search: edge by edge, round by round; behind round r all whose rank is at most r are right.
-/
import Derived.Test.YtapfndjaimfcaaaRank
namespace Go.Proofs.Ytapfndjaimfcaaa
open K
set_option linter.unusedVariables false
set_option linter.unusedSimpArgs false
structure BF (n : Nat) (l : List Ed) (s : Nat) (D : List Int) (r j : Nat) (d : List Int) : Prop where
  len : d.length = n
  s0 : d[s]? = some 0
  rng : ∀ (i : Nat) (v : Int), d[i]? = some v → v = 4611686018427387904 ∨ (0 ≤ v ∧ v ≤ 1099511627776)
  low : ∀ (i : Nat) (v w : Int), d[i]? = some v → D[i]? = some w → w ≤ v
  ex : ∀ (i : Nat) (w : Int), D[i]? = some w → w ≤ 1099511627776 → rank D w ≤ r → d[i]? = some w
  nx : ∀ e ∈ l.take j, ∀ (i p : Nat) (w u : Int), e.2.1 = (i : Int) → e.1 = (p : Int) → D[i]? = some w → D[p]? = some u → w ≤ 1099511627776 → rank D w ≤ r + 1 → u + e.2.2 = w → d[i]? = some w
section
variable {n s r j : Nat} {l : List Ed} {D d : List Int}
theorem BF.start (h : IsDist n l s D) (hl : EdsOk n l) (hs : s < n) : BF n l s D 0 0 ((List.replicate n (4611686018427387904 : Int)).set s 0) := by
  have hget : ∀ (i : Nat) (v : Int), ((List.replicate n (4611686018427387904 : Int)).set s 0)[i]? = some v → (i = s ∧ v = 0) ∨ (i ≠ s ∧ v = 4611686018427387904) := fun i v hv => by
    rw [List.getElem?_set] at hv
    by_cases hi : s = i
    · rw [if_pos hi] at hv
      split at hv
      · exact .inl ⟨hi.symm, (Option.some.inj hv).symm⟩
      · cases hv
    · rw [if_neg hi, List.getElem?_replicate] at hv
      split at hv
      · exact .inr ⟨fun e => hi e.symm, (Option.some.inj hv).symm⟩
      · cases hv
  have h0 : ((List.replicate n (4611686018427387904 : Int)).set s 0)[s]? = some 0 := by rw [List.getElem?_set, if_pos rfl, if_pos (by simpa using hs)]
  refine ⟨by simp, h0, fun i v hv => ?_, fun i v w hv hw => ?_, fun i w hw hwt hr => ?_, fun e he => by simp at he⟩
  · rcases hget i v hv with ⟨_, rfl⟩ | ⟨_, rfl⟩
    · exact .inr ⟨by decide, by decide⟩
    · exact .inl rfl
  · rcases hget i v hv with ⟨rfl, rfl⟩ | ⟨_, rfl⟩
    · rw [h.s0] at hw; cases hw; exact Int.le_refl _
    · rcases h.rng i w hw with h1 | h1 <;> omega
  · by_cases hi : i = s
    · subst hi
      rw [h.s0] at hw; cases hw; exact h0
    · exfalso
      obtain ⟨e, he, e2, p, u, e1, hp, hsum⟩ := h.sup i w hi hw hwt
      have hlo := (hl e he).2.2.2.2.2.1
      have := rank_lt (show u < w by omega) (List.mem_of_getElem? hp)
      omega
variable {e : Ed} {a b : Nat} {x y : Int}
theorem BF.skip (h : BF n l s D r j d) (hl : EdsOk n l) (hD : IsDist n l s D) (he : l[j]? = some e) (ea : e.1 = (a : Int)) (eb : e.2.1 = (b : Int)) (hx : d[a]? = some x) (hy : d[b]? = some y) (hno : 1099511627776 - e.2.2 < x ∨ y ≤ x + e.2.2) : BF n l s D r (j + 1) d := by
  refine ⟨h.len, h.s0, h.rng, h.low, h.ex, fun f hf i p w u hi hp hw hu hwt hr hs => ?_⟩
  rw [B.take_at he, List.mem_append] at hf
  rcases hf with hf | hf
  · exact h.nx f hf i p w u hi hp hw hu hwt hr hs
  · simp only [List.mem_singleton] at hf
    subst hf
    have hlo := (hl f (List.mem_of_getElem? he)).2.2.2.2.2.1
    obtain rfl : a = p := by omega
    obtain rfl : b = i := by omega
    have hru := hD.rng a u hu
    have hrk := rank_lt (show u < w by omega) (List.mem_of_getElem? hu)
    have h1 := h.ex a u hu (by omega) (by omega)
    rw [hx] at h1
    obtain rfl := Option.some.inj h1
    have h2 := h.low b y w hy hw
    obtain rfl : y = w := by omega
    exact hy
theorem BF.turn (h : BF n l s D r j d) (hl : EdsOk n l) (hD : IsDist n l s D) (he : l[j]? = some e) (ea : e.1 = (a : Int)) (eb : e.2.1 = (b : Int)) (hx : d[a]? = some x) (hy : d[b]? = some y) (h1 : x ≤ 1099511627776 - e.2.2) (h2 : x + e.2.2 < y) : BF n l s D r (j + 1) (d.set b (x + e.2.2)) := by
  have hb := hl e (List.mem_of_getElem? he)
  have hrx := h.rng a x hx
  have hbn : b < d.length := (List.getElem?_eq_some_iff.1 hy).1
  have hbs : b ≠ s := fun e => by
    subst e
    rw [h.s0] at hy; cases hy; omega
  have hget : ∀ (i : Nat) (v : Int), (d.set b (x + e.2.2))[i]? = some v → (i = b ∧ v = x + e.2.2) ∨ (i ≠ b ∧ d[i]? = some v) := fun i v hv => by
    rw [List.getElem?_set] at hv
    by_cases hi : b = i
    · rw [if_pos hi, if_pos hbn] at hv
      exact .inl ⟨hi.symm, (Option.some.inj hv).symm⟩
    · rw [if_neg hi] at hv
      exact .inr ⟨fun e => hi e.symm, hv⟩
  -- what lies below it
  have hlowx : ∀ w, D[b]? = some w → w ≤ x + e.2.2 := fun w hw => by
    obtain ⟨u, hu⟩ := hD.get (i := a) (by omega)
    have := h.low a x u hx hu
    have hr := hD.rel e (List.mem_of_getElem? he) a b u w ea eb hu hw (by omega)
    omega
  have hkeep : ∀ (i : Nat) (w : Int), D[i]? = some w → d[i]? = some w → (d.set b (x + e.2.2))[i]? = some w := fun i w hw hd => by
    by_cases hi : i = b
    · subst hi
      rw [hy] at hd
      cases hd
      have := hlowx y hw
      omega
    · rw [List.getElem?_set, if_neg (fun e => hi e.symm)]; exact hd
  refine ⟨by rw [List.length_set]; exact h.len, by rw [List.getElem?_set, if_neg hbs]; exact h.s0, fun i v hv => ?_, fun i v w hv hw => ?_, fun i w hw hwt hr => hkeep i w hw (h.ex i w hw hwt hr), fun f hf i p w u hi hp hw hu hwt hr hs => ?_⟩
  · rcases hget i v hv with ⟨_, rfl⟩ | ⟨_, hv⟩
    · exact .inr ⟨by omega, by omega⟩
    · exact h.rng i v hv
  · rcases hget i v hv with ⟨rfl, rfl⟩ | ⟨_, hv⟩
    · exact hlowx w hw
    · exact h.low i v w hv hw
  · rw [B.take_at he, List.mem_append] at hf
    rcases hf with hf | hf
    · exact hkeep i w hw (h.nx f hf i p w u hi hp hw hu hwt hr hs)
    · simp only [List.mem_singleton] at hf
      subst hf
      obtain rfl : a = p := by omega
      obtain rfl : b = i := by omega
      have hru := hD.rng a u hu
      have hrk := rank_lt (show u < w by omega) (List.mem_of_getElem? hu)
      have h3 := h.ex a u hu (by omega) (by omega)
      rw [hx] at h3
      obtain rfl := Option.some.inj h3
      rw [List.getElem?_set, if_pos rfl, if_pos hbn, hs]
theorem BF.roll (h : BF n l s D r l.length d) (hl : EdsOk n l) (hD : IsDist n l s D) : BF n l s D (r + 1) 0 d := by
  refine ⟨h.len, h.s0, h.rng, h.low, fun i w hw hwt hr => ?_, fun e he => by simp at he⟩
  by_cases hi : i = s
  · subst hi
    rw [hD.s0] at hw; cases hw; exact h.s0
  · obtain ⟨e, he, e2, p, u, e1, hp, hsum⟩ := hD.sup i w hi hw hwt
    exact h.nx e (by rw [List.take_length]; exact he) i p w u e2 e1 hw hp hwt hr hsum
theorem BF.fin (h : BF n l s D n 0 d) (hD : IsDist n l s D) : d = D := by
  refine List.ext_getElem? fun i => ?_
  by_cases hi : i < n
  · obtain ⟨w, hw⟩ := hD.get hi
    obtain ⟨v, hv⟩ : ∃ v, d[i]? = some v := ⟨d[i]'(by rw [h.len]; exact hi), List.getElem?_eq_getElem _⟩
    rcases hD.rng i w hw with rfl | h1
    · have h2 := h.low i v _ hv hw
      have h3 := h.rng i v hv
      rw [hv, hw]
      congr 1
      omega
    · have h2 := rank_len (List.mem_of_getElem? hw)
      rw [hD.len] at h2
      rw [hw]
      exact h.ex i w hw h1.2 (by omega)
  · rw [List.getElem?_eq_none (by rw [h.len]; omega), List.getElem?_eq_none (by rw [hD.len]; omega)]
end
end Go.Proofs.Ytapfndjaimfcaaa
