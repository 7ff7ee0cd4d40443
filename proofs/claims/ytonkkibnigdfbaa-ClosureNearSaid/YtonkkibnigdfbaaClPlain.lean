/-
  Plain law: plain links, their edges; rows by how far.
-/
import Derived.Test.YtonkkibnigdfbaaCkC
namespace Go.Proofs.Ytonkkibnigdfbaa
open Go.RowKit B K
set_option linter.unusedVariables false
set_option linter.unusedSimpArgs false
def clA (N : NetP) (x : Int) : W.Row := (N.cs[x.toNat]?).getD []
def plainB (N : NetP) (l : Lk) : Bool := !l.door && decide (l.cl.length = 0) && decide ((clA N l.a).length = 0) && decide ((clA N l.b).length = 0)
def plainAt (N : NetP) (i : Nat) : Bool := match N.ls[i]? with | some l => plainB N l | none => false
def plainK (N : NetP) (k : Nat) : List Nat := (List.range k).filter (plainAt N)
def plainI (N : NetP) : List Nat := plainK N N.ls.length
def edgeL (l : Lk) : Ed := (l.a, l.b, l.len)
def edgeI (N : NetP) (i : Nat) : Option Ed := (N.ls[i]?).map edgeL
def plainE (N : NetP) : List Ed := (plainI N).filterMap (edgeI N)
theorem plainB_iff {N : NetP} {l : Lk} : plainB N l = true ↔ l.door = false ∧ l.cl.length = 0 ∧ (clA N l.a).length = 0 ∧ (clA N l.b).length = 0 := by
  unfold plainB
  simp only [Bool.and_eq_true, Bool.not_eq_true', decide_eq_true_iff, and_assoc]
theorem plainK_zero (N : NetP) : plainK N 0 = [] := rfl
theorem plainK_yes {N : NetP} {k : Nat} (h : plainAt N k = true) : plainK N (k + 1) = plainK N k ++ [k] := by
  unfold plainK; rw [List.range_succ, List.filter_append]; simp [h]
theorem plainK_no {N : NetP} {k : Nat} (h : plainAt N k = false) : plainK N (k + 1) = plainK N k := by
  unfold plainK; rw [List.range_succ, List.filter_append]; simp [h]
theorem plainK_len (N : NetP) (k : Nat) : (plainK N k).length ≤ k := by
  have := List.length_filter_le (plainAt N) (List.range k)
  rwa [List.length_range] at this
theorem plainI_len (N : NetP) : (plainI N).length ≤ N.ls.length := plainK_len N _
theorem plainI_at {N : NetP} {j i : Nat} (h : (plainI N)[j]? = some i) : ∃ l, N.ls[i]? = some l ∧ plainB N l = true := by
  have hm := List.mem_of_getElem? h
  unfold plainI plainK at hm
  rw [List.mem_filter] at hm
  unfold plainAt at hm
  cases hl : N.ls[i]? with
  | none => rw [hl] at hm; exact absurd hm.2 (by simp)
  | some l => rw [hl] at hm; exact ⟨l, rfl, hm.2⟩
theorem plainI_mem {N : NetP} {i : Nat} {l : Lk} (hl : N.ls[i]? = some l) (hp : plainB N l = true) : i ∈ plainI N := by
  unfold plainI plainK
  rw [List.mem_filter, List.mem_range]
  exact ⟨(List.getElem?_eq_some_iff.1 hl).1, by unfold plainAt; rw [hl]; exact hp⟩
/-- the edges of the first j plain links -/
def edgesTo (N : NetP) (j : Nat) : List Ed := ((plainI N).take j).filterMap (edgeI N)
theorem edgesTo_snoc {N : NetP} {j i : Nat} {l : Lk} (h : (plainI N)[j]? = some i) (hl : N.ls[i]? = some l) : edgesTo N (j + 1) = edgesTo N j ++ [edgeL l] := by
  unfold edgesTo
  rw [take_at h, List.filterMap_append]
  simp [edgeI, hl]
theorem edgesTo_len (N : NetP) : ∀ j, j ≤ (plainI N).length → (edgesTo N j).length = j
  | 0, _ => by simp [edgesTo]
  | j + 1, h => by
    obtain ⟨l, hl, _⟩ := plainI_at (N := N) (j := j) (List.getElem?_eq_getElem h)
    rw [edgesTo_snoc (List.getElem?_eq_getElem h) hl, List.length_append, edgesTo_len N j (by omega)]; rfl
theorem edgesTo_all {N : NetP} {j : Nat} (h : j = (plainI N).length) : edgesTo N j = plainE N := by
  unfold edgesTo plainE; rw [List.take_of_length_le (by omega)]
theorem plainE_mem {N : NetP} {e : Ed} : e ∈ plainE N ↔ ∃ l ∈ N.ls, plainB N l = true ∧ e = edgeL l := by
  unfold plainE
  rw [List.mem_filterMap]
  constructor
  · rintro ⟨i, hi, he⟩
    obtain ⟨j, hj⟩ := List.getElem?_of_mem hi
    obtain ⟨l, hl, hp⟩ := plainI_at hj
    unfold edgeI at he
    rw [hl] at he
    exact ⟨l, List.mem_of_getElem? hl, hp, (Option.some.inj he).symm⟩
  · rintro ⟨l, hl, hp, rfl⟩
    obtain ⟨i, hi⟩ := List.getElem?_of_mem hl
    exact ⟨i, plainI_mem hi hp, by unfold edgeI; rw [hi]; rfl⟩
theorem plainE_len (N : NetP) : (plainE N).length ≤ N.ls.length := by
  rw [← edgesTo_all rfl, edgesTo_len N _ (Nat.le_refl _)]; exact plainI_len N
theorem plainE_ok {N : NetP} (h : OkN N) : EdsOk N.cs.length (plainE N) := fun e he => by
  obtain ⟨l, hl, _, rfl⟩ := plainE_mem.1 he
  obtain ⟨h1, h2, h3, h4, h5, _⟩ := okL_iff.1 (h.lk l hl)
  exact ⟨h1.1, h1.2, h2.1, h2.2, h3, h4, h5⟩
theorem plainE_chk {N : NetP} (h : OkN N) : chkE (N.cs.length : Int) (plainE N) = 0 := chk_of (plainE_ok h) (by have := plainE_len N; have := h.ln; omega) h.cn
/-! ### there is a row of how far -/
structure Wk (n : Nat) (l : List Ed) (s : Nat) (d : List Int) : Prop where
  len : d.length = n
  s0 : d[s]? = some 0
  rng : ∀ (i : Nat) (v : Int), d[i]? = some v → v = (4611686018427387904 : Int) ∨ (0 ≤ v ∧ v ≤ (1099511627776 : Int))
  sup : ∀ (i : Nat) (v : Int), i ≠ s → d[i]? = some v → v ≤ (1099511627776 : Int) → ∃ e ∈ l, e.2.1 = (i : Int) ∧ ∃ (p : Nat) (u : Int), e.1 = (p : Int) ∧ d[p]? = some u ∧ u + e.2.2 ≤ v
theorem Wk.ex {n : Nat} {l : List Ed} {s : Nat} (hl : EdsOk n l) (hs : s < n) : ∀ (k : Nat) (d : List Int), Wk n l s d → (d.map Int.toNat).sum ≤ k → ∃ d', IsDist n l s d'
  | k, d, h, hk => by
    by_cases hx : ∃ e ∈ l, ∃ (a b : Nat) (u v : Int), e.1 = a ∧ e.2.1 = b ∧ d[a]? = some u ∧ d[b]? = some v ∧ u + e.2.2 ≤ (1099511627776 : Int) ∧ u + e.2.2 < v
    · obtain ⟨e, he, a, b, u, v, ea, eb, hu, hv, h1, h2⟩ := hx
      obtain ⟨_, _, _, _, hab, hlo, _⟩ := hl e he
      have hbn := (List.getElem?_eq_some_iff.1 hv).1
      have hu0 : 0 ≤ u := by rcases h.rng a u hu with h3 | h3 <;> omega
      have hbs : b ≠ s := fun hbs => by subst hbs; rw [h.s0] at hv; cases hv; omega
      have hab' : a ≠ b := fun hh => hab (by rw [ea, eb, hh])
      have hsum := sum_set Int.toNat d b v (u + e.2.2) hv (by omega)
      refine Wk.ex hl hs (k - 1) (d.set b (u + e.2.2)) ⟨by rw [List.length_set]; exact h.len, ?_, fun i w hw => ?_, fun i w hi hw hwt => ?_⟩ (by omega)
      · rw [List.getElem?_set, if_neg hbs]; exact h.s0
      · rw [List.getElem?_set] at hw
        by_cases hib : b = i
        · subst hib; rw [if_pos rfl, if_pos hbn] at hw; cases hw; exact .inr ⟨by omega, h1⟩
        · rw [if_neg hib] at hw; exact h.rng i w hw
      · rw [List.getElem?_set] at hw
        by_cases hib : b = i
        · subst hib; rw [if_pos rfl, if_pos hbn] at hw; cases hw
          exact ⟨e, he, eb, a, u, ea, by rw [List.getElem?_set, if_neg (Ne.symm hab')]; exact hu, Int.le_refl _⟩
        · rw [if_neg hib] at hw
          obtain ⟨e', he', f1, p, u', f2, f3, f4⟩ := h.sup i w hi hw hwt
          by_cases hpb : b = p
          · subst hpb
            rw [hv] at f3; cases f3
            exact ⟨e', he', f1, b, u + e.2.2, f2, by rw [List.getElem?_set, if_pos rfl, if_pos hbn], by omega⟩
          · exact ⟨e', he', f1, p, u', f2, by rw [List.getElem?_set, if_neg hpb]; exact f3, f4⟩
    · refine ⟨d, h.len, h.s0, h.rng, fun e he a b u v ea eb hu hv h1 => ?_, fun i v hi hv hvt => ?_⟩
      · rcases Int.lt_or_le (u + e.2.2) v with h2 | h2
        · exact absurd ⟨e, he, a, b, u, v, ea, eb, hu, hv, h1, h2⟩ hx
        · exact h2
      · obtain ⟨e, he, f1, p, u, f2, f3, f4⟩ := h.sup i v hi hv hvt
        refine ⟨e, he, f1, p, u, f2, f3, ?_⟩
        rcases Int.lt_or_le (u + e.2.2) v with h2 | h2
        · exact absurd ⟨e, he, p, i, u, v, f2, f1, f3, hv, by omega, h2⟩ hx
        · omega
termination_by k d h hk => (d.map Int.toNat).sum
decreasing_by omega
theorem dist_ex {n : Nat} {l : List Ed} {s : Nat} (hl : EdsOk n l) (hs : s < n) : ∃ d, IsDist n l s d := by
  refine Wk.ex hl hs _ ((List.replicate n (4611686018427387904 : Int)).set s 0) ⟨by simp, by rw [List.getElem?_set, if_pos rfl, if_pos (by simpa using hs)], fun i v hv => ?_, fun i v hi hv hvt => ?_⟩ (Nat.le_refl _)
  · rw [List.getElem?_set] at hv
    split at hv
    · split at hv
      · cases hv; exact .inr ⟨by omega, by omega⟩
      · cases hv
    · rw [List.getElem?_replicate] at hv
      split at hv
      · cases hv; exact .inl rfl
      · cases hv
  · rw [List.getElem?_set, if_neg (Ne.symm hi), List.getElem?_replicate] at hv
    split at hv
    · cases hv; omega
    · cases hv
noncomputable def distR (n : Nat) (l : List Ed) (s : Nat) : List Int := open Classical in if h : ∃ d, IsDist n l s d then h.choose else []
theorem distR_is {n : Nat} {l : List Ed} {s : Nat} (hl : EdsOk n l) (hs : s < n) : IsDist n l s (distR n l s) := by
  have h := dist_ex hl hs
  unfold distR
  rw [dif_pos h]
  exact h.choose_spec
end Go.Proofs.Ytonkkibnigdfbaa
