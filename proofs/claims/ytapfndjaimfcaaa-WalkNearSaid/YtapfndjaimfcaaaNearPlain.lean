/-
  Plain laws for WalkNear: which stops have an edge by which they are so far; a way, edge by edge.
-/
import Derived.Test.YtapfndjaimfcaaaRank
namespace Go.Proofs.Ytapfndjaimfcaaa
open K
set_option linter.unusedVariables false
set_option linter.unusedSimpArgs false
def hitP (d : List Int) (i : Nat) (e : Ed) : Bool := decide (e.2.1 = (i : Int)) && (decide (d[e.1.toNat]?.getD 0 + e.2.2 ≤ 1099511627776) && decide (d[i]?.getD 0 = d[e.1.toNat]?.getD 0 + e.2.2))
def hasL (n : Nat) (l : List Ed) (d : List Int) (s k : Nat) : List Bool := (List.range n).map fun i => decide (i = s) || (l.take k).any (hitP d i)
theorem hasL_len (n : Nat) (l : List Ed) (d : List Int) (s k : Nat) : (hasL n l d s k).length = n := by simp [hasL]
theorem hasL_at {n : Nat} {l : List Ed} {d : List Int} {s k i : Nat} (hi : i < n) : (hasL n l d s k)[i]? = some (decide (i = s) || (l.take k).any (hitP d i)) := by
  unfold hasL
  rw [List.getElem?_map, List.getElem?_range hi]
  rfl
theorem hasL_zero (n s : Nat) (l : List Ed) (d : List Int) (hs : s < n) : hasL n l d s 0 = (List.replicate n false).set s true := by
  refine List.ext_getElem? fun i => ?_
  by_cases hi : i < n
  · rw [hasL_at hi, List.getElem?_set]
    by_cases h : s = i
    · subst h; simp [hs]
    · rw [if_neg h, List.getElem?_replicate, if_pos hi, decide_eq_false (fun e => h e.symm)]
      simp
  · rw [List.getElem?_eq_none (by rw [hasL_len]; omega), List.getElem?_eq_none (by simp; omega)]
theorem hasL_same {n : Nat} {l : List Ed} {d : List Int} {s k : Nat} {e : Ed} (he : l[k]? = some e) (hno : ∀ i, hitP d i e = false) : hasL n l d s (k + 1) = hasL n l d s k := by
  unfold hasL
  congr 1
  funext i
  rw [B.take_at he, List.any_append]
  simp [hno i]
theorem hasL_set {n : Nat} {l : List Ed} {d : List Int} {s k b : Nat} {e : Ed} {h : Bool} (he : l[k]? = some e) (hb : e.2.1 = (b : Int)) (hbn : b < n) (hh : (hasL n l d s k)[b]? = some h) : hasL n l d s (k + 1) = (hasL n l d s k).set b (h || hitP d b e) := by
  refine List.ext_getElem? fun i => ?_
  by_cases hi : i < n
  · rw [hasL_at hi, List.getElem?_set, B.take_at he, List.any_append]
    by_cases hbi : b = i
    · subst hbi
      rw [hasL_at hi] at hh
      rw [if_pos rfl, if_pos (by rw [hasL_len]; exact hi), ← Option.some.inj hh]
      simp [Bool.or_assoc]
    · rw [if_neg hbi, hasL_at hi]
      have : hitP d i e = false := by
        unfold hitP
        rw [decide_eq_false (by omega)]; rfl
      simp [this]
  · rw [List.getElem?_eq_none (by rw [hasL_len]; omega), List.getElem?_eq_none (by rw [List.length_set, hasL_len]; omega)]
theorem hasL_all {n s : Nat} {l : List Ed} {d : List Int} (h : IsDist n l s d) (hl : EdsOk n l) {i : Nat} {v : Int} (hv : d[i]? = some v) : (hasL n l d s l.length)[i]? = some (decide (v ≠ 4611686018427387904)) := by
  have hi : i < n := by rw [← h.len]; exact (List.getElem?_eq_some_iff.1 hv).1
  rw [hasL_at hi]
  congr 1
  rw [Bool.eq_iff_iff, List.take_length]
  simp only [Bool.or_eq_true, decide_eq_true_eq, List.any_eq_true]
  constructor
  · rintro (rfl | ⟨e, he, hp⟩)
    · rw [h.s0] at hv; cases hv; decide
    · unfold hitP at hp
      rw [hv] at hp
      simp only [Bool.and_eq_true, decide_eq_true_eq, Option.getD_some] at hp
      omega
  · intro hne
    by_cases his : i = s
    · exact .inl his
    · have hr := h.rng i v hv
      obtain ⟨e, he, e2, p, u, e1, hp, hs⟩ := h.sup i v his hv (by omega)
      refine .inr ⟨e, he, ?_⟩
      unfold hitP
      rw [e1, Int.toNat_natCast, hp, hv]
      simp only [Bool.and_eq_true, decide_eq_true_eq, Option.getD_some]
      omega
/-- a way's stop is told by its edges -/
theorem WayTo.at_uniq {l : List Ed} {d : List Int} {s a b : Nat} {O : List Int} (h : WayTo l d s a O) (h' : WayTo l d s b O) : a = b := by
  cases h with
  | nil =>
    cases h' with
    | nil => rfl
  | cons _ hi hx _ _ =>
    cases h' with
    | cons _ hi' hx' _ _ =>
      rw [hx] at hx'
      cases hx'
      have h1 := idx_spec hi hx
      have h2 := idx_spec hi' hx
      unfold stepP at h1 h2
      simp only [Bool.and_eq_true, decide_eq_true_eq] at h1 h2
      omega
theorem WayTo.suffix {l : List Ed} {d : List Int} {s : Nat} : ∀ {pre : List Int} {t : Nat} {j : Int} {suf : List Int}, WayTo l d s t (pre ++ j :: suf) →
    ∃ (k t1 t' : Nat) (e : Ed), j = (k : Int) ∧ l[k]? = some e ∧ e.1 = (t' : Int) ∧ stepP d t1 e = true ∧ WayTo l d s t' suf ∧ WayTo l d s t1 (j :: suf)
  | [], t, j, suf, h => by
    cases h with
    | @cons t t' k e ks hts hi hx he hw => exact ⟨k, t, t', e, rfl, hx, he, idx_spec hi hx, hw, .cons hts hi hx he hw⟩
  | p :: pre, t, j, suf, h => by
    rw [List.cons_append] at h
    cases h with
    | cons _ _ _ _ hw => exact WayTo.suffix hw
theorem rev_split {O : List Int} {i : Nat} {j : Int} (h : O.reverse[i]? = some j) : ∃ pre, O = pre ++ j :: (O.reverse.take i).reverse := by
  refine ⟨(O.reverse.drop (i + 1)).reverse, ?_⟩
  have e := (List.take_append_drop i O.reverse).symm
  rw [B.drop_at h] at e
  have e2 := congrArg List.reverse e
  rw [List.reverse_reverse, List.reverse_append, List.reverse_cons] at e2
  rw [List.append_assoc] at e2
  exact e2
/-- one edge of a way -/
theorem WayTo.walk {n s t : Nat} {l : List Ed} {d : List Int} {O : List Int} (hl : EdsOk n l) (h : IsDist n l s d) (hw : WayTo l d s t O) {i : Nat} {j : Int} (hj : O.reverse[i]? = some j) {at' : Nat} (ha : WayTo l d s at' (O.reverse.take i).reverse) {u : Int} (hu : d[at']? = some u) :
    ∃ (k t1 : Nat) (e : Ed) (v : Int), j = (k : Int) ∧ l[k]? = some e ∧ e.1 = (at' : Int) ∧ e.2.1 = (t1 : Int) ∧ d[t1]? = some v ∧ u + e.2.2 = v ∧ WayTo l d s t1 (O.reverse.take (i + 1)).reverse := by
  obtain ⟨pre, hO⟩ := rev_split hj
  rw [hO] at hw
  obtain ⟨k, t1, t', e, hk, hx, he, hp, hw', hw1⟩ := hw.suffix
  obtain rfl := hw'.at_uniq ha
  have hb := hl e (List.mem_of_getElem? hx)
  unfold stepP at hp
  simp only [Bool.and_eq_true, decide_eq_true_eq] at hp
  obtain ⟨p1, p2, p3⟩ := hp
  obtain ⟨v, hv⟩ := h.get (i := t1) (by omega)
  rw [he, Int.toNat_natCast, hu, hv] at p3
  refine ⟨k, t1, e, v, hk, hx, he, p1, hv, p3, ?_⟩
  rw [B.take_at hj, List.reverse_append]
  exact hw1
end Go.Proofs.Ytapfndjaimfcaaa
