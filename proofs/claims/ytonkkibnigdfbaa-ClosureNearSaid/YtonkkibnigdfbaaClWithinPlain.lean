/-
  Plain law of ClosureWithin: what lies within so much of a row.
-/
import Derived.Test.YtonkkibnigdfbaaClLen
import Derived.Test.YtonkkibnigdfbaaSortN
namespace Go.Proofs.Ytonkkibnigdfbaa
open Go.RowKit Go.Shelf B K
set_option linter.unusedVariables false
set_option linter.unusedSimpArgs false
/-- a row of near stops: the nearest first, each stop once, all of them near -/
structure RowOk (r : W.Row) : Prop where
  srt : r.Pairwise fun a b => a.1 ≤ b.1
  nd : (r.map Prod.snd).Nodup
  rng : ∀ x ∈ r, 0 ≤ x.1 ∧ x.1 ≤ 1099511627776
def upTo (r : W.Row) (m : Int) : W.Row := r.filter fun x => decide (x.1 ≤ m)
theorem within_upTo (r : W.Row) (m : Int) : withinR r m = (upTo r m).map Prod.snd := rfl
theorem upTo_srt {r : W.Row} (h : r.Pairwise fun a b => a.1 ≤ b.1) (m : Int) : (upTo r m).Pairwise fun a b => a.1 ≤ b.1 := h.filter _
theorem upTo_none {r : W.Row} {m : Int} (h : ∀ x ∈ r, m < x.1) : upTo r m = [] := by
  unfold upTo
  rw [List.filter_eq_nil_iff]
  intro x hx
  have := h x hx
  simp; omega
theorem upTo_prefix {r : W.Row} (h : r.Pairwise fun a b => a.1 ≤ b.1) (m : Int) : upTo r m <+: r := by
  induction r with
  | nil => exact List.prefix_refl _
  | cons x t ih =>
    obtain ⟨h1, h2⟩ := List.pairwise_cons.1 h
    by_cases hx : x.1 ≤ m
    · unfold upTo
      rw [List.filter_cons_of_pos (by simpa using hx)]
      obtain ⟨s, hs⟩ := ih h2
      exact ⟨s, by rw [List.cons_append]; exact congrArg (x :: ·) hs⟩
    · rw [upTo_none (fun y hy => ?_)]
      · exact List.nil_prefix
      · rcases List.mem_cons.1 hy with rfl | hy
        · omega
        · have := h1 y hy; omega
theorem upTo_upTo {r : W.Row} {p q : Int} (h : p ≤ q) : upTo (upTo r q) p = upTo r p := by
  unfold upTo
  rw [List.filter_filter]
  refine List.filter_congr fun x _ => ?_
  by_cases hx : x.1 ≤ p
  · have : x.1 ≤ q := by omega
    simp [hx, this]
  · simp [hx]
theorem within_take {r : W.Row} (h : RowOk r) {p q : Int} (hpq : p ≤ q) : withinR r p = (withinR r q).take (withinR r p).length := by
  rw [within_upTo, within_upTo, ← upTo_upTo hpq]
  exact List.prefix_iff_eq_take.1 ((upTo_prefix (upTo_srt h.srt q) p).map Prod.snd)
theorem within_le {r : W.Row} (h : RowOk r) {p q : Int} (hpq : p ≤ q) : (withinR r p).length ≤ (withinR r q).length := by
  rw [within_upTo, within_upTo, ← upTo_upTo hpq]
  exact ((upTo_prefix (upTo_srt h.srt q) p).map Prod.snd).length_le
theorem upTo_lt {r : W.Row} (h : r.Pairwise fun a b => a.1 ≤ b.1) {m : Int} {i : Nat} {z : It} (hz : r[i]? = some z) : i < (upTo r m).length ↔ z.1 ≤ m := by
  induction r generalizing i with
  | nil => cases hz
  | cons x t ih =>
    obtain ⟨h1, h2⟩ := List.pairwise_cons.1 h
    by_cases hx : x.1 ≤ m
    · unfold upTo
      rw [List.filter_cons_of_pos (by simpa using hx), List.length_cons]
      cases i with
      | zero => simp at hz; subst hz; simp [hx]
      | succ j =>
        rw [List.getElem?_cons_succ] at hz
        have := ih h2 hz
        unfold upTo at this
        omega
    · rw [upTo_none (fun y hy => ?_)]
      · constructor
        · intro hi; simp at hi
        · intro hz1
          rcases List.mem_cons.1 (List.mem_of_getElem? hz) with rfl | hy
          · exact absurd hz1 hx
          · have := h1 z hy; omega
      · rcases List.mem_cons.1 hy with rfl | hy
        · omega
        · have := h1 y hy; omega
theorem fP_of {r : W.Row} (h : (r.map Prod.snd).Nodup) {z : It} (hz : z ∈ r) : fP r z.2 = some z.1 := by
  induction r with
  | nil => cases hz
  | cons x t ih =>
    rw [List.map_cons, List.nodup_cons] at h
    unfold fP
    by_cases hx : x.2 = z.2
    · rcases List.mem_cons.1 hz with rfl | hzt
      · simp
      · exact absurd (by rw [hx]; exact List.mem_map_of_mem hzt) h.1
    · rcases List.mem_cons.1 hz with rfl | hzt
      · exact absurd rfl hx
      · rw [List.find?_cons_of_neg (by simpa using hx)]
        exact ih h.2 hzt
theorem fP_mem {r : W.Row} {b v : Int} (h : fP r b = some v) : (v, b) ∈ r := by
  unfold fP at h
  obtain ⟨z, hz, rfl⟩ := Option.map_eq_some_iff.1 h
  have h2 := List.find?_some hz
  simp at h2
  have h1 := List.mem_of_find?_eq_some hz
  rw [← h2]; exact h1
/-- the i-th of what lies within: its length, the row's order -/
theorem within_at {r : W.Row} (h : RowOk r) {q y : Int} {i : Nat} (hy : (withinR r q)[i]? = some y) : ∃ z, (upTo r q)[i]? = some z ∧ z.2 = y ∧ lenR r y = z.1 ∧ z.1 ≤ q ∧ 0 ≤ z.1 := by
  rw [within_upTo, List.getElem?_map] at hy
  obtain ⟨z, hz, rfl⟩ := Option.map_eq_some_iff.1 hy
  have hm := List.mem_of_getElem? hz
  obtain ⟨h1, h2⟩ := List.mem_filter.1 hm
  refine ⟨z, hz, rfl, ?_, by simpa using h2, (h.rng z h1).1⟩
  unfold lenR; rw [fP_of h.nd h1]; rfl
theorem within_lt {r : W.Row} (h : RowOk r) {p q y : Int} {i : Nat} (hpq : p ≤ q) (hy : (withinR r q)[i]? = some y) : i < (withinR r p).length ↔ lenR r y ≤ p := by
  obtain ⟨z, hz, _, hl, _⟩ := within_at h hy
  rw [hl, within_upTo, List.length_map, ← upTo_upTo hpq]
  exact upTo_lt (upTo_srt h.srt q) hz
theorem within_mono {r : W.Row} (h : RowOk r) {q y y' : Int} {i : Nat} (hy : (withinR r q)[i]? = some y) (hy' : (withinR r q)[i + 1]? = some y') : lenR r y ≤ lenR r y' := by
  obtain ⟨z, hz, _, hl, _⟩ := within_at h hy
  obtain ⟨z', hz', _, hl', _⟩ := within_at h hy'
  rw [hl, hl']
  have hi := (List.getElem?_eq_some_iff.1 hz)
  have hi' := (List.getElem?_eq_some_iff.1 hz')
  obtain ⟨h1, rfl⟩ := hi
  obtain ⟨h2, rfl⟩ := hi'
  exact List.pairwise_iff_getElem.1 (upTo_srt h.srt q) i (i + 1) h1 h2 (by omega)
theorem within_nd {r : W.Row} (h : RowOk r) (q : Int) : (withinR r q).Nodup := by
  rw [within_upTo]
  exact h.nd.sublist (List.Sublist.map _ List.filter_sublist)
theorem within_mem {r : W.Row} (h : RowOk r) {q b : Int} : b ∈ withinR r q ↔ lenR r b ≤ q ∧ lenR r b < W.inf := by
  rw [within_upTo, List.mem_map]
  constructor
  · rintro ⟨z, hz, rfl⟩
    obtain ⟨h1, h2⟩ := List.mem_filter.1 hz
    have := (h.rng z h1).2
    unfold lenR; rw [fP_of h.nd h1]
    exact ⟨by simpa using h2, by show z.1 < 4611686018427387904; omega⟩
  · rintro ⟨h1, h2⟩
    unfold lenR at h1 h2
    cases hf : fP r b with
    | none => rw [hf] at h2; simp at h2
    | some v =>
      rw [hf] at h1
      exact ⟨(v, b), List.mem_filter.2 ⟨fP_mem hf, by simpa using h1⟩, rfl⟩
end Go.Proofs.Ytonkkibnigdfbaa
