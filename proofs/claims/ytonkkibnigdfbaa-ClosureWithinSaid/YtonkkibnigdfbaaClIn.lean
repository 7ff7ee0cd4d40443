/-
  Plain: a set of int as a map to 1; how far the last one was.
-/
import Derived.Test.YtonkkibnigdfbaaClWithinPlain
namespace Go.Proofs.Ytonkkibnigdfbaa
open Go.RowKit Go.Shelf B K
set_option linter.unusedVariables false
set_option linter.unusedSimpArgs false
def inF (L : List Int) : Int → Option Int := fun b => if b ∈ L then some 1 else none
theorem inF_nil : inF [] = fun _ => none := by funext b; simp [inF]
theorem inF_snoc (L : List Int) (y : Int) : inF (L ++ [y]) = updI (inF L) y 1 := by
  funext b
  unfold inF updI
  by_cases h : b = y
  · subst h; simp
  · simp [h]
theorem inF_none {L : List Int} {y : Int} (h : y ∉ L) : inF L y = none := by simp [inF, h]
theorem inF_some {L : List Int} {y : Int} (h : y ∈ L) : inF L y = some 1 := by simp [inF, h]
/-- how far the last of the first k is -/
def wasF (r : W.Row) (Y : List Int) : Nat → Int
  | 0 => -1
  | k + 1 => lenR r ((Y[k]?).getD 0)
theorem wasF_le {r : W.Row} (h : RowOk r) {q y : Int} {k : Nat} (hy : (withinR r q)[k]? = some y) : wasF r (withinR r q) k ≤ lenR r y := by
  cases k with
  | zero =>
    obtain ⟨z, _, _, hl, _, h0⟩ := within_at h hy
    show (-1 : Int) ≤ _
    omega
  | succ j =>
    have hj : j < (withinR r q).length := by have := (List.getElem?_eq_some_iff.1 hy).1; omega
    show lenR r (((withinR r q)[j]?).getD 0) ≤ _
    rw [List.getElem?_eq_getElem hj]
    exact within_mono h (List.getElem?_eq_getElem hj) hy
theorem wasF_next {r : W.Row} {Y : List Int} {y : Int} {k : Nat} (hy : Y[k]? = some y) : wasF r Y (k + 1) = lenR r y := by
  show lenR r ((Y[k]?).getD 0) = _
  rw [hy]; rfl
theorem nd_take {Y : List Int} {y : Int} {k : Nat} (h : Y.Nodup) (hy : Y[k]? = some y) : y ∉ Y.take k := by
  intro hm
  obtain ⟨j, hj⟩ := List.getElem?_of_mem hm
  have hjk : j < k := by
    have := (List.getElem?_eq_some_iff.1 hj).1
    rw [List.length_take] at this; omega
  rw [List.getElem?_take, if_pos hjk] at hj
  obtain ⟨h1, h1'⟩ := List.getElem?_eq_some_iff.1 hy
  obtain ⟨h2, h2'⟩ := List.getElem?_eq_some_iff.1 hj
  exact (List.pairwise_iff_getElem.1 h j k h2 h1 hjk) (by rw [h1', h2'])
end Go.Proofs.Ytonkkibnigdfbaa
