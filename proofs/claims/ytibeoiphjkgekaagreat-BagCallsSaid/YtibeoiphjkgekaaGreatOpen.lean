/-
  Arguments opened: a slice of structs of int64 (int) fields; a struct of such fields; a slice of ints.
-/
import Derived.Deep.Slices
import Derived.Deep.Fields
import Derived.ChangeSame
import Derived.Lib.SmallJoins
import Derived.ProofKit
import Derived.OpenShut
import Derived.Test.YtibeoiphjkgekaaGreatBase
namespace Go.Proofs.YtibeoiphjkgekaaGreat
namespace B
open Go.RowKit Go.ChangeShapes Go.WideShapes Go.Deep
def intsE (xs : List Int) : List Value := xs.map (.int .i64)
theorem wf_bounds {u : Int} (h : (Lit.int .i64 u).wf = true) : -9223372036854775808 ≤ u ∧ u ≤ 9223372036854775807 := by
  exact bounds_i64 h
theorem Rd.conv {α β : Type} {w : World} {size n : Nat} {enc : α → List Value} {enc' : β → List Value} {A : Option Addr} {l : List α} (f : α → β) (hf : ∀ x ∈ l, enc' (f x) = enc x) (h : Rd w size enc A n l) : Rd w size enc' A n (l.map f) :=
  ⟨by rw [List.length_map, h.len], fun hn => by
    obtain ⟨b, o, e, hb, hc⟩ := h.cells hn
    refine ⟨b, o, e, hb, fun i x hx j u hu => ?_⟩
    rw [List.getElem?_map] at hx
    obtain ⟨y, hy, rfl⟩ := Option.map_eq_some_iff.1 hx
    exact hc i y hy j u (by rw [← hf y (List.mem_of_getElem? hy)]; exact hu)⟩
section
variable {H : Type} {enc : TypeId × Value → H} {P : Program} {w : World} {base : Nat} {spare : Nat → Bool} {held : Bool}
theorem open_recs {r : Reach} {b0 : Nat} {t e : TypeId} {fs : Array Field} {v : Value} {d : DataW H} {p : List MemPlace} (ht : P.underlying t = some (.slice e)) (he : P.underlying e = some (.struct fs))
    (hone : oneCellFields P fs = true) (hC : P.cellsOf e = fs.size) (hint : ∀ (j : Nat) (f : Field), fs[j]? = some f → P.underlying f.type = some (.int .i64)) (hpos : 0 < fs.size)
    (hv : Value.okWide P w r b0 t v) (h : DataW.Trod enc P w base spare held t v d p) :
    ∃ A n c L, v = .slice A n c ∧ Rd w fs.size intsE A n L ∧ n ≤ c ∧ c ≤ 9223372036854775807 ∧ ∀ xs ∈ L, xs.length = fs.size ∧ ∀ u ∈ xs, (Lit.int .i64 u).wf = true := by
  obtain ⟨A0, n0, c0, rfl⟩ := okWide_slice ht hv
  obtain ⟨fuel, hf⟩ := h
  rcases open_slice ht hf with ⟨hcs, _⟩ | ⟨a, len, cap, m, n, D, Pl, hcs, hb, hl, hm, hmm, _, hi⟩
  · simp [Value.cells] at hcs
    obtain ⟨rfl, rfl, rfl⟩ := hcs
    exact ⟨none, 0, 0, [], rfl, ⟨rfl, fun h => absurd h (by omega)⟩, Nat.le_refl _, by omega, fun xs h => by cases h⟩
  · simp [Value.cells] at hcs
    obtain ⟨rfl, rfl, rfl⟩ := hcs
    have hlm : n0 ≤ m := by rw [hmm]; split <;> omega
    have key : ∀ i, i < n0 → ∃ xs : List Int, xs.length = fs.size ∧ (∀ u ∈ xs, (Lit.int .i64 u).wf = true) ∧ ∀ (j : Nat) (u : Value), (intsE xs)[j]? = some u → w.cell? (a.add (i * fs.size + j)) = some u := by
      intro i hin
      obtain ⟨cs', hc, ht'⟩ := hi i (by omega)
      rw [hC] at hc
      obtain ⟨ys, n', hn', hy, hlen, hyl, hfl⟩ := DataW.trod_struct he ht'
      obtain ⟨_, hcl, hat⟩ := World.cells?_some hc
      have hfield : ∀ (j : Nat), j < fs.size → ∃ u : Int, cs'[j]? = some (.int .i64 u) ∧ (Lit.int .i64 u).wf = true := by
        intro j hj
        have hjf : fs[j]? = some fs[j] := Array.getElem?_eq_getElem hj
        obtain ⟨ho, hk⟩ := hone_of hone j _ hjf
        have h1 := hfl j _ hjf
        rw [ho, hk] at h1
        have hone' : (cs'.drop j).take 1 = [cs'[j]'(by omega)] := by rw [List.drop_eq_getElem_cons (by omega)]; rfl
        rw [hone', List.getElem?_eq_getElem (by omega : j < ys.length)] at h1
        obtain ⟨u, hu, _, hw⟩ := DataW.trod_int (hint j _ hjf) h1
        exact ⟨u, by rw [List.getElem?_eq_getElem (by omega)]; simpa using hu, hw⟩
      obtain ⟨g, hg⟩ := choose_lt hfield
      refine ⟨(List.range fs.size).map g, by simp, fun u hu => ?_, fun j u hu => ?_⟩
      · obtain ⟨j, hj, rfl⟩ := List.mem_map.1 hu
        exact (hg j (List.mem_range.1 hj)).2
      · have hj : j < fs.size := by have := (List.getElem?_eq_some_iff.1 hu).1; simpa [intsE] using this
        have e : (intsE ((List.range fs.size).map g))[j]? = some (.int .i64 (g j)) := by simp [intsE, hj]
        rw [e] at hu; cases hu
        rw [← add_add, hat j hj, (hg j hj).1]
    obtain ⟨L, hL⟩ := choose_lt key
    refine ⟨some a, n0, c0, (List.range n0).map L, rfl, ⟨by simp, fun hn => ?_⟩, hl, by rw [← maxLen_num]; exact hm, fun xs hxs => ?_⟩
    · obtain ⟨b, o, sp⟩ := a
      have h00 := hL 0 hn
      have hc0 : w.cell? ((⟨b, o, sp⟩ : Addr).add (0 * fs.size + 0)) = some ((intsE (L 0))[0]'(by simp [intsE, h00.1, hpos])) := h00.2.2 0 _ (List.getElem?_eq_getElem _)
      have hsp : sp = none := by simpa [Addr.add] using World.cell?_spot hc0
      subst hsp
      refine ⟨b, o, rfl, by simpa using block_lt_of_cell (by simpa [Addr.add] using hc0), fun i x hx j u hu => ?_⟩
      rw [List.getElem?_map] at hx
      obtain ⟨i', hi', rfl⟩ := Option.map_eq_some_iff.1 hx
      obtain ⟨hlt, rfl⟩ := List.getElem?_eq_some_iff.1 hi'
      simp at hlt
      have := (hL i hlt).2.2 j u (by simpa using hu)
      rw [← this]
      congr 1
      unfold Addr.add
      split
      · rename_i h0; simp; try omega
      · simp [Nat.add_assoc]
    · obtain ⟨i, hi', rfl⟩ := List.mem_map.1 hxs
      exact ⟨(hL i (List.mem_range.1 hi')).1, (hL i (List.mem_range.1 hi')).2.1⟩
/-- pairs -/
theorem open_pairs {r : Reach} {b0 : Nat} {t e : TypeId} {f0 f1 : Field} {v : Value} {d : DataW H} {p : List MemPlace} (ht : P.underlying t = some (.slice e)) (he : P.underlying e = some (.struct #[f0, f1]))
    (hone : oneCellFields P #[f0, f1] = true) (hC : P.cellsOf e = 2) (h0 : P.underlying f0.type = some (.int .i64)) (h1 : P.underlying f1.type = some (.int .i64))
    (hv : Value.okWide P w r b0 t v) (h : DataW.Trod enc P w base spare held t v d p) :
    ∃ A n c l, v = .slice A n c ∧ Rd w 2 pairE A n l ∧ n ≤ c ∧ c ≤ 9223372036854775807 ∧ ∀ x ∈ l, (Lit.int .i64 x.1).wf = true ∧ (Lit.int .i64 x.2).wf = true := by
  obtain ⟨A, n, c, L, rfl, hr, hc, hc2, hL⟩ := open_recs ht he hone hC (fun j f hj => by
    match j, hj with
    | 0, hj => cases hj; exact h0
    | 1, hj => cases hj; exact h1
    | j + 2, hj => simp at hj) (by simp) hv h
  refine ⟨A, n, c, L.map fun xs => (xs.getD 0 0, xs.getD 1 0), rfl, hr.conv _ (fun xs hxs => ?_), hc, hc2, fun x hx => ?_⟩
  · obtain ⟨hl, _⟩ := hL xs hxs
    match xs, hl with
    | [x, y], _ => rfl
  · obtain ⟨xs, hxs, rfl⟩ := List.mem_map.1 hx
    obtain ⟨hl, hw⟩ := hL xs hxs
    match xs, hl with
    | [x, y], _ => exact ⟨hw x (by simp), hw y (by simp)⟩
end
end B
end Go.Proofs.YtibeoiphjkgekaaGreat
