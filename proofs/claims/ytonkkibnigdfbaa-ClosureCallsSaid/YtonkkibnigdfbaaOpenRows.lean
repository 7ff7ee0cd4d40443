/-
  Arguments opened: rows of rows of near stops.
-/
import Derived.Test.YtonkkibnigdfbaaNearV
namespace Go.Proofs.Ytonkkibnigdfbaa
namespace B
open Go.RowKit Go.ChangeShapes Go.WideShapes Go.Deep Go.Joins
set_option linter.unusedVariables false
section
variable {H : Type} {encH : TypeId × Value → H} {P : Program} {w : World} {base : Nat} {spare : Nat → Bool} {held : Bool}
/-- a slice of pairs of numbers, each well formed -/
theorem pairsW {t e : TypeId} {f0 f1 : Field} {fuel : Nat} {cs : List Value} {x : DataW H × List MemPlace} (ht : P.underlying t = some (.slice e)) (he : P.underlying e = some (.struct #[f0, f1])) (hone : oneCellFields P #[f0, f1] = true) (hC : P.cellsOf e = 2)
    (h0 : P.underlying f0.type = some (.int .i64)) (h1 : P.underlying f1.type = some (.int .i64)) (hf : DataW.trod encH P w base spare held fuel t cs = some x) :
    ∃ A n c l, cs = [.slice A n c] ∧ Rd w 2 pairE A n l ∧ n ≤ c ∧ c ≤ 9223372036854775807 ∧ ∀ x ∈ l, (Lit.int .i64 x.1).wf = true ∧ (Lit.int .i64 x.2).wf = true := by
  obtain ⟨A, n, c, rfl, hc, hc2, hi⟩ := eachC ht hC (by omega) hf
  have key : ∀ i, i < n → ∃ y : Int × Int, ((Lit.int .i64 y.1).wf = true ∧ (Lit.int .i64 y.2).wf = true) ∧ ∀ (j : Nat) (u : Value), (pairE y)[j]? = some u → ∃ b o, A = some ⟨b, o, none⟩ ∧ b < w.heap.size ∧ w.cell? ⟨b, o + i * 2 + j, none⟩ = some u := by
    intro i hin
    obtain ⟨b, o, cs', fuel', x', rfl, hb, hcl, hat, ht'⟩ := hi i hin
    obtain ⟨a, z, rfl⟩ : ∃ a z, cs' = [a, z] := by
      match cs', hcl with
      | [a, z], _ => exact ⟨a, z, rfl⟩
    obtain ⟨y0, y1, n', _, _, s0, s1⟩ := trod_struct2 he ht'
    obtain ⟨o0, k0⟩ := hone_of hone 0 f0 rfl
    obtain ⟨o1, k1⟩ := hone_of hone 1 f1 rfl
    rw [o0, k0] at s0
    rw [o1, k1] at s1
    simp only [List.drop_zero, List.drop_succ_cons, List.take_succ_cons, List.take_zero] at s0 s1
    obtain ⟨u0, e0, _, w0⟩ := DataW.trod_int h0 s0
    obtain ⟨u1, e1, _, w1⟩ := DataW.trod_int h1 s1
    cases e0; cases e1
    exact ⟨(u0, u1), ⟨w0, w1⟩, fun j u hu => ⟨b, o, rfl, hb, hat j u hu⟩⟩
  obtain ⟨L, hL⟩ := choose_lt key
  refine ⟨A, n, c, (List.range n).map L, rfl, ⟨by simp, fun hn => ?_⟩, hc, hc2, fun x hx => ?_⟩
  · obtain ⟨b, o, _, _, _, rfl, hb, _⟩ := hi 0 hn
    refine ⟨b, o, rfl, hb, fun i y hy j u hu => ?_⟩
    rw [List.getElem?_map] at hy
    obtain ⟨i', hi', rfl⟩ := Option.map_eq_some_iff.1 hy
    obtain ⟨hlt, rfl⟩ := List.getElem?_eq_some_iff.1 hi'
    simp at hlt
    obtain ⟨b', o', e, _, h3⟩ := (hL i hlt).2 j u (by simpa using hu)
    cases e
    exact h3
  · obtain ⟨i, hi', rfl⟩ := List.mem_map.1 hx
    exact (hL i (List.mem_range.1 hi')).1
/-- rows of rows -/
theorem open_rows {r : Reach} {b0 : Nat} {t e el : TypeId} {f0 f1 : Field} {v : Value} {d : DataW H} {p : List MemPlace} (ht : P.underlying t = some (.slice e)) (hC : P.cellsOf e = 1) (he : P.underlying e = some (.slice el)) (hel : P.underlying el = some (.struct #[f0, f1])) (hone : oneCellFields P #[f0, f1] = true) (hCe : P.cellsOf el = 2)
    (h0 : P.underlying f0.type = some (.int .i64)) (h1 : P.underlying f1.type = some (.int .i64)) (hv : Value.okWide P w r b0 t v) (h : DataW.Trod encH P w base spare held t v d p) :
    ∃ (C : List W.Row) (A : Option Addr) (n c : Nat), v = .slice A n c ∧ RRows w C A n ∧ n ≤ c ∧ c ≤ 9223372036854775807 ∧ ∀ l ∈ C, ∀ x ∈ l, (Lit.int .i64 x.1).wf = true ∧ (Lit.int .i64 x.2).wf = true := by
  obtain ⟨A0, n0, c0, rfl⟩ := okWide_slice ht hv
  obtain ⟨fuel, hf⟩ := h
  obtain ⟨A, n, c, ea, hc, hc2, hi⟩ := eachC ht hC (by omega) hf
  simp [Value.cells] at ea
  obtain ⟨rfl, rfl, rfl⟩ := ea
  have keyA : ∀ i, i < n0 → ∃ l : W.Row, (∀ x ∈ l, (Lit.int .i64 x.1).wf = true ∧ (Lit.int .i64 x.2).wf = true) ∧ ∃ b o sA sn sc, A0 = some ⟨b, o, none⟩ ∧ b < w.heap.size ∧ w.cell? ⟨b, o + i, none⟩ = some (.slice sA sn sc) ∧ Rd w 2 pairE sA sn l ∧ sn ≤ sc ∧ sc ≤ 9223372036854775807 := by
    intro i hin
    obtain ⟨b, o, cs', fuel', x', rfl, hb, hcl, hat, ht'⟩ := hi i hin
    obtain ⟨sA, sn, sc, l, rfl, hr, h1, h2, h3⟩ := pairsW he hel hone hCe h0 h1 ht'
    refine ⟨l, h3, b, o, sA, sn, sc, rfl, hb, ?_, hr, h1, h2⟩
    have := hat 0 _ rfl
    rwa [Nat.mul_one, Nat.add_zero] at this
  obtain ⟨LA, hLA⟩ := choose_lt keyA
  refine ⟨(List.range n0).map LA, A0, n0, c0, rfl, ⟨by simp, fun k l hl => ?_⟩, hc, hc2, fun l hl => ?_⟩
  · rw [List.getElem?_map] at hl
    obtain ⟨i', hi', rfl⟩ := Option.map_eq_some_iff.1 hl
    obtain ⟨hlt, rfl⟩ := List.getElem?_eq_some_iff.1 hi'
    simp at hlt
    have := (hLA k hlt).2
    simpa using this
  · obtain ⟨i, hi', rfl⟩ := List.mem_map.1 hl
    exact (hLA i (List.mem_range.1 hi')).1
end
end B
end Go.Proofs.Ytonkkibnigdfbaa
