/-
  Arguments opened: a slice of whatever can be read element by element; a struct of a number and a struct of two numbers.
-/
import Derived.Test.YtapfndjaimfcaaaOpen
import Derived.Test.YtapfndjaimfcaaaRow
namespace Go.Proofs.Ytapfndjaimfcaaa
namespace B
open Go.RowKit Go.ChangeShapes Go.WideShapes Go.Deep Go.Joins
section
variable {H : Type} {encH : TypeId × Value → H} {P : Program} {w : World} {base : Nat} {spare : Nat → Bool} {held : Bool}
/-- a slice whose elements are read by `dec` -/
theorem open_sl {α : Type} [Inhabited α] {enc : α → List Value} {ok : α → Prop} {size : Nat} {r : Reach} {b0 : Nat} {t e : TypeId} {v : Value} {d : DataW H} {p : List MemPlace} (ht : P.underlying t = some (.slice e)) (hC : P.cellsOf e = size) (hpos : 0 < size) (hes : ∀ x, (enc x).length = size)
    (dec : ∀ (sp : Nat → Bool) (hd : Bool) (fuel : Nat) (cs : List Value) (x : DataW H × List MemPlace), DataW.trod encH P w base sp hd fuel e cs = some x → cs.length = size → ∃ y, cs = enc y ∧ ok y)
    (hv : Value.okWide P w r b0 t v) (h : DataW.Trod encH P w base spare held t v d p) :
    ∃ A n c l, v = .slice A n c ∧ Rd w size enc A n l ∧ n ≤ c ∧ c ≤ 9223372036854775807 ∧ ∀ x ∈ l, ok x := by
  obtain ⟨A0, n0, c0, rfl⟩ := okWide_slice ht hv
  obtain ⟨fuel, hf⟩ := h
  rcases open_slice ht hf with ⟨hcs, _⟩ | ⟨a, len, cap, m, n, D, Pl, hcs, hb, hl, hm, hmm, _, hi⟩
  · simp [Value.cells] at hcs
    obtain ⟨rfl, rfl, rfl⟩ := hcs
    exact ⟨none, 0, 0, [], rfl, ⟨rfl, fun h => absurd h (by omega)⟩, Nat.le_refl _, by omega, fun x h => by cases h⟩
  · simp [Value.cells] at hcs
    obtain ⟨rfl, rfl, rfl⟩ := hcs
    have hlm : n0 ≤ m := by rw [hmm]; split <;> omega
    have key : ∀ i, i < n0 → ∃ y : α, ok y ∧ ∀ (j : Nat) (u : Value), (enc y)[j]? = some u → w.cell? (a.add (i * size + j)) = some u := by
      intro i hin
      obtain ⟨cs', hc, ht'⟩ := hi i (by omega)
      rw [hC] at hc
      obtain ⟨_, hcl, hat⟩ := World.cells?_some hc
      obtain ⟨y, rfl, hy⟩ := dec _ _ _ _ _ ht' (by omega)
      refine ⟨y, hy, fun j u hu => ?_⟩
      have hj := (List.getElem?_eq_some_iff.1 hu).1
      rw [← add_add, hat j (by rw [hes] at hj; exact hj)]
      exact hu
    obtain ⟨L, hL⟩ := choose_lt key
    refine ⟨some a, n0, c0, (List.range n0).map L, rfl, ⟨by simp, fun hn => ?_⟩, hl, by rw [← maxLen_num]; exact hm, fun x hx => ?_⟩
    · obtain ⟨b, o, sp⟩ := a
      have h00 := hL 0 hn
      have hc0 : w.cell? ((⟨b, o, sp⟩ : Addr).add (0 * size + 0)) = some ((enc (L 0))[0]'(by rw [hes]; exact hpos)) := h00.2 0 _ (List.getElem?_eq_getElem _)
      have hsp : sp = none := by simpa [Addr.add] using World.cell?_spot hc0
      subst hsp
      refine ⟨b, o, rfl, by simpa using block_lt_of_cell (by simpa [Addr.add] using hc0), fun i x hx j u hu => ?_⟩
      rw [List.getElem?_map] at hx
      obtain ⟨i', hi', rfl⟩ := Option.map_eq_some_iff.1 hx
      obtain ⟨hlt, rfl⟩ := List.getElem?_eq_some_iff.1 hi'
      simp at hlt
      have := (hL i hlt).2 j u (by simpa using hu)
      rw [← this]
      congr 1
      unfold Addr.add
      split
      · rename_i h0; simp; try omega
      · simp [Nat.add_assoc]
    · obtain ⟨i, hi', rfl⟩ := List.mem_map.1 hx
      exact (hL i (List.mem_range.1 hi')).1
/-- slices of structs of a number and a struct of two numbers -/
theorem open_nest {r : Reach} {b0 : Nat} {t e : TypeId} {f0 f1 g0 g1 : Field} {v : Value} {d : DataW H} {p : List MemPlace} (ht : P.underlying t = some (.slice e)) (he : P.underlying e = some (.struct #[f0, f1])) (hC : P.cellsOf e = 3)
    (h0 : P.underlying f0.type = some (.int .i64)) (h1 : P.underlying f1.type = some (.struct #[g0, g1])) (o : (f0.offset, P.cellsOf f0.type, f1.offset, P.cellsOf f1.type) = (0, 1, 1, 2)) (q : (g0.offset, P.cellsOf g0.type, g1.offset, P.cellsOf g1.type) = (0, 1, 1, 1))
    (u0 : P.underlying g0.type = some (.int .i64)) (u1 : P.underlying g1.type = some (.int .i64)) (hv : Value.okWide P w r b0 t v) (h : DataW.Trod encH P w base spare held t v d p) :
    ∃ A n c l, v = .slice A n c ∧ Rd w 3 tripE A n l ∧ n ≤ c ∧ c ≤ 9223372036854775807 ∧ ∀ x ∈ l, (Lit.int .i64 x.1).wf = true ∧ (Lit.int .i64 x.2.1).wf = true ∧ (Lit.int .i64 x.2.2).wf = true := by
  refine open_sl ht hC (by decide) (fun x => rfl) (fun sp hd fuel cs x hx hl => ?_) hv h
  obtain ⟨a, b, c, rfl⟩ : ∃ a b c, cs = [a, b, c] := by
    match cs, hl with
    | [a, b, c], _ => exact ⟨a, b, c, rfl⟩
  simp only [Prod.mk.injEq] at o q
  obtain ⟨o1, o2, o3, o4⟩ := o
  obtain ⟨q1, q2, q3, q4⟩ := q
  obtain ⟨ys, n', _, _, _, hyl, hfl⟩ := DataW.trod_struct he hx
  have s0 := hfl 0 f0 rfl
  have s1 := hfl 1 f1 rfl
  simp only [o1, o2, o3, o4, List.drop_zero, List.drop_succ_cons, List.take_succ_cons, List.take_zero] at s0 s1
  rw [List.getElem?_eq_getElem (by rw [hyl]; simp)] at s0 s1
  obtain ⟨x0, e0, _, w0⟩ := DataW.trod_int h0 s0
  obtain ⟨zs, n2, _, _, _, hzl, hf2⟩ := DataW.trod_struct h1 s1
  have t0 := hf2 0 g0 rfl
  have t1 := hf2 1 g1 rfl
  simp only [q1, q2, q3, q4, List.drop_zero, List.drop_succ_cons, List.take_succ_cons, List.take_zero] at t0 t1
  rw [List.getElem?_eq_getElem (by rw [hzl]; simp)] at t0 t1
  obtain ⟨x1, e1, _, w1⟩ := DataW.trod_int u0 t0
  obtain ⟨x2, e2, _, w2⟩ := DataW.trod_int u1 t1
  cases e0; cases e1; cases e2
  exact ⟨(x0, x1, x2), rfl, w0, w1, w2⟩
end
end B
end Go.Proofs.Ytapfndjaimfcaaa
