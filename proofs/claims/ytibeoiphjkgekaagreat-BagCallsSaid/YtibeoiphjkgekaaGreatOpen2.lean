/-
  Arguments opened, further kinds: a struct of three int64 by value; a slice of ints.
-/
import Derived.ChangeSlices
import Derived.Test.YtibeoiphjkgekaaGreatOpen
namespace Go.Proofs.YtibeoiphjkgekaaGreat
namespace B
open Go.RowKit Go.ChangeShapes Go.WideShapes Go.Deep Go.Joins
def numE (k : IntKind) (x : Int) : List Value := [.int k x]
theorem numE_len (k : IntKind) (x : Int) : (numE k x).length = 1 := rfl
section
variable {H : Type} {enc : TypeId × Value → H} {P : Program} {w : World} {base : Nat} {spare : Nat → Bool} {held : Bool}
theorem open_tri {r : Reach} {b0 : Nat} {t : TypeId} {f0 f1 f2 : Field} {v : Value} {d : DataW H} {p : List MemPlace} (ht : P.underlying t = some (.struct #[f0, f1, f2]))
    (hone : oneCellFields P #[f0, f1, f2] = true) (hC : P.cellsOf t = 3) (h0 : P.underlying f0.type = some (.int .i64)) (h1 : P.underlying f1.type = some (.int .i64)) (h2 : P.underlying f2.type = some (.int .i64))
    (hv : Value.okWide P w r b0 t v) (h : DataW.Trod enc P w base spare held t v d p) :
    ∃ a b c, v = .agg #[.int .i64 a, .int .i64 b, .int .i64 c] ∧ (-9223372036854775808 ≤ a ∧ a ≤ 9223372036854775807) ∧ (-9223372036854775808 ≤ b ∧ b ≤ 9223372036854775807) ∧ (-9223372036854775808 ≤ c ∧ c ≤ 9223372036854775807) := by
  obtain ⟨v0, v1, v2, y0, y1, y2, n, rfl, _, _, g0, g1, g2⟩ := open_agg3 ht hone hC hv h
  obtain ⟨a, e0, _, w0⟩ := DataW.trod_int h0 g0
  obtain ⟨b, e1, _, w1⟩ := DataW.trod_int h1 g1
  obtain ⟨c, e2, _, w2⟩ := DataW.trod_int h2 g2
  cases e0; cases e1; cases e2
  exact ⟨a, b, c, rfl, wf_bounds w0, wf_bounds w1, wf_bounds w2⟩
theorem open_nums {r : Reach} {b0 : Nat} {t e : TypeId} {k : IntKind} {v : Value} {d : DataW H} {p : List MemPlace} (ht : P.underlying t = some (.slice e)) (he : P.underlying e = some (.int k)) (hC : P.cellsOf e = 1)
    (hv : Value.okWide P w r b0 t v) (h : DataW.Trod enc P w base spare held t v d p) :
    ∃ A n c l, v = .slice A n c ∧ Rd w 1 (numE k) A n l ∧ n ≤ c ∧ c ≤ 9223372036854775807 ∧ ∀ x ∈ l, (Lit.int k x).wf = true := by
  obtain ⟨A0, n0, c0, rfl⟩ := okWide_slice ht hv
  obtain ⟨fuel, hf⟩ := h
  rcases open_ints ht he hC hf with ⟨hcs, _⟩ | ⟨a, len, cap, zs, hcs, hb, hl, hm, hlen, _, hcell, hwf⟩
  · simp [Value.cells] at hcs
    obtain ⟨rfl, rfl, rfl⟩ := hcs
    exact ⟨none, 0, 0, [], rfl, ⟨rfl, fun h => absurd h (by omega)⟩, Nat.le_refl _, by omega, fun xs h => by cases h⟩
  · simp [Value.cells] at hcs
    obtain ⟨rfl, rfl, rfl⟩ := hcs
    have hlm : n0 ≤ zs.length := by rw [hlen]; split <;> omega
    refine ⟨some a, n0, c0, zs.take n0, rfl, ⟨by simp; omega, fun hn => ?_⟩, hl, by rw [← maxLen_num]; exact hm, fun x hx => hwf x (List.mem_of_mem_take hx)⟩
    obtain ⟨b, o, sp⟩ := a
    have hc0 := hcell 0 (by omega)
    have hsp : sp = none := by simpa [Addr.add] using World.cell?_spot hc0
    subst hsp
    refine ⟨b, o, rfl, by simpa using block_lt_of_cell (by simpa [Addr.add] using hc0), fun i x hx j u hu => ?_⟩
    cases j with
    | succ j => simp [numE] at hu
    | zero =>
      simp [numE] at hu
      subst hu
      rw [List.getElem?_take] at hx
      split at hx
      · rename_i hi
        have := hcell i (by omega)
        rw [List.getD_eq_getElem?_getD, hx] at this
        rw [← show (⟨b, o, none⟩ : Addr).add i = ⟨b, o + i * 1 + 0, none⟩ from by unfold Addr.add; split <;> simp_all]
        exact this
      · cases hx
end
end B
end Go.Proofs.YtibeoiphjkgekaaGreat
