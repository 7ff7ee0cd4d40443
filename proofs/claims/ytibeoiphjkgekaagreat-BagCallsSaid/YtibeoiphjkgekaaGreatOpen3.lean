/-
  Arguments opened: a slice of structs of three int64 (the third of any signed kind of 64 bits).
-/
import Derived.Test.YtibeoiphjkgekaaGreatOpen
import Derived.Test.YtibeoiphjkgekaaGreatRow
namespace Go.Proofs.YtibeoiphjkgekaaGreat
namespace B
open Go.RowKit Go.ChangeShapes Go.WideShapes Go.Deep Go.Joins
section
variable {H : Type} {enc : TypeId × Value → H} {P : Program} {w : World} {base : Nat} {spare : Nat → Bool} {held : Bool}
theorem open_trips {r : Reach} {b0 : Nat} {t e : TypeId} {f0 f1 f2 : Field} {v : Value} {d : DataW H} {p : List MemPlace} (ht : P.underlying t = some (.slice e)) (he : P.underlying e = some (.struct #[f0, f1, f2]))
    (hone : oneCellFields P #[f0, f1, f2] = true) (hC : P.cellsOf e = 3) (h0 : P.underlying f0.type = some (.int .i64)) (h1 : P.underlying f1.type = some (.int .i64)) (h2 : P.underlying f2.type = some (.int .i64))
    (hv : Value.okWide P w r b0 t v) (h : DataW.Trod enc P w base spare held t v d p) :
    ∃ A n c l, v = .slice A n c ∧ Rd w 3 tripE A n l ∧ n ≤ c ∧ c ≤ 9223372036854775807 ∧ ∀ x ∈ l, (Lit.int .i64 x.1).wf = true ∧ (Lit.int .i64 x.2.1).wf = true ∧ (Lit.int .i64 x.2.2).wf = true := by
  obtain ⟨A, n, c, L, rfl, hr, hc, hc2, hL⟩ := open_recs ht he hone hC (fun j f hj => by
    match j, hj with
    | 0, hj => cases hj; exact h0
    | 1, hj => cases hj; exact h1
    | 2, hj => cases hj; exact h2
    | j + 3, hj => simp at hj) (by simp) hv h
  refine ⟨A, n, c, L.map fun xs => (xs.getD 0 0, xs.getD 1 0, xs.getD 2 0), rfl, hr.conv _ (fun xs hxs => ?_), hc, hc2, fun x hx => ?_⟩
  · obtain ⟨hl, _⟩ := hL xs hxs
    match xs, hl with
    | [x, y, z], _ => rfl
  · obtain ⟨xs, hxs, rfl⟩ := List.mem_map.1 hx
    obtain ⟨hl, hw⟩ := hL xs hxs
    match xs, hl with
    | [x, y, z], _ => exact ⟨hw x (by simp), hw y (by simp), hw z (by simp)⟩
end
end B
end Go.Proofs.YtibeoiphjkgekaaGreat
