/-
  A region that draws its order and whose callees make memory of their own: one walk, in the class of the worlds in which what lay below a mark is as it was.
-/
import Derived.BigQuiet
import Derived.Test.YtibeoiphjkgekaaGreatBase
namespace Go.Proofs.YtibeoiphjkgekaaGreat
namespace B
open Go.RowKit
theorem wp_region_below {P : Program} {id : Nat} {Q : Exit → Act → World → Prop} {a : Act} {w : World} {l : List Oper} (N : Nat) (hm : P.follows .mixedOrders = true) (hB : Region.lexB .any l.toArray = true)
    (h : ∀ C : World → Prop, (C = fun w' => Below N w w') → wpQuiet P l.toArray C (fun a' => ∀ w', Below N w w' → Q .normal a' w') l a) : (Code.region id l.toArray true).wp P Q a w :=
  wp_region_quiet (C := fun w' => Below N w w') hm hB ⟨rfl, rfl, rfl, Nat.le_refl _, fun _ _ => rfl⟩ (by simpa using h _ rfl)
/-- three numbers in a block of their own -/
structure Box3 (w : World) (b : Nat) (f v n : Int) : Prop where
  lt : b < w.heap.size
  c0 : w.cell? ⟨b, 0, none⟩ = some (.int .i64 f)
  c1 : w.cell? ⟨b, 1, none⟩ = some (.int .i64 v)
  c2 : w.cell? ⟨b, 2, none⟩ = some (.int .i64 n)
theorem Box3.below {w w' : World} {b N : Nat} {f v n : Int} (h : Box3 w b f v n) (hb : Below N w w') (hN : b < N) : Box3 w' b f v n :=
  ⟨Nat.lt_of_lt_of_le h.lt hb.size, (hb.cell (p := ⟨b, 0, none⟩) hN).trans h.c0, (hb.cell (p := ⟨b, 1, none⟩) hN).trans h.c1, (hb.cell (p := ⟨b, 2, none⟩) hN).trans h.c2⟩
end B
end Go.Proofs.YtibeoiphjkgekaaGreat
