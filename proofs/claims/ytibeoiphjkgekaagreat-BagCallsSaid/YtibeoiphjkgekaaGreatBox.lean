/-
  Numbers in a block of their own.
-/
import Derived.Test.YtibeoiphjkgekaaGreatBase
import Derived.Test.YtibeoiphjkgekaaGreatGrew
import Derived.Test.YtibeoiphjkgekaaGreatAnyOrder
namespace Go.Proofs.YtibeoiphjkgekaaGreat
namespace B
open Go.RowKit
/-- three numbers in a block of their own -/
structure Bx3 (w : World) (b : Nat) (f v n : Int) : Prop where
  lt : b < w.heap.size
  c0 : w.cell? ⟨b, 0, none⟩ = some (.int .i64 f)
  c1 : w.cell? ⟨b, 1, none⟩ = some (.int .i64 v)
  c2 : w.cell? ⟨b, 2, none⟩ = some (.int .i64 n)
theorem Bx3.below {w w' : World} {b : Nat} {f v n : Int} (h : Bx3 w b f v n) (hb : Below w.heap.size w w') : Bx3 w' b f v n :=
  ⟨Nat.lt_of_lt_of_le h.lt hb.size, (hb.cell (p := ⟨b, 0, none⟩) h.lt).trans h.c0, (hb.cell (p := ⟨b, 1, none⟩) h.lt).trans h.c1, (hb.cell (p := ⟨b, 2, none⟩) h.lt).trans h.c2⟩
/-- two numbers -/
structure Bx2 (w : World) (b : Nat) (f v : Int) : Prop where
  lt : b < w.heap.size
  c0 : w.cell? ⟨b, 0, none⟩ = some (.int .i64 f)
  c1 : w.cell? ⟨b, 1, none⟩ = some (.int .i64 v)
theorem Bx2.below {w w' : World} {b : Nat} {f v : Int} (h : Bx2 w b f v) (hb : Below w.heap.size w w') : Bx2 w' b f v :=
  ⟨Nat.lt_of_lt_of_le h.lt hb.size, (hb.cell (p := ⟨b, 0, none⟩) h.lt).trans h.c0, (hb.cell (p := ⟨b, 1, none⟩) h.lt).trans h.c1⟩
theorem Bx3.new (w : World) (t : TypeId) (f v n : Int) : Bx3 (w.alloc (.cells #[.int .i64 f, .int .i64 v, .int .i64 n] t)) w.heap.size f v n := by
  have h := heap_alloc_new w (.cells #[.int .i64 f, .int .i64 v, .int .i64 n] t)
  exact ⟨by simp, by rw [cell_of_row _ _ _ _ _ _ h]; rfl, by rw [cell_of_row _ _ _ _ _ _ h]; rfl, by rw [cell_of_row _ _ _ _ _ _ h]; rfl⟩
theorem Bx2.new (w : World) (t : TypeId) (f v : Int) : Bx2 (w.alloc (.cells #[.int .i64 f, .int .i64 v] t)) w.heap.size f v := by
  have h := heap_alloc_new w (.cells #[.int .i64 f, .int .i64 v] t)
  exact ⟨by simp, by rw [cell_of_row _ _ _ _ _ _ h]; rfl, by rw [cell_of_row _ _ _ _ _ _ h]; rfl⟩
theorem relGrew : Rel Grew := ⟨Grew.refl, fun _ _ _ => Grew.trans, fun w => (Grew.refl w).drew⟩
end B
end Go.Proofs.YtibeoiphjkgekaaGreat
