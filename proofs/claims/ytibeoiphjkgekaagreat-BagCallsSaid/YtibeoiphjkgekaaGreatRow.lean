/-
  Rows handed back; rows of triples; owned rows carried over what a call leaves.
-/
import Derived.Test.YtibeoiphjkgekaaGreatMem3
namespace Go.Proofs.YtibeoiphjkgekaaGreat
namespace B
open Go.RowKit
/-- a row handed back, in whatever memory; what was there is as it was -/
def RetR {α : Type} (size : Nat) (enc : α → List Value) (w : World) (l : List α) (e : Ending) (w' : World) : Prop :=
  ∃ A c, e = .returned (.slice A l.length c) ∧ Rd w' size enc A l.length l ∧ l.length ≤ c ∧ c ≤ 9223372036854775807 ∧ Below w.heap.size w w'
theorem RetR.mk {α : Type} {size : Nat} {enc : α → List Value} {w w' : World} {l : List α} {e : Ending} (A : Option Addr) (c : Nat) (h : e = .returned (.slice A l.length c)) (r : Rd w' size enc A l.length l) (hc : l.length ≤ c) (hc2 : c ≤ 9223372036854775807) (hb : Below w.heap.size w w') :
    RetR size enc w l e w' := ⟨A, c, h, r, hc, hc2, hb⟩
theorem own_up {w w' : World} {base size n : Nat} {e : TypeId} {v : Value} {xs : List Value} (h : w.ownsRow base e size v n xs) (hb : Below w.heap.size w w') : w'.ownsRow base e size v n xs :=
  own_keep h fun k hk => hb.block k (h.lt k hk).2
/-- three numbers a row: a triple's cells -/
def tripE (t : Int × Int × Int) : List Value := [.int .i64 t.1, .int .i64 t.2.1, .int .i64 t.2.2]
theorem tripE_len (t : Int × Int × Int) : (tripE t).length = 3 := rfl
theorem pairE_one (x : Int × Int) : ∀ u ∈ pairE x, u.oneCell' = true := fun u hu => by simp [pairE] at hu; rcases hu with rfl | rfl <;> rfl
theorem tripE_one (x : Int × Int × Int) : ∀ u ∈ tripE x, u.oneCell' = true := fun u hu => by simp [tripE] at hu; rcases hu with rfl | rfl | rfl <;> rfl
theorem pairE_len2 (p : Int × Int) : (pairE p).length = 2 := rfl
theorem Rd.trip {w : World} {n k : Nat} {A : Option Addr} {l : List (Int × Int × Int)} (h : Rd w 3 tripE A n l) (hk : k < n) : ∃ b o x y z, A = some ⟨b, o, none⟩ ∧ b < w.heap.size ∧ l[k]? = some (x, y, z) ∧
    w.cell? ⟨b, o + k * 3, none⟩ = some (.int .i64 x) ∧ w.cell? ⟨b, o + k * 3 + 1, none⟩ = some (.int .i64 y) ∧ w.cell? ⟨b, o + k * 3 + 2, none⟩ = some (.int .i64 z) := by
  obtain ⟨b, o, rfl, hb, hc⟩ := h.cells (by omega)
  have hl : k < l.length := by rw [h.len]; exact hk
  have hx : l[k]? = some l[k] := List.getElem?_eq_getElem hl
  exact ⟨b, o, l[k].1, l[k].2.1, l[k].2.2, rfl, hb, hx, hc k _ hx 0 _ rfl, hc k _ hx 1 _ rfl, hc k _ hx 2 _ rfl⟩
end B
end Go.Proofs.YtibeoiphjkgekaaGreat
