/-
  Plain words: pairs and triples: which may be, which beats which, which is told ahead.
-/
import Derived.Test.YtibeoiphjkgekaaGreatBagPlain
import Derived.Test.YtibeoiphjkgekaaGreatBase
namespace Go.Proofs.YtibeoiphjkgekaaGreat
namespace K
open Go
abbrev P2 := Int × Int
abbrev P3 := Int × Int × Int
def may2 (p : P2) : Bool := decide (0 ≤ p.1 ∧ p.1 ≤ 1099511627776 ∧ 0 ≤ p.2 ∧ p.2 ≤ 16)
def beats2 (a b : P2) : Bool := decide (a.1 ≤ b.1 ∧ a.2 ≤ b.2 ∧ a ≠ b)
def cmpI (x y : Int) : Int := if x < y then -1 else if y < x then 1 else 0
def or2 (a b : Int) : Int := if a ≠ 0 then a else b
def cmp2 (a b : P2) : Int := or2 (cmpI a.2 b.2) (cmpI a.1 b.1)
def may3 (t : P3) : Bool := decide (0 ≤ t.1 ∧ t.1 ≤ 1099511627776 ∧ t.1 ≤ t.2.1) && may2 t.2
def beats3 (a b : P3) : Bool := decide (b.1 ≤ a.1 ∧ a.2.1 ≤ b.2.1 ∧ a.2.2 ≤ b.2.2 ∧ a ≠ b)
def cmp3 (a b : P3) : Int := or2 (cmpI a.1 b.1) (cmp2 a.2 b.2)
def lt2 (a b : P2) : Bool := decide (cmp2 a b < 0)
def lt3 (a b : P3) : Bool := decide (cmp3 a b < 0)
theorem cmpI_lt {x y : Int} : cmpI x y < 0 ↔ x < y := by unfold cmpI; split <;> (try split) <;> omega
theorem cmpI_zero {x y : Int} : cmpI x y = 0 ↔ x = y := by unfold cmpI; split <;> (try split) <;> omega
theorem or2_lt {a b : Int} : or2 a b < 0 ↔ a < 0 ∨ a = 0 ∧ b < 0 := by unfold or2; split <;> omega
theorem lt2_iff {a b : P2} : lt2 a b = true ↔ a.2 < b.2 ∨ a.2 = b.2 ∧ a.1 < b.1 := by
  unfold lt2 cmp2
  rw [decide_eq_true_eq, or2_lt, cmpI_lt, cmpI_zero, cmpI_lt]
theorem lt3_iff {a b : P3} : lt3 a b = true ↔ a.1 < b.1 ∨ a.1 = b.1 ∧ (a.2.2 < b.2.2 ∨ a.2.2 = b.2.2 ∧ a.2.1 < b.2.1) := by
  unfold lt3 cmp3
  rw [decide_eq_true_eq, or2_lt, cmpI_lt, cmpI_zero]
  have := @lt2_iff a.2 b.2
  unfold lt2 at this
  rw [decide_eq_true_eq] at this
  rw [this]
theorem beats2_iff {a b : P2} : beats2 a b = true ↔ a.1 ≤ b.1 ∧ a.2 ≤ b.2 ∧ (a.1 ≠ b.1 ∨ a.2 ≠ b.2) := by
  unfold beats2
  rw [decide_eq_true_eq, Ne, Prod.ext_iff]
  omega
theorem beats3_iff {a b : P3} : beats3 a b = true ↔ b.1 ≤ a.1 ∧ a.2.1 ≤ b.2.1 ∧ a.2.2 ≤ b.2.2 ∧ (a.1 ≠ b.1 ∨ a.2.1 ≠ b.2.1 ∨ a.2.2 ≠ b.2.2) := by
  unfold beats3
  rw [decide_eq_true_eq, Ne, Prod.ext_iff, Prod.ext_iff]
  omega
theorem bfalse {b : Bool} {p : Prop} (h : b = true ↔ p) (hp : ¬ p) : b = false := by
  cases b with
  | false => rfl
  | true => exact absurd (h.1 rfl) hp
theorem ords2 : Ords beats2 lt2 where
  irr a := bfalse beats2_iff (by omega)
  tr a b c h1 h2 := by rw [beats2_iff] at *; omega
  lirr a := bfalse lt2_iff (by omega)
  ltr a b c h1 h2 := by rw [lt2_iff] at *; omega
  conn a b := by
    rw [lt2_iff, lt2_iff, Prod.ext_iff]; omega
theorem ords3 : Ords beats3 lt3 where
  irr a := bfalse beats3_iff (by omega)
  tr a b c h1 h2 := by rw [beats3_iff] at *; omega
  lirr a := bfalse lt3_iff (by omega)
  ltr a b c h1 h2 := by rw [lt3_iff] at *; omega
  conn a b := by
    rw [lt3_iff, lt3_iff, Prod.ext_iff, Prod.ext_iff]; omega
/-- the least pairs, the least triples -/
def L2 (l : List P2) : List P2 := least may2 beats2 lt2 l
def L3 (l : List P3) : List P3 := least may3 beats3 lt3 l



end K
end Go.Proofs.YtibeoiphjkgekaaGreat
