/-
  Walk: timetablekit.Pick; a ghost of one store in a drawn region.
-/
import Derived.Test.YtonkkibnigdfbaaSpS
namespace Go.Proofs.Ytonkkibnigdfbaa
open Go.RowKit Go.Shelf B K
set_option linter.unusedVariables false
set_option linter.unusedSimpArgs false
set_option maxHeartbeats 2000000
theorem pick_any (a m : Int) (w : World) (hm : 1 ≤ m ∧ m ≤ 1099511627776) (ha : -9223372036854775808 ≤ a ∧ a ≤ 9223372036854775807) :
    Calls Try.prog 21 #[.int .i64 a, .int .i64 m] w fun e w' => ∃ k : Nat, e = .returned (.int .i64 (k : Int)) ∧ (k : Int) < m ∧ Below w.heap.size w w' := by
  have h0 : decide (m < 1) = false := decide_eq_false (by omega)
  have h1 : a.tmod m < m := Int.tmod_lt_of_pos a (by omega)
  have h2 : -m < a.tmod m := by
    rcases Int.le_total 0 a with h | h
    · have := Int.tmod_nonneg (b := m) h; omega
    · have h1 := Int.tmod_lt_of_pos (-a) (show (0 : Int) < m by omega)
      rw [Int.neg_tmod] at h1; omega
  obtain ⟨q, hq⟩ : ∃ q, a.tmod m = q := ⟨_, rfl⟩
  rw [hq] at h1 h2
  have hm0 : m ≠ 0 := by omega
  have hw : IntKind.i64.wrap (a.tmod m) = q := by rw [hq]; exact IntWalk.i64_in _ (by omega)
  have hw2 : IntKind.i64.wrap q = q := IntWalk.i64_in _ (by omega)
  go_enter Try.func21, Try.ntmps21
  by_cases hneg : q < 0
  · have hw3 : IntKind.i64.wrap (q + m) = q + m := IntWalk.i64_in _ (by omega)
    go_wp2_with fail
    go_returns
    exact ⟨(q + m).toNat, ret_int (by omega), by omega, Below.refl _ _⟩
  · have hneg' : decide (q < 0) = false := decide_eq_false hneg
    go_wp2_with fail
    go_returns
    exact ⟨q.toNat, ret_int (by omega), by omega, Below.refl _ _⟩
/-- one cell stored into, behind two reads -/
structure G1 (w0 : World) (g i : Nat) (y : Value) (r1 r2 st : Bool) (w : World) : Prop where
  os : w0.os = w.os
  tape : w0.tape = w.tape
  output : w0.output = w.output
  c1 : st = true → r1 = true
  c2 : st = true → r2 = true
  mem : w.heap = if st = true then (w0.setCell ⟨g, i, none⟩ y).heap else w0.heap
section
variable {w0 w w' : World} {g i : Nat} {y : Value} {r1 r2 st : Bool}
theorem G1.start (h : st = false) : G1 w0 g i y r1 r2 st { w0 with drawn := w0.drawn + 1 } := by
  subst h
  exact ⟨rfl, rfl, rfl, (fun h => by cases h), (fun h => by cases h), rfl⟩
theorem G1.ahead (h : G1 w0 g i y r1 r2 st w) (hs : st = false) : w.heap = w0.heap := by rw [h.mem, if_neg (by rw [hs]; simp)]
theorem G1.s1 (h : G1 w0 g i y r1 r2 st w) : G1 w0 g i y true r2 st w := ⟨h.os, h.tape, h.output, fun _ => rfl, h.c2, h.mem⟩
theorem G1.s2 (h : G1 w0 g i y r1 r2 st w) : G1 w0 g i y r1 true st w := ⟨h.os, h.tape, h.output, h.c1, fun _ => rfl, h.mem⟩
theorem G1.put (h : G1 w0 g i y r1 r2 st w) (hs : st = false) (h1 : r1 = true) (h2 : r2 = true) : G1 w0 g i y r1 r2 true (w.setCell ⟨g, i, none⟩ y) := by
  refine ⟨h.os, h.tape, h.output, fun _ => h1, fun _ => h2, ?_⟩
  rw [if_pos rfl]
  unfold World.setCell
  simp only [h.ahead hs]
theorem G1.cell (h : G1 w0 g i y r1 r2 st w) (hs : st = false) {p : Addr} {v : Value} (hv : w0.cell? p = some v) : w.cell? p = some v := by
  exact (World.cell?_of_block (by rw [h.ahead hs])).trans hv
theorem G1.frozen (h : G1 w0 g i y r1 r2 st w) (hs : st = false) {p : Addr} {v : Bool} (hv : w0.frozen? p = v) : w.frozen? p = v := by
  rw [← hv]; unfold World.frozen?; rw [h.ahead hs]
end
theorem below_heap {B : Nat} {a w w' : World} (h : Below B a w) (h1 : w.os = w'.os) (h2 : w.tape = w'.tape) (h3 : w.output = w'.output) (h4 : w'.heap = w.heap) : Below B a w' :=
  ⟨h1.symm.trans h.os, h2.symm.trans h.tape, h3.symm.trans h.output, by rw [h4]; exact h.size, fun i hi => by rw [h4]; exact h.block i hi⟩
/-- the i-th of a tuple -/
def tupAt (v : Value) (i : Nat) : Value := match v with | .tuple cs => cs.getD i undef | _ => undef
/-- a call of two results in a drawn region: its tuple, the move, the two extracts, the two assigns -/
structure GC2 (P : Value → World → Prop) (w0 : World) (f6 f7 f8 f9 f10 f11 : Bool) (x6 x7 x8 x9 x10 x11 : Value) (w : World) : Prop where
  bel : Below w0.heap.size w0 w
  c7 : f7 = true → f6 = true
  c8 : f8 = true → f7 = true
  c9 : f9 = true → f7 = true
  c10 : f10 = true → f8 = true
  c11 : f11 = true → f9 = true
  p : f6 = true → P x6 w
  e7 : f7 = true → x7 = x6
  e8 : f8 = true → x8 = tupAt x6 0
  e9 : f9 = true → x9 = tupAt x6 1
  e10 : f10 = true → x10 = tupAt x6 0
  e11 : f11 = true → x11 = tupAt x6 1
section
variable {P : Value → World → Prop} {w0 w w' : World} {f6 f7 f8 f9 f10 f11 : Bool} {x6 x7 x8 x9 x10 x11 v : Value}
theorem GC2.start (h6 : f6 = false) (h7 : f7 = false) (h8 : f8 = false) (h9 : f9 = false) (h10 : f10 = false) (h11 : f11 = false) : GC2 P w0 f6 f7 f8 f9 f10 f11 x6 x7 x8 x9 x10 x11 { w0 with drawn := w0.drawn + 1 } := by
  subst h6 h7 h8 h9 h10 h11
  exact ⟨⟨rfl, rfl, rfl, Nat.le_refl _, fun _ _ => rfl⟩, (fun h => by cases h), (fun h => by cases h), (fun h => by cases h), (fun h => by cases h), (fun h => by cases h), (fun h => by cases h), (fun h => by cases h), (fun h => by cases h), (fun h => by cases h), (fun h => by cases h), (fun h => by cases h)⟩
theorem GC2.call (h : GC2 P w0 f6 f7 f8 f9 f10 f11 x6 x7 x8 x9 x10 x11 w) (hl : f6 = false) (hp : P v w') (hb : Below w.heap.size w w') : GC2 P w0 true f7 f8 f9 f10 f11 v x7 x8 x9 x10 x11 w' := by
  have h7 := bne2 h.c7 hl
  have h8 := bne2 h.c8 h7
  have h9 := bne2 h.c9 h7
  have h10 := bne2 h.c10 h8
  have h11 := bne2 h.c11 h9
  exact ⟨h.bel.trans (hb.mono h.bel.size), fun _ => rfl, h.c8, h.c9, h.c10, h.c11, fun _ => hp, (fun h => by rw [h7] at h; cases h), (fun h => by rw [h8] at h; cases h), (fun h => by rw [h9] at h; cases h), (fun h => by rw [h10] at h; cases h), (fun h => by rw [h11] at h; cases h)⟩
theorem GC2.mv (h : GC2 P w0 f6 f7 f8 f9 f10 f11 x6 x7 x8 x9 x10 x11 w) (h6 : f6 = true) : GC2 P w0 f6 true f8 f9 f10 f11 x6 x6 x8 x9 x10 x11 w :=
  ⟨h.bel, fun _ => h6, fun _ => rfl, fun _ => rfl, h.c10, h.c11, h.p, fun _ => rfl, h.e8, h.e9, h.e10, h.e11⟩
theorem GC2.ex0 (h : GC2 P w0 f6 f7 f8 f9 f10 f11 x6 x7 x8 x9 x10 x11 w) (h7 : f7 = true) (hv : v = tupAt x6 0) : GC2 P w0 f6 f7 true f9 f10 f11 x6 x7 v x9 x10 x11 w :=
  ⟨h.bel, h.c7, fun _ => h7, h.c9, fun _ => rfl, h.c11, h.p, h.e7, fun _ => hv, h.e9, h.e10, h.e11⟩
theorem GC2.ex1 (h : GC2 P w0 f6 f7 f8 f9 f10 f11 x6 x7 x8 x9 x10 x11 w) (h7 : f7 = true) (hv : v = tupAt x6 1) : GC2 P w0 f6 f7 f8 true f10 f11 x6 x7 x8 v x10 x11 w :=
  ⟨h.bel, h.c7, h.c8, fun _ => h7, h.c10, fun _ => rfl, h.p, h.e7, h.e8, fun _ => hv, h.e10, h.e11⟩
theorem GC2.as0 (h : GC2 P w0 f6 f7 f8 f9 f10 f11 x6 x7 x8 x9 x10 x11 w) (h8 : f8 = true) (hv : v = tupAt x6 0) : GC2 P w0 f6 f7 f8 f9 true f11 x6 x7 x8 x9 v x11 w :=
  ⟨h.bel, h.c7, h.c8, h.c9, fun _ => h8, h.c11, h.p, h.e7, h.e8, h.e9, fun _ => hv, h.e11⟩
theorem GC2.as1 (h : GC2 P w0 f6 f7 f8 f9 f10 f11 x6 x7 x8 x9 x10 x11 w) (h9 : f9 = true) (hv : v = tupAt x6 1) : GC2 P w0 f6 f7 f8 f9 f10 true x6 x7 x8 x9 x10 v w :=
  ⟨h.bel, h.c7, h.c8, h.c9, h.c10, fun _ => h9, h.p, h.e7, h.e8, h.e9, h.e10, fun _ => hv⟩
end
end Go.Proofs.Ytonkkibnigdfbaa
