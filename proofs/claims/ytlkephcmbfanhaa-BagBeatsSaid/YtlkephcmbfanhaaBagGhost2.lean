/-
  What the world is while two pairs are made and written in a drawn region (BagBeats).
-/
import Derived.Test.YtlkephcmbfanhaaBag9
import Derived.Test.YtlkephcmbfanhaaAnyGhost
namespace Go.Proofs.Ytlkephcmbfanhaa
open Go.RowKit B K Go.Shelf
set_option linter.unusedVariables false
set_option linter.unusedSimpArgs false
theorem beats2_irr (a : P2) : beats2 a a = false := bfalse beats2_iff (by omega)
theorem beats3_irr (a : P3) : beats3 a a = false := bfalse beats3_iff (by omega)
theorem beats2_asy (a b : P2) : (beats2 a b && beats2 b a) = false := by
  cases h : beats2 a b <;> cases h2 : beats2 b a <;> simp
  rw [beats2_iff] at h h2; omega
theorem beats3_asy (a b : P3) : (beats3 a b && beats3 b a) = false := by
  cases h : beats3 a b <;> cases h2 : beats3 b a <;> simp
  rw [beats3_iff] at h h2; omega
theorem beats3_two (d x2 x3 y2 y3 : Int) : beats3 (d, x2, x3) (d, y2, y3) = beats2 (x2, x3) (y2, y3) := by
  rw [Bool.eq_iff_iff, beats3_iff, beats2_iff]
  simp only
  omega
theorem pair_set {w : World} {b : Nat} {v0 v1 u0 u1 : Value} {t : TypeId} (h : w.heap[b]? = some (.cells #[v0, v1] t (0, 0))) :
    w.frozen? ⟨b, 0, none⟩ = false ∧ w.frozen? ⟨b, 1, none⟩ = false ∧ ((w.setCell ⟨b, 0, none⟩ u0).setCell ⟨b, 1, none⟩ u1).heap[b]? = some (.cells #[u0, u1] t (0, 0)) ∧
    (∀ j, j ≠ b → ((w.setCell ⟨b, 0, none⟩ u0).setCell ⟨b, 1, none⟩ u1).heap[j]? = w.heap[j]?) := by
  have hb := (Array.getElem?_eq_some_iff.1 h).1
  refine ⟨by simp [World.frozen?, h], by simp [World.frozen?, h], ?_, fun j hj => ?_⟩
  · have e : w.heap[b] = .cells #[v0, v1] t (0, 0) := by rw [Array.getElem?_eq_getElem hb] at h; exact Option.some.inj h
    simp [World.setCell, h, hb, Array.getElem_modify, e]
  · rw [Below.heap_setCell _ _ _ _ (by simpa using hj), Below.heap_setCell _ _ _ _ (by simpa using hj)]
/-- the two blocks -/
def GB (w0 : World) (p q : P2) (l : Nat → Bool) (x : Nat → Value) (w : World) : Prop :=
  Below w0.heap.size w0 w ∧ (l 12 = true → l 10 = true) ∧ (l 13 = true → l 11 = true) ∧
  (l 10 = true → ∃ k, x 10 = .pointer (some ⟨k, 0, none⟩) ∧ w0.heap.size ≤ k ∧ (∃ u v, w.heap[k]? = some (.cells #[.int .i64 u, .int .i64 v] 26 (0, 0)) ∧ (l 12 = true → (u, v) = p))) ∧
  (l 11 = true → ∃ k, x 11 = .pointer (some ⟨k, 0, none⟩) ∧ w0.heap.size ≤ k ∧ (∃ u v, w.heap[k]? = some (.cells #[.int .i64 u, .int .i64 v] 26 (0, 0)) ∧ (l 13 = true → (u, v) = q))) ∧
  (l 10 = true → l 11 = true → x 10 ≠ x 11)
section
variable {w0 w w' : World} {p q : P2} {l : Nat → Bool} {x : Nat → Value} {v : Value}
theorem GB.up (h : GB w0 p q l x w) (hb : Below w.heap.size w w') : GB w0 p q l x w' := by
  obtain ⟨g1, g2, g3, g4, g5, g6⟩ := h
  refine ⟨g1.trans (hb.mono g1.size), g2, g3, fun h => ?_, fun h => ?_, g6⟩
  · obtain ⟨k, e, hk, u, z, hu, hp⟩ := g4 h
    exact ⟨k, e, hk, u, z, (hb.block k (Array.getElem?_eq_some_iff.1 hu).1).trans hu, hp⟩
  · obtain ⟨k, e, hk, u, z, hu, hp⟩ := g5 h
    exact ⟨k, e, hk, u, z, (hb.block k (Array.getElem?_eq_some_iff.1 hu).1).trans hu, hp⟩
theorem GB.s10 (h : GB w0 p q l x w) (hl : l 10 = false) : GB w0 p q (updB l 10) (upd x 10 (.pointer (some ⟨w.heap.size, 0, none⟩))) (w.alloc (.cells #[.int .i64 0, .int .i64 0] 26)) := by
  obtain ⟨g1, g2, g3, g4, g5, g6⟩ := h.up ((Below.refl _ w).alloc (Nat.le_refl _) (.cells #[.int .i64 0, .int .i64 0] 26))
  have e12 : l 12 = false := by cases e : l 12 with
    | false => rfl
    | true => rw [g2 e] at hl; cases hl
  refine ⟨g1, fun _ => rfl, g3, fun _ => ⟨w.heap.size, rfl, h.1.size, 0, 0, heap_alloc_new w _, fun h => ?_⟩, g5, fun _ h11 => ?_⟩
  · rw [show updB l 10 12 = l 12 from rfl, e12] at h; cases h
  · obtain ⟨k, e, _, u, z, hu, _⟩ := h.2.2.2.2.1 h11
    show (.pointer (some ⟨w.heap.size, 0, none⟩) : Value) ≠ x 11
    rw [e]
    have := (Array.getElem?_eq_some_iff.1 hu).1
    intro e; cases e; omega
theorem GB.s11 (h : GB w0 p q l x w) (hl : l 11 = false) : GB w0 p q (updB l 11) (upd x 11 (.pointer (some ⟨w.heap.size, 0, none⟩))) (w.alloc (.cells #[.int .i64 0, .int .i64 0] 26)) := by
  obtain ⟨g1, g2, g3, g4, g5, g6⟩ := h.up ((Below.refl _ w).alloc (Nat.le_refl _) (.cells #[.int .i64 0, .int .i64 0] 26))
  have e13 : l 13 = false := by cases e : l 13 with
    | false => rfl
    | true => rw [g3 e] at hl; cases hl
  refine ⟨g1, g2, fun _ => rfl, g4, fun _ => ⟨w.heap.size, rfl, h.1.size, 0, 0, heap_alloc_new w _, fun h => ?_⟩, fun h10 _ => ?_⟩
  · rw [show updB l 11 13 = l 13 from rfl, e13] at h; cases h
  · obtain ⟨k, e, _, u, z, hu, _⟩ := h.2.2.2.1 h10
    show x 10 ≠ (.pointer (some ⟨w.heap.size, 0, none⟩) : Value)
    rw [e]
    have := (Array.getElem?_eq_some_iff.1 hu).1
    intro e; cases e; omega
theorem GB.s12 (h : GB w0 p q l x w) (h10 : l 10 = true) {k : Nat} (ek : x 10 = .pointer (some ⟨k, 0, none⟩)) (hw : ∀ j, j ≠ k → w'.heap[j]? = w.heap[j]?) (hk : w'.heap[k]? = some (.cells #[.int .i64 p.1, .int .i64 p.2] 26 (0, 0))) (hb : Below w0.heap.size w w') : GB w0 p q (updB l 12) (upd x 12 v) w' := by
  obtain ⟨g1, g2, g3, g4, g5, g6⟩ := h
  obtain ⟨k', e, hk', _⟩ := g4 h10
  refine ⟨g1.trans hb, fun _ => h10, g3, fun _ => ⟨k, ek, by rw [ek] at e; cases e; exact hk', p.1, p.2, hk, fun _ => rfl⟩, fun h11 => ?_, g6⟩
  obtain ⟨k2, e2, hk2, u, z, hu, hq⟩ := g5 h11
  have hne := g6 h10 h11
  exact ⟨k2, e2, hk2, u, z, (hw k2 (fun h => hne (by rw [ek, e2, h]))).trans hu, hq⟩
theorem GB.s13 (h : GB w0 p q l x w) (h11 : l 11 = true) {k : Nat} (ek : x 11 = .pointer (some ⟨k, 0, none⟩)) (hw : ∀ j, j ≠ k → w'.heap[j]? = w.heap[j]?) (hk : w'.heap[k]? = some (.cells #[.int .i64 q.1, .int .i64 q.2] 26 (0, 0))) (hb : Below w0.heap.size w w') : GB w0 p q (updB l 13) (upd x 13 v) w' := by
  obtain ⟨g1, g2, g3, g4, g5, g6⟩ := h
  obtain ⟨k', e, hk', _⟩ := g5 h11
  refine ⟨g1.trans hb, g2, fun _ => h11, fun h10 => ?_, fun _ => ⟨k, ek, by rw [ek] at e; cases e; exact hk', q.1, q.2, hk, fun _ => rfl⟩, g6⟩
  obtain ⟨k2, e2, hk2, u, z, hu, hq⟩ := g4 h10
  have hne := g6 h10 h11
  exact ⟨k2, e2, hk2, u, z, (hw k2 (fun h => hne (by rw [ek, e2, h]))).trans hu, hq⟩
theorem GB.start {x : Nat → Value} {l : Nat → Bool} (h10 : l 10 = false) (h11 : l 11 = false) (h12 : l 12 = false) (h13 : l 13 = false) (hb : Below w0.heap.size w0 w) : GB w0 p q l x w :=
  ⟨hb, (by rw [h12]; intro h; cases h), (by rw [h13]; intro h; cases h), (by rw [h10]; intro h; cases h), (by rw [h11]; intro h; cases h), (by rw [h10]; intro h; cases h)⟩
end
/-- three triples and two pairs in blocks of their own -/
structure BB (w : World) (A B C k q : Nat) (a1 a2 a3 d1 d2 d3 f1 f2 f3 : Int) : Prop where
  b1 : Bx3 w A a1 a2 a3
  b2 : Bx3 w B d1 d2 d3
  b3 : Bx3 w C f1 f2 f3
  p1 : Bx2 w k a2 a3
  p2 : Bx2 w q d2 d3
theorem BB.below {w w' : World} {A B C k q : Nat} {a1 a2 a3 d1 d2 d3 f1 f2 f3 : Int} (h : BB w A B C k q a1 a2 a3 d1 d2 d3 f1 f2 f3) (hb : Below w.heap.size w w') : BB w' A B C k q a1 a2 a3 d1 d2 d3 f1 f2 f3 :=
  ⟨h.b1.below hb, h.b2.below hb, h.b3.below hb, h.p1.below hb, h.p2.below hb⟩
theorem BB.cells {w : World} {A B C k q : Nat} {a1 a2 a3 d1 d2 d3 f1 f2 f3 : Int} (h : BB w A B C k q a1 a2 a3 d1 d2 d3 f1 f2 f3) :
    w.cell? ⟨A, 0, none⟩ = some (.int .i64 a1) ∧ w.cell? ⟨A, 1, none⟩ = some (.int .i64 a2) ∧ w.cell? ⟨A, 2, none⟩ = some (.int .i64 a3) ∧
    w.cell? ⟨B, 0, none⟩ = some (.int .i64 d1) ∧ w.cell? ⟨B, 1, none⟩ = some (.int .i64 d2) ∧ w.cell? ⟨B, 2, none⟩ = some (.int .i64 d3) ∧
    w.cell? ⟨C, 0, none⟩ = some (.int .i64 f1) ∧ w.cell? ⟨C, 1, none⟩ = some (.int .i64 f2) ∧ w.cell? ⟨C, 2, none⟩ = some (.int .i64 f3) ∧
    w.cell? ⟨k, 0, none⟩ = some (.int .i64 a2) ∧ w.cell? ⟨k, 1, none⟩ = some (.int .i64 a3) ∧ w.cell? ⟨q, 0, none⟩ = some (.int .i64 d2) ∧ w.cell? ⟨q, 1, none⟩ = some (.int .i64 d3) :=
  ⟨h.b1.c0, h.b1.c1, h.b1.c2, h.b2.c0, h.b2.c1, h.b2.c2, h.b3.c0, h.b3.c1, h.b3.c2, h.p1.c0, h.p1.c1, h.p2.c0, h.p2.c1⟩
end Go.Proofs.Ytlkephcmbfanhaa
