/-
  The reference's heap in memory: a row of items behind a pointer; what the world is while it is made anew by three appends and a store, in a drawn region.
-/
import Derived.Test.YtapfndjaimfcaaaHeap12
import Derived.Test.YtapfndjaimfcaaaAnyGhost
import Derived.Test.YtapfndjaimfcaaaMem3
import Derived.Test.YtapfndjaimfcaaaHead
namespace Go.Proofs.Ytapfndjaimfcaaa
open Go.RowKit Go.Shelf B K
set_option linter.unusedVariables false
set_option linter.unusedSimpArgs false
/-- block hp holds the reference's heap: the items S in order; its blocks are of X -/
def RH (w : World) (hp : Nat) (X : List Nat) (S : List It) : Prop :=
  ∃ A c, w.heap[hp]? = some (.cells #[.slice A S.length c] 69 (0, 0)) ∧ Rd w 2 pairE A S.length S ∧ S.length ≤ c ∧ c ≤ 9223372036854775807 ∧ hp ∈ X ∧ (∀ a, A = some a → a.block ∈ X ∧ a.block ≠ hp) ∧ ∀ x ∈ X, x < w.heap.size
theorem RH.keep {w w' : World} {hp : Nat} {X : List Nat} {S : List It} (H : RH w hp X S) (hs : w.heap.size ≤ w'.heap.size) (hk : ∀ b ∈ X, w'.heap[b]? = w.heap[b]?) : RH w' hp X S := by
  obtain ⟨A, c, h1, h2, h3, h4, h5, h6, h7⟩ := H
  refine ⟨A, c, (hk hp h5).trans h1, ⟨h2.len, fun hn => ?_⟩, h3, h4, h5, h6, fun x hx => Nat.lt_of_lt_of_le (h7 x hx) hs⟩
  obtain ⟨b, o, rfl, hb, hc⟩ := h2.cells hn
  exact ⟨b, o, rfl, by omega, fun i x hx j u hu => (World.cell?_of_block (hk b (h6 ⟨b, o, none⟩ rfl).1)).trans (hc i x hx j u hu)⟩
theorem RH.below {w w' : World} {hp : Nat} {X : List Nat} {S : List It} (H : RH w hp X S) (hb : Below w.heap.size w w') : RH w' hp X S := by
  have h7 : ∀ x ∈ X, x < w.heap.size := by obtain ⟨A, c, h1, h2, h3, h4, h5, h6, h7⟩ := H; exact h7
  exact H.keep hb.size fun b hx => hb.block b (h7 b hx)
/-- a row is there, and its block is not g -/
structure GH (w0 : World) (hp : Nat) (C0 : Value) (L1 L2 L3 : List It) (y : It) (f0 f1 f2 f3 f4 li r1 r2 : Bool) (x0 x1 x2 x3 xl : Value) (w : World) : Prop where
  but : But w0 w [hp]
  c01 : f1 = true → f0 = true
  c12 : f2 = true → f1 = true
  c23 : f3 = true → f2 = true
  c34 : f4 = true → f3 = true
  cli : f2 = true → li = true
  cr1 : f1 = true → r1 = true
  cr2 : f3 = true → r2 = true
  o0 : f0 = true → f1 = false → w.ownsRow w0.heap.size 53 2 x0 0 []
  o1 : f1 = true → f2 = false → w.ownsRow w0.heap.size 53 2 x1 L1.length (L1.flatMap pairE)
  ol : li = true → f2 = false → ∃ g c, xl = .slice (some ⟨g, 0, none⟩) 1 c ∧ Rd w 2 pairE (some ⟨g, 0, none⟩) 1 [y] ∧ (f0 = true → f1 = false → x0.ownBlock ≠ some g) ∧ (f1 = true → x1.ownBlock ≠ some g) ∧ w0.heap.size ≤ g
  o2 : f2 = true → f3 = false → w.ownsRow w0.heap.size 53 2 x2 L2.length (L2.flatMap pairE)
  o3 : f3 = true → w.ownsRow w0.heap.size 53 2 x3 L3.length (L3.flatMap pairE)
  h0 : f4 = false → w.heap[hp]? = some (.cells #[C0] 69 (0, 0))
  h1 : f4 = true → w.heap[hp]? = some (.cells #[x3] 69 (0, 0))
  hlt : hp < w0.heap.size
section
variable {w0 w w' : World} {hp : Nat} {C0 x0 x1 x2 x3 xl v : Value} {L1 L2 L3 : List It} {y : It} {f0 f1 f2 f3 f4 li r1 r2 : Bool}
theorem bne2 {p q : Bool} (h : p = true → q = true) (hq : q = false) : p = false := by
  cases p with
  | false => rfl
  | true => rw [h rfl] at hq; cases hq
theorem GH.start (e0 : f0 = false) (e1 : f1 = false) (e2 : f2 = false) (e3 : f3 = false) (e4 : f4 = false) (el : li = false) (hh : w0.heap[hp]? = some (.cells #[C0] 69 (0, 0))) : GH w0 hp C0 L1 L2 L3 y f0 f1 f2 f3 f4 li r1 r2 x0 x1 x2 x3 xl { w0 with drawn := w0.drawn + 1 } := by
  subst e0 e1 e2 e3 e4 el
  exact ⟨⟨rfl, rfl, rfl, Nat.le_refl _, fun _ _ _ => rfl⟩, fun h => (by cases h), fun h => (by cases h), fun h => (by cases h), fun h => (by cases h), fun h => (by cases h), fun h => (by cases h), fun h => (by cases h), fun h => (by cases h), fun h => (by cases h), fun h => (by cases h), fun h => (by cases h), fun h => (by cases h), fun _ => hh, fun h => (by cases h), (Array.getElem?_eq_some_iff.1 hh).1⟩
theorem GH.r1R (h : GH w0 hp C0 L1 L2 L3 y f0 f1 f2 f3 f4 li r1 r2 x0 x1 x2 x3 xl w) (hl : r1 = false) : w.heap[hp]? = some (.cells #[C0] 69 (0, 0)) := h.h0 (bne2 h.c34 (bne2 h.c23 (bne2 h.c12 (bne2 h.cr1 hl))))
theorem GH.r2R (h : GH w0 hp C0 L1 L2 L3 y f0 f1 f2 f3 f4 li r1 r2 x0 x1 x2 x3 xl w) (hl : r2 = false) : w.heap[hp]? = some (.cells #[C0] 69 (0, 0)) := h.h0 (bne2 h.c34 (bne2 h.cr2 hl))
theorem GH.r1S (h : GH w0 hp C0 L1 L2 L3 y f0 f1 f2 f3 f4 li r1 r2 x0 x1 x2 x3 xl w) : GH w0 hp C0 L1 L2 L3 y f0 f1 f2 f3 f4 li true r2 x0 x1 x2 x3 xl w :=
  ⟨h.but, h.c01, h.c12, h.c23, h.c34, h.cli, fun _ => rfl, h.cr2, h.o0, h.o1, h.ol, h.o2, h.o3, h.h0, h.h1, h.hlt⟩
theorem GH.r2S (h : GH w0 hp C0 L1 L2 L3 y f0 f1 f2 f3 f4 li r1 r2 x0 x1 x2 x3 xl w) : GH w0 hp C0 L1 L2 L3 y f0 f1 f2 f3 f4 li r1 true x0 x1 x2 x3 xl w :=
  ⟨h.but, h.c01, h.c12, h.c23, h.c34, h.cli, h.cr1, fun _ => rfl, h.o0, h.o1, h.ol, h.o2, h.o3, h.h0, h.h1, h.hlt⟩
theorem GH.l0S (h : GH w0 hp C0 L1 L2 L3 y f0 f1 f2 f3 f4 li r1 r2 x0 x1 x2 x3 xl w) (hl : f0 = false) : GH w0 hp C0 L1 L2 L3 y true f1 f2 f3 f4 li r1 r2 (.slice (some ⟨w.heap.size, 0, none⟩) 0 0) x1 x2 x3 xl (w.alloc (.cells #[] 53)) := by
  have e1 := bne2 h.c01 hl
  have e2 := bne2 h.c12 e1
  have e3 := bne2 h.c23 e2
  have e4 := bne2 h.c34 e3
  have hb : Below w.heap.size w (w.alloc (.cells #[] 53)) := (Below.refl _ w).alloc (Nat.le_refl _) _
  subst e1 e2 e3 e4
  refine ⟨h.but.trans (But.of_below hb _), fun _ => rfl, h.c12, h.c23, h.c34, h.cli, h.cr1, h.cr2, fun _ _ => own_lit0 w _ _ _ h.but.size, fun h1 => (by cases h1), fun h1 h2 => ?_, fun h1 => (by cases h1), fun h1 => (by cases h1), fun h1 => ?_, fun h1 => (by cases h1), h.hlt⟩
  · obtain ⟨g, c, e, hr, _, _, hg⟩ := h.ol h1 h2
    obtain ⟨b, o, e9, hbs, _⟩ := hr.cells (by decide)
    cases e9
    exact ⟨g, c, e, hr.below hb, fun _ _ => by simp [Value.ownBlock]; omega, fun h3 => (by cases h3), hg⟩
  · exact (hb.block hp (Nat.lt_of_lt_of_le h.hlt h.but.size)).trans (h.h0 h1)
theorem GH.litS {c : Nat} (h : GH w0 hp C0 L1 L2 L3 y f0 f1 f2 f3 f4 li r1 r2 x0 x1 x2 x3 xl w) (hl : li = false) : GH w0 hp C0 L1 L2 L3 y f0 f1 f2 f3 f4 true r1 r2 x0 x1 x2 x3 (.slice (some ⟨w.heap.size, 0, none⟩) 1 c) (w.alloc (.cells #[.int .i64 y.1, .int .i64 y.2] 53)) := by
  have e2 := bne2 h.cli hl
  have e3 := bne2 h.c23 e2
  have e4 := bne2 h.c34 e3
  have hb : Below w.heap.size w (w.alloc (.cells #[.int .i64 y.1, .int .i64 y.2] 53)) := (Below.refl _ w).alloc (Nat.le_refl _) _
  subst e2 e3 e4
  refine ⟨h.but.trans (But.of_below hb _), h.c01, h.c12, h.c23, h.c34, fun _ => rfl, h.cr1, h.cr2, fun h1 h2 => (h.o0 h1 h2).alloc _, fun h1 h2 => (h.o1 h1 h2).alloc _, fun _ _ => ⟨_, _, rfl, ?_, fun h1 h2 e => ?_, fun h1 e => ?_, h.but.size⟩, fun h1 => (by cases h1), fun h1 => (by cases h1), fun h1 => ?_, fun h1 => (by cases h1), h.hlt⟩
  · have := Rd.lit w 2 pairE pairE_len2 53 [y]
    simpa [pairE] using this
  · exact Nat.lt_irrefl _ ((h.o0 h1 h2).lt _ e).2
  · exact Nat.lt_irrefl _ ((h.o1 h1 rfl).lt _ e).2
  · exact (hb.block hp (Nat.lt_of_lt_of_le h.hlt h.but.size)).trans (h.h0 h1)
/-- the row grew: blocks that were there lie as they lay, but for its own -/
theorem GH.grown {x : Value} {n : Nat} {l : List Value} (h : GH w0 hp C0 L1 L2 L3 y f0 f1 f2 f3 f4 li r1 r2 x0 x1 x2 x3 xl w) (own : w.ownsRow w0.heap.size 53 2 x n l) (hg : w.grownBy w' x.ownBlock) : But w0 w' [hp] ∧ (f4 = false → w'.heap[hp]? = some (.cells #[C0] 69 (0, 0))) := by
  refine ⟨⟨hg.os.trans h.but.os, hg.tape.trans h.but.tape, hg.output.trans h.but.output, Nat.le_trans h.but.size hg.size, fun b hb hx => ?_⟩, fun h4 => ?_⟩
  · exact (hg.block b (Nat.lt_of_lt_of_le hb h.but.size) fun e => by have := (own.lt b e.symm).1; omega).trans (h.but.keep b hb hx)
  · exact (hg.block hp (Nat.lt_of_lt_of_le h.hlt h.but.size) fun e => by have := (own.lt hp e.symm).1; have := h.hlt; omega).trans (h.h0 h4)
theorem GH.a1S (h : GH w0 hp C0 L1 L2 L3 y f0 f1 f2 f3 f4 li r1 r2 x0 x1 x2 x3 xl w) (hl : f1 = false) (h0 : f0 = true) (hr1 : r1 = true) (own : w'.ownsRow w0.heap.size 53 2 v L1.length (L1.flatMap pairE)) (hg : w.grownBy w' x0.ownBlock) (hn : v.ownBlock = x0.ownBlock ∨ v.ownBlock = some w.heap.size) : GH w0 hp C0 L1 L2 L3 y f0 true f2 f3 f4 li r1 r2 x0 v x2 x3 xl w' := by
  have e2 := bne2 h.c12 hl
  have e3 := bne2 h.c23 e2
  have e4 := bne2 h.c34 e3
  obtain ⟨b1, b2⟩ := h.grown (h.o0 h0 hl) hg
  subst hl e2 e3 e4
  refine ⟨b1, fun _ => h0, fun _ => rfl, h.c23, h.c34, h.cli, fun _ => hr1, h.cr2, fun _ h1 => (by cases h1), fun _ _ => own, fun h1 h2 => ?_, fun h1 => (by cases h1), fun h1 => (by cases h1), fun _ => b2 rfl, fun h1 => (by cases h1), h.hlt⟩
  obtain ⟨g, c, e, hr, k1, _, hgg⟩ := h.ol h1 h2
  obtain ⟨b, o, e9, hbs, hcell⟩ := hr.cells (by decide)
  cases e9
  have hne := k1 h0 rfl
  refine ⟨g, c, e, ⟨hr.len, fun _ => ⟨g, 0, rfl, Nat.lt_of_lt_of_le hbs hg.size, fun i x hx j u hu => (World.cell?_of_block (hg.block g hbs fun e => hne e.symm)).trans (hcell i x hx j u hu)⟩⟩, fun _ h3 => (by cases h3), fun _ e => ?_, hgg⟩
  rcases hn with hn | hn
  · exact hne (hn.symm.trans e)
  · rw [hn] at e; simp at e; omega
theorem GH.a2S (h : GH w0 hp C0 L1 L2 L3 y f0 f1 f2 f3 f4 li r1 r2 x0 x1 x2 x3 xl w) (hl : f2 = false) (h0 : f1 = true) (hli : li = true) (own : w'.ownsRow w0.heap.size 53 2 v L2.length (L2.flatMap pairE)) (hg : w.grownBy w' x1.ownBlock) : GH w0 hp C0 L1 L2 L3 y f0 f1 true f3 f4 li r1 r2 x0 x1 v x3 xl w' := by
  have e3 := bne2 h.c23 hl
  have e4 := bne2 h.c34 e3
  obtain ⟨b1, b2⟩ := h.grown (h.o1 h0 hl) hg
  subst hl e3 e4
  exact ⟨b1, h.c01, fun _ => h0, fun _ => rfl, h.c34, fun _ => hli, h.cr1, h.cr2, fun _ h1 => (by rw [h0] at h1; cases h1), fun _ h1 => (by cases h1), fun _ h1 => (by cases h1), fun _ _ => own, fun h1 => (by cases h1), fun _ => b2 rfl, fun h1 => (by cases h1), h.hlt⟩
/-- two steps at once -/
theorem GH.a12S (h : GH w0 hp C0 L1 L2 L3 y f0 f1 f2 f3 f4 li r1 r2 x0 x1 x2 x3 xl w) (hl : f1 = false) (h0 : f0 = true) (hr1 : r1 = true) (own : w'.ownsRow w0.heap.size 53 2 v L2.length (L2.flatMap pairE)) (hg : w.grownBy w' x0.ownBlock) {li' : Bool} (hli : li' = true) : GH w0 hp C0 L1 L2 L3 y f0 true true f3 f4 li' r1 r2 x0 v v x3 xl w' := by
  have e2 := bne2 h.c12 hl
  have e3 := bne2 h.c23 e2
  have e4 := bne2 h.c34 e3
  obtain ⟨b1, b2⟩ := h.grown (h.o0 h0 hl) hg
  subst hl e2 e3 e4
  exact ⟨b1, fun _ => h0, fun _ => rfl, fun _ => rfl, h.c34, fun _ => hli, fun _ => hr1, h.cr2, fun _ h1 => (by cases h1), fun _ h1 => (by cases h1), fun _ h1 => (by cases h1), fun _ _ => own, fun h1 => (by cases h1), fun _ => b2 rfl, fun h1 => (by cases h1), h.hlt⟩
theorem GH.a3S (h : GH w0 hp C0 L1 L2 L3 y f0 f1 f2 f3 f4 li r1 r2 x0 x1 x2 x3 xl w) (hl : f3 = false) (h0 : f2 = true) (hr2 : r2 = true) (own : w'.ownsRow w0.heap.size 53 2 v L3.length (L3.flatMap pairE)) (hg : w.grownBy w' x2.ownBlock) : GH w0 hp C0 L1 L2 L3 y f0 f1 f2 true f4 li r1 r2 x0 x1 x2 v xl w' := by
  have e4 := bne2 h.c34 hl
  obtain ⟨b1, b2⟩ := h.grown (h.o2 h0 hl) hg
  subst hl e4
  have h1 := h.c12 h0
  exact ⟨b1, h.c01, h.c12, fun _ => h0, fun _ => rfl, h.cli, h.cr1, fun _ => hr2, fun _ h2 => (by rw [h1] at h2; cases h2), fun _ h2 => (by rw [h0] at h2; cases h2), fun _ h2 => (by rw [h0] at h2; cases h2), fun _ h2 => (by cases h2), fun _ => own, fun _ => b2 rfl, fun h2 => (by cases h2), h.hlt⟩
theorem GH.stS (h : GH w0 hp C0 L1 L2 L3 y f0 f1 f2 f3 f4 li r1 r2 x0 x1 x2 x3 xl w) (hl : f4 = false) (h0 : f3 = true) : GH w0 hp C0 L1 L2 L3 y f0 f1 f2 f3 true li r1 r2 x0 x1 x2 x3 xl (w.setCell ⟨hp, 0, none⟩ x3) := by
  have hb : But w (w.setCell ⟨hp, 0, none⟩ x3) [hp] := But.of_set _ _ _ (by simp)
  have h2 := h.c23 h0
  have h1 := h.c12 h2
  have hh := h.h0 hl
  refine ⟨h.but.trans hb, h.c01, h.c12, h.c23, fun _ => h0, h.cli, h.cr1, h.cr2, fun _ h3 => (by rw [h1] at h3; cases h3), fun _ h3 => (by rw [h2] at h3; cases h3), fun _ h3 => (by rw [h2] at h3; cases h3), fun _ h3 => (by rw [h0] at h3; cases h3), fun _ => ?_, fun h3 => (by cases h3), fun _ => ?_, h.hlt⟩
  · have own := h.o3 h0
    exact own_keep own fun g hg => hb.keep g (own.lt g hg).2 (by have := (own.lt g hg).1; have := h.hlt; simp; omega)
  · have hlt := (Array.getElem?_eq_some_iff.1 hh).1
    have e : w.heap[hp] = .cells #[C0] 69 (0, 0) := by rw [Array.getElem?_eq_getElem hlt] at hh; exact Option.some.inj hh
    simp [World.setCell, hlt, Array.getElem_modify, e]
theorem GH.fin (h : GH w0 hp C0 L1 L2 L3 y f0 f1 f2 f3 f4 li r1 r2 x0 x1 x2 x3 xl w) (h4 : f4 = true) : ∃ X', RH w hp X' L3 ∧ But w0 w [hp] ∧ ∀ y ∈ X', y = hp ∨ w0.heap.size ≤ y := by
  have own := h.o3 (h.c34 h4)
  have hh := h.h1 h4
  obtain ⟨A, c, rfl, hr, hc, hc2⟩ := Rd.of_own (enc := pairE) pairE_len2 rfl own
  have hob : ∀ a, A = some a → (Value.slice A L3.length c).ownBlock = some a.block := fun a e => by subst e; rfl
  refine ⟨hp :: (Value.slice A L3.length c).ownBlock.toList, ⟨A, c, hh, hr, hc, hc2, by simp, fun a e => ⟨by simp [hob a e], fun e2 => ?_⟩, fun x hx => ?_⟩, h.but, fun x hx => ?_⟩
  · have := (own.lt a.block (hob a e)).1
    have := h.hlt
    omega
  · rw [List.mem_cons, Option.mem_toList] at hx
    rcases hx with rfl | hx
    · exact (Array.getElem?_eq_some_iff.1 hh).1
    · exact (own.lt x hx).2
  · rw [List.mem_cons, Option.mem_toList] at hx
    rcases hx with rfl | hx
    · exact .inl rfl
    · exact .inr (own.lt x hx).1
theorem app_items {base : Nat} {L R : List It} {A : Option Addr} {m : Nat} (c : Nat) (own : w.ownsRow base 53 2 v L.length (L.flatMap pairE)) (hr : Rd w 2 pairE A m R) (hlen : L.length + m ≤ 1099511627776) (hB : base ≤ w.heap.size) :
    ∃ v' w1, (Builtin.append_ #[48, 48] 48 #[v, .slice A m c]).run Try.prog w = .ok v' w1 ∧ w1.ownsRow base 53 2 v' (L ++ R).length ((L ++ R).flatMap pairE) ∧ w.grownBy w1 v.ownBlock ∧ (v'.ownBlock = v.ownBlock ∨ v'.ownBlock = some w.heap.size) := by
  obtain ⟨v', w1, h1, h2, h3, h4⟩ := own_append (enc := pairE) Try.underlying48 infoItem rfl (by decide) pairE_len2 pairE_one c own hr hlen (by decide) hB
  refine ⟨v', w1, h1, ?_, h3, h4⟩
  rw [List.length_append, hr.len]
  exact h2
theorem B.Rd.but1 {A : Option Addr} {m : Nat} {R : List It} (hr : Rd w 2 pairE A m R) (hb : But w w' [hp]) (ha : ∀ a, A = some a → a.block ≠ hp) : Rd w' 2 pairE A m R := by
  refine ⟨hr.len, fun hn => ?_⟩
  obtain ⟨b, o, rfl, hbs, hc⟩ := hr.cells hn
  have hne := ha ⟨b, o, none⟩ rfl
  exact ⟨b, o, rfl, Nat.lt_of_lt_of_le hbs hb.size, fun i x hx j u hu => (World.cell?_of_block (hb.keep b hbs (by simpa using hne))).trans (hc i x hx j u hu)⟩
theorem cut_ne {A : Option Addr} {c k z hp : Nat} (h : ∀ a, A = some a → a.block ≠ hp) : ∀ a, cutA A c k z = some a → a.block ≠ hp := fun a e => by
  unfold cutA at e
  split at e
  · exact h a e
  · cases A with
    | none => cases e
    | some a0 =>
      cases e
      have := h a0 rfl
      show (a0.add (k * z)).block ≠ hp
      unfold Addr.add
      split <;> exact this
theorem run_head0 {P : Program} {t e : TypeId} {s : Nat} (ht : P.underlying t = some (.slice e)) (he : P.elem t = e) (hs : ∀ W, (sizeOf e).run P W = .ok s W) (A : Option Addr) (n c k : Nat) (hk : k ≤ c) (kl : IntKind) (W : World) :
    (Instr.slice t (.slice A n c) none (some (.int kl (k : Int))) none).run P W = .ok (.slice A k c) W := by
  have := run_head ht he hs A n c k hk kl W
  rwa [cutA_zero] at this
end
end Go.Proofs.Ytapfndjaimfcaaa
