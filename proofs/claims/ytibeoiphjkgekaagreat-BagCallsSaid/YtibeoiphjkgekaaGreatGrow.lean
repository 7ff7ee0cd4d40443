/-
  Rows that grow in a drawn region: one element appended to a row in a loop (GB1); a row made anew by three appends (GT3). Whatever the elements are.
-/
import Derived.Test.YtibeoiphjkgekaaGreatAnyGhost2
import Derived.Test.YtibeoiphjkgekaaGreatMem3
import Derived.Test.YtibeoiphjkgekaaGreatHead
namespace Go.Proofs.YtibeoiphjkgekaaGreat
namespace B
open Go.RowKit
set_option linter.unusedVariables false
set_option linter.unusedSimpArgs false
theorem bne2 {p q : Bool} (h : p = true → q = true) (hq : q = false) : p = false := by
  cases p with
  | false => rfl
  | true => rw [h rfl] at hq; cases hq
theorem rd_one {α : Type} {enc : α → List Value} {size : Nat} (w : World) (hs : ∀ x, (enc x).length = size) (t : TypeId) (e : α) : Rd (w.alloc (.cells (enc e).toArray t)) size enc (some ⟨w.heap.size, 0, none⟩) 1 [e] := by
  have := Rd.lit w size enc hs t [e]
  simpa using this
structure GB1 {α : Type} (enc : α → List Value) (t : TypeId) (size : Nat) (w0 : World) (base : Nat) (v0 : Value) (a : List α) (e : α) (rd li ap sg : Bool) (xl xa xs : Value) (w : World) : Prop where
  bel : Below base w0 w
  apr : ap = true → rd = true
  apl : ap = true → li = true
  asp : sg = true → ap = true
  ini : sg = false → xs = v0
  lit : li = true → ap = false → ∃ k c, xl = .slice (some ⟨k, 0, none⟩) 1 c ∧ Rd w size enc (some ⟨k, 0, none⟩) 1 [e]
  own : ap = false → w.ownsRow base t size v0 a.length (a.flatMap enc)
  app : ap = true → w.ownsRow base t size xa (a ++ [e]).length ((a ++ [e]).flatMap enc)
  asg : sg = true → xs = xa
section
variable {α : Type} {enc : α → List Value} {t : TypeId} {size : Nat} {w0 w w' : World} {base : Nat} {v0 xl xa xs v : Value} {a : List α} {e : α} {rd li ap sg : Bool}
theorem GB1.start (h2 : li = false) (h3 : ap = false) (h4 : sg = false) (hx : xs = v0) (own : w0.ownsRow base t size v0 a.length (a.flatMap enc)) : GB1 enc t size w0 base v0 a e rd li ap sg xl xa xs { w0 with drawn := w0.drawn + 1 } := by
  subst h2 h3 h4
  exact ⟨⟨rfl, rfl, rfl, Nat.le_refl _, fun _ _ => rfl⟩, fun h => (by cases h), fun h => (by cases h), fun h => (by cases h), fun _ => hx, fun h => (by cases h), fun _ => own, fun h => (by cases h), fun h => (by cases h)⟩
theorem GB1.rdS (h : GB1 enc t size w0 base v0 a e rd li ap sg xl xa xs w) (hl : rd = false) : xs = v0 ∧ GB1 enc t size w0 base v0 a e true li ap sg xl xa xs w :=
  ⟨h.ini (bne2 h.asp (bne2 h.apr hl)), h.bel, fun _ => rfl, h.apl, h.asp, h.ini, h.lit, h.own, h.app, h.asg⟩
theorem GB1.litS {c : Nat} (h : GB1 enc t size w0 base v0 a e rd li ap sg xl xa xs w) (hl : li = false) (hbase : base ≤ w0.heap.size) (hs : ∀ x, (enc x).length = size) : GB1 enc t size w0 base v0 a e rd true ap sg (.slice (some ⟨w.heap.size, 0, none⟩) 1 c) xa xs (w.alloc (.cells (enc e).toArray t)) := by
  have hap := bne2 h.apl hl
  have hb : Below w.heap.size w (w.alloc (.cells (enc e).toArray t)) := (Below.refl _ w).alloc (Nat.le_refl _) _
  exact ⟨h.bel.trans (hb.mono (Nat.le_trans hbase h.bel.size)), h.apr, fun _ => rfl, h.asp, h.ini, fun _ _ => ⟨_, _, rfl, rd_one w hs t e⟩, fun h1 => (h.own h1).alloc _, fun h1 => (by rw [hap] at h1; cases h1), h.asg⟩
theorem GB1.appS (h : GB1 enc t size w0 base v0 a e rd li ap sg xl xa xs w) (hl : ap = false) (hr : rd = true) (hi : li = true) (own : w'.ownsRow base t size v (a ++ [e]).length ((a ++ [e]).flatMap enc)) (hb : Below base w w') : GB1 enc t size w0 base v0 a e rd li true sg xl v xs w' := by
  have hsg := bne2 h.asp hl
  exact ⟨h.bel.trans hb, fun _ => hr, fun _ => hi, fun _ => rfl, h.ini, fun _ h1 => (by cases h1), fun h1 => (by cases h1), fun _ => own, fun h1 => (by rw [hsg] at h1; cases h1)⟩
theorem GB1.asS (h : GB1 enc t size w0 base v0 a e rd li ap sg xl xa xs w) (hp : ap = true) : GB1 enc t size w0 base v0 a e rd li ap true xl xa xa w :=
  ⟨h.bel, h.apr, h.apl, fun _ => hp, fun h1 => (by cases h1), h.lit, h.own, h.app, fun _ => rfl⟩
end
structure GT3 {α : Type} (enc : α → List Value) (t : TypeId) (size : Nat) (w0 : World) (v0 : Value) (L1 L2 L3 : List α) (y : α) (f0 f1 f2 f3 fs li r1 r2 : Bool) (x0 x1 x2 x3 xl xs : Value) (w : World) : Prop where
  bel : Below w0.heap.size w0 w
  c01 : f1 = true → f0 = true
  c12 : f2 = true → f1 = true
  c23 : f3 = true → f2 = true
  c3s : fs = true → f3 = true
  cli : f2 = true → li = true
  cr1 : f1 = true → r1 = true
  cr2 : f3 = true → r2 = true
  ini : fs = false → xs = v0
  o0 : f0 = true → f1 = false → w.ownsRow w0.heap.size t size x0 0 []
  o1 : f1 = true → f2 = false → w.ownsRow w0.heap.size t size x1 L1.length (L1.flatMap enc)
  ol : li = true → f2 = false → ∃ g c, xl = .slice (some ⟨g, 0, none⟩) 1 c ∧ Rd w size enc (some ⟨g, 0, none⟩) 1 [y] ∧ g < w.heap.size ∧ (f0 = true → f1 = false → x0.ownBlock ≠ some g) ∧ (f1 = true → x1.ownBlock ≠ some g)
  o2 : f2 = true → f3 = false → w.ownsRow w0.heap.size t size x2 L2.length (L2.flatMap enc)
  o3 : f3 = true → w.ownsRow w0.heap.size t size x3 L3.length (L3.flatMap enc)
  sg : fs = true → xs = x3
section
variable {α : Type} {enc : α → List Value} {t : TypeId} {size : Nat} {w0 w w' : World} {v0 x0 x1 x2 x3 xl xs v : Value} {L1 L2 L3 : List α} {y : α} {f0 f1 f2 f3 fs li r1 r2 : Bool}
theorem GT3.start (e0 : f0 = false) (e1 : f1 = false) (e2 : f2 = false) (e3 : f3 = false) (es : fs = false) (el : li = false) (hx : xs = v0) : GT3 enc t size w0 v0 L1 L2 L3 y f0 f1 f2 f3 fs li r1 r2 x0 x1 x2 x3 xl xs { w0 with drawn := w0.drawn + 1 } := by
  subst e0 e1 e2 e3 es el
  exact ⟨⟨rfl, rfl, rfl, Nat.le_refl _, fun _ _ => rfl⟩, fun h => (by cases h), fun h => (by cases h), fun h => (by cases h), fun h => (by cases h), fun h => (by cases h), fun h => (by cases h), fun h => (by cases h), fun _ => hx, fun h => (by cases h), fun h => (by cases h), fun h => (by cases h), fun h => (by cases h), fun h => (by cases h), fun h => (by cases h)⟩
theorem GT3.r1R (h : GT3 enc t size w0 v0 L1 L2 L3 y f0 f1 f2 f3 fs li r1 r2 x0 x1 x2 x3 xl xs w) (hl : r1 = false) : xs = v0 := h.ini (bne2 h.c3s (bne2 h.c23 (bne2 h.c12 (bne2 h.cr1 hl))))
theorem GT3.r2R (h : GT3 enc t size w0 v0 L1 L2 L3 y f0 f1 f2 f3 fs li r1 r2 x0 x1 x2 x3 xl xs w) (hl : r2 = false) : xs = v0 := h.ini (bne2 h.c3s (bne2 h.cr2 hl))
theorem GT3.r1S (h : GT3 enc t size w0 v0 L1 L2 L3 y f0 f1 f2 f3 fs li r1 r2 x0 x1 x2 x3 xl xs w) : GT3 enc t size w0 v0 L1 L2 L3 y f0 f1 f2 f3 fs li true r2 x0 x1 x2 x3 xl xs w :=
  ⟨h.bel, h.c01, h.c12, h.c23, h.c3s, h.cli, fun _ => rfl, h.cr2, h.ini, h.o0, h.o1, h.ol, h.o2, h.o3, h.sg⟩
theorem GT3.r2S (h : GT3 enc t size w0 v0 L1 L2 L3 y f0 f1 f2 f3 fs li r1 r2 x0 x1 x2 x3 xl xs w) : GT3 enc t size w0 v0 L1 L2 L3 y f0 f1 f2 f3 fs li r1 true x0 x1 x2 x3 xl xs w :=
  ⟨h.bel, h.c01, h.c12, h.c23, h.c3s, h.cli, h.cr1, fun _ => rfl, h.ini, h.o0, h.o1, h.ol, h.o2, h.o3, h.sg⟩
theorem GT3.l0S (h : GT3 enc t size w0 v0 L1 L2 L3 y f0 f1 f2 f3 fs li r1 r2 x0 x1 x2 x3 xl xs w) (hl : f0 = false) : GT3 enc t size w0 v0 L1 L2 L3 y true f1 f2 f3 fs li r1 r2 (.slice (some ⟨w.heap.size, 0, none⟩) 0 0) x1 x2 x3 xl xs (w.alloc (.cells #[] t)) := by
  have e1 := bne2 h.c01 hl
  have e2 := bne2 h.c12 e1
  have e3 := bne2 h.c23 e2
  have hb : Below w.heap.size w (w.alloc (.cells #[] t)) := (Below.refl _ w).alloc (Nat.le_refl _) _
  subst e1 e2 e3
  refine ⟨h.bel.trans (hb.mono h.bel.size), fun _ => rfl, h.c12, h.c23, h.c3s, h.cli, h.cr1, h.cr2, h.ini, fun _ _ => own_lit0 w _ _ _ h.bel.size, fun h1 => (by cases h1), fun h1 h2 => ?_, fun h1 => (by cases h1), fun h1 => (by cases h1), h.sg⟩
  obtain ⟨g, c, e, hr, hg, _, _⟩ := h.ol h1 h2
  exact ⟨g, c, e, hr.below hb, Nat.lt_of_lt_of_le hg hb.size, fun _ _ => by simp [Value.ownBlock]; omega, fun h3 => (by cases h3)⟩
theorem GT3.litS {c : Nat} (h : GT3 enc t size w0 v0 L1 L2 L3 y f0 f1 f2 f3 fs li r1 r2 x0 x1 x2 x3 xl xs w) (hl : li = false) (hs : ∀ x, (enc x).length = size) : GT3 enc t size w0 v0 L1 L2 L3 y f0 f1 f2 f3 fs true r1 r2 x0 x1 x2 x3 (.slice (some ⟨w.heap.size, 0, none⟩) 1 c) xs (w.alloc (.cells (enc y).toArray t)) := by
  have e2 := bne2 h.cli hl
  have e3 := bne2 h.c23 e2
  have hb : Below w.heap.size w (w.alloc (.cells (enc y).toArray t)) := (Below.refl _ w).alloc (Nat.le_refl _) _
  subst e2 e3
  exact ⟨h.bel.trans (hb.mono h.bel.size), h.c01, h.c12, h.c23, h.c3s, fun _ => rfl, h.cr1, h.cr2, h.ini, fun h1 h2 => (h.o0 h1 h2).alloc _, fun h1 h2 => (h.o1 h1 h2).alloc _, fun _ _ => ⟨_, _, rfl, rd_one w hs t y, by simp, fun h1 h2 e => Nat.lt_irrefl _ ((h.o0 h1 h2).lt _ e).2, fun h1 e => Nat.lt_irrefl _ ((h.o1 h1 rfl).lt _ e).2⟩, fun h1 => (by cases h1), fun h1 => (by cases h1), h.sg⟩
theorem GT3.grown {x : Value} {n : Nat} {l : List Value} (h : GT3 enc t size w0 v0 L1 L2 L3 y f0 f1 f2 f3 fs li r1 r2 x0 x1 x2 x3 xl xs w) (own : w.ownsRow w0.heap.size t size x n l) (hg : w.grownBy w' x.ownBlock) : Below w0.heap.size w0 w' :=
  h.bel.grown hg h.bel.size fun k hk => (own.lt k hk).1
theorem GT3.a1S (h : GT3 enc t size w0 v0 L1 L2 L3 y f0 f1 f2 f3 fs li r1 r2 x0 x1 x2 x3 xl xs w) (hl : f1 = false) (h0 : f0 = true) (hr1 : r1 = true) (own : w'.ownsRow w0.heap.size t size v L1.length (L1.flatMap enc)) (hg : w.grownBy w' x0.ownBlock) (hn : v.ownBlock = x0.ownBlock ∨ v.ownBlock = some w.heap.size) : GT3 enc t size w0 v0 L1 L2 L3 y f0 true f2 f3 fs li r1 r2 x0 v x2 x3 xl xs w' := by
  have e2 := bne2 h.c12 hl
  have e3 := bne2 h.c23 e2
  have b1 := h.grown (h.o0 h0 hl) hg
  subst hl e2 e3
  refine ⟨b1, fun _ => h0, fun _ => rfl, h.c23, h.c3s, h.cli, fun _ => hr1, h.cr2, h.ini, fun _ h1 => (by cases h1), fun _ _ => own, fun h1 h2 => ?_, fun h1 => (by cases h1), fun h1 => (by cases h1), h.sg⟩
  obtain ⟨g, c, e, hr, hgl, k1, _⟩ := h.ol h1 h2
  have hne := k1 h0 rfl
  refine ⟨g, c, e, ⟨hr.len, fun hn => ?_⟩, Nat.lt_of_lt_of_le hgl hg.size, fun _ h3 => (by cases h3), fun _ e => ?_⟩
  · obtain ⟨b, o, e9, hbs, hcell⟩ := hr.cells hn
    cases e9
    exact ⟨g, 0, rfl, Nat.lt_of_lt_of_le hbs hg.size, fun i x hx j u hu => (World.cell?_of_block (hg.block g hbs fun e => hne e.symm)).trans (hcell i x hx j u hu)⟩
  · rcases hn with hn | hn
    · exact hne (hn.symm.trans e)
    · rw [hn] at e; simp at e; omega
theorem GT3.a2S (h : GT3 enc t size w0 v0 L1 L2 L3 y f0 f1 f2 f3 fs li r1 r2 x0 x1 x2 x3 xl xs w) (hl : f2 = false) (h0 : f1 = true) (hli : li = true) (own : w'.ownsRow w0.heap.size t size v L2.length (L2.flatMap enc)) (hg : w.grownBy w' x1.ownBlock) : GT3 enc t size w0 v0 L1 L2 L3 y f0 f1 true f3 fs li r1 r2 x0 x1 v x3 xl xs w' := by
  have e3 := bne2 h.c23 hl
  have b1 := h.grown (h.o1 h0 hl) hg
  subst hl e3
  exact ⟨b1, h.c01, fun _ => h0, fun _ => rfl, h.c3s, fun _ => hli, h.cr1, h.cr2, h.ini, fun _ h1 => (by rw [h0] at h1; cases h1), fun _ h1 => (by cases h1), fun _ h1 => (by cases h1), fun _ _ => own, fun h1 => (by cases h1), h.sg⟩
theorem GT3.a3S (h : GT3 enc t size w0 v0 L1 L2 L3 y f0 f1 f2 f3 fs li r1 r2 x0 x1 x2 x3 xl xs w) (hl : f3 = false) (h0 : f2 = true) (hr2 : r2 = true) (own : w'.ownsRow w0.heap.size t size v L3.length (L3.flatMap enc)) (hg : w.grownBy w' x2.ownBlock) : GT3 enc t size w0 v0 L1 L2 L3 y f0 f1 f2 true fs li r1 r2 x0 x1 x2 v xl xs w' := by
  have es := bne2 h.c3s hl
  have b1 := h.grown (h.o2 h0 hl) hg
  subst hl es
  have h1 := h.c12 h0
  exact ⟨b1, h.c01, h.c12, fun _ => h0, fun _ => rfl, h.cli, h.cr1, fun _ => hr2, h.ini, fun _ h2 => (by rw [h1] at h2; cases h2), fun _ h2 => (by rw [h0] at h2; cases h2), fun _ h2 => (by rw [h0] at h2; cases h2), fun _ h2 => (by cases h2), fun _ => own, fun h2 => (by cases h2)⟩
theorem GT3.asS (h : GT3 enc t size w0 v0 L1 L2 L3 y f0 f1 f2 f3 fs li r1 r2 x0 x1 x2 x3 xl xs w) (h3 : f3 = true) : GT3 enc t size w0 v0 L1 L2 L3 y f0 f1 f2 f3 true li r1 r2 x0 x1 x2 x3 xl x3 w :=
  ⟨h.bel, h.c01, h.c12, h.c23, fun _ => h3, h.cli, h.cr1, h.cr2, fun h1 => (by cases h1), h.o0, h.o1, h.ol, h.o2, h.o3, fun _ => rfl⟩
end
end B
end Go.Proofs.YtibeoiphjkgekaaGreat
