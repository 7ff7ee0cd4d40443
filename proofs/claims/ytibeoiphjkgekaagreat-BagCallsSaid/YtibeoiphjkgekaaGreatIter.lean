/-
  A range over a function whose iterator keeps state of its own in memory: the iterator's blocks S, the loop's own blocks, and a law for the statement.
-/
import Derived.RangeFuncNested
import Derived.RangeFuncBound
import Derived.RangeFuncCalls
import Derived.RangeFuncLeaves
import Derived.WalkKit
import Derived.Deep.Draws
import Derived.Test.YtibeoiphjkgekaaGreatBase
namespace Go.Proofs.YtibeoiphjkgekaaGreat
namespace B
open Go.RowKit
/-- of the blocks that were there, only those of S may have turned -/
structure Turn (S : Nat → Prop) (w w' : World) : Prop where
  os : w'.os = w.os
  tape : w'.tape = w.tape
  output : w'.output = w.output
  size : w.heap.size ≤ w'.heap.size
  block : ∀ k, k < w.heap.size → ¬ S k → w'.heap[k]? = w.heap[k]?
section
variable {S S' : Nat → Prop} {w w' w1 w2 : World}
theorem Turn.refl (S : Nat → Prop) (w : World) : Turn S w w := ⟨rfl, rfl, rfl, Nat.le_refl _, fun _ _ _ => rfl⟩
theorem Turn.mono (h : Turn S w w') (hs : ∀ k, k < w.heap.size → S k → S' k) : Turn S' w w' := ⟨h.os, h.tape, h.output, h.size, fun k hk hn => h.block k hk fun hS => hn (hs k hk hS)⟩
theorem Turn.trans (h : Turn S w w1) (k : Turn S' w1 w2) (hs : ∀ k, k < w.heap.size → S' k → S k) : Turn S w w2 :=
  ⟨k.os.trans h.os, k.tape.trans h.tape, k.output.trans h.output, Nat.le_trans h.size k.size, fun i hi hn => (k.block i (Nat.lt_of_lt_of_le hi h.size) fun hS => hn (hs i hi hS)).trans (h.block i hi hn)⟩
theorem Turn.drew (h : Turn S w w1) : Turn S w w1.drew := ⟨h.os, h.tape, h.output, h.size, h.block⟩
theorem Turn.drewN (h : Turn S w w1) (n : Nat) : Turn S w (w1.drewN n) := ⟨h.os, h.tape, h.output, h.size, h.block⟩
theorem Turn.alloc (h : Turn S w w1) (o : Obj) : Turn S w (w1.alloc o) :=
  ⟨h.os, h.tape, h.output, Nat.le_trans h.size (by simp), fun k hk hn => (Below.heap_alloc w1 o k (Nat.lt_of_lt_of_le hk h.size)).trans (h.block k hk hn)⟩
theorem Turn.setCell (h : Turn S w w1) {p : Addr} (hp : p.block < w.heap.size → S p.block) (u : Value) : Turn S w (w1.setCell p u) :=
  ⟨h.os, h.tape, h.output, Nat.le_trans h.size (by simp [World.setCell]), fun k hk hn => (Below.heap_setCell w1 p u k (fun e => by subst e; exact hn (hp hk))).trans (h.block k hk hn)⟩
theorem Turn.putObj (h : Turn S w w1) {r : Nat} (hp : r < w.heap.size → S r) (o : Obj) : Turn S w (w1.putObj r o) :=
  ⟨h.os, h.tape, h.output, Nat.le_trans h.size (by simp), fun k hk hn => (World.putObj_heap_other (fun e => by subst e; exact hn (hp hk))).trans (h.block k hk hn)⟩
theorem Turn.below (h : Turn S w w1) {C : Nat} (hb : Below C w1 w2) (hs : ∀ k, k < w.heap.size → C ≤ k → S k) : Turn S w w2 :=
  ⟨hb.os.trans h.os, hb.tape.trans h.tape, hb.output.trans h.output, Nat.le_trans h.size hb.size, fun k hk hn => (hb.block k (Nat.lt_of_not_le fun hle => hn (hs k hk hle))).trans (h.block k hk hn)⟩
theorem Turn.grown (h : Turn S w w1) {row : Option Nat} (hg : w1.grownBy w2 row) (hr : ∀ k, row = some k → k < w.heap.size → S k) : Turn S w w2 :=
  ⟨hg.os.trans h.os, hg.tape.trans h.tape, hg.output.trans h.output, Nat.le_trans h.size hg.size, fun k hk hn => (hg.block k (Nat.lt_of_lt_of_le hk h.size) (fun e => hn (hr k e.symm hk))).trans (h.block k hk hn)⟩
/-- a Turn that leaves what lies below B -/
theorem Turn.toBelow (h : Turn S w w') {C : Nat} (hC : C ≤ w.heap.size) (hs : ∀ k, k < C → ¬ S k) : Below C w w' :=
  ⟨h.os, h.tape, h.output, h.size, fun k hk => h.block k (by omega) (hs k hk)⟩
theorem Below.toTurn {C : Nat} (h : Below C w w') (hs : ∀ k, C ≤ k → k < w.heap.size → S k) : Turn S w w' :=
  ⟨h.os, h.tape, h.output, h.size, fun k hk hn => h.block k (Nat.lt_of_not_le fun hle => hn (hs k hle hk))⟩
theorem Turn.cell (h : Turn S w w') {b o : Nat} (hb : b < w.heap.size) (hn : ¬ S b) : w'.cell? ⟨b, o, none⟩ = w.cell? ⟨b, o, none⟩ := World.cell?_of_block (w := w) (h.block b hb hn)
end
/-- what an iterator does between two rounds: it turns blocks of its own set; the set grows by new blocks alone -/
structure Step (S S' : Nat → Prop) (w w' : World) : Prop where
  turn : Turn S w w'
  sub : ∀ k, S k → S' k
  new : ∀ k, S' k → S k ∨ (w.heap.size ≤ k ∧ k < w'.heap.size)
theorem Step.same {S : Nat → Prop} {w w' : World} (h : Turn S w w') : Step S S w w' := ⟨h, fun _ h => h, fun _ h => .inl h⟩
theorem Step.refl (S : Nat → Prop) (w : World) : Step S S w w := .same (Turn.refl S w)
theorem Step.trans {S S' S'' : Nat → Prop} {w w1 w2 : World} (h : Step S S' w w1) (k : Step S' S'' w1 w2) : Step S S'' w w2 :=
  ⟨h.turn.trans k.turn (fun i hi hS => (h.new i hS).resolve_right (by omega)), fun i hi => k.sub i (h.sub i hi), fun i hi => by
    rcases k.new i hi with h1 | h1
    · rcases h.new i h1 with h2 | h2
      · exact .inl h2
      · exact .inr ⟨h2.1, Nat.lt_of_lt_of_le h2.2 k.turn.size⟩
    · exact .inr ⟨Nat.le_trans h.turn.size h1.1, h1.2⟩⟩
/-- THE ITERATOR's CONTRACT: it yields just xs, one by one, till it is told to stop. J: the loop's state, with the iterator's set of blocks (T at first); K: blocks that every round keeps. -/
def Iter {α : Type} (P : Program) (g : Nat) (lb : Array Value) (encs : α → Value) (xs : List α) (K T : Nat → Prop) (w : World) : Prop :=
  ∀ (l : Nat) (J Jx : List α → (Nat → Prop) → World → Prop) (W : World), Below w.heap.size w W → J [] T W →
    (∀ pre S S' W W', J pre S W → Step S S' W W' → J pre S' W') → (∀ pre S S' W W', Jx pre S W → Step S S' W W' → Jx pre S' W') →
    (∀ pre S x W, J pre S W → pre ++ [x] <+: xs → YieldAt Fence.wide 0 P l #[encs x] W fun e W' =>
      (e = .returned (.bool true) ∧ J (pre ++ [x]) S W' ∧ Turn (fun k => ¬ K k ∧ ¬ S k) W W') ∨ (e = .returned (.bool false) ∧ Jx (pre ++ [x]) S W' ∧ Turn (fun k => ¬ K k ∧ ¬ S k) W W')) →
    CallsIn Fence.wide 0 P g (#[.func (.yield l) #[] #[]] ++ lb) W fun e W' => (∃ v, e = .returned v) ∧ ∃ S', J xs S' W' ∨ ∃ pre, pre <+: xs ∧ Jx pre S' W'
/-- how the body of a round may be left -/
def iterPost {α : Type} (I : List α → (Nat → Prop) → World → Prop) (Ix : Code → List α → (Nat → Prop) → World → Prop) (K : Nat → Prop) (S : Nat → Prop) (xs : List α) (W : World) : Exit → Act → World → Prop
  | .normal, _, W' => I xs S W' ∧ Turn (fun k => ¬ K k ∧ ¬ S k) W W'
  | .ret, _, W' => Ix .ret xs S W' ∧ Turn (fun k => ¬ K k ∧ ¬ S k) W W'
  | .exit id, _, W' => Ix (.exit id) xs S W' ∧ Turn (fun k => ¬ K k ∧ ¬ S k) W W'
  | .goto t, _, W' => Ix (.goto t) xs S W' ∧ Turn (fun k => ¬ K k ∧ ¬ S k) W W'
  | .panic _, _, _ => False
  | .outgrown, _, _ => False
/-- THE LAW OF THE STATEMENT. The loop's record and the block of its rounds' deferred calls count among the iterator's blocks (S) in what the body is told. -/
theorem wpIn_rangeFunc_iter {α : Type} {P : Program} {g : Operand} {p : Tmp} {assign body : Code} {Q : Exit → Act → World → Prop} {a : Act} {w : World}
    {gf : Nat} {lb : Array Value} (hg : a.eval g = .func (.func gf) #[] lb) (eg : ∀ args w, (callFunc gf args).run P w = .ok (.enter gf args) w)
    {encs : α → Value} {xs : List α} {K T : Nat → Prop} {w0 : World} (hit : Iter P gf lb encs xs K T w0) (hb0 : Below w0.heap.size w0 w) (hK : ∀ k, K k → k < w.heap.size) (hT : ∀ k, T k → k < w.heap.size)
    (I : List α → (Nat → Prop) → World → Prop) (Ix : Code → List α → (Nat → Prop) → World → Prop)
    (hI : ∀ pre S S' W W', I pre S W → Step S S' W W' → I pre S' W') (hIx : ∀ c pre S S' W W', Ix c pre S W → Step S S' W W' → Ix c pre S' W')
    (h0 : I [] T w)
    (hbody : ∀ (l : Nat) (pre : List α) (x : α) (S : Nat → Prop) (W : World), pre ++ [x] <+: xs → I pre S W → w.heap.size ≤ W.heap.size → (∀ k, S k → k < W.heap.size) →
      assign.wpIn (Fence.wide.inRound l) 0 P (Exit.then (fun a1 W1 => Turn (fun k => ¬ K k ∧ ¬ S k) W W1 ∧ ∀ W2, Turn S W1 W2 → W1.heap.size = W2.heap.size → body.wpIn (Fence.wide.inRound l) 0 P (iterPost I Ix K S (pre ++ [x]) W2) a1 W2) (fun _ _ _ => False))
        { tmps := a.tmps.setIfInBounds p (encs x), defers := [] } W)
    (hdone : ∀ (D : Nat) (S : Nat → Prop) (W : World), S D → w.heap.size ≤ D → I xs S W → W.heap[D]? = some (.deferred (some [])) → Q .normal { a with defers := { target := .collected D, args := #[] } :: a.defers } W)
    (hstop : ∀ (D : Nat) (S : Nat → Prop) (c : Code) (pre : List α) (W : World), S D → w.heap.size ≤ D → pre <+: xs → Ix c pre S W → W.heap[D]? = some (.deferred (some [])) → c.wpIn Fence.wide 0 P Q { a with defers := { target := .collected D, args := #[] } :: a.defers } W) :
    (Code.rangeFunc g #[p] assign body).wpIn Fence.wide 0 P Q a w := by
  refine wpIn_rangeFunc ?_
  intro fn hfn
  obtain ⟨rec, hrec⟩ : ∃ rec : LoopState → Option Code → Loop, rec = fun st pe => { state := st, pending := pe, fn, tmps := a.tmps, params := #[p], assign, body, defers := w.heap.size } := ⟨_, rfl⟩
  obtain ⟨D, hD⟩ : ∃ D, D = w.heap.size := ⟨_, rfl⟩
  obtain ⟨L, hL⟩ : ∃ L, L = w.heap.size + 1 := ⟨_, rfl⟩
  obtain ⟨W1, hW1⟩ : ∃ W1, (w.alloc (.deferred (some []))).alloc (.loop (rec .ready none)) = W1 := ⟨_, rfl⟩
  have hs1 : W1.heap.size = w.heap.size + 2 := by rw [← hW1]; simp
  have hL1 : W1.heap[L]? = some (.loop (rec .ready none)) := by
    rw [← hW1, hL]; have := World.alloc_heap_new (w.alloc (.deferred (some []))) (.loop (rec .ready none)); rwa [World.size_alloc] at this
  have hK1 : W1.heap[D]? = some (.deferred (some [])) := by
    rw [← hW1, hD]; exact (Below.heap_alloc _ _ _ (by simp)).trans (World.alloc_heap_new w _)
  have ht1 : Turn T w W1 := by rw [← hW1]; exact ((Turn.refl _ w).alloc _).alloc _
  have hst1 : Step T (fun k => T k ∨ k = D ∨ k = L) w W1 := ⟨ht1, fun _ h => .inl h, fun k hk => hk.imp id fun hk => (by omega)⟩
  have hI1 : I [] (fun k => T k ∨ k = D ∨ k = L) W1 := hI _ _ _ _ _ h0 hst1
  have hb1 : Below w0.heap.size w0 W1 := hb0.trans ((by rw [← hW1]; exact ((Below.refl _ w).alloc hb0.size _).alloc (by simp; have := hb0.size; omega) _ : Below w0.heap.size w W1))
  refine ⟨L, [{ target := .collected D, args := #[] }], W1, { target := .fn (.func gf) lb, args := #[.func (.yield L) #[] #[]] }, W1, gf,
    #[.func (.yield L) #[] #[]] ++ lb, W1, ?_, ?_, ?_, ?_, fun h => by simp [Fence.wide] at h, ?_⟩
  · rw [← hW1, hrec, hD, hL]; exact run_enterLoop_outer _ _ _ _ _
  · simp only [resolve, hg]
    simp [go_sem]
  · intro f' _; trivial
  · simp [invoke, go_sem, eg]
  · refine (hit L
      (fun pre S W => I pre (fun k => S k ∨ k = D ∨ k = L) W ∧ W.heap[L]? = some (.loop (rec .ready none)) ∧ W.heap[D]? = some (.deferred (some [])) ∧ ¬ S D ∧ ¬ S L ∧ ∀ k, S k → k < W.heap.size)
      (fun pre S W => ∃ c, Ix c pre (fun k => S k ∨ k = D ∨ k = L) W ∧ W.heap[L]? = some (.loop (rec .done (some c))) ∧ W.heap[D]? = some (.deferred (some [])) ∧ ¬ S D ∧ ¬ S L)
      W1 hb1 ⟨hI1, hL1, hK1, fun h => by have := hT _ h; omega, fun h => by have := hT _ h; omega, fun k h => by have := hT _ h; omega⟩ ?_ ?_ ?_).mono ?_
    · rintro pre S S' W W' ⟨hi, hl, hd, hnd, hnl, hS⟩ hst
      have hlL := (Array.getElem?_eq_some_iff.1 hl).1
      have hlD := (Array.getElem?_eq_some_iff.1 hd).1
      refine ⟨hI _ _ _ _ _ hi ⟨hst.turn.mono fun k _ h => .inl h, fun k h => h.imp (hst.sub k) id, fun k h => ?_⟩, (hst.turn.block L hlL hnl).trans hl, (hst.turn.block D hlD hnd).trans hd, fun h => ?_, fun h => ?_, fun k hk => ?_⟩
      · rcases h with h | h
        · rcases hst.new k h with h | h
          · exact .inl (.inl h)
          · exact .inr h
        · exact .inl (.inr h)
      · rcases hst.new D h with h | h
        · exact hnd h
        · omega
      · rcases hst.new L h with h | h
        · exact hnl h
        · omega
      · rcases hst.new k hk with h | h
        · have := hS k h; have := hst.turn.size; omega
        · exact h.2
    · rintro pre S S' W W' ⟨c, hi, hl, hd, hnd, hnl⟩ hst
      have hlL := (Array.getElem?_eq_some_iff.1 hl).1
      have hlD := (Array.getElem?_eq_some_iff.1 hd).1
      refine ⟨c, hIx _ _ _ _ _ _ hi ⟨hst.turn.mono fun k _ h => .inl h, fun k h => h.imp (hst.sub k) id, fun k h => ?_⟩, (hst.turn.block L hlL hnl).trans hl, (hst.turn.block D hlD hnd).trans hd, fun h => ?_, fun h => ?_⟩
      · rcases h with h | h
        · rcases hst.new k h with h | h
          · exact .inl (.inl h)
          · exact .inr h
        · exact .inl (.inr h)
      · rcases hst.new D h with h | h
        · exact hnd h
        · omega
      · rcases hst.new L h with h | h
        · exact hnl h
        · omega
    · -- one round
      rintro pre S x W ⟨hi, hl, hd, hnd, hnl, hS⟩ hpre
      have hlL := (Array.getElem?_eq_some_iff.1 hl).1
      have hlD := (Array.getElem?_eq_some_iff.1 hd).1
      have hNW : w.heap.size ≤ W.heap.size := by omega
      have hKL : ¬ K L := fun h => by have := hK _ h; omega
      have hy := run_yield (P := P) (args := #[encs x]) hl (by rw [hrec]; rfl)
      rw [hrec] at hy
      have hy' : (Instr.yield L #[encs x]).run P W = .ok (.round L fn (a.tmps.setIfInBounds p (encs x)) assign body) W := by rw [hy]; simp
      refine ⟨fn, _, assign, body, hy', roundIn_of_wpIn hfn (wpIn_mono (hbody L pre x _ W hpre hi hNW (fun k h => h.elim (hS k) fun h => h.elim (fun h => h ▸ hlD) fun h => h ▸ hlL)) ?_)⟩
      rintro e a1 W2 hq
      cases e with
      | normal =>
        obtain ⟨hT2, hbd⟩ := hq
        have e2 : ∀ k, k < W.heap.size → (S k ∨ k = D ∨ k = L) → W2.heap[k]? = W.heap[k]? := fun k hk h => hT2.block k hk fun h' => h'.2 h
        have hl2 := (e2 L hlL (.inr (.inr rfl))).trans hl
        have hd2 := (e2 D hlD (.inr (.inl rfl))).trans hd
        refine ⟨_, run_beginRound hl2 (by rw [hrec]), ?_⟩
        have hsz2 : L < W2.heap.size := (Array.getElem?_eq_some_iff.1 hl2).1
        have hl3 : (W2.putObj L (.loop { rec .ready none with state := .busy })).heap[L]? = some (.loop { rec .ready none with state := .busy }) := World.putObj_heap_same hsz2
        have hd3 : (W2.putObj L (.loop { rec .ready none with state := .busy })).heap[D]? = some (.deferred (some [])) := (World.putObj_heap_other (by omega)).trans hd2
        obtain ⟨W3, hW3⟩ : ∃ W3, W2.putObj L (.loop { rec .ready none with state := .busy }) = W3 := ⟨_, rfl⟩
        rw [hW3] at hl3 hd3 ⊢
        have hT3 : Turn (fun k => ¬ K k ∧ ¬ S k) W W3 := by
          rw [← hW3]; exact (hT2.mono (fun k _ h => ⟨h.1, fun hs => h.2 (.inl hs)⟩)).putObj (fun _ => ⟨hKL, hnl⟩) _
        have fin : ∀ (jump : Option Code) (W4 : World), Turn (fun k => ¬ K k ∧ ¬ (S k ∨ k = D ∨ k = L)) W3 W4 →
            (Instr.endRound L jump).run P W4 = .ok (.bool jump.isNone) (W4.putObj L (.loop (rec (if jump.isNone then .ready else .done) jump))) ∧
            (W4.putObj L (.loop (rec (if jump.isNone then .ready else .done) jump))).heap[L]? = some (.loop (rec (if jump.isNone then .ready else .done) jump)) ∧
            (W4.putObj L (.loop (rec (if jump.isNone then .ready else .done) jump))).heap[D]? = some (.deferred (some [])) ∧
            Turn (fun k => ¬ K k ∧ ¬ S k) W (W4.putObj L (.loop (rec (if jump.isNone then .ready else .done) jump))) ∧
            Step (fun k => S k ∨ k = D ∨ k = L) (fun k => S k ∨ k = D ∨ k = L) W4 (W4.putObj L (.loop (rec (if jump.isNone then .ready else .done) jump))) := fun jump W4 hT => by
          have hl4 := (hT.block L (Array.getElem?_eq_some_iff.1 hl3).1 (fun h' => h'.2 (.inr (.inr rfl)))).trans hl3
          have hd4 := (hT.block D (Array.getElem?_eq_some_iff.1 hd3).1 (fun h' => h'.2 (.inr (.inl rfl)))).trans hd3
          have := run_endRound (P := P) jump hl4
          rw [hrec] at this ⊢
          exact ⟨this, World.putObj_heap_same (Array.getElem?_eq_some_iff.1 hl4).1, (World.putObj_heap_other (by omega)).trans hd4,
            (hT3.trans hT (fun k _ h => ⟨h.1, fun hs => h.2 (.inl hs)⟩)).putObj (fun _ => ⟨hKL, hnl⟩) _, .same ((Turn.refl _ W4).putObj (fun _ => .inr (.inr rfl)) _)⟩
        refine wpIn_mono (hbd W3 (by rw [← hW3]; exact (Turn.refl _ W2).putObj (fun _ => .inr (.inr rfl)) _) (by rw [← hW3]; simp)) ?_
        rintro e a3 W4 hp
        cases e with
        | normal =>
          obtain ⟨hi4, hT⟩ := hp
          obtain ⟨hr, hl4, hd4, hT5, hst5⟩ := fin none W4 hT
          exact ⟨_, _, hr, .inl ⟨rfl, ⟨hI _ _ _ _ _ hi4 hst5, hl4, hd4, hnd, hnl, fun k hk => Nat.lt_of_lt_of_le (hS k hk) hT5.size⟩, hT5⟩⟩
        | ret =>
          obtain ⟨hi4, hT⟩ := hp
          obtain ⟨hr, hl4, hd4, hT5, hst5⟩ := fin (some .ret) W4 hT
          exact ⟨_, _, hr, .inr ⟨rfl, ⟨_, hIx _ _ _ _ _ _ hi4 hst5, hl4, hd4, hnd, hnl⟩, hT5⟩⟩
        | exit id =>
          obtain ⟨hi4, hT⟩ := hp
          obtain ⟨hr, hl4, hd4, hT5, hst5⟩ := fin (some (.exit id)) W4 hT
          exact ⟨_, _, hr, .inr ⟨rfl, ⟨_, hIx _ _ _ _ _ _ hi4 hst5, hl4, hd4, hnd, hnl⟩, hT5⟩⟩
        | goto t =>
          obtain ⟨hi4, hT⟩ := hp
          obtain ⟨hr, hl4, hd4, hT5, hst5⟩ := fin (some (.goto t)) W4 hT
          exact ⟨_, _, hr, .inr ⟨rfl, ⟨_, hIx _ _ _ _ _ _ hi4 hst5, hl4, hd4, hnd, hnl⟩, hT5⟩⟩
        | panic ch => exact hp.elim
        | outgrown => exact hp.elim
      | exit id => exact hq.elim
      | goto t => exact hq.elim
      | ret => exact hq.elim
      | panic ch => exact hq.elim
      | outgrown => exact hq.elim
    · -- behind the iterator
      rintro e W2 ⟨⟨v, rfl⟩, S', (⟨hi, hl, hd, hnd, hnl, _⟩ | ⟨pre, hpre, c, hi, hl, hd, hnd, hnl⟩)⟩
      · have he := run_endLoop (P := P) hl (by rw [hrec]; simp)
        rw [hrec] at he
        exact ⟨none, _, he, hdone D _ _ (.inr (.inl rfl)) (by omega) (hI _ _ _ _ _ hi (.same ((Turn.refl _ W2).putObj (fun _ => .inr (.inr rfl)) _))) ((World.putObj_heap_other (by omega)).trans hd)⟩
      · have he := run_endLoop (P := P) hl (by rw [hrec]; simp)
        rw [hrec] at he
        exact ⟨some c, _, he, hstop D _ c pre _ (.inr (.inl rfl)) (by omega) hpre (hIx _ _ _ _ _ _ hi (.same ((Turn.refl _ W2).putObj (fun _ => .inr (.inr rfl)) _))) ((World.putObj_heap_other (by omega)).trans hd)⟩
end B
end Go.Proofs.YtibeoiphjkgekaaGreat
