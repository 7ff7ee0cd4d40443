/-
  A map of its own from int64-like numbers to such, read as a function; worlds that are alike but for some blocks.
-/
import Derived.Maps.OwnSet
import Derived.Test.YtapfndjaimfcaaaBase
namespace Go.Proofs.Ytapfndjaimfcaaa
namespace B
open Go.RowKit
/-- all blocks but those of X are as they were -/
structure But (w w' : World) (X : List Nat) : Prop where
  os : w'.os = w.os
  tape : w'.tape = w.tape
  output : w'.output = w.output
  size : w.heap.size ≤ w'.heap.size
  keep : ∀ b, b < w.heap.size → b ∉ X → w'.heap[b]? = w.heap[b]?
theorem But.refl (w : World) (X : List Nat) : But w w X := ⟨rfl, rfl, rfl, Nat.le_refl _, fun _ _ _ => rfl⟩
theorem But.trans {a b c : World} {X : List Nat} (h : But a b X) (k : But b c X) : But a c X :=
  ⟨k.os.trans h.os, k.tape.trans h.tape, k.output.trans h.output, Nat.le_trans h.size k.size, fun i hi hx => (k.keep i (Nat.lt_of_lt_of_le hi h.size) hx).trans (h.keep i hi hx)⟩
/-- .. where the later set holds blocks that the first world did not have -/
theorem But.trans' {a b c : World} {X Y : List Nat} (h : But a b X) (k : But b c Y) (hY : ∀ y ∈ Y, y ∈ X ∨ a.heap.size ≤ y) : But a c X :=
  ⟨k.os.trans h.os, k.tape.trans h.tape, k.output.trans h.output, Nat.le_trans h.size k.size, fun i hi hx => (k.keep i (Nat.lt_of_lt_of_le hi h.size) (fun hy => (hY i hy).elim hx (fun hh => by omega))).trans (h.keep i hi hx)⟩
theorem But.mono {a b : World} {X Y : List Nat} (h : But a b X) (hY : ∀ x ∈ X, x ∈ Y) : But a b Y := ⟨h.os, h.tape, h.output, h.size, fun i hi hx => h.keep i hi (fun hh => hx (hY i hh))⟩
theorem But.of_below {a b : World} (h : Below a.heap.size a b) (X : List Nat) : But a b X := ⟨h.os, h.tape, h.output, h.size, fun i hi _ => h.block i hi⟩
theorem But.below {a b : World} {X : List Nat} {n : Nat} (h : But a b X) (hn : n ≤ a.heap.size) (hX : ∀ x ∈ X, n ≤ x) : Below n a b := ⟨h.os, h.tape, h.output, h.size, fun i hi => h.keep i (by omega) (fun hx => by have := hX i hx; omega)⟩
theorem But.of_grown {a b : World} {row : Nat} (h : a.grownBy b (some row)) {X : List Nat} (hX : row ∈ X) : But a b X := ⟨h.os, h.tape, h.output, h.size, fun i hi hx => h.block i hi (fun e => hx (by cases e; exact hX))⟩
theorem But.of_set (w : World) (a : Addr) (u : Value) {X : List Nat} (hX : a.block ∈ X) : But w (w.setCell a u) X :=
  ⟨rfl, rfl, rfl, by simp, fun i _ hx => Below.heap_setCell _ _ _ _ (fun e => hx (e ▸ hX))⟩
theorem But.cell {w w' : World} {X : List Nat} (h : But w w' X) {p : Addr} (hp : p.block < w.heap.size) (hX : p.block ∉ X) : w'.cell? p = w.cell? p := World.cell?_of_block (h.keep _ hp hX)
variable {P : Program} {k e : TypeId}
/-- block m is a map that reads as f, of N entries -/
def MapI (P : Program) (k e : TypeId) (w : World) (m : Nat) (f : Int → Option Int) (N : Nat) : Prop :=
  ∃ D : DataW Nat, w.ownsMap P k (plainElem P e) m N D ∧ Maps.size D = N ∧ ∀ a, Maps.has D (.int .i64 a) = (f a).isSome ∧ ∀ v, f a = some v → ∀ z, D.atKey (.int .i64 a) z = .lit (.int .i64 v)
theorem MapI.lt {w : World} {m N : Nat} {f : Int → Option Int} (h : MapI P k e w m f N) : m < w.heap.size := by obtain ⟨D, h, _⟩ := h; exact h.lt
theorem MapI.keep {w w' : World} {m N : Nat} {f : Int → Option Int} (h : MapI P k e w m f N) (hk : w'.heap[m]? = w.heap[m]?) : MapI P k e w' m f N := by
  obtain ⟨D, ⟨es, cl, hb, r⟩, h2⟩ := h
  exact ⟨D, ⟨es, cl, hk.trans hb, r⟩, h2⟩
theorem MapI.below {w w' : World} {m N : Nat} {f : Int → Option Int} (h : MapI P k e w m f N) (hb : Below w.heap.size w w') : MapI P k e w' m f N := h.keep (hb.block m h.lt)
theorem MapI.but {w w' : World} {m N : Nat} {f : Int → Option Int} {X : List Nat} (h : MapI P k e w m f N) (hb : But w w' X) (hX : m ∉ X) : MapI P k e w' m f N := h.keep (hb.keep m h.lt hX)
theorem MapI.new (w : World) : MapI P k e (w.alloc (.map #[] 0)) w.heap.size (fun _ => none) 0 :=
  ⟨.map [], World.ownsMap_made w P k _, rfl, fun a => ⟨rfl, fun v h => by cases h⟩⟩
theorem wf64 {a : Int} (h1 : -9223372036854775808 ≤ a) (h2 : a ≤ 9223372036854775807) : (Lit.int .i64 a).wf = true := by
  simp only [Lit.wf, Bool.and_eq_true, decide_eq_true_eq]
  exact ⟨h1, h2⟩
theorem MapI.look {w : World} {m N : Nat} {f : Int → Option Int} (h : MapI P k e w m f N) {t : TypeId} (ht : P.underlying t = some (.map k e)) (hk : P.underlying k = some (.int .i64)) (he : P.underlying e = some (.int .i64))
    (hz : (zeroValue e).run P w = .ok (.int .i64 0) w) {a : Int} (ha : (Lit.int .i64 a).wf = true) :
    (Instr.lookup t (.map (some m)) (.int .i64 a) true).run P w = .ok (.tuple #[.int .i64 ((f a).getD 0), .bool (f a).isSome]) w ∧
    (Instr.lookup t (.map (some m)) (.int .i64 a) false).run P w = .ok (.int .i64 ((f a).getD 0)) w := by
  obtain ⟨D, hD, hs, hf⟩ := h
  have hkey := Maps.keyOf_int_mk hk ha
  have K := Maps.int_keyed hk
  have hat : ∀ c : Int, D.atKey (.int .i64 a) (.lit (.int .i64 0)) = .lit (.int .i64 c) → c = (f a).getD 0 := fun c hc => by
    cases hfa : f a with
    | none =>
      have h0 : Maps.has D (.int .i64 a) = false := by rw [(hf a).1, hfa]; rfl
      rw [Maps.atKey_of_not_has h0] at hc
      cases hc; rfl
    | some v =>
      rw [(hf a).2 v hfa] at hc
      cases hc; rfl
  constructor
  · obtain ⟨v, ps, hrun, hv⟩ := hD.look_ok K ht hz (plainElem_int he (by decide)) hkey
    obtain ⟨c, rfl, hc, _⟩ := plainElem_int_inv he hv
    rw [hrun, (hf a).1, hat c (by simpa using (congrArg Prod.fst hc))]
  · obtain ⟨c, hrun, hc, _⟩ := hD.lookup_int K ht he hz hkey
    rw [hrun, hat c hc]
def updI (f : Int → Option Int) (a v : Int) : Int → Option Int := fun x => if x = a then some v else f x
def delI (f : Int → Option Int) (a : Int) : Int → Option Int := fun x => if x = a then none else f x
theorem key_isKey {a : Int} : WideAt.IsKeyLit (.int .i64 a) := by simp [WideAt.IsKeyLit]
theorem lit_ne {a b : Int} (h : a ≠ b) : (Lit.int .i64 a) ≠ Lit.int .i64 b := fun e => h (by cases e; rfl)
theorem MapI.store {w : World} {m N : Nat} {f : Int → Option Int} (h : MapI P k e w m f N) {t : TypeId} (ht : P.underlying t = some (.map k e)) (hk : P.underlying k = some (.int .i64)) (he : P.underlying e = some (.int .i64))
    (hN : N < 9223372036854775807) {a v : Int} (ha : (Lit.int .i64 a).wf = true) (hv : (Lit.int .i64 v).wf = true) :
    ∃ w', (Instr.mapUpdate t (.map (some m)) (.int .i64 a) (.int .i64 v)).run P w = .ok () w' ∧ MapI P k e w' m (updI f a v) (if (f a).isSome then N else N + 1) ∧ w.mapTurned w' m := by
  obtain ⟨D, hD, hs, hf⟩ := h
  have hkey := Maps.keyOf_int_mk hk ha
  have K := Maps.int_keyed hk
  have T := hD.tidy K
  obtain ⟨w', hrun, hD', hturn⟩ := hD.store K ht (by rw [maxLen_num]; exact hN) hkey (plainElem_int he hv)
  have hsz : Maps.size (D.put (.int .i64 a) (.lit (.int .i64 v))) = if (f a).isSome then N else N + 1 := by rw [Maps.size_put T, (hf a).1, hs]
  refine ⟨w', hrun, ⟨D.put (.int .i64 a) (.lit (.int .i64 v)), ?_, hsz, fun x => ?_⟩, hturn⟩
  · obtain ⟨es, cl, hb, F, _, hd⟩ := hD'
    refine ⟨es, cl, hb, F, ?_, hd⟩
    rw [← hsz, hd]
    simp [Maps.size, length_sorted]
  · by_cases hx : x = a
    · subst hx
      refine ⟨by rw [Maps.has_put_same T.isMap key_isKey]; simp [updI], fun v' hv' z => ?_⟩
      rw [Maps.atKey_put_same T.isMap key_isKey]
      simp [updI] at hv'
      rw [hv']
    · refine ⟨by rw [Maps.has_put_other (lit_ne hx), (hf x).1]; simp [updI, hx], fun v' hv' z => ?_⟩
      rw [Maps.atKey_put_other (lit_ne hx)]
      exact (hf x).2 v' (by simpa [updI, hx] using hv') z
theorem MapI.drop {w : World} {m N : Nat} {f : Int → Option Int} (h : MapI P k e w m f N) {t : TypeId} (ht : P.underlying t = some (.map k e)) (hk : P.underlying k = some (.int .i64))
    {a : Int} (ha : (Lit.int .i64 a).wf = true) (ty : TypeId) :
    ∃ w', (Builtin.delete_ #[t, k] ty #[.map (some m), .int .i64 a]).run P w = .ok (.tuple #[]) w' ∧ MapI P k e w' m (delI f a) (if (f a).isSome then N - 1 else N) ∧ w.mapTurned w' m := by
  obtain ⟨D, hD, hs, hf⟩ := h
  have hkey := Maps.keyOf_int_mk hk ha
  have K := Maps.int_keyed hk
  have T := hD.tidy K
  obtain ⟨w', hrun, hD', hturn⟩ := hD.drop K ht hkey ty
  have hsz : Maps.size (D.del (.int .i64 a)) = if (f a).isSome then N - 1 else N := by
    have := Maps.size_del (k := .int .i64 a) T
    rw [(hf a).1, hs] at this
    split <;> simp_all <;> omega
  refine ⟨w', hrun, ⟨D.del (.int .i64 a), ?_, hsz, fun x => ?_⟩, hturn⟩
  · obtain ⟨es, cl, hb, F, _, hd⟩ := hD'
    refine ⟨es, cl, hb, F, ?_, hd⟩
    rw [← hsz, hd]
    simp [Maps.size, length_sorted]
  · by_cases hx : x = a
    · subst hx
      exact ⟨by rw [Maps.has_del_same]; simp [delI], fun v' hv' z => by simp [delI] at hv'⟩
    · refine ⟨by rw [Maps.has_del_other (lit_ne hx), (hf x).1]; simp [delI, hx], fun v' hv' z => ?_⟩
      rw [Maps.atKey_del_other (lit_ne hx)]
      exact (hf x).2 v' (by simpa [delI, hx] using hv') z
/-- 'delete(m, k)' whose run is known -/
theorem wpList_delete_run {P : Program} {w w' : World} {ops : Array Oper} {rest : List Oper} {o : Oper} {a : Act} {Q : Exit → Act → World → Prop} (hg : o.guard = none) (m x : Operand) (t k : TypeId)
    (hop : o.op = Op.call { callee := Callee.builtin Builtin.delete, args := #[m, x], argTypes := #[t, k] }) {b : Nat} {key : Value} (hm : a.eval m = .map (some b)) (hx : a.eval x = key)
    (hrun : (Builtin.delete_ #[t, k] o.type #[.map (some b), key]).run P w = .ok (.tuple #[]) w') (hK : wpList P ops Q rest (a.put o.dst (.tuple #[])) w') : wpList P ops Q (o :: rest) a w := by
  refine wpList_plain hg fun K' hK' => ?_
  unfold Oper.wp
  simp [execOp, hop, resolve, invoke, builtin, hm, hx, hrun, Result.andThen]
  exact hK' _ _ hK
end B
end Go.Proofs.Ytapfndjaimfcaaa
