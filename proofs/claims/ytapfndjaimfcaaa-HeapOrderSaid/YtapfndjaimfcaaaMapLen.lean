/-
  How many entries a map has; a row of items told by a map from numbers to keys.
-/
import Derived.Test.YtapfndjaimfcaaaMapI
namespace Go.Proofs.Ytapfndjaimfcaaa
namespace B
open Go.RowKit
variable {P : Program} {k e : TypeId}
theorem MapI.len {w : World} {m N : Nat} {f : Int → Option Int} (h : MapI P k e w m f N) {t : TypeId} (ht : P.underlying t = some (.map k e)) (ty : TypeId) : (Builtin.len_ #[t] ty #[.map (some m)]).run P w = .ok (.int .i64 N) w := by
  obtain ⟨D, hD, hs, _⟩ := h
  rw [hD.len ht ty, hs]
theorem wpList_len_run {P : Program} {w : World} {ops : Array Oper} {rest : List Oper} {o : Oper} {a : Act} {Q : Exit → Act → World → Prop} (hg : o.guard = none) (m : Operand) (t : TypeId)
    (hop : o.op = Op.call { callee := Callee.builtin Builtin.len, args := #[m], argTypes := #[t] }) {b N : Nat} (hm : a.eval m = .map (some b))
    (hrun : (Builtin.len_ #[t] o.type #[.map (some b)]).run P w = .ok (.int .i64 N) w) (hK : wpList P ops Q rest (a.put o.dst (.int .i64 N)) w) : wpList P ops Q (o :: rest) a w := by
  refine wpList_plain hg fun K' hK' => ?_
  unfold Oper.wp
  simp [execOp, hop, resolve, invoke, builtin, hm, hrun, Result.andThen]
  exact hK' _ _ hK
theorem MapI.turned {w w' : World} {m : Nat} (h : w.mapTurned w' m) {X : List Nat} (hX : m ∈ X) : But w w' X := But.of_grown h.grown hX
/-- the map tells the items: by number, the key -/
def KeyOk (f : Int → Option Int) (l : List (Int × Int)) : Prop := (∀ x ∈ l, f x.2 = some x.1) ∧ (∀ a v, f a = some v → (v, a) ∈ l) ∧ (l.map Prod.snd).Nodup
theorem keyOk_nil : KeyOk (fun _ => none) [] := ⟨fun x h => (by cases h), fun a v h => (by cases h), List.nodup_nil⟩
theorem KeyOk.gone {f : Int → Option Int} {l : List (Int × Int)} (h : KeyOk f l) {a : Int} (hf : f a = none) : ∀ x ∈ l, x.2 ≠ a := fun x hx e => by
  have := h.1 x hx
  rw [e, hf] at this; cases this
theorem KeyOk.push {f : Int → Option Int} {l : List (Int × Int)} (h : KeyOk f l) {k a : Int} (hf : f a = none) : KeyOk (updI f a k) ((k, a) :: l) := by
  refine ⟨fun x hx => ?_, fun b v hb => ?_, ?_⟩
  · unfold updI
    rcases List.mem_cons.1 hx with rfl | hx
    · rw [if_pos rfl]
    · rw [if_neg (h.gone hf x hx)]; exact h.1 x hx
  · unfold updI at hb
    split at hb
    · rename_i e; cases hb; subst e; simp
    · exact List.mem_cons_of_mem _ (h.2.1 b v hb)
  · rw [List.map_cons, List.nodup_cons]
    refine ⟨fun hm => ?_, h.2.2⟩
    obtain ⟨y, hy, e⟩ := List.mem_map.1 hm
    exact h.gone hf y hy e
theorem KeyOk.perm {f : Int → Option Int} {l l' : List (Int × Int)} (h : KeyOk f l) (hp : l.Perm l') : KeyOk f l' :=
  ⟨fun x hx => h.1 x (hp.mem_iff.2 hx), fun a v ha => hp.mem_iff.1 (h.2.1 a v ha), (hp.map Prod.snd).nodup_iff.1 h.2.2⟩
theorem KeyOk.tail {f : Int → Option Int} {l : List (Int × Int)} {x : Int × Int} (h : KeyOk f (x :: l)) : KeyOk (delI f x.2) l := by
  have hnd := h.2.2
  rw [List.map_cons, List.nodup_cons] at hnd
  refine ⟨fun y hy => ?_, fun b v hb => ?_, hnd.2⟩
  · unfold delI
    rw [if_neg (fun e => hnd.1 (List.mem_map.2 ⟨y, hy, e⟩))]
    exact h.1 y (List.mem_cons_of_mem _ hy)
  · unfold delI at hb
    split at hb
    · cases hb
    · rename_i e
      rcases List.mem_cons.1 (h.2.1 b v hb) with e2 | hm
      · exact absurd (by rw [← e2]) e
      · exact hm
/-- a key turned -/
theorem KeyOk.turn {f : Int → Option Int} {l : List (Int × Int)} {old k a : Int} (h : KeyOk f ((old, a) :: l)) : KeyOk (updI f a k) ((k, a) :: l) := by
  have hnd := h.2.2
  rw [List.map_cons, List.nodup_cons] at hnd
  refine ⟨fun y hy => ?_, fun b v hb => ?_, ?_⟩
  · unfold updI
    rcases List.mem_cons.1 hy with rfl | hy
    · rw [if_pos rfl]
    · rw [if_neg (fun e => hnd.1 (List.mem_map.2 ⟨y, hy, e⟩))]
      exact h.1 y (List.mem_cons_of_mem _ hy)
  · unfold updI at hb
    split at hb
    · rename_i e; cases hb; subst e; simp
    · rename_i e
      rcases List.mem_cons.1 (h.2.1 b v hb) with e2 | hm
      · cases e2; exact absurd rfl e
      · exact List.mem_cons_of_mem _ hm
  · rw [List.map_cons, List.nodup_cons]; exact hnd
end B
end Go.Proofs.Ytapfndjaimfcaaa
