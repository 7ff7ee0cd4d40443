/-
  An owned row cut to its first elements, what lies behind them cleared; an owned row sorted.
-/
import Derived.Test.YtibeoiphjkgekaaGreatMem3
import Derived.Test.YtibeoiphjkgekaaGreatRow
import Derived.Test.YtibeoiphjkgekaaGreatGrew
import Derived.Laws.IdiomCopy
import Derived.Laws.OwnMore
import Derived.OwnWalk
namespace Go.Proofs.YtibeoiphjkgekaaGreat
namespace B
open Go.RowKit
theorem grown_trans {a b c : World} {row : Option Nat} (h : a.grownBy b row) (k : b.grownBy c row) : a.grownBy c row :=
  ⟨k.os.trans h.os, k.tape.trans h.tape, k.output.trans h.output, Nat.le_trans h.size k.size, fun i hi hne => (k.block i (Nat.lt_of_lt_of_le hi h.size) hne).trans (h.block i hi hne)⟩
theorem grown_below {w w' : World} (h : Below w.heap.size w w') (row : Option Nat) : w.grownBy w' row := ⟨h.os, h.tape, h.output, h.size, fun i hi _ => h.block i hi⟩
/-- the first m of an owned row -/
theorem own_first {w : World} {base : Nat} {e : TypeId} {size n c g : Nat} {xs : List Value} (h : w.ownsRow base e size (.slice (some ⟨g, 0, none⟩) n c) n xs) {m : Nat} (hm : m ≤ n) :
    w.ownsRow base e size (.slice (some ⟨g, 0, none⟩) m c) m (xs.take (m * size)) := by
  rcases h.2 with ⟨h', _⟩ | ⟨g', cap', cur, h', hb, hg, hnc, hcm, hcs, htake⟩
  · simp at h'
  · simp only [Value.slice.injEq, Option.some.injEq, Addr.mk.injEq, and_true, true_and] at h'
    obtain ⟨rfl, rfl⟩ := h'
    have hle : m * size ≤ n * size := Nat.mul_le_mul_right _ hm
    refine ⟨by rw [List.length_take, h.1]; omega, .inr ⟨g, c, cur, rfl, hb, hg, by omega, hcm, hcs, ?_⟩⟩
    rw [← htake, List.take_take, Nat.min_eq_left hle]
/-- stores behind it -/
theorem own_behind {base : Nat} {e : TypeId} {size c g m : Nat} {xs : List Value} : ∀ (vs : List Value) (o : Nat) (w : World), w.ownsRow base e size (.slice (some ⟨g, 0, none⟩) m c) m xs → m * size ≤ o →
    (w.setCells g o vs).ownsRow base e size (.slice (some ⟨g, 0, none⟩) m c) m xs ∧ w.grownBy (w.setCells g o vs) (some g)
  | [], _, w, h, _ => ⟨h, World.grownBy.refl w _⟩
  | v :: r, o, w, h, ho => by
    obtain ⟨h1, h2⟩ := h.stored o v
    rw [List.set_eq_of_length_le (by rw [h.1]; exact ho)] at h1
    obtain ⟨h3, h4⟩ := own_behind r (o + 1) _ h1 (by omega)
    exact ⟨h3, grown_trans h2 h4⟩
theorem own_clear {P : Program} {t e ty : TypeId} {z : Value} {size bytes : Nat} (ht : P.underlying t = some (.slice e)) (hi : (P.info? e).map (fun i => (i.zero, i.size, i.bytes)) = some (some z, size, bytes)) (hzs : z.cells.size = size) (hsz : 0 < size) (h1 : ∀ u ∈ z.cells, u.oneCell' = true)
    {base : Nat} {w : World} {n c g : Nat} {xs : List Value} (h : w.ownsRow base e size (.slice (some ⟨g, 0, none⟩) n c) n xs) (hnc : n ≤ c) {m : Nat} (hm : m ≤ n) :
    ∃ w1, (Builtin.clear_ #[t] ty #[.slice (cutA (some ⟨g, 0, none⟩) c m size) (n - m) (c - m)]).run P w = .ok (.tuple #[]) w1 ∧ w1.ownsRow base e size (.slice (some ⟨g, 0, none⟩) m c) m (xs.take (m * size)) ∧ w.grownBy w1 (some g) := by
  obtain ⟨i, hi, hz0, hz1, hz2⟩ := info_parts hi
  have own := own_first h hm
  rcases Nat.eq_zero_or_pos (n - m) with h0 | h0
  · refine ⟨w, ?_, own, World.grownBy.refl w _⟩
    rw [h0]
    generalize cutA (some (⟨g, 0, none⟩ : Addr)) c m size = A'
    unfold Builtin.clear_
    cases A' <;> simp [run_underlying ht]
  · have hcm : ¬ c = m := by omega
    unfold cutA
    rw [if_neg hcm]
    have hzv : ∀ w, (zeroValue e).run P w = .ok z w := fun w => by simp [zeroValue, typeInfo, hi, hz0]
    have hlen : (Builtin.zeroCells z.cells (n - m)).toList.length = (n - m) * size := by rw [← hzs]; simp [Builtin.zeroCells]
    have hone : ∀ v ∈ (Builtin.zeroCells z.cells (n - m)).toList, v.oneCell' = true := by
      intro v hv
      unfold Builtin.zeroCells at hv
      rw [Array.toList_map, List.mem_map] at hv
      obtain ⟨j, _, rfl⟩ := hv
      have hjl : j % z.cells.size < z.cells.size := Nat.mod_lt _ (by omega)
      rw [getElem!_pos z.cells _ hjl]
      exact h1 _ (Array.getElem_mem hjl)
    have hspan : m * size + (n - m) * size = n * size := by rw [← Nat.add_mul]; congr 1; omega
    have hst := run_storeCells_cells (P := P) g (m * size) (Builtin.zeroCells z.cells (n - m)).toList 0 w
      (fun j hj => by
        rw [hlen] at hj
        have := h.cellAt (m * size + 0 + j) (by omega)
        rw [this, List.getElem?_eq_getElem (by rw [h.1]; omega)]; rfl)
      (fun j hj => h.frozenAt _) hone
    rw [Nat.add_zero] at hst
    obtain ⟨k1, k2⟩ := own_behind (Builtin.zeroCells z.cells (n - m)).toList (m * size) w own (Nat.le_refl _)
    refine ⟨_, ?_, k1, k2⟩
    obtain ⟨q, hq⟩ : ∃ q, n - m = q + 1 := ⟨n - m - 1, by omega⟩
    rw [hq] at hst ⊢
    unfold Builtin.clear_
    have hadd : (some (⟨g, 0, none⟩ : Addr)).map (·.add (m * size)) = some ⟨g, m * size, none⟩ := by simp [Addr.add_lit]
    rw [hadd]
    simp [run_underlying ht, hzv, hst]
/-- a clear whose run is known -/
theorem wpList_clear_run {P : Program} {w : World} {ops : Array Oper} {rest : List Oper} {o : Oper} {a : Act} {Q : Exit → Act → World → Prop}
    (hg : o.guard = none) (x : Operand) (t : TypeId) (hop : o.op = Op.call { callee := Callee.builtin Builtin.clear, args := #[x], argTypes := #[t] }) {u v' : Value} {w' : World}
    (hx : a.eval x = u) (hrun : (Builtin.clear_ #[t] o.type #[u]).run P w = .ok v' w') (hK : wpList P ops Q rest (a.put o.dst v') w') : wpList P ops Q (o :: rest) a w := by
  refine wpList_plain hg fun K hK' => ?_
  unfold Oper.wp execOp
  simp only [hop, resolve, invoke, builtin, Sem.run_bind, Sem.run_pure, Result.andThen_ok, List.map_toArray, List.map_cons, List.map_nil, hx, hrun]
  exact hK' _ _ hK
theorem flat_take {α : Type} {enc : α → List Value} {k : Nat} (hk : ∀ x, (enc x).length = k) : ∀ (l : List α) (i : Nat), (l.flatMap enc).take (i * k) = (l.take i).flatMap enc
  | [], i => by simp
  | x :: r, 0 => by simp
  | x :: r, i + 1 => by
    rw [List.flatMap_cons, List.take_succ_cons, List.flatMap_cons, ← flat_take hk r i, List.take_append, hk, List.take_of_length_le (by rw [hk, Nat.succ_mul]; omega)]
    congr 2
    rw [Nat.succ_mul]; omega
theorem flat_set_pair : ∀ (l : List (Int × Int)) (i : Nat) (x y : Int), i < l.length → ((l.flatMap pairE).set (i * 2) (.int .i64 x)).set (i * 2 + 1) (.int .i64 y) = (l.set i (x, y)).flatMap pairE
  | [], _, _, _, h => absurd h (by simp)
  | p :: r, 0, x, y, _ => rfl
  | p :: r, i + 1, x, y, h => by
    have ih := flat_set_pair r i x y (by simpa using h)
    rw [List.set_cons_succ, List.flatMap_cons, List.flatMap_cons, ← ih]
    have e1 : (i + 1) * 2 = 2 + i * 2 := by omega
    rw [e1, List.set_append_right _ _ (by simp [pairE]), List.set_append_right _ _ (by simp [pairE]; omega)]
    congr 2
    · simp [pairE]
    · simp [pairE]; omega
theorem flat_set_trip : ∀ (l : List (Int × Int × Int)) (i : Nat) (x y z : Int), i < l.length → (((l.flatMap tripE).set (i * 3) (.int .i64 x)).set (i * 3 + 1) (.int .i64 y)).set (i * 3 + 2) (.int .i64 z) = (l.set i (x, y, z)).flatMap tripE
  | [], _, _, _, _, h => absurd h (by simp)
  | p :: r, 0, x, y, z, _ => rfl
  | p :: r, i + 1, x, y, z, h => by
    have ih := flat_set_trip r i x y z (by simpa using h)
    rw [List.set_cons_succ, List.flatMap_cons, List.flatMap_cons, ← ih]
    have e1 : (i + 1) * 3 = 3 + i * 3 := by omega
    have q0 : (tripE p).length = 3 := rfl
    rw [e1, List.set_append_right _ _ (by rw [q0]; omega), List.set_append_right _ _ (by rw [q0]; omega), List.set_append_right _ _ (by rw [q0]; omega), q0,
      show 3 + i * 3 - 3 = i * 3 by omega, show 3 + i * 3 + 1 - 3 = i * 3 + 1 by omega, show 3 + i * 3 + 2 - 3 = i * 3 + 2 by omega]
end B
end Go.Proofs.YtibeoiphjkgekaaGreat
