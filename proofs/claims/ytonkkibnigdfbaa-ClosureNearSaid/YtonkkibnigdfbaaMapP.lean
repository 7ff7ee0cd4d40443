/-
  A map of its own keyed by a struct of two numbers, read along one first number as a function of the second.
-/
import Derived.Test.YtonkkibnigdfbaaClPlain
import Derived.DeepKeys4
import Derived.Maps.OwnSet
namespace Go.Proofs.Ytonkkibnigdfbaa
open Go.RowKit B K
set_option linter.unusedVariables false
set_option linter.unusedSimpArgs false
namespace M
theorem laidOut : laidOutB Try.prog = true := by kernel_rfl
theorem rowP : 104 < Try.prog.types.size := of_decide_eq_true (by kernel_rfl)
theorem wideP : (match Try.prog.underlying 104 with | some (.array _ _) | some (.struct _) => true | _ => false) = true := by kernel_rfl
theorem deepP : Try.prog.keyTypeAt 2 104 = true := by kernel_rfl
set_option maxRecDepth 100000 in
theorem keyed : Go.Maps.Keyed Try.prog 104 := Go.Maps.Keyed.of_law (deep_law_laid laidOut (m := 2) (by omega) rowP deepP wideP)
def lit (a b : Int) : Lit := .string (keyBytes [.int .i64 a, .int .i64 b])
def key (a b : Int) : Value := .agg #[.int .i64 a, .int .i64 b]
theorem keyOf_key {a b : Int} (wa : (Lit.int .i64 a).wf = true) (wb : (Lit.int .i64 b).wf = true) : keyOf Try.prog 104 (key a b) = some (lit a b) := by
  have h1 : Try.prog.keyType 104 = true := by kernel_rfl
  have hc : Try.prog.cellsOf 104 = 2 := by kernel_rfl
  have hc1 : Try.prog.cellsOf 3 = 1 := by kernel_rfl
  obtain ⟨m, hm⟩ : ∃ m, Try.prog.types.size = m + 1 := ⟨Try.prog.types.size - 1, by have := rowP; omega⟩
  have hu := Try.underlying104
  have hf : (key a b).formed Try.prog 104 = true := by simp [Value.formed, key, Try.underlying104, hc]
  unfold keyOf
  simp only [Try.underlying104]
  rw [if_pos (by rw [h1, hf]; rfl), hm]
  unfold Program.keyLits
  simp only [Try.underlying104]
  simp [hc, hc1, key, lit, Value.cells, Program.keyLits, Try.underlying3, wa, wb]
theorem key_inj {a b a' b' : Int} (h : key a b = key a' b') : a = a' ∧ b = b' := by unfold key at h; simp at h; exact h
theorem lit_ne {a b b' : Int} (wa : (Lit.int .i64 a).wf = true) (wb : (Lit.int .i64 b).wf = true) (wb' : (Lit.int .i64 b').wf = true) (h : b ≠ b') : lit a b ≠ lit a b' := fun e => by
  have h1 := keyOf_key wa wb
  have h2 := keyOf_key wa wb'
  rw [← e] at h2
  exact h (key_inj (keyed.inj h1 h2)).2
theorem lit_isKey (a b : Int) : WideAt.IsKeyLit (lit a b) := by simp [WideAt.IsKeyLit, lit]
/-- block m is a map that reads, at keys whose first number is a, as f -/
def MapP (a : Int) (w : World) (m : Nat) (f : Int → Option Int) (N : Nat) : Prop :=
  ∃ D : DataW Nat, w.ownsMap Try.prog 104 (plainElem Try.prog 2) m N D ∧ Maps.size D = N ∧ ∀ b, (Lit.int .i64 b).wf = true → Maps.has D (lit a b) = (f b).isSome ∧ ∀ v, f b = some v → ∀ z, D.atKey (lit a b) z = .lit (.int .i64 v)
variable {a : Int} {w w' : World} {m N : Nat} {f : Int → Option Int}
theorem MapP.lt (h : MapP a w m f N) : m < w.heap.size := by obtain ⟨D, h, _⟩ := h; exact h.lt
theorem MapP.keep (h : MapP a w m f N) (hk : w'.heap[m]? = w.heap[m]?) : MapP a w' m f N := by
  obtain ⟨D, ⟨es, cl, hb, r⟩, h2⟩ := h
  exact ⟨D, ⟨es, cl, hk.trans hb, r⟩, h2⟩
theorem MapP.below (h : MapP a w m f N) (hb : Below w.heap.size w w') : MapP a w' m f N := h.keep (hb.block m h.lt)
theorem MapP.new (a : Int) (w : World) : MapP a (w.alloc (.map #[] 0)) w.heap.size (fun _ => none) 0 :=
  ⟨.map [], World.ownsMap_made w Try.prog 104 _, rfl, fun b _ => ⟨rfl, fun v h => by cases h⟩⟩
theorem zeroT (w : World) : (zeroValue 2).run Try.prog w = .ok (.int .i64 0) w := by kernel_rfl
theorem MapP.look (h : MapP a w m f N) {b : Int} (wa : (Lit.int .i64 a).wf = true) (wb : (Lit.int .i64 b).wf = true) :
    (Instr.lookup 101 (.map (some m)) (key a b) true).run Try.prog w = .ok (.tuple #[.int .i64 ((f b).getD 0), .bool (f b).isSome]) w := by
  obtain ⟨D, hD, hs, hf⟩ := h
  have hkey := keyOf_key wa wb
  have hat : ∀ c : Int, D.atKey (lit a b) (.lit (.int .i64 0)) = .lit (.int .i64 c) → c = (f b).getD 0 := fun c hc => by
    cases hfa : f b with
    | none =>
      have h0 : Maps.has D (lit a b) = false := by rw [(hf b wb).1, hfa]; rfl
      rw [Maps.atKey_of_not_has h0] at hc
      cases hc; rfl
    | some v =>
      rw [(hf b wb).2 v hfa] at hc
      cases hc; rfl
  obtain ⟨v, ps, hrun, hv⟩ := hD.look_ok keyed Try.underlying101 (zeroT w) (plainElem_int Try.underlying2 (by decide)) hkey
  obtain ⟨c, rfl, hc, _⟩ := plainElem_int_inv Try.underlying2 hv
  rw [hrun, (hf b wb).1, hat c (by simpa using (congrArg Prod.fst hc))]
theorem MapP.store (h : MapP a w m f N) (hN : N < 9223372036854775807) {b v : Int} (wa : (Lit.int .i64 a).wf = true) (wb : (Lit.int .i64 b).wf = true) (wv : (Lit.int .i64 v).wf = true) :
    ∃ w', (Instr.mapUpdate 101 (.map (some m)) (key a b) (.int .i64 v)).run Try.prog w = .ok () w' ∧ MapP a w' m (updI f b v) (if (f b).isSome then N else N + 1) ∧ w.mapTurned w' m := by
  obtain ⟨D, hD, hs, hf⟩ := h
  have hkey := keyOf_key wa wb
  have T := hD.tidy keyed
  obtain ⟨w', hrun, hD', hturn⟩ := hD.store keyed Try.underlying101 (by rw [maxLen_num]; exact hN) hkey (plainElem_int Try.underlying2 wv)
  have hsz : Maps.size (D.put (lit a b) (.lit (.int .i64 v))) = if (f b).isSome then N else N + 1 := by rw [Maps.size_put T, (hf b wb).1, hs]
  refine ⟨w', hrun, ⟨D.put (lit a b) (.lit (.int .i64 v)), ?_, hsz, fun x wx => ?_⟩, hturn⟩
  · obtain ⟨es, cl, hb, F, _, hd⟩ := hD'
    refine ⟨es, cl, hb, F, ?_, hd⟩
    rw [← hsz, hd]
    simp [Maps.size, length_sorted]
  · by_cases hx : x = b
    · subst hx
      refine ⟨by rw [Maps.has_put_same T.isMap (lit_isKey a x)]; simp [updI], fun v' hv' z => ?_⟩
      rw [Maps.atKey_put_same T.isMap (lit_isKey a x)]
      simp [updI] at hv'
      rw [hv']
    · refine ⟨by rw [Maps.has_put_other (lit_ne wa wx wb hx), (hf x wx).1]; simp [updI, hx], fun v' hv' z => ?_⟩
      rw [Maps.atKey_put_other (lit_ne wa wx wb hx)]
      exact (hf x wx).2 v' (by simpa [updI, hx] using hv') z
end M
end Go.Proofs.Ytonkkibnigdfbaa
