/-
  Plain law: the closure's rows, what Len says of them.
-/
import Derived.Test.YtonkkibnigdfbaaClWithinPlain
import Derived.Test.YtonkkibnigdfbaaClMk
namespace Go.Proofs.Ytonkkibnigdfbaa
open Go.RowKit Go.Shelf B K
set_option linter.unusedVariables false
set_option linter.unusedSimpArgs false
/-- how far stop b is from stop a by plain links -/
noncomputable def farC (N : NetP) (a b : Nat) : Int := lab (clD N a) b
theorem farC_rng {N : NetP} (h : OkN N) {a b : Nat} (ha : a < N.cs.length) (hb : b < N.cs.length) : farC N a b = W.inf ∨ (0 ≤ farC N a b ∧ farC N a b ≤ 1099511627776) := by
  have hD := clD_is h ha
  exact hD.rng b _ (lab_get (by rw [hD.len]; exact hb))
theorem nearS_mem {d : List Int} {n : Nat} {x : It} : x ∈ nearS d n ↔ ∃ s : Nat, s < n ∧ lab d s ≠ W.inf ∧ x = (lab d s, (s : Int)) := by
  unfold nearS; rw [(srtI_perm _).mem_iff]; exact itemsTo_mem
theorem nearS_ok {N : NetP} (h : OkN N) {a : Nat} (ha : a < N.cs.length) : RowOk (nearS (clD N a) N.cs.length) := by
  refine ⟨?_, ?_, fun x hx => ?_⟩
  · refine (srtI_sorted (itemsTo (clD N a) N.cs.length)).imp fun {x y} hxy => ?_
    have : ¬ (ltI y x = true) := by rw [hxy]; simp
    rw [ltI_iff] at this
    omega
  · unfold nearS
    exact ((srtI_perm _).map Prod.snd).nodup_iff.2 (itemsTo_nd _ _)
  · obtain ⟨s, hs, hne, rfl⟩ := nearS_mem.1 hx
    rcases farC_rng h ha hs with h1 | h1
    · exact absurd h1 hne
    · exact h1
theorem lenR_near {N : NetP} (h : OkN N) {a : Nat} (b : Nat) (ha : a < N.cs.length) (hb : b < N.cs.length) : lenR (nearS (clD N a) N.cs.length) b = farC N a b := by
  have hok := nearS_ok h ha
  by_cases hi : lab (clD N a) b = W.inf
  · unfold lenR
    cases hf : fP (nearS (clD N a) N.cs.length) b with
    | none => exact hi.symm
    | some v =>
      obtain ⟨s, hs, hne, he⟩ := nearS_mem.1 (fP_mem hf)
      simp only [Prod.mk.injEq, Int.natCast_inj] at he
      obtain ⟨_, rfl⟩ := he
      exact absurd hi hne
  · have hm : ((lab (clD N a) b, (b : Int)) : It) ∈ nearS (clD N a) N.cs.length := nearS_mem.2 ⟨b, hb, hi, rfl⟩
    have := fP_of hok.nd hm
    unfold lenR
    simp only at this
    rw [this]; rfl
theorem mkC_row {N : NetP} (h : OkN N) {a : Nat} (ha : a < N.cs.length) : (mkC N)[a]? = some (nearS (clD N a) N.cs.length) := by
  rw [mkC_ok h]
  unfold rowsTo
  rw [List.getElem?_map, List.getElem?_range ha]; rfl
theorem mkC_len {N : NetP} (h : OkN N) : (mkC N).length = N.cs.length := by rw [mkC_ok h]; exact rowsTo_len _ _ _
theorem lenC_mk {N : NetP} (h : OkN N) {a b : Nat} (ha : a < N.cs.length) (hb : b < N.cs.length) : lenC (mkC N) a b = farC N a b := by
  rw [lenC_in (mkC_row h ha)]; exact lenR_near h b ha hb
theorem mkC_wf {N : NetP} (h : OkN N) (hn : N.cs.length ≤ 1000) : RowsWf (mkC N) := by
  refine ⟨by rw [mkC_len h]; omega, fun l hl => ?_⟩
  obtain ⟨a, ha⟩ := List.getElem?_of_mem hl
  have hlt : a < N.cs.length := by rw [← mkC_len h]; exact (List.getElem?_eq_some_iff.1 ha).1
  rw [mkC_row h hlt] at ha
  obtain rfl := Option.some.inj ha
  refine ⟨by have := nearS_len (clD N a) N.cs.length; omega, fun x hx => ?_⟩
  have hr := (nearS_ok h hlt).rng x hx
  obtain ⟨s, hs, _, rfl⟩ := nearS_mem.1 hx
  simp only at hr
  exact ⟨wf64 (by simp only; omega) (by simp only; omega), wf64 (by simp only; omega) (by simp only; omega)⟩
end Go.Proofs.Ytonkkibnigdfbaa
