/-
  Plain law: what a via tells of its stop, in the form in which the laws ask for it.
-/
import Derived.Test.YtonkkibnigdfbaaTrailS
namespace Go.Proofs.Ytonkkibnigdfbaa
set_option linter.unusedVariables false
set_option linter.unusedSimpArgs false
/-- either the label is as it was handed in, or a link leads to it -/
theorem via_law {N : NetP} {X D : List Int} {s : Nat} (hN : OkN N) (hS : Spr N X D) (hX : LabsOk N X) (hs : s < D.length) :
    (viaF N X D s = (-1, 0) ∧ lab D s = lab X s) ∨
    ∃ (i : Nat) (l : Lk) (f : Int), viaF N X D s = ((i : Int), f) ∧ N.ls[i]? = some l ∧ l.b = (s : Int) ∧ lab D s < lab X s ∧ 0 ≤ lab D l.a.toNat ∧ lab D l.a.toNat ≤ f ∧ mayL N l f = true ∧ f + l.len = lab D s ∧ f + l.len ≤ N.hz ∧ lab D l.a.toNat < lab D s ∧ firstL N l (lab D l.a.toNat) = f := by
  have hle := hS.le s
  rcases viaF_cases N X D s with ⟨h1, h2 | h2⟩ | ⟨i, l, h1, h2, h3, h4⟩
  · exact .inl ⟨h1, h2⟩
  · refine .inl ⟨h1, ?_⟩
    rcases hS.mem_sup hN hX s hs with h3 | ⟨l, hl, h3, h4, h5⟩
    · exact h3
    · have := h2 l hl
      rw [viaP_iff.2 ⟨h3, h4, h5⟩] at this; cases this
  · obtain ⟨h5, h6, h7⟩ := viaP_iff.1 h3
    have hok := hN.lk l (List.mem_of_getElem? h2)
    have h8 := hS.ok.fin h6
    have hz := hN.hz
    have h9 := inf_big
    have hlt : lab D s < lab X s := by omega
    have hfin : lab D s ≠ W.inf := by rcases hX.at s with h | h <;> omega
    have hlen := (okL_iff.1 hok).2.2.2.1
    refine .inr ⟨i, l, _, h4, h2, h5, hlt, h8.1, ?_⟩
    rcases to_spec hN hok h8.1 with ⟨t1, _⟩ | ⟨t1, t2, t3, t4, t5⟩
    · omega
    · refine ⟨t2, ?_, by omega, by omega, by omega, rfl⟩
      rcases first_spec hN hok h8.1 with ⟨f1, _⟩ | ⟨_, _, f3, _⟩
      · exact absurd f1 t5
      · exact f3
end Go.Proofs.Ytonkkibnigdfbaa
