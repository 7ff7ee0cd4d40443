/-
  Plain law: link by link, round by round, labels come to what is spread.
-/
import Derived.Test.YtonkkibnigdfbaaFwPlain
namespace Go.Proofs.Ytonkkibnigdfbaa
set_option linter.unusedVariables false
set_option linter.unusedSimpArgs false
section
variable {N : NetP} {X D E : List Int} {r j : Nat}
/-- each stop has a trail -/
theorem Tr.ex (hN : OkN N) (hS : Spr N X D) (hX : LabsOk N X) : ∀ (k : Nat) (s : Nat), s < D.length → lab D s < k → ∃ r, Tr N (viasL N X D) s r
  | 0, s, hs, hk => by
    rcases via_law hN hS hX hs with ⟨h1, _⟩ | ⟨i, l, f, h1, _, _, _, h5, _, _, _, _, h13, _⟩
    · exact ⟨[], .stop (x := (-1, 0)) (by rw [viasL_at N X D hs, h1]) (by decide)⟩
    · omega
  | k + 1, s, hs, hk => by
    rcases via_law hN hS hX hs with ⟨h1, _⟩ | ⟨i, l, f, h1, hl, _, _, h5, _, _, _, _, h13, _⟩
    · exact ⟨[], .stop (x := (-1, 0)) (by rw [viasL_at N X D hs, h1]) (by decide)⟩
    · have hla := (okL_iff.1 (hN.lk l (List.mem_of_getElem? hl))).1
      obtain ⟨r, hr⟩ := Tr.ex hN hS hX k l.a.toNat (by rw [hS.ok.1]; omega) (by omega)
      exact ⟨_, .step (by rw [viasL_at N X D hs, h1]) hl hr⟩
structure BfI (N : NetP) (X D : List Int) (r j : Nat) (E : List Int) : Prop where
  ok : LabsOk N E
  ge : ∀ s, lab D s ≤ lab E s
  le : ∀ s, lab E s ≤ lab X s
  dn : ∀ s t, Tr N (viasL N X D) s t → t.length ≤ r → lab E s = lab D s
  dj : ∀ (s i : Nat) (f : Int) (l : Lk) t, (viasL N X D)[s]? = some ((i : Int), f) → N.ls[i]? = some l → i < j → Tr N (viasL N X D) l.a.toNat t → t.length ≤ r → lab E s = lab D s
theorem BfI.start (hN : OkN N) (hS : Spr N X D) (hX : LabsOk N X) : BfI N X D 0 0 X := by
  refine ⟨hX, hS.le, fun s => Int.le_refl _, fun s t ht hl => ?_, fun s i f l t _ _ h _ _ => by omega⟩
  obtain rfl : t = [] := List.eq_nil_of_length_eq_zero (by omega)
  obtain ⟨u, hu, h2⟩ := ht.fw hN hS hX
  cases hu
  exact h2.symm
theorem BfI.next (h : BfI N X D r N.ls.length E) (hS : Spr N X D) : BfI N X D (r + 1) 0 E := by
  refine ⟨h.ok, h.ge, h.le, fun s t ht hl => ?_, fun s i f l t _ _ h _ _ => by omega⟩
  cases ht with
  | stop h1 h2 => exact h.dn s [] (.stop h1 h2) (Nat.zero_le _)
  | step h1 h2 h3 => exact h.dj s _ _ _ _ h1 h2 (List.getElem?_eq_some_iff.1 h2).1 h3 (by simpa using hl)
/-- what the via of a stop tells of its link -/
theorem via_inv (hN : OkN N) (hS : Spr N X D) (hX : LabsOk N X) {s i : Nat} {f : Int} {l : Lk} (h1 : (viasL N X D)[s]? = some ((i : Int), f)) (h2 : N.ls[i]? = some l) : l.b = (s : Int) ∧ lab D l.a.toNat ≠ W.inf ∧ toL N l (lab D l.a.toNat) = lab D s := by
  have hs : s < D.length := by have := (List.getElem?_eq_some_iff.1 h1).1; rwa [viasL_len] at this
  rw [viasL_at N X D hs] at h1
  have hv := Option.some.inj h1
  rcases viaF_cases N X D s with ⟨h3, _⟩ | ⟨i', l', h3, h4, h5, h6⟩
  · rw [hv] at h3
    have := congrArg Prod.fst h3
    simp only at this
    omega
  · rw [hv] at h6
    obtain ⟨e1, _⟩ := Prod.mk.inj h6
    obtain rfl : i = i' := by omega
    rw [h2] at h4; cases h4
    exact viaP_iff.1 h5
/-- a link that changes nothing -/
theorem BfI.skip {l : Lk} (h : BfI N X D r j E) (hN : OkN N) (hS : Spr N X D) (hX : LabsOk N X) (hl : N.ls[j]? = some l) (hs : lab E l.a.toNat = W.inf ∨ lab E l.b.toNat ≤ toL N l (lab E l.a.toNat)) : BfI N X D r (j + 1) E := by
  refine ⟨h.ok, h.ge, h.le, h.dn, fun s i f l' t h1 h2 h3 h4 h5 => ?_⟩
  by_cases hi : i = j
  · subst hi
    rw [hl] at h2; cases h2
    obtain ⟨v1, v2, v3⟩ := via_inv hN hS hX h1 hl
    have ha := h.dn _ _ h4 h5
    rw [ha, v3] at hs
    have hb : l.b.toNat = s := by omega
    rw [hb] at hs
    have := h.ge s
    rcases hs with hs | hs
    · exact absurd hs v2
    · omega
  · exact h.dj s i f l' t h1 h2 (by omega) h4 h5
/-- a link by which a label falls -/
theorem BfI.low {l : Lk} (h : BfI N X D r j E) (hN : OkN N) (hS : Spr N X D) (hX : LabsOk N X) (hl : N.ls[j]? = some l) (hne : lab E l.a.toNat ≠ W.inf) (hlt : toL N l (lab E l.a.toNat) < lab E l.b.toNat) : BfI N X D r (j + 1) (E.set l.b.toNat (toL N l (lab E l.a.toNat))) := by
  have hmem := List.mem_of_getElem? hl
  have hok := hN.lk l hmem
  obtain ⟨⟨a1, a2⟩, ⟨b1, b2⟩, hab, _⟩ := okL_iff.1 hok
  have h9 := inf_big
  have hz := hN.hz
  have hbn : l.b.toNat < E.length := by rw [h.ok.1]; omega
  have hls : ∀ i, lab (E.set l.b.toNat (toL N l (lab E l.a.toNat))) i = if i = l.b.toNat then toL N l (lab E l.a.toNat) else lab E i := fun i => lab_set hbn
  have hEa := h.ok.fin hne
  have hDa := h.ge l.a.toNat
  have hDne : lab D l.a.toNat ≠ W.inf := fun h => by rw [h] at hDa; omega
  have hDf := hS.ok.fin hDne
  have hDb := hS.cl l hmem hDne
  have hto := to_mono hN hok hDf.1 hDa
  have hEb : lab E l.b.toNat ≤ W.inf := by rcases h.ok.at l.b.toNat with h1 | h1 <;> omega
  have hv : toL N l (lab E l.a.toNat) = W.inf ∨ (0 ≤ toL N l (lab E l.a.toNat) ∧ toL N l (lab E l.a.toNat) ≤ N.hz) := by
    rcases to_spec hN hok hEa.1 with ⟨h1, _⟩ | ⟨_, _, h3, h4, _⟩
    · exact .inl h1
    · exact .inr ⟨by omega, h4⟩
  refine ⟨h.ok.set hv, fun s => ?_, fun s => ?_, fun s t ht htl => ?_, fun s i f l' t h1 h2 h3 h4 h5 => ?_⟩
  · rw [hls]
    have := h.ge s
    split
    · rename_i hs; subst hs; omega
    · exact this
  · rw [hls]
    have := h.le s
    split
    · rename_i hs; subst hs; omega
    · exact this
  · rw [hls]
    have h1 := h.dn s t ht htl
    split
    · rename_i hs; subst hs; omega
    · exact h1
  · rw [hls]
    by_cases hi : i = j
    · subst hi
      rw [hl] at h2; cases h2
      obtain ⟨v1, v2, v3⟩ := via_inv hN hS hX h1 hl
      have ha := h.dn _ _ h4 h5
      rw [if_pos (by omega), ha, v3]
    · have h6 := h.dj s i f l' t h1 h2 (by omega) h4 h5
      split
      · rename_i hs; subst hs; omega
      · exact h6
theorem BfI.done (h : BfI N X D r 0 E) (hN : OkN N) (hS : Spr N X D) (hX : LabsOk N X) (hr : D.length ≤ r) : E = D := by
  refine lab_ext (by rw [h.ok.1, hS.ok.1]) fun s => ?_
  by_cases hs : s < D.length
  · have hz := hN.hz
    obtain ⟨t, ht⟩ := Tr.ex hN hS hX (lab D s + 1).toNat s hs (by omega)
    have := ht.short hN hS hX
    exact h.dn s t ht (by omega)
  · have hl := h.ok.1
    have hl2 := hS.ok.1
    rw [lab_no (by omega), lab_no (by omega)]
end
end Go.Proofs.Ytonkkibnigdfbaa
