/-
  Plain: labels spread from one stop over plain links alone: the tick and how far, as far as the horizon lets it.
-/
import Derived.Test.YtonkkibnigdfbaaClRow
namespace Go.Proofs.Ytonkkibnigdfbaa
open Go.RowKit Go.Shelf B K
set_option linter.unusedVariables false
set_option linter.unusedSimpArgs false
/-- the first j plain links -/
def plLk (N : NetP) (j : Nat) : List Lk := ((plainI N).take j).filterMap fun i => N.ls[i]?
/-- the net of the plain links alone -/
def plN (N : NetP) (j : Nat) : NetP := ⟨N.hz, List.replicate N.cs.length [], plLk N j⟩
theorem plLk_snoc {N : NetP} {j i : Nat} {l : Lk} (h : (plainI N)[j]? = some i) (hl : N.ls[i]? = some l) : plLk N (j + 1) = plLk N j ++ [l] := by
  unfold plLk
  rw [take_at h, List.filterMap_append]
  simp [hl]
theorem plLk_len (N : NetP) : ∀ j, j ≤ (plainI N).length → (plLk N j).length = j
  | 0, _ => by simp [plLk]
  | j + 1, h => by
    obtain ⟨l, hl, _⟩ := plainI_at (N := N) (j := j) (List.getElem?_eq_getElem h)
    rw [plLk_snoc (List.getElem?_eq_getElem h) hl, List.length_append, plLk_len N j (by omega)]; rfl
theorem plLk_mem {N : NetP} {j : Nat} {l : Lk} (h : l ∈ plLk N j) : l ∈ N.ls ∧ plainB N l = true := by
  unfold plLk at h
  obtain ⟨i, hi, hl⟩ := List.mem_filterMap.1 h
  obtain ⟨k, hk⟩ := List.getElem?_of_mem (List.mem_of_mem_take hi)
  obtain ⟨l', hl', hp⟩ := plainI_at hk
  rw [hl] at hl'
  cases hl'
  exact ⟨List.mem_of_getElem? hl, hp⟩
theorem plLk_all {N : NetP} {l : Lk} (h : l ∈ N.ls) (hp : plainB N l = true) : l ∈ plLk N (plainI N).length := by
  obtain ⟨i, hi⟩ := List.getElem?_of_mem h
  unfold plLk
  rw [List.take_length]
  exact List.mem_filterMap.2 ⟨i, plainI_mem hi hp, hi⟩
theorem plN_ok {N : NetP} (h : OkN N) (j : Nat) (hj : j ≤ (plainI N).length) : OkN (plN N j) := by
  have hl := plLk_len N j hj
  have h1 := plainI_len N
  have h2 := h.ln
  have hcn := h.cn
  refine chkN_iff.1 ?_
  unfold chkN
  rw [if_neg]
  have hk0 := chkN_iff.2 h
  unfold chkN at hk0
  split at hk0
  · cases hk0
  · rename_i hn
    intro hh
    rcases hh with h3 | h3 | h3 | h3 | h3
    · exact hn (.inl h3)
    · simp only [plN, List.length_replicate] at h3; omega
    · simp only [plN] at h3; omega
    · simp only [plN, List.any_eq_true, List.length_replicate] at h3
      obtain ⟨l, hl, hb⟩ := h3
      have := h.lk l (plLk_mem hl).1
      rw [this] at hb; cases hb
    · simp only [plN, List.any_eq_true, List.mem_replicate] at h3
      obtain ⟨c, ⟨_, rfl⟩, hb⟩ := h3
      exact absurd hb (by decide)
theorem pl_to {M : NetP} {l : Lk} {t : Int} (h : OkN M) (hl : okL M.cs.length l = true) (hd : l.door = false) (hc : l.cl = []) (hs : shutL M l = []) (ht : 0 ≤ t) : toL M l t = if t + l.len ≤ M.hz then t + l.len else W.inf := by
  have hz := h.hz
  have hin : W.inf = 4611686018427387904 := rfl
  have hm : ∀ z, 0 ≤ z → (mayL M l z = true ↔ z + l.len ≤ M.hz) := fun z hz0 => by
    rw [may_iff h hl hz0, hs, hc, hd]
    constructor
    · exact fun h => h.1
    · refine fun h => ⟨h, ?_, (fun h => by cases h), fun _ i a b hx => by cases hx⟩
      rintro ⟨i, a, b, hx, _⟩
      cases hx
  by_cases h1 : t + l.len ≤ M.hz
  · rw [if_pos h1]
    have hf := first_at h hl ht (Int.le_refl t) ((hm t ht).2 h1) fun z h2 h3 => by omega
    unfold toL
    rw [hf, if_neg (by have := (okL_iff.1 hl).2.2.2.1; omega)]
  · rw [if_neg h1]
    have hf := first_no h hl ht fun z h2 => by
      cases hz1 : mayL M l z with
      | false => rfl
      | true => have := (hm z (by omega)).1 hz1; omega
    unfold toL
    rw [if_pos hf]
def plV (N : NetP) (t x : Int) : Int := if x ≤ N.hz - t then t + x else W.inf
def plD (N : NetP) (t : Int) (d : List Int) : List Int := d.map (plV N t)
theorem plD_lab {N : NetP} {t : Int} {d : List Int} (h : OkN N) (ht : 0 ≤ t) (i : Nat) : lab (plD N t d) i = plV N t (lab d i) := by
  unfold lab plD
  rw [List.getElem?_map]
  cases d[i]? with
  | some v => rfl
  | none =>
    have hz := h.hz
    have hin : W.inf = 4611686018427387904 := rfl
    simp only [Option.map_none, Option.getD_none]
    unfold plV
    rw [if_neg (by omega)]
theorem pl_spr {N : NetP} {s : Nat} {t : Int} {d : List Int} (h : OkN N) (hs : s < N.cs.length) (ht : 0 ≤ t ∧ t ≤ N.hz) (hD : IsDist N.cs.length (plainE N) s d) : Spr (plN N (plainI N).length) (single N.cs.length s t) (plD N t d) := by
  have hz := h.hz
  have hin : W.inf = 4611686018427387904 := rfl
  have hM := plN_ok h _ (Nat.le_refl _)
  have hMc : (plN N (plainI N).length).cs.length = N.cs.length := by simp [plN]
  have hMz : (plN N (plainI N).length).hz = N.hz := rfl
  have hMs : ∀ l, shutL (plN N (plainI N).length) l = [] := fun l => by
    unfold shutL
    simp only [plN]
    cases hx : (List.replicate N.cs.length ([] : W.Row))[l.a.toNat]? with
    | none => rfl
    | some c => have := List.mem_of_getElem? hx; rw [List.mem_replicate] at this; rw [this.2]; rfl
  have hrng : ∀ i, lab d i = W.inf ∨ (0 ≤ lab d i ∧ lab d i ≤ 1099511627776) := fun i => by
    by_cases hi : i < d.length
    · exact hD.rng i _ (lab_get hi)
    · exact .inl (lab_no (by omega))
  have hto : ∀ l ∈ (plN N (plainI N).length).ls, ∀ u, 0 ≤ u → toL (plN N (plainI N).length) l u = if u + l.len ≤ N.hz then u + l.len else W.inf := fun l hl u hu => by
    obtain ⟨_, hp⟩ := plLk_mem hl
    obtain ⟨p1, p2, _⟩ := plainB_iff.1 hp
    have := pl_to hM (hM.lk l hl) p1 (List.eq_nil_of_length_eq_zero p2) (hMs l) hu
    rw [hMz] at this
    exact this
  have hs0 : lab d s = 0 := lab_at hD.s0
  refine Spr.of hM ⟨by rw [hMc]; simp [plD, hD.len], fun x hx => ?_⟩ (fun i => ?_) (fun l hl hne => ?_) (fun i hi => ?_)
  · obtain ⟨y, hy, rfl⟩ := List.mem_map.1 hx
    obtain ⟨i, hi⟩ := List.getElem?_of_mem hy
    have hr := hD.rng i y hi
    rw [hMz]
    unfold plV
    split
    · right; rename_i hle; omega
    · exact .inl rfl
  · rw [plD_lab h ht.1, single_lab hs]
    have hr := hrng i
    by_cases hi : i = s
    · subst hi; rw [if_pos rfl, hs0]; unfold plV; rw [if_pos (by omega)]; omega
    · rw [if_neg hi]; unfold plV; split <;> omega
  · rw [plD_lab h ht.1] at hne ⊢
    obtain ⟨hlN, hp⟩ := plLk_mem hl
    obtain ⟨⟨a0, a1⟩, ⟨b0, b1⟩, _, l1, l2, _⟩ := okL_iff.1 (h.lk l hlN)
    have ra := hrng l.a.toNat
    have rb := hrng l.b.toNat
    rw [plD_lab h ht.1]
    have hle : lab d l.a.toNat ≤ N.hz - t := by
      by_cases hc : lab d l.a.toNat ≤ N.hz - t
      · exact hc
      · unfold plV at hne; rw [if_neg hc] at hne; exact absurd rfl hne
    have ea : plV N t (lab d l.a.toNat) = t + lab d l.a.toNat := if_pos hle
    rw [ea, hto l hl _ (by omega)]
    split
    · rename_i hfit
      have he : (l.a, l.b, l.len) ∈ plainE N := plainE_mem.2 ⟨l, hlN, hp, rfl⟩
      have := hD.rel _ he l.a.toNat l.b.toNat (lab d l.a.toNat) (lab d l.b.toNat) (by simp only; omega) (by simp only; omega) (lab_get (by rw [hD.len]; omega)) (lab_get (by rw [hD.len]; omega)) (by simp only; omega)
      simp only at this
      unfold plV
      rw [if_pos (by omega)]
      omega
    · unfold plV; split <;> omega
  · have hil : i < N.cs.length := by have : i < d.length := by simpa [plD] using hi
                                     rw [hD.len] at this; exact this
    rw [plD_lab h ht.1, single_lab hs]
    have ri := hrng i
    by_cases hi : i = s
    · left; subst hi; rw [if_pos rfl, hs0]; unfold plV; rw [if_pos (by omega)]; omega
    · rw [if_neg hi]
      by_cases hle : lab d i ≤ N.hz - t
      · right
        obtain ⟨e, he, eb, p, u, ep, hu, huv⟩ := hD.sup i (lab d i) hi (lab_get (by rw [hD.len]; exact hil)) (by omega)
        obtain ⟨l, hlN, hp, rfl⟩ := plainE_mem.1 he
        obtain ⟨⟨a0, a1⟩, ⟨b0, b1⟩, _, l1, l2, _⟩ := okL_iff.1 (h.lk l hlN)
        simp only [edgeL] at eb ep huv
        have hlM : l ∈ (plN N (plainI N).length).ls := plLk_all hlN hp
        have hpn : l.a.toNat = p := by omega
        have ru := hrng p
        rw [lab_at hu] at ru
        refine ⟨l, hlM, eb, ?_, ?_⟩
        · rw [plD_lab h ht.1, hpn, lab_at hu]; unfold plV; rw [if_pos (by omega)]; omega
        · rw [plD_lab h ht.1, hpn, lab_at hu]
          have e1 : plV N t u = t + u := if_pos (by omega)
          rw [e1, hto l hlM _ (by omega), if_pos (by omega)]
          unfold plV; rw [if_pos hle]; omega
      · left; unfold plV; rw [if_neg hle]
end Go.Proofs.Ytonkkibnigdfbaa
