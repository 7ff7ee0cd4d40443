/-
  Plain law of the reference's bag: kept triple by triple, each put in where it stands; pairs as triples of one Dep.
-/
import Derived.Test.YtibeoiphjkgekaaGreatBagPlain4
namespace Go.Proofs.YtibeoiphjkgekaaGreat
open B K
set_option linter.unusedVariables false
set_option linter.unusedSimpArgs false
def condG (i : Nat) (x : P3) (k : Nat) (y : P3) : Bool := !may3 y || (!beats3 y x && (decide (i ≤ k) || decide (y ≠ x)))
def goodF (l : List P3) (i : Nat) (x : P3) (k : Nat) : Bool := may3 x && (l.take k).zipIdx.all fun p => condG i x p.2 p.1
theorem goodF_zero (l : List P3) (i : Nat) (x : P3) : goodF l i x 0 = may3 x := by simp [goodF]
theorem goodF_step {l : List P3} {i k : Nat} {x y : P3} (hy : l[k]? = some y) : goodF l i x (k + 1) = (goodF l i x k && condG i x k y) := by
  have hk := (List.getElem?_eq_some_iff.1 hy).1
  unfold goodF
  rw [take_at hy, List.zipIdx_append, List.all_append]
  have e : (l.take k).length = k := by simp; omega
  rw [e]
  simp [Bool.and_assoc]
theorem goodF_iff {l : List P3} {i : Nat} {x : P3} (hx : l[i]? = some x) : goodF l i x l.length = true ↔ Min may3 beats3 l x ∧ x ∉ l.take i := by
  unfold goodF K.Min
  rw [List.take_length, Bool.and_eq_true, List.all_eq_true]
  constructor
  · rintro ⟨hm, ha⟩
    have key : ∀ (k : Nat) (y : P3), l[k]? = some y → may3 y = true → beats3 y x = false ∧ (k < i → y ≠ x) := fun k y hy hmy => by
      have h1 := ha (y, k) (List.mem_zipIdx_iff_getElem?.2 hy)
      unfold condG at h1
      simp only [hmy, Bool.not_true, Bool.false_or, Bool.and_eq_true, Bool.not_eq_true', Bool.or_eq_true, decide_eq_true_eq] at h1
      refine ⟨h1.1, fun hk => ?_⟩
      rcases h1.2 with h2 | h2
      · omega
      · exact h2
    refine ⟨⟨List.mem_of_getElem? hx, hm, fun y hy hmy => ?_⟩, fun hin => ?_⟩
    · obtain ⟨k, hk⟩ := List.getElem?_of_mem hy
      exact (key k y hk hmy).1
    · obtain ⟨k, hk⟩ := List.getElem?_of_mem hin
      have hki : k < i := by have := (List.getElem?_eq_some_iff.1 hk).1; simp at this; omega
      rw [List.getElem?_take, if_pos hki] at hk
      exact (key k x hk hm).2 hki rfl
  · rintro ⟨⟨_, hm, hb⟩, hno⟩
    refine ⟨hm, fun p hp => ?_⟩
    obtain ⟨y, k⟩ := p
    have hy := List.mem_zipIdx_iff_getElem?.1 hp
    show condG i x k y = true
    unfold condG
    cases hmy : may3 y with
    | false => rfl
    | true =>
      rw [hb y (List.mem_of_getElem? hy) hmy]
      by_cases hk : i ≤ k
      · simp [hk]
      · have hne : y ≠ x := fun e => hno (by
          subst e
          exact List.mem_of_getElem? (show (l.take i)[k]? = some y by rw [List.getElem?_take, if_pos (by omega)]; exact hy))
        simp [hne]
def gt3 (y x : P3) : Bool := decide (x.1 < y.1) || (decide (y.1 = x.1) && decide (x.2.2 < y.2.2))
theorem gt3_lt {l : List P3} {x y : P3} (hx : Min may3 beats3 l x) (hy : Min may3 beats3 l y) (hne : x ≠ y) : gt3 y x = lt3 x y := by
  have h1 := hx.2.2 y hy.1 hy.2.1
  have h2 := hy.2.2 x hx.1 hx.2.1
  have h1 : ¬ _ := fun h => by rw [beats3_iff.2 h] at h1; cases h1
  have h2 : ¬ _ := fun h => by rw [beats3_iff.2 h] at h2; cases h2
  rw [Bool.eq_iff_iff, lt3_iff]
  unfold gt3
  simp only [Bool.or_eq_true, Bool.and_eq_true, decide_eq_true_eq]
  have hne' : x.1 ≠ y.1 ∨ x.2.1 ≠ y.2.1 ∨ x.2.2 ≠ y.2.2 := by
    obtain ⟨a, b, c⟩ := x
    obtain ⟨d, e, f⟩ := y
    simp only [ne_eq, Prod.mk.injEq] at hne ⊢
    omega
  omega
/-- what stands there behind i of them -/
def LI (l : List P3) (i : Nat) (out : List P3) : Prop := Srt lt3 out ∧ ∀ x, x ∈ out ↔ x ∈ l.take i ∧ Min may3 beats3 l x
theorem LI.zero (l : List P3) : LI l 0 [] := ⟨List.Pairwise.nil, fun x => by simp⟩
theorem LI.skip {l out : List P3} {i : Nat} {x : P3} (h : LI l i out) (hx : l[i]? = some x) (hg : goodF l i x l.length = false) : LI l (i + 1) out := by
  refine ⟨h.1, fun y => ?_⟩
  rw [h.2 y, take_at hx, List.mem_append, List.mem_singleton]
  constructor
  · rintro ⟨h1, h2⟩; exact ⟨.inl h1, h2⟩
  · rintro ⟨h1 | rfl, h2⟩
    · exact ⟨h1, h2⟩
    · by_cases hin : y ∈ l.take i
      · exact ⟨hin, h2⟩
      · rw [(goodF_iff hx).2 ⟨h2, hin⟩] at hg; cases hg
theorem LI.ins {l out : List P3} {i j : Nat} {x : P3} (h : LI l i out) (hx : l[i]? = some x) (hg : goodF l i x l.length = true) (hj : j ≤ out.length) (hd : ∀ y ∈ out.drop j, gt3 y x = true) (ht : j = 0 ∨ ∃ y, out[j - 1]? = some y ∧ gt3 y x = false) : LI l (i + 1) (out.take j ++ [x] ++ out.drop j) := by
  obtain ⟨hm, hno⟩ := (goodF_iff hx).1 hg
  have hmin : ∀ y ∈ out, Min may3 beats3 l y ∧ x ≠ y := fun y hy => ⟨((h.2 y).1 hy).2, fun e => hno (e ▸ ((h.2 y).1 hy).1)⟩
  have hmd : ∀ y ∈ out.drop j, lt3 x y = true := fun y hy => by
    obtain ⟨h1, h2⟩ := hmin y (List.mem_of_mem_drop hy)
    rw [← gt3_lt hm h1 h2]; exact hd y hy
  have hs := h.1
  unfold Srt at hs
  have hml : ∀ y ∈ out.take j, lt3 y x = true := fun y hy => by
    rcases ht with rfl | ⟨z, hz, hzx⟩
    · simp at hy
    · obtain ⟨h1, h2⟩ := hmin z (List.mem_of_getElem? hz)
      rw [gt3_lt hm h1 h2] at hzx
      have hzx' : lt3 z x = true := by
        rcases ords3.conn z x with e | e | e
        · exact e
        · exact absurd e.symm h2
        · rw [e] at hzx; cases hzx
      obtain ⟨k, hk⟩ := List.getElem?_of_mem hy
      have hkj : k < j := by have := (List.getElem?_eq_some_iff.1 hk).1; simp at this; omega
      rw [List.getElem?_take, if_pos hkj] at hk
      by_cases e : k = j - 1
      · subst e; rw [hz] at hk; cases hk; exact hzx'
      · obtain ⟨l1, e1⟩ := List.getElem?_eq_some_iff.1 hk
        obtain ⟨l2, e2⟩ := List.getElem?_eq_some_iff.1 hz
        have := List.pairwise_iff_getElem.1 hs k (j - 1) l1 l2 (by omega)
        rw [e1, e2] at this
        exact ords3.ltr _ _ _ this hzx'
  refine ⟨?_, fun y => ?_⟩
  · have h1 : (out.take j ++ out.drop j).Pairwise fun a b => lt3 a b = true := by rw [List.take_append_drop]; exact hs
    rw [List.pairwise_append] at h1
    obtain ⟨p1, p2, p3⟩ := h1
    unfold Srt
    rw [List.append_assoc, List.pairwise_append]
    refine ⟨p1, ?_, ?_⟩
    · rw [List.singleton_append, List.pairwise_cons]
      exact ⟨hmd, p2⟩
    · intro a ha b hb
      rw [List.singleton_append, List.mem_cons] at hb
      rcases hb with rfl | hb
      · exact hml a ha
      · exact p3 a ha b hb
  · have e : y ∈ out.take j ++ [x] ++ out.drop j ↔ y ∈ out ∨ y = x := by
      have e2 : y ∈ out ↔ y ∈ out.take j ∨ y ∈ out.drop j := by
        conv => lhs; rw [← List.take_append_drop j out]
        exact List.mem_append
      rw [List.mem_append, List.mem_append, List.mem_singleton, e2]
      constructor
      · rintro ((h | h) | h)
        · exact .inl (.inl h)
        · exact .inr h
        · exact .inl (.inr h)
      · rintro ((h | h) | h)
        · exact .inl (.inl h)
        · exact .inr h
        · exact .inl (.inr h)
    rw [e, h.2 y, take_at hx, List.mem_append, List.mem_singleton]
    constructor
    · rintro (⟨h1, h2⟩ | rfl)
      · exact ⟨.inl h1, h2⟩
      · exact ⟨.inr rfl, hm⟩
    · rintro ⟨h1 | rfl, h2⟩
      · exact .inl ⟨h1, h2⟩
      · exact .inr rfl
theorem LI.fin {l out : List P3} (h : LI l l.length out) : out = L3 l :=
  isLeast_eq ords3 ⟨h.1, fun x => by rw [h.2 x, List.take_length]; exact ⟨fun h => h.2, fun h => ⟨h.1, h⟩⟩⟩
/-- pairs are triples of one Dep -/
theorem may3_zero (p : P2) : may3 (0, p) = may2 p := by
  rw [Bool.eq_iff_iff, may3_iff, may2_iff]
  simp only
  omega
theorem beats3_zero (p q : P2) : beats3 (0, p) (0, q) = beats2 p q := by
  rw [Bool.eq_iff_iff, beats3_iff, beats2_iff]
  simp only
  omega
theorem mem_ofF {m : List P2} {x : P3} : x ∈ ofF 0 m ↔ x.1 = 0 ∧ x.2 ∈ m := by
  unfold ofF
  rw [List.mem_map]
  constructor
  · rintro ⟨p, hp, rfl⟩; exact ⟨rfl, hp⟩
  · rintro ⟨h1, h2⟩; exact ⟨x.2, h2, by obtain ⟨a, b⟩ := x; simp only at h1; subst h1; rfl⟩
theorem L3_pairs (m : List P2) : L3 (ofF 0 m) = ofF 0 (L2 m) := by
  refine (isLeast_eq ords3 ⟨?_, fun x => ?_⟩).symm
  · have h := (L2_is m).1
    unfold Srt at h ⊢
    unfold ofF
    rw [List.pairwise_map]
    refine h.imp fun {a b} hab => ?_
    rw [lt2_iff] at hab
    rw [lt3_iff]
    show (0 : Int) < 0 ∨ (0 : Int) = 0 ∧ (a.2 < b.2 ∨ a.2 = b.2 ∧ a.1 < b.1)
    omega
  · rw [mem_ofF]
    unfold K.Min
    constructor
    · rintro ⟨h1, h2⟩
      obtain ⟨a, p⟩ := x
      simp only at h1 h2
      subst h1
      obtain ⟨k1, k2, k3⟩ := L2_mem.1 h2
      refine ⟨mem_ofF.2 ⟨rfl, k1⟩, by rw [may3_zero]; exact k2, fun y hy hmy => ?_⟩
      obtain ⟨b, q⟩ := y
      obtain ⟨e, hq⟩ := mem_ofF.1 hy
      simp only at e hq
      subst e
      rw [beats3_zero]
      rw [may3_zero] at hmy
      exact k3 q hq hmy
    · rintro ⟨h1, h2, h3⟩
      obtain ⟨e, hp⟩ := mem_ofF.1 h1
      refine ⟨e, L2_mem.2 ⟨hp, ?_, fun q hq hmq => ?_⟩⟩
      · obtain ⟨a, p⟩ := x
        simp only at e
        subst e
        rw [may3_zero] at h2; exact h2
      · obtain ⟨a, p⟩ := x
        simp only at e
        subst e
        rw [← beats3_zero]
        exact h3 (0, q) (mem_ofF.2 ⟨rfl, hq⟩) (by rw [may3_zero]; exact hmq)
theorem pairs_of (m : List P2) : (ofF 0 m).map Prod.snd = m := by
  unfold ofF
  rw [List.map_map]
  exact (List.map_congr_left fun p _ => rfl).trans (List.map_id _)
end Go.Proofs.YtibeoiphjkgekaaGreat
