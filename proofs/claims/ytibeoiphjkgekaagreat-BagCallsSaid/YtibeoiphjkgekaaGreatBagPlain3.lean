/-
  Plain law: what covers a list keeps what the list keeps.
-/
import Derived.Test.YtibeoiphjkgekaaGreatBagPlain2
namespace Go.Proofs.YtibeoiphjkgekaaGreat.B
open K
set_option linter.unusedSimpArgs false
theorem least_cover {α : Type} [DecidableEq α] {may : α → Bool} {beats lt : α → α → Bool} (O : Ords beats lt) (htr : ∀ a b c, beats a b = true → beats b c = true → beats a c = true) {l k : List α} (hk : ∀ x ∈ k, x ∈ l)
    (hc : ∀ x ∈ l, may x = true → ∃ m ∈ k, may m = true ∧ (m = x ∨ beats m x = true)) : least may beats lt k = least may beats lt l := by
  refine isLeast_eq O ⟨(least_is O k).1, fun x => ?_⟩
  rw [(least_is O k).2 x]
  constructor
  · rintro ⟨h1, h2, h3⟩
    refine ⟨hk x h1, h2, fun y hy hm => ?_⟩
    obtain ⟨m, hm1, hm2, hm3⟩ := hc y hy hm
    rcases hm3 with rfl | h
    · exact h3 m hm1 hm2
    · cases hb : beats y x with
      | false => rfl
      | true =>
        have := h3 m hm1 hm2
        rw [htr m y x h hb] at this; cases this
  · rintro ⟨h1, h2, h3⟩
    obtain ⟨m, hm1, hm2, hm3⟩ := hc x h1 h2
    rcases hm3 with rfl | h
    · exact ⟨hm1, h2, fun y hy hm => h3 y (hk y hy) hm⟩
    · have := h3 m (hk m hm1) hm2
      rw [h] at this; cases this
theorem beats2_trans (a b c : P2) (h1 : beats2 a b = true) (h2 : beats2 b c = true) : beats2 a c = true := by
  rw [beats2_iff] at *; omega
theorem beats3_trans (a b c : P3) (h1 : beats3 a b = true) (h2 : beats3 b c = true) : beats3 a c = true := by
  rw [beats3_iff] at *; omega
theorem L3_cov {l : List P3} {x : P3} (hx : x ∈ l) (hm : may3 x = true) : ∃ m ∈ L3 l, may3 m = true ∧ (m = x ∨ beats3 m x = true) := by
  obtain ⟨m, h1, h2⟩ := min_below ords3 l _ x (Nat.le_refl _) hx hm
  exact ⟨m, L3_mem.2 h1, h1.2.1, h2⟩
theorem L3_sub {l : List P3} {x : P3} (hx : x ∈ L3 l) : x ∈ l := (L3_mem.1 hx).1
theorem L3_may {l : List P3} {x : P3} (hx : x ∈ L3 l) : may3 x = true := (L3_mem.1 hx).2.1
theorem L3_same {l k : List P3} (h : ∀ x, x ∈ k ↔ x ∈ l) : L3 k = L3 l :=
  least_cover ords3 beats3_trans (fun x hx => (h x).1 hx) fun x hx hm => ⟨x, (h x).2 hx, hm, .inl rfl⟩
theorem L3_parts (l m : List P3) : L3 (L3 l ++ L3 m) = L3 (l ++ m) := by
  refine least_cover ords3 beats3_trans (fun x hx => ?_) fun x hx hm => ?_
  · rw [List.mem_append] at *; exact hx.imp L3_sub L3_sub
  · rw [List.mem_append] at hx
    rcases hx with h | h
    · obtain ⟨m, h1, h2⟩ := L3_cov h hm; exact ⟨m, List.mem_append_left _ h1, h2⟩
    · obtain ⟨m, h1, h2⟩ := L3_cov h hm; exact ⟨m, List.mem_append_right _ h1, h2⟩
theorem L3_snoc (l : List P3) (x : P3) : L3 (L3 l ++ [x]) = L3 (l ++ [x]) := by
  refine least_cover ords3 beats3_trans (fun y hy => ?_) fun y hy hm => ?_
  · rw [List.mem_append] at *; exact hy.imp L3_sub id
  · rw [List.mem_append] at hy
    rcases hy with h | h
    · obtain ⟨m, h1, h2⟩ := L3_cov h hm; exact ⟨m, List.mem_append_left _ h1, h2⟩
    · exact ⟨y, List.mem_append_right _ h, hm, .inl rfl⟩
theorem L3_idle {l : List P3} {x : P3} (h : (decide (x ∈ L3 (L3 l ++ [x])) && !decide (x ∈ L3 l)) = false) : L3 (L3 l ++ [x]) = L3 l := by
  have e : L3 (L3 l) = L3 (L3 l ++ [x]) := by
    by_cases hx : x ∈ L3 l
    · refine L3_same fun y => ?_
      rw [List.mem_append]
      exact ⟨.inl, fun h => h.elim id fun h => by rw [List.mem_singleton] at h; rw [h]; exact hx⟩
    · have hn : ¬ x ∈ L3 (L3 l ++ [x]) := by simpa [hx] using h
      refine least_cover ords3 beats3_trans (fun y hy => List.mem_append_left _ hy) fun y hy hm => ?_
      rw [List.mem_append, List.mem_singleton] at hy
      rcases hy with hy | rfl
      · exact ⟨y, hy, hm, .inl rfl⟩
      · obtain ⟨m, h1, h2, h3⟩ := L3_cov (l := L3 l ++ [y]) (x := y) (by simp) hm
        have h4 := L3_sub h1
        rw [List.mem_append, List.mem_singleton] at h4
        rcases h4 with h4 | rfl
        · exact ⟨m, h4, h2, h3⟩
        · exact absurd h1 hn
  rw [← e, L3_self]
theorem behind_L3 (t : Int) (l : List P3) : L2 (behindF t l) = L2 (behindF t (L3 l)) := by
  symm
  refine least_cover ords2 beats2_trans (fun p hp => ?_) fun p hp hm => ?_
  · unfold behindF at *
    rw [List.mem_map] at *
    obtain ⟨x, hx, rfl⟩ := hp
    rw [List.mem_filter] at hx
    exact ⟨x, List.mem_filter.2 ⟨L3_sub hx.1, hx.2⟩, rfl⟩
  · unfold behindF at *
    rw [List.mem_map] at hp
    obtain ⟨x, hx, rfl⟩ := hp
    rw [List.mem_filter, Bool.and_eq_true, decide_eq_true_eq] at hx
    obtain ⟨m, h1, h2, h3⟩ := L3_cov hx.1 hx.2.1
    have h4 : t ≤ m.1 ∧ (m.2 = x.2 ∨ beats2 m.2 x.2 = true) := by
      rcases h3 with rfl | h3
      · exact ⟨hx.2.2, .inl rfl⟩
      · rw [beats3_iff] at h3
        refine ⟨by omega, ?_⟩
        by_cases e : m.2 = x.2
        · exact .inl e
        · refine .inr (beats2_iff.2 ⟨h3.2.1, h3.2.2.1, ?_⟩)
          by_cases e1 : m.2.1 = x.2.1
          · refine .inr fun e2 => e (Prod.ext e1 e2)
          · exact .inl e1
    refine ⟨m.2, List.mem_map.2 ⟨m, List.mem_filter.2 ⟨h1, ?_⟩, rfl⟩, (may3_iff.1 h2).2, h4.2⟩
    rw [h2, decide_eq_true h4.1]; rfl
theorem snoc_len (l : List P3) (x : P3) : ¬ (L3 l).length + 1 < (L3 (L3 l ++ [x])).length := by
  have := L3_len (L3 l ++ [x])
  rw [List.length_append] at this
  simp at this
  omega
end Go.Proofs.YtibeoiphjkgekaaGreat.B
