/-
  Plain: to put a near stop into its place of a sorted row keeps the row sorted.
-/
import Derived.Test.YtonkkibnigdfbaaClMk
namespace Go.Proofs.Ytonkkibnigdfbaa
open Go.RowKit Go.Shelf B K
set_option linter.unusedVariables false
set_option linter.unusedSimpArgs false
def insN (S : W.Row) (k : Nat) (x : It) : W.Row := S.take k ++ [x] ++ S.drop k
theorem insN_perm (S : W.Row) (k : Nat) (x : It) : (insN S k x).Perm (S ++ [x]) := by
  unfold insN
  have h : (S.take k ++ [x] ++ S.drop k).Perm (S.take k ++ S.drop k ++ [x]) := by
    rw [List.append_assoc, List.append_assoc]
    exact List.Perm.append_left _ List.perm_append_comm
  rwa [List.take_append_drop] at h
theorem srt_le {a b : It} (h : ltI b a = false) : a.1 ≤ b.1 := by
  have : ¬ ltI b a = true := by rw [h]; simp
  rw [ltI_iff] at this
  omega
theorem insN_srt {S : W.Row} {v t : Int} {k : Nat} (hS : S.Pairwise fun a b => ltI b a = false) (hst : ∀ x ∈ S, x.2 < t) (h1 : ∀ x, 0 < k → S[k - 1]? = some x → x.1 ≤ v) (h2 : ∀ x ∈ S.drop k, v < x.1) (hk : k ≤ S.length) :
    (insN S k (v, t)).Pairwise fun a b => ltI b a = false := by
  have hle : ∀ x ∈ S.take k, x.1 ≤ v := fun x hx => by
    obtain ⟨i, hi⟩ := List.getElem?_of_mem hx
    have hik : i < k := by
      have := (List.getElem?_eq_some_iff.1 hi).1
      rw [List.length_take] at this; omega
    rw [List.getElem?_take, if_pos hik] at hi
    have hk1 : k - 1 < S.length := by omega
    have h3 := h1 _ (by omega) (List.getElem?_eq_getElem hk1)
    by_cases he : i = k - 1
    · subst he
      rw [List.getElem?_eq_getElem hk1] at hi
      cases hi; exact h3
    · obtain ⟨hi1, hi2⟩ := List.getElem?_eq_some_iff.1 hi
      have := srt_le (List.pairwise_iff_getElem.1 hS i (k - 1) hi1 hk1 (by omega))
      rw [hi2] at this
      omega
  have hp := hS
  rw [← List.take_append_drop k S, List.pairwise_append] at hp
  obtain ⟨p1, p2, p3⟩ := hp
  unfold insN
  rw [List.append_assoc, List.pairwise_append]
  refine ⟨p1, ?_, fun a ha b hb => ?_⟩
  · rw [List.singleton_append, List.pairwise_cons]
    refine ⟨fun b hb => ?_, p2⟩
    have := h2 b hb
    have hn : ¬ ltI b (v, t) = true := by rw [ltI_iff]; simp only; omega
    simpa using hn
  · rw [List.singleton_append, List.mem_cons] at hb
    rcases hb with rfl | hb
    · have h4 := hle a ha
      have h5 := hst a (List.mem_of_mem_take ha)
      have hn : ¬ ltI (v, t) a = true := by rw [ltI_iff]; simp only; omega
      simpa using hn
    · exact p3 a ha b hb
theorem insN_near {d : List Int} {t k : Nat} (hv : lab d t ≠ W.inf) (h1 : ∀ x, 0 < k → (srtI (itemsTo d t))[k - 1]? = some x → x.1 ≤ lab d t) (h2 : ∀ x ∈ (srtI (itemsTo d t)).drop k, lab d t < x.1) (hk : k ≤ (srtI (itemsTo d t)).length) :
    insN (srtI (itemsTo d t)) k (lab d t, (t : Int)) = srtI (itemsTo d (t + 1)) := by
  refine srt_unique ?_ (insN_srt (srtI_sorted _) (fun x hx => ?_) h1 h2 hk)
  · rw [itemsTo_snoc, if_neg hv]
    exact (insN_perm _ _ _).trans ((srtI_perm _).append_right _)
  · obtain ⟨s, hs, _, rfl⟩ := itemsTo_mem.1 ((srtI_perm _).mem_iff.1 hx)
    simp only; omega
theorem srtI_skip {d : List Int} {t : Nat} (hv : lab d t = W.inf) : srtI (itemsTo d (t + 1)) = srtI (itemsTo d t) := by
  rw [itemsTo_snoc, if_pos hv, List.append_nil]
end Go.Proofs.Ytonkkibnigdfbaa
