/-
  Plain laws of the reference's heap: put in where it stands, taken out, the row stays sorted.
-/
import Derived.Test.YtapfndjaimfcaaaHeapSort
import Derived.Test.YtapfndjaimfcaaaBagIdx
import Derived.Test.YtapfndjaimfcaaaBase
namespace Go.Proofs.Ytapfndjaimfcaaa
open B
set_option linter.unusedVariables false
set_option linter.unusedSimpArgs false
theorem ins_srt {S : List It} {x : It} {j : Nat} (hs : S.Pairwise fun a b => ltI b a = false) (hj : j ≤ S.length) (hd : ∀ y ∈ S.drop j, ltI x y = true) (ht : j = 0 ∨ ∃ y, S[j - 1]? = some y ∧ ltI x y = false) : S.take j ++ [x] ++ S.drop j = srtI (x :: S) := by
  refine srt_unique ?_ ?_
  · rw [List.append_assoc, List.singleton_append]
    exact List.perm_middle.trans (by rw [List.take_append_drop])
  · have h1 : (S.take j ++ S.drop j).Pairwise fun a b => ltI b a = false := by rw [List.take_append_drop]; exact hs
    rw [List.pairwise_append] at h1
    obtain ⟨p1, p2, p3⟩ := h1
    have hlow : ∀ y ∈ S.take j, ltI x y = false := fun y hy => by
      rcases ht with rfl | ⟨z, hz, hxz⟩
      · simp at hy
      · obtain ⟨i, hi⟩ := List.getElem?_of_mem hy
        have hij : i < j := by have := (List.getElem?_eq_some_iff.1 hi).1; simp at this; omega
        rw [List.getElem?_take, if_pos hij] at hi
        by_cases e : i = j - 1
        · subst e; rw [hz] at hi; cases hi; exact hxz
        · obtain ⟨l1, e1⟩ := List.getElem?_eq_some_iff.1 hi
          obtain ⟨l2, e2⟩ := List.getElem?_eq_some_iff.1 hz
          have := List.pairwise_iff_getElem.1 hs i (j - 1) l1 l2 (by omega)
          rw [e1, e2] at this
          exact ltI_tr hxz this
    rw [List.append_assoc, List.pairwise_append]
    refine ⟨p1, ?_, ?_⟩
    · rw [List.singleton_append, List.pairwise_cons]
      exact ⟨fun b hb => ltI_asy (hd b hb), p2⟩
    · intro a ha b hb
      rw [List.singleton_append, List.mem_cons] at hb
      rcases hb with rfl | hb
      · exact hlow a ha
      · exact p3 a ha b hb
/-- sorted, no ID twice -/
structure St (S : List It) : Prop where
  srt : S.Pairwise fun a b => ltI b a = false
  nd : (S.map Prod.snd).Nodup
theorem St.nil : St [] := ⟨List.Pairwise.nil, List.nodup_nil⟩
theorem St.tail {x : It} {r : List It} (h : St (x :: r)) : St r := ⟨(List.pairwise_cons.1 h.srt).2, (List.nodup_cons.1 h.nd).2⟩
theorem St.head {x : It} {r : List It} (h : St (x :: r)) : ∀ y ∈ r, ltI x y = true := fun y hy => by
  have h1 := (List.pairwise_cons.1 h.srt).1 y hy
  rcases ltI_conn x y with e | e | e
  · exact e
  · exfalso
    have := (List.nodup_cons.1 h.nd).1
    exact this (List.mem_map.2 ⟨y, hy, by rw [e]⟩)
  · rw [e] at h1; cases h1
theorem St.ins {x : It} {S : List It} (h : St S) (hn : ∀ y ∈ S, y.2 ≠ x.2) : St (srtI (x :: S)) := by
  refine ⟨srtI_sorted _, ((srtI_perm _).map Prod.snd).nodup_iff.2 (List.nodup_cons.2 ⟨fun hm => ?_, h.nd⟩)⟩
  obtain ⟨y, hy, e⟩ := List.mem_map.1 hm
  exact hn y hy e
theorem split_at {S : List It} {j : Nat} {x : It} (hx : S[j]? = some x) : S = S.take j ++ x :: S.drop (j + 1) := by
  rw [← drop_at hx, List.take_append_drop]
theorem St.rem {S : List It} {j : Nat} {x : It} (h : St S) (hx : S[j]? = some x) : St (S.take j ++ S.drop (j + 1)) ∧ S.Perm (x :: (S.take j ++ S.drop (j + 1))) ∧ ∀ y ∈ S.take j ++ S.drop (j + 1), y.2 ≠ x.2 := by
  have hp : S.Perm (x :: (S.take j ++ S.drop (j + 1))) := by
    have := split_at hx
    conv => lhs; rw [this]
    exact List.perm_middle
  have hsub : (S.take j ++ S.drop (j + 1)).Sublist S := by
    rw [← List.eraseIdx_eq_take_drop_succ]
    exact List.eraseIdx_sublist ..
  have hnd := (hp.map Prod.snd).nodup_iff.1 h.nd
  rw [List.map_cons, List.nodup_cons] at hnd
  exact ⟨⟨h.srt.sublist hsub, hnd.2⟩, hp, fun y hy e => hnd.1 (List.mem_map.2 ⟨y, hy, e⟩)⟩
theorem St.same {S : List It} (h : St S) : srtI S = S := (srt_unique (List.Perm.refl _) h.srt).symm
end Go.Proofs.Ytapfndjaimfcaaa
