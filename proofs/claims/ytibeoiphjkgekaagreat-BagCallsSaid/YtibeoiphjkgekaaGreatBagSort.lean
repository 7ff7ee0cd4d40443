/-
  Plain laws: what the program goes through, sorted, is the least of the list.
-/
import Derived.Test.YtibeoiphjkgekaaGreatBagWords
import Derived.Shelf.SlSortCmp.NoneTotal
namespace Go.Proofs.YtibeoiphjkgekaaGreat
namespace K
theorem sort_least {α : Type} [DecidableEq α] {may : α → Bool} {beats lt : α → α → Bool} (O : Ords beats lt) (l : List α) :
    (leastF may beats [] l).mergeSort (fun x y => !lt y x) = least may beats lt l := by
  obtain ⟨hn, hm⟩ := leastF_is (may := may) O l
  have hp := List.mergeSort_perm (leastF may beats [] l) (fun x y => !lt y x)
  have hnt : ∀ a b c, lt a b = false → lt b c = false → lt a c = false := by
    intro a b c h1 h2
    cases h : lt a c with
    | false => rfl
    | true =>
      rcases O.conn b c with e | e | e
      · rw [e] at h2; cases h2
      · subst e; rw [h] at h1; cases h1
      · rw [O.ltr _ _ _ h e] at h1; cases h1
  have hs := List.pairwise_mergeSort (le := fun x y => !lt y x) (fun a b c h1 h2 => by
      simp only [Bool.not_eq_true'] at *
      exact hnt _ _ _ h2 h1) (fun a b => by
      cases h1 : lt b a <;> cases h2 : lt a b <;> simp [h1, h2]
      have := O.ltr _ _ _ h1 h2
      rw [O.lirr] at this; cases this) (leastF may beats [] l)
  have hnd : ((leastF may beats [] l).mergeSort (fun x y => !lt y x)).Nodup := hp.nodup_iff.2 hn
  refine isLeast_eq O ⟨?_, fun x => (hp.mem_iff).trans (hm x)⟩
  unfold Srt
  refine (hs.and hnd).imp fun {a b} hab => ?_
  obtain ⟨h1, h2⟩ := hab
  simp only [Bool.not_eq_true'] at h1
  rcases O.conn a b with e | e | e
  · exact e
  · exact absurd e h2
  · rw [e] at h1; cases h1
theorem lift_step {α : Type} [DecidableEq α] {may : α → Bool} {beats : α → α → Bool} {kept r : List α} {x : α} (h : may x = true) (h2 : (kept.any fun o => decide (o = x) || beats o x) = false) :
    leastF may beats kept (x :: r) = leastF may beats (kept.filter (fun o => !beats x o) ++ [x]) r := by
  rw [leastF, if_neg]
  rw [h, show (kept.any fun o => o == x || beats o x) = false from h2]
  simp
theorem lift_skip {α : Type} [DecidableEq α] {may : α → Bool} {beats : α → α → Bool} {kept r : List α} {x : α} (h : may x = false ∨ (kept.any fun o => decide (o = x) || beats o x) = true) :
    leastF may beats kept (x :: r) = leastF may beats kept r := by
  rw [leastF, if_pos]
  rcases h with h | h
  · rw [h]; rfl
  · rw [Bool.or_eq_true]; exact .inr h
open Go.Proofs Go.Sort in
theorem swo_of {α : Type} {beats lt : α → α → Bool} (O : Ords beats lt) (cf : α → α → Int) (h : ∀ x y, ltOf cf x y = lt x y) : SWO (ltOf cf) where
  irrefl x := by rw [h]; exact O.lirr x
  trans x y z h1 h2 := by rw [h] at *; exact O.ltr _ _ _ h1 h2
  ntrans x y z h1 h2 := by
    rw [h] at *
    cases hc : lt x z with
    | false => rfl
    | true =>
      rcases O.conn y z with e | e | e
      · rw [e] at h2; cases h2
      · subst e; rw [hc] at h1; cases h1
      · rw [O.ltr _ _ _ hc e] at h1; cases h1
theorem tot_of {α : Type} {beats lt : α → α → Bool} (O : Ords beats lt) {x y : α} (h1 : lt x y = false) (h2 : lt y x = false) : x = y := by
  rcases O.conn x y with e | e | e
  · rw [e] at h1; cases h1
  · exact e
  · rw [e] at h2; cases h2
end K
end Go.Proofs.YtibeoiphjkgekaaGreat
