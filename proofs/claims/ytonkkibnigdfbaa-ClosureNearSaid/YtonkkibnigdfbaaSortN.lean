/-
  Walk: closure.order; slices.SortFunc at near stops by it (clo/gen2.py).
-/
import Derived.Test.YtonkkibnigdfbaaSpS
import Derived.Test.YtonkkibnigdfbaaClSorted
import Derived.Test.YtonkkibnigdfbaaShelfN
import Derived.Shelf.SlSortCmp.NoneTotal
import Derived.Handy
import Derived.Deep.Cut
namespace Go.Proofs.Ytonkkibnigdfbaa
open Go.RowKit B
set_option linter.unusedVariables false
set_option linter.unusedSimpArgs false
set_option maxHeartbeats 2000000
open K
set_option maxRecDepth 100000 in
theorem corder_any (a b c d : Int) (w : World) : Calls Try.prog 70 #[.agg #[.int .i64 a, .int .i64 b], .agg #[.int .i64 c, .int .i64 d]] w fun e w' => e = .returned (.int .i64 (ordI (a, b) (c, d))) ∧ Grew w w' := by
  go_enter Try.func70, Try.ntmps70
  go_wp2_with fail
  refine wp_tail0 10 (by kernel_rfl) (by kernel_rfl) ?_
  simp only [List.take_succ_cons, List.take_zero, List.drop_succ_cons, List.drop_zero]
  repeat (first | still_step | still_call (cmpI_any _ _ _) | still_call (cmpL_any _ _ _))
  try refine wpStill_nil ?_
  go_wp2_with (go_at_call 95; refine (or_any (K.cmpI a c) (K.cmpI b d) _ _ (by simp [go_sem]) (by simp [go_sem])).mono ?_; rintro e w' ⟨rfl, rfl⟩)
  go_returns
  exact ⟨rfl, ((((Grew.refl w).alloc _).alloc _).alloc _).drewN 1⟩
open Go.Sort
def srtI (l : List It) : List It := l.mergeSort fun x y => !ltI y x
theorem ltI_conn (a b : It) : ltI a b = true ∨ a = b ∨ ltI b a = true := by rw [ltI_iff, ltI_iff, Prod.ext_iff]; omega
theorem srtI_perm (l : List It) : (srtI l).Perm l := List.mergeSort_perm _ _
theorem srtI_len (l : List It) : (srtI l).length = l.length := List.length_mergeSort ..
theorem srtI_sorted (l : List It) : (srtI l).Pairwise fun a b => ltI b a = false := by
  refine (List.pairwise_mergeSort (le := fun x y => !ltI y x) (fun a b c h1 h2 => ?_) (fun a b => ?_) l).imp fun {a b} h => by simpa using h
  · simp only [Bool.not_eq_true'] at *
    exact ltI_tr h2 h1
  · cases h1 : ltI b a <;> cases h2 : ltI a b <;> simp [h1, h2]
    rw [ltI_asy h1] at h2; cases h2
theorem srt_unique {l S : List It} (hp : S.Perm l) (hs : S.Pairwise fun a b => ltI b a = false) : S = srtI l :=
  List.Perm.eq_of_pairwise (le := fun a b => ltI b a = false) (fun a b _ _ h1 h2 => by
    rcases ltI_conn a b with h | h | h
    · rw [h] at h2; cases h2
    · exact h
    · rw [h] at h1; cases h1) hs (srtI_sorted l) (hp.trans (srtI_perm l).symm)
theorem srtI_congr {l l' : List It} (hp : l.Perm l') : srtI l = srtI l' := srt_unique ((srtI_perm l).trans hp) (srtI_sorted l)
theorem swoI : SWO (ltOf fun x y : It => ordI x y) where
  irrefl x := by unfold ltOf; rw [ordI_lt]; exact ltI_irr x
  trans x y z h1 h2 := by unfold ltOf at *; rw [ordI_lt] at *; exact ltI_tr' h1 h2
  ntrans x y z h1 h2 := by unfold ltOf at *; rw [ordI_lt] at *; exact ltI_tr h1 h2
def RetSN (base : Nat) (w : World) (v : Value) (l : List It) (e : Ending) (w' : World) : Prop :=
  e = .returned (.tuple #[]) ∧ w'.ownsRow base 67 2 v l.length (l.flatMap pairE) ∧ w.grownBy w' v.ownBlock
theorem sortN_any (base : Nat) (v : Value) (l : List It) (w : World) (hown : w.ownsRow base 67 2 v l.length (l.flatMap pairE)) (hn : l.length ≤ 1099511627776) :
    Calls Try.prog 69 #[v, .func (.func 70) #[] #[]] w fun e w' => RetSN base w v (srtI l) e w' := by
  have hlen := srtI_len l
  rcases hown.2 with ⟨rfl, h0⟩ | ⟨g0, cap, cur, rfl, hb, hg, hnc, hcm, hcs, htk⟩
  · obtain rfl : l = [] := List.eq_nil_of_length_eq_zero h0
    refine (AnyF.slices_SortFunc_none sortNL none 0 _ w).mono fun e w' ⟨he, hw⟩ => ?_
    subst hw
    exact ⟨he, by rw [hlen]; simpa [srtI] using hown, World.grownBy.refl _ _⟩
  · have hcmp : CmpLays Try.prog 70 #[] pairE 2 (fun x y => ordI x y) g0 0 l.toArray.size w := by
      intro m os dk _ x y
      obtain ⟨x1, x2⟩ := x
      obtain ⟨y1, y2⟩ := y
      refine (corder_any x1 x2 y1 y2 _).mono fun e w' ⟨he, hgr⟩ => ⟨he, ?_⟩
      obtain ⟨q, os', hq⟩ := hgr.grow
      exact ⟨q, os', hq⟩
    have hsz : l.toArray.size = l.length := by simp
    have h := AnyQ.slices_SortFunc_total sortNL 2 Try.isAgg67 Try.sizeOf67 pairE pairE_len2 (fun x u hu => pairE_one x u hu) (fun x y => ordI x y) swoI 70 #[] g0 0 cap l.toArray w
      (enters_of Try.func70 (by kernel_rfl) rfl) hcmp (holdsK_of_own pairE_len2 (by decide) hown) (hown.lt g0 rfl).2 (by rw [hsz]; omega) (fun x y h1 h2 => by
        unfold ltOf at h1 h2; rw [ordI_lt] at h1 h2
        rcases ltI_conn x y with h | h | h
        · rw [h] at h1; cases h1
        · exact h
        · rw [h] at h2; cases h2)
    change Calls Try.prog 69 _ _ _ at h
    rw [hsz] at h
    refine h.mono fun e w' ⟨he, m, os, hw⟩ => ?_
    subst hw
    have hfun : (fun x y : It => !ltOf (fun x y => ordI x y) y x) = fun x y => !ltI y x := by
      funext x y; unfold ltOf; rw [ordI_lt]
    rw [hfun]
    obtain ⟨k1, k2⟩ := own_sorted pairE_len2 (by decide) hown m (srtI l) hlen os
    exact ⟨he, by rw [hlen]; exact k1, k2⟩
end Go.Proofs.Ytonkkibnigdfbaa
