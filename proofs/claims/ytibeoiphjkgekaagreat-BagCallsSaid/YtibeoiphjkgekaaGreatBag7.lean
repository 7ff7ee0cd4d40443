/-
  Walks: slices.SortFunc and slices.Clip at pairs and triples.
-/
import Derived.Test.YtibeoiphjkgekaaGreatBag6
import Derived.Test.YtibeoiphjkgekaaGreatBagSort
import Derived.Test.YtibeoiphjkgekaaGreatShelf
namespace Go.Proofs.YtibeoiphjkgekaaGreat
open Go.RowKit B K Go.Shelf Go.Sort
set_option linter.unusedVariables false
set_option linter.unusedSimpArgs false
set_option maxHeartbeats 2000000
/-- a row sorted in its place -/
def RetS {α : Type} (base : Nat) (t : TypeId) (size : Nat) (enc : α → List Value) (w : World) (v : Value) (l : List α) (e : Ending) (w' : World) : Prop :=
  e = .returned (.tuple #[]) ∧ w'.ownsRow base t size v l.length (l.flatMap enc) ∧ w.grownBy w' v.ownBlock
theorem sortP_any (base : Nat) (v : Value) (l : List P2) (w : World) (hown : w.ownsRow base 55 2 v l.length (l.flatMap pairE)) (hn : l.length ≤ 1099511627776) :
    Calls Tryz.prog 71 #[v, .func (.func 49) #[] #[]] w fun e w' => RetS base 55 2 pairE w v (l.mergeSort fun x y => !lt2 y x) e w' := by
  have hlen : (l.mergeSort fun x y => !lt2 y x).length = l.length := List.length_mergeSort ..
  rcases hown.2 with ⟨rfl, h0⟩ | ⟨g0, cap, cur, rfl, hb, hg, hnc, hcm, hcs, htk⟩
  · obtain rfl : l = [] := List.eq_nil_of_length_eq_zero h0
    refine (AnyF.slices_SortFunc_none sortPL none 0 _ w).mono fun e w' ⟨he, hw⟩ => ?_
    subst hw
    exact ⟨he, by rw [hlen]; simpa using hown, World.grownBy.refl _ _⟩
  · have hcmp : CmpLays Tryz.prog 49 #[] pairE 2 (fun x y => cmp2 x y) g0 0 l.toArray.size w := by
      intro m os dk _ x y
      obtain ⟨x1, x2⟩ := x
      obtain ⟨y1, y2⟩ := y
      refine (compare2_any x1 x2 y1 y2 _).mono fun e w' ⟨he, hgr⟩ => ⟨he, ?_⟩
      obtain ⟨q, os', hq⟩ := hgr.grow
      exact ⟨q, os', hq⟩
    have hsz : l.toArray.size = l.length := by simp
    have h := AnyQ.slices_SortFunc_total sortPL 2 Tryz.isAgg55 Tryz.sizeOf55 pairE pairE_len2 (fun x u hu => pairE_one x u hu) (fun x y => cmp2 x y) (swo_of ords2 _ (fun _ _ => rfl)) 49 #[] g0 0 cap l.toArray w
      (enters_of Tryz.func49 (by kernel_rfl) rfl) hcmp (holdsK_of_own pairE_len2 (by decide) hown) (hown.lt g0 rfl).2 (by rw [hsz]; omega) (fun x y h1 h2 => tot_of ords2 h1 h2)
    change Calls Tryz.prog 71 _ _ _ at h
    rw [hsz] at h
    refine h.mono fun e w' ⟨he, m, os, hw⟩ => ?_
    subst hw
    obtain ⟨k1, k2⟩ := own_sorted pairE_len2 (by decide) hown m (l.mergeSort fun x y => !lt2 y x) hlen os
    exact ⟨he, by rw [hlen]; exact k1, k2⟩
theorem clipP_any (A : Option Addr) (n c : Nat) (w : World) (h : n ≤ c) (hA : A = none → c = 0) :
    Calls Tryz.prog 72 #[.slice A n c] w fun e w' => e = .returned (.slice A n n) ∧ w = w' := by
  go_enter Tryz.func72, Tryz.ntmps72
  go_wp2
  go_returns
  exact ⟨rfl, rfl⟩
theorem sortT_any (base : Nat) (v : Value) (l : List P3) (w : World) (hown : w.ownsRow base 66 3 v l.length (l.flatMap tripE)) (hn : l.length ≤ 1099511627776) :
    Calls Tryz.prog 81 #[v, .func (.func 57) #[] #[]] w fun e w' => RetS base 66 3 tripE w v (l.mergeSort fun x y => !lt3 y x) e w' := by
  have hlen : (l.mergeSort fun x y => !lt3 y x).length = l.length := List.length_mergeSort ..
  rcases hown.2 with ⟨rfl, h0⟩ | ⟨g0, cap, cur, rfl, hb, hg, hnc, hcm, hcs, htk⟩
  · obtain rfl : l = [] := List.eq_nil_of_length_eq_zero h0
    refine (AnyF.slices_SortFunc_none sortTL none 0 _ w).mono fun e w' ⟨he, hw⟩ => ?_
    subst hw
    exact ⟨he, by rw [hlen]; simpa using hown, World.grownBy.refl _ _⟩
  · have hcmp : CmpLays Tryz.prog 57 #[] tripE 3 (fun x y => cmp3 x y) g0 0 l.toArray.size w := by
      intro m os dk _ x y
      obtain ⟨x1, x2, x3⟩ := x
      obtain ⟨y1, y2, y3⟩ := y
      refine (compare3_any x1 x2 x3 y1 y2 y3 _).mono fun e w' ⟨he, hgr⟩ => ⟨he, ?_⟩
      obtain ⟨q, os', hq⟩ := hgr.grow
      exact ⟨q, os', hq⟩
    have hsz : l.toArray.size = l.length := by simp
    have h := AnyQ.slices_SortFunc_total sortTL 3 Tryz.isAgg66 Tryz.sizeOf66 tripE tripE_len (fun x u hu => tripE_one x u hu) (fun x y => cmp3 x y) (swo_of ords3 _ (fun _ _ => rfl)) 57 #[] g0 0 cap l.toArray w
      (enters_of Tryz.func57 (by kernel_rfl) rfl) hcmp (holdsK_of_own tripE_len (by decide) hown) (hown.lt g0 rfl).2 (by rw [hsz]; omega) (fun x y h1 h2 => tot_of ords3 h1 h2)
    change Calls Tryz.prog 81 _ _ _ at h
    rw [hsz] at h
    refine h.mono fun e w' ⟨he, m, os, hw⟩ => ?_
    subst hw
    obtain ⟨k1, k2⟩ := own_sorted tripE_len (by decide) hown m (l.mergeSort fun x y => !lt3 y x) hlen os
    exact ⟨he, by rw [hlen]; exact k1, k2⟩
theorem clipT_any (A : Option Addr) (n c : Nat) (w : World) (h : n ≤ c) (hA : A = none → c = 0) :
    Calls Tryz.prog 82 #[.slice A n c] w fun e w' => e = .returned (.slice A n n) ∧ w = w' := by
  go_enter Tryz.func82, Tryz.ntmps82
  go_wp2
  go_returns
  exact ⟨rfl, rfl⟩
end Go.Proofs.YtibeoiphjkgekaaGreat
