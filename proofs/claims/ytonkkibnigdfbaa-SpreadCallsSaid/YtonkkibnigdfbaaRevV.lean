/-
  Walk: slices.Reverse of pairs of a row of the call's own.
-/
import Derived.Test.YtonkkibnigdfbaaSpS
import Derived.Deep.DeepCutAuto
namespace Go.Proofs.Ytonkkibnigdfbaa
open Go.RowKit Go.Shelf B K
set_option linter.unusedVariables false
set_option linter.unusedSimpArgs false
set_option maxHeartbeats 2000000
theorem ownAt {t : TypeId} {w : World} {base g c n k : Nat} {l : List It} {x : It} (own : w.ownsRow base t 2 (.slice (some ⟨g, 0, none⟩) n c) n (l.flatMap pairE)) (hx : l[k]? = some x) :
    w.cell? ⟨g, k * 2, none⟩ = some (.int .i64 x.1) ∧ w.cell? ⟨g, k * 2 + 1, none⟩ = some (.int .i64 x.2) := by
  have hln : l.length = n := by
    have := own.1
    rw [flatMap_len pairE_len2] at this
    omega
  obtain ⟨A3, q3, e3, r3, _, _⟩ := Rd.of_own (enc := pairE) pairE_len2 hln own
  cases e3
  obtain ⟨b3, o3, u1, u2, hA3, _, hu, s1, s2⟩ := r3.pair (k := k) (by have := (List.getElem?_eq_some_iff.1 hx).1; omega)
  cases hA3
  rw [hx] at hu; cases hu
  simp only [Nat.zero_add] at s1 s2
  exact ⟨s1, s2⟩
/-- two pairs of a row that change places -/
structure GSw (t : TypeId) (w0 : World) (base g c n : Nat) (l : List It) (i j : Nat) (a b : It) (rj ri s1 s2 : Bool) (w : World) : Prop where
  but : But w0 w [g]
  o0 : s1 = false → w.ownsRow base t 2 (.slice (some ⟨g, 0, none⟩) n c) n (l.flatMap pairE)
  o1 : s1 = true → s2 = false → w.ownsRow base t 2 (.slice (some ⟨g, 0, none⟩) n c) n ((l.set i b).flatMap pairE)
  o2 : s2 = true → w.ownsRow base t 2 (.slice (some ⟨g, 0, none⟩) n c) n ((swp l i j a b).flatMap pairE)
  cj : s1 = true → rj = true
  ci : s1 = true → ri = true
  c2 : s2 = true → s1 = true
section
variable {t : TypeId} {w0 w : World} {base g c n i j : Nat} {l : List It} {a b : It} {rj ri s1 s2 : Bool}
theorem GSw.start (h1 : s1 = false) (h2 : s2 = false) (own : w0.ownsRow base t 2 (.slice (some ⟨g, 0, none⟩) n c) n (l.flatMap pairE)) : GSw t w0 base g c n l i j a b rj ri s1 s2 { w0 with drawn := w0.drawn + 1 } := by
  subst h1 h2
  exact ⟨⟨rfl, rfl, rfl, Nat.le_refl _, fun _ _ _ => rfl⟩, fun _ => own, (fun h => by cases h), (fun h => by cases h), (fun h => by cases h), (fun h => by cases h), (fun h => by cases h)⟩
theorem GSw.notJ (h : GSw t w0 base g c n l i j a b rj ri s1 s2 w) (hl : rj = false) : s1 = false := bne2 h.cj hl
theorem GSw.notI (h : GSw t w0 base g c n l i j a b rj ri s1 s2 w) (hl : ri = false) : s1 = false := bne2 h.ci hl
theorem GSw.rJ (h : GSw t w0 base g c n l i j a b rj ri s1 s2 w) : GSw t w0 base g c n l i j a b true ri s1 s2 w := ⟨h.but, h.o0, h.o1, h.o2, fun _ => rfl, h.ci, h.c2⟩
theorem GSw.rI (h : GSw t w0 base g c n l i j a b rj ri s1 s2 w) : GSw t w0 base g c n l i j a b rj true s1 s2 w := ⟨h.but, h.o0, h.o1, h.o2, h.cj, fun _ => rfl, h.c2⟩
theorem GSw.get (h : GSw t w0 base g c n l i j a b rj ri s1 s2 w) (h1 : s1 = false) {k : Nat} {z1 z2 : Int} (hz : l[k]? = some (z1, z2)) : w.cell? ⟨g, k * 2, none⟩ = some (.int .i64 z1) ∧ w.cell? ⟨g, k * 2 + 1, none⟩ = some (.int .i64 z2) := ownAt (h.o0 h1) hz
theorem GSw.get2 (h : GSw t w0 base g c n l i j a b rj ri s1 s2 w) (h1 : s1 = true) (h2 : s2 = false) (hj : j < l.length) : ∃ z1 z2, w.cell? ⟨g, j * 2, none⟩ = some (.int .i64 z1) ∧ w.cell? ⟨g, j * 2 + 1, none⟩ = some (.int .i64 z2) := by
  have hl : j < (l.set i b).length := by simpa using hj
  exact ⟨_, _, ownAt (h.o1 h1 h2) (List.getElem?_eq_getElem hl)⟩
theorem GSw.st1 (h : GSw t w0 base g c n l i j a b rj ri s1 s2 w) (hi : i < l.length) (h1 : s1 = false) (hj : rj = true) (hr : ri = true) :
    GSw t w0 base g c n l i j a b rj ri true s2 ((w.setCell ⟨g, i * 2, none⟩ (.int .i64 b.1)).setCell ⟨g, i * 2 + 1, none⟩ (.int .i64 b.2)) := by
  have own2 := (((h.o0 h1).stored (i * 2) (.int .i64 b.1)).1.stored (i * 2 + 1) (.int .i64 b.2)).1
  rw [flat_set_pair _ _ _ _ hi] at own2
  have h2 := bne2 h.c2 h1
  exact ⟨(h.but.trans (But.of_set _ _ _ (by simp))).trans (But.of_set _ _ _ (by simp)), (fun h => by cases h), fun _ _ => own2, (fun h => by rw [h2] at h; cases h), fun _ => hj, fun _ => hr, fun _ => rfl⟩
theorem GSw.st2 (h : GSw t w0 base g c n l i j a b rj ri s1 s2 w) (hj : j < l.length) (h1 : s1 = true) (h2 : s2 = false) :
    GSw t w0 base g c n l i j a b rj ri s1 true ((w.setCell ⟨g, j * 2, none⟩ (.int .i64 a.1)).setCell ⟨g, j * 2 + 1, none⟩ (.int .i64 a.2)) := by
  have own2 := (((h.o1 h1 h2).stored (j * 2) (.int .i64 a.1)).1.stored (j * 2 + 1) (.int .i64 a.2)).1
  rw [flat_set_pair _ _ _ _ (by simpa using hj)] at own2
  exact ⟨(h.but.trans (But.of_set _ _ _ (by simp))).trans (But.of_set _ _ _ (by simp)), (fun h => by rw [h1] at h; cases h), (fun _ h => by cases h), fun _ => own2, h.cj, h.ci, fun _ => h1⟩
end
/-- the first i and the last i have changed places -/
def RevTo (l L : List It) (i : Nat) : Prop := L.length = l.length ∧ ∀ k, k < l.length → L[k]? = if k < i ∨ l.length - 1 - k < i then l.reverse[k]? else l[k]?
theorem RevTo.start (l : List It) : RevTo l l 0 := ⟨rfl, fun k hk => by rw [if_neg (by omega)]⟩
theorem RevTo.step {l L : List It} {i j : Nat} {x y : It} (h : RevTo l L i) (hij : i < j) (hj : j + i + 1 = l.length) (hx : L[i]? = some x) (hy : L[j]? = some y) : RevTo l (swp L i j x y) (i + 1) := by
  obtain ⟨h1, h2⟩ := h
  refine ⟨by rw [swp_len, h1], fun k hk => ?_⟩
  rw [swp_at hx hy]
  have hi := h2 i (by omega)
  have hj' := h2 j (by omega)
  rw [if_neg (by omega)] at hi hj'
  by_cases e1 : k = j
  · subst e1
    rw [if_pos rfl, if_pos (by omega), List.getElem?_reverse (by omega), ← hx, hi]
    congr 1; omega
  · rw [if_neg e1]
    by_cases e2 : k = i
    · subst e2
      rw [if_pos rfl, if_pos (by omega), List.getElem?_reverse (by omega), ← hy, hj']
      congr 1; omega
    · rw [if_neg e2, h2 k hk]
      by_cases e3 : k < i ∨ l.length - 1 - k < i
      · rw [if_pos e3, if_pos (by omega)]
      · rw [if_neg e3, if_neg (by omega)]
theorem RevTo.done {l L : List It} {i : Nat} (h : RevTo l L i) (hi : l.length ≤ i + i + 1) : L = l.reverse := by
  obtain ⟨h1, h2⟩ := h
  refine List.ext_getElem? fun k => ?_
  by_cases hk : k < l.length
  · rw [h2 k hk]
    split
    · rfl
    · rw [List.getElem?_reverse hk]
      congr 1; omega
  · rw [List.getElem?_eq_none (by omega), List.getElem?_eq_none (by simpa using Nat.le_of_not_lt hk)]
set_option maxRecDepth 100000 in
theorem revV_own {w : World} {base n c : Nat} {A : Option Addr} {l : List It} (own : w.ownsRow base 59 2 (.slice A n c) n (l.flatMap pairE)) (hn : n ≤ 1099511627776) :
    Calls Try.prog 66 #[.slice A n c] w fun e w' => e = .returned (.tuple #[]) ∧ w'.ownsRow base 59 2 (.slice A n c) n (l.reverse.flatMap pairE) ∧ Below base w w' := by
  have hln : l.length = n := by
    have := own.1
    rw [flatMap_len pairE_len2] at this
    omega
  have hlnH := Lib.hid hln
  have ownH := Lib.hid own
  clear own hln
  go_enter Try.func66, Try.ntmps66
  go_wp2_with fail
  go_loopw [2, 3] (fun vi vj wr => ∃ (i : Nat) (L : List It), vi = .int .i64 i ∧ vj = .int .i64 ((n : Int) - 1 - i) ∧ i ≤ n ∧ Hid (RevTo l L i) ∧ Hid (wr.ownsRow base 59 2 (.slice A n c) n (L.flatMap pairE)) ∧ Hid (Below base w wr)) (fun vi _ _ => n - (intOf vi).toNat)
  case atStart => exact ⟨0, l, rfl, by simp, Nat.zero_le _, RevTo.start l, ownH, Below.refl _ _⟩
  case round =>
    obtain ⟨i, L, rfl, rfl, hin, hRv, hown, hb⟩ := hrel
    by_cases hlt : (i : Int) < (n : Int) - 1 - i
    · obtain ⟨j, hj⟩ : ∃ j : Nat, (n : Int) - 1 - i = (j : Int) := ⟨n - 1 - i, by omega⟩
      rw [hj] at hlt ⊢
      have hLl : L.length = n := by rw [hRv.out.1]; exact hlnH.out
      have hi2 : i < L.length := by omega
      have hj2 : j < L.length := by omega
      obtain ⟨x1, x2, hx⟩ : ∃ x1 x2, L[i]? = some (x1, x2) := ⟨_, _, List.getElem?_eq_getElem hi2⟩
      obtain ⟨y1, y2, hy⟩ : ∃ y1 y2, L[j]? = some (y1, y2) := ⟨_, _, List.getElem?_eq_getElem hj2⟩
      obtain ⟨g, rfl⟩ : ∃ g, A = some ⟨g, 0, none⟩ := by
        rcases hown.out.2 with ⟨h1, h2⟩ | ⟨g, cap, cur, h1, _⟩
        · omega
        · simp only [Value.slice.injEq] at h1
          exact ⟨g, h1.1⟩
      have ownh : Hid (wr.ownsRow base 59 2 (.slice (some ⟨g, 0, none⟩) n c) n (L.flatMap pairE)) := hown
      have hRv2 : Hid (RevTo l (swp L i j (x1, x2) (y1, y2)) (i + 1)) := hRv.out.step (by omega) (by have := hlnH.out; omega) hx hy
      have hiI : (i : Int) < (n : Int) := by omega
      have hjI : (j : Int) < (n : Int) := by omega
      have hgb : base ≤ g := (hown.out.lt g (by simp [Value.ownBlock])).1
      have hbl : base ≤ wr.heap.size := by
        have := (hown.out.lt g (by simp [Value.ownBlock])).2
        omega
      have hjH := Lib.hid hj
      clear hRv hown hLl hj
      go_wp2_with fail
      go_upto_region 3 with fail
      refine wp_region_ghost (fun fl x w => GSw 59 wr base g c n L i j (x1, x2) (y1, y2) (fl 7) (fl 11) (fl 13) (fl 15) w) (by kernel_rfl) (by kernel_rfl) (by kernel_rfl) (by kernel_rfl) (by kernel_rfl) ?_ ?_
      · intro x0
        exact GSw.start rfl rfl ownh.out
      intro base O hbase hO
      have kx0 : Hid (∀ xs, evX base O xs (.tmp 0) = .slice (some ⟨g, 0, none⟩) n c) := fun xs => by rw [hbase, hO]; rfl
      have kx2 : Hid (∀ xs, evX base O xs (.tmp 2) = .int .i64 (i : Int)) := fun xs => by rw [hbase, hO]; rfl
      have kx3 : Hid (∀ xs, evX base O xs (.tmp 3) = .int .i64 (j : Int)) := fun xs => by rw [hbase, hO]; rfl
      have kx14 : Hid (∀ xs, evX base O xs (.tmp 14) = xs 0) := fun xs => by rw [hO]; rfl
      have kx15 : Hid (∀ xs, evX base O xs (.tmp 15) = xs 1) := fun xs => by rw [hO]; rfl
      have kx16 : Hid (∀ xs, evX base O xs (.tmp 16) = xs 2) := fun xs => by rw [hO]; rfl
      have kx17 : Hid (∀ xs, evX base O xs (.tmp 17) = xs 3) := fun xs => by rw [hO]; rfl
      have kx18 : Hid (∀ xs, evX base O xs (.tmp 18) = xs 4) := fun xs => by rw [hO]; rfl
      have kx19 : Hid (∀ xs, evX base O xs (.tmp 19) = xs 5) := fun xs => by rw [hO]; rfl
      have kx20 : Hid (∀ xs, evX base O xs (.tmp 20) = xs 6) := fun xs => by rw [hO]; rfl
      have kx21 : Hid (∀ xs, evX base O xs (.tmp 21) = xs 7) := fun xs => by rw [hO]; rfl
      have kx22 : Hid (∀ xs, evX base O xs (.tmp 22) = xs 8) := fun xs => by rw [hO]; rfl
      have kx23 : Hid (∀ xs, evX base O xs (.tmp 23) = xs 9) := fun xs => by rw [hO]; rfl
      have kx24 : Hid (∀ xs, evX base O xs (.tmp 24) = xs 10) := fun xs => by rw [hO]; rfl
      have kx25 : Hid (∀ xs, evX base O xs (.tmp 25) = xs 11) := fun xs => by rw [hO]; rfl
      have kx26 : Hid (∀ xs, evX base O xs (.tmp 26) = xs 12) := fun xs => by rw [hO]; rfl
      have kx27 : Hid (∀ xs, evX base O xs (.tmp 27) = xs 14) := fun xs => by rw [hO]; rfl
      clear hbase hO
      apply gh_det (n := 0)
      · intro fl xs w ev hG hD hl hdone hev K hK
        have e0 := (hev (.tmp 0)).trans (kx0.out xs)
        rw [if_pos (wantedX_none rfl)]
        have ef : ∀ f, ev (.func f) = .func (.func f) #[] #[] := fun f => (hev _).trans rfl
        clear hev hD
        go_simp
        exact hK _ _ rfl hG
      apply gh_det (n := 1)
      · intro fl xs w ev hG hD hl hdone hev K hK
        have e2 := (hev (.tmp 2)).trans (kx2.out xs)
        rw [if_pos (wantedX_none rfl)]
        have ef : ∀ f, ev (.func f) = .func (.func f) #[] #[] := fun f => (hev _).trans rfl
        clear hev hD
        go_simp
        exact hK _ _ rfl hG
      apply gh_det (n := 2)
      · intro fl xs w ev hG hD hl hdone hev K hK
        have e0 := (hev (.tmp 0)).trans (kx0.out xs)
        rw [if_pos (wantedX_none rfl)]
        have ef : ∀ f, ev (.func f) = .func (.func f) #[] #[] := fun f => (hev _).trans rfl
        clear hev hD
        go_simp
        exact hK _ _ rfl hG
      apply gh_det (n := 3)
      · intro fl xs w ev hG hD hl hdone hev K hK
        have e3 := (hev (.tmp 3)).trans (kx3.out xs)
        rw [if_pos (wantedX_none rfl)]
        have ef : ∀ f, ev (.func f) = .func (.func f) #[] #[] := fun f => (hev _).trans rfl
        clear hev hD
        go_simp
        exact hK _ _ rfl hG
      apply gh_det (n := 4)
      · intro fl xs w ev hG hD hl hdone hev K hK
        have e0 := (hev (.tmp 0)).trans (kx0.out xs)
        rw [if_pos (wantedX_none rfl)]
        have ef : ∀ f, ev (.func f) = .func (.func f) #[] #[] := fun f => (hev _).trans rfl
        clear hev hD
        go_simp
        exact hK _ _ rfl hG
      apply gh_det (n := 5)
      · intro fl xs w ev hG hD hl hdone hev K hK
        have e3 := (hev (.tmp 3)).trans (kx3.out xs)
        rw [if_pos (wantedX_none rfl)]
        have ef : ∀ f, ev (.func f) = .func (.func f) #[] #[] := fun f => (hev _).trans rfl
        clear hev hD
        go_simp
        exact hK _ _ rfl hG
      apply gh_det (n := 6)
      · intro fl xs w ev hG hD hl hdone hev K hK
        have e18 := (hev (.tmp 18)).trans (kx18.out xs)
        have d4 := hD.at_ 4 rfl rfl
        replace e18 := e18.trans d4
        have e19 := (hev (.tmp 19)).trans (kx19.out xs)
        have d5 := hD.at_ 5 rfl rfl
        replace e19 := e19.trans d5
        rw [if_pos (wantedX_none rfl)]
        have ef : ∀ f, ev (.func f) = .func (.func f) #[] #[] := fun f => (hev _).trans rfl
        clear hev hD
        go_simp
        exact hK _ _ rfl hG
      apply gh_det (n := 7)
      · intro fl xs w ev hG hD hl hdone hev K hK
        have e20 := (hev (.tmp 20)).trans (kx20.out xs)
        have d6 := hD.at_ 6 rfl rfl
        replace e20 := e20.trans d6
        rw [if_pos (wantedX_none rfl)]
        have ef : ∀ f, ev (.func f) = .func (.func f) #[] #[] := fun f => (hev _).trans rfl
        clear hev hD
        obtain ⟨q1, q2⟩ := hG.get (hG.notJ hl) hy
        go_simp
        exact hK _ _ rfl hG.rJ
      apply gh_det (n := 8)
      · intro fl xs w ev hG hD hl hdone hev K hK
        have e0 := (hev (.tmp 0)).trans (kx0.out xs)
        rw [if_pos (wantedX_none rfl)]
        have ef : ∀ f, ev (.func f) = .func (.func f) #[] #[] := fun f => (hev _).trans rfl
        clear hev hD
        go_simp
        exact hK _ _ rfl hG
      apply gh_det (n := 9)
      · intro fl xs w ev hG hD hl hdone hev K hK
        have e2 := (hev (.tmp 2)).trans (kx2.out xs)
        rw [if_pos (wantedX_none rfl)]
        have ef : ∀ f, ev (.func f) = .func (.func f) #[] #[] := fun f => (hev _).trans rfl
        clear hev hD
        go_simp
        exact hK _ _ rfl hG
      apply gh_det (n := 10)
      · intro fl xs w ev hG hD hl hdone hev K hK
        have e22 := (hev (.tmp 22)).trans (kx22.out xs)
        have d8 := hD.at_ 8 rfl rfl
        replace e22 := e22.trans d8
        have e23 := (hev (.tmp 23)).trans (kx23.out xs)
        have d9 := hD.at_ 9 rfl rfl
        replace e23 := e23.trans d9
        rw [if_pos (wantedX_none rfl)]
        have ef : ∀ f, ev (.func f) = .func (.func f) #[] #[] := fun f => (hev _).trans rfl
        clear hev hD
        go_simp
        exact hK _ _ rfl hG
      apply gh_det (n := 11)
      · intro fl xs w ev hG hD hl hdone hev K hK
        have e24 := (hev (.tmp 24)).trans (kx24.out xs)
        have d10 := hD.at_ 10 rfl rfl
        replace e24 := e24.trans d10
        rw [if_pos (wantedX_none rfl)]
        have ef : ∀ f, ev (.func f) = .func (.func f) #[] #[] := fun f => (hev _).trans rfl
        clear hev hD
        obtain ⟨q1, q2⟩ := hG.get (hG.notI hl) hx
        go_simp
        exact hK _ _ rfl hG.rI
      apply gh_det (n := 12)
      · intro fl xs w ev hG hD hl hdone hev K hK
        have e14 := (hev (.tmp 14)).trans (kx14.out xs)
        have d0 := hD.at_ 0 rfl rfl
        replace e14 := e14.trans d0
        have e15 := (hev (.tmp 15)).trans (kx15.out xs)
        have d1 := hD.at_ 1 rfl rfl
        replace e15 := e15.trans d1
        rw [if_pos (wantedX_none rfl)]
        have ef : ∀ f, ev (.func f) = .func (.func f) #[] #[] := fun f => (hev _).trans rfl
        clear hev hD
        go_simp
        exact hK _ _ rfl hG
      refine gh_any (n := 13) (fun _ => True) ?_ ?_
      · intro fl xs w ev hG hD hl hdone hev K hK
        have e26 := (hev (.tmp 26)).trans (kx26.out xs)
        have d12 := hD.at_ 12 rfl rfl
        replace e26 := e26.trans d12
        have e21 := (hev (.tmp 21)).trans (kx21.out xs)
        have d7 := hD.at_ 7 rfl rfl
        replace e21 := e21.trans d7
        rw [if_pos (wantedX_none rfl)]
        have ef : ∀ f, ev (.func f) = .func (.func f) #[] #[] := fun f => (hev _).trans rfl
        clear hev hD
        obtain ⟨q1, q2⟩ := hG.get hl hx
        have f1 := (hG.o0 hl).frozenAt (i * 2)
        have f2 := (hG.o0 hl).frozenAt (i * 2 + 1)
        have hgo := hG.st1 hi2 hl (done_of hdone 7 rfl) (done_of hdone 11 rfl)
        go_simp
        exact hK _ _ trivial hgo
      apply gh_det (n := 14)
      · intro fl xs w ev hG hD hl hdone hev K hK
        have e16 := (hev (.tmp 16)).trans (kx16.out xs)
        have d2 := hD.at_ 2 rfl rfl
        replace e16 := e16.trans d2
        have e17 := (hev (.tmp 17)).trans (kx17.out xs)
        have d3 := hD.at_ 3 rfl rfl
        replace e17 := e17.trans d3
        rw [if_pos (wantedX_none rfl)]
        have ef : ∀ f, ev (.func f) = .func (.func f) #[] #[] := fun f => (hev _).trans rfl
        clear hev hD
        go_simp
        exact hK _ _ rfl hG
      refine gh_any (n := 15) (fun _ => True) ?_ ?_
      · intro fl xs w ev hG hD hl hdone hev K hK
        have e27 := (hev (.tmp 27)).trans (kx27.out xs)
        have d14 := hD.at_ 14 rfl rfl
        replace e27 := e27.trans d14
        have e25 := (hev (.tmp 25)).trans (kx25.out xs)
        have d11 := hD.at_ 11 rfl rfl
        replace e25 := e25.trans d11
        rw [if_pos (wantedX_none rfl)]
        have ef : ∀ f, ev (.func f) = .func (.func f) #[] #[] := fun f => (hev _).trans rfl
        clear hev hD
        have h25 := done_of hdone 13 rfl
        obtain ⟨a1, a2, q1, q2⟩ := hG.get2 h25 hl hj2
        have f1 := (hG.o1 h25 hl).frozenAt (j * 2)
        have f2 := (hG.o1 h25 hl).frozenAt (j * 2 + 1)
        have hgo := hG.st2 hj2 h25 hl
        go_simp
        exact hK _ _ trivial hgo
      clear kx0 kx2 kx3 kx14 kx15 kx16 kx17 kx18 kx19 kx20 kx21 kx22 kx23 kx24 kx25 kx26 kx27
      intro xs w9 hG hI
      clear hI
      simp only [List.append_eq, List.cons_append, List.nil_append, setAll, List.setIfInBounds_toArray, List.set_cons_zero, List.set_cons_succ]
      have q1 := Lib.hid (hG.o2 rfl)
      have q2 := Lib.hid (hb.out.trans (hG.but.below hbl (by simpa using hgb)))
      clear hG
      go_wp2_with fail
      go_roundw
      case rel => exact ⟨i + 1, _, by go_num, by have := hjH.out; simp; omega, by omega, hRv2, q1, q2⟩
      case measure => simp [intOf]; omega
    · have hfin : Hid (L = l.reverse) := hRv.out.done (by have := hlnH.out; omega)
      have hd : decide ((i : Int) < (n : Int) - 1 - i) = false := decide_eq_false hlt
      go_wp2_with fail
      go_end0
      exact ⟨rfl, by rw [← hfin.out]; exact hown.out, hb.out⟩
end Go.Proofs.Ytonkkibnigdfbaa
