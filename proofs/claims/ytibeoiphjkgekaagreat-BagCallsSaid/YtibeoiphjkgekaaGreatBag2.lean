/-
  Walks: triple.may, beats, compare.
-/
import Derived.Test.YtibeoiphjkgekaaGreatBag1
import Derived.Test.YtibeoiphjkgekaaGreatBox
namespace Go.Proofs.YtibeoiphjkgekaaGreat
open Go.RowKit B K
set_option linter.unusedVariables false
set_option linter.unusedSimpArgs false
set_option maxHeartbeats 1000000
theorem may3_any (a b c : Int) (w : World) : Calls Tryz.prog 55 #[.agg #[.int .i64 a, .int .i64 b, .int .i64 c]] w fun e w' => e = .returned (.bool (may3 (a, b, c))) ∧ Below w.heap.size w w' := by
  go_enter Tryz.func55, Tryz.ntmps55
  rcases T.chk_cases a with h | h
  · have h1 := T.chk_zero h
    by_cases hab : a ≤ b
    · have hm : Hid (K.may3 (a, b, c) = K.may2 (b, c)) := by show _ = _; unfold K.may3; rw [decide_eq_true ⟨h1.1, h1.2, hab⟩]; rfl
      go_wp2_with (first | (go_at_call 73; refine (tcheck_any _ _).mono ?_; rintro e w' ⟨rfl, rfl⟩) | (go_at_call 64; refine (pair3_any _ _ _ _).mono ?_; rintro e w1 ⟨rfl, hg⟩) | (go_at_call 47; refine (may2_any b c _).mono ?_; rintro e w2 ⟨rfl, hb⟩))
      go_returns
      exact ⟨ret_bool hm.out.symm, ((Below.refl _ w).alloc (Nat.le_refl _) _).trans ((hg.below.trans (hb.mono hg.below.size)).mono (by simp))⟩
    · have hd : decide (a ≤ b) = false := decide_eq_false hab
      go_wp2_with (go_at_call 73; refine (tcheck_any _ _).mono ?_; rintro e w' ⟨rfl, rfl⟩)
      go_returns
      exact ⟨ret_bool (by unfold K.may3; rw [decide_eq_false (by show ¬ (0 ≤ a ∧ a ≤ _ ∧ a ≤ b); omega)]; rfl), (Below.refl _ _).alloc (Nat.le_refl _) _⟩
  · go_wp2_with (go_at_call 73; refine (tcheck_any _ _).mono ?_; rintro e w' ⟨rfl, rfl⟩)
    go_returns
    exact ⟨ret_bool (by
      unfold K.may3
      rw [decide_eq_false (by
        intro hh
        rw [T.chk_ok ⟨hh.1, hh.2.1⟩] at h; cases h)]
      rfl), (Below.refl _ _).alloc (Nat.le_refl _) _⟩
theorem beats3_any (a b c d f g : Int) (w : World) : Calls Tryz.prog 56 #[.agg #[.int .i64 a, .int .i64 b, .int .i64 c], .agg #[.int .i64 d, .int .i64 f, .int .i64 g]] w fun e w' => e = .returned (.bool (beats3 (a, b, c) (d, f, g))) ∧ Below w.heap.size w w' := by
  have hb : Hid (∀ w : World, Below w.heap.size w ((w.alloc (.cells #[.int .i64 a, .int .i64 b, .int .i64 c] 66)).alloc (.cells #[.int .i64 d, .int .i64 f, .int .i64 g] 66))) := fun w => ((Below.refl _ _).alloc (Nat.le_refl _) _).alloc (by simp) _
  by_cases h1 : d ≤ a
  · by_cases h2 : b ≤ f
    · by_cases h3 : c ≤ g
      · by_cases h4 : a = d ∧ b = f ∧ c = g
        · obtain ⟨rfl, rfl, rfl⟩ := h4
          have hf : Hid (K.beats3 (a, b, c) (a, b, c) = false) := ords3.irr _
          go_enter Tryz.func56, Tryz.ntmps56
          go_wp2
          go_returns
          exact ⟨ret_bool hf.out.symm, hb.out w⟩
        · have ht : Hid (K.beats3 (a, b, c) (d, f, g) = true) := beats3_iff.2 ⟨h1, h2, h3, by show a ≠ d ∨ b ≠ f ∨ c ≠ g; omega⟩
          by_cases e1 : a = d
          · subst e1
            by_cases e2 : b = f
            · subst e2
              have hn : (c == g) = false := by simp; omega
              go_enter Tryz.func56, Tryz.ntmps56
              go_wp2
              go_returns
              exact ⟨ret_bool ht.out.symm, hb.out w⟩
            · have hn : (b == f) = false := by simp [e2]
              go_enter Tryz.func56, Tryz.ntmps56
              go_wp2
              go_returns
              exact ⟨ret_bool ht.out.symm, hb.out w⟩
          · have hn : (a == d) = false := by simp [e1]
            go_enter Tryz.func56, Tryz.ntmps56
            go_wp2
            go_returns
            exact ⟨ret_bool ht.out.symm, hb.out w⟩
      · have hf : Hid (K.beats3 (a, b, c) (d, f, g) = false) := bfalse beats3_iff (by show ¬ (d ≤ a ∧ b ≤ f ∧ c ≤ g ∧ _); omega)
        have hd : decide (c ≤ g) = false := decide_eq_false h3
        go_enter Tryz.func56, Tryz.ntmps56
        go_wp2
        go_returns
        exact ⟨ret_bool hf.out.symm, hb.out w⟩
    · have hf : Hid (K.beats3 (a, b, c) (d, f, g) = false) := bfalse beats3_iff (by show ¬ (d ≤ a ∧ b ≤ f ∧ c ≤ g ∧ _); omega)
      have hd : decide (b ≤ f) = false := decide_eq_false h2
      go_enter Tryz.func56, Tryz.ntmps56
      go_wp2
      go_returns
      exact ⟨ret_bool hf.out.symm, hb.out w⟩
  · have hf : Hid (K.beats3 (a, b, c) (d, f, g) = false) := bfalse beats3_iff (by show ¬ (d ≤ a ∧ b ≤ f ∧ c ≤ g ∧ _); omega)
    have hd : decide (d ≤ a) = false := decide_eq_false h1
    go_enter Tryz.func56, Tryz.ntmps56
    go_wp2
    go_returns
    exact ⟨ret_bool hf.out.symm, hb.out w⟩
set_option maxRecDepth 100000 in
theorem compare3_any (a b c d f g : Int) (w : World) : Calls Tryz.prog 57 #[.agg #[.int .i64 a, .int .i64 b, .int .i64 c], .agg #[.int .i64 d, .int .i64 f, .int .i64 g]] w fun e w' => e = .returned (.int .i64 (cmp3 (a, b, c) (d, f, g))) ∧ Grew w w' := by
  have bx1 := (Bx3.new w 66 a b c).below ((Below.refl _ _).alloc (Nat.le_refl _) (.cells #[.int .i64 d, .int .i64 f, .int .i64 g] 66))
  have bx2 := Bx3.new (w.alloc (.cells #[.int .i64 a, .int .i64 b, .int .i64 c] 66)) 66 d f g
  have hs : (w.alloc (.cells #[.int .i64 a, .int .i64 b, .int .i64 c] 66)).heap.size = w.heap.size + 1 := by simp
  rw [hs] at bx2
  clear hs
  go_enter Tryz.func57, Tryz.ntmps57
  go_wp2_with fail
  refine wp_region_inv3R relGrew (by kernel_rfl) (by kernel_rfl) (by kernel_rfl) (by kernel_rfl) (by kernel_rfl) ?_
  intro base O hbase hO
  have kx2 : Hid (∀ xs, evX base O xs (.tmp 2) = .pointer (some ⟨w.heap.size, 0, none⟩)) := fun xs => by rw [hbase, hO]; rfl
  have kx3 : Hid (∀ xs, evX base O xs (.tmp 3) = .pointer (some ⟨w.heap.size + 1, 0, none⟩)) := fun xs => by rw [hbase, hO]; rfl
  have kx5 : Hid (∀ xs, evX base O xs (.tmp 5) = xs 0) := fun xs => by rw [hO]; rfl
  have kx6 : Hid (∀ xs, evX base O xs (.tmp 6) = xs 1) := fun xs => by rw [hO]; rfl
  have kx7 : Hid (∀ xs, evX base O xs (.tmp 7) = xs 2) := fun xs => by rw [hO]; rfl
  have kx8 : Hid (∀ xs, evX base O xs (.tmp 8) = xs 3) := fun xs => by rw [hO]; rfl
  have kx9 : Hid (∀ xs, evX base O xs (.tmp 9) = xs 4) := fun xs => by rw [hO]; rfl
  have kx10 : Hid (∀ xs, evX base O xs (.tmp 10) = xs 5) := fun xs => by rw [hO]; rfl
  have kx11 : Hid (∀ xs, evX base O xs (.tmp 11) = xs 6) := fun xs => by rw [hO]; rfl
  have kx12 : Hid (∀ xs, evX base O xs (.tmp 12) = xs 7) := fun xs => by rw [hO]; rfl
  have kx13 : Hid (∀ xs, evX base O xs (.tmp 13) = xs 8) := fun xs => by rw [hO]; rfl
  have kx14 : Hid (∀ xs, evX base O xs (.tmp 14) = xs 9) := fun xs => by rw [hO]; rfl
  have kx15 : Hid (∀ xs, evX base O xs (.tmp 15) = xs 10) := fun xs => by rw [hO]; rfl
  have kx16 : Hid (∀ xs, evX base O xs (.tmp 16) = xs 11) := fun xs => by rw [hO]; rfl
  clear hbase hO
  apply ok_det (n := 0)
  · intro xs w ev hb hD hev K hK
    have e2 := (hev (.tmp 2)).trans (kx2.out xs)
    rw [if_pos (wantedX_none rfl)]
    have ef : ∀ f, ev (.func f) = .func (.func f) #[] #[] := fun f => (hev _).trans rfl
    clear hev hD
    go_simp
    exact hK _ _ (Grew.refl _) rfl
  apply ok_det (n := 1)
  · intro xs w ev hb hD hev K hK
    have d0 := hD.at_ 0 rfl rfl
    have e5 := ((hev (.tmp 5)).trans (kx5.out xs)).trans d0
    rw [if_pos (wantedX_none rfl)]
    have ef : ∀ f, ev (.func f) = .func (.func f) #[] #[] := fun f => (hev _).trans rfl
    clear hev hD
    have m0 := (bx1.below hb.below).c0
    have m1 := (bx1.below hb.below).c1
    have m2 := (bx1.below hb.below).c2
    go_simp
    exact hK _ _ (Grew.refl _) rfl
  apply ok_det (n := 2)
  · intro xs w ev hb hD hev K hK
    have e3 := (hev (.tmp 3)).trans (kx3.out xs)
    rw [if_pos (wantedX_none rfl)]
    have ef : ∀ f, ev (.func f) = .func (.func f) #[] #[] := fun f => (hev _).trans rfl
    clear hev hD
    go_simp
    exact hK _ _ (Grew.refl _) rfl
  apply ok_det (n := 3)
  · intro xs w ev hb hD hev K hK
    have d2 := hD.at_ 2 rfl rfl
    have e7 := ((hev (.tmp 7)).trans (kx7.out xs)).trans d2
    rw [if_pos (wantedX_none rfl)]
    have ef : ∀ f, ev (.func f) = .func (.func f) #[] #[] := fun f => (hev _).trans rfl
    clear hev hD
    have m0 := (bx2.below hb.below).c0
    have m1 := (bx2.below hb.below).c1
    have m2 := (bx2.below hb.below).c2
    go_simp
    exact hK _ _ (Grew.refl _) rfl
  apply ok_det (n := 4)
  · intro xs w ev hb hD hev K hK
    have d1 := hD.at_ 1 rfl rfl
    have e6 := ((hev (.tmp 6)).trans (kx6.out xs)).trans d1
    have d3 := hD.at_ 3 rfl rfl
    have e8 := ((hev (.tmp 8)).trans (kx8.out xs)).trans d3
    rw [if_pos (wantedX_none rfl)]
    have ef : ∀ f, ev (.func f) = .func (.func f) #[] #[] := fun f => (hev _).trans rfl
    clear hev hD
    go_simp
    refine (cmpL_any a d _).mono ?_; rintro e w' ⟨rfl, rfl⟩
    exact ⟨_, rfl, hK _ _ (Grew.refl _) rfl⟩
  apply ok_det (n := 5)
  · intro xs w ev hb hD hev K hK
    have e2 := (hev (.tmp 2)).trans (kx2.out xs)
    rw [if_pos (wantedX_none rfl)]
    have ef : ∀ f, ev (.func f) = .func (.func f) #[] #[] := fun f => (hev _).trans rfl
    clear hev hD
    have m0 := (bx1.below hb.below).c0
    have m1 := (bx1.below hb.below).c1
    have m2 := (bx1.below hb.below).c2
    go_simp
    exact hK _ _ (Grew.refl _) rfl
  apply ok_det (n := 6)
  · intro xs w ev hb hD hev K hK
    have d5 := hD.at_ 5 rfl rfl
    have e10 := ((hev (.tmp 10)).trans (kx10.out xs)).trans d5
    rw [if_pos (wantedX_none rfl)]
    have ef : ∀ f, ev (.func f) = .func (.func f) #[] #[] := fun f => (hev _).trans rfl
    clear hev hD
    go_simp
    refine (pair3_any a b c _).mono ?_; rintro e w' ⟨rfl, h⟩
    exact ⟨_, rfl, hK _ _ h rfl⟩
  apply ok_det (n := 7)
  · intro xs w ev hb hD hev K hK
    have e3 := (hev (.tmp 3)).trans (kx3.out xs)
    rw [if_pos (wantedX_none rfl)]
    have ef : ∀ f, ev (.func f) = .func (.func f) #[] #[] := fun f => (hev _).trans rfl
    clear hev hD
    have m0 := (bx2.below hb.below).c0
    have m1 := (bx2.below hb.below).c1
    have m2 := (bx2.below hb.below).c2
    go_simp
    exact hK _ _ (Grew.refl _) rfl
  apply ok_det (n := 8)
  · intro xs w ev hb hD hev K hK
    have d7 := hD.at_ 7 rfl rfl
    have e12 := ((hev (.tmp 12)).trans (kx12.out xs)).trans d7
    rw [if_pos (wantedX_none rfl)]
    have ef : ∀ f, ev (.func f) = .func (.func f) #[] #[] := fun f => (hev _).trans rfl
    clear hev hD
    go_simp
    refine (pair3_any d f g _).mono ?_; rintro e w' ⟨rfl, h⟩
    exact ⟨_, rfl, hK _ _ h rfl⟩
  apply ok_det (n := 9)
  · intro xs w ev hb hD hev K hK
    have d6 := hD.at_ 6 rfl rfl
    have e11 := ((hev (.tmp 11)).trans (kx11.out xs)).trans d6
    have d8 := hD.at_ 8 rfl rfl
    have e13 := ((hev (.tmp 13)).trans (kx13.out xs)).trans d8
    rw [if_pos (wantedX_none rfl)]
    have ef : ∀ f, ev (.func f) = .func (.func f) #[] #[] := fun f => (hev _).trans rfl
    clear hev hD
    go_simp
    refine (compare2_any b c f g _).mono ?_; rintro e w' ⟨rfl, h⟩
    exact ⟨_, rfl, hK _ _ h rfl⟩
  refine ok_any (n := 10) (fun v w => ∃ k, v = .slice (some ⟨k, 0, none⟩) 2 2 ∧ Bx2 w k (K.cmpI a d) (K.cmp2 (b, c) (f, g))) (fun _ _ _ hb ⟨k, h1, h2⟩ => ⟨k, h1, h2.below hb.below⟩) ?_ ?_
  · intro xs w ev hb hD hev K hK
    have d4 := hD.at_ 4 rfl rfl
    have e9 := ((hev (.tmp 9)).trans (kx9.out xs)).trans d4
    have d9 := hD.at_ 9 rfl rfl
    have e14 := ((hev (.tmp 14)).trans (kx14.out xs)).trans d9
    rw [if_pos (wantedX_none rfl)]
    have ef : ∀ f, ev (.func f) = .func (.func f) #[] #[] := fun f => (hev _).trans rfl
    clear hev hD
    go_simp
    exact hK _ _ ((Grew.refl _).alloc _) ⟨_, rfl, Bx2.new w 3 _ _⟩
  apply ok_det (n := 11)
  · intro xs w ev hb hD hev K hK
    have d10 := hD.at_ 10 rfl rfl
    have e15 := (hev (.tmp 15)).trans (kx15.out xs)
    rw [if_pos (wantedX_none rfl)]
    have ef : ∀ f, ev (.func f) = .func (.func f) #[] #[] := fun f => (hev _).trans rfl
    clear hev hD
    obtain ⟨k, d15, bx⟩ := d10
    rw [d15] at e15
    go_simp
    refine (or_any _ _ k _ bx.c0 bx.c1).mono ?_; rintro e w' ⟨rfl, rfl⟩
    exact ⟨_, rfl, hK _ _ (Grew.refl _) rfl⟩
  apply ok_det (n := 12)
  · intro xs w ev hb hD hev K hK
    have d11 := hD.at_ 11 rfl rfl
    have e16 := ((hev (.tmp 16)).trans (kx16.out xs)).trans d11
    rw [if_pos (wantedX_none rfl)]
    have ef : ∀ f, ev (.func f) = .func (.func f) #[] #[] := fun f => (hev _).trans rfl
    clear hev hD
    go_simp
    exact hK _ _ (Grew.refl _) rfl
  intro xs w' hb hI
  have hz := hI 12 _ rfl
  clear hI
  simp only [List.append_eq, List.cons_append, List.nil_append, setAll, List.setIfInBounds_toArray, List.set_cons_zero, List.set_cons_succ]
  rw [hz]
  clear hz
  go_wp2_with fail
  go_returns
  exact ⟨rfl, (((Grew.refl w).alloc _).alloc _).trans hb⟩
end Go.Proofs.YtibeoiphjkgekaaGreat
