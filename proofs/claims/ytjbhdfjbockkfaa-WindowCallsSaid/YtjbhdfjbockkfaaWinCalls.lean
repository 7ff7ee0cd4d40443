/-
  Walk: timetablelaw08.WindowCalls answers true.
-/
import Derived.Test.YtjbhdfjbockkfaaWin5
import Derived.Test.YtjbhdfjbockkfaaWin7
import Derived.Test.YtjbhdfjbockkfaaRef3
import Derived.Test.YtjbhdfjbockkfaaRef4
import Derived.Test.YtjbhdfjbockkfaaRef5
import Derived.Test.YtjbhdfjbockkfaaRef8
import Derived.Test.YtjbhdfjbockkfaaQuiet
import Derived.Test.YtjbhdfjbockkfaaAnyOrder
namespace Go.Proofs.Ytjbhdfjbockkfaa
open Go.RowKit B Go.Shelf
set_option linter.unusedVariables false
set_option linter.unusedSimpArgs false
theorem winsM_len (f v n h : Int) : (winsM f v n h).1.length ≤ 256 := by
  unfold winsM
  split
  · simp
  · split
    · simp
    · split
      · simp
      · have := W.joinL_len (eachL f v n (W.count f v h).toNat)
        rw [eachL_len] at this
        simp only
        omega
theorem unionM_len (a b : W.Row) : (W.unionM a b).length ≤ a.length + b.length := by
  unfold W.unionM
  split
  · rename_i h
    rw [Bool.and_eq_true] at h
    have := W.joinL_len (W.mergeL a b)
    have h2 := (W.merge_facts _ a b 0 rfl (W.srt_of_good a (-1) (by omega) h.1) (W.srt_of_good b (-1) (by omega) h.2)).2.2.2
    omega
  · simp
set_option maxHeartbeats 2000000
set_option maxRecDepth 100000 in
theorem calls_any (f v n h : Int) (A : Option Addr) (n1 c1 : Nat) (l : W.Row) (A' : Option Addr) (n2 c2 : Nat) (l' : W.Row) (x m : Int) (w : World)
    (hr : Rd w 2 pairE A n1 l) (hc : n1 ≤ c1) (hm : c1 ≤ 9223372036854775807) (hr' : Rd w 2 pairE A' n2 l') (hc' : n2 ≤ c2) (hm' : c2 ≤ 9223372036854775807) :
    Calls Try.prog 7 #[.agg #[.int .i64 f, .int .i64 v, .int .i64 n], .int .i64 h, .slice A n1 c1, .slice A' n2 c2, .int .i64 x, .int .i64 m] w fun e w' => e = .returned (.bool true) ∧ Below w.heap.size w w' := by
  go_enter Try.func7, Try.ntmps7
  go_wp2_with fail
  refine (lives_any _).mono ?_; rintro e w1 ⟨rfl, hb1⟩
  have hbw : Below w.heap.size w w1 := ((Below.refl _ w).alloc (Nat.le_refl _) _).trans (hb1.mono (by simp))
  have hsz : w.heap.size < w1.heap.size := by have := hb1.size; simp at this; omega
  have k1 : w1.cell? ⟨w.heap.size, 0, none⟩ = some (.int .i64 f) := (hb1.cell (p := ⟨w.heap.size, 0, none⟩) (by simp)).trans (by simp [go_sem])
  have k2 : w1.cell? ⟨w.heap.size, 1, none⟩ = some (.int .i64 v) := (hb1.cell (p := ⟨w.heap.size, 1, none⟩) (by simp)).trans (by simp [go_sem])
  have k3 : w1.cell? ⟨w.heap.size, 2, none⟩ = some (.int .i64 n) := (hb1.cell (p := ⟨w.heap.size, 2, none⟩) (by simp)).trans (by simp [go_sem])
  have bx : Box3 w1 w.heap.size f v n := ⟨hsz, k1, k2, k3⟩
  clear k1 k2 k3
  by_cases hl1 : 300 < n1
  · go_wp2_with fail
    go_returns
    exact ⟨rfl, hbw⟩
  · by_cases hl2 : 300 < n2
    · have hd1 : decide ((300 : Int) < (n1 : Int)) = false := decide_eq_false (by omega)
      go_wp2_with fail
      go_returns
      exact ⟨rfl, hbw⟩
    · have hd1 : decide ((300 : Int) < (n1 : Int)) = false := decide_eq_false (by omega)
      have hd2 : decide ((300 : Int) < (n2 : Int)) = false := decide_eq_false (by omega)
      have hL1 := winsM_len f v n h
      have hL2 := unionM_len l l'
      rw [hr.len, hr'.len] at hL2
      obtain ⟨r, hrr⟩ : ∃ r, winsM f v n h = r := ⟨_, rfl⟩
      have hrr := Lib.hid hrr
      rename_i hrr0; clear hrr0
      obtain ⟨u, huu⟩ : ∃ u, W.unionM l l' = u := ⟨_, rfl⟩
      have huu := Lib.hid huu
      rename_i huu0; clear huu0
      rw [huu.out] at hL2
      rw [hrr.out] at hL1
      have hr := hr.below hbw
      have hr' := hr'.below hbw
      obtain ⟨b0, b1, b2⟩ := (⟨bx.c0, bx.c1, bx.c2⟩ : _ ∧ _ ∧ _)
      go_wp2_with fail
      refine (wins_any f v n h _).mono ?_; rintro e w2 ⟨A3, c3, rfl, r3, s3, t3, hb2⟩
      rw [hrr.out] at r3 s3 ⊢
      have bx := bx.below hb2 hsz
      have hr := hr.below hb2
      have hr' := hr'.below hb2
      have hbw := hbw.trans (hb2.mono hbw.size)
      have hsz := Nat.lt_of_lt_of_le hsz hb2.size
      clear b0 b1 b2
      obtain ⟨b0, b1, b2⟩ := (⟨bx.c0, bx.c1, bx.c2⟩ : _ ∧ _ ∧ _)
      go_wp2_with fail
      refine (rwins_any f v n h _).mono ?_; rintro e w3 ⟨A4, c4, rfl, r4, s4, t4, hb3⟩
      rw [hrr.out] at r4 s4 ⊢
      have bx := bx.below hb3 hsz
      have hr := hr.below hb3
      have hr' := hr'.below hb3
      have r3 := r3.below hb3
      have hbw := hbw.trans (hb3.mono hbw.size)
      have hsz := Nat.lt_of_lt_of_le hsz hb3.size
      clear b0 b1 b2
      obtain ⟨b0, b1, b2⟩ := (⟨bx.c0, bx.c1, bx.c2⟩ : _ ∧ _ ∧ _)
      go_wp2_with fail
      clear b0 b1 b2
      refine wp_region_inv3 (by kernel_rfl) (by kernel_rfl) (by kernel_rfl) (by kernel_rfl) (by kernel_rfl) ?_
      intro base O hbase hO
      have kx2 : Hid (∀ xs, evX base O xs (.tmp 2) = .slice A n1 c1) := fun xs => by rw [hbase, hO]; rfl
      have kx3 : Hid (∀ xs, evX base O xs (.tmp 3) = .slice A' n2 c2) := fun xs => by rw [hbase, hO]; rfl
      have kx4 : Hid (∀ xs, evX base O xs (.tmp 4) = .int .i64 x) := fun xs => by rw [hbase, hO]; rfl
      have kx5 : Hid (∀ xs, evX base O xs (.tmp 5) = .int .i64 m) := fun xs => by rw [hbase, hO]; rfl
      have kx6 : Hid (∀ xs, evX base O xs (.tmp 6) = .pointer (some ⟨w.heap.size, 0, none⟩)) := fun xs => by rw [hbase, hO]; rfl
      have kx13 : Hid (∀ xs, evX base O xs (.tmp 13) = .slice A3 r.1.length c3) := fun xs => by rw [hbase, hO]; rfl
      have kx14 : Hid (∀ xs, evX base O xs (.tmp 14) = .int .i64 r.2) := fun xs => by rw [hbase, hO]; rfl
      have kx15 : Hid (∀ xs, evX base O xs (.tmp 15) = .slice A4 r.1.length c4) := fun xs => by rw [hbase, hO]; rfl
      have kx16 : Hid (∀ xs, evX base O xs (.tmp 16) = .int .i64 r.2) := fun xs => by rw [hbase, hO]; rfl
      have kx39 : Hid (∀ xs, evX base O xs (.tmp 39) = xs 0) := fun xs => by rw [hO]; rfl
      have kx40 : Hid (∀ xs, evX base O xs (.tmp 40) = xs 1) := fun xs => by rw [hO]; rfl
      have kx41 : Hid (∀ xs, evX base O xs (.tmp 41) = xs 2) := fun xs => by rw [hO]; rfl
      have kx42 : Hid (∀ xs, evX base O xs (.tmp 42) = xs 3) := fun xs => by rw [hO]; rfl
      have kx43 : Hid (∀ xs, evX base O xs (.tmp 43) = xs 4) := fun xs => by rw [hO]; rfl
      have kx44 : Hid (∀ xs, evX base O xs (.tmp 44) = xs 5) := fun xs => by rw [hO]; rfl
      have kx45 : Hid (∀ xs, evX base O xs (.tmp 45) = xs 6) := fun xs => by rw [hO]; rfl
      have kx46 : Hid (∀ xs, evX base O xs (.tmp 46) = xs 7) := fun xs => by rw [hO]; rfl
      have kx47 : Hid (∀ xs, evX base O xs (.tmp 47) = xs 8) := fun xs => by rw [hO]; rfl
      have kx48 : Hid (∀ xs, evX base O xs (.tmp 48) = xs 9) := fun xs => by rw [hO]; rfl
      have kx49 : Hid (∀ xs, evX base O xs (.tmp 49) = xs 10) := fun xs => by rw [hO]; rfl
      have kx50 : Hid (∀ xs, evX base O xs (.tmp 50) = xs 11) := fun xs => by rw [hO]; rfl
      have kx51 : Hid (∀ xs, evX base O xs (.tmp 51) = xs 12) := fun xs => by rw [hO]; rfl
      have kx52 : Hid (∀ xs, evX base O xs (.tmp 52) = xs 13) := fun xs => by rw [hO]; rfl
      have kx53 : Hid (∀ xs, evX base O xs (.tmp 53) = xs 14) := fun xs => by rw [hO]; rfl
      have kx54 : Hid (∀ xs, evX base O xs (.tmp 54) = xs 15) := fun xs => by rw [hO]; rfl
      have kx55 : Hid (∀ xs, evX base O xs (.tmp 55) = xs 16) := fun xs => by rw [hO]; rfl
      have kx56 : Hid (∀ xs, evX base O xs (.tmp 56) = xs 17) := fun xs => by rw [hO]; rfl
      have kx57 : Hid (∀ xs, evX base O xs (.tmp 57) = xs 18) := fun xs => by rw [hO]; rfl
      have kx58 : Hid (∀ xs, evX base O xs (.tmp 58) = xs 19) := fun xs => by rw [hO]; rfl
      have kx59 : Hid (∀ xs, evX base O xs (.tmp 59) = xs 20) := fun xs => by rw [hO]; rfl
      have kx60 : Hid (∀ xs, evX base O xs (.tmp 60) = xs 21) := fun xs => by rw [hO]; rfl
      have kx61 : Hid (∀ xs, evX base O xs (.tmp 61) = xs 22) := fun xs => by rw [hO]; rfl
      have kx62 : Hid (∀ xs, evX base O xs (.tmp 62) = xs 23) := fun xs => by rw [hO]; rfl
      have kx63 : Hid (∀ xs, evX base O xs (.tmp 63) = xs 24) := fun xs => by rw [hO]; rfl
      have kx64 : Hid (∀ xs, evX base O xs (.tmp 64) = xs 25) := fun xs => by rw [hO]; rfl
      have kx65 : Hid (∀ xs, evX base O xs (.tmp 65) = xs 26) := fun xs => by rw [hO]; rfl
      have kx66 : Hid (∀ xs, evX base O xs (.tmp 66) = xs 27) := fun xs => by rw [hO]; rfl
      have kx67 : Hid (∀ xs, evX base O xs (.tmp 67) = xs 28) := fun xs => by rw [hO]; rfl
      have kx68 : Hid (∀ xs, evX base O xs (.tmp 68) = xs 29) := fun xs => by rw [hO]; rfl
      have kx69 : Hid (∀ xs, evX base O xs (.tmp 69) = xs 30) := fun xs => by rw [hO]; rfl
      have kx70 : Hid (∀ xs, evX base O xs (.tmp 70) = xs 31) := fun xs => by rw [hO]; rfl
      have kx71 : Hid (∀ xs, evX base O xs (.tmp 71) = xs 32) := fun xs => by rw [hO]; rfl
      have kx72 : Hid (∀ xs, evX base O xs (.tmp 72) = xs 33) := fun xs => by rw [hO]; rfl
      have kx73 : Hid (∀ xs, evX base O xs (.tmp 73) = xs 34) := fun xs => by rw [hO]; rfl
      have kx74 : Hid (∀ xs, evX base O xs (.tmp 74) = xs 35) := fun xs => by rw [hO]; rfl
      have kx75 : Hid (∀ xs, evX base O xs (.tmp 75) = xs 36) := fun xs => by rw [hO]; rfl
      have kx76 : Hid (∀ xs, evX base O xs (.tmp 76) = xs 37) := fun xs => by rw [hO]; rfl
      have kx77 : Hid (∀ xs, evX base O xs (.tmp 77) = xs 38) := fun xs => by rw [hO]; rfl
      have kx78 : Hid (∀ xs, evX base O xs (.tmp 78) = xs 39) := fun xs => by rw [hO]; rfl
      have kx79 : Hid (∀ xs, evX base O xs (.tmp 79) = xs 40) := fun xs => by rw [hO]; rfl
      have kx80 : Hid (∀ xs, evX base O xs (.tmp 80) = xs 41) := fun xs => by rw [hO]; rfl
      have kx81 : Hid (∀ xs, evX base O xs (.tmp 81) = xs 42) := fun xs => by rw [hO]; rfl
      have kx82 : Hid (∀ xs, evX base O xs (.tmp 82) = xs 43) := fun xs => by rw [hO]; rfl
      have kx83 : Hid (∀ xs, evX base O xs (.tmp 83) = xs 44) := fun xs => by rw [hO]; rfl
      have kx84 : Hid (∀ xs, evX base O xs (.tmp 84) = xs 45) := fun xs => by rw [hO]; rfl
      have kx85 : Hid (∀ xs, evX base O xs (.tmp 85) = xs 46) := fun xs => by rw [hO]; rfl
      have kx86 : Hid (∀ xs, evX base O xs (.tmp 86) = xs 47) := fun xs => by rw [hO]; rfl
      have kx87 : Hid (∀ xs, evX base O xs (.tmp 87) = xs 48) := fun xs => by rw [hO]; rfl
      have kx88 : Hid (∀ xs, evX base O xs (.tmp 88) = xs 49) := fun xs => by rw [hO]; rfl
      have kx89 : Hid (∀ xs, evX base O xs (.tmp 89) = xs 50) := fun xs => by rw [hO]; rfl
      have kx90 : Hid (∀ xs, evX base O xs (.tmp 90) = xs 51) := fun xs => by rw [hO]; rfl
      have kx91 : Hid (∀ xs, evX base O xs (.tmp 91) = xs 52) := fun xs => by rw [hO]; rfl
      have kx92 : Hid (∀ xs, evX base O xs (.tmp 92) = xs 53) := fun xs => by rw [hO]; rfl
      have kx93 : Hid (∀ xs, evX base O xs (.tmp 93) = xs 54) := fun xs => by rw [hO]; rfl
      have kx94 : Hid (∀ xs, evX base O xs (.tmp 94) = xs 55) := fun xs => by rw [hO]; rfl
      have kx95 : Hid (∀ xs, evX base O xs (.tmp 95) = xs 56) := fun xs => by rw [hO]; rfl
      have kx96 : Hid (∀ xs, evX base O xs (.tmp 96) = xs 57) := fun xs => by rw [hO]; rfl
      have kx97 : Hid (∀ xs, evX base O xs (.tmp 97) = xs 58) := fun xs => by rw [hO]; rfl
      have kx98 : Hid (∀ xs, evX base O xs (.tmp 98) = xs 59) := fun xs => by rw [hO]; rfl
      have kx99 : Hid (∀ xs, evX base O xs (.tmp 99) = xs 60) := fun xs => by rw [hO]; rfl
      have kx100 : Hid (∀ xs, evX base O xs (.tmp 100) = xs 61) := fun xs => by rw [hO]; rfl
      have kx101 : Hid (∀ xs, evX base O xs (.tmp 101) = xs 62) := fun xs => by rw [hO]; rfl
      have kx102 : Hid (∀ xs, evX base O xs (.tmp 102) = xs 63) := fun xs => by rw [hO]; rfl
      have kx103 : Hid (∀ xs, evX base O xs (.tmp 103) = xs 64) := fun xs => by rw [hO]; rfl
      have kx104 : Hid (∀ xs, evX base O xs (.tmp 104) = xs 65) := fun xs => by rw [hO]; rfl
      have kx105 : Hid (∀ xs, evX base O xs (.tmp 105) = xs 66) := fun xs => by rw [hO]; rfl
      have kx106 : Hid (∀ xs, evX base O xs (.tmp 106) = xs 67) := fun xs => by rw [hO]; rfl
      have kx107 : Hid (∀ xs, evX base O xs (.tmp 107) = xs 68) := fun xs => by rw [hO]; rfl
      have kx108 : Hid (∀ xs, evX base O xs (.tmp 108) = xs 69) := fun xs => by rw [hO]; rfl
      have kx109 : Hid (∀ xs, evX base O xs (.tmp 109) = xs 70) := fun xs => by rw [hO]; rfl
      have kx110 : Hid (∀ xs, evX base O xs (.tmp 110) = xs 71) := fun xs => by rw [hO]; rfl
      have kx111 : Hid (∀ xs, evX base O xs (.tmp 111) = xs 72) := fun xs => by rw [hO]; rfl
      have kx112 : Hid (∀ xs, evX base O xs (.tmp 112) = xs 73) := fun xs => by rw [hO]; rfl
      have kx113 : Hid (∀ xs, evX base O xs (.tmp 113) = xs 74) := fun xs => by rw [hO]; rfl
      have kx114 : Hid (∀ xs, evX base O xs (.tmp 114) = xs 75) := fun xs => by rw [hO]; rfl
      have kx115 : Hid (∀ xs, evX base O xs (.tmp 115) = xs 76) := fun xs => by rw [hO]; rfl
      clear hbase hO
      apply ok_det (n := 0)
      · intro xs w ev hb hD hev K hK
        have e6 := (hev (.tmp 6)).trans (kx6.out xs)
        rw [if_pos (wantedX_none rfl)]
        have ef : ∀ f, ev (.func f) = .func (.func f) #[] #[] := fun f => (hev _).trans rfl
        clear hev hD
        have m0 := (bx.below hb hsz).c0
        have m1 := (bx.below hb hsz).c1
        have m2 := (bx.below hb hsz).c2
        go_simp
        exact hK _ _ (Below.refl _ _) rfl
      apply ok_det (n := 1)
      · intro xs w ev hb hD hev K hK
        have d0 := hD.at_ 0 rfl rfl
        have e39 := ((hev (.tmp 39)).trans (kx39.out xs)).trans d0
        rw [if_pos (wantedX_none rfl)]
        have ef : ∀ f, ev (.func f) = .func (.func f) #[] #[] := fun f => (hev _).trans rfl
        clear hev hD
        go_simp
        refine (check_any f v n _).mono ?_; rintro e w' ⟨rfl, hb1⟩
        exact ⟨_, rfl, hK _ _ hb1 rfl⟩
      apply ok_det (n := 2)
      · intro xs w ev hb hD hev K hK
        have e6 := (hev (.tmp 6)).trans (kx6.out xs)
        rw [if_pos (wantedX_none rfl)]
        have ef : ∀ f, ev (.func f) = .func (.func f) #[] #[] := fun f => (hev _).trans rfl
        clear hev hD
        have m0 := (bx.below hb hsz).c0
        have m1 := (bx.below hb hsz).c1
        have m2 := (bx.below hb hsz).c2
        go_simp
        exact hK _ _ (Below.refl _ _) rfl
      apply ok_det (n := 3)
      · intro xs w ev hb hD hev K hK
        have d2 := hD.at_ 2 rfl rfl
        have e41 := ((hev (.tmp 41)).trans (kx41.out xs)).trans d2
        rw [if_pos (wantedX_none rfl)]
        have ef : ∀ f, ev (.func f) = .func (.func f) #[] #[] := fun f => (hev _).trans rfl
        clear hev hD
        go_simp
        refine (rcheckT_any f v n _).mono ?_; rintro e w' ⟨rfl, hb1⟩
        exact ⟨_, rfl, hK _ _ hb1 rfl⟩
      apply ok_det (n := 4)
      · intro xs w ev hb hD hev K hK
        have d1 := hD.at_ 1 rfl rfl
        have e40 := ((hev (.tmp 40)).trans (kx40.out xs)).trans d1
        have d3 := hD.at_ 3 rfl rfl
        have e42 := ((hev (.tmp 42)).trans (kx42.out xs)).trans d3
        rw [if_pos (wantedX_none rfl)]
        have ef : ∀ f, ev (.func f) = .func (.func f) #[] #[] := fun f => (hev _).trans rfl
        clear hev hD
        go_simp
        exact hK _ _ (Below.refl _ _) rfl
      apply ok_det (n := 5)
      · intro xs w ev hb hD hev K hK
        have d4 := hD.at_ 4 rfl rfl
        have e43 := ((hev (.tmp 43)).trans (kx43.out xs)).trans d4
        rw [if_pos (wantedX_none rfl)]
        have ef : ∀ f, ev (.func f) = .func (.func f) #[] #[] := fun f => (hev _).trans rfl
        clear hev hD
        go_simp
        exact hK _ _ (Below.refl _ _) rfl
      apply ok_det (n := 6)
      · intro xs w ev hb hD hev K hK
        have e13 := (hev (.tmp 13)).trans (kx13.out xs)
        have dg := hD.at_ 5 rfl rfl
        rw [if_pos (wantedX_yes 5 true rfl dg)]
        have ef : ∀ f, ev (.func f) = .func (.func f) #[] #[] := fun f => (hev _).trans rfl
        clear hev hD
        go_simp
        exact hK _ _ (Below.refl _ _) rfl
      apply ok_det (n := 7)
      · intro xs w ev hb hD hev K hK
        have e15 := (hev (.tmp 15)).trans (kx15.out xs)
        have dg := hD.at_ 5 rfl rfl
        rw [if_pos (wantedX_yes 5 true rfl dg)]
        have ef : ∀ f, ev (.func f) = .func (.func f) #[] #[] := fun f => (hev _).trans rfl
        clear hev hD
        go_simp
        exact hK _ _ (Below.refl _ _) rfl
      apply ok_det (n := 8)
      · intro xs w ev hb hD hev K hK
        have d6 := hD.at_ 6 rfl rfl
        have e45 := ((hev (.tmp 45)).trans (kx45.out xs)).trans d6
        have d7 := hD.at_ 7 rfl rfl
        have e46 := ((hev (.tmp 46)).trans (kx46.out xs)).trans d7
        have dg := hD.at_ 5 rfl rfl
        rw [if_pos (wantedX_yes 5 true rfl dg)]
        have ef : ∀ f, ev (.func f) = .func (.func f) #[] #[] := fun f => (hev _).trans rfl
        clear hev hD
        go_simp
        refine (same_any A3 r.1.length c3 r.1 A4 r.1.length c4 r.1 _ (r3.below hb) (r4.below hb) (by omega) (by omega)).mono ?_; rintro e w' ⟨he, hb1⟩
        exact ⟨.bool true, by rw [he]; simp, hK _ _ hb1 rfl⟩
      apply ok_det (n := 9)
      · intro xs w ev hb hD hev K hK
        have d5 := hD.at_ 5 rfl rfl
        have e44 := ((hev (.tmp 44)).trans (kx44.out xs)).trans d5
        have d8 := hD.at_ 8 rfl rfl
        have e47 := ((hev (.tmp 47)).trans (kx47.out xs)).trans d8
        rw [if_pos (wantedX_none rfl)]
        have ef : ∀ f, ev (.func f) = .func (.func f) #[] #[] := fun f => (hev _).trans rfl
        have ec : ∀ v, ev (.const v) = v := fun v => (hev _).trans rfl
        clear hev hD
        go_simp
        exact hK _ _ (Below.refl _ _) rfl
      apply ok_det (n := 10)
      · intro xs w ev hb hD hev K hK
        have d9 := hD.at_ 9 rfl rfl
        have e48 := ((hev (.tmp 48)).trans (kx48.out xs)).trans d9
        rw [if_pos (wantedX_none rfl)]
        have ef : ∀ f, ev (.func f) = .func (.func f) #[] #[] := fun f => (hev _).trans rfl
        clear hev hD
        go_simp
        exact hK _ _ (Below.refl _ _) rfl
      apply ok_det (n := 11)
      · intro xs w ev hb hD hev K hK
        have e14 := (hev (.tmp 14)).trans (kx14.out xs)
        have dg := hD.at_ 10 rfl rfl
        rw [if_pos (wantedX_yes 10 true rfl dg)]
        have ef : ∀ f, ev (.func f) = .func (.func f) #[] #[] := fun f => (hev _).trans rfl
        clear hev hD
        go_simp
        exact hK _ _ (Below.refl _ _) rfl
      apply ok_det (n := 12)
      · intro xs w ev hb hD hev K hK
        have e16 := (hev (.tmp 16)).trans (kx16.out xs)
        have dg := hD.at_ 10 rfl rfl
        rw [if_pos (wantedX_yes 10 true rfl dg)]
        have ef : ∀ f, ev (.func f) = .func (.func f) #[] #[] := fun f => (hev _).trans rfl
        clear hev hD
        go_simp
        exact hK _ _ (Below.refl _ _) rfl
      apply ok_det (n := 13)
      · intro xs w ev hb hD hev K hK
        have d11 := hD.at_ 11 rfl rfl
        have e50 := ((hev (.tmp 50)).trans (kx50.out xs)).trans d11
        have d12 := hD.at_ 12 rfl rfl
        have e51 := ((hev (.tmp 51)).trans (kx51.out xs)).trans d12
        have dg := hD.at_ 10 rfl rfl
        rw [if_pos (wantedX_yes 10 true rfl dg)]
        have ef : ∀ f, ev (.func f) = .func (.func f) #[] #[] := fun f => (hev _).trans rfl
        clear hev hD
        go_simp
        exact hK _ _ (Below.refl _ _) rfl
      apply ok_det (n := 14)
      · intro xs w ev hb hD hev K hK
        have d10 := hD.at_ 10 rfl rfl
        have e49 := ((hev (.tmp 49)).trans (kx49.out xs)).trans d10
        have d13 := hD.at_ 13 rfl rfl
        have e52 := ((hev (.tmp 52)).trans (kx52.out xs)).trans d13
        rw [if_pos (wantedX_none rfl)]
        have ef : ∀ f, ev (.func f) = .func (.func f) #[] #[] := fun f => (hev _).trans rfl
        have ec : ∀ v, ev (.const v) = v := fun v => (hev _).trans rfl
        clear hev hD
        go_simp
        exact hK _ _ (Below.refl _ _) rfl
      apply ok_det (n := 15)
      · intro xs w ev hb hD hev K hK
        have d14 := hD.at_ 14 rfl rfl
        have e53 := ((hev (.tmp 53)).trans (kx53.out xs)).trans d14
        rw [if_pos (wantedX_none rfl)]
        have ef : ∀ f, ev (.func f) = .func (.func f) #[] #[] := fun f => (hev _).trans rfl
        clear hev hD
        go_simp
        exact hK _ _ (Below.refl _ _) rfl
      apply ok_det (n := 16)
      · intro xs w ev hb hD hev K hK
        have e2 := (hev (.tmp 2)).trans (kx2.out xs)
        have dg := hD.at_ 15 rfl rfl
        rw [if_pos (wantedX_yes 15 true rfl dg)]
        have ef : ∀ f, ev (.func f) = .func (.func f) #[] #[] := fun f => (hev _).trans rfl
        clear hev hD
        go_simp
        exact hK _ _ (Below.refl _ _) rfl
      apply ok_det (n := 17)
      · intro xs w ev hb hD hev K hK
        have d16 := hD.at_ 16 rfl rfl
        have e55 := ((hev (.tmp 55)).trans (kx55.out xs)).trans d16
        have dg := hD.at_ 15 rfl rfl
        rw [if_pos (wantedX_yes 15 true rfl dg)]
        have ef : ∀ f, ev (.func f) = .func (.func f) #[] #[] := fun f => (hev _).trans rfl
        clear hev hD
        go_simp
        refine (good_any _ n1 c1 l _ (hr.below hb) (by omega)).mono ?_; rintro e w' ⟨rfl, hb1⟩
        exact ⟨_, rfl, hK _ _ hb1 rfl⟩
      apply ok_det (n := 18)
      · intro xs w ev hb hD hev K hK
        have e2 := (hev (.tmp 2)).trans (kx2.out xs)
        have dg := hD.at_ 15 rfl rfl
        rw [if_pos (wantedX_yes 15 true rfl dg)]
        have ef : ∀ f, ev (.func f) = .func (.func f) #[] #[] := fun f => (hev _).trans rfl
        clear hev hD
        go_simp
        exact hK _ _ (Below.refl _ _) rfl
      apply ok_det (n := 19)
      · intro xs w ev hb hD hev K hK
        have d18 := hD.at_ 18 rfl rfl
        have e57 := ((hev (.tmp 57)).trans (kx57.out xs)).trans d18
        have dg := hD.at_ 15 rfl rfl
        rw [if_pos (wantedX_yes 15 true rfl dg)]
        have ef : ∀ f, ev (.func f) = .func (.func f) #[] #[] := fun f => (hev _).trans rfl
        clear hev hD
        go_simp
        refine (rgood_any _ n1 c1 l _ (hr.below hb) (by omega)).mono ?_; rintro e w' ⟨rfl, hb1⟩
        exact ⟨_, rfl, hK _ _ hb1 rfl⟩
      apply ok_det (n := 20)
      · intro xs w ev hb hD hev K hK
        have d17 := hD.at_ 17 rfl rfl
        have e56 := ((hev (.tmp 56)).trans (kx56.out xs)).trans d17
        have d19 := hD.at_ 19 rfl rfl
        have e58 := ((hev (.tmp 58)).trans (kx58.out xs)).trans d19
        have dg := hD.at_ 15 rfl rfl
        rw [if_pos (wantedX_yes 15 true rfl dg)]
        have ef : ∀ f, ev (.func f) = .func (.func f) #[] #[] := fun f => (hev _).trans rfl
        clear hev hD
        go_simp
        exact hK _ _ (Below.refl _ _) rfl
      apply ok_det (n := 21)
      · intro xs w ev hb hD hev K hK
        have d15 := hD.at_ 15 rfl rfl
        have e54 := ((hev (.tmp 54)).trans (kx54.out xs)).trans d15
        have d20 := hD.at_ 20 rfl rfl
        have e59 := ((hev (.tmp 59)).trans (kx59.out xs)).trans d20
        rw [if_pos (wantedX_none rfl)]
        have ef : ∀ f, ev (.func f) = .func (.func f) #[] #[] := fun f => (hev _).trans rfl
        have ec : ∀ v, ev (.const v) = v := fun v => (hev _).trans rfl
        clear hev hD
        go_simp
        exact hK _ _ (Below.refl _ _) rfl
      apply ok_det (n := 22)
      · intro xs w ev hb hD hev K hK
        have d21 := hD.at_ 21 rfl rfl
        have e60 := ((hev (.tmp 60)).trans (kx60.out xs)).trans d21
        rw [if_pos (wantedX_none rfl)]
        have ef : ∀ f, ev (.func f) = .func (.func f) #[] #[] := fun f => (hev _).trans rfl
        clear hev hD
        go_simp
        exact hK _ _ (Below.refl _ _) rfl
      apply ok_det (n := 23)
      · intro xs w ev hb hD hev K hK
        have e2 := (hev (.tmp 2)).trans (kx2.out xs)
        have dg := hD.at_ 22 rfl rfl
        rw [if_pos (wantedX_yes 22 true rfl dg)]
        have ef : ∀ f, ev (.func f) = .func (.func f) #[] #[] := fun f => (hev _).trans rfl
        clear hev hD
        go_simp
        exact hK _ _ (Below.refl _ _) rfl
      refine ok_any (n := 24) (fun v w => ∃ A c, v = .slice A (l).length c ∧ Rd w 2 pairE A (l).length l) (fun _ _ _ hb ⟨A, c, h1, h2⟩ => ⟨A, c, h1, h2.below hb⟩) ?_ ?_
      · intro xs w ev hb hD hev K hK
        have d23 := hD.at_ 23 rfl rfl
        have e62 := ((hev (.tmp 62)).trans (kx62.out xs)).trans d23
        have dg := hD.at_ 22 rfl rfl
        rw [if_pos (wantedX_yes 22 true rfl dg)]
        have ef : ∀ f, ev (.func f) = .func (.func f) #[] #[] := fun f => (hev _).trans rfl
        clear hev hD
        go_simp
        refine (own_any _ n1 c1 l _ (hr.below hb) (by omega)).mono ?_; rintro e w' ⟨A5, c5, he, r5, s5, t5, hb1⟩
        exact ⟨_, he, hK _ _ hb1 ⟨A5, c5, rfl, r5⟩⟩
      apply ok_det (n := 25)
      · intro xs w ev hb hD hev K hK
        have e3 := (hev (.tmp 3)).trans (kx3.out xs)
        have dg := hD.at_ 22 rfl rfl
        rw [if_pos (wantedX_yes 22 true rfl dg)]
        have ef : ∀ f, ev (.func f) = .func (.func f) #[] #[] := fun f => (hev _).trans rfl
        clear hev hD
        go_simp
        exact hK _ _ (Below.refl _ _) rfl
      refine ok_any (n := 26) (fun v w => ∃ A c, v = .slice A (u).length c ∧ Rd w 2 pairE A (u).length u) (fun _ _ _ hb ⟨A, c, h1, h2⟩ => ⟨A, c, h1, h2.below hb⟩) ?_ ?_
      · intro xs w ev hb hD hev K hK
        have d24 := hD.at_ 24 rfl rfl
        have e63 := (hev (.tmp 63)).trans (kx63.out xs)
        have d25 := hD.at_ 25 rfl rfl
        have e64 := ((hev (.tmp 64)).trans (kx64.out xs)).trans d25
        have dg := hD.at_ 22 rfl rfl
        rw [if_pos (wantedX_yes 22 true rfl dg)]
        have ef : ∀ f, ev (.func f) = .func (.func f) #[] #[] := fun f => (hev _).trans rfl
        clear hev hD
        obtain ⟨A5, c5, d63, r5⟩ := d24
        rw [d63] at e63
        go_simp
        refine (union_any A5 l.length c5 l _ n2 c2 l' _ r5 (hr'.below hb) (by rw [hr.len]; omega) (by omega)).mono ?_; rintro e w' ⟨A6, c6, he, r6, s6, t6, hb1⟩
        rw [huu.out] at he r6
        exact ⟨_, he, hK _ _ hb1 ⟨A6, c6, rfl, r6⟩⟩
      apply ok_det (n := 27)
      · intro xs w ev hb hD hev K hK
        have e2 := (hev (.tmp 2)).trans (kx2.out xs)
        have dg := hD.at_ 22 rfl rfl
        rw [if_pos (wantedX_yes 22 true rfl dg)]
        have ef : ∀ f, ev (.func f) = .func (.func f) #[] #[] := fun f => (hev _).trans rfl
        clear hev hD
        go_simp
        exact hK _ _ (Below.refl _ _) rfl
      apply ok_det (n := 28)
      · intro xs w ev hb hD hev K hK
        have e3 := (hev (.tmp 3)).trans (kx3.out xs)
        have dg := hD.at_ 22 rfl rfl
        rw [if_pos (wantedX_yes 22 true rfl dg)]
        have ef : ∀ f, ev (.func f) = .func (.func f) #[] #[] := fun f => (hev _).trans rfl
        clear hev hD
        go_simp
        exact hK _ _ (Below.refl _ _) rfl
      refine ok_any (n := 29) (fun v w => ∃ A c, v = .slice A (u).length c ∧ Rd w 2 pairE A (u).length u) (fun _ _ _ hb ⟨A, c, h1, h2⟩ => ⟨A, c, h1, h2.below hb⟩) ?_ ?_
      · intro xs w ev hb hD hev K hK
        have d27 := hD.at_ 27 rfl rfl
        have e66 := ((hev (.tmp 66)).trans (kx66.out xs)).trans d27
        have d28 := hD.at_ 28 rfl rfl
        have e67 := ((hev (.tmp 67)).trans (kx67.out xs)).trans d28
        have dg := hD.at_ 22 rfl rfl
        rw [if_pos (wantedX_yes 22 true rfl dg)]
        have ef : ∀ f, ev (.func f) = .func (.func f) #[] #[] := fun f => (hev _).trans rfl
        clear hev hD
        go_simp
        refine (runion_any _ n1 c1 l _ n2 c2 l' _ (hr.below hb) (hr'.below hb) (by omega) (by omega)).mono ?_; rintro e w' ⟨A6, c6, he, r6, s6, t6, hb1⟩
        rw [huu.out] at he r6
        exact ⟨_, he, hK _ _ hb1 ⟨A6, c6, rfl, r6⟩⟩
      apply ok_det (n := 30)
      · intro xs w ev hb hD hev K hK
        have d26 := hD.at_ 26 rfl rfl
        have e65 := (hev (.tmp 65)).trans (kx65.out xs)
        have d29 := hD.at_ 29 rfl rfl
        have e68 := (hev (.tmp 68)).trans (kx68.out xs)
        have dg := hD.at_ 22 rfl rfl
        rw [if_pos (wantedX_yes 22 true rfl dg)]
        have ef : ∀ f, ev (.func f) = .func (.func f) #[] #[] := fun f => (hev _).trans rfl
        clear hev hD
        obtain ⟨A5, c5, d65, r5⟩ := d26
        rw [d65] at e65
        obtain ⟨A6, c6, d68, r6⟩ := d29
        rw [d68] at e68
        go_simp
        refine (same_any A5 u.length c5 u A6 u.length c6 u _ r5 r6 (by omega) (by omega)).mono ?_; rintro e w' ⟨he, hb1⟩
        exact ⟨.bool true, by rw [he]; simp, hK _ _ hb1 rfl⟩
      apply ok_det (n := 31)
      · intro xs w ev hb hD hev K hK
        have d22 := hD.at_ 22 rfl rfl
        have e61 := ((hev (.tmp 61)).trans (kx61.out xs)).trans d22
        have d30 := hD.at_ 30 rfl rfl
        have e69 := ((hev (.tmp 69)).trans (kx69.out xs)).trans d30
        rw [if_pos (wantedX_none rfl)]
        have ef : ∀ f, ev (.func f) = .func (.func f) #[] #[] := fun f => (hev _).trans rfl
        have ec : ∀ v, ev (.const v) = v := fun v => (hev _).trans rfl
        clear hev hD
        go_simp
        exact hK _ _ (Below.refl _ _) rfl
      apply ok_det (n := 32)
      · intro xs w ev hb hD hev K hK
        have d31 := hD.at_ 31 rfl rfl
        have e70 := ((hev (.tmp 70)).trans (kx70.out xs)).trans d31
        rw [if_pos (wantedX_none rfl)]
        have ef : ∀ f, ev (.func f) = .func (.func f) #[] #[] := fun f => (hev _).trans rfl
        clear hev hD
        go_simp
        exact hK _ _ (Below.refl _ _) rfl
      apply ok_det (n := 33)
      · intro xs w ev hb hD hev K hK
        have e2 := (hev (.tmp 2)).trans (kx2.out xs)
        have dg := hD.at_ 32 rfl rfl
        rw [if_pos (wantedX_yes 32 true rfl dg)]
        have ef : ∀ f, ev (.func f) = .func (.func f) #[] #[] := fun f => (hev _).trans rfl
        clear hev hD
        go_simp
        exact hK _ _ (Below.refl _ _) rfl
      apply ok_det (n := 34)
      · intro xs w ev hb hD hev K hK
        have d33 := hD.at_ 33 rfl rfl
        have e72 := ((hev (.tmp 72)).trans (kx72.out xs)).trans d33
        have dg := hD.at_ 32 rfl rfl
        rw [if_pos (wantedX_yes 32 true rfl dg)]
        have ef : ∀ f, ev (.func f) = .func (.func f) #[] #[] := fun f => (hev _).trans rfl
        clear hev hD
        go_simp
        refine (sum_any _ n1 c1 l _ (hr.below hb) (by omega)).mono ?_; rintro e w' ⟨rfl, hb1⟩
        exact ⟨_, rfl, hK _ _ hb1 rfl⟩
      apply ok_det (n := 35)
      · intro xs w ev hb hD hev K hK
        have e2 := (hev (.tmp 2)).trans (kx2.out xs)
        have dg := hD.at_ 32 rfl rfl
        rw [if_pos (wantedX_yes 32 true rfl dg)]
        have ef : ∀ f, ev (.func f) = .func (.func f) #[] #[] := fun f => (hev _).trans rfl
        clear hev hD
        go_simp
        exact hK _ _ (Below.refl _ _) rfl
      apply ok_det (n := 36)
      · intro xs w ev hb hD hev K hK
        have d35 := hD.at_ 35 rfl rfl
        have e74 := ((hev (.tmp 74)).trans (kx74.out xs)).trans d35
        have dg := hD.at_ 32 rfl rfl
        rw [if_pos (wantedX_yes 32 true rfl dg)]
        have ef : ∀ f, ev (.func f) = .func (.func f) #[] #[] := fun f => (hev _).trans rfl
        clear hev hD
        go_simp
        refine (rsum_any _ n1 c1 l _ (hr.below hb) (by omega)).mono ?_; rintro e w' ⟨rfl, hb1⟩
        exact ⟨_, rfl, hK _ _ hb1 rfl⟩
      apply ok_det (n := 37)
      · intro xs w ev hb hD hev K hK
        have d34 := hD.at_ 34 rfl rfl
        have e73 := ((hev (.tmp 73)).trans (kx73.out xs)).trans d34
        have d36 := hD.at_ 36 rfl rfl
        have e75 := ((hev (.tmp 75)).trans (kx75.out xs)).trans d36
        have dg := hD.at_ 32 rfl rfl
        rw [if_pos (wantedX_yes 32 true rfl dg)]
        have ef : ∀ f, ev (.func f) = .func (.func f) #[] #[] := fun f => (hev _).trans rfl
        clear hev hD
        go_simp
        exact hK _ _ (Below.refl _ _) rfl
      apply ok_det (n := 38)
      · intro xs w ev hb hD hev K hK
        have d32 := hD.at_ 32 rfl rfl
        have e71 := ((hev (.tmp 71)).trans (kx71.out xs)).trans d32
        have d37 := hD.at_ 37 rfl rfl
        have e76 := ((hev (.tmp 76)).trans (kx76.out xs)).trans d37
        rw [if_pos (wantedX_none rfl)]
        have ef : ∀ f, ev (.func f) = .func (.func f) #[] #[] := fun f => (hev _).trans rfl
        have ec : ∀ v, ev (.const v) = v := fun v => (hev _).trans rfl
        clear hev hD
        go_simp
        exact hK _ _ (Below.refl _ _) rfl
      apply ok_det (n := 39)
      · intro xs w ev hb hD hev K hK
        have d38 := hD.at_ 38 rfl rfl
        have e77 := ((hev (.tmp 77)).trans (kx77.out xs)).trans d38
        rw [if_pos (wantedX_none rfl)]
        have ef : ∀ f, ev (.func f) = .func (.func f) #[] #[] := fun f => (hev _).trans rfl
        clear hev hD
        go_simp
        exact hK _ _ (Below.refl _ _) rfl
      apply ok_det (n := 40)
      · intro xs w ev hb hD hev K hK
        have e2 := (hev (.tmp 2)).trans (kx2.out xs)
        have dg := hD.at_ 39 rfl rfl
        rw [if_pos (wantedX_yes 39 true rfl dg)]
        have ef : ∀ f, ev (.func f) = .func (.func f) #[] #[] := fun f => (hev _).trans rfl
        clear hev hD
        go_simp
        exact hK _ _ (Below.refl _ _) rfl
      apply ok_det (n := 41)
      · intro xs w ev hb hD hev K hK
        have e4 := (hev (.tmp 4)).trans (kx4.out xs)
        have dg := hD.at_ 39 rfl rfl
        rw [if_pos (wantedX_yes 39 true rfl dg)]
        have ef : ∀ f, ev (.func f) = .func (.func f) #[] #[] := fun f => (hev _).trans rfl
        clear hev hD
        go_simp
        exact hK _ _ (Below.refl _ _) rfl
      apply ok_det (n := 42)
      · intro xs w ev hb hD hev K hK
        have d40 := hD.at_ 40 rfl rfl
        have e79 := ((hev (.tmp 79)).trans (kx79.out xs)).trans d40
        have d41 := hD.at_ 41 rfl rfl
        have e80 := ((hev (.tmp 80)).trans (kx80.out xs)).trans d41
        have dg := hD.at_ 39 rfl rfl
        rw [if_pos (wantedX_yes 39 true rfl dg)]
        have ef : ∀ f, ev (.func f) = .func (.func f) #[] #[] := fun f => (hev _).trans rfl
        clear hev hD
        go_simp
        refine (has_any _ n1 c1 l x _ (hr.below hb) (by omega)).mono ?_; rintro e w' ⟨rfl, hb1⟩
        exact ⟨_, rfl, hK _ _ hb1 rfl⟩
      apply ok_det (n := 43)
      · intro xs w ev hb hD hev K hK
        have e2 := (hev (.tmp 2)).trans (kx2.out xs)
        have dg := hD.at_ 39 rfl rfl
        rw [if_pos (wantedX_yes 39 true rfl dg)]
        have ef : ∀ f, ev (.func f) = .func (.func f) #[] #[] := fun f => (hev _).trans rfl
        clear hev hD
        go_simp
        exact hK _ _ (Below.refl _ _) rfl
      apply ok_det (n := 44)
      · intro xs w ev hb hD hev K hK
        have e4 := (hev (.tmp 4)).trans (kx4.out xs)
        have dg := hD.at_ 39 rfl rfl
        rw [if_pos (wantedX_yes 39 true rfl dg)]
        have ef : ∀ f, ev (.func f) = .func (.func f) #[] #[] := fun f => (hev _).trans rfl
        clear hev hD
        go_simp
        exact hK _ _ (Below.refl _ _) rfl
      apply ok_det (n := 45)
      · intro xs w ev hb hD hev K hK
        have d43 := hD.at_ 43 rfl rfl
        have e82 := ((hev (.tmp 82)).trans (kx82.out xs)).trans d43
        have d44 := hD.at_ 44 rfl rfl
        have e83 := ((hev (.tmp 83)).trans (kx83.out xs)).trans d44
        have dg := hD.at_ 39 rfl rfl
        rw [if_pos (wantedX_yes 39 true rfl dg)]
        have ef : ∀ f, ev (.func f) = .func (.func f) #[] #[] := fun f => (hev _).trans rfl
        clear hev hD
        go_simp
        refine (rhas_any _ n1 c1 l x _ (hr.below hb) (by omega)).mono ?_; rintro e w' ⟨rfl, hb1⟩
        exact ⟨_, rfl, hK _ _ hb1 rfl⟩
      apply ok_det (n := 46)
      · intro xs w ev hb hD hev K hK
        have d42 := hD.at_ 42 rfl rfl
        have e81 := ((hev (.tmp 81)).trans (kx81.out xs)).trans d42
        have d45 := hD.at_ 45 rfl rfl
        have e84 := ((hev (.tmp 84)).trans (kx84.out xs)).trans d45
        have dg := hD.at_ 39 rfl rfl
        rw [if_pos (wantedX_yes 39 true rfl dg)]
        have ef : ∀ f, ev (.func f) = .func (.func f) #[] #[] := fun f => (hev _).trans rfl
        clear hev hD
        go_simp
        exact hK _ _ (Below.refl _ _) rfl
      apply ok_det (n := 47)
      · intro xs w ev hb hD hev K hK
        have d39 := hD.at_ 39 rfl rfl
        have e78 := ((hev (.tmp 78)).trans (kx78.out xs)).trans d39
        have d46 := hD.at_ 46 rfl rfl
        have e85 := ((hev (.tmp 85)).trans (kx85.out xs)).trans d46
        rw [if_pos (wantedX_none rfl)]
        have ef : ∀ f, ev (.func f) = .func (.func f) #[] #[] := fun f => (hev _).trans rfl
        have ec : ∀ v, ev (.const v) = v := fun v => (hev _).trans rfl
        clear hev hD
        go_simp
        exact hK _ _ (Below.refl _ _) rfl
      apply ok_det (n := 48)
      · intro xs w ev hb hD hev K hK
        have d47 := hD.at_ 47 rfl rfl
        have e86 := ((hev (.tmp 86)).trans (kx86.out xs)).trans d47
        rw [if_pos (wantedX_none rfl)]
        have ef : ∀ f, ev (.func f) = .func (.func f) #[] #[] := fun f => (hev _).trans rfl
        clear hev hD
        go_simp
        exact hK _ _ (Below.refl _ _) rfl
      apply ok_det (n := 49)
      · intro xs w ev hb hD hev K hK
        have e2 := (hev (.tmp 2)).trans (kx2.out xs)
        have dg := hD.at_ 48 rfl rfl
        rw [if_pos (wantedX_yes 48 true rfl dg)]
        have ef : ∀ f, ev (.func f) = .func (.func f) #[] #[] := fun f => (hev _).trans rfl
        clear hev hD
        go_simp
        exact hK _ _ (Below.refl _ _) rfl
      apply ok_det (n := 50)
      · intro xs w ev hb hD hev K hK
        have e4 := (hev (.tmp 4)).trans (kx4.out xs)
        have dg := hD.at_ 48 rfl rfl
        rw [if_pos (wantedX_yes 48 true rfl dg)]
        have ef : ∀ f, ev (.func f) = .func (.func f) #[] #[] := fun f => (hev _).trans rfl
        clear hev hD
        go_simp
        exact hK _ _ (Below.refl _ _) rfl
      apply ok_det (n := 51)
      · intro xs w ev hb hD hev K hK
        have d49 := hD.at_ 49 rfl rfl
        have e88 := ((hev (.tmp 88)).trans (kx88.out xs)).trans d49
        have d50 := hD.at_ 50 rfl rfl
        have e89 := ((hev (.tmp 89)).trans (kx89.out xs)).trans d50
        have dg := hD.at_ 48 rfl rfl
        rw [if_pos (wantedX_yes 48 true rfl dg)]
        have ef : ∀ f, ev (.func f) = .func (.func f) #[] #[] := fun f => (hev _).trans rfl
        clear hev hD
        go_simp
        refine (next_any _ n1 c1 l x _ (hr.below hb) (by omega)).mono ?_; rintro e w' ⟨rfl, hb1⟩
        exact ⟨_, rfl, hK _ _ hb1 rfl⟩
      apply ok_det (n := 52)
      · intro xs w ev hb hD hev K hK
        have e2 := (hev (.tmp 2)).trans (kx2.out xs)
        have dg := hD.at_ 48 rfl rfl
        rw [if_pos (wantedX_yes 48 true rfl dg)]
        have ef : ∀ f, ev (.func f) = .func (.func f) #[] #[] := fun f => (hev _).trans rfl
        clear hev hD
        go_simp
        exact hK _ _ (Below.refl _ _) rfl
      apply ok_det (n := 53)
      · intro xs w ev hb hD hev K hK
        have e4 := (hev (.tmp 4)).trans (kx4.out xs)
        have dg := hD.at_ 48 rfl rfl
        rw [if_pos (wantedX_yes 48 true rfl dg)]
        have ef : ∀ f, ev (.func f) = .func (.func f) #[] #[] := fun f => (hev _).trans rfl
        clear hev hD
        go_simp
        exact hK _ _ (Below.refl _ _) rfl
      apply ok_det (n := 54)
      · intro xs w ev hb hD hev K hK
        have d52 := hD.at_ 52 rfl rfl
        have e91 := ((hev (.tmp 91)).trans (kx91.out xs)).trans d52
        have d53 := hD.at_ 53 rfl rfl
        have e92 := ((hev (.tmp 92)).trans (kx92.out xs)).trans d53
        have dg := hD.at_ 48 rfl rfl
        rw [if_pos (wantedX_yes 48 true rfl dg)]
        have ef : ∀ f, ev (.func f) = .func (.func f) #[] #[] := fun f => (hev _).trans rfl
        clear hev hD
        go_simp
        refine (rnext_any _ n1 c1 l x _ (hr.below hb) (by omega)).mono ?_; rintro e w' ⟨rfl, hb1⟩
        exact ⟨_, rfl, hK _ _ hb1 rfl⟩
      apply ok_det (n := 55)
      · intro xs w ev hb hD hev K hK
        have d51 := hD.at_ 51 rfl rfl
        have e90 := ((hev (.tmp 90)).trans (kx90.out xs)).trans d51
        have d54 := hD.at_ 54 rfl rfl
        have e93 := ((hev (.tmp 93)).trans (kx93.out xs)).trans d54
        have dg := hD.at_ 48 rfl rfl
        rw [if_pos (wantedX_yes 48 true rfl dg)]
        have ef : ∀ f, ev (.func f) = .func (.func f) #[] #[] := fun f => (hev _).trans rfl
        clear hev hD
        go_simp
        exact hK _ _ (Below.refl _ _) rfl
      apply ok_det (n := 56)
      · intro xs w ev hb hD hev K hK
        have d48 := hD.at_ 48 rfl rfl
        have e87 := ((hev (.tmp 87)).trans (kx87.out xs)).trans d48
        have d55 := hD.at_ 55 rfl rfl
        have e94 := ((hev (.tmp 94)).trans (kx94.out xs)).trans d55
        rw [if_pos (wantedX_none rfl)]
        have ef : ∀ f, ev (.func f) = .func (.func f) #[] #[] := fun f => (hev _).trans rfl
        have ec : ∀ v, ev (.const v) = v := fun v => (hev _).trans rfl
        clear hev hD
        go_simp
        exact hK _ _ (Below.refl _ _) rfl
      apply ok_det (n := 57)
      · intro xs w ev hb hD hev K hK
        have d56 := hD.at_ 56 rfl rfl
        have e95 := ((hev (.tmp 95)).trans (kx95.out xs)).trans d56
        rw [if_pos (wantedX_none rfl)]
        have ef : ∀ f, ev (.func f) = .func (.func f) #[] #[] := fun f => (hev _).trans rfl
        clear hev hD
        go_simp
        exact hK _ _ (Below.refl _ _) rfl
      apply ok_det (n := 58)
      · intro xs w ev hb hD hev K hK
        have e2 := (hev (.tmp 2)).trans (kx2.out xs)
        have dg := hD.at_ 57 rfl rfl
        rw [if_pos (wantedX_yes 57 true rfl dg)]
        have ef : ∀ f, ev (.func f) = .func (.func f) #[] #[] := fun f => (hev _).trans rfl
        clear hev hD
        go_simp
        exact hK _ _ (Below.refl _ _) rfl
      apply ok_det (n := 59)
      · intro xs w ev hb hD hev K hK
        have e4 := (hev (.tmp 4)).trans (kx4.out xs)
        have dg := hD.at_ 57 rfl rfl
        rw [if_pos (wantedX_yes 57 true rfl dg)]
        have ef : ∀ f, ev (.func f) = .func (.func f) #[] #[] := fun f => (hev _).trans rfl
        clear hev hD
        go_simp
        exact hK _ _ (Below.refl _ _) rfl
      apply ok_det (n := 60)
      · intro xs w ev hb hD hev K hK
        have d58 := hD.at_ 58 rfl rfl
        have e97 := ((hev (.tmp 97)).trans (kx97.out xs)).trans d58
        have d59 := hD.at_ 59 rfl rfl
        have e98 := ((hev (.tmp 98)).trans (kx98.out xs)).trans d59
        have dg := hD.at_ 57 rfl rfl
        rw [if_pos (wantedX_yes 57 true rfl dg)]
        have ef : ∀ f, ev (.func f) = .func (.func f) #[] #[] := fun f => (hev _).trans rfl
        clear hev hD
        go_simp
        refine (free_any _ n1 c1 l x _ (hr.below hb) (by omega) hc hm).mono ?_; rintro e w' ⟨rfl, hb1⟩
        exact ⟨_, rfl, hK _ _ hb1 rfl⟩
      apply ok_det (n := 61)
      · intro xs w ev hb hD hev K hK
        have e2 := (hev (.tmp 2)).trans (kx2.out xs)
        have dg := hD.at_ 57 rfl rfl
        rw [if_pos (wantedX_yes 57 true rfl dg)]
        have ef : ∀ f, ev (.func f) = .func (.func f) #[] #[] := fun f => (hev _).trans rfl
        clear hev hD
        go_simp
        exact hK _ _ (Below.refl _ _) rfl
      apply ok_det (n := 62)
      · intro xs w ev hb hD hev K hK
        have e4 := (hev (.tmp 4)).trans (kx4.out xs)
        have dg := hD.at_ 57 rfl rfl
        rw [if_pos (wantedX_yes 57 true rfl dg)]
        have ef : ∀ f, ev (.func f) = .func (.func f) #[] #[] := fun f => (hev _).trans rfl
        clear hev hD
        go_simp
        exact hK _ _ (Below.refl _ _) rfl
      apply ok_det (n := 63)
      · intro xs w ev hb hD hev K hK
        have d61 := hD.at_ 61 rfl rfl
        have e100 := ((hev (.tmp 100)).trans (kx100.out xs)).trans d61
        have d62 := hD.at_ 62 rfl rfl
        have e101 := ((hev (.tmp 101)).trans (kx101.out xs)).trans d62
        have dg := hD.at_ 57 rfl rfl
        rw [if_pos (wantedX_yes 57 true rfl dg)]
        have ef : ∀ f, ev (.func f) = .func (.func f) #[] #[] := fun f => (hev _).trans rfl
        clear hev hD
        go_simp
        refine (rfree_any _ n1 c1 l x _ (hr.below hb) (by omega)).mono ?_; rintro e w' ⟨rfl, hb1⟩
        exact ⟨_, rfl, hK _ _ hb1 rfl⟩
      apply ok_det (n := 64)
      · intro xs w ev hb hD hev K hK
        have d60 := hD.at_ 60 rfl rfl
        have e99 := ((hev (.tmp 99)).trans (kx99.out xs)).trans d60
        have d63 := hD.at_ 63 rfl rfl
        have e102 := ((hev (.tmp 102)).trans (kx102.out xs)).trans d63
        have dg := hD.at_ 57 rfl rfl
        rw [if_pos (wantedX_yes 57 true rfl dg)]
        have ef : ∀ f, ev (.func f) = .func (.func f) #[] #[] := fun f => (hev _).trans rfl
        clear hev hD
        go_simp
        exact hK _ _ (Below.refl _ _) rfl
      apply ok_det (n := 65)
      · intro xs w ev hb hD hev K hK
        have d57 := hD.at_ 57 rfl rfl
        have e96 := ((hev (.tmp 96)).trans (kx96.out xs)).trans d57
        have d64 := hD.at_ 64 rfl rfl
        have e103 := ((hev (.tmp 103)).trans (kx103.out xs)).trans d64
        rw [if_pos (wantedX_none rfl)]
        have ef : ∀ f, ev (.func f) = .func (.func f) #[] #[] := fun f => (hev _).trans rfl
        have ec : ∀ v, ev (.const v) = v := fun v => (hev _).trans rfl
        clear hev hD
        go_simp
        exact hK _ _ (Below.refl _ _) rfl
      apply ok_det (n := 66)
      · intro xs w ev hb hD hev K hK
        have d65 := hD.at_ 65 rfl rfl
        have e104 := ((hev (.tmp 104)).trans (kx104.out xs)).trans d65
        rw [if_pos (wantedX_none rfl)]
        have ef : ∀ f, ev (.func f) = .func (.func f) #[] #[] := fun f => (hev _).trans rfl
        clear hev hD
        go_simp
        exact hK _ _ (Below.refl _ _) rfl
      apply ok_det (n := 67)
      · intro xs w ev hb hD hev K hK
        have e2 := (hev (.tmp 2)).trans (kx2.out xs)
        have dg := hD.at_ 66 rfl rfl
        rw [if_pos (wantedX_yes 66 true rfl dg)]
        have ef : ∀ f, ev (.func f) = .func (.func f) #[] #[] := fun f => (hev _).trans rfl
        clear hev hD
        go_simp
        exact hK _ _ (Below.refl _ _) rfl
      apply ok_det (n := 68)
      · intro xs w ev hb hD hev K hK
        have e4 := (hev (.tmp 4)).trans (kx4.out xs)
        have dg := hD.at_ 66 rfl rfl
        rw [if_pos (wantedX_yes 66 true rfl dg)]
        have ef : ∀ f, ev (.func f) = .func (.func f) #[] #[] := fun f => (hev _).trans rfl
        clear hev hD
        go_simp
        exact hK _ _ (Below.refl _ _) rfl
      apply ok_det (n := 69)
      · intro xs w ev hb hD hev K hK
        have e5 := (hev (.tmp 5)).trans (kx5.out xs)
        have dg := hD.at_ 66 rfl rfl
        rw [if_pos (wantedX_yes 66 true rfl dg)]
        have ef : ∀ f, ev (.func f) = .func (.func f) #[] #[] := fun f => (hev _).trans rfl
        clear hev hD
        go_simp
        exact hK _ _ (Below.refl _ _) rfl
      apply ok_det (n := 70)
      · intro xs w ev hb hD hev K hK
        have d67 := hD.at_ 67 rfl rfl
        have e106 := ((hev (.tmp 106)).trans (kx106.out xs)).trans d67
        have d68 := hD.at_ 68 rfl rfl
        have e107 := ((hev (.tmp 107)).trans (kx107.out xs)).trans d68
        have d69 := hD.at_ 69 rfl rfl
        have e108 := ((hev (.tmp 108)).trans (kx108.out xs)).trans d69
        have dg := hD.at_ 66 rfl rfl
        rw [if_pos (wantedX_yes 66 true rfl dg)]
        have ef : ∀ f, ev (.func f) = .func (.func f) #[] #[] := fun f => (hev _).trans rfl
        clear hev hD
        go_simp
        refine (gap_any _ n1 c1 l x m _ (hr.below hb) (by omega) hc hm).mono ?_; rintro e w' ⟨rfl, hb1⟩
        exact ⟨_, rfl, hK _ _ hb1 rfl⟩
      apply ok_det (n := 71)
      · intro xs w ev hb hD hev K hK
        have e2 := (hev (.tmp 2)).trans (kx2.out xs)
        have dg := hD.at_ 66 rfl rfl
        rw [if_pos (wantedX_yes 66 true rfl dg)]
        have ef : ∀ f, ev (.func f) = .func (.func f) #[] #[] := fun f => (hev _).trans rfl
        clear hev hD
        go_simp
        exact hK _ _ (Below.refl _ _) rfl
      apply ok_det (n := 72)
      · intro xs w ev hb hD hev K hK
        have e4 := (hev (.tmp 4)).trans (kx4.out xs)
        have dg := hD.at_ 66 rfl rfl
        rw [if_pos (wantedX_yes 66 true rfl dg)]
        have ef : ∀ f, ev (.func f) = .func (.func f) #[] #[] := fun f => (hev _).trans rfl
        clear hev hD
        go_simp
        exact hK _ _ (Below.refl _ _) rfl
      apply ok_det (n := 73)
      · intro xs w ev hb hD hev K hK
        have e5 := (hev (.tmp 5)).trans (kx5.out xs)
        have dg := hD.at_ 66 rfl rfl
        rw [if_pos (wantedX_yes 66 true rfl dg)]
        have ef : ∀ f, ev (.func f) = .func (.func f) #[] #[] := fun f => (hev _).trans rfl
        clear hev hD
        go_simp
        exact hK _ _ (Below.refl _ _) rfl
      apply ok_det (n := 74)
      · intro xs w ev hb hD hev K hK
        have d71 := hD.at_ 71 rfl rfl
        have e110 := ((hev (.tmp 110)).trans (kx110.out xs)).trans d71
        have d72 := hD.at_ 72 rfl rfl
        have e111 := ((hev (.tmp 111)).trans (kx111.out xs)).trans d72
        have d73 := hD.at_ 73 rfl rfl
        have e112 := ((hev (.tmp 112)).trans (kx112.out xs)).trans d73
        have dg := hD.at_ 66 rfl rfl
        rw [if_pos (wantedX_yes 66 true rfl dg)]
        have ef : ∀ f, ev (.func f) = .func (.func f) #[] #[] := fun f => (hev _).trans rfl
        clear hev hD
        go_simp
        refine (rgap_any _ n1 c1 l x m _ (hr.below hb) (by omega)).mono ?_; rintro e w' ⟨rfl, hb1⟩
        exact ⟨_, rfl, hK _ _ hb1 rfl⟩
      apply ok_det (n := 75)
      · intro xs w ev hb hD hev K hK
        have d70 := hD.at_ 70 rfl rfl
        have e109 := ((hev (.tmp 109)).trans (kx109.out xs)).trans d70
        have d74 := hD.at_ 74 rfl rfl
        have e113 := ((hev (.tmp 113)).trans (kx113.out xs)).trans d74
        have dg := hD.at_ 66 rfl rfl
        rw [if_pos (wantedX_yes 66 true rfl dg)]
        have ef : ∀ f, ev (.func f) = .func (.func f) #[] #[] := fun f => (hev _).trans rfl
        clear hev hD
        go_simp
        exact hK _ _ (Below.refl _ _) rfl
      apply ok_det (n := 76)
      · intro xs w ev hb hD hev K hK
        have d66 := hD.at_ 66 rfl rfl
        have e105 := ((hev (.tmp 105)).trans (kx105.out xs)).trans d66
        have d75 := hD.at_ 75 rfl rfl
        have e114 := ((hev (.tmp 114)).trans (kx114.out xs)).trans d75
        rw [if_pos (wantedX_none rfl)]
        have ef : ∀ f, ev (.func f) = .func (.func f) #[] #[] := fun f => (hev _).trans rfl
        have ec : ∀ v, ev (.const v) = v := fun v => (hev _).trans rfl
        clear hev hD
        go_simp
        exact hK _ _ (Below.refl _ _) rfl
      apply ok_det (n := 77)
      · intro xs w ev hb hD hev K hK
        have d76 := hD.at_ 76 rfl rfl
        have e115 := ((hev (.tmp 115)).trans (kx115.out xs)).trans d76
        rw [if_pos (wantedX_none rfl)]
        have ef : ∀ f, ev (.func f) = .func (.func f) #[] #[] := fun f => (hev _).trans rfl
        clear hev hD
        go_simp
        exact hK _ _ (Below.refl _ _) rfl
      intro xs w' hb hI
      have h85 := hI 77 _ rfl
      clear hI
      simp only [List.append_eq, List.cons_append, List.nil_append, setAll, List.setIfInBounds_toArray, List.set_cons_zero, List.set_cons_succ]
      rw [h85]
      clear h85
      go_wp2_with fail
      go_returns
      exact ⟨rfl, hbw.trans (hb.mono hbw.size)⟩
end Go.Proofs.Ytjbhdfjbockkfaa
