/-
  Walks: the reference's heap: New, find, Push, Top, Pop, Lower (gen20.py).
-/
import Derived.Test.YtapfndjaimfcaaaRef12G
import Derived.Test.YtapfndjaimfcaaaBagIdx
import Derived.Test.YtapfndjaimfcaaaCut
namespace Go.Proofs.Ytapfndjaimfcaaa
open Go.RowKit Go.Shelf B K
set_option linter.unusedVariables false
set_option linter.unusedSimpArgs false
set_option maxHeartbeats 4000000
/-- what a step of the reference's heap leaves -/
def RPost (w w' : World) (hp : Nat) (X : List Nat) (S : List It) : Prop := ∃ X', RH w' hp X' S ∧ But w w' [hp] ∧ ∀ y ∈ X', y ∈ X ∨ w.heap.size ≤ y
section
variable {w w' : World} {hp : Nat} {X : List Nat} {S : List It}
theorem rNew_any (w : World) : Calls Try.prog 38 #[] w fun e w' => ∃ hp, e = .returned (.pointer (some ⟨hp, 0, none⟩)) ∧ w.heap.size ≤ hp ∧ RH w' hp [hp] [] ∧ Below w.heap.size w w' := by
  go_enter Try.func38, Try.ntmps38
  go_wp2
  go_returns
  have hb : Below w.heap.size w (w.alloc (.cells #[.slice none 0 0] 69)) := (Below.refl _ w).alloc (Nat.le_refl _) _
  refine ⟨w.heap.size, rfl, Nat.le_refl _, ⟨none, 0, heap_alloc_new w _, ⟨rfl, fun h => absurd h (by decide)⟩, Nat.le_refl _, by decide, by simp, (fun a h => by cases h), fun x hx => ?_⟩, hb⟩
  simp at hx; subst hx; simp
theorem rfind_any (H : RH w hp X S) (hS : S.length ≤ 1099511627776) (ix : Int) : Calls Try.prog 58 #[.pointer (some ⟨hp, 0, none⟩), .int .i64 ix] w fun e w' => e = .returned (.int .i64 (idx (fun x => decide (x.2 = ix)) S)) ∧ w' = w := by
  obtain ⟨A, c, h1, h2, h3, h4, h5, h6, h7⟩ := H
  have c0 := cell_of_one h1
  have h2h := Lib.hid h2
  clear h1 h2 h6 h7 h5
  go_enter Try.func58, Try.ntmps58
  go_wp2
  go_loopw [5] (fun i wr => ∃ (k : Nat), k ≤ S.length ∧ i = .int .i64 k ∧ wr = w ∧ Hid (∀ y ∈ S.take k, decide (y.2 = ix) = false)) (fun i _ => S.length - (intOf i).toNat)
  case atStart => exact ⟨0, Nat.zero_le _, rfl, rfl, fun y hy => by simp at hy⟩
  case round =>
    obtain ⟨k, hk, rfl, rfl, hno⟩ := hrel
    by_cases hlt : k < S.length
    · obtain ⟨b, o, x1, x2, rfl, hbs, hx, p1, p2⟩ := h2h.out.pair hlt
      have hxh := Lib.hid hx
      have hkn : (k : Int) < (S.length : Int) := by omega
      by_cases he : x2 = ix
      · have e1 : (x2 == ix) = true := by simpa using he
        have hr : idx (fun x => decide (x.2 = ix)) S = (k : Int) := idx_at hxh.out hno.out (decide_eq_true he)
        have hrh := Lib.hid hr
        clear hx he hr
        go_wp2
        go_returns
        exact ⟨by rw [hrh.out]; rfl, rfl⟩
      · have e1 : (x2 == ix) = false := by simpa using he
        have hnx : Hid (∀ y ∈ S.take (k + 1), decide (y.2 = ix) = false) := fun y hy => by
          rw [take_at hxh.out, List.mem_append] at hy
          rcases hy with hy | hy
          · exact hno.out y hy
          · simp at hy; subst hy; exact decide_eq_false he
        clear hx he hno
        go_wp2
        go_roundw
        case rel => exact ⟨k + 1, by omega, by go_num, trivial, hnx⟩
        case measure => simp [intOf]; omega
    · have hkn : decide ((k : Int) < (S.length : Int)) = false := decide_eq_false (by omega)
      have hr : idx (fun x => decide (x.2 = ix)) S = -1 := idx_no fun y hy => hno.out y (by rw [List.take_of_length_le (by omega)]; exact hy)
      have hrh := Lib.hid hr
      clear hno hr
      go_wp2
      go_returns
      exact ⟨by rw [hrh.out]; rfl, rfl⟩
theorem RH.lt (H : RH w hp X S) : hp < w.heap.size := by
  obtain ⟨A, c, h1, _⟩ := H
  exact (Array.getElem?_eq_some_iff.1 h1).1
theorem RH.mem (H : RH w hp X S) : hp ∈ X := by
  obtain ⟨A, c, h1, h2, h3, h4, h5, _⟩ := H
  exact h5
theorem RPost.mk' {w1 w9 : World} {X' : List Nat} (hm : hp ∈ X) (h1 : Below w.heap.size w w1) (hR : RH w9 hp X' S) (hb : But w1 w9 [hp]) (hX : ∀ y ∈ X', y = hp ∨ w1.heap.size ≤ y) : RPost w w9 hp X S :=
  ⟨X', hR, (But.of_below h1 _).trans hb, fun y hy => (hX y hy).elim (fun e => .inl (e ▸ hm)) (fun h => .inr (Nat.le_trans h1.size h))⟩
set_option maxRecDepth 100000 in
theorem rPush_there (H : RH w hp X S) (hS : S.length ≤ 1099511627776) {kx ix : Int} (hth : ∃ x ∈ S, x.2 = ix) : Calls Try.prog 39 #[.pointer (some ⟨hp, 0, none⟩), .agg #[.int .i64 kx, .int .i64 ix]] w fun e w' => e = .returned (.int .i64 6) ∧ Below w.heap.size w w' := by
  have hb1 : Below w.heap.size w (w.alloc (.cells #[.int .i64 kx, .int .i64 ix] 53)) := (Below.refl _ w).alloc (Nat.le_refl _) _
  have hF := Lib.hid (rfind_any (H.below hb1) hS ix)
  have hq : decide (0 ≤ idx (fun x : It => decide (x.2 = ix)) S) = true := by
    rw [idx_any, List.any_eq_true]
    obtain ⟨x, hx, e⟩ := hth
    exact ⟨x, hx, decide_eq_true e⟩
  have bx := Bx2.new w 53 kx ix
  obtain ⟨q, hqe⟩ : ∃ q, idx (fun x : It => decide (x.2 = ix)) S = q := ⟨_, rfl⟩
  rw [hqe] at hF hq
  obtain ⟨W1, hW1⟩ : ∃ q, w.alloc (.cells #[.int .i64 kx, .int .i64 ix] 53) = q := ⟨_, rfl⟩
  rw [hW1] at hb1 hF bx
  obtain ⟨bk, hbke⟩ : ∃ q, w.heap.size = q := ⟨_, rfl⟩
  rw [hbke] at bx
  have b1 := bx.c1
  have hb1h := Lib.hid hb1
  clear H hth hqe bx hb1
  go_enter Try.func39, Try.ntmps39
  go_wp2_with (go_at_call 58; refine hF.out.mono ?_; rintro e w2 ⟨rfl, rfl⟩)
  go_returns
  exact ⟨rfl, hb1h.out⟩
set_option maxRecDepth 100000 in
theorem rPush_new (H : RH w hp X S) (hSl : S.length + 1 ≤ 1099511627776) {kx ix : Int} (hth : ∀ x ∈ S, x.2 ≠ ix) : Calls Try.prog 39 #[.pointer (some ⟨hp, 0, none⟩), .agg #[.int .i64 kx, .int .i64 ix]] w fun e w' => e = .returned (.int .i64 0) ∧
    ∃ j, j ≤ S.length ∧ (∀ y ∈ S.drop j, ltI (kx, ix) y = true) ∧ (j = 0 ∨ ∃ y, S[j - 1]? = some y ∧ ltI (kx, ix) y = false) ∧ RPost w w' hp X (S.take j ++ [(kx, ix)] ++ S.drop j) := by
  have hb1 : Below w.heap.size w (w.alloc (.cells #[.int .i64 kx, .int .i64 ix] 53)) := (Below.refl _ w).alloc (Nat.le_refl _) _
  have H1 := H.below hb1
  have hF := Lib.hid (rfind_any H1 (by omega) ix)
  have hm := Lib.hid H.mem
  have bx := Bx2.new w 53 kx ix
  rw [show idx (fun x : It => decide (x.2 = ix)) S = -1 from idx_no fun y hy => decide_eq_false (hth y hy)] at hF
  obtain ⟨W1, hW1⟩ : ∃ q, w.alloc (.cells #[.int .i64 kx, .int .i64 ix] 53) = q := ⟨_, rfl⟩
  have hne : hp < w.heap.size := H.lt
  rw [hW1] at hb1 hF bx H1
  obtain ⟨bk, hbke⟩ : ∃ q, w.heap.size = q := ⟨_, rfl⟩
  rw [hbke] at bx hne
  have nbk : bk ∉ [hp] := by simp; omega
  obtain ⟨A, c, h1, h2, h3, h4, h5, h6, h7⟩ := H1
  have b0 := bx.c0
  have b1 := bx.c1
  have zb1 := bx.lt
  have c0 := cell_of_one h1
  have zh1 := (Array.getElem?_eq_some_iff.1 h1).1
  have hH1 := Lib.hid h1
  have h2h := Lib.hid h2
  have h6h := Lib.hid h6
  have hb1h := Lib.hid hb1
  clear H hth bx hb1 h1 h2 h5 h6 h7
  go_enter Try.func39, Try.ntmps39
  go_wp2_with (go_at_call 58; refine hF.out.mono ?_; rintro e w2 ⟨rfl, hw⟩; replace hw := hw.symm; subst hw)
  clear hF
  go_loopw [5] (fun i wr => ∃ (j : Nat), j ≤ S.length ∧ i = .int .i64 j ∧ Hid (Below W1.heap.size W1 wr ∧ ∀ y ∈ S.drop j, ltI (kx, ix) y = true)) (fun i _ => (intOf i).toNat)
  case atStart => exact ⟨S.length, Nat.le_refl _, rfl, Below.refl _ _, fun y hy => by simp at hy⟩
  case round =>
    obtain ⟨j, hj, rfl, hH⟩ := hrel
    obtain ⟨hbj, hdr⟩ := hH.out
    clear hH
    have h0c := (hbj.cell (p := ⟨hp, 0, none⟩) zh1).trans c0
    have b0c := (hbj.cell (p := ⟨bk, 0, none⟩) zb1).trans b0
    have b1c := (hbj.cell (p := ⟨bk, 1, none⟩) zb1).trans b1
    have zhp := Nat.lt_of_lt_of_le zh1 hbj.size
    have zbk := Nat.lt_of_lt_of_le zb1 hbj.size
    have hbjh := Lib.hid hbj
    have hdrh := Lib.hid hdr
    clear hbj hdr
    by_cases hj0 : j = 0
    · have g0 : decide ((0 : Int) < (j : Int)) = false := decide_eq_false (by omega)
      have g0n : decide (0 < j) = false := decide_eq_false (by omega)
      have hex : Hid (j = 0 ∨ ∃ y, S[j - 1]? = some y ∧ ltI (kx, ix) y = false) := .inl hj0
      clear hj0
      go_wp2_with fail
      go_upto_region 4 with fail
      refine wp_region_below wr.heap.size (by kernel_rfl) (by kernel_rfl) ?_
      intro C hC
      repeat (go_big_quiet_step (first
        | ((intro _; with_reducible rfl))
        | (intro hc; have m0 := (hc.cell (p := ⟨hp, 0, none⟩) zhp).trans h0c; have m1 := (hc.cell (p := ⟨bk, 0, none⟩) zbk).trans b0c; have m2 := (hc.cell (p := ⟨bk, 1, none⟩) zbk).trans b1c; simp only [m0, m1, m2, Result.andThen]; exact ⟨trivial, rfl⟩)))
      refine wpQuiet_nil ?_
      intro w9 hb9
      clear hC
      have hbw := Lib.hid (hbjh.out.trans (hb9.mono hbjh.out.size))
      have hH0 := Lib.hid ((hbw.out.block hp zh1).trans hH1.out)
      have b0 := (hbw.out.cell (p := ⟨bk, 0, none⟩) zb1).trans b0
      have b1 := (hbw.out.cell (p := ⟨bk, 1, none⟩) zb1).trans b1
      have zbk9 := Nat.lt_of_lt_of_le zb1 hbw.out.size
      clear hb9
      obtain ⟨w3, hw3⟩ : ∃ q, w9 = q := ⟨_, rfl⟩
      rw [hw3] at hbw hH0 b0 b1 zbk9 ⊢
      clear hw3
      have r3 := h2h.out.below hbw.out
      have rA : Hid (∀ W, But w3 W [hp] → Rd W 2 pairE A j (S.take j)) := fun W hW => (r3.take (k := j) hj).but1 hW (fun a e => (h6h.out a e).2)
      have rB : Hid (∀ W, But w3 W [hp] → Rd W 2 pairE (cutA A c j 2) (S.length - j) (S.drop j)) := fun W hW => (r3.drop (k := j) hj h3).but1 hW (cut_ne fun a e => (h6h.out a e).2)
      have hh := fun W => run_head0 (P := Try.prog) (t := 48) (e := 53) (s := 2) Try.underlying48 (by kernel_rfl) (fun W => by simp [go_sem]) A S.length c j (by omega) .i64 W
      have hd := fun W => run_cut (P := Try.prog) (t := 48) (e := 53) (s := 2) Try.underlying48 (by kernel_rfl) (fun W => by simp [go_sem]) A S.length c j hj .i64 W
      clear r3
      go_wp2_with fail
      go_upto_region 6 with fail
      refine wp_region_ghost (fun fl x w => GH w3 hp (.slice A S.length c) (S.take j) (S.take j ++ [(kx, ix)]) (S.take j ++ [(kx, ix)] ++ S.drop j) ((kx, ix)) (fl 1) (fl 8) (fl 11) (fl 18) (fl 21) (fl 10) (fl 7) (fl 17) (x 1) (x 8) (x 11) (x 18) (x 10) w ∧ (fl 7 = true → fl 5 = true) ∧ (fl 17 = true → fl 15 = true)) (by kernel_rfl) (by kernel_rfl) (by kernel_rfl) (by kernel_rfl) (by kernel_rfl) ?_ ?_
      · intro x0
        exact ⟨GH.start rfl rfl rfl rfl rfl rfl hH0.out, (fun h => by cases h), fun h => by cases h⟩
      intro base O hbase hO
      have kx0 : Hid (∀ xs, evX base O xs (.tmp 0) = .pointer (some ⟨hp, 0, none⟩)) := fun xs => by rw [hbase, hO]; rfl
      have kx3 : Hid (∀ xs, evX base O xs (.tmp 3) = .pointer (some ⟨bk, 0, none⟩)) := fun xs => by rw [hbase, hO]; rfl
      have kx5 : Hid (∀ xs, evX base O xs (.tmp 5) = .int .i64 (j : Int)) := fun xs => by rw [hbase, hO]; rfl
      have kx62 : Hid (∀ xs, evX base O xs (.tmp 62) = xs 0) := fun xs => by rw [hO]; rfl
      have kx63 : Hid (∀ xs, evX base O xs (.tmp 63) = xs 1) := fun xs => by rw [hO]; rfl
      have kx64 : Hid (∀ xs, evX base O xs (.tmp 64) = xs 2) := fun xs => by rw [hO]; rfl
      have kx65 : Hid (∀ xs, evX base O xs (.tmp 65) = xs 3) := fun xs => by rw [hO]; rfl
      have kx66 : Hid (∀ xs, evX base O xs (.tmp 66) = xs 4) := fun xs => by rw [hO]; rfl
      have kx67 : Hid (∀ xs, evX base O xs (.tmp 67) = xs 5) := fun xs => by rw [hO]; rfl
      have kx68 : Hid (∀ xs, evX base O xs (.tmp 68) = xs 6) := fun xs => by rw [hO]; rfl
      have kx69 : Hid (∀ xs, evX base O xs (.tmp 69) = xs 7) := fun xs => by rw [hO]; rfl
      have kx70 : Hid (∀ xs, evX base O xs (.tmp 70) = xs 8) := fun xs => by rw [hO]; rfl
      have kx71 : Hid (∀ xs, evX base O xs (.tmp 71) = xs 9) := fun xs => by rw [hO]; rfl
      have kx72 : Hid (∀ xs, evX base O xs (.tmp 72) = xs 10) := fun xs => by rw [hO]; rfl
      have kx73 : Hid (∀ xs, evX base O xs (.tmp 73) = xs 11) := fun xs => by rw [hO]; rfl
      have kx74 : Hid (∀ xs, evX base O xs (.tmp 74) = xs 12) := fun xs => by rw [hO]; rfl
      have kx75 : Hid (∀ xs, evX base O xs (.tmp 75) = xs 13) := fun xs => by rw [hO]; rfl
      have kx76 : Hid (∀ xs, evX base O xs (.tmp 76) = xs 14) := fun xs => by rw [hO]; rfl
      have kx77 : Hid (∀ xs, evX base O xs (.tmp 77) = xs 15) := fun xs => by rw [hO]; rfl
      have kx78 : Hid (∀ xs, evX base O xs (.tmp 78) = xs 16) := fun xs => by rw [hO]; rfl
      have kx79 : Hid (∀ xs, evX base O xs (.tmp 79) = xs 17) := fun xs => by rw [hO]; rfl
      have kx80 : Hid (∀ xs, evX base O xs (.tmp 80) = xs 18) := fun xs => by rw [hO]; rfl
      have kx81 : Hid (∀ xs, evX base O xs (.tmp 81) = xs 19) := fun xs => by rw [hO]; rfl
      have kx82 : Hid (∀ xs, evX base O xs (.tmp 82) = xs 20) := fun xs => by rw [hO]; rfl
      clear hbase hO
      apply gh_det (n := 0)
      · intro fl xs w ev hG hD hl hdone hev K hK
        have e0 := (hev (.tmp 0)).trans (kx0.out xs)
        rw [if_pos (wantedX_none rfl)]
        have ef : ∀ f, ev (.func f) = .func (.func f) #[] #[] := fun f => (hev _).trans rfl
        clear hev hD
        go_simp
        exact hK _ _ rfl hG
      refine gh_any (n := 1) (fun _ => True) ?_ ?_
      · intro fl xs w ev hG hD hl hdone hev K hK
        rw [if_pos (wantedX_none rfl)]
        have ef : ∀ f, ev (.func f) = .func (.func f) #[] #[] := fun f => (hev _).trans rfl
        clear hev hD
        go_simp
        exact hK _ _ trivial ⟨hG.1.l0S hl, hG.2⟩
      apply gh_det (n := 2)
      · intro fl xs w ev hG hD hl hdone hev K hK
        have e0 := (hev (.tmp 0)).trans (kx0.out xs)
        rw [if_pos (wantedX_none rfl)]
        have ef : ∀ f, ev (.func f) = .func (.func f) #[] #[] := fun f => (hev _).trans rfl
        clear hev hD
        go_simp
        exact hK _ _ rfl hG
      apply gh_det (n := 3)
      · intro fl xs w ev hG hD hl hdone hev K hK
        have e64 := (hev (.tmp 64)).trans (kx64.out xs)
        have d2 := hD.at_ 2 rfl rfl
        replace e64 := e64.trans d2
        rw [if_pos (wantedX_none rfl)]
        have ef : ∀ f, ev (.func f) = .func (.func f) #[] #[] := fun f => (hev _).trans rfl
        clear hev hD
        go_simp
        exact hK _ _ rfl hG
      apply gh_det (n := 4)
      · intro fl xs w ev hG hD hl hdone hev K hK
        have e65 := (hev (.tmp 65)).trans (kx65.out xs)
        have d3 := hD.at_ 3 rfl rfl
        replace e65 := e65.trans d3
        rw [if_pos (wantedX_none rfl)]
        have ef : ∀ f, ev (.func f) = .func (.func f) #[] #[] := fun f => (hev _).trans rfl
        clear hev hD
        go_simp
        exact hK _ _ rfl hG
      apply gh_det (n := 5)
      · intro fl xs w ev hG hD hl hdone hev K hK
        have e66 := (hev (.tmp 66)).trans (kx66.out xs)
        have d4 := hD.at_ 4 rfl rfl
        replace e66 := e66.trans d4
        rw [if_pos (wantedX_none rfl)]
        have ef : ∀ f, ev (.func f) = .func (.func f) #[] #[] := fun f => (hev _).trans rfl
        clear hev hD
        have m0 := cell_of_one (hG.1.r1R (bne2 hG.2.1 hl))
        go_simp
        exact hK _ _ rfl ⟨hG.1, fun _ => rfl, hG.2.2⟩
      apply gh_det (n := 6)
      · intro fl xs w ev hG hD hl hdone hev K hK
        have e5 := (hev (.tmp 5)).trans (kx5.out xs)
        rw [if_pos (wantedX_none rfl)]
        have ef : ∀ f, ev (.func f) = .func (.func f) #[] #[] := fun f => (hev _).trans rfl
        clear hev hD
        go_simp
        exact hK _ _ rfl hG
      apply gh_det (n := 7)
      · intro fl xs w ev hG hD hl hdone hev K hK
        have e67 := (hev (.tmp 67)).trans (kx67.out xs)
        have d5 := hD.at_ 5 rfl rfl
        replace e67 := e67.trans d5
        have e68 := (hev (.tmp 68)).trans (kx68.out xs)
        have d6 := hD.at_ 6 rfl rfl
        replace e68 := e68.trans d6
        rw [if_pos (wantedX_none rfl)]
        have ef : ∀ f, ev (.func f) = .func (.func f) #[] #[] := fun f => (hev _).trans rfl
        clear hev hD
        go_simp
        exact hK _ _ rfl ⟨hG.1.r1S, fun _ => done_of hdone 5 rfl, hG.2.2⟩
      refine gh_any (n := 8) (fun _ => True) ?_ ?_
      · intro fl xs w ev hG hD hl hdone hev K hK
        have e63 := (hev (.tmp 63)).trans (kx63.out xs)
        have e69 := (hev (.tmp 69)).trans (kx69.out xs)
        have d7 := hD.at_ 7 rfl rfl
        replace e69 := e69.trans d7
        rw [if_pos (wantedX_none rfl)]
        have ef : ∀ f, ev (.func f) = .func (.func f) #[] #[] := fun f => (hev _).trans rfl
        clear hev hD
        have own := hG.1.o0 (done_of hdone 1 rfl) hl
        obtain ⟨v', w1', hrun, own1, hgr, hnew⟩ := app_items c (L := []) own (rA.out w hG.1.but) (by simp only [List.length_append, List.length_take, List.length_drop, List.length_cons, List.length_nil]; have := hSl; omega) hG.1.but.size
        rw [List.nil_append] at own1
        exact outcome_append (.tmp 63) (.tmp 69) 48 rfl e63 e69 hrun (hK _ _ trivial ⟨hG.1.a1S hl (done_of hdone 1 rfl) (done_of hdone 7 rfl) own1 hgr hnew, hG.2⟩)
      apply gh_det (n := 9)
      · intro fl xs w ev hG hD hl hdone hev K hK
        have e3 := (hev (.tmp 3)).trans (kx3.out xs)
        rw [if_pos (wantedX_none rfl)]
        have ef : ∀ f, ev (.func f) = .func (.func f) #[] #[] := fun f => (hev _).trans rfl
        clear hev hD
        have m0 := (hG.1.but.cell (p := ⟨bk, 0, none⟩) zbk9 nbk).trans b0
        have m1 := (hG.1.but.cell (p := ⟨bk, 1, none⟩) zbk9 nbk).trans b1
        go_simp
        exact hK _ _ rfl hG
      refine gh_any (n := 10) (fun _ => True) ?_ ?_
      · intro fl xs w ev hG hD hl hdone hev K hK
        have e71 := (hev (.tmp 71)).trans (kx71.out xs)
        have d9 := hD.at_ 9 rfl rfl
        replace e71 := e71.trans d9
        rw [if_pos (wantedX_none rfl)]
        have ef : ∀ f, ev (.func f) = .func (.func f) #[] #[] := fun f => (hev _).trans rfl
        clear hev hD
        go_simp
        exact hK _ _ trivial ⟨hG.1.litS hl, hG.2⟩
      refine gh_any (n := 11) (fun _ => True) ?_ ?_
      · intro fl xs w ev hG hD hl hdone hev K hK
        have e70 := (hev (.tmp 70)).trans (kx70.out xs)
        have e72 := (hev (.tmp 72)).trans (kx72.out xs)
        rw [if_pos (wantedX_none rfl)]
        have ef : ∀ f, ev (.func f) = .func (.func f) #[] #[] := fun f => (hev _).trans rfl
        clear hev hD
        have own := hG.1.o1 (done_of hdone 8 rfl) hl
        obtain ⟨g5, c5, e5, r5, _⟩ := hG.1.ol (done_of hdone 10 rfl) hl
        rw [e5] at e72
        obtain ⟨v', w1', hrun, own1, hgr, hnew⟩ := app_items c5 own r5 (by simp only [List.length_append, List.length_take, List.length_drop, List.length_cons, List.length_nil]; have := hSl; omega) hG.1.but.size
        exact outcome_append (.tmp 70) (.tmp 72) 48 rfl e70 e72 hrun (hK _ _ trivial ⟨hG.1.a2S hl (done_of hdone 8 rfl) (done_of hdone 10 rfl) own1 hgr, hG.2⟩)
      apply gh_det (n := 12)
      · intro fl xs w ev hG hD hl hdone hev K hK
        have e0 := (hev (.tmp 0)).trans (kx0.out xs)
        rw [if_pos (wantedX_none rfl)]
        have ef : ∀ f, ev (.func f) = .func (.func f) #[] #[] := fun f => (hev _).trans rfl
        clear hev hD
        go_simp
        exact hK _ _ rfl hG
      apply gh_det (n := 13)
      · intro fl xs w ev hG hD hl hdone hev K hK
        have e74 := (hev (.tmp 74)).trans (kx74.out xs)
        have d12 := hD.at_ 12 rfl rfl
        replace e74 := e74.trans d12
        rw [if_pos (wantedX_none rfl)]
        have ef : ∀ f, ev (.func f) = .func (.func f) #[] #[] := fun f => (hev _).trans rfl
        clear hev hD
        go_simp
        exact hK _ _ rfl hG
      apply gh_det (n := 14)
      · intro fl xs w ev hG hD hl hdone hev K hK
        have e75 := (hev (.tmp 75)).trans (kx75.out xs)
        have d13 := hD.at_ 13 rfl rfl
        replace e75 := e75.trans d13
        rw [if_pos (wantedX_none rfl)]
        have ef : ∀ f, ev (.func f) = .func (.func f) #[] #[] := fun f => (hev _).trans rfl
        clear hev hD
        go_simp
        exact hK _ _ rfl hG
      apply gh_det (n := 15)
      · intro fl xs w ev hG hD hl hdone hev K hK
        have e76 := (hev (.tmp 76)).trans (kx76.out xs)
        have d14 := hD.at_ 14 rfl rfl
        replace e76 := e76.trans d14
        rw [if_pos (wantedX_none rfl)]
        have ef : ∀ f, ev (.func f) = .func (.func f) #[] #[] := fun f => (hev _).trans rfl
        clear hev hD
        have m0 := cell_of_one (hG.1.r2R (bne2 hG.2.2 hl))
        go_simp
        exact hK _ _ rfl ⟨hG.1, hG.2.1, fun _ => rfl⟩
      apply gh_det (n := 16)
      · intro fl xs w ev hG hD hl hdone hev K hK
        have e5 := (hev (.tmp 5)).trans (kx5.out xs)
        rw [if_pos (wantedX_none rfl)]
        have ef : ∀ f, ev (.func f) = .func (.func f) #[] #[] := fun f => (hev _).trans rfl
        clear hev hD
        go_simp
        exact hK _ _ rfl hG
      apply gh_det (n := 17)
      · intro fl xs w ev hG hD hl hdone hev K hK
        have e77 := (hev (.tmp 77)).trans (kx77.out xs)
        have d15 := hD.at_ 15 rfl rfl
        replace e77 := e77.trans d15
        have e78 := (hev (.tmp 78)).trans (kx78.out xs)
        have d16 := hD.at_ 16 rfl rfl
        replace e78 := e78.trans d16
        rw [if_pos (wantedX_none rfl)]
        have ef : ∀ f, ev (.func f) = .func (.func f) #[] #[] := fun f => (hev _).trans rfl
        clear hev hD
        go_simp
        exact hK _ _ rfl ⟨hG.1.r2S, hG.2.1, fun _ => done_of hdone 15 rfl⟩
      refine gh_any (n := 18) (fun _ => True) ?_ ?_
      · intro fl xs w ev hG hD hl hdone hev K hK
        have e73 := (hev (.tmp 73)).trans (kx73.out xs)
        have e79 := (hev (.tmp 79)).trans (kx79.out xs)
        have d17 := hD.at_ 17 rfl rfl
        replace e79 := e79.trans d17
        rw [if_pos (wantedX_none rfl)]
        have ef : ∀ f, ev (.func f) = .func (.func f) #[] #[] := fun f => (hev _).trans rfl
        clear hev hD
        have own := hG.1.o2 (done_of hdone 11 rfl) hl
        obtain ⟨v', w1', hrun, own1, hgr, hnew⟩ := app_items _ own (rB.out w hG.1.but) (by simp only [List.length_append, List.length_take, List.length_drop, List.length_cons, List.length_nil]; have := hSl; omega) hG.1.but.size
        exact outcome_append (.tmp 73) (.tmp 79) 48 rfl e73 e79 hrun (hK _ _ trivial ⟨hG.1.a3S hl (done_of hdone 11 rfl) (done_of hdone 17 rfl) own1 hgr, hG.2⟩)
      apply gh_det (n := 19)
      · intro fl xs w ev hG hD hl hdone hev K hK
        have e62 := (hev (.tmp 62)).trans (kx62.out xs)
        have d0 := hD.at_ 0 rfl rfl
        replace e62 := e62.trans d0
        rw [if_pos (wantedX_none rfl)]
        have ef : ∀ f, ev (.func f) = .func (.func f) #[] #[] := fun f => (hev _).trans rfl
        clear hev hD
        go_simp
        exact hK _ _ rfl hG
      apply gh_det (n := 20)
      · intro fl xs w ev hG hD hl hdone hev K hK
        have e81 := (hev (.tmp 81)).trans (kx81.out xs)
        have d19 := hD.at_ 19 rfl rfl
        replace e81 := e81.trans d19
        rw [if_pos (wantedX_none rfl)]
        have ef : ∀ f, ev (.func f) = .func (.func f) #[] #[] := fun f => (hev _).trans rfl
        clear hev hD
        go_simp
        exact hK _ _ rfl hG
      refine gh_any (n := 21) (fun _ => True) ?_ ?_
      · intro fl xs w ev hG hD hl hdone hev K hK
        have e82 := (hev (.tmp 82)).trans (kx82.out xs)
        have d20 := hD.at_ 20 rfl rfl
        replace e82 := e82.trans d20
        have e80 := (hev (.tmp 80)).trans (kx80.out xs)
        rw [if_pos (wantedX_none rfl)]
        have ef : ∀ f, ev (.func f) = .func (.func f) #[] #[] := fun f => (hev _).trans rfl
        clear hev hD
        have own := hG.1.o3 (done_of hdone 18 rfl)
        have hh0 := hG.1.h0 hl
        have c00 := cell_of_one hh0
        have f00 := free_of_one hh0
        obtain ⟨n7, hn7⟩ : ∃ n7, (S.take j ++ [(kx, ix)] ++ S.drop j).length = n7 := ⟨_, rfl⟩
        rw [hn7] at own
        obtain ⟨A7, c7, e7, _⟩ := Rd.of_own (enc := pairE) pairE_len2 hn7 own
        rw [e7] at e80
        clear own hn7
        go_simp
        refine hK _ _ trivial ?_
        rw [← e7]
        exact ⟨hG.1.stS hl (done_of hdone 18 rfl), hG.2⟩
      clear kx0 kx3 kx5 kx62 kx63 kx64 kx65 kx66 kx67 kx68 kx69 kx70 kx71 kx72 kx73 kx74 kx75 kx76 kx77 kx78 kx79 kx80 kx81 kx82
      intro xs w9 hG hI
      obtain ⟨X', hR9, hb9, hX9⟩ := hG.1.fin rfl
      clear hG hI
      simp only [List.append_eq, List.cons_append, List.nil_append, setAll, List.setIfInBounds_toArray, List.set_cons_zero, List.set_cons_succ]
      clear hh hd
      have hfin : Hid (RPost w w9 hp X (S.take j ++ [(kx, ix)] ++ S.drop j)) := RPost.mk' hm.out (hb1h.out.trans (hbw.out.mono hb1h.out.size)) hR9 hb9 hX9
      clear hR9 hb9 hX9
      go_wp2_with fail
      go_returns
      exact ⟨rfl, j, hj, hdrh.out, hex.out, hfin.out⟩
    · obtain ⟨b, o, y1, y2, hA, hbs, hx, y0, y1c⟩ := (h2h.out.below hbjh.out).pair (show j - 1 < S.length by omega)
      rw [hA] at h0c
      have hAh := Lib.hid hA
      clear hA
      have hxh := Lib.hid hx
      have hwr : IntKind.i64.wrap ((j : Int) - 1) = ((j - 1 : Nat) : Int) := by rw [IntKind.wrap_i64]; omega
      have g0 : decide ((0 : Int) < (j : Int)) = true := decide_eq_true (by omega)
      have g0n : decide (0 < j) = true := decide_eq_true (by omega)
      have hjn : ((j - 1 : Nat) : Int) < (S.length : Int) := by omega
      have hgo : Hid (ltI (kx, ix) (y1, y2) = true → ∀ y ∈ S.drop (j - 1), ltI (kx, ix) y = true) := fun hl y hy => by
        rw [drop_at hxh.out, show j - 1 + 1 = j by omega] at hy
        rcases List.mem_cons.1 hy with rfl | hy
        · exact hl
        · exact hdrh.out y hy
      have hst : Hid (ltI (kx, ix) (y1, y2) = false → (j = 0 ∨ ∃ y, S[j - 1]? = some y ∧ ltI (kx, ix) y = false)) := fun hl => .inr ⟨_, hxh.out, hl⟩
      clear hx
      by_cases c1 : kx < y1
      · have g1 : decide (kx < y1) = true := decide_eq_true c1
        have hnx := Lib.hid (hgo.out (ltI_iff.2 (.inl c1)))
        clear hgo hst c1
        go_wp2_with fail
        go_upto_region 4 with fail
        refine wp_region_below wr.heap.size (by kernel_rfl) (by kernel_rfl) ?_
        intro C hC
        repeat (go_big_quiet_step (first
          | ((intro _; with_reducible rfl))
          | (intro hc; have m0 := (hc.cell (p := ⟨hp, 0, none⟩) zhp).trans h0c; have m1 := (hc.cell (p := ⟨bk, 0, none⟩) zbk).trans b0c; have m2 := (hc.cell (p := ⟨bk, 1, none⟩) zbk).trans b1c; have m3 := (hc.cell (p := ⟨b, o + (j - 1) * 2, none⟩) hbs).trans y0; have m4 := (hc.cell (p := ⟨b, o + (j - 1) * 2 + 1, none⟩) hbs).trans y1c; simp only [m0, m1, m2, m3, m4, Result.andThen]; exact ⟨trivial, rfl⟩)))
        refine wpQuiet_nil ?_
        intro w9 hb9
        clear hC
        have hfin := Lib.hid (hbjh.out.trans (hb9.mono hbjh.out.size))
        clear hb9
        go_wp2_with fail
        go_roundw
        case rel => exact ⟨j - 1, by omega, by go_num, hfin.out, hnx.out⟩
        case measure => simp [intOf]; omega
      · have g1 : decide (kx < y1) = false := decide_eq_false c1
        by_cases c2 : y1 = kx
        · have g2 : (y1 == kx) = true := by simpa using c2
          by_cases c3 : ix < y2
          · have g3 : decide (ix < y2) = true := decide_eq_true c3
            have hnx := Lib.hid (hgo.out (ltI_iff.2 (.inr ⟨c2.symm, c3⟩)))
            clear hgo hst c1 c2 c3
            go_wp2_with fail
            go_upto_region 4 with fail
            refine wp_region_below wr.heap.size (by kernel_rfl) (by kernel_rfl) ?_
            intro C hC
            repeat (go_big_quiet_step (first
              | ((intro _; with_reducible rfl))
              | (intro hc; have m0 := (hc.cell (p := ⟨hp, 0, none⟩) zhp).trans h0c; have m1 := (hc.cell (p := ⟨bk, 0, none⟩) zbk).trans b0c; have m2 := (hc.cell (p := ⟨bk, 1, none⟩) zbk).trans b1c; have m3 := (hc.cell (p := ⟨b, o + (j - 1) * 2, none⟩) hbs).trans y0; have m4 := (hc.cell (p := ⟨b, o + (j - 1) * 2 + 1, none⟩) hbs).trans y1c; simp only [m0, m1, m2, m3, m4, Result.andThen]; exact ⟨trivial, rfl⟩)))
            refine wpQuiet_nil ?_
            intro w9 hb9
            clear hC
            have hfin := Lib.hid (hbjh.out.trans (hb9.mono hbjh.out.size))
            clear hb9
            go_wp2_with fail
            go_roundw
            case rel => exact ⟨j - 1, by omega, by go_num, hfin.out, hnx.out⟩
            case measure => simp [intOf]; omega
          · have g3 : decide (ix < y2) = false := decide_eq_false c3
            have hex := Lib.hid (hst.out (ltI_no.2 (by simp only; omega)))
            clear hgo hst c1 c2 c3
            go_wp2_with fail
            go_upto_region 4 with fail
            refine wp_region_below wr.heap.size (by kernel_rfl) (by kernel_rfl) ?_
            intro C hC
            repeat (go_big_quiet_step (first
              | ((intro _; with_reducible rfl))
              | (intro hc; have m0 := (hc.cell (p := ⟨hp, 0, none⟩) zhp).trans h0c; have m1 := (hc.cell (p := ⟨bk, 0, none⟩) zbk).trans b0c; have m2 := (hc.cell (p := ⟨bk, 1, none⟩) zbk).trans b1c; have m3 := (hc.cell (p := ⟨b, o + (j - 1) * 2, none⟩) hbs).trans y0; have m4 := (hc.cell (p := ⟨b, o + (j - 1) * 2 + 1, none⟩) hbs).trans y1c; simp only [m0, m1, m2, m3, m4, Result.andThen]; exact ⟨trivial, rfl⟩)))
            refine wpQuiet_nil ?_
            intro w9 hb9
            clear hC
            have hbw := Lib.hid (hbjh.out.trans (hb9.mono hbjh.out.size))
            have hH0 := Lib.hid ((hbw.out.block hp zh1).trans hH1.out)
            have b0 := (hbw.out.cell (p := ⟨bk, 0, none⟩) zb1).trans b0
            have b1 := (hbw.out.cell (p := ⟨bk, 1, none⟩) zb1).trans b1
            have zbk9 := Nat.lt_of_lt_of_le zb1 hbw.out.size
            clear hb9
            obtain ⟨w3, hw3⟩ : ∃ q, w9 = q := ⟨_, rfl⟩
            rw [hw3] at hbw hH0 b0 b1 zbk9 ⊢
            clear hw3
            have r3 := h2h.out.below hbw.out
            have rA : Hid (∀ W, But w3 W [hp] → Rd W 2 pairE A j (S.take j)) := fun W hW => (r3.take (k := j) hj).but1 hW (fun a e => (h6h.out a e).2)
            have rB : Hid (∀ W, But w3 W [hp] → Rd W 2 pairE (cutA A c j 2) (S.length - j) (S.drop j)) := fun W hW => (r3.drop (k := j) hj h3).but1 hW (cut_ne fun a e => (h6h.out a e).2)
            have hh := fun W => run_head0 (P := Try.prog) (t := 48) (e := 53) (s := 2) Try.underlying48 (by kernel_rfl) (fun W => by simp [go_sem]) A S.length c j (by omega) .i64 W
            have hd := fun W => run_cut (P := Try.prog) (t := 48) (e := 53) (s := 2) Try.underlying48 (by kernel_rfl) (fun W => by simp [go_sem]) A S.length c j hj .i64 W
            clear r3
            go_wp2_with fail
            go_upto_region 6 with fail
            refine wp_region_ghost (fun fl x w => GH w3 hp (.slice A S.length c) (S.take j) (S.take j ++ [(kx, ix)]) (S.take j ++ [(kx, ix)] ++ S.drop j) ((kx, ix)) (fl 1) (fl 8) (fl 11) (fl 18) (fl 21) (fl 10) (fl 7) (fl 17) (x 1) (x 8) (x 11) (x 18) (x 10) w ∧ (fl 7 = true → fl 5 = true) ∧ (fl 17 = true → fl 15 = true)) (by kernel_rfl) (by kernel_rfl) (by kernel_rfl) (by kernel_rfl) (by kernel_rfl) ?_ ?_
            · intro x0
              exact ⟨GH.start rfl rfl rfl rfl rfl rfl hH0.out, (fun h => by cases h), fun h => by cases h⟩
            intro base O hbase hO
            have kx0 : Hid (∀ xs, evX base O xs (.tmp 0) = .pointer (some ⟨hp, 0, none⟩)) := fun xs => by rw [hbase, hO]; rfl
            have kx3 : Hid (∀ xs, evX base O xs (.tmp 3) = .pointer (some ⟨bk, 0, none⟩)) := fun xs => by rw [hbase, hO]; rfl
            have kx5 : Hid (∀ xs, evX base O xs (.tmp 5) = .int .i64 (j : Int)) := fun xs => by rw [hbase, hO]; rfl
            have kx62 : Hid (∀ xs, evX base O xs (.tmp 62) = xs 0) := fun xs => by rw [hO]; rfl
            have kx63 : Hid (∀ xs, evX base O xs (.tmp 63) = xs 1) := fun xs => by rw [hO]; rfl
            have kx64 : Hid (∀ xs, evX base O xs (.tmp 64) = xs 2) := fun xs => by rw [hO]; rfl
            have kx65 : Hid (∀ xs, evX base O xs (.tmp 65) = xs 3) := fun xs => by rw [hO]; rfl
            have kx66 : Hid (∀ xs, evX base O xs (.tmp 66) = xs 4) := fun xs => by rw [hO]; rfl
            have kx67 : Hid (∀ xs, evX base O xs (.tmp 67) = xs 5) := fun xs => by rw [hO]; rfl
            have kx68 : Hid (∀ xs, evX base O xs (.tmp 68) = xs 6) := fun xs => by rw [hO]; rfl
            have kx69 : Hid (∀ xs, evX base O xs (.tmp 69) = xs 7) := fun xs => by rw [hO]; rfl
            have kx70 : Hid (∀ xs, evX base O xs (.tmp 70) = xs 8) := fun xs => by rw [hO]; rfl
            have kx71 : Hid (∀ xs, evX base O xs (.tmp 71) = xs 9) := fun xs => by rw [hO]; rfl
            have kx72 : Hid (∀ xs, evX base O xs (.tmp 72) = xs 10) := fun xs => by rw [hO]; rfl
            have kx73 : Hid (∀ xs, evX base O xs (.tmp 73) = xs 11) := fun xs => by rw [hO]; rfl
            have kx74 : Hid (∀ xs, evX base O xs (.tmp 74) = xs 12) := fun xs => by rw [hO]; rfl
            have kx75 : Hid (∀ xs, evX base O xs (.tmp 75) = xs 13) := fun xs => by rw [hO]; rfl
            have kx76 : Hid (∀ xs, evX base O xs (.tmp 76) = xs 14) := fun xs => by rw [hO]; rfl
            have kx77 : Hid (∀ xs, evX base O xs (.tmp 77) = xs 15) := fun xs => by rw [hO]; rfl
            have kx78 : Hid (∀ xs, evX base O xs (.tmp 78) = xs 16) := fun xs => by rw [hO]; rfl
            have kx79 : Hid (∀ xs, evX base O xs (.tmp 79) = xs 17) := fun xs => by rw [hO]; rfl
            have kx80 : Hid (∀ xs, evX base O xs (.tmp 80) = xs 18) := fun xs => by rw [hO]; rfl
            have kx81 : Hid (∀ xs, evX base O xs (.tmp 81) = xs 19) := fun xs => by rw [hO]; rfl
            have kx82 : Hid (∀ xs, evX base O xs (.tmp 82) = xs 20) := fun xs => by rw [hO]; rfl
            clear hbase hO
            apply gh_det (n := 0)
            · intro fl xs w ev hG hD hl hdone hev K hK
              have e0 := (hev (.tmp 0)).trans (kx0.out xs)
              rw [if_pos (wantedX_none rfl)]
              have ef : ∀ f, ev (.func f) = .func (.func f) #[] #[] := fun f => (hev _).trans rfl
              clear hev hD
              go_simp
              exact hK _ _ rfl hG
            refine gh_any (n := 1) (fun _ => True) ?_ ?_
            · intro fl xs w ev hG hD hl hdone hev K hK
              rw [if_pos (wantedX_none rfl)]
              have ef : ∀ f, ev (.func f) = .func (.func f) #[] #[] := fun f => (hev _).trans rfl
              clear hev hD
              go_simp
              exact hK _ _ trivial ⟨hG.1.l0S hl, hG.2⟩
            apply gh_det (n := 2)
            · intro fl xs w ev hG hD hl hdone hev K hK
              have e0 := (hev (.tmp 0)).trans (kx0.out xs)
              rw [if_pos (wantedX_none rfl)]
              have ef : ∀ f, ev (.func f) = .func (.func f) #[] #[] := fun f => (hev _).trans rfl
              clear hev hD
              go_simp
              exact hK _ _ rfl hG
            apply gh_det (n := 3)
            · intro fl xs w ev hG hD hl hdone hev K hK
              have e64 := (hev (.tmp 64)).trans (kx64.out xs)
              have d2 := hD.at_ 2 rfl rfl
              replace e64 := e64.trans d2
              rw [if_pos (wantedX_none rfl)]
              have ef : ∀ f, ev (.func f) = .func (.func f) #[] #[] := fun f => (hev _).trans rfl
              clear hev hD
              go_simp
              exact hK _ _ rfl hG
            apply gh_det (n := 4)
            · intro fl xs w ev hG hD hl hdone hev K hK
              have e65 := (hev (.tmp 65)).trans (kx65.out xs)
              have d3 := hD.at_ 3 rfl rfl
              replace e65 := e65.trans d3
              rw [if_pos (wantedX_none rfl)]
              have ef : ∀ f, ev (.func f) = .func (.func f) #[] #[] := fun f => (hev _).trans rfl
              clear hev hD
              go_simp
              exact hK _ _ rfl hG
            apply gh_det (n := 5)
            · intro fl xs w ev hG hD hl hdone hev K hK
              have e66 := (hev (.tmp 66)).trans (kx66.out xs)
              have d4 := hD.at_ 4 rfl rfl
              replace e66 := e66.trans d4
              rw [if_pos (wantedX_none rfl)]
              have ef : ∀ f, ev (.func f) = .func (.func f) #[] #[] := fun f => (hev _).trans rfl
              clear hev hD
              have m0 := cell_of_one (hG.1.r1R (bne2 hG.2.1 hl))
              go_simp
              exact hK _ _ rfl ⟨hG.1, fun _ => rfl, hG.2.2⟩
            apply gh_det (n := 6)
            · intro fl xs w ev hG hD hl hdone hev K hK
              have e5 := (hev (.tmp 5)).trans (kx5.out xs)
              rw [if_pos (wantedX_none rfl)]
              have ef : ∀ f, ev (.func f) = .func (.func f) #[] #[] := fun f => (hev _).trans rfl
              clear hev hD
              go_simp
              exact hK _ _ rfl hG
            apply gh_det (n := 7)
            · intro fl xs w ev hG hD hl hdone hev K hK
              have e67 := (hev (.tmp 67)).trans (kx67.out xs)
              have d5 := hD.at_ 5 rfl rfl
              replace e67 := e67.trans d5
              have e68 := (hev (.tmp 68)).trans (kx68.out xs)
              have d6 := hD.at_ 6 rfl rfl
              replace e68 := e68.trans d6
              rw [if_pos (wantedX_none rfl)]
              have ef : ∀ f, ev (.func f) = .func (.func f) #[] #[] := fun f => (hev _).trans rfl
              clear hev hD
              go_simp
              exact hK _ _ rfl ⟨hG.1.r1S, fun _ => done_of hdone 5 rfl, hG.2.2⟩
            refine gh_any (n := 8) (fun _ => True) ?_ ?_
            · intro fl xs w ev hG hD hl hdone hev K hK
              have e63 := (hev (.tmp 63)).trans (kx63.out xs)
              have e69 := (hev (.tmp 69)).trans (kx69.out xs)
              have d7 := hD.at_ 7 rfl rfl
              replace e69 := e69.trans d7
              rw [if_pos (wantedX_none rfl)]
              have ef : ∀ f, ev (.func f) = .func (.func f) #[] #[] := fun f => (hev _).trans rfl
              clear hev hD
              have own := hG.1.o0 (done_of hdone 1 rfl) hl
              obtain ⟨v', w1', hrun, own1, hgr, hnew⟩ := app_items c (L := []) own (rA.out w hG.1.but) (by simp only [List.length_append, List.length_take, List.length_drop, List.length_cons, List.length_nil]; have := hSl; omega) hG.1.but.size
              rw [List.nil_append] at own1
              exact outcome_append (.tmp 63) (.tmp 69) 48 rfl e63 e69 hrun (hK _ _ trivial ⟨hG.1.a1S hl (done_of hdone 1 rfl) (done_of hdone 7 rfl) own1 hgr hnew, hG.2⟩)
            apply gh_det (n := 9)
            · intro fl xs w ev hG hD hl hdone hev K hK
              have e3 := (hev (.tmp 3)).trans (kx3.out xs)
              rw [if_pos (wantedX_none rfl)]
              have ef : ∀ f, ev (.func f) = .func (.func f) #[] #[] := fun f => (hev _).trans rfl
              clear hev hD
              have m0 := (hG.1.but.cell (p := ⟨bk, 0, none⟩) zbk9 nbk).trans b0
              have m1 := (hG.1.but.cell (p := ⟨bk, 1, none⟩) zbk9 nbk).trans b1
              go_simp
              exact hK _ _ rfl hG
            refine gh_any (n := 10) (fun _ => True) ?_ ?_
            · intro fl xs w ev hG hD hl hdone hev K hK
              have e71 := (hev (.tmp 71)).trans (kx71.out xs)
              have d9 := hD.at_ 9 rfl rfl
              replace e71 := e71.trans d9
              rw [if_pos (wantedX_none rfl)]
              have ef : ∀ f, ev (.func f) = .func (.func f) #[] #[] := fun f => (hev _).trans rfl
              clear hev hD
              go_simp
              exact hK _ _ trivial ⟨hG.1.litS hl, hG.2⟩
            refine gh_any (n := 11) (fun _ => True) ?_ ?_
            · intro fl xs w ev hG hD hl hdone hev K hK
              have e70 := (hev (.tmp 70)).trans (kx70.out xs)
              have e72 := (hev (.tmp 72)).trans (kx72.out xs)
              rw [if_pos (wantedX_none rfl)]
              have ef : ∀ f, ev (.func f) = .func (.func f) #[] #[] := fun f => (hev _).trans rfl
              clear hev hD
              have own := hG.1.o1 (done_of hdone 8 rfl) hl
              obtain ⟨g5, c5, e5, r5, _⟩ := hG.1.ol (done_of hdone 10 rfl) hl
              rw [e5] at e72
              obtain ⟨v', w1', hrun, own1, hgr, hnew⟩ := app_items c5 own r5 (by simp only [List.length_append, List.length_take, List.length_drop, List.length_cons, List.length_nil]; have := hSl; omega) hG.1.but.size
              exact outcome_append (.tmp 70) (.tmp 72) 48 rfl e70 e72 hrun (hK _ _ trivial ⟨hG.1.a2S hl (done_of hdone 8 rfl) (done_of hdone 10 rfl) own1 hgr, hG.2⟩)
            apply gh_det (n := 12)
            · intro fl xs w ev hG hD hl hdone hev K hK
              have e0 := (hev (.tmp 0)).trans (kx0.out xs)
              rw [if_pos (wantedX_none rfl)]
              have ef : ∀ f, ev (.func f) = .func (.func f) #[] #[] := fun f => (hev _).trans rfl
              clear hev hD
              go_simp
              exact hK _ _ rfl hG
            apply gh_det (n := 13)
            · intro fl xs w ev hG hD hl hdone hev K hK
              have e74 := (hev (.tmp 74)).trans (kx74.out xs)
              have d12 := hD.at_ 12 rfl rfl
              replace e74 := e74.trans d12
              rw [if_pos (wantedX_none rfl)]
              have ef : ∀ f, ev (.func f) = .func (.func f) #[] #[] := fun f => (hev _).trans rfl
              clear hev hD
              go_simp
              exact hK _ _ rfl hG
            apply gh_det (n := 14)
            · intro fl xs w ev hG hD hl hdone hev K hK
              have e75 := (hev (.tmp 75)).trans (kx75.out xs)
              have d13 := hD.at_ 13 rfl rfl
              replace e75 := e75.trans d13
              rw [if_pos (wantedX_none rfl)]
              have ef : ∀ f, ev (.func f) = .func (.func f) #[] #[] := fun f => (hev _).trans rfl
              clear hev hD
              go_simp
              exact hK _ _ rfl hG
            apply gh_det (n := 15)
            · intro fl xs w ev hG hD hl hdone hev K hK
              have e76 := (hev (.tmp 76)).trans (kx76.out xs)
              have d14 := hD.at_ 14 rfl rfl
              replace e76 := e76.trans d14
              rw [if_pos (wantedX_none rfl)]
              have ef : ∀ f, ev (.func f) = .func (.func f) #[] #[] := fun f => (hev _).trans rfl
              clear hev hD
              have m0 := cell_of_one (hG.1.r2R (bne2 hG.2.2 hl))
              go_simp
              exact hK _ _ rfl ⟨hG.1, hG.2.1, fun _ => rfl⟩
            apply gh_det (n := 16)
            · intro fl xs w ev hG hD hl hdone hev K hK
              have e5 := (hev (.tmp 5)).trans (kx5.out xs)
              rw [if_pos (wantedX_none rfl)]
              have ef : ∀ f, ev (.func f) = .func (.func f) #[] #[] := fun f => (hev _).trans rfl
              clear hev hD
              go_simp
              exact hK _ _ rfl hG
            apply gh_det (n := 17)
            · intro fl xs w ev hG hD hl hdone hev K hK
              have e77 := (hev (.tmp 77)).trans (kx77.out xs)
              have d15 := hD.at_ 15 rfl rfl
              replace e77 := e77.trans d15
              have e78 := (hev (.tmp 78)).trans (kx78.out xs)
              have d16 := hD.at_ 16 rfl rfl
              replace e78 := e78.trans d16
              rw [if_pos (wantedX_none rfl)]
              have ef : ∀ f, ev (.func f) = .func (.func f) #[] #[] := fun f => (hev _).trans rfl
              clear hev hD
              go_simp
              exact hK _ _ rfl ⟨hG.1.r2S, hG.2.1, fun _ => done_of hdone 15 rfl⟩
            refine gh_any (n := 18) (fun _ => True) ?_ ?_
            · intro fl xs w ev hG hD hl hdone hev K hK
              have e73 := (hev (.tmp 73)).trans (kx73.out xs)
              have e79 := (hev (.tmp 79)).trans (kx79.out xs)
              have d17 := hD.at_ 17 rfl rfl
              replace e79 := e79.trans d17
              rw [if_pos (wantedX_none rfl)]
              have ef : ∀ f, ev (.func f) = .func (.func f) #[] #[] := fun f => (hev _).trans rfl
              clear hev hD
              have own := hG.1.o2 (done_of hdone 11 rfl) hl
              obtain ⟨v', w1', hrun, own1, hgr, hnew⟩ := app_items _ own (rB.out w hG.1.but) (by simp only [List.length_append, List.length_take, List.length_drop, List.length_cons, List.length_nil]; have := hSl; omega) hG.1.but.size
              exact outcome_append (.tmp 73) (.tmp 79) 48 rfl e73 e79 hrun (hK _ _ trivial ⟨hG.1.a3S hl (done_of hdone 11 rfl) (done_of hdone 17 rfl) own1 hgr, hG.2⟩)
            apply gh_det (n := 19)
            · intro fl xs w ev hG hD hl hdone hev K hK
              have e62 := (hev (.tmp 62)).trans (kx62.out xs)
              have d0 := hD.at_ 0 rfl rfl
              replace e62 := e62.trans d0
              rw [if_pos (wantedX_none rfl)]
              have ef : ∀ f, ev (.func f) = .func (.func f) #[] #[] := fun f => (hev _).trans rfl
              clear hev hD
              go_simp
              exact hK _ _ rfl hG
            apply gh_det (n := 20)
            · intro fl xs w ev hG hD hl hdone hev K hK
              have e81 := (hev (.tmp 81)).trans (kx81.out xs)
              have d19 := hD.at_ 19 rfl rfl
              replace e81 := e81.trans d19
              rw [if_pos (wantedX_none rfl)]
              have ef : ∀ f, ev (.func f) = .func (.func f) #[] #[] := fun f => (hev _).trans rfl
              clear hev hD
              go_simp
              exact hK _ _ rfl hG
            refine gh_any (n := 21) (fun _ => True) ?_ ?_
            · intro fl xs w ev hG hD hl hdone hev K hK
              have e82 := (hev (.tmp 82)).trans (kx82.out xs)
              have d20 := hD.at_ 20 rfl rfl
              replace e82 := e82.trans d20
              have e80 := (hev (.tmp 80)).trans (kx80.out xs)
              rw [if_pos (wantedX_none rfl)]
              have ef : ∀ f, ev (.func f) = .func (.func f) #[] #[] := fun f => (hev _).trans rfl
              clear hev hD
              have own := hG.1.o3 (done_of hdone 18 rfl)
              have hh0 := hG.1.h0 hl
              have c00 := cell_of_one hh0
              have f00 := free_of_one hh0
              obtain ⟨n7, hn7⟩ : ∃ n7, (S.take j ++ [(kx, ix)] ++ S.drop j).length = n7 := ⟨_, rfl⟩
              rw [hn7] at own
              obtain ⟨A7, c7, e7, _⟩ := Rd.of_own (enc := pairE) pairE_len2 hn7 own
              rw [e7] at e80
              clear own hn7
              go_simp
              refine hK _ _ trivial ?_
              rw [← e7]
              exact ⟨hG.1.stS hl (done_of hdone 18 rfl), hG.2⟩
            clear kx0 kx3 kx5 kx62 kx63 kx64 kx65 kx66 kx67 kx68 kx69 kx70 kx71 kx72 kx73 kx74 kx75 kx76 kx77 kx78 kx79 kx80 kx81 kx82
            intro xs w9 hG hI
            obtain ⟨X', hR9, hb9, hX9⟩ := hG.1.fin rfl
            clear hG hI
            simp only [List.append_eq, List.cons_append, List.nil_append, setAll, List.setIfInBounds_toArray, List.set_cons_zero, List.set_cons_succ]
            clear hh hd
            have hfin : Hid (RPost w w9 hp X (S.take j ++ [(kx, ix)] ++ S.drop j)) := RPost.mk' hm.out (hb1h.out.trans (hbw.out.mono hb1h.out.size)) hR9 hb9 hX9
            clear hR9 hb9 hX9
            go_wp2_with fail
            go_returns
            exact ⟨rfl, j, hj, hdrh.out, hex.out, hfin.out⟩
        · have g2 : (y1 == kx) = false := by simpa using c2
          have hex := Lib.hid (hst.out (ltI_no.2 (by simp only; omega)))
          clear hgo hst c1 c2
          go_wp2_with fail
          go_upto_region 4 with fail
          refine wp_region_below wr.heap.size (by kernel_rfl) (by kernel_rfl) ?_
          intro C hC
          repeat (go_big_quiet_step (first
            | ((intro _; with_reducible rfl))
            | (intro hc; have m0 := (hc.cell (p := ⟨hp, 0, none⟩) zhp).trans h0c; have m1 := (hc.cell (p := ⟨bk, 0, none⟩) zbk).trans b0c; have m2 := (hc.cell (p := ⟨bk, 1, none⟩) zbk).trans b1c; have m3 := (hc.cell (p := ⟨b, o + (j - 1) * 2, none⟩) hbs).trans y0; have m4 := (hc.cell (p := ⟨b, o + (j - 1) * 2 + 1, none⟩) hbs).trans y1c; simp only [m0, m1, m2, m3, m4, Result.andThen]; exact ⟨trivial, rfl⟩)))
          refine wpQuiet_nil ?_
          intro w9 hb9
          clear hC
          have hbw := Lib.hid (hbjh.out.trans (hb9.mono hbjh.out.size))
          have hH0 := Lib.hid ((hbw.out.block hp zh1).trans hH1.out)
          have b0 := (hbw.out.cell (p := ⟨bk, 0, none⟩) zb1).trans b0
          have b1 := (hbw.out.cell (p := ⟨bk, 1, none⟩) zb1).trans b1
          have zbk9 := Nat.lt_of_lt_of_le zb1 hbw.out.size
          clear hb9
          obtain ⟨w3, hw3⟩ : ∃ q, w9 = q := ⟨_, rfl⟩
          rw [hw3] at hbw hH0 b0 b1 zbk9 ⊢
          clear hw3
          have r3 := h2h.out.below hbw.out
          have rA : Hid (∀ W, But w3 W [hp] → Rd W 2 pairE A j (S.take j)) := fun W hW => (r3.take (k := j) hj).but1 hW (fun a e => (h6h.out a e).2)
          have rB : Hid (∀ W, But w3 W [hp] → Rd W 2 pairE (cutA A c j 2) (S.length - j) (S.drop j)) := fun W hW => (r3.drop (k := j) hj h3).but1 hW (cut_ne fun a e => (h6h.out a e).2)
          have hh := fun W => run_head0 (P := Try.prog) (t := 48) (e := 53) (s := 2) Try.underlying48 (by kernel_rfl) (fun W => by simp [go_sem]) A S.length c j (by omega) .i64 W
          have hd := fun W => run_cut (P := Try.prog) (t := 48) (e := 53) (s := 2) Try.underlying48 (by kernel_rfl) (fun W => by simp [go_sem]) A S.length c j hj .i64 W
          clear r3
          go_wp2_with fail
          go_upto_region 6 with fail
          refine wp_region_ghost (fun fl x w => GH w3 hp (.slice A S.length c) (S.take j) (S.take j ++ [(kx, ix)]) (S.take j ++ [(kx, ix)] ++ S.drop j) ((kx, ix)) (fl 1) (fl 8) (fl 11) (fl 18) (fl 21) (fl 10) (fl 7) (fl 17) (x 1) (x 8) (x 11) (x 18) (x 10) w ∧ (fl 7 = true → fl 5 = true) ∧ (fl 17 = true → fl 15 = true)) (by kernel_rfl) (by kernel_rfl) (by kernel_rfl) (by kernel_rfl) (by kernel_rfl) ?_ ?_
          · intro x0
            exact ⟨GH.start rfl rfl rfl rfl rfl rfl hH0.out, (fun h => by cases h), fun h => by cases h⟩
          intro base O hbase hO
          have kx0 : Hid (∀ xs, evX base O xs (.tmp 0) = .pointer (some ⟨hp, 0, none⟩)) := fun xs => by rw [hbase, hO]; rfl
          have kx3 : Hid (∀ xs, evX base O xs (.tmp 3) = .pointer (some ⟨bk, 0, none⟩)) := fun xs => by rw [hbase, hO]; rfl
          have kx5 : Hid (∀ xs, evX base O xs (.tmp 5) = .int .i64 (j : Int)) := fun xs => by rw [hbase, hO]; rfl
          have kx62 : Hid (∀ xs, evX base O xs (.tmp 62) = xs 0) := fun xs => by rw [hO]; rfl
          have kx63 : Hid (∀ xs, evX base O xs (.tmp 63) = xs 1) := fun xs => by rw [hO]; rfl
          have kx64 : Hid (∀ xs, evX base O xs (.tmp 64) = xs 2) := fun xs => by rw [hO]; rfl
          have kx65 : Hid (∀ xs, evX base O xs (.tmp 65) = xs 3) := fun xs => by rw [hO]; rfl
          have kx66 : Hid (∀ xs, evX base O xs (.tmp 66) = xs 4) := fun xs => by rw [hO]; rfl
          have kx67 : Hid (∀ xs, evX base O xs (.tmp 67) = xs 5) := fun xs => by rw [hO]; rfl
          have kx68 : Hid (∀ xs, evX base O xs (.tmp 68) = xs 6) := fun xs => by rw [hO]; rfl
          have kx69 : Hid (∀ xs, evX base O xs (.tmp 69) = xs 7) := fun xs => by rw [hO]; rfl
          have kx70 : Hid (∀ xs, evX base O xs (.tmp 70) = xs 8) := fun xs => by rw [hO]; rfl
          have kx71 : Hid (∀ xs, evX base O xs (.tmp 71) = xs 9) := fun xs => by rw [hO]; rfl
          have kx72 : Hid (∀ xs, evX base O xs (.tmp 72) = xs 10) := fun xs => by rw [hO]; rfl
          have kx73 : Hid (∀ xs, evX base O xs (.tmp 73) = xs 11) := fun xs => by rw [hO]; rfl
          have kx74 : Hid (∀ xs, evX base O xs (.tmp 74) = xs 12) := fun xs => by rw [hO]; rfl
          have kx75 : Hid (∀ xs, evX base O xs (.tmp 75) = xs 13) := fun xs => by rw [hO]; rfl
          have kx76 : Hid (∀ xs, evX base O xs (.tmp 76) = xs 14) := fun xs => by rw [hO]; rfl
          have kx77 : Hid (∀ xs, evX base O xs (.tmp 77) = xs 15) := fun xs => by rw [hO]; rfl
          have kx78 : Hid (∀ xs, evX base O xs (.tmp 78) = xs 16) := fun xs => by rw [hO]; rfl
          have kx79 : Hid (∀ xs, evX base O xs (.tmp 79) = xs 17) := fun xs => by rw [hO]; rfl
          have kx80 : Hid (∀ xs, evX base O xs (.tmp 80) = xs 18) := fun xs => by rw [hO]; rfl
          have kx81 : Hid (∀ xs, evX base O xs (.tmp 81) = xs 19) := fun xs => by rw [hO]; rfl
          have kx82 : Hid (∀ xs, evX base O xs (.tmp 82) = xs 20) := fun xs => by rw [hO]; rfl
          clear hbase hO
          apply gh_det (n := 0)
          · intro fl xs w ev hG hD hl hdone hev K hK
            have e0 := (hev (.tmp 0)).trans (kx0.out xs)
            rw [if_pos (wantedX_none rfl)]
            have ef : ∀ f, ev (.func f) = .func (.func f) #[] #[] := fun f => (hev _).trans rfl
            clear hev hD
            go_simp
            exact hK _ _ rfl hG
          refine gh_any (n := 1) (fun _ => True) ?_ ?_
          · intro fl xs w ev hG hD hl hdone hev K hK
            rw [if_pos (wantedX_none rfl)]
            have ef : ∀ f, ev (.func f) = .func (.func f) #[] #[] := fun f => (hev _).trans rfl
            clear hev hD
            go_simp
            exact hK _ _ trivial ⟨hG.1.l0S hl, hG.2⟩
          apply gh_det (n := 2)
          · intro fl xs w ev hG hD hl hdone hev K hK
            have e0 := (hev (.tmp 0)).trans (kx0.out xs)
            rw [if_pos (wantedX_none rfl)]
            have ef : ∀ f, ev (.func f) = .func (.func f) #[] #[] := fun f => (hev _).trans rfl
            clear hev hD
            go_simp
            exact hK _ _ rfl hG
          apply gh_det (n := 3)
          · intro fl xs w ev hG hD hl hdone hev K hK
            have e64 := (hev (.tmp 64)).trans (kx64.out xs)
            have d2 := hD.at_ 2 rfl rfl
            replace e64 := e64.trans d2
            rw [if_pos (wantedX_none rfl)]
            have ef : ∀ f, ev (.func f) = .func (.func f) #[] #[] := fun f => (hev _).trans rfl
            clear hev hD
            go_simp
            exact hK _ _ rfl hG
          apply gh_det (n := 4)
          · intro fl xs w ev hG hD hl hdone hev K hK
            have e65 := (hev (.tmp 65)).trans (kx65.out xs)
            have d3 := hD.at_ 3 rfl rfl
            replace e65 := e65.trans d3
            rw [if_pos (wantedX_none rfl)]
            have ef : ∀ f, ev (.func f) = .func (.func f) #[] #[] := fun f => (hev _).trans rfl
            clear hev hD
            go_simp
            exact hK _ _ rfl hG
          apply gh_det (n := 5)
          · intro fl xs w ev hG hD hl hdone hev K hK
            have e66 := (hev (.tmp 66)).trans (kx66.out xs)
            have d4 := hD.at_ 4 rfl rfl
            replace e66 := e66.trans d4
            rw [if_pos (wantedX_none rfl)]
            have ef : ∀ f, ev (.func f) = .func (.func f) #[] #[] := fun f => (hev _).trans rfl
            clear hev hD
            have m0 := cell_of_one (hG.1.r1R (bne2 hG.2.1 hl))
            go_simp
            exact hK _ _ rfl ⟨hG.1, fun _ => rfl, hG.2.2⟩
          apply gh_det (n := 6)
          · intro fl xs w ev hG hD hl hdone hev K hK
            have e5 := (hev (.tmp 5)).trans (kx5.out xs)
            rw [if_pos (wantedX_none rfl)]
            have ef : ∀ f, ev (.func f) = .func (.func f) #[] #[] := fun f => (hev _).trans rfl
            clear hev hD
            go_simp
            exact hK _ _ rfl hG
          apply gh_det (n := 7)
          · intro fl xs w ev hG hD hl hdone hev K hK
            have e67 := (hev (.tmp 67)).trans (kx67.out xs)
            have d5 := hD.at_ 5 rfl rfl
            replace e67 := e67.trans d5
            have e68 := (hev (.tmp 68)).trans (kx68.out xs)
            have d6 := hD.at_ 6 rfl rfl
            replace e68 := e68.trans d6
            rw [if_pos (wantedX_none rfl)]
            have ef : ∀ f, ev (.func f) = .func (.func f) #[] #[] := fun f => (hev _).trans rfl
            clear hev hD
            go_simp
            exact hK _ _ rfl ⟨hG.1.r1S, fun _ => done_of hdone 5 rfl, hG.2.2⟩
          refine gh_any (n := 8) (fun _ => True) ?_ ?_
          · intro fl xs w ev hG hD hl hdone hev K hK
            have e63 := (hev (.tmp 63)).trans (kx63.out xs)
            have e69 := (hev (.tmp 69)).trans (kx69.out xs)
            have d7 := hD.at_ 7 rfl rfl
            replace e69 := e69.trans d7
            rw [if_pos (wantedX_none rfl)]
            have ef : ∀ f, ev (.func f) = .func (.func f) #[] #[] := fun f => (hev _).trans rfl
            clear hev hD
            have own := hG.1.o0 (done_of hdone 1 rfl) hl
            obtain ⟨v', w1', hrun, own1, hgr, hnew⟩ := app_items c (L := []) own (rA.out w hG.1.but) (by simp only [List.length_append, List.length_take, List.length_drop, List.length_cons, List.length_nil]; have := hSl; omega) hG.1.but.size
            rw [List.nil_append] at own1
            exact outcome_append (.tmp 63) (.tmp 69) 48 rfl e63 e69 hrun (hK _ _ trivial ⟨hG.1.a1S hl (done_of hdone 1 rfl) (done_of hdone 7 rfl) own1 hgr hnew, hG.2⟩)
          apply gh_det (n := 9)
          · intro fl xs w ev hG hD hl hdone hev K hK
            have e3 := (hev (.tmp 3)).trans (kx3.out xs)
            rw [if_pos (wantedX_none rfl)]
            have ef : ∀ f, ev (.func f) = .func (.func f) #[] #[] := fun f => (hev _).trans rfl
            clear hev hD
            have m0 := (hG.1.but.cell (p := ⟨bk, 0, none⟩) zbk9 nbk).trans b0
            have m1 := (hG.1.but.cell (p := ⟨bk, 1, none⟩) zbk9 nbk).trans b1
            go_simp
            exact hK _ _ rfl hG
          refine gh_any (n := 10) (fun _ => True) ?_ ?_
          · intro fl xs w ev hG hD hl hdone hev K hK
            have e71 := (hev (.tmp 71)).trans (kx71.out xs)
            have d9 := hD.at_ 9 rfl rfl
            replace e71 := e71.trans d9
            rw [if_pos (wantedX_none rfl)]
            have ef : ∀ f, ev (.func f) = .func (.func f) #[] #[] := fun f => (hev _).trans rfl
            clear hev hD
            go_simp
            exact hK _ _ trivial ⟨hG.1.litS hl, hG.2⟩
          refine gh_any (n := 11) (fun _ => True) ?_ ?_
          · intro fl xs w ev hG hD hl hdone hev K hK
            have e70 := (hev (.tmp 70)).trans (kx70.out xs)
            have e72 := (hev (.tmp 72)).trans (kx72.out xs)
            rw [if_pos (wantedX_none rfl)]
            have ef : ∀ f, ev (.func f) = .func (.func f) #[] #[] := fun f => (hev _).trans rfl
            clear hev hD
            have own := hG.1.o1 (done_of hdone 8 rfl) hl
            obtain ⟨g5, c5, e5, r5, _⟩ := hG.1.ol (done_of hdone 10 rfl) hl
            rw [e5] at e72
            obtain ⟨v', w1', hrun, own1, hgr, hnew⟩ := app_items c5 own r5 (by simp only [List.length_append, List.length_take, List.length_drop, List.length_cons, List.length_nil]; have := hSl; omega) hG.1.but.size
            exact outcome_append (.tmp 70) (.tmp 72) 48 rfl e70 e72 hrun (hK _ _ trivial ⟨hG.1.a2S hl (done_of hdone 8 rfl) (done_of hdone 10 rfl) own1 hgr, hG.2⟩)
          apply gh_det (n := 12)
          · intro fl xs w ev hG hD hl hdone hev K hK
            have e0 := (hev (.tmp 0)).trans (kx0.out xs)
            rw [if_pos (wantedX_none rfl)]
            have ef : ∀ f, ev (.func f) = .func (.func f) #[] #[] := fun f => (hev _).trans rfl
            clear hev hD
            go_simp
            exact hK _ _ rfl hG
          apply gh_det (n := 13)
          · intro fl xs w ev hG hD hl hdone hev K hK
            have e74 := (hev (.tmp 74)).trans (kx74.out xs)
            have d12 := hD.at_ 12 rfl rfl
            replace e74 := e74.trans d12
            rw [if_pos (wantedX_none rfl)]
            have ef : ∀ f, ev (.func f) = .func (.func f) #[] #[] := fun f => (hev _).trans rfl
            clear hev hD
            go_simp
            exact hK _ _ rfl hG
          apply gh_det (n := 14)
          · intro fl xs w ev hG hD hl hdone hev K hK
            have e75 := (hev (.tmp 75)).trans (kx75.out xs)
            have d13 := hD.at_ 13 rfl rfl
            replace e75 := e75.trans d13
            rw [if_pos (wantedX_none rfl)]
            have ef : ∀ f, ev (.func f) = .func (.func f) #[] #[] := fun f => (hev _).trans rfl
            clear hev hD
            go_simp
            exact hK _ _ rfl hG
          apply gh_det (n := 15)
          · intro fl xs w ev hG hD hl hdone hev K hK
            have e76 := (hev (.tmp 76)).trans (kx76.out xs)
            have d14 := hD.at_ 14 rfl rfl
            replace e76 := e76.trans d14
            rw [if_pos (wantedX_none rfl)]
            have ef : ∀ f, ev (.func f) = .func (.func f) #[] #[] := fun f => (hev _).trans rfl
            clear hev hD
            have m0 := cell_of_one (hG.1.r2R (bne2 hG.2.2 hl))
            go_simp
            exact hK _ _ rfl ⟨hG.1, hG.2.1, fun _ => rfl⟩
          apply gh_det (n := 16)
          · intro fl xs w ev hG hD hl hdone hev K hK
            have e5 := (hev (.tmp 5)).trans (kx5.out xs)
            rw [if_pos (wantedX_none rfl)]
            have ef : ∀ f, ev (.func f) = .func (.func f) #[] #[] := fun f => (hev _).trans rfl
            clear hev hD
            go_simp
            exact hK _ _ rfl hG
          apply gh_det (n := 17)
          · intro fl xs w ev hG hD hl hdone hev K hK
            have e77 := (hev (.tmp 77)).trans (kx77.out xs)
            have d15 := hD.at_ 15 rfl rfl
            replace e77 := e77.trans d15
            have e78 := (hev (.tmp 78)).trans (kx78.out xs)
            have d16 := hD.at_ 16 rfl rfl
            replace e78 := e78.trans d16
            rw [if_pos (wantedX_none rfl)]
            have ef : ∀ f, ev (.func f) = .func (.func f) #[] #[] := fun f => (hev _).trans rfl
            clear hev hD
            go_simp
            exact hK _ _ rfl ⟨hG.1.r2S, hG.2.1, fun _ => done_of hdone 15 rfl⟩
          refine gh_any (n := 18) (fun _ => True) ?_ ?_
          · intro fl xs w ev hG hD hl hdone hev K hK
            have e73 := (hev (.tmp 73)).trans (kx73.out xs)
            have e79 := (hev (.tmp 79)).trans (kx79.out xs)
            have d17 := hD.at_ 17 rfl rfl
            replace e79 := e79.trans d17
            rw [if_pos (wantedX_none rfl)]
            have ef : ∀ f, ev (.func f) = .func (.func f) #[] #[] := fun f => (hev _).trans rfl
            clear hev hD
            have own := hG.1.o2 (done_of hdone 11 rfl) hl
            obtain ⟨v', w1', hrun, own1, hgr, hnew⟩ := app_items _ own (rB.out w hG.1.but) (by simp only [List.length_append, List.length_take, List.length_drop, List.length_cons, List.length_nil]; have := hSl; omega) hG.1.but.size
            exact outcome_append (.tmp 73) (.tmp 79) 48 rfl e73 e79 hrun (hK _ _ trivial ⟨hG.1.a3S hl (done_of hdone 11 rfl) (done_of hdone 17 rfl) own1 hgr, hG.2⟩)
          apply gh_det (n := 19)
          · intro fl xs w ev hG hD hl hdone hev K hK
            have e62 := (hev (.tmp 62)).trans (kx62.out xs)
            have d0 := hD.at_ 0 rfl rfl
            replace e62 := e62.trans d0
            rw [if_pos (wantedX_none rfl)]
            have ef : ∀ f, ev (.func f) = .func (.func f) #[] #[] := fun f => (hev _).trans rfl
            clear hev hD
            go_simp
            exact hK _ _ rfl hG
          apply gh_det (n := 20)
          · intro fl xs w ev hG hD hl hdone hev K hK
            have e81 := (hev (.tmp 81)).trans (kx81.out xs)
            have d19 := hD.at_ 19 rfl rfl
            replace e81 := e81.trans d19
            rw [if_pos (wantedX_none rfl)]
            have ef : ∀ f, ev (.func f) = .func (.func f) #[] #[] := fun f => (hev _).trans rfl
            clear hev hD
            go_simp
            exact hK _ _ rfl hG
          refine gh_any (n := 21) (fun _ => True) ?_ ?_
          · intro fl xs w ev hG hD hl hdone hev K hK
            have e82 := (hev (.tmp 82)).trans (kx82.out xs)
            have d20 := hD.at_ 20 rfl rfl
            replace e82 := e82.trans d20
            have e80 := (hev (.tmp 80)).trans (kx80.out xs)
            rw [if_pos (wantedX_none rfl)]
            have ef : ∀ f, ev (.func f) = .func (.func f) #[] #[] := fun f => (hev _).trans rfl
            clear hev hD
            have own := hG.1.o3 (done_of hdone 18 rfl)
            have hh0 := hG.1.h0 hl
            have c00 := cell_of_one hh0
            have f00 := free_of_one hh0
            obtain ⟨n7, hn7⟩ : ∃ n7, (S.take j ++ [(kx, ix)] ++ S.drop j).length = n7 := ⟨_, rfl⟩
            rw [hn7] at own
            obtain ⟨A7, c7, e7, _⟩ := Rd.of_own (enc := pairE) pairE_len2 hn7 own
            rw [e7] at e80
            clear own hn7
            go_simp
            refine hK _ _ trivial ?_
            rw [← e7]
            exact ⟨hG.1.stS hl (done_of hdone 18 rfl), hG.2⟩
          clear kx0 kx3 kx5 kx62 kx63 kx64 kx65 kx66 kx67 kx68 kx69 kx70 kx71 kx72 kx73 kx74 kx75 kx76 kx77 kx78 kx79 kx80 kx81 kx82
          intro xs w9 hG hI
          obtain ⟨X', hR9, hb9, hX9⟩ := hG.1.fin rfl
          clear hG hI
          simp only [List.append_eq, List.cons_append, List.nil_append, setAll, List.setIfInBounds_toArray, List.set_cons_zero, List.set_cons_succ]
          clear hh hd
          have hfin : Hid (RPost w w9 hp X (S.take j ++ [(kx, ix)] ++ S.drop j)) := RPost.mk' hm.out (hb1h.out.trans (hbw.out.mono hb1h.out.size)) hR9 hb9 hX9
          clear hR9 hb9 hX9
          go_wp2_with fail
          go_returns
          exact ⟨rfl, j, hj, hdrh.out, hex.out, hfin.out⟩
end
end Go.Proofs.Ytapfndjaimfcaaa
