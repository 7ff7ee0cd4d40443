/-
  Walks: bag.Put, bag.PutTriple.
-/
import Derived.Test.YtibeoiphjkgekaaGreatBag11
import Derived.Test.YtibeoiphjkgekaaGreatAnyTail
namespace Go.Proofs.YtibeoiphjkgekaaGreat
open Go.RowKit B K Go.Shelf
set_option linter.unusedVariables false
set_option linter.unusedSimpArgs false
set_option maxHeartbeats 2000000
namespace B
theorem own_base {w : World} {b0 b1 size n : Nat} {e : TypeId} {v : Value} {xs : List Value} (h : w.ownsRow b1 e size v n xs) (hb : b0 ≤ b1) : w.ownsRow b0 e size v n xs := by
  refine ⟨h.1, ?_⟩
  rcases h.2 with h2 | ⟨g, cap, cur, rfl, h3, r⟩
  · exact .inl h2
  · exact .inr ⟨g, cap, cur, rfl, by omega, r⟩
theorem Rd.one2 {w : World} {k : Nat} {x1 x2 : Int} (bx : Bx2 w k x1 x2) : Rd w 2 pairE (some ⟨k, 0, none⟩) 1 [(x1, x2)] :=
  ⟨rfl, fun _ => ⟨k, 0, rfl, bx.lt, fun i x hx j u hu => by
    cases i with
    | succ i => simp at hx
    | zero =>
      simp at hx
      subst hx
      match j, hu with
      | 0, hu => simp [pairE] at hu; subst hu; simpa using bx.c0
      | 1, hu => simp [pairE] at hu; subst hu; simpa using bx.c1
      | j + 2, hu => simp [pairE] at hu⟩⟩
theorem Rd.one3 {w : World} {k : Nat} {x1 x2 x3 : Int} (bx : Bx3 w k x1 x2 x3) : Rd w 3 tripE (some ⟨k, 0, none⟩) 1 [(x1, x2, x3)] :=
  ⟨rfl, fun _ => ⟨k, 0, rfl, bx.lt, fun i x hx j u hu => by
    cases i with
    | succ i => simp at hx
    | zero =>
      simp at hx
      subst hx
      match j, hu with
      | 0, hu => simp [tripE] at hu; subst hu; simpa using bx.c0
      | 1, hu => simp [tripE] at hu; subst hu; simpa using bx.c1
      | 2, hu => simp [tripE] at hu; subst hu; simpa using bx.c2
      | j + 3, hu => simp [tripE] at hu⟩⟩
end B
/-- a row and a truth handed back -/
def RetP {α : Type} (size : Nat) (enc : α → List Value) (w : World) (l : List α) (b : Bool) (e : Ending) (w' : World) : Prop :=
  ∃ A c, e = .returned (.tuple #[.slice A l.length c, .bool b]) ∧ Rd w' size enc A l.length l ∧ l.length ≤ c ∧ c ≤ 9223372036854775807 ∧ Below w.heap.size w w'
theorem RetP.mk {α : Type} {size : Nat} {enc : α → List Value} {w w' : World} {l : List α} {b : Bool} {e : Ending} (A : Option Addr) (c : Nat) (h : e = .returned (.tuple #[.slice A l.length c, .bool b])) (r : Rd w' size enc A l.length l) (hc : l.length ≤ c) (hc2 : c ≤ 9223372036854775807) (hb : Below w.heap.size w w') :
    RetP size enc w l b e w' := ⟨A, c, h, r, hc, hc2, hb⟩
set_option maxRecDepth 100000 in
theorem Put2_any (x1 x2 : Int) (A : Option Addr) (n c : Nat) (l : List P2) (w : World) (hr0 : Rd w 2 pairE A n l) (hn : n ≤ 1000000) (hA : A = none → n = 0) :
    Calls Tryz.prog 5 #[.slice A n c, .agg #[.int .i64 x1, .int .i64 x2]] w fun e w' => RetP 2 pairE w (L2 (l ++ [(x1, x2)])) (decide ((x1, x2) ∈ L2 (l ++ [(x1, x2)])) && !decide ((x1, x2) ∈ l)) e w' := by
  have bx := Bx2.new w 24 x1 x2
  have hb0 : Below w.heap.size w (w.alloc (.cells #[.int .i64 x1, .int .i64 x2] 24)) := (Below.refl _ w).alloc (Nat.le_refl _) _
  have hs0 : w.heap.size < (w.alloc (.cells #[.int .i64 x1, .int .i64 x2] 24)).heap.size := by simp
  have hr := hr0.below hb0
  go_enter Tryz.func5, Tryz.ntmps5
  go_wp2_with fail
  generalize w.alloc (.cells #[.int .i64 x1, .int .i64 x2] 24) = w0 at *
  refine wp_region_invT relBelow 4 (by kernel_rfl) (by kernel_rfl) (by kernel_rfl) (by kernel_rfl) (by kernel_rfl) (by kernel_rfl) ?_
  intro base O hbase hO
  simp only [List.take_succ_cons, List.take_zero, List.drop_succ_cons, List.drop_zero] at hO ⊢
  have kx0 : Hid (∀ xs, evX base O xs (.tmp 0) = .slice A n c) := fun xs => by rw [hbase, hO]; rfl
  have kx3 : Hid (∀ xs, evX base O xs (.tmp 3) = .pointer (some ⟨w.heap.size, 0, none⟩)) := fun xs => by rw [hbase, hO]; rfl
  have kx7 : Hid (∀ xs, evX base O xs (.tmp 7) = xs 0) := fun xs => by rw [hO]; rfl
  have kx9 : Hid (∀ xs, evX base O xs (.tmp 9) = xs 2) := fun xs => by rw [hO]; rfl
  clear hbase hO
  apply ok_det (n := 0)
  · intro xs w ev hb hD hev K hK
    have e0 := (hev (.tmp 0)).trans (kx0.out xs)
    rw [if_pos (wantedX_none rfl)]
    have ef : ∀ f, ev (.func f) = .func (.func f) #[] #[] := fun f => (hev _).trans rfl
    clear hev hD
    go_simp
    exact hK _ _ (Below.refl _ _) rfl
  refine ok_any (n := 1) (fun v w' => w'.ownsRow w0.heap.size 24 2 v l.length (l.flatMap pairE)) (fun _ _ _ hb h => own_up h hb) ?_ ?_
  · intro xs w ev hb hD hev K hK
    have d0 := hD.at_ 0 rfl rfl
    have e7 := ((hev (.tmp 7)).trans (kx7.out xs)).trans d0
    rw [if_pos (wantedX_none rfl)]
    have ef : ∀ f, ev (.func f) = .func (.func f) #[] #[] := fun f => (hev _).trans rfl
    clear hev hD
    go_simp
    refine (cloneP_any A n c l _ (hr.below hb) (by omega) hA).mono ?_; rintro e w' ⟨v, he, own, hb1⟩
    exact ⟨v, he, hK _ _ hb1 (own_base own hb.size)⟩
  apply ok_det (n := 2)
  · intro xs w ev hb hD hev K hK
    have e3 := (hev (.tmp 3)).trans (kx3.out xs)
    rw [if_pos (wantedX_none rfl)]
    have ef : ∀ f, ev (.func f) = .func (.func f) #[] #[] := fun f => (hev _).trans rfl
    clear hev hD
    have m0 := (bx.below hb).c0
    have m1 := (bx.below hb).c1
    go_simp
    exact hK _ _ (Below.refl _ _) rfl
  refine ok_any (n := 3) (fun v w' => ∃ k, v = .slice (some ⟨k, 0, none⟩) 1 1 ∧ Bx2 w' k x1 x2) (fun _ _ _ hb ⟨k, h1, h2⟩ => ⟨k, h1, h2.below hb⟩) ?_ ?_
  · intro xs w ev hb hD hev K hK
    have d2 := hD.at_ 2 rfl rfl
    have e9 := ((hev (.tmp 9)).trans (kx9.out xs)).trans d2
    rw [if_pos (wantedX_none rfl)]
    have ef : ∀ f, ev (.func f) = .func (.func f) #[] #[] := fun f => (hev _).trans rfl
    clear hev hD
    go_simp
    exact hK _ _ ((Below.refl _ _).alloc (Nat.le_refl _) _) ⟨_, rfl, Bx2.new w 24 _ _⟩
  intro xs w1 hb hI
  have own := hI 1 _ rfl
  obtain ⟨k, d10, bs⟩ := hI 3 _ rfl
  clear hI
  simp only [List.append_eq, List.cons_append, List.nil_append, setAll, List.setIfInBounds_toArray, List.set_cons_zero, List.set_cons_succ]
  rw [d10]
  generalize xs 1 = v at own ⊢
  have hsrc : Rd w1 2 pairE (some ⟨k, 0, none⟩) 1 [(x1, x2)] := Rd.one2 bs
  obtain ⟨v2, w2, hrun, own2, hg2, _⟩ := own_append (enc := pairE) Tryz.underlying22 infoAPair rfl (by decide) pairE_len2 pairE_one 1 own hsrc (by have := hr.len; omega) (by decide) hb.size
  have hb2 : Below w0.heap.size w0 w2 := hb.grown hg2 hb.size (fun g hg => (own.lt g hg).1)
  obtain ⟨A3, c3, rfl, r3, s3, t3⟩ := Rd.of_own pairE_len2 (by simp) own2
  have hl3 : l.length = n := hr.len
  have bx2 := bx.below hb2
  clear own own2 hg2 hsrc bs d10
  go_wp2_with (at_builtin; refine wpList_append_run ?a1 (.tmp 8) (.tmp 10) 22 ?a2 ?a3 ?a4 hrun ?_)
  case a1 => rfl
  case a2 => rfl
  try (case a3 => rfl)
  try (case a4 => rfl)
  have r3 : Rd w2 2 pairE A3 (n + 1) (l ++ [(x1, x2)]) := by rw [← hl3]; simpa using r3
  have hl3' := Lib.hid hl3
  clear hl3
  refine (Least2_any A3 (n + 1) c3 (l ++ [(x1, x2)]) _ r3 (by have := hl3'.out; omega)).mono ?_; rintro e w4 ⟨A4, c4, rfl, r4, s4, t4, hb4⟩
  have hlen4 : (L2 (l ++ [(x1, x2)])).length ≤ 1000001 := by have := L2_len (l ++ [(x1, x2)]); have := hl3'.out; rw [List.length_append] at *; simp at *; omega
  have bx4 := bx2.below hb4
  have hb4 := hb2.trans (hb4.mono hb2.size)
  obtain ⟨L, hL⟩ : ∃ L, L2 (l ++ [(x1, x2)]) = L := ⟨_, rfl⟩
  rw [hL] at r4 s4 hlen4 ⊢
  have hL' := Lib.hid hL
  clear hL
  obtain ⟨c0, c1⟩ := (⟨bx4.c0, bx4.c1⟩ : _ ∧ _)
  go_wp2_with fail
  refine (containsP_any x1 x2 A4 L.length c4 L _ r4 (by omega)).mono ?_; rintro e w5 ⟨rfl, hb5⟩
  have bx5 := bx4.below hb5
  have r4 := r4.below hb5
  have hb5 := hb4.trans (hb5.mono hb4.size)
  clear c0 c1
  obtain ⟨c0, c1⟩ := (⟨bx5.c0, bx5.c1⟩ : _ ∧ _)
  cases hq : decide ((x1, x2) ∈ L) with
  | false =>
    go_wp2_with fail
    go_ret2
    rw [hL'.out, hq]
    exact .mk A4 c4 rfl r4 s4 t4 (hb0.trans (hb5.mono (by omega)))
  | true =>
    go_wp2_with fail
    refine (containsP_any x1 x2 A n c l _ (hr.below hb5) (by omega)).mono ?_; rintro e w6 ⟨rfl, hb6⟩
    have r4 := r4.below hb6
    have hb6 := hb5.trans (hb6.mono hb5.size)
    go_wp2_with fail
    go_ret2
    rw [hL'.out, hq]
    exact .mk A4 c4 rfl r4 s4 t4 (hb0.trans (hb6.mono (by omega)))
set_option maxRecDepth 100000 in
theorem Put3_any (x1 x2 x3 : Int) (A : Option Addr) (n c : Nat) (l : List P3) (w : World) (hr0 : Rd w 3 tripE A n l) (hn : n ≤ 1000000) (hA : A = none → n = 0) :
    Calls Tryz.prog 8 #[.slice A n c, .agg #[.int .i64 x1, .int .i64 x2, .int .i64 x3]] w fun e w' => RetP 3 tripE w (L3 (l ++ [(x1, x2, x3)])) (decide ((x1, x2, x3) ∈ L3 (l ++ [(x1, x2, x3)])) && !decide ((x1, x2, x3) ∈ l)) e w' := by
  have bx := Bx3.new w 27 x1 x2 x3
  have hb0 : Below w.heap.size w (w.alloc (.cells #[.int .i64 x1, .int .i64 x2, .int .i64 x3] 27)) := (Below.refl _ w).alloc (Nat.le_refl _) _
  have hs0 : w.heap.size < (w.alloc (.cells #[.int .i64 x1, .int .i64 x2, .int .i64 x3] 27)).heap.size := by simp
  have hr := hr0.below hb0
  go_enter Tryz.func8, Tryz.ntmps8
  go_wp2_with fail
  generalize w.alloc (.cells #[.int .i64 x1, .int .i64 x2, .int .i64 x3] 27) = w0 at *
  refine wp_region_invT relBelow 4 (by kernel_rfl) (by kernel_rfl) (by kernel_rfl) (by kernel_rfl) (by kernel_rfl) (by kernel_rfl) ?_
  intro base O hbase hO
  simp only [List.take_succ_cons, List.take_zero, List.drop_succ_cons, List.drop_zero] at hO ⊢
  have kx0 : Hid (∀ xs, evX base O xs (.tmp 0) = .slice A n c) := fun xs => by rw [hbase, hO]; rfl
  have kx3 : Hid (∀ xs, evX base O xs (.tmp 3) = .pointer (some ⟨w.heap.size, 0, none⟩)) := fun xs => by rw [hbase, hO]; rfl
  have kx7 : Hid (∀ xs, evX base O xs (.tmp 7) = xs 0) := fun xs => by rw [hO]; rfl
  have kx9 : Hid (∀ xs, evX base O xs (.tmp 9) = xs 2) := fun xs => by rw [hO]; rfl
  clear hbase hO
  apply ok_det (n := 0)
  · intro xs w ev hb hD hev K hK
    have e0 := (hev (.tmp 0)).trans (kx0.out xs)
    rw [if_pos (wantedX_none rfl)]
    have ef : ∀ f, ev (.func f) = .func (.func f) #[] #[] := fun f => (hev _).trans rfl
    clear hev hD
    go_simp
    exact hK _ _ (Below.refl _ _) rfl
  refine ok_any (n := 1) (fun v w' => w'.ownsRow w0.heap.size 27 3 v l.length (l.flatMap tripE)) (fun _ _ _ hb h => own_up h hb) ?_ ?_
  · intro xs w ev hb hD hev K hK
    have d0 := hD.at_ 0 rfl rfl
    have e7 := ((hev (.tmp 7)).trans (kx7.out xs)).trans d0
    rw [if_pos (wantedX_none rfl)]
    have ef : ∀ f, ev (.func f) = .func (.func f) #[] #[] := fun f => (hev _).trans rfl
    clear hev hD
    go_simp
    refine (cloneT_any A n c l _ (hr.below hb) (by omega) hA).mono ?_; rintro e w' ⟨v, he, own, hb1⟩
    exact ⟨v, he, hK _ _ hb1 (own_base own hb.size)⟩
  apply ok_det (n := 2)
  · intro xs w ev hb hD hev K hK
    have e3 := (hev (.tmp 3)).trans (kx3.out xs)
    rw [if_pos (wantedX_none rfl)]
    have ef : ∀ f, ev (.func f) = .func (.func f) #[] #[] := fun f => (hev _).trans rfl
    clear hev hD
    have m0 := (bx.below hb).c0
    have m1 := (bx.below hb).c1
    have m2 := (bx.below hb).c2
    go_simp
    exact hK _ _ (Below.refl _ _) rfl
  refine ok_any (n := 3) (fun v w' => ∃ k, v = .slice (some ⟨k, 0, none⟩) 1 1 ∧ Bx3 w' k x1 x2 x3) (fun _ _ _ hb ⟨k, h1, h2⟩ => ⟨k, h1, h2.below hb⟩) ?_ ?_
  · intro xs w ev hb hD hev K hK
    have d2 := hD.at_ 2 rfl rfl
    have e9 := ((hev (.tmp 9)).trans (kx9.out xs)).trans d2
    rw [if_pos (wantedX_none rfl)]
    have ef : ∀ f, ev (.func f) = .func (.func f) #[] #[] := fun f => (hev _).trans rfl
    clear hev hD
    go_simp
    exact hK _ _ ((Below.refl _ _).alloc (Nat.le_refl _) _) ⟨_, rfl, Bx3.new w 27 _ _ _⟩
  intro xs w1 hb hI
  have own := hI 1 _ rfl
  obtain ⟨k, d10, bs⟩ := hI 3 _ rfl
  clear hI
  simp only [List.append_eq, List.cons_append, List.nil_append, setAll, List.setIfInBounds_toArray, List.set_cons_zero, List.set_cons_succ]
  rw [d10]
  generalize xs 1 = v at own ⊢
  have hsrc : Rd w1 3 tripE (some ⟨k, 0, none⟩) 1 [(x1, x2, x3)] := Rd.one3 bs
  obtain ⟨v2, w2, hrun, own2, hg2, _⟩ := own_append (enc := tripE) Tryz.underlying25 infoATri rfl (by decide) tripE_len tripE_one 1 own hsrc (by have := hr.len; omega) (by decide) hb.size
  have hb2 : Below w0.heap.size w0 w2 := hb.grown hg2 hb.size (fun g hg => (own.lt g hg).1)
  obtain ⟨A3, c3, rfl, r3, s3, t3⟩ := Rd.of_own tripE_len (by simp) own2
  have hl3 : l.length = n := hr.len
  have bx2 := bx.below hb2
  clear own own2 hg2 hsrc bs d10
  go_wp2_with (at_builtin; refine wpList_append_run ?a1 (.tmp 8) (.tmp 10) 25 ?a2 ?a3 ?a4 hrun ?_)
  case a1 => rfl
  case a2 => rfl
  try (case a3 => rfl)
  try (case a4 => rfl)
  have r3 : Rd w2 3 tripE A3 (n + 1) (l ++ [(x1, x2, x3)]) := by rw [← hl3]; simpa using r3
  have hl3' := Lib.hid hl3
  clear hl3
  refine (Least3_any A3 (n + 1) c3 (l ++ [(x1, x2, x3)]) _ r3 (by have := hl3'.out; omega)).mono ?_; rintro e w4 ⟨A4, c4, rfl, r4, s4, t4, hb4⟩
  have hlen4 : (L3 (l ++ [(x1, x2, x3)])).length ≤ 1000001 := by have := L3_len (l ++ [(x1, x2, x3)]); have := hl3'.out; rw [List.length_append] at *; simp at *; omega
  have bx4 := bx2.below hb4
  have hb4 := hb2.trans (hb4.mono hb2.size)
  obtain ⟨L, hL⟩ : ∃ L, L3 (l ++ [(x1, x2, x3)]) = L := ⟨_, rfl⟩
  rw [hL] at r4 s4 hlen4 ⊢
  have hL' := Lib.hid hL
  clear hL
  obtain ⟨c0, c1, c2⟩ := (⟨bx4.c0, bx4.c1, bx4.c2⟩ : _ ∧ _ ∧ _)
  go_wp2_with fail
  refine (containsT_any x1 x2 x3 A4 L.length c4 L _ r4 (by omega)).mono ?_; rintro e w5 ⟨rfl, hb5⟩
  have bx5 := bx4.below hb5
  have r4 := r4.below hb5
  have hb5 := hb4.trans (hb5.mono hb4.size)
  clear c0 c1 c2
  obtain ⟨c0, c1, c2⟩ := (⟨bx5.c0, bx5.c1, bx5.c2⟩ : _ ∧ _ ∧ _)
  cases hq : decide ((x1, x2, x3) ∈ L) with
  | false =>
    go_wp2_with fail
    go_ret2
    rw [hL'.out, hq]
    exact .mk A4 c4 rfl r4 s4 t4 (hb0.trans (hb5.mono (by omega)))
  | true =>
    go_wp2_with fail
    refine (containsT_any x1 x2 x3 A n c l _ (hr.below hb5) (by omega)).mono ?_; rintro e w6 ⟨rfl, hb6⟩
    have r4 := r4.below hb6
    have hb6 := hb5.trans (hb6.mono hb5.size)
    go_wp2_with fail
    go_ret2
    rw [hL'.out, hq]
    exact .mk A4 c4 rfl r4 s4 t4 (hb0.trans (hb6.mono (by omega)))
end Go.Proofs.YtibeoiphjkgekaaGreat
