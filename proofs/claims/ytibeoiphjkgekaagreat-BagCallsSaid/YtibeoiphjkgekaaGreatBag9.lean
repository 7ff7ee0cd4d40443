/-
  Walks: bag.Least, Good, Check, Beats, and the like of triples; copies of rows.
-/
import Derived.Test.YtibeoiphjkgekaaGreatBag8
import Derived.Test.YtibeoiphjkgekaaGreatBagLen
import Derived.WalkSpells
import Derived.Lib.SliceRun
namespace Go.Proofs.YtibeoiphjkgekaaGreat
open Go.RowKit B K Go.Shelf
set_option linter.unusedVariables false
set_option linter.unusedSimpArgs false
set_option maxHeartbeats 2000000
/-- a row of its own handed back -/
def RetN {α : Type} (t : TypeId) (size : Nat) (enc : α → List Value) (w : World) (l : List α) (e : Ending) (w' : World) : Prop :=
  ∃ v, e = .returned v ∧ w'.ownsRow w.heap.size t size v l.length (l.flatMap enc) ∧ Below w.heap.size w w'
set_option maxRecDepth 100000 in
theorem Least2_any (A : Option Addr) (n c : Nat) (l : List P2) (w : World) (hr : Rd w 2 pairE A n l) (hn : n ≤ 1099511627) :
    Calls Tryz.prog 13 #[.slice A n c] w fun e w' => RetR 2 pairE w (L2 l) e w' := by
  have h1 := asPin_any 46 #[] (enters_of Tryz.func46 (by kernel_rfl) rfl) id A n c l w hr hn (fun W x _ => toPair_any x.1 x.2 W)
  rw [List.map_id] at h1
  go_enter Tryz.func13, Tryz.ntmps13
  go_wp2_with fail
  refine h1.mono ?_; rintro e w1 ⟨A1, c1, rfl, r1, s1, t1, hb1⟩
  clear h1
  go_wp2_with fail
  refine (leastP_any A1 l.length c1 l _ r1 (by rw [hr.len]; exact hn)).mono ?_; rintro e w2 ⟨A2, c2, rfl, r2, s2, t2, hb2⟩
  have h3 := asPout_any 50 #[] (enters_of Tryz.func50 (by kernel_rfl) rfl) id A2 (L2 l).length c2 (L2 l) w2 r2 (by have := L2_len l; have := hr.len; omega) (fun W x _ => fromPair_any x.1 x.2 W)
  rw [List.map_id] at h3
  go_wp2_with fail
  refine h3.mono ?_; rintro e w3 ⟨A3, c3, rfl, r3, s3, t3, hb3⟩
  clear h3
  go_wp2_with fail
  go_returns
  exact .mk A3 c3 rfl r3 s3 t3 (hb1.trans ((hb2.trans (hb3.mono hb2.size)).mono hb1.size))
theorem Good2_any (A : Option Addr) (n c : Nat) (l : List P2) (w : World) (hr : Rd w 2 pairE A n l) (hn : n ≤ 1099511627) :
    Calls Tryz.prog 25 #[.slice A n c] w fun e w' => e = .returned (.bool (decide (L2 l = l))) ∧ Below w.heap.size w w' := by
  go_enter Tryz.func25, Tryz.ntmps25
  go_wp2_with fail
  refine (Least2_any A n c l _ hr hn).mono ?_; rintro e w1 ⟨A1, c1, rfl, r1, s1, t1, hb1⟩
  go_wp2_with fail
  refine (equalP_any A1 _ c1 (L2 l) A n c l _ r1 (hr.below hb1) (by have := L2_len l; have := hr.len; omega) (by omega)).mono ?_; rintro e w2 ⟨rfl, hb2⟩
  go_wp2_with fail
  go_returns
  exact ⟨rfl, hb1.trans (hb2.mono hb1.size)⟩
theorem Check2_any (x1 x2 : Int) (w : World) : Calls Tryz.prog 21 #[.agg #[.int .i64 x1, .int .i64 x2]] w fun e w' => e = .returned (.int .i64 (chkB (may2 (x1, x2)))) ∧ Below w.heap.size w w' := by
  go_enter Tryz.func21, Tryz.ntmps21
  go_wp2_with fail
  refine (may2_any x1 x2 _).mono ?_; rintro e w1 ⟨rfl, hb⟩
  cases hm : may2 (x1, x2) with
  | false =>
    have hm' := Lib.hid hm
    clear hm
    go_wp2_with fail
    go_returns
    exact ⟨ret_int (by rw [hm'.out]; rfl), ((Below.refl _ _).alloc (Nat.le_refl _) _).trans (hb.mono (by simp))⟩
  | true =>
    have hm' := Lib.hid hm
    clear hm
    go_wp2_with fail
    go_returns
    exact ⟨ret_int (by rw [hm'.out]; rfl), ((Below.refl _ _).alloc (Nat.le_refl _) _).trans (hb.mono (by simp))⟩
theorem Beats2_any (x1 x2 y1 y2 : Int) (w : World) : Calls Tryz.prog 17 #[.agg #[.int .i64 x1, .int .i64 x2], .agg #[.int .i64 y1, .int .i64 y2]] w fun e w' => e = .returned (.bool (beats2 (x1, x2) (y1, y2))) ∧ Below w.heap.size w w' := by
  go_enter Tryz.func17, Tryz.ntmps17
  go_wp2_with fail
  refine (beats2_any x1 x2 y1 y2 _).mono ?_; rintro e w1 ⟨rfl, hb⟩
  go_wp2_with fail
  go_returns
  exact ⟨rfl, (((Below.refl _ _).alloc (Nat.le_refl _) _).alloc (by simp) _).trans (hb.mono (by simp; omega))⟩
theorem lpair_any (x1 x2 : Int) (w : World) : Calls Tryz.prog 36 #[.int .i64 x1, .int .i64 x2] w fun e w' => e = .returned (.agg #[.int .i64 x1, .int .i64 x2]) ∧ Grew w w' := by
  go_enter Tryz.func36, Tryz.ntmps36
  go_wp2
  exact bodyPost_ret (v := .agg #[.int .i64 x1, .int .i64 x2]) (by simp [results, Tryz.results36, go_sem]) rfl ⟨rfl, (Grew.refl w).alloc _⟩
theorem ownP_any (A : Option Addr) (n c : Nat) (l : List P2) (w : World) (hr : Rd w 2 pairE A n l) (hn : n ≤ 1099511627776) :
    Calls Tryz.prog 6 #[.slice A n c] w fun e w' => RetN 24 2 pairE w l e w' := by
  obtain ⟨v, w1, hrun, own, hg, _⟩ := own_append (enc := pairE) Tryz.underlying22 infoAPair rfl (by decide) pairE_len2 pairE_one c (l := []) (own_lit0 w w.heap.size 24 2 (Nat.le_refl _)) (hr.below ((Below.refl _ w).alloc (Nat.le_refl _) _)) (by simpa using hn) (by decide) (by simp)
  have hb : Hid (Below w.heap.size w w1) := ((Below.refl _ w).alloc (Nat.le_refl _) _).grown hg (by simp) (fun k hk => by simp [Value.ownBlock] at hk; omega)
  have hl := Lib.hid hr.len
  simp only [List.length_nil, Nat.zero_add, List.nil_append] at hrun own
  have own := Lib.hid own
  rename_i own0; clear own0 hg
  go_enter Tryz.func6, Tryz.ntmps6
  go_wp2_with (at_builtin; refine wpList_append_run ?a1 (.tmp 3) (.tmp 4) 22 ?a2 ?a3 ?a4 hrun ?_)
  case a1 => rfl
  case a2 => rfl
  try (case a3 => rfl)
  try (case a4 => rfl)
  go_returns
  exact ⟨v, rfl, by rw [hl.out]; exact own.out, hb.out⟩
theorem cloneP_any (A : Option Addr) (n c : Nat) (l : List P2) (w : World) (hr : Rd w 2 pairE A n l) (hn : n ≤ 1099511627776) (hA : A = none → n = 0) :
    Calls Tryz.prog 37 #[.slice A n c] w fun e w' => RetN 24 2 pairE w l e w' := by
  have qT : ∀ (w : World) (a : Option Addr) (n c n' c' : Nat), (binOp .eql 22 (.slice a n c) (.slice none n' c')).run Tryz.prog w = .ok (.bool a.isNone) w := fun w a n c n' c' => Lib.run_eql_slice_nil w _ _ a n c n' c' Tryz.underlying22
  cases A with
  | none =>
    obtain rfl := hA rfl
    obtain rfl : l = [] := List.eq_nil_of_length_eq_zero hr.len
    go_enter Tryz.func37, Tryz.ntmps37
    go_wp2
    go_returns
    exact ⟨_, rfl, World.ownsRow_nil _ _ _ _, Below.refl _ _⟩
  | some a =>
    obtain ⟨v, w1, hrun, own, hg, _⟩ := own_append (enc := pairE) Tryz.underlying22 infoAPair rfl (by decide) pairE_len2 pairE_one c (l := []) (own_lit0 w w.heap.size 24 2 (Nat.le_refl _)) (hr.below ((Below.refl _ w).alloc (Nat.le_refl _) _)) (by simpa using hn) (by decide) (by simp)
    have hb : Hid (Below w.heap.size w w1) := ((Below.refl _ w).alloc (Nat.le_refl _) _).grown hg (by simp) (fun k hk => by simp [Value.ownBlock] at hk; omega)
    have hl := Lib.hid hr.len
    simp only [List.length_nil, Nat.zero_add, List.nil_append] at hrun own
    have own := Lib.hid own
    rename_i own0; clear own0 hg
    go_enter Tryz.func37, Tryz.ntmps37
    go_wp2_with (at_builtin; refine wpList_append_run ?b1 (.tmp 5) (.tmp 6) 22 ?b2 ?b3 ?b4 hrun ?_)
    case b1 => rfl
    case b2 => rfl
    try (case b3 => rfl)
    try (case b4 => rfl)
    go_returns
    exact ⟨v, rfl, by rw [hl.out]; exact own.out, hb.out⟩
set_option maxRecDepth 100000 in
theorem Least3_any (A : Option Addr) (n c : Nat) (l : List P3) (w : World) (hr : Rd w 3 tripE A n l) (hn : n ≤ 1099511627) :
    Calls Tryz.prog 15 #[.slice A n c] w fun e w' => RetR 3 tripE w (L3 l) e w' := by
  have h1 := asTin_any 54 #[] (enters_of Tryz.func54 (by kernel_rfl) rfl) id A n c l w hr hn (fun W x _ => toTri_any x.1 x.2.1 x.2.2 W)
  rw [List.map_id] at h1
  go_enter Tryz.func15, Tryz.ntmps15
  go_wp2_with fail
  refine h1.mono ?_; rintro e w1 ⟨A1, c1, rfl, r1, s1, t1, hb1⟩
  clear h1
  go_wp2_with fail
  refine (leastT_any A1 l.length c1 l _ r1 (by rw [hr.len]; exact hn)).mono ?_; rintro e w2 ⟨A2, c2, rfl, r2, s2, t2, hb2⟩
  have h3 := asTout_any 58 #[] (enters_of Tryz.func58 (by kernel_rfl) rfl) id A2 (L3 l).length c2 (L3 l) w2 r2 (by have := L3_len l; have := hr.len; omega) (fun W x _ => fromTri_any x.1 x.2.1 x.2.2 W)
  rw [List.map_id] at h3
  go_wp2_with fail
  refine h3.mono ?_; rintro e w3 ⟨A3, c3, rfl, r3, s3, t3, hb3⟩
  clear h3
  go_wp2_with fail
  go_returns
  exact .mk A3 c3 rfl r3 s3 t3 (hb1.trans ((hb2.trans (hb3.mono hb2.size)).mono hb1.size))
theorem Good3_any (A : Option Addr) (n c : Nat) (l : List P3) (w : World) (hr : Rd w 3 tripE A n l) (hn : n ≤ 1099511627) :
    Calls Tryz.prog 27 #[.slice A n c] w fun e w' => e = .returned (.bool (decide (L3 l = l))) ∧ Below w.heap.size w w' := by
  go_enter Tryz.func27, Tryz.ntmps27
  go_wp2_with fail
  refine (Least3_any A n c l _ hr hn).mono ?_; rintro e w1 ⟨A1, c1, rfl, r1, s1, t1, hb1⟩
  go_wp2_with fail
  refine (equalT_any A1 _ c1 (L3 l) A n c l _ r1 (hr.below hb1) (by have := L3_len l; have := hr.len; omega) (by omega)).mono ?_; rintro e w2 ⟨rfl, hb2⟩
  go_wp2_with fail
  go_returns
  exact ⟨rfl, hb1.trans (hb2.mono hb1.size)⟩
theorem Check3_any (x1 x2 x3 : Int) (w : World) : Calls Tryz.prog 23 #[.agg #[.int .i64 x1, .int .i64 x2, .int .i64 x3]] w fun e w' => e = .returned (.int .i64 (chkB (may3 (x1, x2, x3)))) ∧ Below w.heap.size w w' := by
  go_enter Tryz.func23, Tryz.ntmps23
  go_wp2_with fail
  refine (may3_any x1 x2 x3 _).mono ?_; rintro e w1 ⟨rfl, hb⟩
  cases hm : may3 (x1, x2, x3) with
  | false =>
    have hm' := Lib.hid hm
    clear hm
    go_wp2_with fail
    go_returns
    exact ⟨ret_int (by rw [hm'.out]; rfl), ((Below.refl _ _).alloc (Nat.le_refl _) _).trans (hb.mono (by simp))⟩
  | true =>
    have hm' := Lib.hid hm
    clear hm
    go_wp2_with fail
    go_returns
    exact ⟨ret_int (by rw [hm'.out]; rfl), ((Below.refl _ _).alloc (Nat.le_refl _) _).trans (hb.mono (by simp))⟩
theorem Beats3_any (x1 x2 x3 y1 y2 y3 : Int) (w : World) : Calls Tryz.prog 19 #[.agg #[.int .i64 x1, .int .i64 x2, .int .i64 x3], .agg #[.int .i64 y1, .int .i64 y2, .int .i64 y3]] w fun e w' => e = .returned (.bool (beats3 (x1, x2, x3) (y1, y2, y3))) ∧ Below w.heap.size w w' := by
  go_enter Tryz.func19, Tryz.ntmps19
  go_wp2_with fail
  refine (beats3_any x1 x2 x3 y1 y2 y3 _).mono ?_; rintro e w1 ⟨rfl, hb⟩
  go_wp2_with fail
  go_returns
  exact ⟨rfl, (((Below.refl _ _).alloc (Nat.le_refl _) _).alloc (by simp) _).trans (hb.mono (by simp; omega))⟩
theorem ltriple_any (x1 x2 x3 : Int) (w : World) : Calls Tryz.prog 35 #[.int .i64 x1, .int .i64 x2, .int .i64 x3] w fun e w' => e = .returned (.agg #[.int .i64 x1, .int .i64 x2, .int .i64 x3]) ∧ Grew w w' := by
  go_enter Tryz.func35, Tryz.ntmps35
  go_wp2
  exact bodyPost_ret (v := .agg #[.int .i64 x1, .int .i64 x2, .int .i64 x3]) (by simp [results, Tryz.results35, go_sem]) rfl ⟨rfl, (Grew.refl w).alloc _⟩
theorem ownT_any (A : Option Addr) (n c : Nat) (l : List P3) (w : World) (hr : Rd w 3 tripE A n l) (hn : n ≤ 1099511627776) :
    Calls Tryz.prog 9 #[.slice A n c] w fun e w' => RetN 27 3 tripE w l e w' := by
  obtain ⟨v, w1, hrun, own, hg, _⟩ := own_append (enc := tripE) Tryz.underlying25 infoATri rfl (by decide) tripE_len tripE_one c (l := []) (own_lit0 w w.heap.size 27 3 (Nat.le_refl _)) (hr.below ((Below.refl _ w).alloc (Nat.le_refl _) _)) (by simpa using hn) (by decide) (by simp)
  have hb : Hid (Below w.heap.size w w1) := ((Below.refl _ w).alloc (Nat.le_refl _) _).grown hg (by simp) (fun k hk => by simp [Value.ownBlock] at hk; omega)
  have hl := Lib.hid hr.len
  simp only [List.length_nil, Nat.zero_add, List.nil_append] at hrun own
  have own := Lib.hid own
  rename_i own0; clear own0 hg
  go_enter Tryz.func9, Tryz.ntmps9
  go_wp2_with (at_builtin; refine wpList_append_run ?a1 (.tmp 3) (.tmp 4) 25 ?a2 ?a3 ?a4 hrun ?_)
  case a1 => rfl
  case a2 => rfl
  try (case a3 => rfl)
  try (case a4 => rfl)
  go_returns
  exact ⟨v, rfl, by rw [hl.out]; exact own.out, hb.out⟩
theorem cloneT_any (A : Option Addr) (n c : Nat) (l : List P3) (w : World) (hr : Rd w 3 tripE A n l) (hn : n ≤ 1099511627776) (hA : A = none → n = 0) :
    Calls Tryz.prog 41 #[.slice A n c] w fun e w' => RetN 27 3 tripE w l e w' := by
  have qT : ∀ (w : World) (a : Option Addr) (n c n' c' : Nat), (binOp .eql 25 (.slice a n c) (.slice none n' c')).run Tryz.prog w = .ok (.bool a.isNone) w := fun w a n c n' c' => Lib.run_eql_slice_nil w _ _ a n c n' c' Tryz.underlying25
  cases A with
  | none =>
    obtain rfl := hA rfl
    obtain rfl : l = [] := List.eq_nil_of_length_eq_zero hr.len
    go_enter Tryz.func41, Tryz.ntmps41
    go_wp2
    go_returns
    exact ⟨_, rfl, World.ownsRow_nil _ _ _ _, Below.refl _ _⟩
  | some a =>
    obtain ⟨v, w1, hrun, own, hg, _⟩ := own_append (enc := tripE) Tryz.underlying25 infoATri rfl (by decide) tripE_len tripE_one c (l := []) (own_lit0 w w.heap.size 27 3 (Nat.le_refl _)) (hr.below ((Below.refl _ w).alloc (Nat.le_refl _) _)) (by simpa using hn) (by decide) (by simp)
    have hb : Hid (Below w.heap.size w w1) := ((Below.refl _ w).alloc (Nat.le_refl _) _).grown hg (by simp) (fun k hk => by simp [Value.ownBlock] at hk; omega)
    have hl := Lib.hid hr.len
    simp only [List.length_nil, Nat.zero_add, List.nil_append] at hrun own
    have own := Lib.hid own
    rename_i own0; clear own0 hg
    go_enter Tryz.func41, Tryz.ntmps41
    go_wp2_with (at_builtin; refine wpList_append_run ?b1 (.tmp 5) (.tmp 6) 25 ?b2 ?b3 ?b4 hrun ?_)
    case b1 => rfl
    case b2 => rfl
    try (case b3 => rfl)
    try (case b4 => rfl)
    go_returns
    exact ⟨v, rfl, by rw [hl.out]; exact own.out, hb.out⟩
end Go.Proofs.YtibeoiphjkgekaaGreat
