/-
  Walks: the document's From, Still and Trail of labels (gen15.py).
-/
import Derived.Test.YtonkkibnigdfbaaRef15A
import Derived.Test.YtonkkibnigdfbaaMoreLaw
namespace Go.Proofs.Ytonkkibnigdfbaa
open Go.RowKit Go.Shelf B K
set_option linter.unusedVariables false
set_option linter.unusedSimpArgs false
set_option maxHeartbeats 4000000
theorem fck_1 {N : NetP} {s t : Int} (h : chkN N = 2) : fckN N s t = 2 := by unfold fckN; rw [if_pos (by omega), h]
theorem fck_2 {N : NetP} {s t : Int} (h : chkN N = 0) (h2 : s < 0 ∨ (N.cs.length : Int) ≤ s) : fckN N s t = 2 := by unfold fckN; rw [if_neg (by omega), if_pos h2]
theorem fck_3 {N : NetP} {s t : Int} (h : chkN N = 0) (h2 : ¬ (s < 0 ∨ (N.cs.length : Int) ≤ s)) (h3 : t < 0 ∨ N.hz < t) : fckN N s t = 9 := by unfold fckN; rw [if_neg (by omega), if_neg h2, if_pos h3]
set_option maxRecDepth 100000 in
theorem rfrom15_bad {N : NetP} {A B : Option Addr} {n c m d : Nat} {s t : Int} {w : World} (hs : Small N) (hr : RNet w N A n B m) (hb : fckN N s t ≠ 0) :
    Calls Try.prog 36 #[.agg #[.int .i64 N.hz, .slice A n c, .slice B m d], .int .i64 s, .int .i64 t] w fun e w' => e = .returned (.tuple #[.slice none 0 0, .int .i64 (fckN N s t)]) ∧ Below w.heap.size w w' := by
  have hnn : Hid (N.cs.length = n) := hr.nn
  have hn1 : n ≤ 1000 := by have := hs.cn; have := hnn.out; omega
  obtain ⟨hz, hhz⟩ : ∃ q, N.hz = q := ⟨_, rfl⟩
  rw [hhz]
  have hb1 : Below w.heap.size w (w.alloc (.cells #[.int .i64 hz, .slice A n c, .slice B m d] 25)) := (Below.refl _ w).alloc (Nat.le_refl _) _
  obtain ⟨x0, x1, x2⟩ := rowBx3 w 25 (.int .i64 hz) (.slice A n c) (.slice B m d)
  have hbn1 : w.heap.size < (w.alloc (.cells #[.int .i64 hz, .slice A n c, .slice B m d] 25)).heap.size := by simp
  obtain ⟨w1, hw1⟩ : ∃ q, w.alloc (.cells #[.int .i64 hz, .slice A n c, .slice B m d] 25) = q := ⟨_, rfl⟩
  rw [hw1] at hb1 x0 x1 x2 hbn1
  have hup : Hid (∀ w2, Below w1.heap.size w1 w2 → Below w.heap.size w w2) := fun w2 h => hb1.trans (h.mono hb1.size)
  obtain ⟨bn, hbn⟩ : ∃ q, w.heap.size = q := ⟨_, rfl⟩
  rw [hbn] at x0 x1 x2 hbn1
  have hR := Lib.hid (hr.below hb1)
  have hX : Hid (∀ U, Below w1.heap.size w1 U → U.cell? ⟨bn, 0, none⟩ = some (.int .i64 hz) ∧ U.cell? ⟨bn, 1, none⟩ = some (.slice A n c) ∧ U.cell? ⟨bn, 2, none⟩ = some (.slice B m d)) := fun U hU =>
    ⟨(hU.cell (p := ⟨bn, 0, none⟩) hbn1).trans x0, (hU.cell (p := ⟨bn, 1, none⟩) hbn1).trans x1, (hU.cell (p := ⟨bn, 2, none⟩) hbn1).trans x2⟩
  have hhzH := Lib.hid hhz
  have hC := Lib.hid (r11check_any (c := c) (d := d) hs w1 (hr.below hb1))
  rw [hhz] at hC
  clear hb1 hr x0 x1 x2 hhz hs
  rcases chkN_cases N with hk | hk
  rotate_left
  · rw [fck_1 hk]
    rw [hk] at hC
    clear hk hb
    go_enter Try.func36, Try.ntmps36
    obtain ⟨y0, y1, y2⟩ := hX.out _ (Below.refl _ _)
    go_wp2_with fail
    refine hC.out.mono ?_; rintro e w2 ⟨rfl, hb2⟩
    go_wp2_with fail
    go_returns
    exact ⟨rfl, hup.out _ hb2⟩
  rw [hk] at hC
  by_cases q1 : s < 0
  · rw [fck_2 hk (.inl q1)]
    have e1 : decide (s < 0) = true := decide_eq_true q1
    clear hk hb
    go_enter Try.func36, Try.ntmps36
    obtain ⟨y0, y1, y2⟩ := hX.out _ (Below.refl _ _)
    go_wp2_with fail
    refine hC.out.mono ?_; rintro e w2 ⟨rfl, hb2⟩
    go_wp2_with fail
    go_returns
    exact ⟨rfl, hup.out _ hb2⟩
  have e1 : decide (s < 0) = false := decide_eq_false q1
  by_cases q2 : (n : Int) ≤ s
  · rw [fck_2 hk (.inr (by rw [hnn.out]; exact q2))]
    have e2 : decide ((n : Int) ≤ s) = true := decide_eq_true q2
    clear hk hb
    go_enter Try.func36, Try.ntmps36
    obtain ⟨y0, y1, y2⟩ := hX.out _ (Below.refl _ _)
    go_wp2_with fail
    refine hC.out.mono ?_; rintro e w2 ⟨rfl, hb2⟩
    clear hw1 hbn y0 y1 y2
    obtain ⟨y0, y1, y2⟩ := hX.out _ hb2
    go_wp2_with fail
    go_returns
    exact ⟨rfl, hup.out _ hb2⟩
  have e2 : decide ((n : Int) ≤ s) = false := decide_eq_false q2
  have hnb : ¬ (s < 0 ∨ (N.cs.length : Int) ≤ s) := by rw [hnn.out]; omega
  by_cases q3 : t < 0
  · rw [fck_3 hk hnb (.inl q3)]
    have e3 : decide (t < 0) = true := decide_eq_true q3
    clear hk hb hnb
    go_enter Try.func36, Try.ntmps36
    obtain ⟨y0, y1, y2⟩ := hX.out _ (Below.refl _ _)
    go_wp2_with fail
    refine hC.out.mono ?_; rintro e w2 ⟨rfl, hb2⟩
    clear hw1 hbn y0 y1 y2
    obtain ⟨y0, y1, y2⟩ := hX.out _ hb2
    go_wp2_with fail
    go_returns
    exact ⟨rfl, hup.out _ hb2⟩
  have e3 : decide (t < 0) = false := decide_eq_false q3
  have q4 : hz < t := by
    rcases Int.lt_or_le hz t with h | h
    · exact h
    · exact absurd (fck_iff.2 ⟨chkN_iff.1 hk, by rw [hnn.out]; omega, by rw [hhzH.out]; omega⟩) hb
  rw [fck_3 hk hnb (.inr (by rw [hhzH.out]; exact q4))]
  have e4 : decide (hz < t) = true := decide_eq_true q4
  clear hk hb hnb
  go_enter Try.func36, Try.ntmps36
  obtain ⟨y0, y1, y2⟩ := hX.out _ (Below.refl _ _)
  go_wp2_with fail
  refine hC.out.mono ?_; rintro e w2 ⟨rfl, hb2⟩
  clear hw1 hbn y0 y1 y2
  obtain ⟨y0, y1, y2⟩ := hX.out _ hb2
  go_wp2_with fail
  go_returns
  exact ⟨rfl, hup.out _ hb2⟩
set_option maxRecDepth 100000 in
theorem rfrom15_ok {N : NetP} {A B : Option Addr} {n c m d : Nat} {s : Nat} {t : Int} {D : List Int} {w : World} (hs : Small N) (hr : RNet w N A n B m) (hN : OkN N) (hsn : s < n) (ht : 0 ≤ t ∧ t ≤ N.hz) (hS : Spr N (single n s t) D) :
    Calls Try.prog 36 #[.agg #[.int .i64 N.hz, .slice A n c, .slice B m d], .int .i64 (s : Int), .int .i64 t] w fun e w' => ∃ A' c', e = .returned (.tuple #[.slice A' n c', .int .i64 0]) ∧ Rd w' 1 (numE .i64) A' n D ∧ Below w.heap.size w w' := by
  have hnn : Hid (N.cs.length = n) := hr.nn
  have hn1 : n ≤ 1000 := by have := hs.cn; have := hnn.out; omega
  obtain ⟨hz, hhz⟩ : ∃ q, N.hz = q := ⟨_, rfl⟩
  rw [hhz]
  have hb1 : Below w.heap.size w (w.alloc (.cells #[.int .i64 hz, .slice A n c, .slice B m d] 25)) := (Below.refl _ w).alloc (Nat.le_refl _) _
  obtain ⟨x0, x1, x2⟩ := rowBx3 w 25 (.int .i64 hz) (.slice A n c) (.slice B m d)
  have hbn1 : w.heap.size < (w.alloc (.cells #[.int .i64 hz, .slice A n c, .slice B m d] 25)).heap.size := by simp
  obtain ⟨w1, hw1⟩ : ∃ q, w.alloc (.cells #[.int .i64 hz, .slice A n c, .slice B m d] 25) = q := ⟨_, rfl⟩
  rw [hw1] at hb1 x0 x1 x2 hbn1
  have hup : Hid (∀ w2, Below w1.heap.size w1 w2 → Below w.heap.size w w2) := fun w2 h => hb1.trans (h.mono hb1.size)
  obtain ⟨bn, hbn⟩ : ∃ q, w.heap.size = q := ⟨_, rfl⟩
  rw [hbn] at x0 x1 x2 hbn1
  have hR := Lib.hid (hr.below hb1)
  have hX : Hid (∀ U, Below w1.heap.size w1 U → U.cell? ⟨bn, 0, none⟩ = some (.int .i64 hz) ∧ U.cell? ⟨bn, 1, none⟩ = some (.slice A n c) ∧ U.cell? ⟨bn, 2, none⟩ = some (.slice B m d)) := fun U hU =>
    ⟨(hU.cell (p := ⟨bn, 0, none⟩) hbn1).trans x0, (hU.cell (p := ⟨bn, 1, none⟩) hbn1).trans x1, (hU.cell (p := ⟨bn, 2, none⟩) hbn1).trans x2⟩
  have hhzH := Lib.hid hhz
  have hC := Lib.hid (r11check_any (c := c) (d := d) hs w1 (hr.below hb1))
  rw [chkN_iff.2 hN, hhz] at hC
  rw [hhz] at ht
  obtain ⟨ht0, ht1⟩ := ht
  have hkS : Hid (LabsOk N (single n s t)) := by
    have := single_ok (N := N) (s := s) (t := t) (by rw [hnn.out]; exact hsn) (by rw [hhz]; omega)
    rwa [hnn.out] at this
  have hAll : Hid (∀ (U : World) (Ar : Option Addr), Below w1.heap.size w1 U → Rd U 1 (numE .i64) Ar n (single n s t) → Calls Try.prog 35 #[.agg #[.int .i64 hz, .slice A n c, .slice B m d], .slice Ar n n] U (RetAll15 N (single n s t) D n U)) := fun U Ar hU hA => by
    have := rall15_ok (c := c) (d := d) (ca := n) hs (hR.out.below hU) hA hN hkS.out hS
    rwa [hhz] at this
  have e1 : decide ((s : Int) < 0) = false := decide_eq_false (by omega)
  have e1' : decide (s < 0) = false := decide_eq_false (by omega)
  have e2 : decide ((n : Int) ≤ (s : Int)) = false := decide_eq_false (by omega)
  have e2' : decide (n ≤ s) = false := decide_eq_false (by omega)
  have e3 : decide (t < 0) = false := decide_eq_false (by omega)
  have e4 : decide (hz < t) = false := decide_eq_false (by omega)
  have hsI : (s : Int) < (n : Int) := by omega
  clear hb1 hr x0 x1 x2 hhz hs hN hS
  go_enter Try.func36, Try.ntmps36
  obtain ⟨y0, y1, y2⟩ := hX.out _ (Below.refl _ _)
  go_wp2_with fail
  refine hC.out.mono ?_; rintro e w2 ⟨rfl, hb2⟩
  clear hw1 hbn y0 y1 y2
  obtain ⟨y0, y1, y2⟩ := hX.out _ hb2
  have hmk := makeT n w2 (by omega)
  have hr13 := madeT_row w2 n
  have hb13 : Below w2.heap.size w2 (w2.alloc (.cells (madeCells #[.int .i64 0] n) 2)) := (Below.refl _ w2).alloc (Nat.le_refl _) _
  obtain ⟨w3, hw3⟩ : ∃ q, w2.alloc (.cells (madeCells #[.int .i64 0] n) 2) = q := ⟨_, rfl⟩
  obtain ⟨ga, hga⟩ : ∃ q, w2.heap.size = q := ⟨_, rfl⟩
  rw [hw3, hga] at hmk hr13
  rw [hw3] at hb13
  have hr13h := Lib.hid hr13
  have hb13h := Lib.hid hb13
  have hgah := Lib.hid hga
  have hb2h := Lib.hid hb2
  clear hr13 hb13 hga hb2
  go_wp2_with fail
  go_loopw [10] (fun i wr => ∃ (k : Nat), k ≤ n ∧ i = .int .i64 k ∧ Hid (RowI wr ga (some ⟨ga, 0, none⟩) n (fillK n k)) ∧ Hid (Below w2.heap.size w2 wr)) (fun i _ => n - (intOf i).toNat)
  case atStart => exact ⟨0, Nat.zero_le _, rfl, by simpa [fillK] using hr13h, hb13h⟩
  case round =>
    clear hmk hw3 hr13h hb13h y0 y1 y2
    obtain ⟨k, hk, rfl, hrw, hb⟩ := hrel
    have hgle : w2.heap.size ≤ ga := by rw [hgah.out]; exact Nat.le_refl _
    by_cases hlt2 : k < n
    · obtain ⟨g', e, q9, f9⟩ := hrw.out.at_ (fillK_at hlt2)
      cases e
      have hset := hrw.out.set (y := W.inf) (fillK_at hlt2)
      rw [fillK_set hlt2] at hset
      have hseth := Lib.hid hset
      have hbs := Lib.hid (hb.out.setCell (p := ⟨ga, k, none⟩) hgle (.int .i64 W.inf))
      have hkI : (k : Int) < (n : Int) := by omega
      clear hset hrw hb
      go_wp2_with fail
      go_roundw
      case rel => exact ⟨k + 1, by omega, by go_num, hseth, hbs⟩
      case measure => simp [intOf]; omega
    obtain rfl : k = n := by omega
    have hrw' := hrw.out
    rw [fillK_all] at hrw'
    have hpi : (List.replicate k W.inf)[s]? = some W.inf := by rw [List.getElem?_replicate, if_pos hsn]
    obtain ⟨g', e, q9, f9⟩ := hrw'.at_ hpi
    cases e
    have hset : RowI (wr.setCell ⟨ga, s, none⟩ (.int .i64 t)) ga (some ⟨ga, 0, none⟩) k (single k s t) := hrw'.set (y := t) hpi
    have hbs := hb.out.setCell (p := ⟨ga, s, none⟩) hgle (.int .i64 t)
    obtain ⟨w4, hw4⟩ : ∃ q, wr.setCell ⟨ga, s, none⟩ (.int .i64 t) = q := ⟨_, rfl⟩
    rw [hw4] at hset hbs
    have hb14 := Lib.hid (hb2h.out.trans (hbs.mono hb2h.out.size))
    have hA := Lib.hid (hAll.out w4 _ hb14.out hset.rd)
    obtain ⟨y0, y1, y2⟩ := hX.out _ hb14.out
    clear hset hbs hrw hrw' hb hpi hAll
    go_wp2_with fail
    clear hw4
    refine hA.out.mono ?_; rintro e w5 ⟨A5, c5, V5, v5, rfl, hR5, _, hb5⟩
    have hR5h := Lib.hid hR5
    clear hR5
    go_wp2_with fail
    go_returns
    exact ⟨A5, c5, rfl, hR5h.out, hup.out _ (hb14.out.trans (hb5.mono hb14.out.size))⟩
set_option maxRecDepth 100000 in
theorem rstill15_bad {N : NetP} {A B Ar : Option Addr} {n c m d na ca : Nat} {arr : List Int} {w : World} (hs : Small N) (hr : RNet w N A n B m) (hra : Rd w 1 (numE .i64) Ar na arr) (hna : na ≤ 1099511627776) (hb : sckN N arr ≠ 0) :
    Calls Try.prog 39 #[.agg #[.int .i64 N.hz, .slice A n c, .slice B m d], .slice Ar na ca] w fun e w' => e = .returned (.bool false) ∧ Below w.heap.size w w' := by
  obtain ⟨hz, hhz⟩ : ∃ q, N.hz = q := ⟨_, rfl⟩
  rw [hhz]
  have hb1 : Below w.heap.size w (w.alloc (.cells #[.int .i64 hz, .slice A n c, .slice B m d] 25)) := (Below.refl _ w).alloc (Nat.le_refl _) _
  obtain ⟨x0, x1, x2⟩ := rowBx3 w 25 (.int .i64 hz) (.slice A n c) (.slice B m d)
  have hbn1 : w.heap.size < (w.alloc (.cells #[.int .i64 hz, .slice A n c, .slice B m d] 25)).heap.size := by simp
  obtain ⟨w1, hw1⟩ : ∃ q, w.alloc (.cells #[.int .i64 hz, .slice A n c, .slice B m d] 25) = q := ⟨_, rfl⟩
  rw [hw1] at hb1 x0 x1 x2 hbn1
  have hup : Hid (∀ w2, Below w1.heap.size w1 w2 → Below w.heap.size w w2) := fun w2 h => hb1.trans (h.mono hb1.size)
  obtain ⟨bn, hbn⟩ : ∃ q, w.heap.size = q := ⟨_, rfl⟩
  rw [hbn] at x0 x1 x2 hbn1
  have hR := Lib.hid (hr.below hb1)
  have hX : Hid (∀ U, Below w1.heap.size w1 U → U.cell? ⟨bn, 0, none⟩ = some (.int .i64 hz) ∧ U.cell? ⟨bn, 1, none⟩ = some (.slice A n c) ∧ U.cell? ⟨bn, 2, none⟩ = some (.slice B m d)) := fun U hU =>
    ⟨(hU.cell (p := ⟨bn, 0, none⟩) hbn1).trans x0, (hU.cell (p := ⟨bn, 1, none⟩) hbn1).trans x1, (hU.cell (p := ⟨bn, 2, none⟩) hbn1).trans x2⟩
  have hhzH := Lib.hid hhz
  have hC := Lib.hid (rall15_bad (c := c) (d := d) (ca := ca) hs (hr.below hb1) (hra.below hb1) hna hb)
  rw [hhz] at hC
  have d1 : (sckN N arr != 0) = true := by simp [hb]
  clear hb1 hr hra hhz hs hb
  go_enter Try.func39, Try.ntmps39
  go_wp2_with fail
  refine hC.out.mono ?_; rintro e w2 ⟨rfl, hb2⟩
  go_wp2_with fail
  go_returns
  exact ⟨rfl, hup.out _ hb2⟩
set_option maxRecDepth 100000 in
theorem rstill15_ok {N : NetP} {A B Ar : Option Addr} {n c m d ca : Nat} {X D : List Int} {w : World} (hs : Small N) (hr : RNet w N A n B m) (hra : Rd w 1 (numE .i64) Ar n X) (hN : OkN N) (hkx : LabsOk N X) (hS : Spr N X D) :
    Calls Try.prog 39 #[.agg #[.int .i64 N.hz, .slice A n c, .slice B m d], .slice Ar n ca] w fun e w' => e = .returned (.bool (decide (D = X))) ∧ Below w.heap.size w w' := by
  have hnn : Hid (N.cs.length = n) := hr.nn
  have hn1 : n ≤ 1000 := by have := hs.cn; have := hnn.out; omega
  have hxl : Hid (X.length = n) := hra.len
  obtain ⟨hz, hhz⟩ : ∃ q, N.hz = q := ⟨_, rfl⟩
  rw [hhz]
  have hb1 : Below w.heap.size w (w.alloc (.cells #[.int .i64 hz, .slice A n c, .slice B m d] 25)) := (Below.refl _ w).alloc (Nat.le_refl _) _
  obtain ⟨x0, x1, x2⟩ := rowBx3 w 25 (.int .i64 hz) (.slice A n c) (.slice B m d)
  have hbn1 : w.heap.size < (w.alloc (.cells #[.int .i64 hz, .slice A n c, .slice B m d] 25)).heap.size := by simp
  obtain ⟨w1, hw1⟩ : ∃ q, w.alloc (.cells #[.int .i64 hz, .slice A n c, .slice B m d] 25) = q := ⟨_, rfl⟩
  rw [hw1] at hb1 x0 x1 x2 hbn1
  have hup : Hid (∀ w2, Below w1.heap.size w1 w2 → Below w.heap.size w w2) := fun w2 h => hb1.trans (h.mono hb1.size)
  obtain ⟨bn, hbn⟩ : ∃ q, w.heap.size = q := ⟨_, rfl⟩
  rw [hbn] at x0 x1 x2 hbn1
  have hR := Lib.hid (hr.below hb1)
  have hX : Hid (∀ U, Below w1.heap.size w1 U → U.cell? ⟨bn, 0, none⟩ = some (.int .i64 hz) ∧ U.cell? ⟨bn, 1, none⟩ = some (.slice A n c) ∧ U.cell? ⟨bn, 2, none⟩ = some (.slice B m d)) := fun U hU =>
    ⟨(hU.cell (p := ⟨bn, 0, none⟩) hbn1).trans x0, (hU.cell (p := ⟨bn, 1, none⟩) hbn1).trans x1, (hU.cell (p := ⟨bn, 2, none⟩) hbn1).trans x2⟩
  have hhzH := Lib.hid hhz
  have hRx := Lib.hid (hra.below hb1)
  have hC := Lib.hid (rall15_ok (c := c) (d := d) (ca := ca) hs (hr.below hb1) (hra.below hb1) hN hkx hS)
  rw [hhz] at hC
  have hdl : Hid (D.length = n) := by show _ = _; rw [hS.ok.1]; exact hnn.out
  clear hb1 hr hra hhz hs x0 x1 x2 hS hN hkx
  obtain ⟨y0, y1, y2⟩ := hX.out _ (Below.refl _ _)
  go_enter Try.func39, Try.ntmps39
  go_wp2_with fail
  refine hC.out.mono ?_; rintro e w2 ⟨A2, c2, V2, v2, rfl, hR2, _, hb2⟩
  have hR2h := Lib.hid hR2
  have hb2h := Lib.hid hb2
  clear hR2 hb2 hw1 hbn y0 y1 y2
  go_wp2_with fail
  go_loopw [8] (fun i wr => ∃ (k : Nat), k ≤ n ∧ i = .int .i64 k ∧ Hid (D.take k = X.take k) ∧ Hid (Below w2.heap.size w2 wr)) (fun i _ => n - (intOf i).toNat)
  case atStart => exact ⟨0, Nat.zero_le _, rfl, rfl, Below.refl _ _⟩
  case round =>
    obtain ⟨k, hk, rfl, heq, hb⟩ := hrel
    have hbw := Lib.hid (hb2h.out.trans (hb.out.mono hb2h.out.size))
    by_cases hlt : k < n
    · obtain ⟨bD, oD, t, rfl, hbD, hDk, fD⟩ := (hR2h.out.below hb.out).num hlt
      obtain ⟨bX, oX, x, rfl, hbX, hXk, fX⟩ := (hRx.out.below hbw.out).num hlt
      have hkI : (k : Int) < (n : Int) := by omega
      by_cases q : t = x
      · subst q
        have hnx : Hid (D.take (k + 1) = X.take (k + 1)) := by show _ = _; rw [take_at hDk, take_at hXk, heq.out]
        clear hDk hXk heq
        go_wp2_with fail
        go_quiet (fail)
        go_wp2_with fail
        go_roundw
        case rel => exact ⟨k + 1, by omega, by go_num, hnx, below_drewQ hb.out _⟩
        case measure => simp [intOf]; omega
      · have e1 : (t != x) = true := by simp [q]
        have hne : Hid (decide (D = X) = false) := decide_eq_false (fun h => q (by rw [h, hXk] at hDk; exact (Option.some.inj hDk).symm))
        clear hDk hXk heq q
        go_wp2_with fail
        go_quiet (fail)
        go_wp2_with fail
        go_returns
        exact ⟨by rw [hne.out]; rfl, below_drewQ (hup.out _ hbw.out) _⟩
    · have hye : Hid (decide (D = X) = true) := decide_eq_true (by
        have := heq.out
        rwa [List.take_of_length_le (by rw [hdl.out]; omega), List.take_of_length_le (by rw [hxl.out]; omega)] at this)
      clear heq
      go_wp2_with fail
      go_returns
      exact ⟨by rw [hye.out]; rfl, hup.out _ hbw.out⟩
set_option maxRecDepth 100000 in
theorem rtrail15_bad {N : NetP} {A B Ar : Option Addr} {n c m d na ca : Nat} {arr : List Int} {tg : Int} {w : World} (hs : Small N) (hr : RNet w N A n B m) (hra : Rd w 1 (numE .i64) Ar na arr) (hna : na ≤ 1099511627776) (hb : sckN N arr ≠ 0) :
    Calls Try.prog 37 #[.agg #[.int .i64 N.hz, .slice A n c, .slice B m d], .slice Ar na ca, .int .i64 tg] w fun e w' => e = .returned (.tuple #[.slice none 0 0, .int .i64 (sckN N arr)]) ∧ Below w.heap.size w w' := by
  obtain ⟨hz, hhz⟩ : ∃ q, N.hz = q := ⟨_, rfl⟩
  rw [hhz]
  have hb1 : Below w.heap.size w (w.alloc (.cells #[.int .i64 hz, .slice A n c, .slice B m d] 25)) := (Below.refl _ w).alloc (Nat.le_refl _) _
  obtain ⟨x0, x1, x2⟩ := rowBx3 w 25 (.int .i64 hz) (.slice A n c) (.slice B m d)
  have hbn1 : w.heap.size < (w.alloc (.cells #[.int .i64 hz, .slice A n c, .slice B m d] 25)).heap.size := by simp
  obtain ⟨w1, hw1⟩ : ∃ q, w.alloc (.cells #[.int .i64 hz, .slice A n c, .slice B m d] 25) = q := ⟨_, rfl⟩
  rw [hw1] at hb1 x0 x1 x2 hbn1
  have hup : Hid (∀ w2, Below w1.heap.size w1 w2 → Below w.heap.size w w2) := fun w2 h => hb1.trans (h.mono hb1.size)
  obtain ⟨bn, hbn⟩ : ∃ q, w.heap.size = q := ⟨_, rfl⟩
  rw [hbn] at x0 x1 x2 hbn1
  have hR := Lib.hid (hr.below hb1)
  have hX : Hid (∀ U, Below w1.heap.size w1 U → U.cell? ⟨bn, 0, none⟩ = some (.int .i64 hz) ∧ U.cell? ⟨bn, 1, none⟩ = some (.slice A n c) ∧ U.cell? ⟨bn, 2, none⟩ = some (.slice B m d)) := fun U hU =>
    ⟨(hU.cell (p := ⟨bn, 0, none⟩) hbn1).trans x0, (hU.cell (p := ⟨bn, 1, none⟩) hbn1).trans x1, (hU.cell (p := ⟨bn, 2, none⟩) hbn1).trans x2⟩
  have hhzH := Lib.hid hhz
  have hC := Lib.hid (rall15_bad (c := c) (d := d) (ca := ca) hs (hr.below hb1) (hra.below hb1) hna hb)
  rw [hhz] at hC
  obtain ⟨q, hq⟩ : ∃ q, sckN N arr = q := ⟨_, rfl⟩
  rw [hq] at hC hb ⊢
  have d1 : (q != 0) = true := by simp [hb]
  clear hb1 hr hra hhz hs hb hq
  go_enter Try.func37, Try.ntmps37
  go_wp2_with fail
  refine hC.out.mono ?_; rintro e w2 ⟨rfl, hb2⟩
  go_wp2_with fail
  go_returns
  exact ⟨rfl, hup.out _ hb2⟩
theorem own_via (w : World) (base : Nat) (x : Int × Int) (hb : base ≤ w.heap.size) : (w.alloc (.cells #[.int .i64 x.1, .int .i64 x.2] 59)).ownsRow base 59 2 (.slice (some ⟨w.heap.size, 0, none⟩) 1 1) 1 ([x].flatMap pairE) :=
  ⟨by simp [pairE], .inr ⟨w.heap.size, 1, _, rfl, hb, heap_alloc_new w _, Nat.le_refl _, by rw [maxLen_num]; omega, by simp, by simp [pairE]⟩⟩
set_option maxRecDepth 100000 in
theorem rtrail15_ok {N : NetP} {A B Ar : Option Addr} {n c m d ca : Nat} {X D : List Int} {tg : Int} {w : World} (hs : Small N) (hr : RNet w N A n B m) (hra : Rd w 1 (numE .i64) Ar n X) (hN : OkN N) (hkx : LabsOk N X) (hS : Spr N X D) :
    Calls Try.prog 37 #[.agg #[.int .i64 N.hz, .slice A n c, .slice B m d], .slice Ar n ca, .int .i64 tg] w fun e w' => Below w.heap.size w w' ∧ ((tckN N X D tg ≠ 0 ∧ e = .returned (.tuple #[.slice none 0 0, .int .i64 (tckN N X D tg)])) ∨
      (tckN N X D tg = 0 ∧ ∃ A' c' L, e = .returned (.tuple #[.slice A' L.length c', .int .i64 0]) ∧ Tr N (viasL N X D) tg.toNat L.reverse ∧ Rd w' 2 pairE A' L.length L)) := by
  have hnn : Hid (N.cs.length = n) := hr.nn
  have hmm : Hid (N.ls.length = m) := hr.mm
  have hn1 : n ≤ 1000 := by have := hs.cn; have := hnn.out; omega
  obtain ⟨hz, hhz⟩ : ∃ q, N.hz = q := ⟨_, rfl⟩
  rw [hhz]
  have hb1 : Below w.heap.size w (w.alloc (.cells #[.int .i64 hz, .slice A n c, .slice B m d] 25)) := (Below.refl _ w).alloc (Nat.le_refl _) _
  obtain ⟨x0, x1, x2⟩ := rowBx3 w 25 (.int .i64 hz) (.slice A n c) (.slice B m d)
  have hbn1 : w.heap.size < (w.alloc (.cells #[.int .i64 hz, .slice A n c, .slice B m d] 25)).heap.size := by simp
  obtain ⟨w1, hw1⟩ : ∃ q, w.alloc (.cells #[.int .i64 hz, .slice A n c, .slice B m d] 25) = q := ⟨_, rfl⟩
  rw [hw1] at hb1 x0 x1 x2 hbn1
  have hup : Hid (∀ w2, Below w1.heap.size w1 w2 → Below w.heap.size w w2) := fun w2 h => hb1.trans (h.mono hb1.size)
  obtain ⟨bn, hbn⟩ : ∃ q, w.heap.size = q := ⟨_, rfl⟩
  rw [hbn] at x0 x1 x2 hbn1
  have hR := Lib.hid (hr.below hb1)
  have hX : Hid (∀ U, Below w1.heap.size w1 U → U.cell? ⟨bn, 0, none⟩ = some (.int .i64 hz) ∧ U.cell? ⟨bn, 1, none⟩ = some (.slice A n c) ∧ U.cell? ⟨bn, 2, none⟩ = some (.slice B m d)) := fun U hU =>
    ⟨(hU.cell (p := ⟨bn, 0, none⟩) hbn1).trans x0, (hU.cell (p := ⟨bn, 1, none⟩) hbn1).trans x1, (hU.cell (p := ⟨bn, 2, none⟩) hbn1).trans x2⟩
  have hhzH := Lib.hid hhz
  have hC := Lib.hid (rall15_ok (c := c) (d := d) (ca := ca) hs (hr.below hb1) (hra.below hb1) hN hkx hS)
  rw [hhz] at hC
  have hdl : Hid (D.length = n) := by show _ = _; rw [hS.ok.1]; exact hnn.out
  have hSh := Lib.hid hS
  replace hN := Lib.hid hN
  replace hkx := Lib.hid hkx
  clear hb1 hr hra hhz hs x0 x1 x2 hS
  obtain ⟨y0, y1, y2⟩ := hX.out _ (Below.refl _ _)
  by_cases q1 : tg < 0
  · have ht : tckN N X D tg = 2 := by unfold tckN; rw [if_pos (.inl q1)]
    rw [ht]
    have e1 : decide (tg < 0) = true := decide_eq_true q1
    clear ht
    go_enter Try.func37, Try.ntmps37
    go_wp2_with fail
    refine hC.out.mono ?_; rintro e w2 ⟨A2, c2, V2, v2, rfl, hR2, _, hb2⟩
    go_wp2_with fail
    go_returns
    exact ⟨hup.out _ hb2, .inl ⟨by decide, rfl⟩⟩
  have e1 : decide (tg < 0) = false := decide_eq_false q1
  by_cases q2 : (n : Int) ≤ tg
  · have ht : tckN N X D tg = 2 := by unfold tckN; rw [if_pos (.inr (by rw [hnn.out]; exact q2))]
    rw [ht]
    have e2 : decide ((n : Int) ≤ tg) = true := decide_eq_true q2
    clear ht
    go_enter Try.func37, Try.ntmps37
    go_wp2_with fail
    refine hC.out.mono ?_; rintro e w2 ⟨A2, c2, V2, v2, rfl, hR2, _, hb2⟩
    go_wp2_with fail
    go_returns
    exact ⟨hup.out _ hb2, .inl ⟨by decide, rfl⟩⟩
  have e2 : decide ((n : Int) ≤ tg) = false := decide_eq_false q2
  obtain ⟨p, rfl⟩ : ∃ p : Nat, tg = p := ⟨tg.toNat, by omega⟩
  have hpn : p < n := by omega
  have hpI : (p : Int) < (n : Int) := by omega
  have ht : tckN N X D (p : Int) = if lab D p = W.inf then 5 else 0 := by
    unfold tckN
    rw [if_neg (by have := hnn.out; omega)]; rfl
  have hdp := lab_get (D := D) (s := p) (by rw [hdl.out]; exact hpn)
  have e2' : decide (n ≤ p) = false := decide_eq_false (by omega)
  by_cases q3 : lab D p = W.inf
  · rw [ht, if_pos q3]
    rw [q3] at hdp
    clear ht q3
    go_enter Try.func37, Try.ntmps37
    go_wp2_with fail
    refine hC.out.mono ?_; rintro e w2 ⟨A2, c2, V2, v2, rfl, hR2, _, hb2⟩
    obtain ⟨b, o, x, rfl, hbb, hx, fx⟩ := hR2.num hpn
    obtain rfl : x = W.inf := by rw [hdp] at hx; exact (Option.some.inj hx).symm
    have fx' : w2.cell? ⟨b, o + p, none⟩ = some (.int .i64 4611686018427387904) := fx
    clear fx hx hdp
    go_wp2_with fail
    go_returns
    exact ⟨hup.out _ hb2, .inl ⟨by decide, rfl⟩⟩
  rw [ht, if_neg q3]
  obtain ⟨r, hr⟩ := Tr.ex hN.out hSh.out hkx.out (lab D p + 1).toNat p (by rw [hdl.out]; exact hpn) (by have := hSh.out.ok.fin q3; omega)
  have hrH := Lib.hid hr
  have hshort := Lib.hid (hr.short hN.out hSh.out hkx.out)
  obtain ⟨tp, htp⟩ : ∃ q, lab D p = q := ⟨_, rfl⟩
  rw [htp] at hdp q3
  have e3 : (tp == 4611686018427387904) = false := by simp only [beq_eq_false_iff_ne, ne_eq]; exact q3
  have hdpH := Lib.hid hdp
  clear ht q3 hr hdp htp
  go_enter Try.func37, Try.ntmps37
  go_wp2_with fail
  refine hC.out.mono ?_; rintro e w2 ⟨A2, c2, V2, v2, rfl, hR2, hV2, hb2⟩
  obtain ⟨b2, o2, x, rfl, hbb, hx, fx⟩ := hR2.num hpn
  obtain rfl : x = tp := by have := hdpH.out; rw [hx] at this; exact Option.some.inj this
  have hV2h := Lib.hid hV2
  have hb2h := Lib.hid hb2
  clear hR2 hx hV2 hw1 hbn y0 y1 y2 hb2
  go_wp2_with fail
  go_loopw [2, 11] (fun a l wr => ∃ (u : Nat) (L1 rest : List (Int × Int)) (qA : Option Addr) (qc : Nat), u < n ∧ a = .int .i64 (u : Int) ∧ l = .slice qA L1.length qc ∧ Hid (Tr N (viasL N X D) u rest ∧ rest.reverse ++ L1 = r.reverse ∧ L1.length + rest.length = r.length) ∧ Hid (Rd wr 2 pairE qA L1.length L1) ∧ Hid (Below w2.heap.size w2 wr)) (fun a _ _ => (lab D (intOf a).toNat + 1).toNat)
  case atStart => exact ⟨p, [], r, none, 0, hpn, rfl, rfl, ⟨hrH.out, by simp, by simp⟩, Rd.nil, Below.refl _ _⟩
  case round =>
    obtain ⟨u, L1, rest, qA, qc, hun, rfl, rfl, hT, hL, hb⟩ := hrel
    have hbw := Lib.hid (hb2h.out.trans (hb.out.mono hb2h.out.size))
    obtain ⟨y0, y1, y2⟩ := hX.out _ hbw.out
    obtain ⟨bV, oV, v1, v2, rfl, hbV, hVu, g1, g2⟩ := (hV2h.out.below hb.out).pair hun
    have huI : (u : Int) < (n : Int) := by omega
    have huD : u < D.length := by rw [hdl.out]; exact hun
    have hvu := hVu
    rw [viasL_at N X D huD] at hvu
    have hvf := Option.some.inj hvu
    rcases via_law hN.out hSh.out hkx.out huD with ⟨h1, _⟩ | ⟨i, l, f, h1, hl, _, _, h5, _, _, _, _, h13, _⟩
    · rw [hvf] at h1
      obtain ⟨rfl, rfl⟩ := Prod.mk.inj h1
      obtain ⟨t1, t2, t3⟩ := hT.out
      obtain rfl : rest = [] := by
        cases t1 with
        | stop _ _ => rfl
        | step k1 _ _ => rw [hVu] at k1; have := congrArg Prod.fst (Option.some.inj k1); simp only at this; omega
      have hLr : Hid (L1 = r.reverse) := by show _ = _; simpa using t2
      clear t1 t2 t3 h1 hvf hvu hVu hT
      go_wp2_with fail
      go_returns
      refine ⟨hup.out _ hbw.out, .inr ⟨by first | rfl | trivial, qA, qc, L1, rfl, ?_, hL.out⟩⟩
      rw [hLr.out, List.reverse_reverse]
      exact hrH.out
    · rw [hvf] at h1
      obtain ⟨rfl, rfl⟩ := Prod.mk.inj h1
      have e5 : decide ((0 : Int) ≤ (i : Int)) = true := decide_eq_true (by omega)
      have him : i < m := by have := (List.getElem?_eq_some_iff.1 hl).1; have := hmm.out; omega
      obtain ⟨l', hl', b, o, pA, pn, pc, kA, kn, kc, rfl, hbl, _, _, c0, c1, c2, c3, c4, c5', c6⟩ := (hR.out.below hbw.out).lnk him
      rw [hl] at hl'; cases hl'
      obtain ⟨⟨la0, la1⟩, _⟩ := okL_iff.1 (hN.out.lk l (List.mem_of_getElem? hl))
      obtain ⟨a', ha'⟩ : ∃ a' : Nat, l.a = a' := ⟨l.a.toNat, by omega⟩
      have han : a' < n := by have := hnn.out; omega
      have hiI : (i : Int) < (m : Int) := by omega
      rw [ha'] at c0
      have hlA : l.a.toNat = a' := by rw [ha']; rfl
      rw [hlA] at h5 h13
      obtain ⟨t1, t2, t3⟩ := hT.out
      obtain ⟨rest', hre, hT'⟩ : ∃ rest', rest = ((i : Int), v2) :: rest' ∧ Tr N (viasL N X D) a' rest' := by
        cases t1 with
        | stop k1 k2 => rw [hVu] at k1; cases k1; exact absurd k2 (by show ¬ (i : Int) < 0; omega)
        | step k1 k2 k3 =>
          rw [hVu] at k1
          have e := Option.some.inj k1
          obtain ⟨e6, e7⟩ := Prod.mk.inj e
          have e6 := Int.ofNat.inj e6
          subst e6 e7
          rw [hl] at k2; cases k2
          rw [hlA] at k3
          exact ⟨_, rfl, k3⟩
      subst hre
      have hnx : Hid (Tr N (viasL N X D) a' rest' ∧ rest'.reverse ++ (((i : Int), v2) :: L1) = r.reverse ∧ (((i : Int), v2) :: L1).length + rest'.length = r.length) := ⟨hT', by rw [← t2]; simp, by simp at t3 ⊢; omega⟩
      have hqn : Hid (L1.length ≤ 1000) := by show _ ≤ _; have := hshort.out; have := hdl.out; omega
      obtain ⟨q, hq⟩ : ∃ q, L1.length = q := ⟨_, rfl⟩
      have hown := own_via wr wr.heap.size ((i : Int), v2) (Nat.le_refl _)
      have ha8 : Below wr.heap.size wr (wr.alloc (.cells #[.int .i64 (i : Int), .int .i64 v2] 59)) := (Below.refl _ wr).alloc (Nat.le_refl _) _
      obtain ⟨v', w9, hrun, own9, hg9, _⟩ := own_append (enc := pairE) (l := [((i : Int), v2)]) Try.underlying46 infoVia rfl (by decide) (fun _ => rfl) (fun x u hu => by simp [pairE] at hu; rcases hu with rfl | rfl <;> rfl) qc hown (hL.out.below ha8) (by have := hqn.out; simp; omega) (by decide) ha8.size
      have hbr9 : Below wr.heap.size wr w9 := ha8.grown hg9 ha8.size (fun k hk => (hown.lt k hk).1)
      have hb9 : Below w2.heap.size w2 w9 := hb.out.trans (hbr9.mono hb.out.size)
      obtain ⟨A9, c9, rfl, hR9, _, _⟩ := Rd.of_own (enc := pairE) (l := ((i : Int), v2) :: L1) (fun _ => rfl) (by simp; omega) own9
      have hR9h : Hid (Rd w9 2 pairE A9 (((i : Int), v2) :: L1).length (((i : Int), v2) :: L1)) := by
        have : [((i : Int), v2)].length + L1.length = (((i : Int), v2) :: L1).length := by simp; omega
        rwa [this] at hR9
      have hb9h := Lib.hid hb9
      have hqs : [((i : Int), v2)].length + L1.length = q + 1 := by simp; omega
      rw [hqs, hq] at hrun
      rw [hq]
      have hqH := Lib.hid hq
      have hbwz := Lib.hid (hb2h.out.trans (hb9.mono hb2h.out.size))
      obtain ⟨z0, z1, z2⟩ := hX.out _ hbwz.out
      have k0 := (hbr9.cell (p := ⟨b, _, none⟩) hbl).trans c0
      have j1 := (hbr9.cell (p := ⟨bV, _, none⟩) hbV).trans g1
      have j2 := (hbr9.cell (p := ⟨bV, _, none⟩) hbV).trans g2
      clear hown ha8 own9 hg9 hb9 hR9 t1 t2 t3 hT' hT h1 hvf hvu hVu hl la0 la1 hlA hq hqs hL hb hqn
      go_wp2_with (at_builtin; refine wpList_append_run ?a1 (.tmp 45) (.tmp 46) 46 ?a2 ?a3 ?a4 hrun ?_)
      case a1 => rfl
      case a2 => rfl
      try (case a3 => rfl)
      try (case a4 => rfl)
      go_quiet (fail)
      go_wp2_with fail
      go_roundw
      case rel => exact ⟨a', ((i : Int), v2) :: L1, rest', A9, c9, han, rfl, by rw [List.length_cons, hqH.out], hnx, ⟨hR9h.out.len, hR9h.out.cells⟩, below_drewQ hb9h.out _⟩
      case measure => simp [intOf]; omega
end Go.Proofs.Ytonkkibnigdfbaa
