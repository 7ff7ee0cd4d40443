/-
  Walk: timetablelaw15.SpreadCalls answers true (gen16.py).
-/
import Derived.Test.YtonkkibnigdfbaaRef15B
import Derived.Test.YtonkkibnigdfbaaStillS
import Derived.Test.YtonkkibnigdfbaaNames1S
namespace Go.Proofs.Ytonkkibnigdfbaa
open Go.RowKit Go.Shelf B K
set_option linter.unusedVariables false
set_option linter.unusedSimpArgs false
set_option maxHeartbeats 4000000
def AllP (N : NetP) (X O : List Int) (V : List (Int × Int)) (e0 : Int) : Prop := (sckN N X ≠ 0 ∧ O = [] ∧ V = [] ∧ e0 = sckN N X) ∨ (sckN N X = 0 ∧ Spr N X O ∧ V = viasL N X O ∧ e0 = 0)
def FromP (N : NetP) (n : Nat) (s t : Int) (O : List Int) (e0 : Int) : Prop := (fckN N s t ≠ 0 ∧ O = [] ∧ e0 = fckN N s t) ∨ (fckN N s t = 0 ∧ Spr N (single n s.toNat t) O ∧ e0 = 0)
def TrailP (N : NetP) (X D : List Int) (tg : Int) (L : List (Int × Int)) (e0 : Int) : Prop :=
  (sckN N X ≠ 0 ∧ L = [] ∧ e0 = sckN N X) ∨ (sckN N X = 0 ∧ ((tckN N X D tg ≠ 0 ∧ L = [] ∧ e0 = tckN N X D tg) ∨ (tckN N X D tg = 0 ∧ e0 = 0 ∧ Tr N (viasL N X D) tg.toNat L.reverse)))
def stB (N : NetP) (X O : List Int) : Bool := decide (sckN N X = 0) && decide (O = X)
theorem TrailP.uniq {N : NetP} {X D : List Int} {tg e0 e1 : Int} {L L' : List (Int × Int)} (h : TrailP N X D tg L e0) (h' : TrailP N X D tg L' e1) : L = L' ∧ e0 = e1 := by
  rcases h with ⟨h1, h2, h3⟩ | ⟨h1, ⟨h2, h3, h4⟩ | ⟨h2, h3, h4⟩⟩ <;> rcases h' with ⟨k1, k2, k3⟩ | ⟨k1, ⟨k2, k3, k4⟩ | ⟨k2, k3, k4⟩⟩
  all_goals first | (exfalso; omega) | exact ⟨h2.trans k2.symm, h3.trans k3.symm⟩ | exact ⟨h3.trans k3.symm, h4.trans k4.symm⟩ | exact ⟨by have := congrArg List.reverse (h4.uniq k4); simpa only [List.reverse_reverse] using this, h3.trans k3.symm⟩
def RetA (O : List Int) (V : List (Int × Int)) (e0 : Int) (w : World) (e : Ending) (w' : World) : Prop :=
  ∃ A c Av cv, e = .returned (.tuple #[.slice A O.length c, .slice Av V.length cv, .int .i64 e0]) ∧ Rd w' 1 (numE .i64) A O.length O ∧ Rd w' 2 pairE Av V.length V ∧ Below w.heap.size w w'
def RetF (O : List Int) (e0 : Int) (w : World) (e : Ending) (w' : World) : Prop :=
  ∃ A c, e = .returned (.tuple #[.slice A O.length c, .int .i64 e0]) ∧ Rd w' 1 (numE .i64) A O.length O ∧ Below w.heap.size w w'
def RetV (L : List (Int × Int)) (e0 : Int) (w : World) (e : Ending) (w' : World) : Prop :=
  ∃ A c, e = .returned (.tuple #[.slice A L.length c, .int .i64 e0]) ∧ Rd w' 2 pairE A L.length L ∧ Below w.heap.size w w'
section
variable {N : NetP} {A B Ar : Option Addr} {n c m d na ca : Nat} {X O : List Int} {V : List (Int × Int)} {e0 : Int} {w : World}
theorem len_of (hr : RNet w N A n B m) (hra : Rd w 1 (numE .i64) Ar na X) (h : sckN N X = 0) : na = n ∧ OkN N ∧ LabsOk N X := by
  obtain ⟨hN, hk⟩ := sck_iff.1 h
  exact ⟨by rw [← hra.len, ← hr.nn]; exact hk.1, hN, hk⟩
theorem all_u (hs : Small N) (hr : RNet w N A n B m) (hra : Rd w 1 (numE .i64) Ar na X) (hna : na ≤ 1099511627776) :
    Calls Try.prog 25 #[.agg #[.int .i64 N.hz, .slice A n c, .slice B m d], .slice Ar na ca] w fun e w' => ∃ O V e0, AllP N X O V e0 ∧ RetA O V e0 w e w' := by
  by_cases hb : sckN N X = 0
  · obtain ⟨rfl, hN, hk⟩ := len_of hr hra hb
    refine (all_ok hs hr hra hN hk).mono ?_
    rintro e w' ⟨A5, c5, D, V5, v5, rfl, hS, hI, _, _, hV, _, _, hb5⟩
    have hl : D.length = na := by rw [hS.ok.1]; exact hr.nn
    refine ⟨D, viasL N X D, 0, .inr ⟨hb, hS, rfl, rfl⟩, A5, c5, V5, v5, by rw [viasL_len, hl], by rw [hl]; exact hI.rd, by rw [viasL_len, hl]; exact hV, hb5⟩
  · refine (all_bad hs hr hra hna hb).mono ?_
    rintro e w' ⟨rfl, hb5⟩
    exact ⟨[], [], _, .inl ⟨hb, rfl, rfl, rfl⟩, none, 0, none, 0, rfl, Rd.nil, Rd.nil, hb5⟩
theorem rall_u (hs : Small N) (hP : AllP N X O V e0) (hr : RNet w N A n B m) (hra : Rd w 1 (numE .i64) Ar na X) (hna : na ≤ 1099511627776) :
    Calls Try.prog 35 #[.agg #[.int .i64 N.hz, .slice A n c, .slice B m d], .slice Ar na ca] w (RetA O V e0 w) := by
  rcases hP with ⟨hb, rfl, rfl, rfl⟩ | ⟨hb, hS, rfl, rfl⟩
  · refine (rall15_bad hs hr hra hna hb).mono ?_
    rintro e w' ⟨rfl, hb5⟩
    exact ⟨none, 0, none, 0, rfl, Rd.nil, Rd.nil, hb5⟩
  · obtain ⟨rfl, hN, hk⟩ := len_of hr hra hb
    refine (rall15_ok hs hr hra hN hk hS).mono ?_
    rintro e w' ⟨A5, c5, V5, v5, rfl, hI, hV, hb5⟩
    have hl : O.length = na := by rw [hS.ok.1]; exact hr.nn
    exact ⟨A5, c5, V5, v5, by rw [viasL_len, hl], by rw [hl]; exact hI, by rw [viasL_len, hl]; exact hV, hb5⟩
theorem from_u (hs : Small N) (hr : RNet w N A n B m) (s t : Int) :
    Calls Try.prog 22 #[.agg #[.int .i64 N.hz, .slice A n c, .slice B m d], .int .i64 s, .int .i64 t] w fun e w' => ∃ O e0, FromP N n s t O e0 ∧ RetF O e0 w e w' := by
  by_cases hb : fckN N s t = 0
  · obtain ⟨hN, hsn, ht⟩ := fck_iff.1 hb
    obtain ⟨p, rfl⟩ : ∃ p : Nat, s = p := ⟨s.toNat, by omega⟩
    refine (sfrom_ok hs hr hN (by rw [← hr.nn]; omega) ht).mono ?_
    rintro e w' ⟨A5, c5, D, rfl, hS, hI, _, _, hb5⟩
    have hl : D.length = n := by rw [hS.ok.1]; exact hr.nn
    exact ⟨D, 0, .inr ⟨hb, hS, rfl⟩, A5, c5, by rw [hl], by rw [hl]; exact hI.rd, hb5⟩
  · refine (sfrom_bad hs hr hb).mono ?_
    rintro e w' ⟨rfl, hb5⟩
    exact ⟨[], _, .inl ⟨hb, rfl, rfl⟩, none, 0, rfl, Rd.nil, hb5⟩
theorem rfrom_u (hs : Small N) (hr : RNet w N A n B m) (s t : Int) (hP : FromP N n s t O e0) :
    Calls Try.prog 36 #[.agg #[.int .i64 N.hz, .slice A n c, .slice B m d], .int .i64 s, .int .i64 t] w (RetF O e0 w) := by
  rcases hP with ⟨hb, rfl, rfl⟩ | ⟨hb, hS, rfl⟩
  · refine (rfrom15_bad hs hr hb).mono ?_
    rintro e w' ⟨rfl, hb5⟩
    exact ⟨none, 0, rfl, Rd.nil, hb5⟩
  · obtain ⟨hN, hsn, ht⟩ := fck_iff.1 hb
    obtain ⟨p, rfl⟩ : ∃ p : Nat, s = p := ⟨s.toNat, by omega⟩
    refine (rfrom15_ok hs hr hN (by rw [← hr.nn]; omega) ht hS).mono ?_
    rintro e w' ⟨A5, c5, rfl, hI, hb5⟩
    have hl : O.length = n := by rw [hS.ok.1]; exact hr.nn
    exact ⟨A5, c5, by rw [hl], by rw [hl]; exact hI, hb5⟩
theorem trail_u (hs : Small N) (hP : AllP N X O V e0) (hr : RNet w N A n B m) (hra : Rd w 1 (numE .i64) Ar na X) (hna : na ≤ 1099511627776) (tg : Int) :
    Calls Try.prog 32 #[.agg #[.int .i64 N.hz, .slice A n c, .slice B m d], .slice Ar na ca, .int .i64 tg] w fun e w' => ∃ L e1, TrailP N X O tg L e1 ∧ RetV L e1 w e w' := by
  rcases hP with ⟨hb, rfl, rfl, rfl⟩ | ⟨hb, hS, rfl, rfl⟩
  · refine (trail_bad hs hr hra hna hb).mono ?_
    rintro e w' ⟨rfl, hb5⟩
    exact ⟨[], _, .inl ⟨hb, rfl, rfl⟩, none, 0, rfl, Rd.nil, hb5⟩
  · obtain ⟨rfl, hN, hk⟩ := len_of hr hra hb
    refine (trail_ok hs hr hra hN hk).mono ?_
    rintro e w' ⟨D, hS', hb5, ⟨ht, rfl⟩ | ⟨ht, A5, c5, L, rfl, hT, hL, _, _⟩⟩
    · obtain rfl : O = D := hS.uniq hS'
      exact ⟨[], _, .inr ⟨hb, .inl ⟨ht, rfl, rfl⟩⟩, none, 0, rfl, Rd.nil, hb5⟩
    · obtain rfl : O = D := hS.uniq hS'
      exact ⟨L, 0, .inr ⟨hb, .inr ⟨ht, rfl, hT⟩⟩, A5, c5, rfl, hL, hb5⟩
theorem rtrail_u (hs : Small N) (hP : AllP N X O V e0) (hr : RNet w N A n B m) (hra : Rd w 1 (numE .i64) Ar na X) (hna : na ≤ 1099511627776) (tg : Int) {L : List (Int × Int)} {e1 : Int} (hT : TrailP N X O tg L e1) :
    Calls Try.prog 37 #[.agg #[.int .i64 N.hz, .slice A n c, .slice B m d], .slice Ar na ca, .int .i64 tg] w (RetV L e1 w) := by
  rcases hP with ⟨hb, rfl, rfl, rfl⟩ | ⟨hb, hS, rfl, rfl⟩
  · refine (rtrail15_bad hs hr hra hna hb).mono ?_
    rintro e w' ⟨rfl, hb5⟩
    obtain ⟨rfl, rfl⟩ := hT.uniq (.inl ⟨hb, rfl, rfl⟩)
    exact ⟨none, 0, rfl, Rd.nil, hb5⟩
  · obtain ⟨rfl, hN, hk⟩ := len_of hr hra hb
    refine (rtrail15_ok hs hr hra hN hk hS).mono ?_
    rintro e w' ⟨hb5, ⟨ht, rfl⟩ | ⟨ht, A5, c5, L', rfl, hT', hL⟩⟩
    · obtain ⟨rfl, rfl⟩ := hT.uniq (.inr ⟨hb, .inl ⟨ht, rfl, rfl⟩⟩)
      exact ⟨none, 0, rfl, Rd.nil, hb5⟩
    · obtain ⟨rfl, rfl⟩ := hT.uniq (.inr ⟨hb, .inr ⟨ht, rfl, hT'⟩⟩)
      exact ⟨A5, c5, rfl, hL, hb5⟩
theorem still_u (hs : Small N) (hP : AllP N X O V e0) (hr : RNet w N A n B m) (hra : Rd w 1 (numE .i64) Ar na X) (hna : na ≤ 1099511627776) :
    Calls Try.prog 29 #[.agg #[.int .i64 N.hz, .slice A n c, .slice B m d], .slice Ar na ca] w fun e w' => e = .returned (.bool (stB N X O)) ∧ Below w.heap.size w w' := by
  rcases hP with ⟨hb, rfl, rfl, rfl⟩ | ⟨hb, hS, rfl, rfl⟩
  · refine (sstill_bad hs hr hra hna hb).mono ?_
    rintro e w' ⟨rfl, hb5⟩
    exact ⟨by unfold stB; rw [decide_eq_false hb]; rfl, hb5⟩
  · obtain ⟨rfl, hN, hk⟩ := len_of hr hra hb
    refine (sstill_ok hs hr hra hN hk).mono ?_
    rintro e w' ⟨D, rfl, hS', hb5⟩
    obtain rfl : O = D := hS.uniq hS'
    exact ⟨by unfold stB; rw [decide_eq_true hb]; rfl, hb5⟩
theorem rstill_u (hs : Small N) (hP : AllP N X O V e0) (hr : RNet w N A n B m) (hra : Rd w 1 (numE .i64) Ar na X) (hna : na ≤ 1099511627776) :
    Calls Try.prog 39 #[.agg #[.int .i64 N.hz, .slice A n c, .slice B m d], .slice Ar na ca] w fun e w' => e = .returned (.bool (stB N X O)) ∧ Below w.heap.size w w' := by
  rcases hP with ⟨hb, rfl, rfl, rfl⟩ | ⟨hb, hS, rfl, rfl⟩
  · refine (rstill15_bad hs hr hra hna hb).mono ?_
    rintro e w' ⟨rfl, hb5⟩
    exact ⟨by unfold stB; rw [decide_eq_false hb]; rfl, hb5⟩
  · obtain ⟨rfl, hN, hk⟩ := len_of hr hra hb
    refine (rstill15_ok hs hr hra hN hk hS).mono ?_
    rintro e w' ⟨rfl, hb5⟩
    exact ⟨by unfold stB; rw [decide_eq_true hb]; rfl, hb5⟩
theorem AllP.len (h : AllP N X O V e0) (hs : Small N) : O.length ≤ 1000 ∧ V.length ≤ 1000 := by
  rcases h with ⟨_, rfl, rfl, _⟩ | ⟨_, hS, rfl, _⟩
  · simp
  · rw [viasL_len]
    have := hS.ok.1
    have := hs.cn
    omega
theorem FromP.len {s t : Int} (h : FromP N n s t O e0) (hs : Small N) : O.length ≤ 1000 := by
  rcases h with ⟨_, rfl, _⟩ | ⟨_, hS, _⟩
  · simp
  · have := hS.ok.1
    have := hs.cn
    omega
theorem TrailP.len {tg : Int} {L : List (Int × Int)} {e1 : Int} (h : TrailP N X O tg L e1) (hP : AllP N X O V e0) (hs : Small N) : L.length ≤ 1000 := by
  rcases h with ⟨_, rfl, _⟩ | ⟨hb, ⟨_, rfl, _⟩ | ⟨_, _, hT⟩⟩
  · simp
  · simp
  · rcases hP with ⟨h, _⟩ | ⟨_, hS, _⟩
    · exact absurd hb h
    · obtain ⟨hN, hk⟩ := sck_iff.1 hb
      have := hT.short hN hS hk
      rw [List.length_reverse] at this
      have := hS.ok.1
      have := hs.cn
      omega
end
set_option maxRecDepth 100000 in
theorem scalls_any {N : NetP} {A : Option Addr} {n c : Nat} {B : Option Addr} {m d : Nat} (Ax : Option Addr) (nx cx : Nat) (X : List Int) (s t : Int) (w : World)
    (hr : RNet w N A n B m) (hrx : Rd w 1 (numE .i64) Ax nx X) :
    Calls Try.prog 10 #[.agg #[.int .i64 N.hz, .slice A n c, .slice B m d], .slice Ax nx cx, .int .i64 s, .int .i64 t] w fun e w' => e = .returned (.bool true) ∧ Below w.heap.size w w' := by
  obtain ⟨hz, hhz⟩ : ∃ q, N.hz = q := ⟨_, rfl⟩
  rw [hhz]
  have hb1 : Below w.heap.size w (w.alloc (.cells #[.int .i64 hz, .slice A n c, .slice B m d] 25)) := (Below.refl _ w).alloc (Nat.le_refl _) _
  obtain ⟨x0, x1, x2⟩ := rowBx3 w 25 (.int .i64 hz) (.slice A n c) (.slice B m d)
  have hbn1 : w.heap.size < (w.alloc (.cells #[.int .i64 hz, .slice A n c, .slice B m d] 25)).heap.size := by simp
  obtain ⟨w1, hw1⟩ : ∃ q, w.alloc (.cells #[.int .i64 hz, .slice A n c, .slice B m d] 25) = q := ⟨_, rfl⟩
  rw [hw1] at hb1 x0 x1 x2 hbn1
  have hup : Hid (∀ w2, Below w1.heap.size w1 w2 → Below w.heap.size w w2) := fun w2 h => hb1.trans (h.mono hb1.size)
  obtain ⟨bn, hbn⟩ : ∃ q, w.heap.size = q := ⟨_, rfl⟩
  rw [hbn] at x0 x1 x2 hbn1
  have hR := Lib.hid (hr.below hb1)
  have hX : Hid (∀ U, Below w1.heap.size w1 U → U.cell? ⟨bn, 0, none⟩ = some (.int .i64 hz) ∧ U.cell? ⟨bn, 1, none⟩ = some (.slice A n c) ∧ U.cell? ⟨bn, 2, none⟩ = some (.slice B m d)) := fun U hU =>
    ⟨(hU.cell (p := ⟨bn, 0, none⟩) hbn1).trans x0, (hU.cell (p := ⟨bn, 1, none⟩) hbn1).trans x1, (hU.cell (p := ⟨bn, 2, none⟩) hbn1).trans x2⟩
  have hhzH := Lib.hid hhz
  have hRx := Lib.hid (hrx.below hb1)
  clear hb1 hr hrx x0 x1 x2 hhz
  go_enter Try.func10, Try.ntmps10
  go_wp2_with fail
  refine (slives_any _).mono ?_; rintro e w2 ⟨rfl, hb2⟩
  obtain ⟨y0, y1, y2⟩ := hX.out _ hb2
  have hL := Lib.hid (lightNet_any (c := c) (d := d) (hz := hz) w2 (hR.out.below hb2))
  have hb2 := Lib.hid hb2
  rename_i hb20; clear hb20 hw1 hbn
  go_wp2_with fail
  refine hL.out.mono ?_; rintro e w3 ⟨b, rfl, hbt, hb3⟩
  have hb13 := hb2.out.trans (hb3.mono hb2.out.size)
  clear y0 y1 y2
  obtain ⟨y0, y1, y2⟩ := hX.out _ hb13
  cases b with
  | false =>
    go_wp2_with fail
    go_returns
    exact ⟨rfl, hup.out _ hb13⟩
  | true =>
    have hlt := Lib.hid (hbt rfl)
    have hs := Lib.hid (hlt.out.small (by omega) (by omega) (by omega))
    clear hbt
    by_cases h40 : 40 < nx
    · have d1 : decide ((40 : Int) < (nx : Int)) = true := decide_eq_true (by omega)
      have d1' : decide (40 < nx) = true := decide_eq_true h40
      go_wp2_with fail
      go_returns
      exact ⟨rfl, hup.out _ hb13⟩
    have d1 : decide ((40 : Int) < (nx : Int)) = false := decide_eq_false (by omega)
    have d1' : decide (40 < nx) = false := decide_eq_false h40
    have hnn : Hid (N.cs.length = n) := hR.out.nn
    have hmm : Hid (N.ls.length = m) := hR.out.mm
    have hON := Lib.hid (ownNet_any (c := c) (d := d) hs.out w3 (hR.out.below hb13))
    rw [hhzH.out, hnn.out, hmm.out] at hON
    have s3 := Lib.hid hb13
    clear hb13 hb3
    go_wp2_with fail
    refine hON.out.mono ?_; rintro e w4 ⟨⟨sCA, sCc⟩, ⟨sLA, sLc⟩, cv, lv, rfl, hC, hL, hb4⟩
    simp only [slV] at hC hL ⊢
    have s4 := Lib.hid (s3.out.trans (hb4.mono s3.out.size))
    have hM4 := Lib.hid (CsV.rnet2 (N := N) hC hL)
    have hOw := Lib.hid (ownT_any cx (hRx.out.below s4.out) (by omega))
    clear hC hL hb4 hON
    go_wp2_with fail
    refine hOw.out.mono ?_; rintro e w5 ⟨A5, c5, rfl, hI5, _, _, hb5⟩
    have s5 := Lib.hid (s4.out.trans (hb5.mono s4.out.size))
    have hA1 := Lib.hid (all_u (c := sCc) (d := sLc) (ca := c5) hs.out (hM4.out.below hb5) hI5.rd (by omega))
    rw [hhzH.out] at hA1
    clear hI5 hb5 hOw y0 y1 y2
    go_wp2_with fail
    refine hA1.out.mono ?_; rintro e w6 ⟨O, V, e0, hP, A6, c6, V6, v6, rfl, hO6, hV6, hb6⟩
    have s6 := Lib.hid (s5.out.trans (hb6.mono s5.out.size))
    have hOl := (hP.len hs.out).1
    have hVl := (hP.len hs.out).2
    obtain ⟨qO, hqO⟩ : ∃ q, O.length = q := ⟨_, rfl⟩
    obtain ⟨qV, hqV⟩ : ∃ q, V.length = q := ⟨_, rfl⟩
    rw [hqO] at hO6 hOl
    rw [hqV] at hV6 hVl
    rw [hqO, hqV]
    replace hP := Lib.hid hP
    replace hO6 := Lib.hid hO6
    replace hV6 := Lib.hid hV6
    replace hqO := Lib.hid hqO
    replace hqV := Lib.hid hqV
    clear hb6 hA1
    obtain ⟨y0, y1, y2⟩ := hX.out _ s6.out
    have hA2 := Lib.hid (rall_u (c := c) (d := d) (ca := cx) hs.out hP.out (hR.out.below s6.out) (hRx.out.below s6.out) (by omega))
    rw [hhzH.out] at hA2
    go_wp2_with fail
    refine hA2.out.mono ?_; rintro e w7 ⟨A7, c7, V7, v7, rfl, hO7, hV7, hb7⟩
    have s7 := Lib.hid (s6.out.trans (hb7.mono s6.out.size))
    rw [hqO.out] at hO7
    rw [hqV.out] at hV7
    rw [hqO.out, hqV.out]
    have b67 := Lib.hid hb7
    replace hO7 := Lib.hid hO7
    replace hV7 := Lib.hid hV7
    clear hb7 hA2 y0 y1 y2
    obtain ⟨y0, y1, y2⟩ := hX.out _ s7.out
    have hF1 := Lib.hid (from_u (c := c) (d := d) hs.out (hR.out.below s7.out) s t)
    rw [hhzH.out] at hF1
    go_wp2_with fail
    refine hF1.out.mono ?_; rintro e w8 ⟨F, f0, hFP, A8, c8, rfl, hF8, hb8⟩
    have s8 := Lib.hid (s7.out.trans (hb8.mono s7.out.size))
    have b78 := Lib.hid hb8
    have hFl := hFP.len hs.out
    obtain ⟨qF, hqF⟩ : ∃ q, F.length = q := ⟨_, rfl⟩
    rw [hqF] at hF8 hFl
    rw [hqF]
    replace hFP := Lib.hid hFP
    replace hF8 := Lib.hid hF8
    replace hqF := Lib.hid hqF
    clear hb8 hF1 y0 y1 y2
    obtain ⟨y0, y1, y2⟩ := hX.out _ s8.out
    have hF2 := Lib.hid (rfrom_u (c := c) (d := d) hs.out (hR.out.below s8.out) s t hFP.out)
    rw [hhzH.out] at hF2
    go_wp2_with fail
    refine hF2.out.mono ?_; rintro e w9 ⟨A9, c9, rfl, hF9, hb9⟩
    have s9 := Lib.hid (s8.out.trans (hb9.mono s8.out.size))
    have b89 := Lib.hid hb9
    rw [hqF.out] at hF9
    rw [hqF.out]
    replace hF9 := Lib.hid hF9
    clear hb9 hF2 y0 y1 y2
    obtain ⟨y0, y1, y2⟩ := hX.out _ s9.out
    have hT1 := Lib.hid (trail_u (c := c) (d := d) (ca := cx) hs.out hP.out (hR.out.below s9.out) (hRx.out.below s9.out) (by omega) s)
    rw [hhzH.out] at hT1
    go_wp2_with fail
    refine hT1.out.mono ?_; rintro e w10 ⟨L, l0, hTP, A10, c10, rfl, hL10, hb10⟩
    have s10 := Lib.hid (s9.out.trans (hb10.mono s9.out.size))
    have b910 := Lib.hid hb10
    have hLl := hTP.len hP.out hs.out
    obtain ⟨qL, hqL⟩ : ∃ q, L.length = q := ⟨_, rfl⟩
    rw [hqL] at hL10 hLl
    rw [hqL]
    replace hTP := Lib.hid hTP
    replace hL10 := Lib.hid hL10
    replace hqL := Lib.hid hqL
    clear hb10 hT1 y0 y1 y2
    obtain ⟨y0, y1, y2⟩ := hX.out _ s10.out
    have hT2 := Lib.hid (rtrail_u (c := c) (d := d) (ca := cx) hs.out hP.out (hR.out.below s10.out) (hRx.out.below s10.out) (by omega) s hTP.out)
    rw [hhzH.out] at hT2
    go_wp2_with fail
    refine hT2.out.mono ?_; rintro e w11 ⟨A11, c11, rfl, hL11, hb11⟩
    have s11 := Lib.hid (s10.out.trans (hb11.mono s10.out.size))
    have b1011 := Lib.hid hb11
    rw [hqL.out] at hL11
    rw [hqL.out]
    replace hL11 := Lib.hid hL11
    clear hb11 hT2 y0 y1 y2
    obtain ⟨y0, y1, y2⟩ := hX.out _ s11.out
    have hb910' := Lib.hid (b910.out.trans (b1011.out.mono b910.out.size))
    have hb89' := Lib.hid (b89.out.trans (hb910'.out.mono b89.out.size))
    have hb78' := Lib.hid (b78.out.trans (hb89'.out.mono b78.out.size))
    have hb67' := Lib.hid (b67.out.trans (hb78'.out.mono b67.out.size))
    have k1 : Hid (∀ U, Below w11.heap.size w11 U → Calls Try.prog 27 #[.slice A6 qO c6, .slice A7 qO c7] U fun e w' => e = .returned (.bool true) ∧ Below U.heap.size U w') := fun U hU => by
      have := sameT_any A6 qO c6 O A7 qO c7 O U ((hO6.out.below hb67'.out).below hU) ((hO7.out.below hb78'.out).below hU) (by omega) (by omega)
      rwa [decide_eq_true rfl] at this
    have k2 : Hid (∀ U, Below w11.heap.size w11 U → Calls Try.prog 34 #[.slice V6 qV v6, .slice V7 qV v7] U fun e w' => e = .returned (.bool true) ∧ Below U.heap.size U w') := fun U hU => by
      have := sameV_any V6 qV v6 V V7 qV v7 V U ((hV6.out.below hb67'.out).below hU) ((hV7.out.below hb78'.out).below hU) (by omega) (by omega)
      rwa [decide_eq_true rfl] at this
    have k3 : Hid (∀ U, Below w11.heap.size w11 U → Calls Try.prog 27 #[.slice A8 qF c8, .slice A9 qF c9] U fun e w' => e = .returned (.bool true) ∧ Below U.heap.size U w') := fun U hU => by
      have := sameT_any A8 qF c8 F A9 qF c9 F U ((hF8.out.below hb89'.out).below hU) ((hF9.out.below hb910'.out).below hU) (by omega) (by omega)
      rwa [decide_eq_true rfl] at this
    have k4 : Hid (∀ U, Below w11.heap.size w11 U → Calls Try.prog 34 #[.slice A10 qL c10, .slice A11 qL c11] U fun e w' => e = .returned (.bool true) ∧ Below U.heap.size U w') := fun U hU => by
      have := sameV_any A10 qL c10 L A11 qL c11 L U ((hL10.out.below b1011.out).below hU) (hL11.out.below hU) (by omega) (by omega)
      rwa [decide_eq_true rfl] at this
    have k5 : Hid (∀ U, Below w11.heap.size w11 U → Calls Try.prog 24 #[.agg #[.int .i64 hz, .slice A n c, .slice B m d], .slice Ax nx cx] U fun e w' => e = .returned (.int .i64 (sckN N X)) ∧ Below U.heap.size U w') := fun U hU => by
      have := scheck_any (c := c) (d := d) (ca := cx) hs.out U ((hR.out.below s11.out).below hU) ((hRx.out.below s11.out).below hU) (by omega)
      rwa [hhzH.out] at this
    have k6 : Hid (∀ U, Below w11.heap.size w11 U → Calls Try.prog 38 #[.agg #[.int .i64 hz, .slice A n c, .slice B m d], .slice Ax nx cx] U fun e w' => e = .returned (.int .i64 (sckN N X)) ∧ Below U.heap.size U w') := fun U hU => by
      have := rcheck15_any (c := c) (d := d) (ca := cx) hs.out U ((hR.out.below s11.out).below hU) ((hRx.out.below s11.out).below hU) (by omega)
      rwa [hhzH.out] at this
    have k7 : Hid (∀ U, Below w11.heap.size w11 U → Calls Try.prog 29 #[.agg #[.int .i64 hz, .slice A n c, .slice B m d], .slice Ax nx cx] U fun e w' => e = .returned (.bool (stB N X O)) ∧ Below U.heap.size U w') := fun U hU => by
      have := still_u (c := c) (d := d) (ca := cx) hs.out hP.out ((hR.out.below s11.out).below hU) ((hRx.out.below s11.out).below hU) (by omega)
      rwa [hhzH.out] at this
    have k8 : Hid (∀ U, Below w11.heap.size w11 U → Calls Try.prog 39 #[.agg #[.int .i64 hz, .slice A n c, .slice B m d], .slice Ax nx cx] U fun e w' => e = .returned (.bool (stB N X O)) ∧ Below U.heap.size U w') := fun U hU => by
      have := rstill_u (c := c) (d := d) (ca := cx) hs.out hP.out ((hR.out.below s11.out).below hU) ((hRx.out.below s11.out).below hU) (by omega)
      rwa [hhzH.out] at this
    obtain ⟨sc, hsc⟩ : ∃ q, sckN N X = q := ⟨_, rfl⟩
    obtain ⟨sb, hsb⟩ : ∃ q, stB N X O = q := ⟨_, rfl⟩
    rw [hsc] at k5 k6
    rw [hsb] at k7 k8
    have hbn11 : bn < w11.heap.size := by have := s11.out.size; omega
    clear hsc hsb
    go_upto_region 11 with fail
    refine wp_region_below w11.heap.size (by kernel_rfl) (by kernel_rfl) ?_
    intro C hC
    repeat (go_big_quiet_step (first
      | ((intro _; with_reducible rfl))
      | (intro hc; have m0 := (hc.cell (p := ⟨bn, _, none⟩) hbn11).trans y0; have m1 := (hc.cell (p := ⟨bn, _, none⟩) hbn11).trans y1; have m2 := (hc.cell (p := ⟨bn, _, none⟩) hbn11).trans y2; simp only [m0, m1, m2, Result.andThen]; exact ⟨trivial, rfl⟩)
      | (intro hc; with_reducible refine (k1.out _ hc).mono ?_; rintro e w'' ⟨rfl, hb⟩; exact ⟨rfl, hc.trans (hb.mono hc.size)⟩)
      | (intro hc; with_reducible refine (k2.out _ hc).mono ?_; rintro e w'' ⟨rfl, hb⟩; exact ⟨rfl, hc.trans (hb.mono hc.size)⟩)
      | (intro hc; with_reducible refine (k3.out _ hc).mono ?_; rintro e w'' ⟨rfl, hb⟩; exact ⟨rfl, hc.trans (hb.mono hc.size)⟩)
      | (intro hc; with_reducible refine (k4.out _ hc).mono ?_; rintro e w'' ⟨rfl, hb⟩; exact ⟨rfl, hc.trans (hb.mono hc.size)⟩)
      | (intro hc; with_reducible refine (k5.out _ hc).mono ?_; rintro e w'' ⟨rfl, hb⟩; exact ⟨rfl, hc.trans (hb.mono hc.size)⟩)
      | (intro hc; with_reducible refine (k6.out _ hc).mono ?_; rintro e w'' ⟨rfl, hb⟩; exact ⟨rfl, hc.trans (hb.mono hc.size)⟩)
      | (intro hc; with_reducible refine (k7.out _ hc).mono ?_; rintro e w'' ⟨rfl, hb⟩; exact ⟨rfl, hc.trans (hb.mono hc.size)⟩)
      | (intro hc; with_reducible refine (k8.out _ hc).mono ?_; rintro e w'' ⟨rfl, hb⟩; exact ⟨rfl, hc.trans (hb.mono hc.size)⟩)))
    refine wpQuiet_nil ?_
    intro w12 hb12
    clear hC
    go_wp2_with fail
    go_returns
    exact ⟨rfl, hup.out _ (s11.out.trans (hb12.mono s11.out.size))⟩
end Go.Proofs.Ytonkkibnigdfbaa
