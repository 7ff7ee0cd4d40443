/-
  Walks: slices.Equal at ticks; spread.Still.
-/
import Derived.Test.YtonkkibnigdfbaaSpS
import Derived.BigQuiet
namespace Go.Proofs.Ytonkkibnigdfbaa
open Go.RowKit Go.Shelf B K
set_option linter.unusedVariables false
set_option linter.unusedSimpArgs false
set_option maxHeartbeats 2000000
theorem equalT_any (A : Option Addr) (n c : Nat) (l : List Int) (A' : Option Addr) (n' c' : Nat) (l' : List Int) (w : World) (hr : Rd w 1 (numE .i64) A n l) (hr' : Rd w 1 (numE .i64) A' n' l') (hn : n ≤ 1099511627776) (hn' : n' ≤ 1099511627776) :
    Calls Try.prog 63 #[.slice A n c, .slice A' n' c'] w fun e w' => e = .returned (.bool (decide (l = l'))) ∧ Below w.heap.size w w' := by
  by_cases hnn : n = n'
  · subst hnn
    have hne : ((n : Int) != (n : Int)) = false := by simp
    go_enter Try.func63, Try.ntmps63
    go_wp2_with fail
    go_loopw [13] (fun i wr => ∃ (k : Nat), k ≤ n ∧ i = .int .i64 k ∧ Below w.heap.size w wr ∧ Hid (l.take k = l'.take k)) (fun i _ => n - (intOf i).toNat)
    case atStart => exact ⟨0, Nat.zero_le _, rfl, Below.refl _ _, rfl⟩
    case round =>
      obtain ⟨k, hk, rfl, hb, heq⟩ := hrel
      by_cases hlt : k < n
      · obtain ⟨b, o, x1, rfl, hbs, hl, h1⟩ := (hr.below hb).num hlt
        obtain ⟨b', o', y1, rfl, hbs', hl', g1⟩ := (hr'.below hb).num hlt
        have hl := Lib.hid hl
        have hl' := Lib.hid hl'
        rename_i hx1 hx2; clear hx1 hx2
        have hlt2 : (k : Int) < (n : Int) := by omega
        by_cases e1 : x1 = y1
        · subst e1
          have hxx : (x1 != x1) = false := by simp
          go_wp2
          go_quiet (fail)
          go_wp2
          go_roundw
          case rel => exact ⟨k + 1, by omega, by go_num, below_drewQ hb _, by show _ = _; rw [take_at hl.out, take_at hl'.out, heq.out]⟩
          case measure => simp [intOf]; omega
        · have hn : (x1 != y1) = true := by simp [e1]
          have hll : Hid (l ≠ l') := by
            intro e
            apply e1
            have := hl.out; rw [e, hl'.out] at this
            exact (Option.some.inj this).symm
          clear e1
          go_wp2
          go_quiet (fail)
          go_wp2
          go_returns
          exact ⟨ret_bool (by symm; rw [decide_eq_false_iff_not]; exact hll.out), below_drewQ hb _⟩
      · go_wp2
        go_returns
        refine ⟨ret_bool ?_, hb⟩
        have h1 := heq.out
        rw [List.take_of_length_le (by rw [hr.len]; omega), List.take_of_length_le (by rw [hr'.len]; omega)] at h1
        rw [h1]; simp
  · have hll : Hid (l ≠ l') := by
      intro e
      apply hnn
      rw [← hr.len, ← hr'.len, e]
    have hne : ((n : Int) != (n' : Int)) = true := by simp; omega
    go_enter Try.func63, Try.ntmps63
    go_wp2
    go_returns
    exact ⟨ret_bool (by symm; rw [decide_eq_false_iff_not]; exact hll.out), Below.refl _ _⟩
theorem sstill_bad {N : NetP} {A B Ar : Option Addr} {n c m d na ca : Nat} {arr : List Int} {w : World} (hs : Small N) (hr : RNet w N A n B m) (hra : Rd w 1 (numE .i64) Ar na arr) (hna : na ≤ 1099511627776) (hb : sckN N arr ≠ 0) :
    Calls Try.prog 29 #[.agg #[.int .i64 N.hz, .slice A n c, .slice B m d], .slice Ar na ca] w fun e w' => e = .returned (.bool false) ∧ Below w.heap.size w w' := by
  have hb1 : Below w.heap.size w (w.alloc (.cells #[.int .i64 N.hz, .slice A n c, .slice B m d] 25)) := (Below.refl _ w).alloc (Nat.le_refl _) _
  obtain ⟨x0, x1, x2⟩ := rowBx3 w 25 (.int .i64 N.hz) (.slice A n c) (.slice B m d)
  obtain ⟨w1, hw1⟩ : ∃ q, w.alloc (.cells #[.int .i64 N.hz, .slice A n c, .slice B m d] 25) = q := ⟨_, rfl⟩
  rw [hw1] at hb1 x0 x1 x2
  have hup : Hid (∀ w2, Below w1.heap.size w1 w2 → Below w.heap.size w w2) := fun w2 h => hb1.trans (h.mono hb1.size)
  obtain ⟨bn, hbn⟩ : ∃ q, w.heap.size = q := ⟨_, rfl⟩
  rw [hbn] at x0 x1 x2
  have hC := Lib.hid (scheck_any (c := c) (d := d) (ca := ca) hs w1 (hr.below hb1) (hra.below hb1) hna)
  obtain ⟨e, he⟩ : ∃ e, sckN N arr = e := ⟨_, rfl⟩
  rw [he] at hC hb
  have hne : (e == 0) = false := by simp [hb]
  have hbnH := Lib.hid hbn
  clear hb1 hr hra hs he hb
  go_enter Try.func29, Try.ntmps29
  go_wp2_with fail
  refine hC.out.mono ?_; rintro e' w2 ⟨rfl, hb2⟩
  go_wp2_with fail
  go_returns
  exact ⟨rfl, by first | exact hup.out _ hb2 | (rw [← hbnH.out]; exact hup.out _ hb2)⟩
theorem sstill_ok {N : NetP} {A B Ar : Option Addr} {n c m d ca : Nat} {arr : List Int} {w : World} (hs : Small N) (hr : RNet w N A n B m) (hra : Rd w 1 (numE .i64) Ar n arr) (hN : OkN N) (hk : LabsOk N arr) :
    Calls Try.prog 29 #[.agg #[.int .i64 N.hz, .slice A n c, .slice B m d], .slice Ar n ca] w fun e w' => ∃ D, e = .returned (.bool (decide (D = arr))) ∧ Spr N arr D ∧ Below w.heap.size w w' := by
  have hn : n ≤ 1000 := by rw [← hr.nn]; exact hs.cn
  have hb1 : Below w.heap.size w (w.alloc (.cells #[.int .i64 N.hz, .slice A n c, .slice B m d] 25)) := (Below.refl _ w).alloc (Nat.le_refl _) _
  obtain ⟨x0, x1, x2⟩ := rowBx3 w 25 (.int .i64 N.hz) (.slice A n c) (.slice B m d)
  have hbn1 : w.heap.size < (w.alloc (.cells #[.int .i64 N.hz, .slice A n c, .slice B m d] 25)).heap.size := by simp
  obtain ⟨w1, hw1⟩ : ∃ q, w.alloc (.cells #[.int .i64 N.hz, .slice A n c, .slice B m d] 25) = q := ⟨_, rfl⟩
  rw [hw1] at hb1 x0 x1 x2 hbn1
  have hup : Hid (∀ w2, Below w1.heap.size w1 w2 → Below w.heap.size w w2) := fun w2 h => hb1.trans (h.mono hb1.size)
  obtain ⟨bn, hbn⟩ : ∃ q, w.heap.size = q := ⟨_, rfl⟩
  rw [hbn] at x0 x1 x2 hbn1
  have hC := Lib.hid (scheck_any (c := c) (d := d) (ca := ca) hs w1 (hr.below hb1) (hra.below hb1) (by omega))
  rw [sck_iff.2 ⟨hN, hk⟩] at hC
  have hR := Lib.hid (hr.below hb1)
  have hRa := Lib.hid (hra.below hb1)
  have hsH := Lib.hid hs
  have hNH := Lib.hid hN
  have hKH := Lib.hid hk
  have hbnH := Lib.hid hbn
  clear hb1 hr hra hs hN hk
  go_enter Try.func29, Try.ntmps29
  go_wp2_with fail
  refine hC.out.mono ?_; rintro e w2 ⟨rfl, hb2⟩
  have y0 := (hb2.cell (p := ⟨bn, 0, none⟩) hbn1).trans x0
  have y1 := (hb2.cell (p := ⟨bn, 1, none⟩) hbn1).trans x1
  have y2 := (hb2.cell (p := ⟨bn, 2, none⟩) hbn1).trans x2
  go_wp2_with fail
  refine (settle_any (c := c) (d := d) (ca := ca) hsH.out hNH.out hKH.out w2 (hR.out.below hb2) (hRa.out.below hb2)).mono ?_; rintro e w3 ⟨A3, c3, D, rfl, hS, hI, hc1, hc2, hb3⟩
  have hb13 := hb2.trans (hb3.mono hb2.size)
  have hE := Lib.hid (equalT_any A3 n c3 D Ar n ca arr w3 hI.rd (hRa.out.below hb13) (by omega) (by omega))
  have hS := Lib.hid hS
  have hb13 := Lib.hid hb13
  clear y0 y1 y2 hI
  obtain ⟨bb, hbb⟩ : ∃ q, decide (D = arr) = q := ⟨_, rfl⟩
  rw [hbb] at hE
  have hbbH := Lib.hid hbb
  clear hbb
  go_wp2_with fail
  refine hE.out.mono ?_; rintro e w4 ⟨rfl, hb4⟩
  go_wp2_with fail
  go_returns
  exact ⟨D, by rw [hbbH.out]; rfl, hS.out, by first | exact hup.out _ (hb13.out.trans (hb4.mono hb13.out.size)) | (rw [← hbnH.out]; exact hup.out _ (hb13.out.trans (hb4.mono hb13.out.size)))⟩
end Go.Proofs.Ytonkkibnigdfbaa
