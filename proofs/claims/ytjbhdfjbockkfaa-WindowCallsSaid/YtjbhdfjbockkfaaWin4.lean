/-
  Walks: timetablekit.Same at windows; window.Wins.
-/
import Derived.Test.YtjbhdfjbockkfaaWin3
namespace Go.Proofs.Ytjbhdfjbockkfaa
open Go.RowKit B Go.Shelf
set_option maxHeartbeats 400000
theorem same_any (A : Option Addr) (n c : Nat) (l : W.Row) (A' : Option Addr) (n' c' : Nat) (l' : W.Row) (w : World) (hr : Rd w 2 pairE A n l) (hr' : Rd w 2 pairE A' n' l') (hn : n ≤ 1099511627776) (hn' : n' ≤ 1099511627776) :
    Calls Try.prog 18 #[.slice A n c, .slice A' n' c'] w fun e w' => e = .returned (.bool (decide (l = l'))) ∧ Below w.heap.size w w' := by
  go_enter Try.func18, Try.ntmps18
  by_cases hnn : n = n'
  · subst hnn
    go_wp2
    go_loopw [5] (fun i wr => ∃ (k : Nat), k ≤ n ∧ i = .int .i64 k ∧ Below w.heap.size w wr ∧ Hid (l.take k = l'.take k)) (fun i _ => n - (intOf i).toNat)
    case atStart => exact ⟨0, Nat.zero_le _, rfl, Below.refl _ _, rfl⟩
    case round =>
      obtain ⟨k, hk, rfl, hb, heq⟩ := hrel
      by_cases hlt : k < n
      · obtain ⟨b, o, p, q, rfl, hbs, hl, h1, h2⟩ := (hr.below hb).pair hlt
        obtain ⟨b', o', p', q', rfl, hbs', hl', h1', h2'⟩ := (hr'.below hb).pair hlt
        have hl := Lib.hid hl
        have hl' := Lib.hid hl'
        rename_i hx1 hx2; clear hx1 hx2
        have hlt2 : (k : Int) < (n : Int) := by omega
        by_cases hpq : p = p' ∧ q = q'
        · obtain ⟨rfl, rfl⟩ := hpq
          go_wp2
          go_quiet (fail)
          go_wp2
          go_roundw
          case rel => exact ⟨k + 1, by omega, by go_num, below_drewN hb _, by show _ = _; rw [take_at hl.out, take_at hl'.out, heq.out]⟩
          case measure => simp [intOf]; omega
        · have hne : Hid (l ≠ l') := by
            intro e; apply hpq
            have := hl.out; rw [e, hl'.out] at this; simpa [eq_comm] using this
          by_cases hp : p = p'
          · subst hp
            have hq : (q == q') = false := by simp; exact fun h => hpq ⟨rfl, h⟩
            go_wp2
            go_quiet (fail)
            go_wp2
            go_returns
            exact ⟨ret_bool (by symm; rw [decide_eq_false_iff_not]; exact hne.out), below_drewN hb _⟩
          · have hp' : (p == p') = false := by simp [hp]
            go_wp2
            go_quiet (fail)
            go_wp2
            go_returns
            exact ⟨ret_bool (by symm; rw [decide_eq_false_iff_not]; exact hne.out), below_drewN hb _⟩
      · go_wp2
        go_returns
        exact ⟨ret_bool (by symm; rw [decide_eq_true_eq]; have := heq.out; rwa [List.take_of_length_le (by rw [hr.len]; omega), List.take_of_length_le (by rw [hr'.len]; omega)] at this), hb⟩
  · have hne : ((n : Int) != (n' : Int)) = true := by simp; omega
    go_wp2
    go_returns
    exact ⟨ret_bool (by symm; rw [decide_eq_false_iff_not]; intro e; apply hnn; rw [← hr.len, ← hr'.len, e]), Below.refl _ _⟩
/-- the windows of times, and the error -/
def winsM (f v n h : Int) : W.Row × Int :=
  if W.chkT f v n ≠ 0 then ([], W.chkT f v n) else if W.chk h ≠ 0 then ([], W.chk h) else if 256 < W.count f v h then ([], 3) else (W.joinL (eachL f v n (W.count f v h).toNat), 0)
theorem chkT_zero {f v n : Int} (h : W.chkT f v n = 0) : (0 ≤ f ∧ f ≤ 1099511627776) ∧ (0 ≤ v ∧ v ≤ 1099511627776) ∧ (0 ≤ n ∧ n ≤ 1099511627776) := by
  unfold W.chkT at h
  split at h
  · cases h
  · rename_i h0
    have h1 := W.chk_zero (x := f) (by omega)
    exact ⟨h1, by omega, by omega⟩
theorem count_nonneg (f v u : Int) : 0 ≤ W.count f v u := by
  unfold W.count
  split
  · rename_i h
    split
    · omega
    · have := W.chk_zero h.2.1
      have := Int.ediv_nonneg (show 0 ≤ u - f by omega) (show 0 ≤ v by omega); omega
  · omega
theorem wins_any (f v n h : Int) (w : World) :
    Calls Try.prog 15 #[.agg #[.int .i64 f, .int .i64 v, .int .i64 n], .int .i64 h] w fun e w' => RetRow2 w (winsM f v n h).1 (winsM f v n h).2 e w' := by
  obtain ⟨r, hr⟩ : ∃ r, winsM f v n h = r := ⟨_, rfl⟩
  rw [hr]
  have hr := Lib.hid hr
  rename_i hr0; clear hr0
  go_enter Try.func15, Try.ntmps15
  go_wp2_with fail
  refine (check_any f v n _).mono ?_; rintro e w1 ⟨rfl, hb1⟩
  have hbw : Below w.heap.size w w1 := ((Below.refl _ w).alloc (Nat.le_refl _) _).trans (hb1.mono (by simp))
  have hsz1 : w.heap.size < w1.heap.size := by have := hb1.size; simp at this; omega
  by_cases h1 : W.chkT f v n = 0
  · have hh1 := Lib.hid h1
    go_wp2_with fail
    refine (tcheck_any h _).mono ?_; rintro e w2 ⟨rfl, rfl⟩
    by_cases h2 : W.chk h = 0
    · have hh2 := Lib.hid h2
      have c1 : w1.cell? ⟨w.heap.size, 0, none⟩ = some (.int .i64 f) := (hb1.cell (p := ⟨w.heap.size, 0, none⟩) (by simp)).trans (by simp [go_sem])
      have c2 : w1.cell? ⟨w.heap.size, 1, none⟩ = some (.int .i64 v) := (hb1.cell (p := ⟨w.heap.size, 1, none⟩) (by simp)).trans (by simp [go_sem])
      have c3 : w1.cell? ⟨w.heap.size, 2, none⟩ = some (.int .i64 n) := (hb1.cell (p := ⟨w.heap.size, 2, none⟩) (by simp)).trans (by simp [go_sem])
      go_wp2_with fail
      refine (count_any f v h _).mono ?_; rintro e w2 ⟨rfl, rfl⟩
      obtain ⟨hf0, hv0, hn0⟩ := chkT_zero hh1.out
      by_cases h3 : 256 < W.count f v h
      · obtain rfl : r = ([], 3) := by have := hr.out; unfold winsM at this; rw [if_neg (by simp [hh1.out]), if_neg (by simp [hh2.out]), if_pos h3] at this; exact this.symm
        go_wp2_with fail
        go_ret2
        exact .mk none 0 rfl Rd.nil (Nat.le_refl _) (by omega) hbw
      · obtain ⟨m, hm⟩ : ∃ m : Nat, W.count f v h = m := ⟨(W.count f v h).toNat, by rw [Int.toNat_of_nonneg (count_nonneg _ _ _)]⟩
        obtain rfl : r = (W.joinL (eachL f v n m), 0) := by
          have := hr.out; unfold winsM at this; rw [if_neg (by simp [hh1.out]), if_neg (by simp [hh2.out]), if_neg h3, hm] at this; exact this.symm
        rw [hm] at h3 ⊢
        have hm3 : m ≤ 256 := by omega
        clear hm
        go_wp2_with fail
        refine (each_any f v n m _).mono ?_; rintro e w2 ⟨rfl, rfl⟩
        go_wp2_with fail
        refine (joined_any 48 _ (enters_of Try.func48 (by kernel_rfl) rfl) (eachL f v n m) (by rw [eachL_len]; omega) _ (each_iter f v n m (w1.heap.size + 1) w1.heap.size _ _ hm3 hf0 hv0 hn0 (by simp) (by simp; omega) (by simp; omega) (by simp [go_sem]) (by simp [go_sem]) (by simp [go_sem]) (by simp [go_sem]))).mono ?_
        rintro e w2 ⟨A, c, rfl, r1, r2, r3, r4⟩
        go_wp2_with fail
        go_ret2
        exact .mk A c rfl r1 r2 r3 (hbw.trans ((((Below.refl _ w1).alloc (Nat.le_refl _) _).alloc (by simp) _).mono (by omega) |>.trans (r4.mono (by simp; omega))))
    · obtain rfl : r = ([], W.chk h) := by have := hr.out; unfold winsM at this; rw [if_neg (by simp [hh1.out]), if_pos h2] at this; exact this.symm
      have hne : (W.chk h != 0) = true := by simp [h2]
      go_wp2_with fail
      go_ret2
      exact .mk none 0 rfl Rd.nil (Nat.le_refl _) (by omega) hbw
  · obtain rfl : r = ([], W.chkT f v n) := by have := hr.out; unfold winsM at this; rw [if_pos h1] at this; exact this.symm
    have hne : (W.chkT f v n != 0) = true := by simp [h1]
    go_wp2_with fail
    go_ret2
    exact .mk none 0 rfl Rd.nil (Nat.le_refl _) (by omega) hbw
end Go.Proofs.Ytjbhdfjbockkfaa
