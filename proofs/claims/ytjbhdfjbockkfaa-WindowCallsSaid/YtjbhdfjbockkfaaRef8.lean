/-
  Walks: the document's answer: Wins; timetablekit.Own at windows.
-/
import Derived.Test.YtjbhdfjbockkfaaRef7
import Derived.Test.YtjbhdfjbockkfaaMem3
namespace Go.Proofs.Ytjbhdfjbockkfaa
open Go.RowKit B Go.Shelf
set_option linter.unusedVariables false
set_option linter.unusedSimpArgs false
set_option maxHeartbeats 1000000
theorem own_any (A : Option Addr) (n c : Nat) (l : W.Row) (w : World) (hr : Rd w 2 pairE A n l) (hn : n ≤ 1099511627776) :
    Calls Try.prog 23 #[.slice A n c] w fun e w' => RetRow1 w l e w' := by
  obtain ⟨v, w1, hrun, own, hg, _⟩ := own_append (enc := pairE) Try.underlying22 Try.infoWin rfl (by decide) pairE_len (fun x u hu => by simp [pairE] at hu; rcases hu with rfl | rfl <;> rfl) c (l := []) (own_lit0 w w.heap.size 29 2 (Nat.le_refl _)) (hr.below ((Below.refl _ w).alloc (Nat.le_refl _) _)) (by simpa using hn) (by decide) (by simp)
  obtain ⟨A', c', rfl, r1, r2, r3⟩ := Rd.of_own pairE_len (by simpa using hr.len) own
  have hb : Hid (Below w.heap.size w w1) := ((Below.refl _ w).alloc (Nat.le_refl _) _).grown hg (by simp) (fun k hk => by simp [Value.ownBlock] at hk; omega)
  have hl := Lib.hid hr.len
  simp only [List.length_nil, Nat.zero_add, List.nil_append] at hrun r1 r2
  clear own hg
  go_enter Try.func23, Try.ntmps23
  go_wp2_with (at_builtin; refine wpList_append_run ?a1 (.tmp 3) (.tmp 4) 22 ?a2 ?a3 ?a4 hrun ?_)
  case a1 => rfl
  case a2 => rfl
  case a3 => rfl
  case a4 => rfl
  go_returns
  exact .mk A' c' (by rw [hl.out]; rfl) (by rw [hl.out]; exact r1) (by rw [hl.out]; exact r2) r3 hb.out
theorem rwins_any (f v n h : Int) (w : World) :
    Calls Try.prog 19 #[.agg #[.int .i64 f, .int .i64 v, .int .i64 n], .int .i64 h] w fun e w' => RetRow2 w (winsM f v n h).1 (winsM f v n h).2 e w' := by
  obtain ⟨r, hr⟩ : ∃ r, winsM f v n h = r := ⟨_, rfl⟩
  rw [hr]
  have hr' := Lib.hid hr
  clear hr
  go_enter Try.func19, Try.ntmps19
  go_wp2_with fail
  refine (rcheckT_any f v n _).mono ?_; rintro e w1 ⟨rfl, hb1⟩
  have hbw : Below w.heap.size w w1 := ((Below.refl _ w).alloc (Nat.le_refl _) _).trans (hb1.mono (by simp))
  have hsz1 : w.heap.size < w1.heap.size := by have := hb1.size; simp at this; omega
  by_cases h1 : W.chkT f v n = 0
  · have hh1 := Lib.hid h1
    go_wp2_with fail
    refine (rchk_any h _).mono ?_; rintro e w2 ⟨rfl, rfl⟩
    by_cases h2 : W.chk h = 0
    · have hh2 := Lib.hid h2
      have c1 : w1.cell? ⟨w.heap.size, 0, none⟩ = some (.int .i64 f) := (hb1.cell (p := ⟨w.heap.size, 0, none⟩) (by simp)).trans (by simp [go_sem])
      have c2 : w1.cell? ⟨w.heap.size, 1, none⟩ = some (.int .i64 v) := (hb1.cell (p := ⟨w.heap.size, 1, none⟩) (by simp)).trans (by simp [go_sem])
      have c3 : w1.cell? ⟨w.heap.size, 2, none⟩ = some (.int .i64 n) := (hb1.cell (p := ⟨w.heap.size, 2, none⟩) (by simp)).trans (by simp [go_sem])
      go_wp2_with fail
      refine (rcount_any f v h _).mono ?_; rintro e w2 ⟨rfl, rfl⟩
      obtain ⟨hf0, hv0, hn0⟩ := chkT_zero hh1.out
      by_cases h3 : 256 < W.count f v h
      · obtain rfl : r = ([], 3) := by have := hr'.out; unfold winsM at this; rw [if_neg (by simp [hh1.out]), if_neg (by simp [hh2.out]), if_pos h3] at this; exact this.symm
        go_wp2_with fail
        go_ret2
        exact .mk none 0 rfl Rd.nil (Nat.le_refl _) (by omega) hbw
      · obtain ⟨m, hm⟩ : ∃ m : Nat, W.count f v h = m := ⟨(W.count f v h).toNat, by rw [Int.toNat_of_nonneg (count_nonneg _ _ _)]⟩
        obtain rfl : r = (W.joinL (eachL f v n m), 0) := by
          have := hr'.out; unfold winsM at this; rw [if_neg (by simp [hh1.out]), if_neg (by simp [hh2.out]), if_neg h3, hm] at this; exact this.symm
        rw [hm] at h3 ⊢
        have hm3 : m ≤ 256 := by omega
        clear hm h1 h2
        go_wp2_with fail
        go_loopw [8, 9] (fun x i wr => ∃ k : Nat, k ≤ m ∧ i = .int .i64 k ∧ wr.ownsRow w1.heap.size 29 2 x (eachL f v n k).length ((eachL f v n k).flatMap pairE) ∧ Below w1.heap.size w1 wr) (fun _ i _ => m - (intOf i).toNat)
        case atStart => exact ⟨0, Nat.zero_le _, rfl, World.ownsRow_nil _ _ _ _, Below.refl _ _⟩
        case round =>
          obtain ⟨k, hk, rfl, own, hb⟩ := hrel
          have d1 : wr.cell? ⟨w.heap.size, 0, none⟩ = some (.int .i64 f) := (hb.cell (p := ⟨w.heap.size, 0, none⟩) hsz1).trans c1
          have d2 : wr.cell? ⟨w.heap.size, 1, none⟩ = some (.int .i64 v) := (hb.cell (p := ⟨w.heap.size, 1, none⟩) hsz1).trans c2
          have d3 : wr.cell? ⟨w.heap.size, 2, none⟩ = some (.int .i64 n) := (hb.cell (p := ⟨w.heap.size, 2, none⟩) hsz1).trans c3
          clear c1 c2 c3
          have hB := hb.size
          by_cases hlt : k < m
          · have q0 : 0 ≤ (k : Int) * v := Int.mul_nonneg (by omega) hv0.1
            have q1 : (k : Int) * v ≤ 256 * 1099511627776 := Int.mul_le_mul (by omega) hv0.2 hv0.1 (by omega)
            obtain ⟨g, cc, w2, hrun, own1, hb2, hs2⟩ := winPush (f + k * v, f + k * v + n) own (by rw [eachL_len]; omega) hb hB 0
            go_wp2_with (at_builtin; refine wpList_append_run ?b1 (.tmp 40) (.tmp 47) 22 ?b2 ?b3 ?b4 hrun ?_)
            case b1 => rfl
            case b2 => rfl
            go_roundw
            case rel => exact ⟨k + 1, by omega, by go_num, by rw [eachL_snoc]; simpa using own1, hb2⟩
            case measure => simp [intOf]; omega
          · obtain rfl : k = m := by omega
            obtain ⟨A2, c2, rfl, r1, r2, r3⟩ := Rd.of_own pairE_len rfl own
            have hl := eachL_len f v n k
            have hl' := Lib.hid hl; clear hl
            clear own hr' hh1 hh2
            go_wp2_with fail
            refine (rjoined_any A2 (eachL f v n k).length c2 (eachL f v n k) _ r1 (by rw [hl'.out]; omega)).mono ?_; rintro e w3 ⟨A3, c3, rfl, s1, s2, s3, s4⟩
            go_wp2_with fail
            go_ret2
            exact .mk A3 c3 rfl s1 s2 s3 (hbw.trans ((hb.mono (by omega)).trans (s4.mono (by omega))))
    · obtain rfl : r = ([], W.chk h) := by have := hr'.out; unfold winsM at this; rw [if_neg (by simp [hh1.out]), if_pos h2] at this; exact this.symm
      have hne : (W.chk h != 0) = true := by simp [h2]
      go_wp2_with fail
      go_ret2
      exact .mk none 0 rfl Rd.nil (Nat.le_refl _) (by omega) hbw
  · obtain rfl : r = ([], W.chkT f v n) := by have := hr'.out; unfold winsM at this; rw [if_pos h1] at this; exact this.symm
    have hne : (W.chkT f v n != 0) = true := by simp [h1]
    go_wp2_with fail
    go_ret2
    exact .mk none 0 rfl Rd.nil (Nat.le_refl _) (by omega) hbw
end Go.Proofs.Ytjbhdfjbockkfaa
