/-
  Walks: timetablekit.Same at items, timetablelaw12.HeapNames.
-/
import Derived.Test.YtapfndjaimfcaaaHeap13
namespace Go.Proofs.Ytapfndjaimfcaaa
open Go.RowKit Go.Shelf B K
set_option linter.unusedVariables false
set_option linter.unusedSimpArgs false
set_option maxHeartbeats 2000000
theorem below_drewN {w wr : World} (h : Below w.heap.size w wr) (n : Nat) : Below w.heap.size w (wr.drewN n) := ⟨h.os, h.tape, h.output, h.size, h.block⟩
theorem sameI_any (A : Option Addr) (n c : Nat) (l : List It) (A' : Option Addr) (n' c' : Nat) (l' : List It) (w : World) (hr : Rd w 2 pairE A n l) (hr' : Rd w 2 pairE A' n' l') (hn : n ≤ 1099511627776) (hn' : n' ≤ 1099511627776) :
    Calls Try.prog 33 #[.slice A n c, .slice A' n' c'] w fun e w' => e = .returned (.bool (decide (l = l'))) ∧ Below w.heap.size w w' := by
  go_enter Try.func33, Try.ntmps33
  by_cases hnn : n = n'
  · subst hnn
    go_wp2
    go_loopw [5] (fun i wr => ∃ (k : Nat), k ≤ n ∧ i = .int .i64 k ∧ Below w.heap.size w wr ∧ Hid (l.take k = l'.take k)) (fun i _ => n - (intOf i).toNat)
    case atStart => exact ⟨0, Nat.zero_le _, rfl, Below.refl _ _, rfl⟩
    case round =>
      obtain ⟨k, hk, rfl, hb, heq⟩ := hrel
      by_cases hlt : k < n
      · obtain ⟨b, o, x1, x2, rfl, hbs, hl, h1, h2⟩ := (hr.below hb).pair hlt
        obtain ⟨b', o', y1, y2, rfl, hbs', hl', g1, g2⟩ := (hr'.below hb).pair hlt
        have hl := Lib.hid hl
        have hl' := Lib.hid hl'
        rename_i hx1 hx2; clear hx1 hx2
        have hlt2 : (k : Int) < (n : Int) := by omega
        by_cases e1 : x1 = y1
        · subst e1
          by_cases e2 : x2 = y2
          · subst e2
            go_wp2
            go_quiet (fail)
            go_wp2
            go_roundw
            case rel => exact ⟨k + 1, by omega, by go_num, below_drewN hb _, by show _ = _; rw [take_at hl.out, take_at hl'.out, heq.out]⟩
            case measure => simp [intOf]; omega
          · have hn : (x2 == y2) = false := by simp [e2]
            have hne : Hid (((x1, x2) : It) ≠ ((x1, y2) : It)) := by show _ ≠ _; simp [e2]
            clear e2
            have hll : Hid (l ≠ l') := by
              intro e
              apply hne.out
              have := hl.out; rw [e, hl'.out] at this
              exact (Option.some.inj this).symm
            clear hne
            go_wp2
            go_quiet (fail)
            go_wp2
            go_returns
            exact ⟨ret_bool (by symm; rw [decide_eq_false_iff_not]; exact hll.out), below_drewN hb _⟩
        · have hn : (x1 == y1) = false := by simp [e1]
          have hne : Hid (((x1, x2) : It) ≠ ((y1, y2) : It)) := by show _ ≠ _; simp [e1]
          clear e1
          have hll : Hid (l ≠ l') := by
            intro e
            apply hne.out
            have := hl.out; rw [e, hl'.out] at this
            exact (Option.some.inj this).symm
          clear hne
          go_wp2
          go_quiet (fail)
          go_wp2
          go_returns
          exact ⟨ret_bool (by symm; rw [decide_eq_false_iff_not]; exact hll.out), below_drewN hb _⟩
      · go_wp2
        go_returns
        exact ⟨ret_bool (by symm; rw [decide_eq_true_eq]; have := heq.out; rwa [List.take_of_length_le (by rw [hr.len]; omega), List.take_of_length_le (by rw [hr'.len]; omega)] at this), hb⟩
  · have hne : ((n : Int) != (n' : Int)) = true := by simp; omega
    go_wp2
    go_returns
    exact ⟨ret_bool (by symm; rw [decide_eq_false_iff_not]; intro e; apply hnn; rw [← hr.len, ← hr'.len, e]), Below.refl _ _⟩
set_option maxRecDepth 100000 in
theorem lawNames_any (w : World) : Calls Try.prog 10 #[] w fun e w' => e = .returned (.bool true) ∧ Below w.heap.size w w' := by
  go_enter Try.func10, Try.ntmps10
  go_wp2_with fail
  refine (New_any (base := w.heap.size) [] (by simp) (Nat.le_refl _)).mono ?_; rintro e w1 ⟨h, rfl, hh, H1, hb1⟩
  go_wp2_with fail
  refine (Pop_zero fun W hW => Len_any (H1.below hW)).mono ?_; rintro e w2 ⟨rfl, hq2⟩
  have ha2 : Below w2.heap.size w2 (w2.alloc (.cells #[.int .i64 0, .int .i64 0] 53)) := (Below.refl _ w2).alloc (Nat.le_refl _) _
  have hq2 := hq2.trans (ha2.mono hq2.size)
  have H2 := H1.below hq2
  have hb2 := hb1.trans (hq2.mono hb1.size)
  clear H1 ha2 hq2 hb1
  go_wp2_with fail
  refine (Top_zero fun W hW => Len_any (H2.below hW)).mono ?_; rintro e w3 ⟨rfl, hq3⟩
  have ha3 : Below w3.heap.size w3 (w3.alloc (.cells #[.int .i64 0, .int .i64 0] 53)) := (Below.refl _ w3).alloc (Nat.le_refl _) _
  have hq3 := hq3.trans (ha3.mono hq3.size)
  have H3 := H2.below hq3
  have hb3 := hb2.trans (hq3.mono hb2.size)
  clear H2 ha3 hq3 hb2
  go_wp2_with fail
  refine (Lower_none H3 (id := 0) (key := 0) (by decide) (by simp)).mono ?_; rintro e w4 ⟨rfl, rfl⟩
  go_wp2_with fail
  refine (Push_new (kx := 1) (ix := 0) H3 (by decide) (by simp) hb3.size (by simp) (by decide)).mono ?_; rintro e w5 ⟨rfl, H5, hq5, _⟩
  have hb5 := hb3.trans hq5
  clear H3 hq5 hb3
  go_wp2_with fail
  refine (Push_there (kx := 2) (ix := 0) H5 (by decide) ⟨(1, 0), by simp, rfl⟩).mono ?_; rintro e w6 ⟨rfl, hq6⟩
  have H6 := H5.below hq6
  have hb6 := hb5.trans (hq6.mono hb5.size)
  clear H5 hq6 hb5
  go_wp2_with fail
  refine (Lower_high H6 (id := 0) (key := 1) (old := 1) (by decide) (by simp) (by decide)).mono ?_; rintro e w7 ⟨rfl, rfl⟩
  go_wp2_with fail
  refine (lives12_any _).mono ?_; rintro e w8 ⟨rfl, hq8⟩
  have H8 := H6.below hq8
  have hb8 := hb6.trans (hq8.mono hb6.size)
  clear H6 hq8 hb6
  go_wp2_with fail
  refine (Len_any H8).mono ?_; rintro e w9 ⟨rfl, rfl⟩
  go_wp2_with fail
  refine (All_any H8).mono ?_; rintro e w10 ⟨A, c, rfl, r, hc, hc2, hq10⟩
  have hs : srtI [(1, 0)] = [(1, 0)] := (srt_unique (List.Perm.refl _) (by simp)).symm
  rw [hs] at r hc ⊢
  have hb10 := hb8.trans (hq10.mono hb8.size)
  have ha11 : Below w10.heap.size w10 (w10.alloc (.cells #[.int .i64 1, .int .i64 0] 53)) := (Below.refl _ w10).alloc (Nat.le_refl _) _
  have hnew := heap_alloc_new w10 (.cells #[.int .i64 1, .int .i64 0] 53)
  have r11 := r.below ha11
  have hb11 := hb10.trans (ha11.mono hb10.size)
  clear H8 hq10 hb8 hb10 ha11 r hs
  go_wp2_with fail
  refine (sameI_any A 1 c [(1, 0)] (some ⟨w10.heap.size, 0, none⟩) 1 1 [(1, 0)] _ r11 (rd_one hnew) (by decide) (by decide)).mono ?_; rintro e w12 ⟨rfl, hq12⟩
  go_wp2_with fail
  go_returns
  exact ⟨rfl, hb11.trans (hq12.mono hb11.size)⟩
end Go.Proofs.Ytapfndjaimfcaaa
