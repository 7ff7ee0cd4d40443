/-
  Walks: the reference's Least, Good, GoodTriples, Best, Behind (gen17.py).
-/
import Derived.Test.YtibeoiphjkgekaaGreatRef22C
namespace Go.Proofs.YtibeoiphjkgekaaGreat
open Go.RowKit B K Go.Shelf
set_option linter.unusedVariables false
set_option linter.unusedSimpArgs false
set_option maxHeartbeats 4000000
theorem ofF_len (d : Int) (l : List P2) : (ofF d l).length = l.length := by simp [ofF]
theorem rLeast2_any (A : Option Addr) (n c : Nat) (l : List P2) (w0 : World) (hr : Rd w0 2 pairE A n l) (hn : n ≤ 1099511627) : Calls Tryz.prog 14 #[.slice A n c] w0 fun e w' => RetR 2 pairE w0 (L2 l) e w' := by
  have hT := Lib.hid (rtrips_any A n c l w0 hr hn)
  have hll := Lib.hid hr.len
  clear hr
  go_enter Tryz.func14, Tryz.ntmps14
  go_wp2_with fail
  refine hT.out.mono ?_; rintro e w1 ⟨A1, c1, rfl, r1, _, _, hb1⟩
  have hL := Lib.hid (rLeast3_any A1 (ofF 0 l).length c1 (ofF 0 l) w1 r1 (by rw [ofF_len, hll.out]; exact hn))
  rw [L3_pairs] at hL
  have hb1h := Lib.hid hb1
  clear r1 hT hb1
  go_wp2_with fail
  refine hL.out.mono ?_; rintro e w2 ⟨A2, c2, rfl, r2, _, _, hb2⟩
  have hP := Lib.hid (rpairs_any A2 (ofF 0 (L2 l)).length c2 (ofF 0 (L2 l)) w2 r2 (by rw [ofF_len]; have := L2_len l; have := hll.out; omega))
  rw [pairs_of] at hP
  have hb2h := Lib.hid (hb1h.out.trans (hb2.mono hb1h.out.size))
  clear r2 hL hb2
  go_wp2_with fail
  refine hP.out.mono ?_; rintro e w3 ⟨A3, c3, rfl, r3, s3, t3, hb3⟩
  have r3h := Lib.hid r3
  have hb3h := Lib.hid (hb2h.out.trans (hb3.mono hb2h.out.size))
  clear r3 hb3
  go_wp2_with fail
  go_returns
  exact .mk A3 c3 rfl r3h.out s3 t3 hb3h.out
set_option maxRecDepth 100000 in
theorem rGood2_any (A : Option Addr) (n c : Nat) (l : List P2) (w0 : World) (hr : Rd w0 2 pairE A n l) (hn : n ≤ 1099511627) : Calls Tryz.prog 26 #[.slice A n c] w0 fun e w' => e = .returned (.bool (decide (L2 l = l))) ∧ Below w0.heap.size w0 w' := by
  have hrh := Lib.hid hr
  have hll := Lib.hid hr.len
  have hL := Lib.hid (rLeast2_any A n c l w0 hr hn)
  clear hr
  obtain ⟨K2, hK⟩ : ∃ K2, L2 l = K2 := ⟨_, rfl⟩
  rw [hK] at hL ⊢
  obtain ⟨gv, hgv⟩ : ∃ gv, decide (K2 = l) = gv := ⟨_, rfl⟩
  rw [hgv]
  have hgvh := Lib.hid hgv
  clear hK hgv
  go_enter Tryz.func26, Tryz.ntmps26
  go_wp2_with fail
  refine hL.out.mono ?_; rintro e w1 ⟨A1, c1, rfl, r1, s1, t1, hb1⟩
  have r1h := Lib.hid r1
  have hb1h := Lib.hid hb1
  clear r1 hb1 hL
  by_cases hlen : K2.length = n
  rotate_left
  · have d0 : ((K2.length : Int) != (n : Int)) = true := by simp; omega
    have d0n : (K2.length != n) = true := by simpa using hlen
    obtain rfl : gv = false := by rw [← hgvh.out]; exact decide_eq_false fun e => hlen (by rw [e]; exact hll.out)
    go_wp2_with fail
    go_returns
    exact ⟨rfl, hb1h.out⟩
  rw [hlen] at r1h ⊢
  have hK2l := Lib.hid hlen
  clear hlen
  have d0 : ((n : Int) != (n : Int)) = false := by simp
  go_wp2_with fail
  go_loopw [4] (fun iv wr => ∃ (k : Nat), k ≤ n ∧ iv = .int .i64 k ∧ Hid (Below w1.heap.size w1 wr ∧ K2.take k = l.take k)) (fun iv _ => n - (intOf iv).toNat)
  case atStart => exact ⟨0, Nat.zero_le _, rfl, Below.refl _ _, by simp⟩
  case round =>
    obtain ⟨k, hk, rfl, hH⟩ := hrel
    obtain ⟨hbk, htk⟩ := hH.out
    clear hH
    have hb0 := hb1h.out.trans (hbk.mono hb1h.out.size)
    by_cases hkn : k < n
    · obtain ⟨b, o, x1, x2, rfl, zb, hx, p1, p2⟩ := (hrh.out.below hb0).pair hkn
      obtain ⟨b2, o2, y1, y2, rfl, zb2, hy, q1, q2⟩ := (r1h.out.below hbk).pair hkn
      have hkn2 : (k : Int) < (n : Int) := by omega
      have hxh := Lib.hid hx
      have hyh := Lib.hid hy
      have htkh := Lib.hid htk
      have hbkh := Lib.hid hbk
      have hb0h := Lib.hid hb0
      clear hx hy htk hbk hb0
      by_cases f0 : x1 = y1
      rotate_left
      · have fb : (x1 == y1) = false := by simpa using f0
        obtain rfl : gv = false := by
          rw [← hgvh.out]
          refine decide_eq_false fun e => f0 ?_
          have h1 := hyh.out
          rw [e, hxh.out] at h1
          cases h1
          rfl
        clear f0
        go_wp2_with fail
        go_upto_region 7 with fail
        refine wp_region_below wr.heap.size (by kernel_rfl) (by kernel_rfl) ?_
        intro C hC
        repeat (go_big_quiet_step (first
          | ((intro _; with_reducible rfl))
          | (intro hc; have m0 := (hc.cell (p := ⟨b, o + k * 2, none⟩) zb).trans p1; have m1 := (hc.cell (p := ⟨b, o + k * 2 + 1, none⟩) zb).trans p2; have m2 := (hc.cell (p := ⟨b2, o2 + k * 2, none⟩) zb2).trans q1; have m3 := (hc.cell (p := ⟨b2, o2 + k * 2 + 1, none⟩) zb2).trans q2; simp only [m0, m1, m2, m3, Result.andThen]; exact ⟨trivial, rfl⟩)))
        refine wpQuiet_nil ?_
        intro w9 hb9
        clear hC
        have hfin := Lib.hid (hb0h.out.trans (hb9.mono hb0h.out.size))
        clear hb9
        go_wp2_with fail
        go_returns
        exact ⟨rfl, hfin.out⟩
      subst f0
      by_cases f1 : x2 = y2
      rotate_left
      · have fb : (x2 == y2) = false := by simpa using f1
        obtain rfl : gv = false := by
          rw [← hgvh.out]
          refine decide_eq_false fun e => f1 ?_
          have h1 := hyh.out
          rw [e, hxh.out] at h1
          cases h1
          rfl
        clear f1
        go_wp2_with fail
        go_upto_region 7 with fail
        refine wp_region_below wr.heap.size (by kernel_rfl) (by kernel_rfl) ?_
        intro C hC
        repeat (go_big_quiet_step (first
          | ((intro _; with_reducible rfl))
          | (intro hc; have m0 := (hc.cell (p := ⟨b, o + k * 2, none⟩) zb).trans p1; have m1 := (hc.cell (p := ⟨b, o + k * 2 + 1, none⟩) zb).trans p2; have m2 := (hc.cell (p := ⟨b2, o2 + k * 2, none⟩) zb2).trans q1; have m3 := (hc.cell (p := ⟨b2, o2 + k * 2 + 1, none⟩) zb2).trans q2; simp only [m0, m1, m2, m3, Result.andThen]; exact ⟨trivial, rfl⟩)))
        refine wpQuiet_nil ?_
        intro w9 hb9
        clear hC
        have hfin := Lib.hid (hb0h.out.trans (hb9.mono hb0h.out.size))
        clear hb9
        go_wp2_with fail
        go_returns
        exact ⟨rfl, hfin.out⟩
      subst f1
      have hnx : Hid (K2.take (k + 1) = l.take (k + 1)) := by show _ = _; rw [take_at hxh.out, take_at hyh.out, htkh.out]
      go_wp2_with fail
      go_upto_region 7 with fail
      refine wp_region_below wr.heap.size (by kernel_rfl) (by kernel_rfl) ?_
      intro C hC
      repeat (go_big_quiet_step (first
        | ((intro _; with_reducible rfl))
        | (intro hc; have m0 := (hc.cell (p := ⟨b, o + k * 2, none⟩) zb).trans p1; have m1 := (hc.cell (p := ⟨b, o + k * 2 + 1, none⟩) zb).trans p2; have m2 := (hc.cell (p := ⟨b2, o2 + k * 2, none⟩) zb2).trans q1; have m3 := (hc.cell (p := ⟨b2, o2 + k * 2 + 1, none⟩) zb2).trans q2; simp only [m0, m1, m2, m3, Result.andThen]; exact ⟨trivial, rfl⟩)))
      refine wpQuiet_nil ?_
      intro w9 hb9
      clear hC
      have hfin := Lib.hid (hbkh.out.trans (hb9.mono hbkh.out.size))
      clear hb9
      go_wp2_with fail
      go_roundw
      case rel => exact ⟨k + 1, by omega, by go_num, hfin.out, hnx.out⟩
      case measure => simp [intOf]; omega
    · obtain rfl : k = n := by omega
      have hkn2 : decide ((k : Int) < (k : Int)) = false := decide_eq_false (by omega)
      have hb0h := Lib.hid hb0
      obtain rfl : gv = true := by
        rw [← hgvh.out]
        rw [List.take_of_length_le (by rw [hK2l.out]; exact Nat.le_refl _), List.take_of_length_le (by rw [hll.out]; exact Nat.le_refl _)] at htk
        exact decide_eq_true htk
      clear hbk htk hb0
      go_wp2_with fail
      go_returns
      exact ⟨rfl, hb0h.out⟩
set_option maxRecDepth 100000 in
theorem rGood3_any (A : Option Addr) (n c : Nat) (l : List P3) (w0 : World) (hr : Rd w0 3 tripE A n l) (hn : n ≤ 1099511627) : Calls Tryz.prog 28 #[.slice A n c] w0 fun e w' => e = .returned (.bool (decide (L3 l = l))) ∧ Below w0.heap.size w0 w' := by
  have hrh := Lib.hid hr
  have hll := Lib.hid hr.len
  have hL := Lib.hid (rLeast3_any A n c l w0 hr hn)
  clear hr
  obtain ⟨K2, hK⟩ : ∃ K2, L3 l = K2 := ⟨_, rfl⟩
  rw [hK] at hL ⊢
  obtain ⟨gv, hgv⟩ : ∃ gv, decide (K2 = l) = gv := ⟨_, rfl⟩
  rw [hgv]
  have hgvh := Lib.hid hgv
  clear hK hgv
  go_enter Tryz.func28, Tryz.ntmps28
  go_wp2_with fail
  refine hL.out.mono ?_; rintro e w1 ⟨A1, c1, rfl, r1, s1, t1, hb1⟩
  have r1h := Lib.hid r1
  have hb1h := Lib.hid hb1
  clear r1 hb1 hL
  by_cases hlen : K2.length = n
  rotate_left
  · have d0 : ((K2.length : Int) != (n : Int)) = true := by simp; omega
    have d0n : (K2.length != n) = true := by simpa using hlen
    obtain rfl : gv = false := by rw [← hgvh.out]; exact decide_eq_false fun e => hlen (by rw [e]; exact hll.out)
    go_wp2_with fail
    go_returns
    exact ⟨rfl, hb1h.out⟩
  rw [hlen] at r1h ⊢
  have hK2l := Lib.hid hlen
  clear hlen
  have d0 : ((n : Int) != (n : Int)) = false := by simp
  go_wp2_with fail
  go_loopw [4] (fun iv wr => ∃ (k : Nat), k ≤ n ∧ iv = .int .i64 k ∧ Hid (Below w1.heap.size w1 wr ∧ K2.take k = l.take k)) (fun iv _ => n - (intOf iv).toNat)
  case atStart => exact ⟨0, Nat.zero_le _, rfl, Below.refl _ _, by simp⟩
  case round =>
    obtain ⟨k, hk, rfl, hH⟩ := hrel
    obtain ⟨hbk, htk⟩ := hH.out
    clear hH
    have hb0 := hb1h.out.trans (hbk.mono hb1h.out.size)
    by_cases hkn : k < n
    · obtain ⟨b, o, x1, x2, x3, rfl, zb, hx, p1, p2, p3⟩ := (hrh.out.below hb0).trip hkn
      obtain ⟨b2, o2, y1, y2, y3, rfl, zb2, hy, q1, q2, q3⟩ := (r1h.out.below hbk).trip hkn
      have hkn2 : (k : Int) < (n : Int) := by omega
      have hxh := Lib.hid hx
      have hyh := Lib.hid hy
      have htkh := Lib.hid htk
      have hbkh := Lib.hid hbk
      have hb0h := Lib.hid hb0
      clear hx hy htk hbk hb0
      by_cases f0 : x1 = y1
      rotate_left
      · have fb : (x1 == y1) = false := by simpa using f0
        obtain rfl : gv = false := by
          rw [← hgvh.out]
          refine decide_eq_false fun e => f0 ?_
          have h1 := hyh.out
          rw [e, hxh.out] at h1
          cases h1
          rfl
        clear f0
        go_wp2_with fail
        go_upto_region 7 with fail
        refine wp_region_below wr.heap.size (by kernel_rfl) (by kernel_rfl) ?_
        intro C hC
        repeat (go_big_quiet_step (first
          | ((intro _; with_reducible rfl))
          | (intro hc; have m0 := (hc.cell (p := ⟨b, o + k * 3, none⟩) zb).trans p1; have m1 := (hc.cell (p := ⟨b, o + k * 3 + 1, none⟩) zb).trans p2; have m2 := (hc.cell (p := ⟨b, o + k * 3 + 2, none⟩) zb).trans p3; have m3 := (hc.cell (p := ⟨b2, o2 + k * 3, none⟩) zb2).trans q1; have m4 := (hc.cell (p := ⟨b2, o2 + k * 3 + 1, none⟩) zb2).trans q2; have m5 := (hc.cell (p := ⟨b2, o2 + k * 3 + 2, none⟩) zb2).trans q3; simp only [m0, m1, m2, m3, m4, m5, Result.andThen]; exact ⟨trivial, rfl⟩)))
        refine wpQuiet_nil ?_
        intro w9 hb9
        clear hC
        have hfin := Lib.hid (hb0h.out.trans (hb9.mono hb0h.out.size))
        clear hb9
        go_wp2_with fail
        go_returns
        exact ⟨rfl, hfin.out⟩
      subst f0
      by_cases f1 : x2 = y2
      rotate_left
      · have fb : (x2 == y2) = false := by simpa using f1
        obtain rfl : gv = false := by
          rw [← hgvh.out]
          refine decide_eq_false fun e => f1 ?_
          have h1 := hyh.out
          rw [e, hxh.out] at h1
          cases h1
          rfl
        clear f1
        go_wp2_with fail
        go_upto_region 7 with fail
        refine wp_region_below wr.heap.size (by kernel_rfl) (by kernel_rfl) ?_
        intro C hC
        repeat (go_big_quiet_step (first
          | ((intro _; with_reducible rfl))
          | (intro hc; have m0 := (hc.cell (p := ⟨b, o + k * 3, none⟩) zb).trans p1; have m1 := (hc.cell (p := ⟨b, o + k * 3 + 1, none⟩) zb).trans p2; have m2 := (hc.cell (p := ⟨b, o + k * 3 + 2, none⟩) zb).trans p3; have m3 := (hc.cell (p := ⟨b2, o2 + k * 3, none⟩) zb2).trans q1; have m4 := (hc.cell (p := ⟨b2, o2 + k * 3 + 1, none⟩) zb2).trans q2; have m5 := (hc.cell (p := ⟨b2, o2 + k * 3 + 2, none⟩) zb2).trans q3; simp only [m0, m1, m2, m3, m4, m5, Result.andThen]; exact ⟨trivial, rfl⟩)))
        refine wpQuiet_nil ?_
        intro w9 hb9
        clear hC
        have hfin := Lib.hid (hb0h.out.trans (hb9.mono hb0h.out.size))
        clear hb9
        go_wp2_with fail
        go_returns
        exact ⟨rfl, hfin.out⟩
      subst f1
      by_cases f2 : x3 = y3
      rotate_left
      · have fb : (x3 == y3) = false := by simpa using f2
        obtain rfl : gv = false := by
          rw [← hgvh.out]
          refine decide_eq_false fun e => f2 ?_
          have h1 := hyh.out
          rw [e, hxh.out] at h1
          cases h1
          rfl
        clear f2
        go_wp2_with fail
        go_upto_region 7 with fail
        refine wp_region_below wr.heap.size (by kernel_rfl) (by kernel_rfl) ?_
        intro C hC
        repeat (go_big_quiet_step (first
          | ((intro _; with_reducible rfl))
          | (intro hc; have m0 := (hc.cell (p := ⟨b, o + k * 3, none⟩) zb).trans p1; have m1 := (hc.cell (p := ⟨b, o + k * 3 + 1, none⟩) zb).trans p2; have m2 := (hc.cell (p := ⟨b, o + k * 3 + 2, none⟩) zb).trans p3; have m3 := (hc.cell (p := ⟨b2, o2 + k * 3, none⟩) zb2).trans q1; have m4 := (hc.cell (p := ⟨b2, o2 + k * 3 + 1, none⟩) zb2).trans q2; have m5 := (hc.cell (p := ⟨b2, o2 + k * 3 + 2, none⟩) zb2).trans q3; simp only [m0, m1, m2, m3, m4, m5, Result.andThen]; exact ⟨trivial, rfl⟩)))
        refine wpQuiet_nil ?_
        intro w9 hb9
        clear hC
        have hfin := Lib.hid (hb0h.out.trans (hb9.mono hb0h.out.size))
        clear hb9
        go_wp2_with fail
        go_returns
        exact ⟨rfl, hfin.out⟩
      subst f2
      have hnx : Hid (K2.take (k + 1) = l.take (k + 1)) := by show _ = _; rw [take_at hxh.out, take_at hyh.out, htkh.out]
      go_wp2_with fail
      go_upto_region 7 with fail
      refine wp_region_below wr.heap.size (by kernel_rfl) (by kernel_rfl) ?_
      intro C hC
      repeat (go_big_quiet_step (first
        | ((intro _; with_reducible rfl))
        | (intro hc; have m0 := (hc.cell (p := ⟨b, o + k * 3, none⟩) zb).trans p1; have m1 := (hc.cell (p := ⟨b, o + k * 3 + 1, none⟩) zb).trans p2; have m2 := (hc.cell (p := ⟨b, o + k * 3 + 2, none⟩) zb).trans p3; have m3 := (hc.cell (p := ⟨b2, o2 + k * 3, none⟩) zb2).trans q1; have m4 := (hc.cell (p := ⟨b2, o2 + k * 3 + 1, none⟩) zb2).trans q2; have m5 := (hc.cell (p := ⟨b2, o2 + k * 3 + 2, none⟩) zb2).trans q3; simp only [m0, m1, m2, m3, m4, m5, Result.andThen]; exact ⟨trivial, rfl⟩)))
      refine wpQuiet_nil ?_
      intro w9 hb9
      clear hC
      have hfin := Lib.hid (hbkh.out.trans (hb9.mono hbkh.out.size))
      clear hb9
      go_wp2_with fail
      go_roundw
      case rel => exact ⟨k + 1, by omega, by go_num, hfin.out, hnx.out⟩
      case measure => simp [intOf]; omega
    · obtain rfl : k = n := by omega
      have hkn2 : decide ((k : Int) < (k : Int)) = false := decide_eq_false (by omega)
      have hb0h := Lib.hid hb0
      obtain rfl : gv = true := by
        rw [← hgvh.out]
        rw [List.take_of_length_le (by rw [hK2l.out]; exact Nat.le_refl _), List.take_of_length_le (by rw [hll.out]; exact Nat.le_refl _)] at htk
        exact decide_eq_true htk
      clear hbk htk hb0
      go_wp2_with fail
      go_returns
      exact ⟨rfl, hb0h.out⟩
theorem rBest_any (A : Option Addr) (n c : Nat) (l : List P2) (m : Int) (w : World) (hr : Rd w 2 pairE A n l) (hn : n ≤ 1099511627776) :
    Calls Tryz.prog 30 #[.slice A n c, .int .i64 m] w fun e w' => e = .returned (.int .i64 (bestF m l)) ∧ Below w.heap.size w w' := by
  have hrh := Lib.hid hr
  have hll := Lib.hid hr.len
  clear hr
  go_enter Tryz.func30, Tryz.ntmps30
  go_wp2_with fail
  go_loopw [5, 6] (fun v i wr => ∃ (k : Nat) (q : Int), k ≤ n ∧ i = .int .i64 k ∧ v = .int .i64 q ∧ Hid (q = bestF m (l.take k)) ∧ Hid (Below w.heap.size w wr)) (fun _ i _ => n - (intOf i).toNat)
  case atStart => exact ⟨0, K.inf, Nat.zero_le _, rfl, rfl, rfl, Below.refl _ _⟩
  case round =>
    obtain ⟨k, q, hk, rfl, rfl, hq, hb⟩ := hrel
    by_cases hlt : k < n
    · obtain ⟨b, o, x1, x2, rfl, hbs, hx, p1, p2⟩ := hrh.out.pair hlt
      have h1 := (hb.out.cell (p := ⟨b, o + k * 2, none⟩) hbs).trans p1
      have h2 := (hb.out.cell (p := ⟨b, o + k * 2 + 1, none⟩) hbs).trans p2
      have htk := Lib.hid (take_at hx)
      have hkn : (k : Int) < (n : Int) := by omega
      have hC := Lib.hid (rChk2_any x1 x2 wr)
      clear hx
      obtain ⟨mb, hm⟩ : ∃ mb, may2 (x1, x2) = mb := ⟨_, rfl⟩
      rw [hm] at hC
      cases mb with
      | false =>
        have hnext : Hid (q = bestF m (l.take (k + 1))) := by show _ = _; rw [htk.out, bestF_snoc, ← hq.out]; unfold bestStep; rw [if_neg (by rw [hm]; simp)]
        have hv : chkB false = 2 := rfl
        rw [hv] at hC
        clear hm hq
        go_wp2_with fail
        refine hC.out.mono ?_; rintro e w2 ⟨rfl, hb2⟩
        have hb02 := Lib.hid (hb.out.trans (hb2.mono hb.out.size))
        clear hb2 h1 h2
        go_wp2_with fail
        go_roundw
        case rel => exact ⟨k + 1, q, by omega, by go_num, rfl, hnext, hb02.out⟩
        case measure => simp [intOf]; omega
      | true =>
        have hv : chkB true = 0 := rfl
        rw [hv] at hC
        have hstep : bestF m (l.take (k + 1)) = if x2 ≤ m then min q x1 else q := by
          rw [htk.out, bestF_snoc, ← hq.out]; unfold bestStep
          by_cases h : x2 ≤ m
          · rw [if_pos ⟨hm, h⟩, if_pos h]
          · rw [if_neg (fun hh => h hh.2), if_neg h]
        have hsth := Lib.hid hstep
        clear hm hq hstep
        by_cases ht : x2 ≤ m
        · have d1 : decide (x2 ≤ m) = true := decide_eq_true ht
          by_cases hqx : q ≤ x1
          · have hnext : Hid (q = bestF m (l.take (k + 1))) := by show _ = _; rw [hsth.out, if_pos ht]; omega
            clear hsth
            go_wp2_with fail
            refine hC.out.mono ?_; rintro e w2 ⟨rfl, hb2⟩
            have hb02 := Lib.hid (hb.out.trans (hb2.mono hb.out.size))
            have h1' := (hb02.out.cell (p := ⟨b, o + k * 2, none⟩) hbs).trans p1
            have h2' := (hb02.out.cell (p := ⟨b, o + k * 2 + 1, none⟩) hbs).trans p2
            clear hb2 h1 h2
            go_wp2_with fail
            all_goals
              first
                | (exfalso; omega)
                | (go_roundw
                   case rel => exact ⟨k + 1, q, by omega, by go_num, by first | rfl | go_num, hnext, hb02.out⟩
                   case measure => simp [intOf]; omega)
          · have hnext : Hid (x1 = bestF m (l.take (k + 1))) := by show _ = _; rw [hsth.out, if_pos ht]; omega
            have hqx' : x1 < q := by omega
            clear hsth
            go_wp2_with fail
            refine hC.out.mono ?_; rintro e w2 ⟨rfl, hb2⟩
            have hb02 := Lib.hid (hb.out.trans (hb2.mono hb.out.size))
            have h1' := (hb02.out.cell (p := ⟨b, o + k * 2, none⟩) hbs).trans p1
            have h2' := (hb02.out.cell (p := ⟨b, o + k * 2 + 1, none⟩) hbs).trans p2
            clear hb2 h1 h2
            go_wp2_with fail
            all_goals
              first
                | (exfalso; omega)
                | (go_roundw
                   case rel => exact ⟨k + 1, x1, by omega, by go_num, by first | rfl | go_num, hnext, hb02.out⟩
                   case measure => simp [intOf]; omega)
        · have d1 : decide (x2 ≤ m) = false := decide_eq_false ht
          have hnext : Hid (q = bestF m (l.take (k + 1))) := by show _ = _; rw [hsth.out, if_neg ht]
          clear hsth
          go_wp2_with fail
          refine hC.out.mono ?_; rintro e w2 ⟨rfl, hb2⟩
          have hb02 := Lib.hid (hb.out.trans (hb2.mono hb.out.size))
          have h2' := (hb02.out.cell (p := ⟨b, o + k * 2 + 1, none⟩) hbs).trans p2
          clear hb2 h1 h2
          go_wp2_with fail
          go_roundw
          case rel => exact ⟨k + 1, q, by omega, by go_num, rfl, hnext, hb02.out⟩
          case measure => simp [intOf]; omega
    · obtain rfl : k = n := by omega
      have hkn : decide ((k : Int) < (k : Int)) = false := decide_eq_false (by omega)
      have hfin : Hid (q = bestF m l) := by
        have h := hq.out
        rw [List.take_of_length_le (by rw [hll.out]; exact Nat.le_refl _)] at h
        exact h
      clear hq
      go_wp2_with fail
      go_returns
      exact ⟨by rw [← hfin.out]; rfl, hb.out⟩
set_option maxRecDepth 100000 in
theorem rBehind_any (A : Option Addr) (n c : Nat) (l : List P3) (tt : Int) (w0 : World) (hr : Rd w0 3 tripE A n l) (hn : n ≤ 1099511627) : Calls Tryz.prog 34 #[.slice A n c, .int .i64 tt] w0 fun e w' => RetR 2 pairE w0 (L2 (behindF tt l)) e w' := by
  have hrh := Lib.hid hr
  have hll := Lib.hid hr.len
  clear hr
  go_enter Tryz.func34, Tryz.ntmps34
  go_wp2_with fail
  go_loopw [5, 6] (fun v i wr => ∃ (k : Nat), k ≤ n ∧ i = .int .i64 k ∧ Hid (∃ La, La = behindF tt (l.take k) ∧ wr.ownsRow w0.heap.size 24 2 v La.length (La.flatMap pairE) ∧ Below w0.heap.size w0 wr)) (fun _ i _ => n - (intOf i).toNat)
  case atStart => exact ⟨0, Nat.zero_le _, rfl, [], rfl, World.ownsRow_nil _ _ _ _, Below.refl _ _⟩
  case round =>
    obtain ⟨k, hk, rfl, hH⟩ := hrel
    obtain ⟨La, hLa, own, hbr⟩ := hH.out
    clear hH
    by_cases hlt : k < n
    · obtain ⟨b, o, x1, x2, x3, rfl, hbs, hx, p1, p2, p3⟩ := hrh.out.trip hlt
      have h1 := (hbr.cell (p := ⟨b, o + k * 3, none⟩) hbs).trans p1
      have h2 := (hbr.cell (p := ⟨b, o + k * 3 + 1, none⟩) hbs).trans p2
      have h3 := (hbr.cell (p := ⟨b, o + k * 3 + 2, none⟩) hbs).trans p3
      have hkn : (k : Int) < (n : Int) := by omega
      have hC := Lib.hid (rChk3_any x1 x2 x3 wr)
      have hLl : La.length ≤ k := by
        rw [hLa]
        exact Nat.le_trans (behindF_len _ _) (by rw [List.length_take]; omega)
      have hst : behindF tt (l.take (k + 1)) = La ++ (if may3 (x1, x2, x3) && decide (tt ≤ x1) then [(x2, x3)] else []) := by rw [take_at hx, behindF_snoc, hLa]
      obtain ⟨mb, hm⟩ : ∃ mb, may3 (x1, x2, x3) = mb := ⟨_, rfl⟩
      rw [hm] at hC hst
      have ownh := Lib.hid own
      have hbrh := Lib.hid hbr
      clear own hbr hx hLa hm
      cases mb with
      | false =>
        have hv : chkB false = 2 := rfl
        rw [hv] at hC
        have hnx : Hid (La = behindF tt (l.take (k + 1))) := by show _ = _; rw [hst]; simp
        clear hst
        go_wp2_with fail
        refine hC.out.mono ?_; rintro e w2 ⟨rfl, hb2⟩
        have own2 := Lib.hid (own_up ownh.out hb2)
        have hb02 := Lib.hid (hbrh.out.trans (hb2.mono hbrh.out.size))
        clear hb2 h1 h2 h3
        go_wp2_with fail
        go_roundw
        case rel => exact ⟨k + 1, by omega, by go_num, La, hnx.out, own2.out, hb02.out⟩
        case measure => simp [intOf]; omega
      | true =>
        have hv : chkB true = 0 := rfl
        rw [hv] at hC
        by_cases ht : tt ≤ x1
        · have d1 : decide (tt ≤ x1) = true := decide_eq_true ht
          rw [d1] at hst
          have hLn : Hid (La ++ [(x2, x3)] = behindF tt (l.take (k + 1))) := by show _ = _; rw [hst]; rfl
          clear hst
          go_wp2_with fail
          refine hC.out.mono ?_; rintro e wr ⟨rfl, hb2⟩
          have ownh := Lib.hid (own_up ownh.out hb2)
          have hbrh := Lib.hid (hbrh.out.trans (hb2.mono hbrh.out.size))
          have h1 := (hbrh.out.cell (p := ⟨b, o + k * 3, none⟩) hbs).trans p1
          have q2 := (hbrh.out.cell (p := ⟨b, o + k * 3 + 1, none⟩) hbs).trans p2
          have q3 := (hbrh.out.cell (p := ⟨b, o + k * 3 + 2, none⟩) hbs).trans p3
          have hbase : w0.heap.size ≤ wr.heap.size := hbrh.out.size
          have hlen : Hid (La.length + 1 ≤ 1099511627776) := by show La.length + 1 ≤ 1099511627776; omega
          clear hb2 h2 h3
          go_wp2_with fail
          go_upto_region 6 with fail
          refine wp_region_ghost2 (fun fl x w => GB1 pairE 24 2 wr w0.heap.size u5 La (x2, x3) (fl 0) (fl 12) (fl 13) (fl 14) (x 12) (x 13) (x 14) w) (by kernel_rfl) (by kernel_rfl) (by kernel_rfl) (by kernel_rfl) (by kernel_rfl) ?_ ?_
          · intro x0 hx0
            exact GB1.start rfl rfl rfl (hx0 14 5 rfl) ownh.out
          intro base O hbase hO
          have kx0 : Hid (∀ xs, evX base O xs (.tmp 0) = .slice (some ⟨b, o, none⟩) n c) := fun xs => by rw [hbase, hO]; rfl
          have kx5 : Hid (∀ xs, evX base O xs (.tmp 5) = xs 14) := fun xs => by rw [hO]; rfl
          have kx6 : Hid (∀ xs, evX base O xs (.tmp 6) = .int .i64 (k : Int)) := fun xs => by rw [hbase, hO]; rfl
          have kx28 : Hid (∀ xs, evX base O xs (.tmp 28) = xs 0) := fun xs => by rw [hO]; rfl
          have kx29 : Hid (∀ xs, evX base O xs (.tmp 29) = xs 1) := fun xs => by rw [hO]; rfl
          have kx30 : Hid (∀ xs, evX base O xs (.tmp 30) = xs 2) := fun xs => by rw [hO]; rfl
          have kx31 : Hid (∀ xs, evX base O xs (.tmp 31) = xs 3) := fun xs => by rw [hO]; rfl
          have kx32 : Hid (∀ xs, evX base O xs (.tmp 32) = xs 4) := fun xs => by rw [hO]; rfl
          have kx33 : Hid (∀ xs, evX base O xs (.tmp 33) = xs 5) := fun xs => by rw [hO]; rfl
          have kx34 : Hid (∀ xs, evX base O xs (.tmp 34) = xs 6) := fun xs => by rw [hO]; rfl
          have kx35 : Hid (∀ xs, evX base O xs (.tmp 35) = xs 7) := fun xs => by rw [hO]; rfl
          have kx36 : Hid (∀ xs, evX base O xs (.tmp 36) = xs 8) := fun xs => by rw [hO]; rfl
          have kx37 : Hid (∀ xs, evX base O xs (.tmp 37) = xs 9) := fun xs => by rw [hO]; rfl
          have kx38 : Hid (∀ xs, evX base O xs (.tmp 38) = xs 10) := fun xs => by rw [hO]; rfl
          have kx39 : Hid (∀ xs, evX base O xs (.tmp 39) = xs 11) := fun xs => by rw [hO]; rfl
          have kx40 : Hid (∀ xs, evX base O xs (.tmp 40) = xs 12) := fun xs => by rw [hO]; rfl
          have kx41 : Hid (∀ xs, evX base O xs (.tmp 41) = xs 13) := fun xs => by rw [hO]; rfl
          clear hbase hO
          apply gh_det (n := 0)
          · intro fl xs w ev hG hD hl hdone hev K hK
            have e5 := (hev (.tmp 5)).trans (kx5.out xs)
            rw [if_pos (wantedX_none rfl)]
            have ef : ∀ f, ev (.func f) = .func (.func f) #[] #[] := fun f => (hev _).trans rfl
            clear hev hD
            obtain ⟨ev0, hG0⟩ := hG.rdS hl
            rw [ev0] at e5
            go_simp
            exact hK _ _ rfl hG0
          apply gh_det (n := 1)
          · intro fl xs w ev hG hD hl hdone hev K hK
            have e0 := (hev (.tmp 0)).trans (kx0.out xs)
            rw [if_pos (wantedX_none rfl)]
            have ef : ∀ f, ev (.func f) = .func (.func f) #[] #[] := fun f => (hev _).trans rfl
            clear hev hD
            go_simp
            exact hK _ _ rfl hG
          apply gh_det (n := 2)
          · intro fl xs w ev hG hD hl hdone hev K hK
            have e6 := (hev (.tmp 6)).trans (kx6.out xs)
            rw [if_pos (wantedX_none rfl)]
            have ef : ∀ f, ev (.func f) = .func (.func f) #[] #[] := fun f => (hev _).trans rfl
            clear hev hD
            go_simp
            exact hK _ _ rfl hG
          apply gh_det (n := 3)
          · intro fl xs w ev hG hD hl hdone hev K hK
            have e29 := (hev (.tmp 29)).trans (kx29.out xs)
            have d1 := hD.at_ 1 rfl rfl
            replace e29 := e29.trans d1
            have e30 := (hev (.tmp 30)).trans (kx30.out xs)
            have d2 := hD.at_ 2 rfl rfl
            replace e30 := e30.trans d2
            rw [if_pos (wantedX_none rfl)]
            have ef : ∀ f, ev (.func f) = .func (.func f) #[] #[] := fun f => (hev _).trans rfl
            clear hev hD
            go_simp
            exact hK _ _ rfl hG
          apply gh_det (n := 4)
          · intro fl xs w ev hG hD hl hdone hev K hK
            have e31 := (hev (.tmp 31)).trans (kx31.out xs)
            have d3 := hD.at_ 3 rfl rfl
            replace e31 := e31.trans d3
            rw [if_pos (wantedX_none rfl)]
            have ef : ∀ f, ev (.func f) = .func (.func f) #[] #[] := fun f => (hev _).trans rfl
            clear hev hD
            go_simp
            exact hK _ _ rfl hG
          apply gh_det (n := 5)
          · intro fl xs w ev hG hD hl hdone hev K hK
            have e32 := (hev (.tmp 32)).trans (kx32.out xs)
            have d4 := hD.at_ 4 rfl rfl
            replace e32 := e32.trans d4
            rw [if_pos (wantedX_none rfl)]
            have ef : ∀ f, ev (.func f) = .func (.func f) #[] #[] := fun f => (hev _).trans rfl
            clear hev hD
            have mm := (hG.bel.cell (p := ⟨b, o + k * 3 + 1, none⟩) hbs).trans q2
            go_simp
            exact hK _ _ rfl hG
          apply gh_det (n := 6)
          · intro fl xs w ev hG hD hl hdone hev K hK
            have e0 := (hev (.tmp 0)).trans (kx0.out xs)
            rw [if_pos (wantedX_none rfl)]
            have ef : ∀ f, ev (.func f) = .func (.func f) #[] #[] := fun f => (hev _).trans rfl
            clear hev hD
            go_simp
            exact hK _ _ rfl hG
          apply gh_det (n := 7)
          · intro fl xs w ev hG hD hl hdone hev K hK
            have e6 := (hev (.tmp 6)).trans (kx6.out xs)
            rw [if_pos (wantedX_none rfl)]
            have ef : ∀ f, ev (.func f) = .func (.func f) #[] #[] := fun f => (hev _).trans rfl
            clear hev hD
            go_simp
            exact hK _ _ rfl hG
          apply gh_det (n := 8)
          · intro fl xs w ev hG hD hl hdone hev K hK
            have e34 := (hev (.tmp 34)).trans (kx34.out xs)
            have d6 := hD.at_ 6 rfl rfl
            replace e34 := e34.trans d6
            have e35 := (hev (.tmp 35)).trans (kx35.out xs)
            have d7 := hD.at_ 7 rfl rfl
            replace e35 := e35.trans d7
            rw [if_pos (wantedX_none rfl)]
            have ef : ∀ f, ev (.func f) = .func (.func f) #[] #[] := fun f => (hev _).trans rfl
            clear hev hD
            go_simp
            exact hK _ _ rfl hG
          apply gh_det (n := 9)
          · intro fl xs w ev hG hD hl hdone hev K hK
            have e36 := (hev (.tmp 36)).trans (kx36.out xs)
            have d8 := hD.at_ 8 rfl rfl
            replace e36 := e36.trans d8
            rw [if_pos (wantedX_none rfl)]
            have ef : ∀ f, ev (.func f) = .func (.func f) #[] #[] := fun f => (hev _).trans rfl
            clear hev hD
            go_simp
            exact hK _ _ rfl hG
          apply gh_det (n := 10)
          · intro fl xs w ev hG hD hl hdone hev K hK
            have e37 := (hev (.tmp 37)).trans (kx37.out xs)
            have d9 := hD.at_ 9 rfl rfl
            replace e37 := e37.trans d9
            rw [if_pos (wantedX_none rfl)]
            have ef : ∀ f, ev (.func f) = .func (.func f) #[] #[] := fun f => (hev _).trans rfl
            clear hev hD
            have mm := (hG.bel.cell (p := ⟨b, o + k * 3 + 2, none⟩) hbs).trans q3
            go_simp
            exact hK _ _ rfl hG
          apply gh_det (n := 11)
          · intro fl xs w ev hG hD hl hdone hev K hK
            have e33 := (hev (.tmp 33)).trans (kx33.out xs)
            have d5 := hD.at_ 5 rfl rfl
            replace e33 := e33.trans d5
            have e38 := (hev (.tmp 38)).trans (kx38.out xs)
            have d10 := hD.at_ 10 rfl rfl
            replace e38 := e38.trans d10
            rw [if_pos (wantedX_none rfl)]
            have ef : ∀ f, ev (.func f) = .func (.func f) #[] #[] := fun f => (hev _).trans rfl
            clear hev hD
            go_simp
            exact hK _ _ rfl hG
          refine gh_any (n := 12) (fun _ => True) ?_ ?_
          · intro fl xs w ev hG hD hl hdone hev K hK
            have e39 := (hev (.tmp 39)).trans (kx39.out xs)
            have d11 := hD.at_ 11 rfl rfl
            replace e39 := e39.trans d11
            rw [if_pos (wantedX_none rfl)]
            have ef : ∀ f, ev (.func f) = .func (.func f) #[] #[] := fun f => (hev _).trans rfl
            clear hev hD
            go_simp
            exact hK _ _ trivial (hG.litS hl hbase pairE_len2)
          refine gh_any (n := 13) (fun _ => True) ?_ ?_
          · intro fl xs w ev hG hD hl hdone hev K hK
            have e28 := (hev (.tmp 28)).trans (kx28.out xs)
            have d0 := hD.at_ 0 rfl rfl
            replace e28 := e28.trans d0
            have e40 := (hev (.tmp 40)).trans (kx40.out xs)
            rw [if_pos (wantedX_none rfl)]
            have ef : ∀ f, ev (.func f) = .func (.func f) #[] #[] := fun f => (hev _).trans rfl
            clear hev hD
            obtain ⟨k5, c5, e5, r5⟩ := hG.lit (done_of hdone 12 rfl) hl
            have own := hG.own hl
            rw [e5] at e40
            obtain ⟨v', w1', hrun, own1, hgr, hnew⟩ := own_append (enc := pairE) Tryz.underlying22 infoAPair rfl (by decide) pairE_len2 pairE_one c5 own r5 hlen.out (by decide) (Nat.le_trans hbase hG.bel.size)
            rw [show La.length + 1 = (La ++ [(x2, x3)]).length from by simp] at own1
            exact outcome_append (.tmp 28) (.tmp 40) 22 rfl e28 e40 hrun (hK _ _ trivial (hG.appS hl (done_of hdone 0 rfl) (done_of hdone 12 rfl) own1 ((Below.refl _ w).grown hgr (Nat.le_trans hbase hG.bel.size) fun g hg => (own.lt g hg).1)))
          refine gh_any (n := 14) (fun _ => True) ?_ ?_
          · intro fl xs w ev hG hD hl hdone hev K hK
            have e41 := (hev (.tmp 41)).trans (kx41.out xs)
            rw [if_pos (wantedX_none rfl)]
            have ef : ∀ f, ev (.func f) = .func (.func f) #[] #[] := fun f => (hev _).trans rfl
            clear hev hD
            have own := hG.app (done_of hdone 13 rfl)
            obtain ⟨A7, c7, e7, _⟩ := Rd.of_own pairE_len2 rfl own
            have hG0 := hG.asS (done_of hdone 13 rfl)
            generalize (La ++ [(x2, x3)]).length = n7 at e7
            rw [e7] at e41
            go_simp
            refine hK _ _ trivial ?_
            rw [← e7]
            exact hG0
          clear kx0 kx5 kx6 kx28 kx29 kx30 kx31 kx32 kx33 kx34 kx35 kx36 kx37 kx38 kx39 kx40 kx41
          intro xs w9 hG hI
          have own9 := hG.app rfl
          have e9 := hG.asg rfl
          have hb9 := hG.bel
          clear hG hI
          rw [← e9] at own9
          clear e9
          simp only [List.append_eq, List.cons_append, List.nil_append, setAll, List.setIfInBounds_toArray, List.set_cons_zero, List.set_cons_succ]
          have hfin := Lib.hid (And.intro own9 (hbrh.out.trans hb9))
          clear own9 hb9
          go_wp2_with fail
          go_roundw
          case rel => exact ⟨k + 1, by omega, by go_num, _, hLn.out, hfin.out.1, hfin.out.2⟩
          case measure => simp [intOf]; omega
        · have d1 : decide (tt ≤ x1) = false := decide_eq_false ht
          rw [d1] at hst
          have hnx : Hid (La = behindF tt (l.take (k + 1))) := by show _ = _; rw [hst]; simp
          clear hst
          go_wp2_with fail
          refine hC.out.mono ?_; rintro e w2 ⟨rfl, hb2⟩
          have own2 := Lib.hid (own_up ownh.out hb2)
          have hb02 := Lib.hid (hbrh.out.trans (hb2.mono hbrh.out.size))
          have h1' := (hb02.out.cell (p := ⟨b, o + k * 3, none⟩) hbs).trans p1
          clear hb2 h1 h2 h3
          go_wp2_with fail
          go_roundw
          case rel => exact ⟨k + 1, by omega, by go_num, La, hnx.out, own2.out, hb02.out⟩
          case measure => simp [intOf]; omega
    · obtain rfl : k = n := by omega
      have hkn : decide ((k : Int) < (k : Int)) = false := decide_eq_false (by omega)
      rw [List.take_of_length_le (by rw [hll.out]; exact Nat.le_refl _)] at hLa
      obtain ⟨A', c', rfl, r1, r2, r3⟩ := Rd.of_own pairE_len2 rfl own
      have hlb := behindF_len tt l
      have hL := Lib.hid (rLeast2_any A' La.length c' La wr r1 (by rw [hLa]; have := hll.out; omega))
      rw [hLa] at hL
      have hbrh := Lib.hid hbr
      have hLah := Lib.hid hLa
      rw [← hLa] at hL
      clear own r1 hbr hLa
      go_wp2_with fail
      refine hL.out.mono ?_; rintro e w2 ⟨A2, c2, rfl, q1, q2, q3, hb2⟩
      have q1h := Lib.hid q1
      have hb2h := Lib.hid (hbrh.out.trans (hb2.mono hbrh.out.size))
      clear q1 hb2
      go_wp2_with fail
      go_returns
      rw [← hLah.out]
      exact .mk A2 c2 rfl q1h.out q2 q3 hb2h.out
end Go.Proofs.YtibeoiphjkgekaaGreat
