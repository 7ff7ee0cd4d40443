/-
  Walks: the document's answer: Sum.
-/
import Derived.Test.YtjbhdfjbockkfaaRef2
namespace Go.Proofs.Ytjbhdfjbockkfaa
open Go.RowKit B
set_option linter.unusedVariables false
set_option linter.unusedSimpArgs false
set_option maxHeartbeats 1000000
theorem rsum_any (A : Option Addr) (n c : Nat) (l : W.Row) (w : World) (hr : Rd w 2 pairE A n l) (hn : n ≤ 9223372036854775807) :
    Calls Try.prog 25 #[.slice A n c] w fun e w' => e = .returned (.int .i64 (W.sum l)) ∧ Below w.heap.size w w' := by
  go_enter Try.func25, Try.ntmps25
  cases hg : W.good l
  · have hf : Hid (W.sum l = 0) := by show _ = _; unfold W.sum; rw [hg]; rfl
    by_cases h0 : 0 < n
    · go_wp2
      go_loopw [3, 4] (fun p i wr => i = .int .i64 0 ∧ p = .int .i64 0 ∧ Below w.heap.size w wr ∧ Rd wr 2 pairE A n l) (fun _ _ _ => 0)
      case atStart => exact ⟨rfl, rfl, Below.refl _ _, hr⟩
      case round =>
        clear hr
        obtain ⟨rfl, rfl, hb, hr⟩ := hrel
        go_wp2_with fail
        refine (rgood_any A n c l _ hr hn).mono ?_; rintro e w1 ⟨rfl, hb1⟩
        rw [hg]
        have hb := hb.trans (hb1.mono hb.size)
        go_wp2_with fail
        go_returns
        exact ⟨ret_int hf.out.symm, hb⟩
    · obtain rfl : n = 0 := by omega
      go_wp2
      go_loopw [3, 4] (fun p i wr => i = .int .i64 0 ∧ p = .int .i64 0 ∧ Below w.heap.size w wr) (fun _ _ _ => 0)
      case atStart => exact ⟨rfl, rfl, Below.refl _ _⟩
      case round =>
        obtain ⟨rfl, rfl, hb⟩ := hrel
        go_wp2_with fail
        go_returns
        exact ⟨ret_int hf.out.symm, hb⟩
  · have hf : Hid (W.sum l = W.sumF l) := by show _ = _; unfold W.sum; rw [hg]; rfl
    have hg0 := Lib.hid (show W.goodF (-1) l = true from hg)
    have hg := Lib.hid hg
    go_wp2
    go_loopw [3, 4] (fun p i wr => ∃ (k : Nat) (x y : Int), k ≤ n ∧ i = .int .i64 k ∧ p = .int .i64 x ∧ Below w.heap.size w wr ∧ Rd wr 2 pairE A n l ∧ 0 ≤ x ∧ Hid (x + W.sumF (l.drop k) = W.sumF l) ∧ (-1 ≤ y ∧ y ≤ 2199023255552 ∧ x ≤ y + 1) ∧ Hid (W.goodF y (l.drop k) = true)) (fun _ i _ => n - (intOf i).toNat)
    case atStart => exact ⟨0, 0, -1, Nat.zero_le _, rfl, rfl, Below.refl _ _, hr, by omega, by show _ = _; simp, by omega, hg0⟩
    case round =>
      clear hr hg0
      obtain ⟨k, x, y, hk, rfl, rfl, hb, hr, hx, hs, hy, hgd⟩ := hrel
      by_cases hlt : k < n
      · go_wp2_with fail
        refine (rgood_any A n c l _ hr hn).mono ?_; rintro e w1 ⟨rfl, hb1⟩
        rw [hg.out]
        have hr := hr.below hb1
        have hb := hb.trans (hb1.mono hb.size)
        obtain ⟨b, o, p, q, rfl, hbs, hl, h1, h2⟩ := hr.pair hlt
        have hd := Lib.hid (drop_at hl); clear hl
        obtain ⟨g1, g2, g3, g4⟩ := W.goodF_cons (by rw [← hd.out]; exact hgd.out : W.goodF y ((p, q) :: l.drop (k + 1)) = true)
        have g4 := Lib.hid g4
        have hs2 := hs.out
        rw [hd.out, W.sumF] at hs2
        have hs2 := Lib.hid hs2
        go_upto_region 5 with fail
        go_quiet (fail)
        go_wp2
        go_roundw
        case rel => exact ⟨k + 1, x + q - p, q, by omega, by go_num, rfl, ⟨hb.os, hb.tape, hb.output, hb.size, hb.block⟩, hr.below ⟨rfl, rfl, rfl, Nat.le_refl _, fun _ _ => rfl⟩, by omega, by have := hs2.out; show _ = _; omega, by omega, g4⟩
        case measure => simp [intOf]; omega
      · go_wp2
        go_returns
        refine ⟨ret_int ?_, hb⟩
        have := hs.out
        rw [List.drop_eq_nil_of_le (by rw [hr.len]; omega)] at this
        rw [hf.out, ← this]; simp [W.sumF]
end Go.Proofs.Ytjbhdfjbockkfaa
