/-
  Walks: bag.Best, bag.Of; timetablekit.Pick.
-/
import Derived.Test.YtibeoiphjkgekaaGreatBag10
import Derived.Test.YtibeoiphjkgekaaGreatBagPlain2
import Derived.WalkLawsBesides
namespace Go.Proofs.YtibeoiphjkgekaaGreat
open Go.RowKit B K Go.Shelf
set_option linter.unusedVariables false
set_option linter.unusedSimpArgs false
set_option maxHeartbeats 2000000
set_option maxRecDepth 100000 in
theorem Best_any (A : Option Addr) (n c : Nat) (l : List P2) (m : Int) (w : World) (hr : Rd w 2 pairE A n l) (hn : n ≤ 1099511627776) :
    Calls Tryz.prog 29 #[.slice A n c, .int .i64 m] w fun e w' => e = .returned (.int .i64 (bestF m l)) ∧ Below w.heap.size w w' := by
  go_enter Tryz.func29, Tryz.ntmps29
  go_wp2_with fail
  go_loopw [5, 10] (fun v i wr => ∃ (k : Nat) (q : Int), k ≤ n ∧ i = .int .i64 k ∧ v = .int .i64 q ∧ Hid (q = bestF m (l.take k)) ∧ Below w.heap.size w wr) (fun _ i _ => n - (intOf i).toNat)
  case atStart => exact ⟨0, K.inf, Nat.zero_le _, rfl, rfl, rfl, Below.refl _ _⟩
  case round =>
    obtain ⟨k, q, hk, rfl, rfl, hq, hb⟩ := hrel
    by_cases hlt : k < n
    · obtain ⟨b, o, x1, x2, rfl, hbs, hx, h1, h2⟩ := (hr.below hb).pair hlt
      have htk := Lib.hid (take_at hx)
      clear hx
      have bx1 := Bx2.new wr 24 x1 x2
      have hb1 : Below w.heap.size w (wr.alloc (.cells #[.int .i64 x1, .int .i64 x2] 24)) := hb.alloc hb.size _
      go_wp2_with fail
      refine (may2_any x1 x2 _).mono ?_; rintro e w2 ⟨rfl, hb2⟩
      have bx2 := bx1.below hb2
      have hb02 := hb1.trans (hb2.mono hb1.size)
      obtain ⟨c0, c1⟩ := (⟨bx2.c0, bx2.c1⟩ : _ ∧ _)
      cases hm : may2 (x1, x2) with
      | false =>
        have hnext : Hid (q = bestF m (l.take (k + 1))) := by show _ = _; rw [htk.out, bestF_snoc, ← hq.out]; unfold bestStep; rw [if_neg (by rw [hm]; simp)]
        clear hm hq
        go_wp2_with fail
        go_roundw
        case rel => exact ⟨k + 1, q, by omega, by go_num, rfl, hnext, hb02⟩
        case measure => simp [intOf]; omega
      | true =>
        by_cases ht : x2 ≤ m
        · by_cases hqx : q ≤ x1
          · have hnext : Hid (q = bestF m (l.take (k + 1))) := by show _ = _; rw [htk.out, bestF_snoc, ← hq.out]; unfold bestStep; rw [if_pos ⟨hm, ht⟩]; simp only; omega
            have hm' := Lib.hid hm
            clear hm hq
            go_wp2_with fail
            all_goals
              first
                | (exfalso; omega)
                | (go_roundw
                   case rel => exact ⟨k + 1, q, by omega, by go_num, by first | rfl | go_num, hnext, hb02⟩
                   case measure => simp [intOf]; omega)
          · have hnext : Hid (x1 = bestF m (l.take (k + 1))) := by show _ = _; rw [htk.out, bestF_snoc, ← hq.out]; unfold bestStep; rw [if_pos ⟨hm, ht⟩]; simp only; omega
            have hm' := Lib.hid hm
            have hqx' : x1 < q := by omega
            clear hm hq
            go_wp2_with fail
            all_goals
              first
                | (exfalso; omega)
                | (go_roundw
                   case rel => exact ⟨k + 1, x1, by omega, by go_num, by first | rfl | go_num, hnext, hb02⟩
                   case measure => simp [intOf]; omega)
        · have ht' : decide (x2 ≤ m) = false := decide_eq_false ht
          have hnext : Hid (q = bestF m (l.take (k + 1))) := by show _ = _; rw [htk.out, bestF_snoc, ← hq.out]; unfold bestStep; rw [if_neg (fun h => ht h.2)]
          have hm' := Lib.hid hm
          clear hm hq
          go_wp2_with fail
          go_roundw
          case rel => exact ⟨k + 1, q, by omega, by go_num, rfl, hnext, hb02⟩
          case measure => simp [intOf]; omega
    · go_wp2
      go_returns
      exact ⟨ret_int (by rw [hq.out, List.take_of_length_le (by rw [hr.len]; omega)]), hb⟩
theorem ofc_any (a b d : Int) (bk : Nat) (w : World) (hc : w.cell? ⟨bk, 0, none⟩ = some (.int .i64 d)) (hlt : bk < w.heap.size) : Calls Tryz.prog 63 #[.agg #[.int .i64 a, .int .i64 b], .pointer (some ⟨bk, 0, none⟩)] w fun e w' => e = .returned (.agg #[.int .i64 d, .int .i64 a, .int .i64 b]) ∧ Below w.heap.size w w' := by
  have k1 : ∀ o : Obj, (w.alloc o).cell? ⟨bk, 0, none⟩ = some (.int .i64 d) := fun o => (World.cell?_alloc_lt w o _ hlt).trans hc
  have k2 : ∀ o o' : Obj, ((w.alloc o).alloc o').cell? ⟨bk, 0, none⟩ = some (.int .i64 d) := fun o o' => (World.cell?_alloc_lt _ o' _ (by simp; omega)).trans (k1 o)
  go_enter Tryz.func63, Tryz.ntmps63
  go_wp2
  exact bodyPost_ret (v := .agg #[.int .i64 d, .int .i64 a, .int .i64 b]) (by simp [results, Tryz.results63, go_sem]) rfl ⟨rfl, ((Below.refl _ _).alloc (Nat.le_refl _) _).alloc (by simp) _⟩
theorem Of_any (A : Option Addr) (n c : Nat) (l : List P2) (d : Int) (w : World) (hr : Rd w 2 pairE A n l) (hn : n ≤ 1099511627) :
    Calls Tryz.prog 31 #[.int .i64 d, .slice A n c] w fun e w' => RetR 3 tripE w (ofF d l) e w' := by
  have hc : (w.alloc (.cells #[.int .i64 d] 2)).cell? ⟨w.heap.size, 0, none⟩ = some (.int .i64 d) := by simp [go_sem]
  have hlt : w.heap.size < (w.alloc (.cells #[.int .i64 d] 2)).heap.size := by simp
  have h1 := asOf_any 63 #[.pointer (some ⟨w.heap.size, 0, none⟩)] (enters_of Tryz.func63 (by kernel_rfl) rfl) (fun p => (d, p.1, p.2)) A n c l (w.alloc (.cells #[.int .i64 d] 2)) (hr.below ((Below.refl _ w).alloc (Nat.le_refl _) _)) hn
    (fun W x hW => ofc_any x.1 x.2 d w.heap.size W ((hW.cell (p := ⟨w.heap.size, 0, none⟩) hlt).trans hc) (Nat.lt_of_lt_of_le hlt hW.size))
  clear hc hlt
  go_enter Tryz.func31, Tryz.ntmps31
  go_wp2_with fail
  refine h1.mono ?_; rintro e w1 ⟨A1, c1, rfl, r1, s1, t1, hb1⟩
  go_wp2_with fail
  go_returns
  have hl : (ofF d l).length = l.length := List.length_map ..
  exact .mk A1 c1 (by rw [hl]; rfl) r1 s1 t1 (((Below.refl _ w).alloc (Nat.le_refl _) _).trans (hb1.mono (by simp)))
end Go.Proofs.YtibeoiphjkgekaaGreat
