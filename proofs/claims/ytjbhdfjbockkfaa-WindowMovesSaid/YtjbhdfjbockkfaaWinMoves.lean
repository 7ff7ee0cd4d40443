/-
  Walk: timetablelaw08.WindowMoves answers true, whatever the times and numbers.
-/
import Derived.Test.YtjbhdfjbockkfaaWin5
import Derived.Test.YtjbhdfjbockkfaaWin9
import Derived.Test.YtjbhdfjbockkfaaWinPlain5
import Derived.Test.YtjbhdfjbockkfaaOpen2
import Derived.Deep.DeepCutAuto
import Derived.BigQuiet
namespace Go.Proofs.Ytjbhdfjbockkfaa
open Go.RowKit B Go.Shelf
set_option linter.unusedVariables false
set_option linter.unusedSimpArgs false
theorem B.Rd.set_other {α : Type} {w : World} {size n : Nat} {enc : α → List Value} {A : Option Addr} {l : List α} (h : Rd w size enc A n l) {p : Addr} (hp : ∀ a, A = some a → a.block ≠ p.block) (u : Value) : Rd (w.setCell p u) size enc A n l :=
  ⟨h.len, fun hn => by
    obtain ⟨b, o, e, hb, hc⟩ := h.cells hn
    refine ⟨b, o, e, by simpa [World.setCell] using hb, fun i x hx j u' hu => ?_⟩
    rw [← hc i x hx j u' hu]
    refine World.cell?_of_block (w := w) (Below.heap_setCell _ _ _ _ (show (⟨b, o + i * size + j, none⟩ : Addr).block ≠ p.block from hp ⟨b, o, none⟩ e))⟩
theorem B.row_setCell0 {w : World} {b : Nat} {x y z u : Value} {t : TypeId} (h : w.heap[b]? = some (.cells #[x, y, z] t (0, 0))) : (w.setCell ⟨b, 0, none⟩ u).heap[b]? = some (.cells #[u, y, z] t (0, 0)) := by
  have hlt := lt_of_block h
  have h' : w.heap[b] = .cells #[x, y, z] t (0, 0) := by simpa [Array.getElem?_eq_getElem hlt] using h
  show (w.heap.modify b _)[b]? = _
  rw [Array.getElem?_eq_getElem (by simpa using hlt), Array.getElem_modify_self, h']
  rfl
theorem B.row3 {w : World} {b : Nat} {x y z : Value} {t : TypeId} (h : w.heap[b]? = some (.cells #[x, y, z] t (0, 0))) :
    w.cell? ⟨b, 0, none⟩ = some x ∧ w.cell? ⟨b, 1, none⟩ = some y ∧ w.cell? ⟨b, 2, none⟩ = some z ∧ w.frozen? ⟨b, 0, none⟩ = false :=
  ⟨by simp [World.cell?, h], by simp [World.cell?, h], by simp [World.cell?, h], by simp [World.frozen?, h]⟩
set_option maxHeartbeats 2000000
set_option maxRecDepth 100000 in
theorem moves_any (f v n h d x m : Int) (w : World) (hf : -9223372036854775808 ≤ f ∧ f ≤ 9223372036854775807) (hh : -9223372036854775808 ≤ h ∧ h ≤ 9223372036854775807) :
    Calls Try.prog 4 #[.agg #[.int .i64 f, .int .i64 v, .int .i64 n], .int .i64 h, .int .i64 d, .int .i64 x, .int .i64 m] w fun e w' => e = .returned (.bool true) ∧ Below w.heap.size w w' := by
  go_enter Try.func4, Try.ntmps4
  go_wp2_with fail
  refine (lives_any _).mono ?_; rintro e w1 ⟨rfl, hb1⟩
  have V1 : w1.heap[w.heap.size]? = some (.cells #[.int .i64 f, .int .i64 v, .int .i64 n] 32 (0, 0)) := (hb1.block _ (by simp)).trans (heap_alloc_new w _)
  have hs1 : w.heap.size < w1.heap.size := lt_of_block V1
  have hbw : Below w.heap.size w w1 := ((Below.refl _ w).alloc (Nat.le_refl _) _).trans (hb1.mono (by simp))
  clear hb1
  obtain ⟨k1, k2, k3, k4⟩ := row3 V1
  by_cases dom : (0 ≤ d ∧ d ≤ 549755813888) ∧ (0 ≤ x ∧ x ≤ 549755813888) ∧ f ≤ 549755813888 ∧ h ≤ 549755813888 ∧ (0 ≤ m ∧ m ≤ 549755813888)
  · obtain ⟨hd, hx, hf1, hh1, hm⟩ := dom
    go_wp2_with fail
    clear k1 k2 k3 k4
    refine (wins_new f v n h _).mono ?_; rintro e w2 ⟨A1, c1, rfl, r1, s1, t1, hb2, n1⟩
    have V2 := (hb2.block _ hs1).trans V1
    have hbw2 := hbw.trans (hb2.mono (by omega))
    clear hbw V1
    have hs2 := hb2.size
    obtain ⟨k1, k2, k3, k4⟩ := row3 V2
    go_wp2_with fail
    clear k1 k2 k3 k4
    have V3 := row_setCell0 (u := .int .i64 (f + d)) V2
    have r1 := r1.set_other (p := ⟨w.heap.size, 0, none⟩) (fun a ha => by have := n1 a ha; simp only; omega) (.int .i64 (f + d))
    have hbw3 := hbw2.setCell (p := ⟨w.heap.size, 0, none⟩) (Nat.le_refl _) (.int .i64 (f + d))
    generalize w2.setCell ⟨w.heap.size, 0, none⟩ (.int .i64 (f + d)) = w3 at *
    clear V2 hbw2 hs2 hb2 n1
    refine (wins_new (f + d) v n (h + d) _).mono ?_; rintro e w4 ⟨A2, c2, rfl, r2, s2, t2, hb4, n2⟩
    have V4 := (hb4.block _ (lt_of_block V3)).trans V3
    have r1 := r1.below hb4
    have hbw4 := hbw3.trans (hb4.mono hbw3.size)
    clear V3 hbw3 hb4 n2
    by_cases he : (winsM f v n h).2 = (winsM (f + d) v n (h + d)).2
    · rw [← he]
      by_cases hz : (winsM f v n h).2 = 0
      · have hF := (chkT_parts (winsM_ok hz).1).1
        have hH := W.chk_zero (winsM_ok hz).2.1
        have hsh := winsM_shift (v := v) (n := n) (d := d) (f := f) (h := h) ⟨hF.1, hf1⟩ ⟨hH.1, hh1⟩ hd
        have g1 := (wins_good hz).1
        have g2 := (wins_good hz).2.2
        have g3 := (wins_good (he.symm.trans hz)).1
        rw [hsh] at r2 s2 g3 ⊢
        rw [hz]
        simp only at r2 s2 g3 ⊢
        generalize (winsM f v n h).1 = la at *
        clear hz he hsh V4
        have M := moved g1 g3 hd hx hm
        have hbd := W.goodF_bounds la _ g1
        rw [shift_len] at r2 s2 ⊢
        have M := Lib.hid M
        have hbd := Lib.hid hbd
        rename_i y1 y2; clear y1 y2
        have g1 := Lib.hid g1
        have g3 := Lib.hid g3
        rename_i y1 y2; clear y1 y2
        go_wp2_with fail
        refine (sum_any A1 _ c1 la _ r1 (by omega)).mono ?_; rintro e w5 ⟨rfl, hb5⟩
        have r1 := r1.below hb5
        have r2 := r2.below hb5
        have hbw5 := hbw4.trans (hb5.mono hbw4.size)
        clear hb5 hbw4
        go_wp2_with fail
        refine (sum_any A2 _ c2 _ _ r2 (by omega)).mono ?_; rintro e w6 ⟨rfl, hb6⟩
        rw [M.out.1]
        have r1 := r1.below hb6
        have r2 := r2.below hb6
        have hbw6 := hbw5.trans (hb6.mono hbw5.size)
        clear hb6 hbw5
        go_wp2_with fail
        refine (has_any A1 _ c1 la x _ r1 (by omega)).mono ?_; rintro e w7 ⟨rfl, hb7⟩
        have r1 := r1.below hb7
        have r2 := r2.below hb7
        have hbw7 := hbw6.trans (hb7.mono hbw6.size)
        clear hb7 hbw6
        go_wp2_with fail
        refine (has_any A2 _ c2 _ (x + d) _ r2 (by omega)).mono ?_; rintro e w8 ⟨rfl, hb8⟩
        rw [M.out.2.1]
        have r1 := r1.below hb8
        have r2 := r2.below hb8
        have hbw8 := hbw7.trans (hb8.mono hbw7.size)
        clear hb8 hbw7
        go_wp2_with fail
        go_loopw [15] (fun i wr => ∃ (k : Nat), k ≤ la.length ∧ i = .int .i64 k ∧ (Rd wr 2 pairE A1 la.length la ∧ Rd wr 2 pairE A2 la.length (shift d la)) ∧ Below w.heap.size w wr) (fun i _ => la.length - (intOf i).toNat)
        case atStart => exact ⟨0, Nat.zero_le _, rfl, ⟨r1, r2⟩, hbw8⟩
        case round =>
          clear r1 r2 hbw8
          obtain ⟨k, hk, rfl, ⟨r1, r2⟩, hbk⟩ := hrel
          by_cases hlt : k < la.length
          · obtain ⟨ab, ao, p, q, rfl, hab, hl1, e1, e2⟩ := r1.pair hlt
            obtain ⟨bb, bo, p', q', rfl, hbb, hl2, e3, e4⟩ := r2.pair hlt
            obtain ⟨b1, b2, b3⟩ := hbd.out k p q hl1
            rw [shift_at, hl1] at hl2
            cases hl2
            clear hl1
            go_upto_region 17 with fail
            go_quiet (fail)
            go_wp2_with fail
            go_roundw
            case rel => exact ⟨k + 1, by omega, by go_num, ⟨r1.below ⟨rfl, rfl, rfl, Nat.le_refl _, fun _ _ => rfl⟩, r2.below ⟨rfl, rfl, rfl, Nat.le_refl _, fun _ _ => rfl⟩⟩, ⟨hbk.os, hbk.tape, hbk.output, hbk.size, hbk.block⟩⟩
            case measure => simp [intOf]; omega
          · go_wp2_with fail
            refine (next_any A1 _ c1 la x _ r1 (by omega)).mono ?_; rintro e w9 ⟨rfl, hb9⟩
            have r1 := r1.below hb9
            have r2 := r2.below hb9
            have hbw9 := hbk.trans (hb9.mono hbk.size)
            clear hb9 hbk
            go_wp2_with fail
            refine (next_any A2 _ c2 _ (x + d) _ r2 (by omega)).mono ?_; rintro e w10 ⟨rfl, hb10⟩
            have r1 := r1.below hb10
            have r2 := r2.below hb10
            have hbw10 := hbw9.trans (hb10.mono hbw9.size)
            clear hb10 hbw9
            have G := M.out.2.2.2.2
            rcases M.out.2.2.1 with ⟨i1, i2⟩ | ⟨i1, i2, i3⟩
            · have i1 : W.next la x = 4611686018427387904 := i1
              have i2 : W.next (shift d la) (x + d) = 4611686018427387904 := i2
              rw [i1, i2]
              clear i1 i2
              go_wp2_with fail
              refine (gap_any A1 _ c1 la x m _ r1 (by omega) s1 t1).mono ?_; rintro e w11 ⟨rfl, hb11⟩
              have r2 := r2.below hb11
              have hbw11 := hbw10.trans (hb11.mono hbw10.size)
              go_wp2_with fail
              refine (gap_any A2 _ c2 _ (x + d) m _ r2 (by omega) s2 t2).mono ?_; rintro e w12 ⟨rfl, hb12⟩
              rw [M.out.2.2.2.1]
              have hbw12 := hbw11.trans (hb12.mono hbw11.size)
              go_wp2_with fail
              go_returns
              exact ⟨ret_bool (by simp), hbw12⟩
            · rw [i3]
              clear i3
              generalize W.next la x = nx at i1 i2 ⊢
              have j1 : decide (nx = 4611686018427387904) = false := decide_eq_false (by omega)
              have j2 : decide (nx + d = 4611686018427387904) = false := decide_eq_false (by omega)
              have j3 : (nx == 4611686018427387904) = false := beq_eq_false_iff_ne.2 (by omega)
              have j4 : (nx + d == 4611686018427387904) = false := beq_eq_false_iff_ne.2 (by omega)
              go_wp2_with fail
              refine (gap_any A1 _ c1 la x m _ r1 (by omega) s1 t1).mono ?_; rintro e w11 ⟨rfl, hb11⟩
              have r2 := r2.below hb11
              have hbw11 := hbw10.trans (hb11.mono hbw10.size)
              go_wp2_with fail
              refine (gap_any A2 _ c2 _ (x + d) m _ r2 (by omega) s2 t2).mono ?_; rintro e w12 ⟨rfl, hb12⟩
              rw [M.out.2.2.2.1]
              have hbw12 := hbw11.trans (hb12.mono hbw11.size)
              go_wp2_with fail
              go_returns
              exact ⟨ret_bool (by simp), hbw12⟩
      · have hnil := winsM_no hz
        have hnil2 := winsM_no (f := f + d) (v := v) (n := n) (h := h + d) (fun e => hz (he.trans e))
        rw [hnil] at r1 s1 ⊢
        rw [hnil2] at r2 s2 ⊢
        clear hnil hnil2 he V4
        generalize (winsM f v n h).2 = e1 at *
        have hn1 : (e1 != 0) = true := by simp [hz]
        have hn2 : decide (e1 = 0) = false := decide_eq_false hz
        clear hz
        go_wp2_with fail
        go_returns
        exact ⟨rfl, hbw4⟩
    · have hneg : f < 0 ∨ h < 0 := by
        rcases Int.lt_or_le f 0 with h1 | h1
        · exact .inl h1
        · rcases Int.lt_or_le h 0 with h2 | h2
          · exact .inr h2
          · exact absurd (by rw [winsM_shift ⟨h1, hf1⟩ ⟨h2, hh1⟩ hd]) he
      generalize (winsM f v n h).1 = la at *
      generalize (winsM (f + d) v n (h + d)).1 = lb at *
      generalize (winsM f v n h).2 = e1 at *
      generalize (winsM (f + d) v n (h + d)).2 = e2 at *
      have hn1 : (e1 != e2) = true := by simp [he]
      have hn2 : decide (e1 = e2) = false := decide_eq_false he
      clear he
      obtain ⟨k1, k2, k3, k4⟩ := row3 V4
      by_cases hh0 : h < 0
      · go_wp2_with fail
        go_returns
        exact ⟨ret_bool (by first | rfl | simp | (simp; omega)), hbw4⟩
      · have hh1 : decide (h < 0) = false := decide_eq_false hh0
        go_wp2_with fail
        go_returns
        exact ⟨ret_bool (by first | rfl | (simp; done) | (simp; omega)), hbw4⟩
  · go_wp2_with fail
    all_goals
      first
        | (exfalso; omega)
        | (go_returns; exact ⟨rfl, hbw⟩)
end Go.Proofs.Ytjbhdfjbockkfaa
