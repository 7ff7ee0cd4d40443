/-
  Walk: timetablelaw14.ClosureNear answers true (clo/gen12.py).
-/
import Derived.Test.YtonkkibnigdfbaaClNearP
import Derived.Test.YtonkkibnigdfbaaMoreLaw
import Derived.Test.YtonkkibnigdfbaaClLives
import Derived.Test.YtonkkibnigdfbaaClLen
namespace Go.Proofs.Ytonkkibnigdfbaa
open Go.RowKit Go.Shelf B K
set_option linter.unusedVariables false
set_option linter.unusedSimpArgs false
set_option maxHeartbeats 4000000
namespace B
theorem wantedX_undef {o : Oper} {x : Nat → Value} (g : Nat) {b : Bool} (h : o.guard = some (g, b)) (hx : x g = undef) : wantedX o x = false := by unfold wantedX Region.wanted; rw [h]; simp [hx, undef]
end B
theorem setl7' {w : World} {g : Nat} {t : TypeId} {z0 z1 z2 z3 z4 z5 z6 : Value} (h : w.heap[g]? = some (.cells #[z0, z1, z2, z3, z4, z5, z6] t (0, 0))) :
    (w.frozen? ⟨g, 0, none⟩ = false ∧ w.frozen? ⟨g, 1, none⟩ = false ∧ True) ∧ True := by
  exact ⟨⟨by simp [World.frozen?, h], by simp [World.frozen?, h], trivial⟩, trivial⟩
theorem box_sw {w : World} {b : Nat} {x y z0 z1 z2 z3 z4 : Value} {t : TypeId} (h : w.heap[b]? = some (.cells #[x, y, z0, z1, z2, z3, z4] t (0, 0))) :
    ((w.setCell ⟨b, 0, none⟩ y).setCell ⟨b, 1, none⟩ x).heap[b]? = some (.cells #[y, x, z0, z1, z2, z3, z4] t (0, 0)) := by
  have hb := (Array.getElem?_eq_some_iff.1 h).1
  have e : w.heap[b] = .cells #[x, y, z0, z1, z2, z3, z4] t (0, 0) := by rw [Array.getElem?_eq_getElem hb] at h; exact Option.some.inj h
  simp [World.setCell, h, hb, Array.getElem_modify, e]
set_option maxRecDepth 100000 in
theorem cnear_any {N : NetP} {A : Option Addr} {n c : Nat} {B : Option Addr} {m d : Nat} (w : World) (hr : RNet w N A n B m) :
    Calls Try.prog 11 #[.agg #[.int .i64 N.hz, .slice A n c, .slice B m d]] w fun e w' => e = .returned (.bool true) ∧ Below w.heap.size w w' := by
  have hnn : Hid (N.cs.length = n) := hr.nn
  have hmm : Hid (N.ls.length = m) := hr.mm
  obtain ⟨hz, hhz⟩ : ∃ q, N.hz = q := ⟨_, rfl⟩
  rw [hhz]
  have hb1 : Below w.heap.size w (w.alloc (.cells #[.int .i64 hz, .slice A n c, .slice B m d] 25)) := (Below.refl _ w).alloc (Nat.le_refl _) _
  obtain ⟨x0, x1, x2⟩ := rowBx3 w 25 (.int .i64 hz) (.slice A n c) (.slice B m d)
  have hbn1 : w.heap.size < (w.alloc (.cells #[.int .i64 hz, .slice A n c, .slice B m d] 25)).heap.size := by simp
  obtain ⟨w1, hw1⟩ : ∃ q, w.alloc (.cells #[.int .i64 hz, .slice A n c, .slice B m d] 25) = q := ⟨_, rfl⟩
  have hnb := heap_alloc_new w (.cells #[.int .i64 hz, .slice A n c, .slice B m d] 25)
  rw [hw1] at hb1 x0 x1 x2 hbn1 hnb
  have hup : Hid (∀ w2, Below w1.heap.size w1 w2 → Below w.heap.size w w2) := fun w2 h => hb1.trans (h.mono hb1.size)
  obtain ⟨bn, hbn⟩ : ∃ q, w.heap.size = q := ⟨_, rfl⟩
  have hbw0 : Hid (w.heap.size ≤ bn) := Nat.le_of_eq hbn
  rw [hbn] at x0 x1 x2 hbn1 hnb
  have hnbH := Lib.hid hnb
  have hbn1H := Lib.hid hbn1
  have hR := Lib.hid (hr.below hb1)
  have hX : Hid (∀ U, Below w1.heap.size w1 U → U.cell? ⟨bn, 0, none⟩ = some (.int .i64 hz) ∧ U.cell? ⟨bn, 1, none⟩ = some (.slice A n c) ∧ U.cell? ⟨bn, 2, none⟩ = some (.slice B m d)) := fun U hU =>
    ⟨(hU.cell (p := ⟨bn, 0, none⟩) hbn1).trans x0, (hU.cell (p := ⟨bn, 1, none⟩) hbn1).trans x1, (hU.cell (p := ⟨bn, 2, none⟩) hbn1).trans x2⟩
  have hhzH := Lib.hid hhz
  clear hb1 hr x0 x1 x2 hhz hnb
  go_enter Try.func11, Try.ntmps11
  go_wp2_with fail
  refine (clives_any _).mono ?_; rintro e w2 ⟨rfl, hb2⟩
  obtain ⟨y0, y1, y2⟩ := hX.out _ hb2
  have hL := Lib.hid (lightNet_any (c := c) (d := d) (hz := hz) w2 (hR.out.below hb2))
  have hb2 := Lib.hid hb2
  rename_i hb20; clear hb20 hw1 hbn
  go_wp2_with fail
  refine hL.out.mono ?_; rintro e w3 ⟨b, rfl, hbt, hb3⟩
  have hb13 := hb2.out.trans (hb3.mono hb2.out.size)
  clear y0 y1 y2
  obtain ⟨y0, y1, y2⟩ := hX.out _ hb13
  cases b with
  | false =>
    go_wp2_with fail
    go_returns
    exact ⟨rfl, hup.out _ hb13⟩
  | true =>
    have hlt := Lib.hid (hbt rfl)
    have hs := Lib.hid (hlt.out.small (by omega) (by omega) (by omega))
    clear hbt
    have hn40 : n ≤ 1000 := by have := hs.out.cn; have := hnn.out; omega
    have hm40 : m ≤ 1000 := by have := hs.out.ln; have := hmm.out; omega
    have hON := Lib.hid (ownNet_any (c := c) (d := d) hs.out w3 (hR.out.below hb13))
    rw [hhzH.out, hnn.out, hmm.out] at hON
    have hb13h := Lib.hid hb13
    clear hb13 hb3
    go_wp2_with fail
    refine hON.out.mono ?_; rintro e w4 ⟨⟨sCA, sCc⟩, ⟨sLA, sLc⟩, cv, lv0, rfl, hC, hL, hb4⟩
    simp only [slV] at hC hL ⊢
    have hb14 := hb13h.out.trans (hb4.mono hb13h.out.size)
    clear y0 y1 y2 hON
    obtain ⟨y0, y1, y2⟩ := hX.out _ hb14
    have hnb4 := (hb14.block bn hbn1H.out).trans hnbH.out
    obtain ⟨⟨f0, f1, f2⟩, hnew⟩ := setN3 (.int .i64 hz) (.slice sCA n sCc) (.slice sLA m sLc) hnb4
    have hkS : KeepT w4 (((w4.setCell ⟨bn, 0, none⟩ (.int .i64 hz)).setCell ⟨bn, 1, none⟩ (.slice sCA n sCc)).setCell ⟨bn, 2, none⟩ (.slice sLA m sLc)) [38, 36, 70] := KeepT.set3 _ _ _ hnb4 (by decide)
    have hC5 := Lib.hid (hC.keepT (hkS.sub (by decide)))
    have hL5 := Lib.hid (hL.keepT (hkS.sub (by decide)))
    have hbw0' := hbw0.out
    have hB5 := Lib.hid ((((hup.out _ hb14).setCell (p := ⟨bn, 0, none⟩) hbw0' (.int .i64 hz)).setCell (p := ⟨bn, 1, none⟩) hbw0' (.slice sCA n sCc)).setCell (p := ⟨bn, 2, none⟩) hbw0' (.slice sLA m sLc))
    obtain ⟨w5, hw5⟩ : ∃ q, ((w4.setCell ⟨bn, 0, none⟩ (.int .i64 hz)).setCell ⟨bn, 1, none⟩ (.slice sCA n sCc)).setCell ⟨bn, 2, none⟩ (.slice sLA m sLc) = q := ⟨_, rfl⟩
    rw [hw5] at hnew hC5 hL5 hB5
    have hnewH := Lib.hid hnew
    have hb35 : Hid (w3.heap.size ≤ w5.heap.size) := by show _ ≤ _; rw [← hw5]; simpa using hb4.size
    have p2 : w5.cell? ⟨bn, 2, none⟩ = some (.slice sLA m sLc) := by rw [cell_of_row _ _ _ _ _ _ hnew]; rfl
    clear hC hL hb4 hb14 hkS hnb4 hnew
    go_wp2_with fail
    clear hw5 f0 f1 f2 y0 y1 y2 p2
    obtain ⟨B0, hB0⟩ : ∃ q, w3.heap.size = q := ⟨_, rfl⟩
    have hB0le : Hid (w.heap.size ≤ B0) := by show _ ≤ _; rw [← hB0]; exact (hup.out _ hb13h.out).size
    rw [hB0] at hC5 hL5 hb35
    go_loopw [4] (fun iv wr => ∃ (i : Nat) (sA : Option Addr) (sc : Nat) (lv : List LkV), i ≤ m ∧ iv = .int .i64 i ∧ Hid (wr.heap[bn]? = some (.cells #[.int .i64 hz, .slice sCA n sCc, .slice sA (m + i) sc] 25 (0, 0))) ∧ Hid (CsV wr B0 (.slice sCA n sCc) N.cs cv) ∧ Hid (LsV wr B0 (.slice sA (m + i) sc) (twoTo N i).ls lv) ∧ Hid (B0 ≤ wr.heap.size) ∧ Hid (Below w.heap.size w wr)) (fun iv _ => m - (intOf iv).toNat)
    case atStart => exact ⟨0, sLA, sLc, lv0, Nat.zero_le _, rfl, hnewH, hC5, by rw [twoTo_zero]; exact hL5, hb35, hB5⟩
    case round =>
      obtain ⟨i, sA, sc, lv, hi, rfl, hbo, hC, hL, hB0w, hb⟩ := hrel
      have hbol := (Array.getElem?_eq_some_iff.1 hbo.out).1
      have b0 : wr.cell? ⟨bn, 0, none⟩ = some (.int .i64 hz) := by rw [cell_of_row _ _ _ _ _ _ hbo.out]; rfl
      have b1 : wr.cell? ⟨bn, 1, none⟩ = some (.slice sCA n sCc) := by rw [cell_of_row _ _ _ _ _ _ hbo.out]; rfl
      have b2 : wr.cell? ⟨bn, 2, none⟩ = some (.slice sA (m + i) sc) := by rw [cell_of_row _ _ _ _ _ _ hbo.out]; rfl
      by_cases him : i < m
      · have hlen2 : (twoTo N i).ls.length = m + i := by rw [twoTo_len (by rw [hmm.out]; omega), hmm.out]
        obtain ⟨A', c', eA, hq, _, _⟩ := Rd.of_own lkE_len hL.out.len hL.out.row
        rw [hlen2] at hq eA
        cases eA
        obtain ⟨bb, ob, rfl, hbbl, hcell⟩ := hq.cells (by omega)
        have hlvl : lv.length = m + i := by rw [hL.out.len, hlen2]
        have hx : lv[i]? = some (lv[i]'(by omega)) := List.getElem?_eq_getElem _
        obtain ⟨x, hxe⟩ : ∃ x, lv[i]'(by omega) = x := ⟨_, rfl⟩
        rw [hxe] at hx
        have hxo := hL.out.inn x (List.mem_of_getElem? hx)
        have hxl : N.ls[i]? = some x.1 := by
          have h1 : (lv.map Prod.fst)[i]? = some x.1 := by rw [List.getElem?_map, hx]; rfl
          rw [hL.out.fst] at h1
          simp only [twoTo] at h1
          rwa [List.getElem?_append_left (by rw [hmm.out]; exact him)] at h1
        obtain ⟨⟨la, lb, ln, ld, lo, op, cl⟩, ⟨pA, pc⟩, ⟨kA, kc⟩⟩ := x
        have g0 := hcell i _ hx 0 _ rfl
        have g1 := hcell i _ hx 1 _ rfl
        have g2 := hcell i _ hx 2 _ rfl
        have g3 := hcell i _ hx 3 _ rfl
        have g4 := hcell i _ hx 4 _ rfl
        have g5 := hcell i _ hx 5 _ rfl
        have g6 := hcell i _ hx 6 _ rfl
        simp only [slV, Nat.add_zero] at g0 g1 g2 g3 g4 g5 g6
        have hsn := Lib.hid (twoTo_snoc hxl)
        have himI : (i : Int) < ((m + i : Nat) : Int) := by omega
        have himI2 : (i : Int) < (m : Int) := by omega
        have himI3 : (i : Int) < (m : Int) + (i : Int) := by omega
        have hb9 : Below wr.heap.size wr (wr.alloc (.cells #[.int .i64 la, .int .i64 lb, .int .i64 ln, .bool ld, .int .i64 lo, .slice pA op.length pc, .slice kA cl.length kc] 38)) := (Below.refl _ wr).alloc (Nat.le_refl _) _
        have hn9 := heap_alloc_new wr (.cells #[.int .i64 la, .int .i64 lb, .int .i64 ln, .bool ld, .int .i64 lo, .slice pA op.length pc, .slice kA cl.length kc] 38)
        obtain ⟨w9, hw9⟩ : ∃ q, wr.alloc (.cells #[.int .i64 la, .int .i64 lb, .int .i64 ln, .bool ld, .int .i64 lo, .slice pA op.length pc, .slice kA cl.length kc] 38) = q := ⟨_, rfl⟩
        rw [hw9] at hb9 hn9
        obtain ⟨bl, hbl⟩ : ∃ q, wr.heap.size = q := ⟨_, rfl⟩
        have hbllo : Hid (wr.heap.size ≤ bl) := Nat.le_of_eq hbl
        rw [hbl] at hn9
        have hblB : w.heap.size ≤ bl := by have := hb.out.size; have := hbllo.out; omega
        obtain ⟨⟨z0, z1, _⟩, _⟩ := setl7' hn9
        have q0 : w9.cell? ⟨bl, 0, none⟩ = some (.int .i64 la) := by rw [cell_of_row _ _ _ _ _ _ hn9]; rfl
        have q1 : w9.cell? ⟨bl, 1, none⟩ = some (.int .i64 lb) := by rw [cell_of_row _ _ _ _ _ _ hn9]; rfl
        have hn10 := box_sw hn9
        have hb910 : Below wr.heap.size wr ((w9.setCell ⟨bl, 0, none⟩ (.int .i64 lb)).setCell ⟨bl, 1, none⟩ (.int .i64 la)) := (hb9.setCell (p := ⟨bl, 0, none⟩) hbllo.out _).setCell (p := ⟨bl, 1, none⟩) hbllo.out _
        obtain ⟨w10, hw10⟩ : ∃ q, (w9.setCell ⟨bl, 0, none⟩ (.int .i64 lb)).setCell ⟨bl, 1, none⟩ (.int .i64 la) = q := ⟨_, rfl⟩
        rw [hw10] at hn10 hb910
        have hbo10 := (hb910.block bn hbol).trans hbo.out
        have e0 : w10.cell? ⟨bl, 0, none⟩ = some (.int .i64 lb) := by rw [cell_of_row _ _ _ _ _ _ hn10]; rfl
        have e1 : w10.cell? ⟨bl, 1, none⟩ = some (.int .i64 la) := by rw [cell_of_row _ _ _ _ _ _ hn10]; rfl
        have e2 : w10.cell? ⟨bl, 2, none⟩ = some (.int .i64 ln) := by rw [cell_of_row _ _ _ _ _ _ hn10]; rfl
        have e3 : w10.cell? ⟨bl, 3, none⟩ = some (.bool ld) := by rw [cell_of_row _ _ _ _ _ _ hn10]; rfl
        have e4 : w10.cell? ⟨bl, 4, none⟩ = some (.int .i64 lo) := by rw [cell_of_row _ _ _ _ _ _ hn10]; rfl
        have e5 : w10.cell? ⟨bl, 5, none⟩ = some (.slice pA op.length pc) := by rw [cell_of_row _ _ _ _ _ _ hn10]; rfl
        have e6 : w10.cell? ⟨bl, 6, none⟩ = some (.slice kA cl.length kc) := by rw [cell_of_row _ _ _ _ _ _ hn10]; rfl
        have h2 : w10.cell? ⟨bn, 2, none⟩ = some (.slice (some ⟨bb, ob, none⟩) (m + i) sc) := by rw [cell_of_row _ _ _ _ _ _ hbo10]; rfl
        have hL10 := hL.out.up hb910
        have hC10 := hC.out.up hb910
        have hxo10 : OwnR w10 B0 (pA, pc) op ∧ OwnR w10 B0 (kA, kc) cl := ⟨hxo.1.keepT (T := [70]) (.of_below hb910) (by simp), hxo.2.keepT (T := [70]) (.of_below hb910) (by simp)⟩
        obtain ⟨g, cc, w11, hrun, hL11, hb11, hk11⟩ := hL10.push (rvL ⟨la, lb, ln, ld, lo, op, cl⟩, (pA, pc), (kA, kc)) hxo10 (by rw [hlen2]; omega) (Nat.le_trans hB0w.out hb910.size)
        rw [hlen2] at hrun hL11
        simp only [lkE, slV, rvL] at hrun
        have hsn' : (twoTo N i).ls ++ [(rvL ⟨la, lb, ln, ld, lo, op, cl⟩)] = (twoTo N (i + 1)).ls := hsn.out
        simp only at hL11
        rw [hsn'] at hL11
        have hbo11 := hk11 bn _ 25 (by decide) hbo10
        obtain ⟨⟨fz0, fz1, fz2⟩, _⟩ := setN3 (.int .i64 0) (.int .i64 0) (.int .i64 0) hbo11
        have p11 : w11.cell? ⟨bn, 2, none⟩ = some (.slice (some ⟨bb, ob, none⟩) (m + i) sc) := by rw [cell_of_row _ _ _ _ _ _ hbo11]; rfl
        have hkS : KeepT w11 (w11.setCell ⟨bn, 2, none⟩ (.slice (some ⟨g, 0, none⟩) (m + i + 1) cc)) [38, 36, 70] := KeepT.set hbo11 (by decide)
        have hC12 := Lib.hid ((hC10.keepT (hk11.sub (by decide))).keepT (hkS.sub (by decide)))
        have hL12 := Lib.hid (hL11.keepT (hkS.sub (by decide)))
        have hbo12 : Hid ((w11.setCell ⟨bn, 2, none⟩ (.slice (some ⟨g, 0, none⟩) (m + i + 1) cc)).heap[bn]? = some (.cells #[.int .i64 hz, .slice sCA n sCc, .slice (some ⟨g, 0, none⟩) (m + i + 1) cc] 25 (0, 0))) := by
          have hlt' := (Array.getElem?_eq_some_iff.1 hbo11).1
          have e : w11.heap[bn] = .cells #[.int .i64 hz, .slice sCA n sCc, .slice (some ⟨bb, ob, none⟩) (m + i) sc] 25 (0, 0) := by rw [Array.getElem?_eq_getElem hlt'] at hbo11; exact Option.some.inj hbo11
          show _ = _
          simp [World.setCell, hlt', Array.getElem_modify, e]
        have hb12 : Hid (Below w.heap.size w (w11.setCell ⟨bn, 2, none⟩ (.slice (some ⟨g, 0, none⟩) (m + i + 1) cc))) := by
          have h1 : Below w.heap.size w w10 := hb.out.trans (hb910.mono hb.out.size)
          have h2 : Below w.heap.size w10 w11 := hb11.mono (by have := hB0le.out; exact this)
          exact (h1.trans h2).setCell (p := ⟨bn, 2, none⟩) hbw0.out _
        have hB012 : Hid (B0 ≤ (w11.setCell ⟨bn, 2, none⟩ (.slice (some ⟨g, 0, none⟩) (m + i + 1) cc)).heap.size) := by
          show _ ≤ _
          have h1 : w10.heap.size ≤ w11.heap.size := hb11.size
          have h2 : wr.heap.size ≤ w10.heap.size := hb910.size
          have h3 := hB0w.out
          have h4 : (w11.setCell ⟨bn, 2, none⟩ (.slice (some ⟨g, 0, none⟩) (m + i + 1) cc)).heap.size = w11.heap.size := by simp
          omega
        have hmi : m + i + 1 = m + (i + 1) := by omega
        clear hq hcell hlvl hx hxe hxl hxo hb9 hn9 hn10 hb910 hbo10 hL10 hC10 hxo10 hL11 hb11 hk11 hsn' hbo11 hkS hlen2 hblB hbol hbo hC hL
        go_wp2_with (at_builtin; refine wpList_append_run ?a1 (.tmp 41) (.tmp 43) 23 ?a2 ?a3 ?a4 hrun ?_)
        case a1 => rfl
        case a2 => rfl
        try (case a3 => rfl)
        try (case a4 => rfl)
        go_roundw
        case rel => exact ⟨i + 1, some ⟨g, 0, none⟩, cc, _, by omega, by go_num, by rw [← hmi]; exact hbo12, hC12, by rw [← hmi]; exact hL12, hB012, hb12⟩
        case measure => simp [intOf]; omega
      · obtain rfl : i = m := by omega
        have hTe : twoTo N i = twoN N := by rw [← hmm.out]; exact twoTo_all
        have hLT := hL.out
        rw [hTe] at hLT
        have hlenT : (twoN N).ls.length = i + i := by rw [← hTe, twoTo_len (by rw [hmm.out]; exact Nat.le_refl _), hmm.out]
        have hRM : RNet wr (twoN N) sCA n sA (i + i) := by
          obtain ⟨A', c', B', d', eC, eL, h, _⟩ := CsV.rnet (N := twoN N) hC.out (by exact hLT)
          rw [show (twoN N).cs.length = n from hnn.out] at eC h
          rw [hlenT] at eL h
          cases eC; cases eL
          exact h
        have hRMh := Lib.hid hRM
        have hsT := Lib.hid (two_small hlt.out)
        have hzT : Hid ((twoN N).hz = hz) := hhzH.out
        have hnT : Hid ((twoN N).cs.length = n) := hnn.out
        have hMX : Hid (∀ U, Below wr.heap.size wr U → U.cell? ⟨bn, 0, none⟩ = some (.int .i64 hz) ∧ U.cell? ⟨bn, 1, none⟩ = some (.slice sCA n sCc) ∧ U.cell? ⟨bn, 2, none⟩ = some (.slice sA (i + i) sc)) := fun U hU => by
          have h1 := (hU.block bn hbol).trans hbo.out
          exact ⟨by rw [cell_of_row _ _ _ _ _ _ h1]; rfl, by rw [cell_of_row _ _ _ _ _ _ h1]; rfl, by rw [cell_of_row _ _ _ _ _ _ h1]; rfl⟩
        have hK := Lib.hid (r11check_any (c := sCc) (d := sc) hsT.out wr hRM)
        rw [hzT.out] at hK
        obtain ⟨wE, hwE⟩ : ∃ q, q = wr := ⟨_, rfl⟩
        subst hwE
        clear hTe hLT hlenT hRM hC hL hbol hbo
        go_wp2_with fail
        refine hK.out.mono ?_; rintro e w6 ⟨rfl, hb6⟩
        have s6 := Lib.hid hb6
        clear b0 b1 b2 hK hb6
        obtain ⟨b0, b1, b2⟩ := hMX.out _ s6.out
        rcases chkN_cases (twoN N) with hk | hk
        rotate_left
        · rw [hk]
          clear hk
          go_wp2_with fail
          go_returns
          exact ⟨rfl, hb.out.trans (s6.out.mono hb.out.size)⟩
        rw [hk]
        have hN := Lib.hid (chkN_iff.1 hk)
        have hkH := Lib.hid hk
        clear hk
        have hM := cmake_any (c := sCc) (d := sc) hsT.out w6 (hRMh.out.below s6.out)
        unfold RetM at hM
        rw [hzT.out, mkC_len hN.out, hnT.out, hkH.out] at hM
        have hM := Lib.hid hM
        rename_i hMX2
        clear hMX2
        go_wp2_with fail
        refine hM.out.mono ?_; rintro e w7 ⟨A7, c7, rfl, hC7, _, _, hb7⟩
        have s7 := Lib.hid (s6.out.trans (hb7.mono s6.out.size))
        have hC7h := Lib.hid hC7
        clear b0 b1 b2 hM hb7 hC7
        obtain ⟨b0, b1, b2⟩ := hMX.out _ s7.out
        have d3 : ((n : Int) != (n : Int)) = false := by simp
        have hE7 : Hid (Below w.heap.size w w7) := hb.out.trans (s7.out.mono hb.out.size)
        have hwf1 := Lib.hid (mkC_wf hN.out (by have := hnT.out; omega))
        have hl1 : Hid (∀ (i k : Nat) U, i < n → k < n → Below w7.heap.size w7 U → Calls Try.prog 42 #[.slice A7 n c7, .int .i64 (i : Int), .int .i64 (k : Int)] U fun e w' => e = .returned (.int .i64 (farC (twoN N) i k)) ∧ Below U.heap.size U w') := fun i k U hi hk hU => by
          have := cLen_any c7 (i : Int) (k : Int) U (hC7h.out.below hU) hwf1.out (wf64 (by omega) (by omega)) (wf64 (by omega) (by omega))
          rwa [lenC_mk hN.out (by rw [hnT.out]; exact hi) (by rw [hnT.out]; exact hk)] at this
        have hsym : Hid (∀ a b : Nat, a < n → b < n → farC (twoN N) a b = farC (twoN N) b a) := fun a b ha hb => far_sym hN.out (by rw [hnn.out]; exact ha) (by rw [hnn.out]; exact hb)
        have hself : Hid (∀ a : Nat, a < n → farC (twoN N) a a = 0) := fun a ha => far_self hN.out (by rw [hnT.out]; exact ha)
        have hrng : Hid (∀ a b : Nat, a < n → b < n → farC (twoN N) a b = 4611686018427387904 ∨ (0 ≤ farC (twoN N) a b ∧ farC (twoN N) a b ≤ 1099511627776)) := fun a b ha hb => farC_rng hN.out (by rw [hnT.out]; exact ha) (by rw [hnT.out]; exact hb)
        have htri : Hid (∀ a b k : Nat, a < n → b < n → k < n → farC (twoN N) b k ≠ 4611686018427387904 → farC (twoN N) a b + farC (twoN N) b k ≤ 1099511627776 → farC (twoN N) a k ≤ farC (twoN N) a b + farC (twoN N) b k) := fun a b k ha hb hk h1 h2 => far_tri hN.out (by rw [hnT.out]; exact ha) (by rw [hnT.out]; exact hb) (by rw [hnT.out]; exact hk) h1 h2
        clear hMX s6 hb
        go_wp2_with fail
        clear b0 b1 b2
        go_loopw [8] (fun av wr => ∃ (a : Nat), a ≤ n ∧ av = .int .i64 a ∧ Hid (Below w7.heap.size w7 wr)) (fun av _ => n - (intOf av).toNat)
        case atStart => exact ⟨0, Nat.zero_le _, rfl, Below.refl _ _⟩
        case round =>
          obtain ⟨a, ha, rfl, hb⟩ := hrel
          by_cases han : a < n
          rotate_left
          · obtain rfl : a = n := by omega
            go_wp2_with fail
            go_returns
            exact ⟨rfl, hE7.out.trans (hb.out.mono hE7.out.size)⟩
          have hanI : (a : Int) < (n : Int) := by omega
          obtain ⟨bR, oR, rA, rn, rc, rl, rfl, hbR, hrow, fR, rr, _⟩ := (hC7h.out.below hb.out).row han
          rw [mkC_row hN.out (by rw [hnT.out]; exact han), hnT.out] at hrow
          have hrl : rl = nearS (clD (twoN N) a) n := (Option.some.inj hrow).symm
          have hok := nearS_ok hN.out (a := a) (by rw [hnT.out]; exact han)
          rw [hnT.out] at hok
          have hstep : Hid (∀ (i : Nat) (x y z u : Int), 0 < i → rl[i - 1]? = some (x, y) → rl[i]? = some (z, u) → x ≤ z ∧ (x = z → y < u)) := fun i x y z u hi h1 h2 => by rw [hrl] at h1 h2; exact near_step h1 h2 hi
          have hrlr : Hid (∀ (i : Nat) (z u : Int), rl[i]? = some (z, u) → 0 ≤ z ∧ z ≤ 1099511627776) := fun i z u h => by rw [hrl] at h; exact hok.rng _ (List.mem_of_getElem? h)
          have hrn : rn ≤ 1000000 := by
            have h1 := rr.len
            have h2 := nearS_len (clD (twoN N) a) n
            rw [hrl] at h1; omega
          have rr := Lib.hid rr
          obtain ⟨wa, hwa⟩ : ∃ q, q = wr := ⟨_, rfl⟩
          subst hwa
          rename_i rrX
          clear rrX hrow hrl hok
          go_wp2_with fail
          go_loopw [9] (fun iv wr => ∃ (j : Nat), j ≤ rn ∧ iv = .int .i64 j ∧ Hid (Below wa.heap.size wa wr)) (fun iv _ => rn - (intOf iv).toNat)
          case atStart => exact ⟨0, Nat.zero_le _, rfl, Below.refl _ _⟩
          case round =>
            obtain ⟨j, hj, rfl, hbj⟩ := hrel
            have fw := (hbj.out.cell (p := ⟨bR, _, none⟩) hbR).trans fR
            have zbR := Nat.lt_of_lt_of_le hbR hbj.out.size
            by_cases hjn : j < rn
            · obtain ⟨bE, oE, z, u, rfl, hbE, hzu, g0, g1⟩ := (rr.out.below hbj.out).pair hjn
              obtain ⟨hz0, hz1⟩ := hrlr.out j z u hzu
              have hjI : (j : Int) < (rn : Int) := by omega
              have e1 : decide (z < 0) = false := decide_eq_false (by omega)
              have e2 : decide (1099511627776 < z) = false := decide_eq_false (by omega)
              by_cases hj0 : j = 0
              · have e3 : decide ((0 : Int) < (j : Int)) = false := decide_eq_false (by omega)
                have e3n : decide (0 < j) = false := decide_eq_false (by omega)
                clear hzu hz0 hz1 hj0
                try clear hr
                try clear hnn
                try clear hmm
                try clear hhzH
                try clear hup
                try clear hbw0
                try clear hnbH
                try clear hbn1H
                try clear hR
                try clear hX
                try clear hb2
                try clear hL
                try clear hlt
                try clear hs
                try clear hn40
                try clear hm40
                try clear hb13h
                try clear hnewH
                try clear hC5
                try clear hL5
                try clear hB5
                try clear hB0
                try clear hb35
                try clear hB0le
                try clear hRMh
                try clear hsT
                try clear hzT
                try clear hnT
                try clear hMX
                try clear s6
                try clear hN
                try clear hkH
                try clear s7
                try clear hC7h
                try clear hE7
                try clear hwf1
                try clear hl1
                try clear hsym
                try clear hself
                try clear hrng
                try clear htri
                try clear hstep
                try clear hrlr
                try clear rr
                try clear hrn
                try clear hb
                try clear d3
                try clear hi
                try clear him
                try clear ha
                try clear hj0
                try clear hm
                try clear hs1
                try clear hs2
                try clear hb3
                try clear hB0w
                go_wp2_with fail
                go_upto_region 24 with fail
                simp only [List.append_eq, List.cons_append, List.nil_append]
                refine wp_region_ghost (fun fl x w => Below wr.heap.size wr w) (by kernel_rfl) (by kernel_rfl) (by kernel_rfl) (by kernel_rfl) (by kernel_rfl) ?_ ?_
                · intro x0
                  exact ⟨rfl, rfl, rfl, Nat.le_refl _, fun _ _ => rfl⟩
                intro base O hbase hO
                have kx1 : Hid (∀ xs, evX base O xs (.tmp 6) = .slice (some ⟨bR, oR, none⟩) n c7 ∧ evX base O xs (.tmp 8) = .int .i64 (a : Int) ∧ evX base O xs (.tmp 9) = .int .i64 (j : Int) ∧ evX base O xs (.tmp 79) = xs 0 ∧ evX base O xs (.tmp 80) = xs 1 ∧ evX base O xs (.tmp 81) = xs 2 ∧ evX base O xs (.tmp 82) = xs 3 ∧ evX base O xs (.tmp 83) = xs 4 ∧ evX base O xs (.tmp 84) = xs 5 ∧ evX base O xs (.tmp 85) = xs 6 ∧ evX base O xs (.tmp 86) = xs 7 ∧ evX base O xs (.tmp 87) = xs 8 ∧ evX base O xs (.tmp 88) = xs 9 ∧ evX base O xs (.tmp 89) = xs 10 ∧ evX base O xs (.tmp 90) = xs 11 ∧ evX base O xs (.tmp 91) = xs 12 ∧ evX base O xs (.tmp 92) = xs 13 ∧ evX base O xs (.tmp 93) = xs 14 ∧ evX base O xs (.tmp 94) = xs 15 ∧ evX base O xs (.tmp 95) = xs 16 ∧ evX base O xs (.tmp 96) = xs 17 ∧ evX base O xs (.tmp 97) = xs 18 ∧ evX base O xs (.tmp 98) = xs 19 ∧ evX base O xs (.tmp 99) = xs 20 ∧ evX base O xs (.tmp 100) = xs 21 ∧ evX base O xs (.tmp 101) = xs 22 ∧ evX base O xs (.tmp 102) = xs 23 ∧ evX base O xs (.tmp 103) = xs 24 ∧ evX base O xs (.tmp 104) = xs 25 ∧ evX base O xs (.tmp 105) = xs 26 ∧ evX base O xs (.tmp 106) = xs 27 ∧ evX base O xs (.tmp 107) = xs 28 ∧ evX base O xs (.tmp 108) = xs 29 ∧ evX base O xs (.tmp 109) = xs 30 ∧ evX base O xs (.tmp 110) = xs 31 ∧ evX base O xs (.tmp 111) = xs 32 ∧ evX base O xs (.tmp 112) = xs 33 ∧ evX base O xs (.tmp 113) = xs 34 ∧ evX base O xs (.tmp 114) = xs 35 ∧ evX base O xs (.tmp 115) = xs 36 ∧ evX base O xs (.tmp 116) = xs 37 ∧ evX base O xs (.tmp 117) = xs 38 ∧ evX base O xs (.tmp 118) = xs 39 ∧ evX base O xs (.tmp 119) = xs 40 ∧ evX base O xs (.tmp 120) = xs 41 ∧ evX base O xs (.tmp 121) = xs 42 ∧ evX base O xs (.tmp 122) = xs 43 ∧ evX base O xs (.tmp 123) = xs 44 ∧ evX base O xs (.tmp 124) = xs 45 ∧ evX base O xs (.tmp 125) = xs 46 ∧ evX base O xs (.tmp 126) = xs 47 ∧ evX base O xs (.tmp 127) = xs 48 ∧ evX base O xs (.tmp 128) = xs 49 ∧ evX base O xs (.tmp 129) = xs 50 ∧ evX base O xs (.tmp 130) = xs 51 ∧ evX base O xs (.tmp 131) = xs 52 ∧ evX base O xs (.tmp 132) = xs 53 ∧ evX base O xs (.tmp 133) = xs 54 ∧ evX base O xs (.tmp 134) = xs 55 ∧ evX base O xs (.tmp 135) = xs 56 ∧ evX base O xs (.tmp 136) = xs 57 ∧ evX base O xs (.tmp 137) = xs 58 ∧ evX base O xs (.tmp 138) = xs 59 ∧ evX base O xs (.tmp 139) = xs 60 ∧ evX base O xs (.tmp 140) = xs 61 ∧ evX base O xs (.tmp 141) = xs 62 ∧ evX base O xs (.tmp 142) = xs 63 ∧ evX base O xs (.tmp 143) = xs 64 ∧ evX base O xs (.tmp 144) = xs 65 ∧ evX base O xs (.tmp 145) = xs 66 ∧ evX base O xs (.tmp 146) = xs 67 ∧ evX base O xs (.tmp 147) = xs 68 ∧ evX base O xs (.tmp 148) = xs 69 ∧ evX base O xs (.tmp 149) = xs 70 ∧ evX base O xs (.tmp 150) = xs 71 ∧ evX base O xs (.tmp 151) = xs 72 ∧ evX base O xs (.tmp 152) = xs 73 ∧ evX base O xs (.tmp 153) = xs 74 ∧ evX base O xs (.tmp 154) = xs 75 ∧ evX base O xs (.tmp 155) = xs 76 ∧ evX base O xs (.tmp 156) = xs 77 ∧ evX base O xs (.tmp 157) = xs 78 ∧ evX base O xs (.tmp 158) = xs 79 ∧ evX base O xs (.tmp 159) = xs 80 ∧ evX base O xs (.tmp 160) = xs 81 ∧ evX base O xs (.tmp 161) = xs 82) := fun xs => by rw [hbase, hO]; exact ⟨rfl, rfl, rfl, rfl, rfl, rfl, rfl, rfl, rfl, rfl, rfl, rfl, rfl, rfl, rfl, rfl, rfl, rfl, rfl, rfl, rfl, rfl, rfl, rfl, rfl, rfl, rfl, rfl, rfl, rfl, rfl, rfl, rfl, rfl, rfl, rfl, rfl, rfl, rfl, rfl, rfl, rfl, rfl, rfl, rfl, rfl, rfl, rfl, rfl, rfl, rfl, rfl, rfl, rfl, rfl, rfl, rfl, rfl, rfl, rfl, rfl, rfl, rfl, rfl, rfl, rfl, rfl, rfl, rfl, rfl, rfl, rfl, rfl, rfl, rfl, rfl, rfl, rfl, rfl, rfl, rfl, rfl, rfl, rfl, rfl, rfl⟩
                clear hbase hO
                apply gh_det (n := 0)
                · intro fl xs w ev hG hD hl hdone hev K hK
                  have e9 := (hev (.tmp 9)).trans ((kx1.out xs).2.2.1)
                  rw [if_pos (wantedX_none rfl)]
                  have ef : ∀ f, ev (.func f) = .func (.func f) #[] #[] := fun f => (hev _).trans rfl
                  clear hev hD
                  go_simp
                  exact hK _ _ rfl hG
                apply gh_det (n := 1)
                · intro fl xs w ev hG hD hl hdone hev K hK
                  have e79 := (hev (.tmp 79)).trans ((kx1.out xs).2.2.2.1)
                  have d0 := hD.at_ 0 rfl rfl
                  replace e79 := e79.trans d0
                  rw [if_pos (wantedX_none rfl)]
                  have ef : ∀ f, ev (.func f) = .func (.func f) #[] #[] := fun f => (hev _).trans rfl
                  have ec : ∀ v, ev (.const v) = v := fun v => (hev _).trans rfl
                  clear hev hD
                  go_simp
                  exact hK _ _ rfl hG
                apply gh_det (n := 2)
                · intro fl xs w ev hG hD hl hdone hev K hK
                  have e80 := (hev (.tmp 80)).trans ((kx1.out xs).2.2.2.2.1)
                  have d1 := hD.at_ 1 rfl rfl
                  replace e80 := e80.trans d1
                  rw [if_pos (wantedX_none rfl)]
                  have ef : ∀ f, ev (.func f) = .func (.func f) #[] #[] := fun f => (hev _).trans rfl
                  clear hev hD
                  go_simp
                  exact hK _ _ rfl hG
                apply gh_det (n := 3)
                · intro fl xs w ev hG hD hl hdone hev K hK
                  have e6 := (hev (.tmp 6)).trans ((kx1.out xs).1)
                  have dg := hD.at_ 2 rfl rfl
                  rw [if_neg (Bool.eq_false_iff.1 (wantedX_no 2 false rfl dg))]
                  exact hK _ _ rfl hG
                apply gh_det (n := 4)
                · intro fl xs w ev hG hD hl hdone hev K hK
                  have e8 := (hev (.tmp 8)).trans ((kx1.out xs).2.1)
                  have dg := hD.at_ 2 rfl rfl
                  rw [if_neg (Bool.eq_false_iff.1 (wantedX_no 2 false rfl dg))]
                  exact hK _ _ rfl hG
                apply gh_det (n := 5)
                · intro fl xs w ev hG hD hl hdone hev K hK
                  have e82 := (hev (.tmp 82)).trans ((kx1.out xs).2.2.2.2.2.2.1)
                  have d3 := hD.at_ 3 rfl rfl
                  replace e82 := e82.trans d3
                  have e83 := (hev (.tmp 83)).trans ((kx1.out xs).2.2.2.2.2.2.2.1)
                  have d4 := hD.at_ 4 rfl rfl
                  replace e83 := e83.trans d4
                  have dg := hD.at_ 2 rfl rfl
                  rw [if_neg (Bool.eq_false_iff.1 (wantedX_no 2 false rfl dg))]
                  exact hK _ _ rfl hG
                apply gh_det (n := 6)
                · intro fl xs w ev hG hD hl hdone hev K hK
                  have e84 := (hev (.tmp 84)).trans ((kx1.out xs).2.2.2.2.2.2.2.2.1)
                  have d5 := hD.at_ 5 rfl rfl
                  replace e84 := e84.trans d5
                  have dg := hD.at_ 2 rfl rfl
                  rw [if_neg (Bool.eq_false_iff.1 (wantedX_no 2 false rfl dg))]
                  exact hK _ _ rfl hG
                apply gh_det (n := 7)
                · intro fl xs w ev hG hD hl hdone hev K hK
                  have e9 := (hev (.tmp 9)).trans ((kx1.out xs).2.2.1)
                  have dg := hD.at_ 2 rfl rfl
                  rw [if_neg (Bool.eq_false_iff.1 (wantedX_no 2 false rfl dg))]
                  exact hK _ _ rfl hG
                apply gh_det (n := 8)
                · intro fl xs w ev hG hD hl hdone hev K hK
                  have e86 := (hev (.tmp 86)).trans ((kx1.out xs).2.2.2.2.2.2.2.2.2.2.1)
                  have d7 := hD.at_ 7 rfl rfl
                  replace e86 := e86.trans d7
                  have dg := hD.at_ 2 rfl rfl
                  rw [if_neg (Bool.eq_false_iff.1 (wantedX_no 2 false rfl dg))]
                  exact hK _ _ rfl hG
                apply gh_det (n := 9)
                · intro fl xs w ev hG hD hl hdone hev K hK
                  have e85 := (hev (.tmp 85)).trans ((kx1.out xs).2.2.2.2.2.2.2.2.2.1)
                  have d6 := hD.at_ 6 rfl rfl
                  replace e85 := e85.trans d6
                  have e87 := (hev (.tmp 87)).trans ((kx1.out xs).2.2.2.2.2.2.2.2.2.2.2.1)
                  have d8 := hD.at_ 8 rfl rfl
                  replace e87 := e87.trans d8
                  have dg := hD.at_ 2 rfl rfl
                  rw [if_neg (Bool.eq_false_iff.1 (wantedX_no 2 false rfl dg))]
                  exact hK _ _ rfl hG
                apply gh_det (n := 10)
                · intro fl xs w ev hG hD hl hdone hev K hK
                  have e88 := (hev (.tmp 88)).trans ((kx1.out xs).2.2.2.2.2.2.2.2.2.2.2.2.1)
                  have d9 := hD.at_ 9 rfl rfl
                  replace e88 := e88.trans d9
                  have dg := hD.at_ 2 rfl rfl
                  rw [if_neg (Bool.eq_false_iff.1 (wantedX_no 2 false rfl dg))]
                  exact hK _ _ rfl hG
                apply gh_det (n := 11)
                · intro fl xs w ev hG hD hl hdone hev K hK
                  have e89 := (hev (.tmp 89)).trans ((kx1.out xs).2.2.2.2.2.2.2.2.2.2.2.2.2.1)
                  have d10 := hD.at_ 10 rfl rfl
                  replace e89 := e89.trans d10
                  have dg := hD.at_ 2 rfl rfl
                  rw [if_neg (Bool.eq_false_iff.1 (wantedX_no 2 false rfl dg))]
                  exact hK _ _ rfl hG
                apply gh_det (n := 12)
                · intro fl xs w ev hG hD hl hdone hev K hK
                  have e6 := (hev (.tmp 6)).trans ((kx1.out xs).1)
                  have dg := hD.at_ 2 rfl rfl
                  rw [if_neg (Bool.eq_false_iff.1 (wantedX_no 2 false rfl dg))]
                  exact hK _ _ rfl hG
                apply gh_det (n := 13)
                · intro fl xs w ev hG hD hl hdone hev K hK
                  have e8 := (hev (.tmp 8)).trans ((kx1.out xs).2.1)
                  have dg := hD.at_ 2 rfl rfl
                  rw [if_neg (Bool.eq_false_iff.1 (wantedX_no 2 false rfl dg))]
                  exact hK _ _ rfl hG
                apply gh_det (n := 14)
                · intro fl xs w ev hG hD hl hdone hev K hK
                  have e91 := (hev (.tmp 91)).trans ((kx1.out xs).2.2.2.2.2.2.2.2.2.2.2.2.2.2.2.1)
                  have d12 := hD.at_ 12 rfl rfl
                  replace e91 := e91.trans d12
                  have e92 := (hev (.tmp 92)).trans ((kx1.out xs).2.2.2.2.2.2.2.2.2.2.2.2.2.2.2.2.1)
                  have d13 := hD.at_ 13 rfl rfl
                  replace e92 := e92.trans d13
                  have dg := hD.at_ 2 rfl rfl
                  rw [if_neg (Bool.eq_false_iff.1 (wantedX_no 2 false rfl dg))]
                  exact hK _ _ rfl hG
                apply gh_det (n := 15)
                · intro fl xs w ev hG hD hl hdone hev K hK
                  have e93 := (hev (.tmp 93)).trans ((kx1.out xs).2.2.2.2.2.2.2.2.2.2.2.2.2.2.2.2.2.1)
                  have d14 := hD.at_ 14 rfl rfl
                  replace e93 := e93.trans d14
                  have dg := hD.at_ 2 rfl rfl
                  rw [if_neg (Bool.eq_false_iff.1 (wantedX_no 2 false rfl dg))]
                  exact hK _ _ rfl hG
                apply gh_det (n := 16)
                · intro fl xs w ev hG hD hl hdone hev K hK
                  have e9 := (hev (.tmp 9)).trans ((kx1.out xs).2.2.1)
                  have dg := hD.at_ 2 rfl rfl
                  rw [if_neg (Bool.eq_false_iff.1 (wantedX_no 2 false rfl dg))]
                  exact hK _ _ rfl hG
                apply gh_det (n := 17)
                · intro fl xs w ev hG hD hl hdone hev K hK
                  have e94 := (hev (.tmp 94)).trans ((kx1.out xs).2.2.2.2.2.2.2.2.2.2.2.2.2.2.2.2.2.2.1)
                  have d15 := hD.at_ 15 rfl rfl
                  replace e94 := e94.trans d15
                  have e95 := (hev (.tmp 95)).trans ((kx1.out xs).2.2.2.2.2.2.2.2.2.2.2.2.2.2.2.2.2.2.2.1)
                  have d16 := hD.at_ 16 rfl rfl
                  replace e95 := e95.trans d16
                  have dg := hD.at_ 2 rfl rfl
                  rw [if_neg (Bool.eq_false_iff.1 (wantedX_no 2 false rfl dg))]
                  exact hK _ _ rfl hG
                apply gh_det (n := 18)
                · intro fl xs w ev hG hD hl hdone hev K hK
                  have e96 := (hev (.tmp 96)).trans ((kx1.out xs).2.2.2.2.2.2.2.2.2.2.2.2.2.2.2.2.2.2.2.2.1)
                  have d17 := hD.at_ 17 rfl rfl
                  replace e96 := e96.trans d17
                  have dg := hD.at_ 2 rfl rfl
                  rw [if_neg (Bool.eq_false_iff.1 (wantedX_no 2 false rfl dg))]
                  exact hK _ _ rfl hG
                apply gh_det (n := 19)
                · intro fl xs w ev hG hD hl hdone hev K hK
                  have e97 := (hev (.tmp 97)).trans ((kx1.out xs).2.2.2.2.2.2.2.2.2.2.2.2.2.2.2.2.2.2.2.2.2.1)
                  have d18 := hD.at_ 18 rfl rfl
                  replace e97 := e97.trans d18
                  have dg := hD.at_ 2 rfl rfl
                  rw [if_neg (Bool.eq_false_iff.1 (wantedX_no 2 false rfl dg))]
                  exact hK _ _ rfl hG
                apply gh_det (n := 20)
                · intro fl xs w ev hG hD hl hdone hev K hK
                  have e90 := (hev (.tmp 90)).trans ((kx1.out xs).2.2.2.2.2.2.2.2.2.2.2.2.2.2.1)
                  have d11 := hD.at_ 11 rfl rfl
                  replace e90 := e90.trans d11
                  have e98 := (hev (.tmp 98)).trans ((kx1.out xs).2.2.2.2.2.2.2.2.2.2.2.2.2.2.2.2.2.2.2.2.2.2.1)
                  have d19 := hD.at_ 19 rfl rfl
                  replace e98 := e98.trans d19
                  have dg := hD.at_ 2 rfl rfl
                  rw [if_neg (Bool.eq_false_iff.1 (wantedX_no 2 false rfl dg))]
                  exact hK _ _ rfl hG
                apply gh_det (n := 21)
                · intro fl xs w ev hG hD hl hdone hev K hK
                  have e99 := (hev (.tmp 99)).trans ((kx1.out xs).2.2.2.2.2.2.2.2.2.2.2.2.2.2.2.2.2.2.2.2.2.2.2.1)
                  have d20 := hD.at_ 20 rfl rfl
                  replace e99 := e99.trans d20
                  have dg := hD.at_ 2 rfl rfl
                  rw [if_neg (Bool.eq_false_iff.1 (wantedX_no 2 false rfl dg))]
                  exact hK _ _ rfl hG
                apply gh_det (n := 22)
                · intro fl xs w ev hG hD hl hdone hev K hK
                  have e6 := (hev (.tmp 6)).trans ((kx1.out xs).1)
                  have dg := hD.at_ 21 rfl rfl
                  rw [if_neg (Bool.eq_false_iff.1 (wantedX_undef 21 rfl dg))]
                  exact hK _ _ rfl hG
                apply gh_det (n := 23)
                · intro fl xs w ev hG hD hl hdone hev K hK
                  have e8 := (hev (.tmp 8)).trans ((kx1.out xs).2.1)
                  have dg := hD.at_ 21 rfl rfl
                  rw [if_neg (Bool.eq_false_iff.1 (wantedX_undef 21 rfl dg))]
                  exact hK _ _ rfl hG
                apply gh_det (n := 24)
                · intro fl xs w ev hG hD hl hdone hev K hK
                  have e101 := (hev (.tmp 101)).trans ((kx1.out xs).2.2.2.2.2.2.2.2.2.2.2.2.2.2.2.2.2.2.2.2.2.2.2.2.2.1)
                  have d22 := hD.at_ 22 rfl rfl
                  replace e101 := e101.trans d22
                  have e102 := (hev (.tmp 102)).trans ((kx1.out xs).2.2.2.2.2.2.2.2.2.2.2.2.2.2.2.2.2.2.2.2.2.2.2.2.2.2.1)
                  have d23 := hD.at_ 23 rfl rfl
                  replace e102 := e102.trans d23
                  have dg := hD.at_ 21 rfl rfl
                  rw [if_neg (Bool.eq_false_iff.1 (wantedX_undef 21 rfl dg))]
                  exact hK _ _ rfl hG
                apply gh_det (n := 25)
                · intro fl xs w ev hG hD hl hdone hev K hK
                  have e103 := (hev (.tmp 103)).trans ((kx1.out xs).2.2.2.2.2.2.2.2.2.2.2.2.2.2.2.2.2.2.2.2.2.2.2.2.2.2.2.1)
                  have d24 := hD.at_ 24 rfl rfl
                  replace e103 := e103.trans d24
                  have dg := hD.at_ 21 rfl rfl
                  rw [if_neg (Bool.eq_false_iff.1 (wantedX_undef 21 rfl dg))]
                  exact hK _ _ rfl hG
                apply gh_det (n := 26)
                · intro fl xs w ev hG hD hl hdone hev K hK
                  have e9 := (hev (.tmp 9)).trans ((kx1.out xs).2.2.1)
                  have dg := hD.at_ 21 rfl rfl
                  rw [if_neg (Bool.eq_false_iff.1 (wantedX_undef 21 rfl dg))]
                  exact hK _ _ rfl hG
                apply gh_det (n := 27)
                · intro fl xs w ev hG hD hl hdone hev K hK
                  have e105 := (hev (.tmp 105)).trans ((kx1.out xs).2.2.2.2.2.2.2.2.2.2.2.2.2.2.2.2.2.2.2.2.2.2.2.2.2.2.2.2.2.1)
                  have d26 := hD.at_ 26 rfl rfl
                  replace e105 := e105.trans d26
                  have dg := hD.at_ 21 rfl rfl
                  rw [if_neg (Bool.eq_false_iff.1 (wantedX_undef 21 rfl dg))]
                  exact hK _ _ rfl hG
                apply gh_det (n := 28)
                · intro fl xs w ev hG hD hl hdone hev K hK
                  have e104 := (hev (.tmp 104)).trans ((kx1.out xs).2.2.2.2.2.2.2.2.2.2.2.2.2.2.2.2.2.2.2.2.2.2.2.2.2.2.2.2.1)
                  have d25 := hD.at_ 25 rfl rfl
                  replace e104 := e104.trans d25
                  have e106 := (hev (.tmp 106)).trans ((kx1.out xs).2.2.2.2.2.2.2.2.2.2.2.2.2.2.2.2.2.2.2.2.2.2.2.2.2.2.2.2.2.2.1)
                  have d27 := hD.at_ 27 rfl rfl
                  replace e106 := e106.trans d27
                  have dg := hD.at_ 21 rfl rfl
                  rw [if_neg (Bool.eq_false_iff.1 (wantedX_undef 21 rfl dg))]
                  exact hK _ _ rfl hG
                apply gh_det (n := 29)
                · intro fl xs w ev hG hD hl hdone hev K hK
                  have e107 := (hev (.tmp 107)).trans ((kx1.out xs).2.2.2.2.2.2.2.2.2.2.2.2.2.2.2.2.2.2.2.2.2.2.2.2.2.2.2.2.2.2.2.1)
                  have d28 := hD.at_ 28 rfl rfl
                  replace e107 := e107.trans d28
                  have dg := hD.at_ 21 rfl rfl
                  rw [if_neg (Bool.eq_false_iff.1 (wantedX_undef 21 rfl dg))]
                  exact hK _ _ rfl hG
                apply gh_det (n := 30)
                · intro fl xs w ev hG hD hl hdone hev K hK
                  have e108 := (hev (.tmp 108)).trans ((kx1.out xs).2.2.2.2.2.2.2.2.2.2.2.2.2.2.2.2.2.2.2.2.2.2.2.2.2.2.2.2.2.2.2.2.1)
                  have d29 := hD.at_ 29 rfl rfl
                  replace e108 := e108.trans d29
                  have dg := hD.at_ 21 rfl rfl
                  rw [if_neg (Bool.eq_false_iff.1 (wantedX_undef 21 rfl dg))]
                  exact hK _ _ rfl hG
                apply gh_det (n := 31)
                · intro fl xs w ev hG hD hl hdone hev K hK
                  have e6 := (hev (.tmp 6)).trans ((kx1.out xs).1)
                  have dg := hD.at_ 21 rfl rfl
                  rw [if_neg (Bool.eq_false_iff.1 (wantedX_undef 21 rfl dg))]
                  exact hK _ _ rfl hG
                apply gh_det (n := 32)
                · intro fl xs w ev hG hD hl hdone hev K hK
                  have e8 := (hev (.tmp 8)).trans ((kx1.out xs).2.1)
                  have dg := hD.at_ 21 rfl rfl
                  rw [if_neg (Bool.eq_false_iff.1 (wantedX_undef 21 rfl dg))]
                  exact hK _ _ rfl hG
                apply gh_det (n := 33)
                · intro fl xs w ev hG hD hl hdone hev K hK
                  have e110 := (hev (.tmp 110)).trans ((kx1.out xs).2.2.2.2.2.2.2.2.2.2.2.2.2.2.2.2.2.2.2.2.2.2.2.2.2.2.2.2.2.2.2.2.2.2.1)
                  have d31 := hD.at_ 31 rfl rfl
                  replace e110 := e110.trans d31
                  have e111 := (hev (.tmp 111)).trans ((kx1.out xs).2.2.2.2.2.2.2.2.2.2.2.2.2.2.2.2.2.2.2.2.2.2.2.2.2.2.2.2.2.2.2.2.2.2.2.1)
                  have d32 := hD.at_ 32 rfl rfl
                  replace e111 := e111.trans d32
                  have dg := hD.at_ 21 rfl rfl
                  rw [if_neg (Bool.eq_false_iff.1 (wantedX_undef 21 rfl dg))]
                  exact hK _ _ rfl hG
                apply gh_det (n := 34)
                · intro fl xs w ev hG hD hl hdone hev K hK
                  have e112 := (hev (.tmp 112)).trans ((kx1.out xs).2.2.2.2.2.2.2.2.2.2.2.2.2.2.2.2.2.2.2.2.2.2.2.2.2.2.2.2.2.2.2.2.2.2.2.2.1)
                  have d33 := hD.at_ 33 rfl rfl
                  replace e112 := e112.trans d33
                  have dg := hD.at_ 21 rfl rfl
                  rw [if_neg (Bool.eq_false_iff.1 (wantedX_undef 21 rfl dg))]
                  exact hK _ _ rfl hG
                apply gh_det (n := 35)
                · intro fl xs w ev hG hD hl hdone hev K hK
                  have e9 := (hev (.tmp 9)).trans ((kx1.out xs).2.2.1)
                  have dg := hD.at_ 21 rfl rfl
                  rw [if_neg (Bool.eq_false_iff.1 (wantedX_undef 21 rfl dg))]
                  exact hK _ _ rfl hG
                apply gh_det (n := 36)
                · intro fl xs w ev hG hD hl hdone hev K hK
                  have e113 := (hev (.tmp 113)).trans ((kx1.out xs).2.2.2.2.2.2.2.2.2.2.2.2.2.2.2.2.2.2.2.2.2.2.2.2.2.2.2.2.2.2.2.2.2.2.2.2.2.1)
                  have d34 := hD.at_ 34 rfl rfl
                  replace e113 := e113.trans d34
                  have e114 := (hev (.tmp 114)).trans ((kx1.out xs).2.2.2.2.2.2.2.2.2.2.2.2.2.2.2.2.2.2.2.2.2.2.2.2.2.2.2.2.2.2.2.2.2.2.2.2.2.2.1)
                  have d35 := hD.at_ 35 rfl rfl
                  replace e114 := e114.trans d35
                  have dg := hD.at_ 21 rfl rfl
                  rw [if_neg (Bool.eq_false_iff.1 (wantedX_undef 21 rfl dg))]
                  exact hK _ _ rfl hG
                apply gh_det (n := 37)
                · intro fl xs w ev hG hD hl hdone hev K hK
                  have e115 := (hev (.tmp 115)).trans ((kx1.out xs).2.2.2.2.2.2.2.2.2.2.2.2.2.2.2.2.2.2.2.2.2.2.2.2.2.2.2.2.2.2.2.2.2.2.2.2.2.2.2.1)
                  have d36 := hD.at_ 36 rfl rfl
                  replace e115 := e115.trans d36
                  have dg := hD.at_ 21 rfl rfl
                  rw [if_neg (Bool.eq_false_iff.1 (wantedX_undef 21 rfl dg))]
                  exact hK _ _ rfl hG
                apply gh_det (n := 38)
                · intro fl xs w ev hG hD hl hdone hev K hK
                  have e116 := (hev (.tmp 116)).trans ((kx1.out xs).2.2.2.2.2.2.2.2.2.2.2.2.2.2.2.2.2.2.2.2.2.2.2.2.2.2.2.2.2.2.2.2.2.2.2.2.2.2.2.2.1)
                  have d37 := hD.at_ 37 rfl rfl
                  replace e116 := e116.trans d37
                  have dg := hD.at_ 21 rfl rfl
                  rw [if_neg (Bool.eq_false_iff.1 (wantedX_undef 21 rfl dg))]
                  exact hK _ _ rfl hG
                apply gh_det (n := 39)
                · intro fl xs w ev hG hD hl hdone hev K hK
                  have e109 := (hev (.tmp 109)).trans ((kx1.out xs).2.2.2.2.2.2.2.2.2.2.2.2.2.2.2.2.2.2.2.2.2.2.2.2.2.2.2.2.2.2.2.2.2.1)
                  have d30 := hD.at_ 30 rfl rfl
                  replace e109 := e109.trans d30
                  have e117 := (hev (.tmp 117)).trans ((kx1.out xs).2.2.2.2.2.2.2.2.2.2.2.2.2.2.2.2.2.2.2.2.2.2.2.2.2.2.2.2.2.2.2.2.2.2.2.2.2.2.2.2.2.1)
                  have d38 := hD.at_ 38 rfl rfl
                  replace e117 := e117.trans d38
                  have dg := hD.at_ 21 rfl rfl
                  rw [if_neg (Bool.eq_false_iff.1 (wantedX_undef 21 rfl dg))]
                  exact hK _ _ rfl hG
                apply gh_det (n := 40)
                · intro fl xs w ev hG hD hl hdone hev K hK
                  have e118 := (hev (.tmp 118)).trans ((kx1.out xs).2.2.2.2.2.2.2.2.2.2.2.2.2.2.2.2.2.2.2.2.2.2.2.2.2.2.2.2.2.2.2.2.2.2.2.2.2.2.2.2.2.2.1)
                  have d39 := hD.at_ 39 rfl rfl
                  replace e118 := e118.trans d39
                  have dg := hD.at_ 21 rfl rfl
                  rw [if_neg (Bool.eq_false_iff.1 (wantedX_undef 21 rfl dg))]
                  exact hK _ _ rfl hG
                apply gh_det (n := 41)
                · intro fl xs w ev hG hD hl hdone hev K hK
                  have e6 := (hev (.tmp 6)).trans ((kx1.out xs).1)
                  have dg := hD.at_ 40 rfl rfl
                  rw [if_neg (Bool.eq_false_iff.1 (wantedX_undef 40 rfl dg))]
                  exact hK _ _ rfl hG
                apply gh_det (n := 42)
                · intro fl xs w ev hG hD hl hdone hev K hK
                  have e8 := (hev (.tmp 8)).trans ((kx1.out xs).2.1)
                  have dg := hD.at_ 40 rfl rfl
                  rw [if_neg (Bool.eq_false_iff.1 (wantedX_undef 40 rfl dg))]
                  exact hK _ _ rfl hG
                apply gh_det (n := 43)
                · intro fl xs w ev hG hD hl hdone hev K hK
                  have e120 := (hev (.tmp 120)).trans ((kx1.out xs).2.2.2.2.2.2.2.2.2.2.2.2.2.2.2.2.2.2.2.2.2.2.2.2.2.2.2.2.2.2.2.2.2.2.2.2.2.2.2.2.2.2.2.2.1)
                  have d41 := hD.at_ 41 rfl rfl
                  replace e120 := e120.trans d41
                  have e121 := (hev (.tmp 121)).trans ((kx1.out xs).2.2.2.2.2.2.2.2.2.2.2.2.2.2.2.2.2.2.2.2.2.2.2.2.2.2.2.2.2.2.2.2.2.2.2.2.2.2.2.2.2.2.2.2.2.1)
                  have d42 := hD.at_ 42 rfl rfl
                  replace e121 := e121.trans d42
                  have dg := hD.at_ 40 rfl rfl
                  rw [if_neg (Bool.eq_false_iff.1 (wantedX_undef 40 rfl dg))]
                  exact hK _ _ rfl hG
                apply gh_det (n := 44)
                · intro fl xs w ev hG hD hl hdone hev K hK
                  have e122 := (hev (.tmp 122)).trans ((kx1.out xs).2.2.2.2.2.2.2.2.2.2.2.2.2.2.2.2.2.2.2.2.2.2.2.2.2.2.2.2.2.2.2.2.2.2.2.2.2.2.2.2.2.2.2.2.2.2.1)
                  have d43 := hD.at_ 43 rfl rfl
                  replace e122 := e122.trans d43
                  have dg := hD.at_ 40 rfl rfl
                  rw [if_neg (Bool.eq_false_iff.1 (wantedX_undef 40 rfl dg))]
                  exact hK _ _ rfl hG
                apply gh_det (n := 45)
                · intro fl xs w ev hG hD hl hdone hev K hK
                  have e9 := (hev (.tmp 9)).trans ((kx1.out xs).2.2.1)
                  have dg := hD.at_ 40 rfl rfl
                  rw [if_neg (Bool.eq_false_iff.1 (wantedX_undef 40 rfl dg))]
                  exact hK _ _ rfl hG
                apply gh_det (n := 46)
                · intro fl xs w ev hG hD hl hdone hev K hK
                  have e124 := (hev (.tmp 124)).trans ((kx1.out xs).2.2.2.2.2.2.2.2.2.2.2.2.2.2.2.2.2.2.2.2.2.2.2.2.2.2.2.2.2.2.2.2.2.2.2.2.2.2.2.2.2.2.2.2.2.2.2.2.1)
                  have d45 := hD.at_ 45 rfl rfl
                  replace e124 := e124.trans d45
                  have dg := hD.at_ 40 rfl rfl
                  rw [if_neg (Bool.eq_false_iff.1 (wantedX_undef 40 rfl dg))]
                  exact hK _ _ rfl hG
                apply gh_det (n := 47)
                · intro fl xs w ev hG hD hl hdone hev K hK
                  have e123 := (hev (.tmp 123)).trans ((kx1.out xs).2.2.2.2.2.2.2.2.2.2.2.2.2.2.2.2.2.2.2.2.2.2.2.2.2.2.2.2.2.2.2.2.2.2.2.2.2.2.2.2.2.2.2.2.2.2.2.1)
                  have d44 := hD.at_ 44 rfl rfl
                  replace e123 := e123.trans d44
                  have e125 := (hev (.tmp 125)).trans ((kx1.out xs).2.2.2.2.2.2.2.2.2.2.2.2.2.2.2.2.2.2.2.2.2.2.2.2.2.2.2.2.2.2.2.2.2.2.2.2.2.2.2.2.2.2.2.2.2.2.2.2.2.1)
                  have d46 := hD.at_ 46 rfl rfl
                  replace e125 := e125.trans d46
                  have dg := hD.at_ 40 rfl rfl
                  rw [if_neg (Bool.eq_false_iff.1 (wantedX_undef 40 rfl dg))]
                  exact hK _ _ rfl hG
                apply gh_det (n := 48)
                · intro fl xs w ev hG hD hl hdone hev K hK
                  have e126 := (hev (.tmp 126)).trans ((kx1.out xs).2.2.2.2.2.2.2.2.2.2.2.2.2.2.2.2.2.2.2.2.2.2.2.2.2.2.2.2.2.2.2.2.2.2.2.2.2.2.2.2.2.2.2.2.2.2.2.2.2.2.1)
                  have d47 := hD.at_ 47 rfl rfl
                  replace e126 := e126.trans d47
                  have dg := hD.at_ 40 rfl rfl
                  rw [if_neg (Bool.eq_false_iff.1 (wantedX_undef 40 rfl dg))]
                  exact hK _ _ rfl hG
                apply gh_det (n := 49)
                · intro fl xs w ev hG hD hl hdone hev K hK
                  have e127 := (hev (.tmp 127)).trans ((kx1.out xs).2.2.2.2.2.2.2.2.2.2.2.2.2.2.2.2.2.2.2.2.2.2.2.2.2.2.2.2.2.2.2.2.2.2.2.2.2.2.2.2.2.2.2.2.2.2.2.2.2.2.2.1)
                  have d48 := hD.at_ 48 rfl rfl
                  replace e127 := e127.trans d48
                  have dg := hD.at_ 40 rfl rfl
                  rw [if_neg (Bool.eq_false_iff.1 (wantedX_undef 40 rfl dg))]
                  exact hK _ _ rfl hG
                apply gh_det (n := 50)
                · intro fl xs w ev hG hD hl hdone hev K hK
                  have e6 := (hev (.tmp 6)).trans ((kx1.out xs).1)
                  have dg := hD.at_ 40 rfl rfl
                  rw [if_neg (Bool.eq_false_iff.1 (wantedX_undef 40 rfl dg))]
                  exact hK _ _ rfl hG
                apply gh_det (n := 51)
                · intro fl xs w ev hG hD hl hdone hev K hK
                  have e8 := (hev (.tmp 8)).trans ((kx1.out xs).2.1)
                  have dg := hD.at_ 40 rfl rfl
                  rw [if_neg (Bool.eq_false_iff.1 (wantedX_undef 40 rfl dg))]
                  exact hK _ _ rfl hG
                apply gh_det (n := 52)
                · intro fl xs w ev hG hD hl hdone hev K hK
                  have e129 := (hev (.tmp 129)).trans ((kx1.out xs).2.2.2.2.2.2.2.2.2.2.2.2.2.2.2.2.2.2.2.2.2.2.2.2.2.2.2.2.2.2.2.2.2.2.2.2.2.2.2.2.2.2.2.2.2.2.2.2.2.2.2.2.2.1)
                  have d50 := hD.at_ 50 rfl rfl
                  replace e129 := e129.trans d50
                  have e130 := (hev (.tmp 130)).trans ((kx1.out xs).2.2.2.2.2.2.2.2.2.2.2.2.2.2.2.2.2.2.2.2.2.2.2.2.2.2.2.2.2.2.2.2.2.2.2.2.2.2.2.2.2.2.2.2.2.2.2.2.2.2.2.2.2.2.1)
                  have d51 := hD.at_ 51 rfl rfl
                  replace e130 := e130.trans d51
                  have dg := hD.at_ 40 rfl rfl
                  rw [if_neg (Bool.eq_false_iff.1 (wantedX_undef 40 rfl dg))]
                  exact hK _ _ rfl hG
                apply gh_det (n := 53)
                · intro fl xs w ev hG hD hl hdone hev K hK
                  have e131 := (hev (.tmp 131)).trans ((kx1.out xs).2.2.2.2.2.2.2.2.2.2.2.2.2.2.2.2.2.2.2.2.2.2.2.2.2.2.2.2.2.2.2.2.2.2.2.2.2.2.2.2.2.2.2.2.2.2.2.2.2.2.2.2.2.2.2.1)
                  have d52 := hD.at_ 52 rfl rfl
                  replace e131 := e131.trans d52
                  have dg := hD.at_ 40 rfl rfl
                  rw [if_neg (Bool.eq_false_iff.1 (wantedX_undef 40 rfl dg))]
                  exact hK _ _ rfl hG
                apply gh_det (n := 54)
                · intro fl xs w ev hG hD hl hdone hev K hK
                  have e9 := (hev (.tmp 9)).trans ((kx1.out xs).2.2.1)
                  have dg := hD.at_ 40 rfl rfl
                  rw [if_neg (Bool.eq_false_iff.1 (wantedX_undef 40 rfl dg))]
                  exact hK _ _ rfl hG
                apply gh_det (n := 55)
                · intro fl xs w ev hG hD hl hdone hev K hK
                  have e132 := (hev (.tmp 132)).trans ((kx1.out xs).2.2.2.2.2.2.2.2.2.2.2.2.2.2.2.2.2.2.2.2.2.2.2.2.2.2.2.2.2.2.2.2.2.2.2.2.2.2.2.2.2.2.2.2.2.2.2.2.2.2.2.2.2.2.2.2.1)
                  have d53 := hD.at_ 53 rfl rfl
                  replace e132 := e132.trans d53
                  have e133 := (hev (.tmp 133)).trans ((kx1.out xs).2.2.2.2.2.2.2.2.2.2.2.2.2.2.2.2.2.2.2.2.2.2.2.2.2.2.2.2.2.2.2.2.2.2.2.2.2.2.2.2.2.2.2.2.2.2.2.2.2.2.2.2.2.2.2.2.2.1)
                  have d54 := hD.at_ 54 rfl rfl
                  replace e133 := e133.trans d54
                  have dg := hD.at_ 40 rfl rfl
                  rw [if_neg (Bool.eq_false_iff.1 (wantedX_undef 40 rfl dg))]
                  exact hK _ _ rfl hG
                apply gh_det (n := 56)
                · intro fl xs w ev hG hD hl hdone hev K hK
                  have e134 := (hev (.tmp 134)).trans ((kx1.out xs).2.2.2.2.2.2.2.2.2.2.2.2.2.2.2.2.2.2.2.2.2.2.2.2.2.2.2.2.2.2.2.2.2.2.2.2.2.2.2.2.2.2.2.2.2.2.2.2.2.2.2.2.2.2.2.2.2.2.1)
                  have d55 := hD.at_ 55 rfl rfl
                  replace e134 := e134.trans d55
                  have dg := hD.at_ 40 rfl rfl
                  rw [if_neg (Bool.eq_false_iff.1 (wantedX_undef 40 rfl dg))]
                  exact hK _ _ rfl hG
                apply gh_det (n := 57)
                · intro fl xs w ev hG hD hl hdone hev K hK
                  have e135 := (hev (.tmp 135)).trans ((kx1.out xs).2.2.2.2.2.2.2.2.2.2.2.2.2.2.2.2.2.2.2.2.2.2.2.2.2.2.2.2.2.2.2.2.2.2.2.2.2.2.2.2.2.2.2.2.2.2.2.2.2.2.2.2.2.2.2.2.2.2.2.1)
                  have d56 := hD.at_ 56 rfl rfl
                  replace e135 := e135.trans d56
                  have dg := hD.at_ 40 rfl rfl
                  rw [if_neg (Bool.eq_false_iff.1 (wantedX_undef 40 rfl dg))]
                  exact hK _ _ rfl hG
                apply gh_det (n := 58)
                · intro fl xs w ev hG hD hl hdone hev K hK
                  have e128 := (hev (.tmp 128)).trans ((kx1.out xs).2.2.2.2.2.2.2.2.2.2.2.2.2.2.2.2.2.2.2.2.2.2.2.2.2.2.2.2.2.2.2.2.2.2.2.2.2.2.2.2.2.2.2.2.2.2.2.2.2.2.2.2.1)
                  have d49 := hD.at_ 49 rfl rfl
                  replace e128 := e128.trans d49
                  have e136 := (hev (.tmp 136)).trans ((kx1.out xs).2.2.2.2.2.2.2.2.2.2.2.2.2.2.2.2.2.2.2.2.2.2.2.2.2.2.2.2.2.2.2.2.2.2.2.2.2.2.2.2.2.2.2.2.2.2.2.2.2.2.2.2.2.2.2.2.2.2.2.2.1)
                  have d57 := hD.at_ 57 rfl rfl
                  replace e136 := e136.trans d57
                  have dg := hD.at_ 40 rfl rfl
                  rw [if_neg (Bool.eq_false_iff.1 (wantedX_undef 40 rfl dg))]
                  exact hK _ _ rfl hG
                apply gh_det (n := 59)
                · intro fl xs w ev hG hD hl hdone hev K hK
                  have e119 := (hev (.tmp 119)).trans ((kx1.out xs).2.2.2.2.2.2.2.2.2.2.2.2.2.2.2.2.2.2.2.2.2.2.2.2.2.2.2.2.2.2.2.2.2.2.2.2.2.2.2.2.2.2.2.1)
                  have d40 := hD.at_ 40 rfl rfl
                  replace e119 := e119.trans d40
                  have e137 := (hev (.tmp 137)).trans ((kx1.out xs).2.2.2.2.2.2.2.2.2.2.2.2.2.2.2.2.2.2.2.2.2.2.2.2.2.2.2.2.2.2.2.2.2.2.2.2.2.2.2.2.2.2.2.2.2.2.2.2.2.2.2.2.2.2.2.2.2.2.2.2.2.1)
                  have d58 := hD.at_ 58 rfl rfl
                  replace e137 := e137.trans d58
                  have dg := hD.at_ 21 rfl rfl
                  rw [if_neg (Bool.eq_false_iff.1 (wantedX_undef 21 rfl dg))]
                  exact hK _ _ rfl hG
                apply gh_det (n := 60)
                · intro fl xs w ev hG hD hl hdone hev K hK
                  have e100 := (hev (.tmp 100)).trans ((kx1.out xs).2.2.2.2.2.2.2.2.2.2.2.2.2.2.2.2.2.2.2.2.2.2.2.2.1)
                  have d21 := hD.at_ 21 rfl rfl
                  replace e100 := e100.trans d21
                  have e138 := (hev (.tmp 138)).trans ((kx1.out xs).2.2.2.2.2.2.2.2.2.2.2.2.2.2.2.2.2.2.2.2.2.2.2.2.2.2.2.2.2.2.2.2.2.2.2.2.2.2.2.2.2.2.2.2.2.2.2.2.2.2.2.2.2.2.2.2.2.2.2.2.2.2.1)
                  have d59 := hD.at_ 59 rfl rfl
                  replace e138 := e138.trans d59
                  have dg := hD.at_ 2 rfl rfl
                  rw [if_neg (Bool.eq_false_iff.1 (wantedX_no 2 false rfl dg))]
                  exact hK _ _ rfl hG
                apply gh_det (n := 61)
                · intro fl xs w ev hG hD hl hdone hev K hK
                  have e81 := (hev (.tmp 81)).trans ((kx1.out xs).2.2.2.2.2.1)
                  have d2 := hD.at_ 2 rfl rfl
                  replace e81 := e81.trans d2
                  have e139 := (hev (.tmp 139)).trans ((kx1.out xs).2.2.2.2.2.2.2.2.2.2.2.2.2.2.2.2.2.2.2.2.2.2.2.2.2.2.2.2.2.2.2.2.2.2.2.2.2.2.2.2.2.2.2.2.2.2.2.2.2.2.2.2.2.2.2.2.2.2.2.2.2.2.2.1)
                  have d60 := hD.at_ 60 rfl rfl
                  replace e139 := e139.trans d60
                  rw [if_pos (wantedX_none rfl)]
                  have ef : ∀ f, ev (.func f) = .func (.func f) #[] #[] := fun f => (hev _).trans rfl
                  have ec : ∀ v, ev (.const v) = v := fun v => (hev _).trans rfl
                  clear hev hD
                  go_simp
                  exact hK _ _ rfl hG
                apply gh_det (n := 62)
                · intro fl xs w ev hG hD hl hdone hev K hK
                  have e140 := (hev (.tmp 140)).trans ((kx1.out xs).2.2.2.2.2.2.2.2.2.2.2.2.2.2.2.2.2.2.2.2.2.2.2.2.2.2.2.2.2.2.2.2.2.2.2.2.2.2.2.2.2.2.2.2.2.2.2.2.2.2.2.2.2.2.2.2.2.2.2.2.2.2.2.2.1)
                  have d61 := hD.at_ 61 rfl rfl
                  replace e140 := e140.trans d61
                  rw [if_pos (wantedX_none rfl)]
                  have ef : ∀ f, ev (.func f) = .func (.func f) #[] #[] := fun f => (hev _).trans rfl
                  clear hev hD
                  go_simp
                  exact hK _ _ rfl hG
                apply gh_det (n := 63)
                · intro fl xs w ev hG hD hl hdone hev K hK
                  have e6 := (hev (.tmp 6)).trans ((kx1.out xs).1)
                  have dg := hD.at_ 62 rfl rfl
                  rw [if_pos (wantedX_yes 62 false rfl dg)]
                  have ef : ∀ f, ev (.func f) = .func (.func f) #[] #[] := fun f => (hev _).trans rfl
                  clear hev hD
                  go_simp
                  exact hK _ _ rfl hG
                apply gh_det (n := 64)
                · intro fl xs w ev hG hD hl hdone hev K hK
                  have e8 := (hev (.tmp 8)).trans ((kx1.out xs).2.1)
                  have dg := hD.at_ 62 rfl rfl
                  rw [if_pos (wantedX_yes 62 false rfl dg)]
                  have ef : ∀ f, ev (.func f) = .func (.func f) #[] #[] := fun f => (hev _).trans rfl
                  clear hev hD
                  go_simp
                  exact hK _ _ rfl hG
                apply gh_det (n := 65)
                · intro fl xs w ev hG hD hl hdone hev K hK
                  have e142 := (hev (.tmp 142)).trans ((kx1.out xs).2.2.2.2.2.2.2.2.2.2.2.2.2.2.2.2.2.2.2.2.2.2.2.2.2.2.2.2.2.2.2.2.2.2.2.2.2.2.2.2.2.2.2.2.2.2.2.2.2.2.2.2.2.2.2.2.2.2.2.2.2.2.2.2.2.2.1)
                  have d63 := hD.at_ 63 rfl rfl
                  replace e142 := e142.trans d63
                  have e143 := (hev (.tmp 143)).trans ((kx1.out xs).2.2.2.2.2.2.2.2.2.2.2.2.2.2.2.2.2.2.2.2.2.2.2.2.2.2.2.2.2.2.2.2.2.2.2.2.2.2.2.2.2.2.2.2.2.2.2.2.2.2.2.2.2.2.2.2.2.2.2.2.2.2.2.2.2.2.2.1)
                  have d64 := hD.at_ 64 rfl rfl
                  replace e143 := e143.trans d64
                  have dg := hD.at_ 62 rfl rfl
                  rw [if_pos (wantedX_yes 62 false rfl dg)]
                  have ef : ∀ f, ev (.func f) = .func (.func f) #[] #[] := fun f => (hev _).trans rfl
                  clear hev hD
                  go_simp
                  exact hK _ _ rfl hG
                apply gh_det (n := 66)
                · intro fl xs w ev hG hD hl hdone hev K hK
                  have e144 := (hev (.tmp 144)).trans ((kx1.out xs).2.2.2.2.2.2.2.2.2.2.2.2.2.2.2.2.2.2.2.2.2.2.2.2.2.2.2.2.2.2.2.2.2.2.2.2.2.2.2.2.2.2.2.2.2.2.2.2.2.2.2.2.2.2.2.2.2.2.2.2.2.2.2.2.2.2.2.2.1)
                  have d65 := hD.at_ 65 rfl rfl
                  replace e144 := e144.trans d65
                  have dg := hD.at_ 62 rfl rfl
                  rw [if_pos (wantedX_yes 62 false rfl dg)]
                  have ef : ∀ f, ev (.func f) = .func (.func f) #[] #[] := fun f => (hev _).trans rfl
                  clear hev hD
                  have m0 := (hG.cell (p := ⟨bR, _, none⟩) zbR).trans fw
                  go_simp
                  exact hK _ _ rfl hG
                apply gh_det (n := 67)
                · intro fl xs w ev hG hD hl hdone hev K hK
                  have e9 := (hev (.tmp 9)).trans ((kx1.out xs).2.2.1)
                  have dg := hD.at_ 62 rfl rfl
                  rw [if_pos (wantedX_yes 62 false rfl dg)]
                  have ef : ∀ f, ev (.func f) = .func (.func f) #[] #[] := fun f => (hev _).trans rfl
                  clear hev hD
                  go_simp
                  exact hK _ _ rfl hG
                apply gh_det (n := 68)
                · intro fl xs w ev hG hD hl hdone hev K hK
                  have e145 := (hev (.tmp 145)).trans ((kx1.out xs).2.2.2.2.2.2.2.2.2.2.2.2.2.2.2.2.2.2.2.2.2.2.2.2.2.2.2.2.2.2.2.2.2.2.2.2.2.2.2.2.2.2.2.2.2.2.2.2.2.2.2.2.2.2.2.2.2.2.2.2.2.2.2.2.2.2.2.2.2.1)
                  have d66 := hD.at_ 66 rfl rfl
                  replace e145 := e145.trans d66
                  have e146 := (hev (.tmp 146)).trans ((kx1.out xs).2.2.2.2.2.2.2.2.2.2.2.2.2.2.2.2.2.2.2.2.2.2.2.2.2.2.2.2.2.2.2.2.2.2.2.2.2.2.2.2.2.2.2.2.2.2.2.2.2.2.2.2.2.2.2.2.2.2.2.2.2.2.2.2.2.2.2.2.2.2.1)
                  have d67 := hD.at_ 67 rfl rfl
                  replace e146 := e146.trans d67
                  have dg := hD.at_ 62 rfl rfl
                  rw [if_pos (wantedX_yes 62 false rfl dg)]
                  have ef : ∀ f, ev (.func f) = .func (.func f) #[] #[] := fun f => (hev _).trans rfl
                  clear hev hD
                  go_simp
                  exact hK _ _ rfl hG
                apply gh_det (n := 69)
                · intro fl xs w ev hG hD hl hdone hev K hK
                  have e147 := (hev (.tmp 147)).trans ((kx1.out xs).2.2.2.2.2.2.2.2.2.2.2.2.2.2.2.2.2.2.2.2.2.2.2.2.2.2.2.2.2.2.2.2.2.2.2.2.2.2.2.2.2.2.2.2.2.2.2.2.2.2.2.2.2.2.2.2.2.2.2.2.2.2.2.2.2.2.2.2.2.2.2.1)
                  have d68 := hD.at_ 68 rfl rfl
                  replace e147 := e147.trans d68
                  have dg := hD.at_ 62 rfl rfl
                  rw [if_pos (wantedX_yes 62 false rfl dg)]
                  have ef : ∀ f, ev (.func f) = .func (.func f) #[] #[] := fun f => (hev _).trans rfl
                  clear hev hD
                  go_simp
                  exact hK _ _ rfl hG
                apply gh_det (n := 70)
                · intro fl xs w ev hG hD hl hdone hev K hK
                  have e148 := (hev (.tmp 148)).trans ((kx1.out xs).2.2.2.2.2.2.2.2.2.2.2.2.2.2.2.2.2.2.2.2.2.2.2.2.2.2.2.2.2.2.2.2.2.2.2.2.2.2.2.2.2.2.2.2.2.2.2.2.2.2.2.2.2.2.2.2.2.2.2.2.2.2.2.2.2.2.2.2.2.2.2.2.1)
                  have d69 := hD.at_ 69 rfl rfl
                  replace e148 := e148.trans d69
                  have dg := hD.at_ 62 rfl rfl
                  rw [if_pos (wantedX_yes 62 false rfl dg)]
                  have ef : ∀ f, ev (.func f) = .func (.func f) #[] #[] := fun f => (hev _).trans rfl
                  clear hev hD
                  have m0 := (hG.cell (p := ⟨bE, _, none⟩) hbE).trans g0
                  go_simp
                  exact hK _ _ rfl hG
                apply gh_det (n := 71)
                · intro fl xs w ev hG hD hl hdone hev K hK
                  have e149 := (hev (.tmp 149)).trans ((kx1.out xs).2.2.2.2.2.2.2.2.2.2.2.2.2.2.2.2.2.2.2.2.2.2.2.2.2.2.2.2.2.2.2.2.2.2.2.2.2.2.2.2.2.2.2.2.2.2.2.2.2.2.2.2.2.2.2.2.2.2.2.2.2.2.2.2.2.2.2.2.2.2.2.2.2.1)
                  have d70 := hD.at_ 70 rfl rfl
                  replace e149 := e149.trans d70
                  have dg := hD.at_ 62 rfl rfl
                  rw [if_pos (wantedX_yes 62 false rfl dg)]
                  have ef : ∀ f, ev (.func f) = .func (.func f) #[] #[] := fun f => (hev _).trans rfl
                  have ec : ∀ v, ev (.const v) = v := fun v => (hev _).trans rfl
                  clear hev hD
                  go_simp
                  exact hK _ _ rfl hG
                apply gh_det (n := 72)
                · intro fl xs w ev hG hD hl hdone hev K hK
                  have e141 := (hev (.tmp 141)).trans ((kx1.out xs).2.2.2.2.2.2.2.2.2.2.2.2.2.2.2.2.2.2.2.2.2.2.2.2.2.2.2.2.2.2.2.2.2.2.2.2.2.2.2.2.2.2.2.2.2.2.2.2.2.2.2.2.2.2.2.2.2.2.2.2.2.2.2.2.2.1)
                  have d62 := hD.at_ 62 rfl rfl
                  replace e141 := e141.trans d62
                  have e150 := (hev (.tmp 150)).trans ((kx1.out xs).2.2.2.2.2.2.2.2.2.2.2.2.2.2.2.2.2.2.2.2.2.2.2.2.2.2.2.2.2.2.2.2.2.2.2.2.2.2.2.2.2.2.2.2.2.2.2.2.2.2.2.2.2.2.2.2.2.2.2.2.2.2.2.2.2.2.2.2.2.2.2.2.2.2.1)
                  have d71 := hD.at_ 71 rfl rfl
                  replace e150 := e150.trans d71
                  rw [if_pos (wantedX_none rfl)]
                  have ef : ∀ f, ev (.func f) = .func (.func f) #[] #[] := fun f => (hev _).trans rfl
                  have ec : ∀ v, ev (.const v) = v := fun v => (hev _).trans rfl
                  clear hev hD
                  go_simp
                  exact hK _ _ rfl hG
                apply gh_det (n := 73)
                · intro fl xs w ev hG hD hl hdone hev K hK
                  have e151 := (hev (.tmp 151)).trans ((kx1.out xs).2.2.2.2.2.2.2.2.2.2.2.2.2.2.2.2.2.2.2.2.2.2.2.2.2.2.2.2.2.2.2.2.2.2.2.2.2.2.2.2.2.2.2.2.2.2.2.2.2.2.2.2.2.2.2.2.2.2.2.2.2.2.2.2.2.2.2.2.2.2.2.2.2.2.2.1)
                  have d72 := hD.at_ 72 rfl rfl
                  replace e151 := e151.trans d72
                  rw [if_pos (wantedX_none rfl)]
                  have ef : ∀ f, ev (.func f) = .func (.func f) #[] #[] := fun f => (hev _).trans rfl
                  clear hev hD
                  go_simp
                  exact hK _ _ rfl hG
                apply gh_det (n := 74)
                · intro fl xs w ev hG hD hl hdone hev K hK
                  have e6 := (hev (.tmp 6)).trans ((kx1.out xs).1)
                  have dg := hD.at_ 73 rfl rfl
                  rw [if_pos (wantedX_yes 73 false rfl dg)]
                  have ef : ∀ f, ev (.func f) = .func (.func f) #[] #[] := fun f => (hev _).trans rfl
                  clear hev hD
                  go_simp
                  exact hK _ _ rfl hG
                apply gh_det (n := 75)
                · intro fl xs w ev hG hD hl hdone hev K hK
                  have e8 := (hev (.tmp 8)).trans ((kx1.out xs).2.1)
                  have dg := hD.at_ 73 rfl rfl
                  rw [if_pos (wantedX_yes 73 false rfl dg)]
                  have ef : ∀ f, ev (.func f) = .func (.func f) #[] #[] := fun f => (hev _).trans rfl
                  clear hev hD
                  go_simp
                  exact hK _ _ rfl hG
                apply gh_det (n := 76)
                · intro fl xs w ev hG hD hl hdone hev K hK
                  have e153 := (hev (.tmp 153)).trans ((kx1.out xs).2.2.2.2.2.2.2.2.2.2.2.2.2.2.2.2.2.2.2.2.2.2.2.2.2.2.2.2.2.2.2.2.2.2.2.2.2.2.2.2.2.2.2.2.2.2.2.2.2.2.2.2.2.2.2.2.2.2.2.2.2.2.2.2.2.2.2.2.2.2.2.2.2.2.2.2.2.1)
                  have d74 := hD.at_ 74 rfl rfl
                  replace e153 := e153.trans d74
                  have e154 := (hev (.tmp 154)).trans ((kx1.out xs).2.2.2.2.2.2.2.2.2.2.2.2.2.2.2.2.2.2.2.2.2.2.2.2.2.2.2.2.2.2.2.2.2.2.2.2.2.2.2.2.2.2.2.2.2.2.2.2.2.2.2.2.2.2.2.2.2.2.2.2.2.2.2.2.2.2.2.2.2.2.2.2.2.2.2.2.2.2.1)
                  have d75 := hD.at_ 75 rfl rfl
                  replace e154 := e154.trans d75
                  have dg := hD.at_ 73 rfl rfl
                  rw [if_pos (wantedX_yes 73 false rfl dg)]
                  have ef : ∀ f, ev (.func f) = .func (.func f) #[] #[] := fun f => (hev _).trans rfl
                  clear hev hD
                  go_simp
                  exact hK _ _ rfl hG
                apply gh_det (n := 77)
                · intro fl xs w ev hG hD hl hdone hev K hK
                  have e155 := (hev (.tmp 155)).trans ((kx1.out xs).2.2.2.2.2.2.2.2.2.2.2.2.2.2.2.2.2.2.2.2.2.2.2.2.2.2.2.2.2.2.2.2.2.2.2.2.2.2.2.2.2.2.2.2.2.2.2.2.2.2.2.2.2.2.2.2.2.2.2.2.2.2.2.2.2.2.2.2.2.2.2.2.2.2.2.2.2.2.2.1)
                  have d76 := hD.at_ 76 rfl rfl
                  replace e155 := e155.trans d76
                  have dg := hD.at_ 73 rfl rfl
                  rw [if_pos (wantedX_yes 73 false rfl dg)]
                  have ef : ∀ f, ev (.func f) = .func (.func f) #[] #[] := fun f => (hev _).trans rfl
                  clear hev hD
                  have m0 := (hG.cell (p := ⟨bR, _, none⟩) zbR).trans fw
                  go_simp
                  exact hK _ _ rfl hG
                apply gh_det (n := 78)
                · intro fl xs w ev hG hD hl hdone hev K hK
                  have e9 := (hev (.tmp 9)).trans ((kx1.out xs).2.2.1)
                  have dg := hD.at_ 73 rfl rfl
                  rw [if_pos (wantedX_yes 73 false rfl dg)]
                  have ef : ∀ f, ev (.func f) = .func (.func f) #[] #[] := fun f => (hev _).trans rfl
                  clear hev hD
                  go_simp
                  exact hK _ _ rfl hG
                apply gh_det (n := 79)
                · intro fl xs w ev hG hD hl hdone hev K hK
                  have e156 := (hev (.tmp 156)).trans ((kx1.out xs).2.2.2.2.2.2.2.2.2.2.2.2.2.2.2.2.2.2.2.2.2.2.2.2.2.2.2.2.2.2.2.2.2.2.2.2.2.2.2.2.2.2.2.2.2.2.2.2.2.2.2.2.2.2.2.2.2.2.2.2.2.2.2.2.2.2.2.2.2.2.2.2.2.2.2.2.2.2.2.2.1)
                  have d77 := hD.at_ 77 rfl rfl
                  replace e156 := e156.trans d77
                  have e157 := (hev (.tmp 157)).trans ((kx1.out xs).2.2.2.2.2.2.2.2.2.2.2.2.2.2.2.2.2.2.2.2.2.2.2.2.2.2.2.2.2.2.2.2.2.2.2.2.2.2.2.2.2.2.2.2.2.2.2.2.2.2.2.2.2.2.2.2.2.2.2.2.2.2.2.2.2.2.2.2.2.2.2.2.2.2.2.2.2.2.2.2.2.1)
                  have d78 := hD.at_ 78 rfl rfl
                  replace e157 := e157.trans d78
                  have dg := hD.at_ 73 rfl rfl
                  rw [if_pos (wantedX_yes 73 false rfl dg)]
                  have ef : ∀ f, ev (.func f) = .func (.func f) #[] #[] := fun f => (hev _).trans rfl
                  clear hev hD
                  go_simp
                  exact hK _ _ rfl hG
                apply gh_det (n := 80)
                · intro fl xs w ev hG hD hl hdone hev K hK
                  have e158 := (hev (.tmp 158)).trans ((kx1.out xs).2.2.2.2.2.2.2.2.2.2.2.2.2.2.2.2.2.2.2.2.2.2.2.2.2.2.2.2.2.2.2.2.2.2.2.2.2.2.2.2.2.2.2.2.2.2.2.2.2.2.2.2.2.2.2.2.2.2.2.2.2.2.2.2.2.2.2.2.2.2.2.2.2.2.2.2.2.2.2.2.2.2.1)
                  have d79 := hD.at_ 79 rfl rfl
                  replace e158 := e158.trans d79
                  have dg := hD.at_ 73 rfl rfl
                  rw [if_pos (wantedX_yes 73 false rfl dg)]
                  have ef : ∀ f, ev (.func f) = .func (.func f) #[] #[] := fun f => (hev _).trans rfl
                  clear hev hD
                  go_simp
                  exact hK _ _ rfl hG
                apply gh_det (n := 81)
                · intro fl xs w ev hG hD hl hdone hev K hK
                  have e159 := (hev (.tmp 159)).trans ((kx1.out xs).2.2.2.2.2.2.2.2.2.2.2.2.2.2.2.2.2.2.2.2.2.2.2.2.2.2.2.2.2.2.2.2.2.2.2.2.2.2.2.2.2.2.2.2.2.2.2.2.2.2.2.2.2.2.2.2.2.2.2.2.2.2.2.2.2.2.2.2.2.2.2.2.2.2.2.2.2.2.2.2.2.2.2.1)
                  have d80 := hD.at_ 80 rfl rfl
                  replace e159 := e159.trans d80
                  have dg := hD.at_ 73 rfl rfl
                  rw [if_pos (wantedX_yes 73 false rfl dg)]
                  have ef : ∀ f, ev (.func f) = .func (.func f) #[] #[] := fun f => (hev _).trans rfl
                  clear hev hD
                  have m0 := (hG.cell (p := ⟨bE, _, none⟩) hbE).trans g0
                  go_simp
                  exact hK _ _ rfl hG
                apply gh_det (n := 82)
                · intro fl xs w ev hG hD hl hdone hev K hK
                  have e160 := (hev (.tmp 160)).trans ((kx1.out xs).2.2.2.2.2.2.2.2.2.2.2.2.2.2.2.2.2.2.2.2.2.2.2.2.2.2.2.2.2.2.2.2.2.2.2.2.2.2.2.2.2.2.2.2.2.2.2.2.2.2.2.2.2.2.2.2.2.2.2.2.2.2.2.2.2.2.2.2.2.2.2.2.2.2.2.2.2.2.2.2.2.2.2.2.1)
                  have d81 := hD.at_ 81 rfl rfl
                  replace e160 := e160.trans d81
                  have dg := hD.at_ 73 rfl rfl
                  rw [if_pos (wantedX_yes 73 false rfl dg)]
                  have ef : ∀ f, ev (.func f) = .func (.func f) #[] #[] := fun f => (hev _).trans rfl
                  have ec : ∀ v, ev (.const v) = v := fun v => (hev _).trans rfl
                  clear hev hD
                  go_simp
                  exact hK _ _ rfl hG
                apply gh_det (n := 83)
                · intro fl xs w ev hG hD hl hdone hev K hK
                  have e152 := (hev (.tmp 152)).trans ((kx1.out xs).2.2.2.2.2.2.2.2.2.2.2.2.2.2.2.2.2.2.2.2.2.2.2.2.2.2.2.2.2.2.2.2.2.2.2.2.2.2.2.2.2.2.2.2.2.2.2.2.2.2.2.2.2.2.2.2.2.2.2.2.2.2.2.2.2.2.2.2.2.2.2.2.2.2.2.2.1)
                  have d73 := hD.at_ 73 rfl rfl
                  replace e152 := e152.trans d73
                  have e161 := (hev (.tmp 161)).trans ((kx1.out xs).2.2.2.2.2.2.2.2.2.2.2.2.2.2.2.2.2.2.2.2.2.2.2.2.2.2.2.2.2.2.2.2.2.2.2.2.2.2.2.2.2.2.2.2.2.2.2.2.2.2.2.2.2.2.2.2.2.2.2.2.2.2.2.2.2.2.2.2.2.2.2.2.2.2.2.2.2.2.2.2.2.2.2.2.2)
                  have d82 := hD.at_ 82 rfl rfl
                  replace e161 := e161.trans d82
                  rw [if_pos (wantedX_none rfl)]
                  have ef : ∀ f, ev (.func f) = .func (.func f) #[] #[] := fun f => (hev _).trans rfl
                  have ec : ∀ v, ev (.const v) = v := fun v => (hev _).trans rfl
                  clear hev hD
                  go_simp
                  exact hK _ _ rfl hG
                clear kx1
                intro xs w12 hG hI
                have e162 : xs 83 = .bool false := hI 83 _ rfl
                clear hI
                simp only [List.append_eq, List.cons_append, List.nil_append, setAll, List.setIfInBounds_toArray, List.set_cons_zero, List.set_cons_succ]
                rw [e162]
                have hfin := Lib.hid (hbj.out.trans (hG.mono hbj.out.size))
                clear hG e162
                go_wp2_with fail
                go_roundw
                case rel => exact ⟨j + 1, by omega, by go_num, hfin⟩
                case measure => simp [intOf]; omega
              · obtain ⟨bE2, oE2, x, y, eE, _, hxy, k0, k1⟩ := (rr.out.below hbj.out).pair (k := j - 1) (by omega)
                cases eE
                obtain ⟨hs1, hs2⟩ := hstep.out j x y z u (by omega) hxy hzu
                have e3 : decide ((0 : Int) < (j : Int)) = true := decide_eq_true (by omega)
                have e3n : decide (0 < j) = true := decide_eq_true (by omega)
                have hwr : IntKind.i64.wrap ((j : Int) - 1) = ((j - 1 : Nat) : Int) := by rw [IntKind.wrap_i64]; omega
                have hj1 : ((j - 1 : Nat) : Int) < (rn : Int) := by omega
                have e4 : decide (z < x) = false := decide_eq_false (by omega)
                clear hzu hz0 hz1 hxy
                by_cases hxz : x = z
                · have e5 : (x == z) = true := by simp [hxz]
                  have e6 : decide (u ≤ y) = false := decide_eq_false (by have := hs2 hxz; omega)
                  clear hs1 hs2 hxz
                  try clear hr
                  try clear hnn
                  try clear hmm
                  try clear hhzH
                  try clear hup
                  try clear hbw0
                  try clear hnbH
                  try clear hbn1H
                  try clear hR
                  try clear hX
                  try clear hb2
                  try clear hL
                  try clear hlt
                  try clear hs
                  try clear hn40
                  try clear hm40
                  try clear hb13h
                  try clear hnewH
                  try clear hC5
                  try clear hL5
                  try clear hB5
                  try clear hB0
                  try clear hb35
                  try clear hB0le
                  try clear hRMh
                  try clear hsT
                  try clear hzT
                  try clear hnT
                  try clear hMX
                  try clear s6
                  try clear hN
                  try clear hkH
                  try clear s7
                  try clear hC7h
                  try clear hE7
                  try clear hwf1
                  try clear hl1
                  try clear hsym
                  try clear hself
                  try clear hrng
                  try clear htri
                  try clear hstep
                  try clear hrlr
                  try clear rr
                  try clear hrn
                  try clear hb
                  try clear d3
                  try clear hi
                  try clear him
                  try clear ha
                  try clear hj0
                  try clear hm
                  try clear hs1
                  try clear hs2
                  try clear hb3
                  try clear hB0w
                  go_wp2_with fail
                  go_upto_region 24 with fail
                  simp only [List.append_eq, List.cons_append, List.nil_append]
                  refine wp_region_ghost (fun fl x w => Below wr.heap.size wr w) (by kernel_rfl) (by kernel_rfl) (by kernel_rfl) (by kernel_rfl) (by kernel_rfl) ?_ ?_
                  · intro x0
                    exact ⟨rfl, rfl, rfl, Nat.le_refl _, fun _ _ => rfl⟩
                  intro base O hbase hO
                  have kx1 : Hid (∀ xs, evX base O xs (.tmp 6) = .slice (some ⟨bR, oR, none⟩) n c7 ∧ evX base O xs (.tmp 8) = .int .i64 (a : Int) ∧ evX base O xs (.tmp 9) = .int .i64 (j : Int) ∧ evX base O xs (.tmp 79) = xs 0 ∧ evX base O xs (.tmp 80) = xs 1 ∧ evX base O xs (.tmp 81) = xs 2 ∧ evX base O xs (.tmp 82) = xs 3 ∧ evX base O xs (.tmp 83) = xs 4 ∧ evX base O xs (.tmp 84) = xs 5 ∧ evX base O xs (.tmp 85) = xs 6 ∧ evX base O xs (.tmp 86) = xs 7 ∧ evX base O xs (.tmp 87) = xs 8 ∧ evX base O xs (.tmp 88) = xs 9 ∧ evX base O xs (.tmp 89) = xs 10 ∧ evX base O xs (.tmp 90) = xs 11 ∧ evX base O xs (.tmp 91) = xs 12 ∧ evX base O xs (.tmp 92) = xs 13 ∧ evX base O xs (.tmp 93) = xs 14 ∧ evX base O xs (.tmp 94) = xs 15 ∧ evX base O xs (.tmp 95) = xs 16 ∧ evX base O xs (.tmp 96) = xs 17 ∧ evX base O xs (.tmp 97) = xs 18 ∧ evX base O xs (.tmp 98) = xs 19 ∧ evX base O xs (.tmp 99) = xs 20 ∧ evX base O xs (.tmp 100) = xs 21 ∧ evX base O xs (.tmp 101) = xs 22 ∧ evX base O xs (.tmp 102) = xs 23 ∧ evX base O xs (.tmp 103) = xs 24 ∧ evX base O xs (.tmp 104) = xs 25 ∧ evX base O xs (.tmp 105) = xs 26 ∧ evX base O xs (.tmp 106) = xs 27 ∧ evX base O xs (.tmp 107) = xs 28 ∧ evX base O xs (.tmp 108) = xs 29 ∧ evX base O xs (.tmp 109) = xs 30 ∧ evX base O xs (.tmp 110) = xs 31 ∧ evX base O xs (.tmp 111) = xs 32 ∧ evX base O xs (.tmp 112) = xs 33 ∧ evX base O xs (.tmp 113) = xs 34 ∧ evX base O xs (.tmp 114) = xs 35 ∧ evX base O xs (.tmp 115) = xs 36 ∧ evX base O xs (.tmp 116) = xs 37 ∧ evX base O xs (.tmp 117) = xs 38 ∧ evX base O xs (.tmp 118) = xs 39 ∧ evX base O xs (.tmp 119) = xs 40 ∧ evX base O xs (.tmp 120) = xs 41 ∧ evX base O xs (.tmp 121) = xs 42 ∧ evX base O xs (.tmp 122) = xs 43 ∧ evX base O xs (.tmp 123) = xs 44 ∧ evX base O xs (.tmp 124) = xs 45 ∧ evX base O xs (.tmp 125) = xs 46 ∧ evX base O xs (.tmp 126) = xs 47 ∧ evX base O xs (.tmp 127) = xs 48 ∧ evX base O xs (.tmp 128) = xs 49 ∧ evX base O xs (.tmp 129) = xs 50 ∧ evX base O xs (.tmp 130) = xs 51 ∧ evX base O xs (.tmp 131) = xs 52 ∧ evX base O xs (.tmp 132) = xs 53 ∧ evX base O xs (.tmp 133) = xs 54 ∧ evX base O xs (.tmp 134) = xs 55 ∧ evX base O xs (.tmp 135) = xs 56 ∧ evX base O xs (.tmp 136) = xs 57 ∧ evX base O xs (.tmp 137) = xs 58 ∧ evX base O xs (.tmp 138) = xs 59 ∧ evX base O xs (.tmp 139) = xs 60 ∧ evX base O xs (.tmp 140) = xs 61 ∧ evX base O xs (.tmp 141) = xs 62 ∧ evX base O xs (.tmp 142) = xs 63 ∧ evX base O xs (.tmp 143) = xs 64 ∧ evX base O xs (.tmp 144) = xs 65 ∧ evX base O xs (.tmp 145) = xs 66 ∧ evX base O xs (.tmp 146) = xs 67 ∧ evX base O xs (.tmp 147) = xs 68 ∧ evX base O xs (.tmp 148) = xs 69 ∧ evX base O xs (.tmp 149) = xs 70 ∧ evX base O xs (.tmp 150) = xs 71 ∧ evX base O xs (.tmp 151) = xs 72 ∧ evX base O xs (.tmp 152) = xs 73 ∧ evX base O xs (.tmp 153) = xs 74 ∧ evX base O xs (.tmp 154) = xs 75 ∧ evX base O xs (.tmp 155) = xs 76 ∧ evX base O xs (.tmp 156) = xs 77 ∧ evX base O xs (.tmp 157) = xs 78 ∧ evX base O xs (.tmp 158) = xs 79 ∧ evX base O xs (.tmp 159) = xs 80 ∧ evX base O xs (.tmp 160) = xs 81 ∧ evX base O xs (.tmp 161) = xs 82) := fun xs => by rw [hbase, hO]; exact ⟨rfl, rfl, rfl, rfl, rfl, rfl, rfl, rfl, rfl, rfl, rfl, rfl, rfl, rfl, rfl, rfl, rfl, rfl, rfl, rfl, rfl, rfl, rfl, rfl, rfl, rfl, rfl, rfl, rfl, rfl, rfl, rfl, rfl, rfl, rfl, rfl, rfl, rfl, rfl, rfl, rfl, rfl, rfl, rfl, rfl, rfl, rfl, rfl, rfl, rfl, rfl, rfl, rfl, rfl, rfl, rfl, rfl, rfl, rfl, rfl, rfl, rfl, rfl, rfl, rfl, rfl, rfl, rfl, rfl, rfl, rfl, rfl, rfl, rfl, rfl, rfl, rfl, rfl, rfl, rfl, rfl, rfl, rfl, rfl, rfl, rfl⟩
                  clear hbase hO
                  apply gh_det (n := 0)
                  · intro fl xs w ev hG hD hl hdone hev K hK
                    have e9 := (hev (.tmp 9)).trans ((kx1.out xs).2.2.1)
                    rw [if_pos (wantedX_none rfl)]
                    have ef : ∀ f, ev (.func f) = .func (.func f) #[] #[] := fun f => (hev _).trans rfl
                    clear hev hD
                    go_simp
                    exact hK _ _ rfl hG
                  apply gh_det (n := 1)
                  · intro fl xs w ev hG hD hl hdone hev K hK
                    have e79 := (hev (.tmp 79)).trans ((kx1.out xs).2.2.2.1)
                    have d0 := hD.at_ 0 rfl rfl
                    replace e79 := e79.trans d0
                    rw [if_pos (wantedX_none rfl)]
                    have ef : ∀ f, ev (.func f) = .func (.func f) #[] #[] := fun f => (hev _).trans rfl
                    have ec : ∀ v, ev (.const v) = v := fun v => (hev _).trans rfl
                    clear hev hD
                    go_simp
                    exact hK _ _ rfl hG
                  apply gh_det (n := 2)
                  · intro fl xs w ev hG hD hl hdone hev K hK
                    have e80 := (hev (.tmp 80)).trans ((kx1.out xs).2.2.2.2.1)
                    have d1 := hD.at_ 1 rfl rfl
                    replace e80 := e80.trans d1
                    rw [if_pos (wantedX_none rfl)]
                    have ef : ∀ f, ev (.func f) = .func (.func f) #[] #[] := fun f => (hev _).trans rfl
                    clear hev hD
                    go_simp
                    exact hK _ _ rfl hG
                  apply gh_det (n := 3)
                  · intro fl xs w ev hG hD hl hdone hev K hK
                    have e6 := (hev (.tmp 6)).trans ((kx1.out xs).1)
                    have dg := hD.at_ 2 rfl rfl
                    rw [if_pos (wantedX_yes 2 true rfl dg)]
                    have ef : ∀ f, ev (.func f) = .func (.func f) #[] #[] := fun f => (hev _).trans rfl
                    clear hev hD
                    go_simp
                    exact hK _ _ rfl hG
                  apply gh_det (n := 4)
                  · intro fl xs w ev hG hD hl hdone hev K hK
                    have e8 := (hev (.tmp 8)).trans ((kx1.out xs).2.1)
                    have dg := hD.at_ 2 rfl rfl
                    rw [if_pos (wantedX_yes 2 true rfl dg)]
                    have ef : ∀ f, ev (.func f) = .func (.func f) #[] #[] := fun f => (hev _).trans rfl
                    clear hev hD
                    go_simp
                    exact hK _ _ rfl hG
                  apply gh_det (n := 5)
                  · intro fl xs w ev hG hD hl hdone hev K hK
                    have e82 := (hev (.tmp 82)).trans ((kx1.out xs).2.2.2.2.2.2.1)
                    have d3 := hD.at_ 3 rfl rfl
                    replace e82 := e82.trans d3
                    have e83 := (hev (.tmp 83)).trans ((kx1.out xs).2.2.2.2.2.2.2.1)
                    have d4 := hD.at_ 4 rfl rfl
                    replace e83 := e83.trans d4
                    have dg := hD.at_ 2 rfl rfl
                    rw [if_pos (wantedX_yes 2 true rfl dg)]
                    have ef : ∀ f, ev (.func f) = .func (.func f) #[] #[] := fun f => (hev _).trans rfl
                    clear hev hD
                    go_simp
                    exact hK _ _ rfl hG
                  apply gh_det (n := 6)
                  · intro fl xs w ev hG hD hl hdone hev K hK
                    have e84 := (hev (.tmp 84)).trans ((kx1.out xs).2.2.2.2.2.2.2.2.1)
                    have d5 := hD.at_ 5 rfl rfl
                    replace e84 := e84.trans d5
                    have dg := hD.at_ 2 rfl rfl
                    rw [if_pos (wantedX_yes 2 true rfl dg)]
                    have ef : ∀ f, ev (.func f) = .func (.func f) #[] #[] := fun f => (hev _).trans rfl
                    clear hev hD
                    have m0 := (hG.cell (p := ⟨bR, _, none⟩) zbR).trans fw
                    go_simp
                    exact hK _ _ rfl hG
                  apply gh_det (n := 7)
                  · intro fl xs w ev hG hD hl hdone hev K hK
                    have e9 := (hev (.tmp 9)).trans ((kx1.out xs).2.2.1)
                    have dg := hD.at_ 2 rfl rfl
                    rw [if_pos (wantedX_yes 2 true rfl dg)]
                    have ef : ∀ f, ev (.func f) = .func (.func f) #[] #[] := fun f => (hev _).trans rfl
                    clear hev hD
                    go_simp
                    exact hK _ _ rfl hG
                  apply gh_det (n := 8)
                  · intro fl xs w ev hG hD hl hdone hev K hK
                    have e86 := (hev (.tmp 86)).trans ((kx1.out xs).2.2.2.2.2.2.2.2.2.2.1)
                    have d7 := hD.at_ 7 rfl rfl
                    replace e86 := e86.trans d7
                    have dg := hD.at_ 2 rfl rfl
                    rw [if_pos (wantedX_yes 2 true rfl dg)]
                    have ef : ∀ f, ev (.func f) = .func (.func f) #[] #[] := fun f => (hev _).trans rfl
                    have ec : ∀ v, ev (.const v) = v := fun v => (hev _).trans rfl
                    clear hev hD
                    go_simp
                    exact hK _ _ rfl hG
                  apply gh_det (n := 9)
                  · intro fl xs w ev hG hD hl hdone hev K hK
                    have e85 := (hev (.tmp 85)).trans ((kx1.out xs).2.2.2.2.2.2.2.2.2.1)
                    have d6 := hD.at_ 6 rfl rfl
                    replace e85 := e85.trans d6
                    have e87 := (hev (.tmp 87)).trans ((kx1.out xs).2.2.2.2.2.2.2.2.2.2.2.1)
                    have d8 := hD.at_ 8 rfl rfl
                    replace e87 := e87.trans d8
                    have dg := hD.at_ 2 rfl rfl
                    rw [if_pos (wantedX_yes 2 true rfl dg)]
                    have ef : ∀ f, ev (.func f) = .func (.func f) #[] #[] := fun f => (hev _).trans rfl
                    clear hev hD
                    go_simp
                    exact hK _ _ rfl hG
                  apply gh_det (n := 10)
                  · intro fl xs w ev hG hD hl hdone hev K hK
                    have e88 := (hev (.tmp 88)).trans ((kx1.out xs).2.2.2.2.2.2.2.2.2.2.2.2.1)
                    have d9 := hD.at_ 9 rfl rfl
                    replace e88 := e88.trans d9
                    have dg := hD.at_ 2 rfl rfl
                    rw [if_pos (wantedX_yes 2 true rfl dg)]
                    have ef : ∀ f, ev (.func f) = .func (.func f) #[] #[] := fun f => (hev _).trans rfl
                    clear hev hD
                    go_simp
                    exact hK _ _ rfl hG
                  apply gh_det (n := 11)
                  · intro fl xs w ev hG hD hl hdone hev K hK
                    have e89 := (hev (.tmp 89)).trans ((kx1.out xs).2.2.2.2.2.2.2.2.2.2.2.2.2.1)
                    have d10 := hD.at_ 10 rfl rfl
                    replace e89 := e89.trans d10
                    have dg := hD.at_ 2 rfl rfl
                    rw [if_pos (wantedX_yes 2 true rfl dg)]
                    have ef : ∀ f, ev (.func f) = .func (.func f) #[] #[] := fun f => (hev _).trans rfl
                    clear hev hD
                    have m0 := (hG.cell (p := ⟨bE, _, none⟩) hbE).trans k0
                    go_simp
                    exact hK _ _ rfl hG
                  apply gh_det (n := 12)
                  · intro fl xs w ev hG hD hl hdone hev K hK
                    have e6 := (hev (.tmp 6)).trans ((kx1.out xs).1)
                    have dg := hD.at_ 2 rfl rfl
                    rw [if_pos (wantedX_yes 2 true rfl dg)]
                    have ef : ∀ f, ev (.func f) = .func (.func f) #[] #[] := fun f => (hev _).trans rfl
                    clear hev hD
                    go_simp
                    exact hK _ _ rfl hG
                  apply gh_det (n := 13)
                  · intro fl xs w ev hG hD hl hdone hev K hK
                    have e8 := (hev (.tmp 8)).trans ((kx1.out xs).2.1)
                    have dg := hD.at_ 2 rfl rfl
                    rw [if_pos (wantedX_yes 2 true rfl dg)]
                    have ef : ∀ f, ev (.func f) = .func (.func f) #[] #[] := fun f => (hev _).trans rfl
                    clear hev hD
                    go_simp
                    exact hK _ _ rfl hG
                  apply gh_det (n := 14)
                  · intro fl xs w ev hG hD hl hdone hev K hK
                    have e91 := (hev (.tmp 91)).trans ((kx1.out xs).2.2.2.2.2.2.2.2.2.2.2.2.2.2.2.1)
                    have d12 := hD.at_ 12 rfl rfl
                    replace e91 := e91.trans d12
                    have e92 := (hev (.tmp 92)).trans ((kx1.out xs).2.2.2.2.2.2.2.2.2.2.2.2.2.2.2.2.1)
                    have d13 := hD.at_ 13 rfl rfl
                    replace e92 := e92.trans d13
                    have dg := hD.at_ 2 rfl rfl
                    rw [if_pos (wantedX_yes 2 true rfl dg)]
                    have ef : ∀ f, ev (.func f) = .func (.func f) #[] #[] := fun f => (hev _).trans rfl
                    clear hev hD
                    go_simp
                    exact hK _ _ rfl hG
                  apply gh_det (n := 15)
                  · intro fl xs w ev hG hD hl hdone hev K hK
                    have e93 := (hev (.tmp 93)).trans ((kx1.out xs).2.2.2.2.2.2.2.2.2.2.2.2.2.2.2.2.2.1)
                    have d14 := hD.at_ 14 rfl rfl
                    replace e93 := e93.trans d14
                    have dg := hD.at_ 2 rfl rfl
                    rw [if_pos (wantedX_yes 2 true rfl dg)]
                    have ef : ∀ f, ev (.func f) = .func (.func f) #[] #[] := fun f => (hev _).trans rfl
                    clear hev hD
                    have m0 := (hG.cell (p := ⟨bR, _, none⟩) zbR).trans fw
                    go_simp
                    exact hK _ _ rfl hG
                  apply gh_det (n := 16)
                  · intro fl xs w ev hG hD hl hdone hev K hK
                    have e9 := (hev (.tmp 9)).trans ((kx1.out xs).2.2.1)
                    have dg := hD.at_ 2 rfl rfl
                    rw [if_pos (wantedX_yes 2 true rfl dg)]
                    have ef : ∀ f, ev (.func f) = .func (.func f) #[] #[] := fun f => (hev _).trans rfl
                    clear hev hD
                    go_simp
                    exact hK _ _ rfl hG
                  apply gh_det (n := 17)
                  · intro fl xs w ev hG hD hl hdone hev K hK
                    have e94 := (hev (.tmp 94)).trans ((kx1.out xs).2.2.2.2.2.2.2.2.2.2.2.2.2.2.2.2.2.2.1)
                    have d15 := hD.at_ 15 rfl rfl
                    replace e94 := e94.trans d15
                    have e95 := (hev (.tmp 95)).trans ((kx1.out xs).2.2.2.2.2.2.2.2.2.2.2.2.2.2.2.2.2.2.2.1)
                    have d16 := hD.at_ 16 rfl rfl
                    replace e95 := e95.trans d16
                    have dg := hD.at_ 2 rfl rfl
                    rw [if_pos (wantedX_yes 2 true rfl dg)]
                    have ef : ∀ f, ev (.func f) = .func (.func f) #[] #[] := fun f => (hev _).trans rfl
                    clear hev hD
                    go_simp
                    exact hK _ _ rfl hG
                  apply gh_det (n := 18)
                  · intro fl xs w ev hG hD hl hdone hev K hK
                    have e96 := (hev (.tmp 96)).trans ((kx1.out xs).2.2.2.2.2.2.2.2.2.2.2.2.2.2.2.2.2.2.2.2.1)
                    have d17 := hD.at_ 17 rfl rfl
                    replace e96 := e96.trans d17
                    have dg := hD.at_ 2 rfl rfl
                    rw [if_pos (wantedX_yes 2 true rfl dg)]
                    have ef : ∀ f, ev (.func f) = .func (.func f) #[] #[] := fun f => (hev _).trans rfl
                    clear hev hD
                    go_simp
                    exact hK _ _ rfl hG
                  apply gh_det (n := 19)
                  · intro fl xs w ev hG hD hl hdone hev K hK
                    have e97 := (hev (.tmp 97)).trans ((kx1.out xs).2.2.2.2.2.2.2.2.2.2.2.2.2.2.2.2.2.2.2.2.2.1)
                    have d18 := hD.at_ 18 rfl rfl
                    replace e97 := e97.trans d18
                    have dg := hD.at_ 2 rfl rfl
                    rw [if_pos (wantedX_yes 2 true rfl dg)]
                    have ef : ∀ f, ev (.func f) = .func (.func f) #[] #[] := fun f => (hev _).trans rfl
                    clear hev hD
                    have m0 := (hG.cell (p := ⟨bE, _, none⟩) hbE).trans g0
                    go_simp
                    exact hK _ _ rfl hG
                  apply gh_det (n := 20)
                  · intro fl xs w ev hG hD hl hdone hev K hK
                    have e90 := (hev (.tmp 90)).trans ((kx1.out xs).2.2.2.2.2.2.2.2.2.2.2.2.2.2.1)
                    have d11 := hD.at_ 11 rfl rfl
                    replace e90 := e90.trans d11
                    have e98 := (hev (.tmp 98)).trans ((kx1.out xs).2.2.2.2.2.2.2.2.2.2.2.2.2.2.2.2.2.2.2.2.2.2.1)
                    have d19 := hD.at_ 19 rfl rfl
                    replace e98 := e98.trans d19
                    have dg := hD.at_ 2 rfl rfl
                    rw [if_pos (wantedX_yes 2 true rfl dg)]
                    have ef : ∀ f, ev (.func f) = .func (.func f) #[] #[] := fun f => (hev _).trans rfl
                    clear hev hD
                    go_simp
                    exact hK _ _ rfl hG
                  apply gh_det (n := 21)
                  · intro fl xs w ev hG hD hl hdone hev K hK
                    have e99 := (hev (.tmp 99)).trans ((kx1.out xs).2.2.2.2.2.2.2.2.2.2.2.2.2.2.2.2.2.2.2.2.2.2.2.1)
                    have d20 := hD.at_ 20 rfl rfl
                    replace e99 := e99.trans d20
                    have dg := hD.at_ 2 rfl rfl
                    rw [if_pos (wantedX_yes 2 true rfl dg)]
                    have ef : ∀ f, ev (.func f) = .func (.func f) #[] #[] := fun f => (hev _).trans rfl
                    clear hev hD
                    go_simp
                    exact hK _ _ rfl hG
                  apply gh_det (n := 22)
                  · intro fl xs w ev hG hD hl hdone hev K hK
                    have e6 := (hev (.tmp 6)).trans ((kx1.out xs).1)
                    have dg := hD.at_ 21 rfl rfl
                    rw [if_pos (wantedX_yes 21 false rfl dg)]
                    have ef : ∀ f, ev (.func f) = .func (.func f) #[] #[] := fun f => (hev _).trans rfl
                    clear hev hD
                    go_simp
                    exact hK _ _ rfl hG
                  apply gh_det (n := 23)
                  · intro fl xs w ev hG hD hl hdone hev K hK
                    have e8 := (hev (.tmp 8)).trans ((kx1.out xs).2.1)
                    have dg := hD.at_ 21 rfl rfl
                    rw [if_pos (wantedX_yes 21 false rfl dg)]
                    have ef : ∀ f, ev (.func f) = .func (.func f) #[] #[] := fun f => (hev _).trans rfl
                    clear hev hD
                    go_simp
                    exact hK _ _ rfl hG
                  apply gh_det (n := 24)
                  · intro fl xs w ev hG hD hl hdone hev K hK
                    have e101 := (hev (.tmp 101)).trans ((kx1.out xs).2.2.2.2.2.2.2.2.2.2.2.2.2.2.2.2.2.2.2.2.2.2.2.2.2.1)
                    have d22 := hD.at_ 22 rfl rfl
                    replace e101 := e101.trans d22
                    have e102 := (hev (.tmp 102)).trans ((kx1.out xs).2.2.2.2.2.2.2.2.2.2.2.2.2.2.2.2.2.2.2.2.2.2.2.2.2.2.1)
                    have d23 := hD.at_ 23 rfl rfl
                    replace e102 := e102.trans d23
                    have dg := hD.at_ 21 rfl rfl
                    rw [if_pos (wantedX_yes 21 false rfl dg)]
                    have ef : ∀ f, ev (.func f) = .func (.func f) #[] #[] := fun f => (hev _).trans rfl
                    clear hev hD
                    go_simp
                    exact hK _ _ rfl hG
                  apply gh_det (n := 25)
                  · intro fl xs w ev hG hD hl hdone hev K hK
                    have e103 := (hev (.tmp 103)).trans ((kx1.out xs).2.2.2.2.2.2.2.2.2.2.2.2.2.2.2.2.2.2.2.2.2.2.2.2.2.2.2.1)
                    have d24 := hD.at_ 24 rfl rfl
                    replace e103 := e103.trans d24
                    have dg := hD.at_ 21 rfl rfl
                    rw [if_pos (wantedX_yes 21 false rfl dg)]
                    have ef : ∀ f, ev (.func f) = .func (.func f) #[] #[] := fun f => (hev _).trans rfl
                    clear hev hD
                    have m0 := (hG.cell (p := ⟨bR, _, none⟩) zbR).trans fw
                    go_simp
                    exact hK _ _ rfl hG
                  apply gh_det (n := 26)
                  · intro fl xs w ev hG hD hl hdone hev K hK
                    have e9 := (hev (.tmp 9)).trans ((kx1.out xs).2.2.1)
                    have dg := hD.at_ 21 rfl rfl
                    rw [if_pos (wantedX_yes 21 false rfl dg)]
                    have ef : ∀ f, ev (.func f) = .func (.func f) #[] #[] := fun f => (hev _).trans rfl
                    clear hev hD
                    go_simp
                    exact hK _ _ rfl hG
                  apply gh_det (n := 27)
                  · intro fl xs w ev hG hD hl hdone hev K hK
                    have e105 := (hev (.tmp 105)).trans ((kx1.out xs).2.2.2.2.2.2.2.2.2.2.2.2.2.2.2.2.2.2.2.2.2.2.2.2.2.2.2.2.2.1)
                    have d26 := hD.at_ 26 rfl rfl
                    replace e105 := e105.trans d26
                    have dg := hD.at_ 21 rfl rfl
                    rw [if_pos (wantedX_yes 21 false rfl dg)]
                    have ef : ∀ f, ev (.func f) = .func (.func f) #[] #[] := fun f => (hev _).trans rfl
                    have ec : ∀ v, ev (.const v) = v := fun v => (hev _).trans rfl
                    clear hev hD
                    go_simp
                    exact hK _ _ rfl hG
                  apply gh_det (n := 28)
                  · intro fl xs w ev hG hD hl hdone hev K hK
                    have e104 := (hev (.tmp 104)).trans ((kx1.out xs).2.2.2.2.2.2.2.2.2.2.2.2.2.2.2.2.2.2.2.2.2.2.2.2.2.2.2.2.1)
                    have d25 := hD.at_ 25 rfl rfl
                    replace e104 := e104.trans d25
                    have e106 := (hev (.tmp 106)).trans ((kx1.out xs).2.2.2.2.2.2.2.2.2.2.2.2.2.2.2.2.2.2.2.2.2.2.2.2.2.2.2.2.2.2.1)
                    have d27 := hD.at_ 27 rfl rfl
                    replace e106 := e106.trans d27
                    have dg := hD.at_ 21 rfl rfl
                    rw [if_pos (wantedX_yes 21 false rfl dg)]
                    have ef : ∀ f, ev (.func f) = .func (.func f) #[] #[] := fun f => (hev _).trans rfl
                    clear hev hD
                    go_simp
                    exact hK _ _ rfl hG
                  apply gh_det (n := 29)
                  · intro fl xs w ev hG hD hl hdone hev K hK
                    have e107 := (hev (.tmp 107)).trans ((kx1.out xs).2.2.2.2.2.2.2.2.2.2.2.2.2.2.2.2.2.2.2.2.2.2.2.2.2.2.2.2.2.2.2.1)
                    have d28 := hD.at_ 28 rfl rfl
                    replace e107 := e107.trans d28
                    have dg := hD.at_ 21 rfl rfl
                    rw [if_pos (wantedX_yes 21 false rfl dg)]
                    have ef : ∀ f, ev (.func f) = .func (.func f) #[] #[] := fun f => (hev _).trans rfl
                    clear hev hD
                    go_simp
                    exact hK _ _ rfl hG
                  apply gh_det (n := 30)
                  · intro fl xs w ev hG hD hl hdone hev K hK
                    have e108 := (hev (.tmp 108)).trans ((kx1.out xs).2.2.2.2.2.2.2.2.2.2.2.2.2.2.2.2.2.2.2.2.2.2.2.2.2.2.2.2.2.2.2.2.1)
                    have d29 := hD.at_ 29 rfl rfl
                    replace e108 := e108.trans d29
                    have dg := hD.at_ 21 rfl rfl
                    rw [if_pos (wantedX_yes 21 false rfl dg)]
                    have ef : ∀ f, ev (.func f) = .func (.func f) #[] #[] := fun f => (hev _).trans rfl
                    clear hev hD
                    have m0 := (hG.cell (p := ⟨bE, _, none⟩) hbE).trans k0
                    go_simp
                    exact hK _ _ rfl hG
                  apply gh_det (n := 31)
                  · intro fl xs w ev hG hD hl hdone hev K hK
                    have e6 := (hev (.tmp 6)).trans ((kx1.out xs).1)
                    have dg := hD.at_ 21 rfl rfl
                    rw [if_pos (wantedX_yes 21 false rfl dg)]
                    have ef : ∀ f, ev (.func f) = .func (.func f) #[] #[] := fun f => (hev _).trans rfl
                    clear hev hD
                    go_simp
                    exact hK _ _ rfl hG
                  apply gh_det (n := 32)
                  · intro fl xs w ev hG hD hl hdone hev K hK
                    have e8 := (hev (.tmp 8)).trans ((kx1.out xs).2.1)
                    have dg := hD.at_ 21 rfl rfl
                    rw [if_pos (wantedX_yes 21 false rfl dg)]
                    have ef : ∀ f, ev (.func f) = .func (.func f) #[] #[] := fun f => (hev _).trans rfl
                    clear hev hD
                    go_simp
                    exact hK _ _ rfl hG
                  apply gh_det (n := 33)
                  · intro fl xs w ev hG hD hl hdone hev K hK
                    have e110 := (hev (.tmp 110)).trans ((kx1.out xs).2.2.2.2.2.2.2.2.2.2.2.2.2.2.2.2.2.2.2.2.2.2.2.2.2.2.2.2.2.2.2.2.2.2.1)
                    have d31 := hD.at_ 31 rfl rfl
                    replace e110 := e110.trans d31
                    have e111 := (hev (.tmp 111)).trans ((kx1.out xs).2.2.2.2.2.2.2.2.2.2.2.2.2.2.2.2.2.2.2.2.2.2.2.2.2.2.2.2.2.2.2.2.2.2.2.1)
                    have d32 := hD.at_ 32 rfl rfl
                    replace e111 := e111.trans d32
                    have dg := hD.at_ 21 rfl rfl
                    rw [if_pos (wantedX_yes 21 false rfl dg)]
                    have ef : ∀ f, ev (.func f) = .func (.func f) #[] #[] := fun f => (hev _).trans rfl
                    clear hev hD
                    go_simp
                    exact hK _ _ rfl hG
                  apply gh_det (n := 34)
                  · intro fl xs w ev hG hD hl hdone hev K hK
                    have e112 := (hev (.tmp 112)).trans ((kx1.out xs).2.2.2.2.2.2.2.2.2.2.2.2.2.2.2.2.2.2.2.2.2.2.2.2.2.2.2.2.2.2.2.2.2.2.2.2.1)
                    have d33 := hD.at_ 33 rfl rfl
                    replace e112 := e112.trans d33
                    have dg := hD.at_ 21 rfl rfl
                    rw [if_pos (wantedX_yes 21 false rfl dg)]
                    have ef : ∀ f, ev (.func f) = .func (.func f) #[] #[] := fun f => (hev _).trans rfl
                    clear hev hD
                    have m0 := (hG.cell (p := ⟨bR, _, none⟩) zbR).trans fw
                    go_simp
                    exact hK _ _ rfl hG
                  apply gh_det (n := 35)
                  · intro fl xs w ev hG hD hl hdone hev K hK
                    have e9 := (hev (.tmp 9)).trans ((kx1.out xs).2.2.1)
                    have dg := hD.at_ 21 rfl rfl
                    rw [if_pos (wantedX_yes 21 false rfl dg)]
                    have ef : ∀ f, ev (.func f) = .func (.func f) #[] #[] := fun f => (hev _).trans rfl
                    clear hev hD
                    go_simp
                    exact hK _ _ rfl hG
                  apply gh_det (n := 36)
                  · intro fl xs w ev hG hD hl hdone hev K hK
                    have e113 := (hev (.tmp 113)).trans ((kx1.out xs).2.2.2.2.2.2.2.2.2.2.2.2.2.2.2.2.2.2.2.2.2.2.2.2.2.2.2.2.2.2.2.2.2.2.2.2.2.1)
                    have d34 := hD.at_ 34 rfl rfl
                    replace e113 := e113.trans d34
                    have e114 := (hev (.tmp 114)).trans ((kx1.out xs).2.2.2.2.2.2.2.2.2.2.2.2.2.2.2.2.2.2.2.2.2.2.2.2.2.2.2.2.2.2.2.2.2.2.2.2.2.2.1)
                    have d35 := hD.at_ 35 rfl rfl
                    replace e114 := e114.trans d35
                    have dg := hD.at_ 21 rfl rfl
                    rw [if_pos (wantedX_yes 21 false rfl dg)]
                    have ef : ∀ f, ev (.func f) = .func (.func f) #[] #[] := fun f => (hev _).trans rfl
                    clear hev hD
                    go_simp
                    exact hK _ _ rfl hG
                  apply gh_det (n := 37)
                  · intro fl xs w ev hG hD hl hdone hev K hK
                    have e115 := (hev (.tmp 115)).trans ((kx1.out xs).2.2.2.2.2.2.2.2.2.2.2.2.2.2.2.2.2.2.2.2.2.2.2.2.2.2.2.2.2.2.2.2.2.2.2.2.2.2.2.1)
                    have d36 := hD.at_ 36 rfl rfl
                    replace e115 := e115.trans d36
                    have dg := hD.at_ 21 rfl rfl
                    rw [if_pos (wantedX_yes 21 false rfl dg)]
                    have ef : ∀ f, ev (.func f) = .func (.func f) #[] #[] := fun f => (hev _).trans rfl
                    clear hev hD
                    go_simp
                    exact hK _ _ rfl hG
                  apply gh_det (n := 38)
                  · intro fl xs w ev hG hD hl hdone hev K hK
                    have e116 := (hev (.tmp 116)).trans ((kx1.out xs).2.2.2.2.2.2.2.2.2.2.2.2.2.2.2.2.2.2.2.2.2.2.2.2.2.2.2.2.2.2.2.2.2.2.2.2.2.2.2.2.1)
                    have d37 := hD.at_ 37 rfl rfl
                    replace e116 := e116.trans d37
                    have dg := hD.at_ 21 rfl rfl
                    rw [if_pos (wantedX_yes 21 false rfl dg)]
                    have ef : ∀ f, ev (.func f) = .func (.func f) #[] #[] := fun f => (hev _).trans rfl
                    clear hev hD
                    have m0 := (hG.cell (p := ⟨bE, _, none⟩) hbE).trans g0
                    go_simp
                    exact hK _ _ rfl hG
                  apply gh_det (n := 39)
                  · intro fl xs w ev hG hD hl hdone hev K hK
                    have e109 := (hev (.tmp 109)).trans ((kx1.out xs).2.2.2.2.2.2.2.2.2.2.2.2.2.2.2.2.2.2.2.2.2.2.2.2.2.2.2.2.2.2.2.2.2.1)
                    have d30 := hD.at_ 30 rfl rfl
                    replace e109 := e109.trans d30
                    have e117 := (hev (.tmp 117)).trans ((kx1.out xs).2.2.2.2.2.2.2.2.2.2.2.2.2.2.2.2.2.2.2.2.2.2.2.2.2.2.2.2.2.2.2.2.2.2.2.2.2.2.2.2.2.1)
                    have d38 := hD.at_ 38 rfl rfl
                    replace e117 := e117.trans d38
                    have dg := hD.at_ 21 rfl rfl
                    rw [if_pos (wantedX_yes 21 false rfl dg)]
                    have ef : ∀ f, ev (.func f) = .func (.func f) #[] #[] := fun f => (hev _).trans rfl
                    clear hev hD
                    go_simp
                    exact hK _ _ rfl hG
                  apply gh_det (n := 40)
                  · intro fl xs w ev hG hD hl hdone hev K hK
                    have e118 := (hev (.tmp 118)).trans ((kx1.out xs).2.2.2.2.2.2.2.2.2.2.2.2.2.2.2.2.2.2.2.2.2.2.2.2.2.2.2.2.2.2.2.2.2.2.2.2.2.2.2.2.2.2.1)
                    have d39 := hD.at_ 39 rfl rfl
                    replace e118 := e118.trans d39
                    have dg := hD.at_ 21 rfl rfl
                    rw [if_pos (wantedX_yes 21 false rfl dg)]
                    have ef : ∀ f, ev (.func f) = .func (.func f) #[] #[] := fun f => (hev _).trans rfl
                    clear hev hD
                    go_simp
                    exact hK _ _ rfl hG
                  apply gh_det (n := 41)
                  · intro fl xs w ev hG hD hl hdone hev K hK
                    have e6 := (hev (.tmp 6)).trans ((kx1.out xs).1)
                    have dg := hD.at_ 40 rfl rfl
                    rw [if_pos (wantedX_yes 40 true rfl dg)]
                    have ef : ∀ f, ev (.func f) = .func (.func f) #[] #[] := fun f => (hev _).trans rfl
                    clear hev hD
                    go_simp
                    exact hK _ _ rfl hG
                  apply gh_det (n := 42)
                  · intro fl xs w ev hG hD hl hdone hev K hK
                    have e8 := (hev (.tmp 8)).trans ((kx1.out xs).2.1)
                    have dg := hD.at_ 40 rfl rfl
                    rw [if_pos (wantedX_yes 40 true rfl dg)]
                    have ef : ∀ f, ev (.func f) = .func (.func f) #[] #[] := fun f => (hev _).trans rfl
                    clear hev hD
                    go_simp
                    exact hK _ _ rfl hG
                  apply gh_det (n := 43)
                  · intro fl xs w ev hG hD hl hdone hev K hK
                    have e120 := (hev (.tmp 120)).trans ((kx1.out xs).2.2.2.2.2.2.2.2.2.2.2.2.2.2.2.2.2.2.2.2.2.2.2.2.2.2.2.2.2.2.2.2.2.2.2.2.2.2.2.2.2.2.2.2.1)
                    have d41 := hD.at_ 41 rfl rfl
                    replace e120 := e120.trans d41
                    have e121 := (hev (.tmp 121)).trans ((kx1.out xs).2.2.2.2.2.2.2.2.2.2.2.2.2.2.2.2.2.2.2.2.2.2.2.2.2.2.2.2.2.2.2.2.2.2.2.2.2.2.2.2.2.2.2.2.2.1)
                    have d42 := hD.at_ 42 rfl rfl
                    replace e121 := e121.trans d42
                    have dg := hD.at_ 40 rfl rfl
                    rw [if_pos (wantedX_yes 40 true rfl dg)]
                    have ef : ∀ f, ev (.func f) = .func (.func f) #[] #[] := fun f => (hev _).trans rfl
                    clear hev hD
                    go_simp
                    exact hK _ _ rfl hG
                  apply gh_det (n := 44)
                  · intro fl xs w ev hG hD hl hdone hev K hK
                    have e122 := (hev (.tmp 122)).trans ((kx1.out xs).2.2.2.2.2.2.2.2.2.2.2.2.2.2.2.2.2.2.2.2.2.2.2.2.2.2.2.2.2.2.2.2.2.2.2.2.2.2.2.2.2.2.2.2.2.2.1)
                    have d43 := hD.at_ 43 rfl rfl
                    replace e122 := e122.trans d43
                    have dg := hD.at_ 40 rfl rfl
                    rw [if_pos (wantedX_yes 40 true rfl dg)]
                    have ef : ∀ f, ev (.func f) = .func (.func f) #[] #[] := fun f => (hev _).trans rfl
                    clear hev hD
                    have m0 := (hG.cell (p := ⟨bR, _, none⟩) zbR).trans fw
                    go_simp
                    exact hK _ _ rfl hG
                  apply gh_det (n := 45)
                  · intro fl xs w ev hG hD hl hdone hev K hK
                    have e9 := (hev (.tmp 9)).trans ((kx1.out xs).2.2.1)
                    have dg := hD.at_ 40 rfl rfl
                    rw [if_pos (wantedX_yes 40 true rfl dg)]
                    have ef : ∀ f, ev (.func f) = .func (.func f) #[] #[] := fun f => (hev _).trans rfl
                    clear hev hD
                    go_simp
                    exact hK _ _ rfl hG
                  apply gh_det (n := 46)
                  · intro fl xs w ev hG hD hl hdone hev K hK
                    have e124 := (hev (.tmp 124)).trans ((kx1.out xs).2.2.2.2.2.2.2.2.2.2.2.2.2.2.2.2.2.2.2.2.2.2.2.2.2.2.2.2.2.2.2.2.2.2.2.2.2.2.2.2.2.2.2.2.2.2.2.2.1)
                    have d45 := hD.at_ 45 rfl rfl
                    replace e124 := e124.trans d45
                    have dg := hD.at_ 40 rfl rfl
                    rw [if_pos (wantedX_yes 40 true rfl dg)]
                    have ef : ∀ f, ev (.func f) = .func (.func f) #[] #[] := fun f => (hev _).trans rfl
                    have ec : ∀ v, ev (.const v) = v := fun v => (hev _).trans rfl
                    clear hev hD
                    go_simp
                    exact hK _ _ rfl hG
                  apply gh_det (n := 47)
                  · intro fl xs w ev hG hD hl hdone hev K hK
                    have e123 := (hev (.tmp 123)).trans ((kx1.out xs).2.2.2.2.2.2.2.2.2.2.2.2.2.2.2.2.2.2.2.2.2.2.2.2.2.2.2.2.2.2.2.2.2.2.2.2.2.2.2.2.2.2.2.2.2.2.2.1)
                    have d44 := hD.at_ 44 rfl rfl
                    replace e123 := e123.trans d44
                    have e125 := (hev (.tmp 125)).trans ((kx1.out xs).2.2.2.2.2.2.2.2.2.2.2.2.2.2.2.2.2.2.2.2.2.2.2.2.2.2.2.2.2.2.2.2.2.2.2.2.2.2.2.2.2.2.2.2.2.2.2.2.2.1)
                    have d46 := hD.at_ 46 rfl rfl
                    replace e125 := e125.trans d46
                    have dg := hD.at_ 40 rfl rfl
                    rw [if_pos (wantedX_yes 40 true rfl dg)]
                    have ef : ∀ f, ev (.func f) = .func (.func f) #[] #[] := fun f => (hev _).trans rfl
                    clear hev hD
                    go_simp
                    exact hK _ _ rfl hG
                  apply gh_det (n := 48)
                  · intro fl xs w ev hG hD hl hdone hev K hK
                    have e126 := (hev (.tmp 126)).trans ((kx1.out xs).2.2.2.2.2.2.2.2.2.2.2.2.2.2.2.2.2.2.2.2.2.2.2.2.2.2.2.2.2.2.2.2.2.2.2.2.2.2.2.2.2.2.2.2.2.2.2.2.2.2.1)
                    have d47 := hD.at_ 47 rfl rfl
                    replace e126 := e126.trans d47
                    have dg := hD.at_ 40 rfl rfl
                    rw [if_pos (wantedX_yes 40 true rfl dg)]
                    have ef : ∀ f, ev (.func f) = .func (.func f) #[] #[] := fun f => (hev _).trans rfl
                    clear hev hD
                    go_simp
                    exact hK _ _ rfl hG
                  apply gh_det (n := 49)
                  · intro fl xs w ev hG hD hl hdone hev K hK
                    have e127 := (hev (.tmp 127)).trans ((kx1.out xs).2.2.2.2.2.2.2.2.2.2.2.2.2.2.2.2.2.2.2.2.2.2.2.2.2.2.2.2.2.2.2.2.2.2.2.2.2.2.2.2.2.2.2.2.2.2.2.2.2.2.2.1)
                    have d48 := hD.at_ 48 rfl rfl
                    replace e127 := e127.trans d48
                    have dg := hD.at_ 40 rfl rfl
                    rw [if_pos (wantedX_yes 40 true rfl dg)]
                    have ef : ∀ f, ev (.func f) = .func (.func f) #[] #[] := fun f => (hev _).trans rfl
                    clear hev hD
                    have m0 := (hG.cell (p := ⟨bE, _, none⟩) hbE).trans k1
                    go_simp
                    exact hK _ _ rfl hG
                  apply gh_det (n := 50)
                  · intro fl xs w ev hG hD hl hdone hev K hK
                    have e6 := (hev (.tmp 6)).trans ((kx1.out xs).1)
                    have dg := hD.at_ 40 rfl rfl
                    rw [if_pos (wantedX_yes 40 true rfl dg)]
                    have ef : ∀ f, ev (.func f) = .func (.func f) #[] #[] := fun f => (hev _).trans rfl
                    clear hev hD
                    go_simp
                    exact hK _ _ rfl hG
                  apply gh_det (n := 51)
                  · intro fl xs w ev hG hD hl hdone hev K hK
                    have e8 := (hev (.tmp 8)).trans ((kx1.out xs).2.1)
                    have dg := hD.at_ 40 rfl rfl
                    rw [if_pos (wantedX_yes 40 true rfl dg)]
                    have ef : ∀ f, ev (.func f) = .func (.func f) #[] #[] := fun f => (hev _).trans rfl
                    clear hev hD
                    go_simp
                    exact hK _ _ rfl hG
                  apply gh_det (n := 52)
                  · intro fl xs w ev hG hD hl hdone hev K hK
                    have e129 := (hev (.tmp 129)).trans ((kx1.out xs).2.2.2.2.2.2.2.2.2.2.2.2.2.2.2.2.2.2.2.2.2.2.2.2.2.2.2.2.2.2.2.2.2.2.2.2.2.2.2.2.2.2.2.2.2.2.2.2.2.2.2.2.2.1)
                    have d50 := hD.at_ 50 rfl rfl
                    replace e129 := e129.trans d50
                    have e130 := (hev (.tmp 130)).trans ((kx1.out xs).2.2.2.2.2.2.2.2.2.2.2.2.2.2.2.2.2.2.2.2.2.2.2.2.2.2.2.2.2.2.2.2.2.2.2.2.2.2.2.2.2.2.2.2.2.2.2.2.2.2.2.2.2.2.1)
                    have d51 := hD.at_ 51 rfl rfl
                    replace e130 := e130.trans d51
                    have dg := hD.at_ 40 rfl rfl
                    rw [if_pos (wantedX_yes 40 true rfl dg)]
                    have ef : ∀ f, ev (.func f) = .func (.func f) #[] #[] := fun f => (hev _).trans rfl
                    clear hev hD
                    go_simp
                    exact hK _ _ rfl hG
                  apply gh_det (n := 53)
                  · intro fl xs w ev hG hD hl hdone hev K hK
                    have e131 := (hev (.tmp 131)).trans ((kx1.out xs).2.2.2.2.2.2.2.2.2.2.2.2.2.2.2.2.2.2.2.2.2.2.2.2.2.2.2.2.2.2.2.2.2.2.2.2.2.2.2.2.2.2.2.2.2.2.2.2.2.2.2.2.2.2.2.1)
                    have d52 := hD.at_ 52 rfl rfl
                    replace e131 := e131.trans d52
                    have dg := hD.at_ 40 rfl rfl
                    rw [if_pos (wantedX_yes 40 true rfl dg)]
                    have ef : ∀ f, ev (.func f) = .func (.func f) #[] #[] := fun f => (hev _).trans rfl
                    clear hev hD
                    have m0 := (hG.cell (p := ⟨bR, _, none⟩) zbR).trans fw
                    go_simp
                    exact hK _ _ rfl hG
                  apply gh_det (n := 54)
                  · intro fl xs w ev hG hD hl hdone hev K hK
                    have e9 := (hev (.tmp 9)).trans ((kx1.out xs).2.2.1)
                    have dg := hD.at_ 40 rfl rfl
                    rw [if_pos (wantedX_yes 40 true rfl dg)]
                    have ef : ∀ f, ev (.func f) = .func (.func f) #[] #[] := fun f => (hev _).trans rfl
                    clear hev hD
                    go_simp
                    exact hK _ _ rfl hG
                  apply gh_det (n := 55)
                  · intro fl xs w ev hG hD hl hdone hev K hK
                    have e132 := (hev (.tmp 132)).trans ((kx1.out xs).2.2.2.2.2.2.2.2.2.2.2.2.2.2.2.2.2.2.2.2.2.2.2.2.2.2.2.2.2.2.2.2.2.2.2.2.2.2.2.2.2.2.2.2.2.2.2.2.2.2.2.2.2.2.2.2.1)
                    have d53 := hD.at_ 53 rfl rfl
                    replace e132 := e132.trans d53
                    have e133 := (hev (.tmp 133)).trans ((kx1.out xs).2.2.2.2.2.2.2.2.2.2.2.2.2.2.2.2.2.2.2.2.2.2.2.2.2.2.2.2.2.2.2.2.2.2.2.2.2.2.2.2.2.2.2.2.2.2.2.2.2.2.2.2.2.2.2.2.2.1)
                    have d54 := hD.at_ 54 rfl rfl
                    replace e133 := e133.trans d54
                    have dg := hD.at_ 40 rfl rfl
                    rw [if_pos (wantedX_yes 40 true rfl dg)]
                    have ef : ∀ f, ev (.func f) = .func (.func f) #[] #[] := fun f => (hev _).trans rfl
                    clear hev hD
                    go_simp
                    exact hK _ _ rfl hG
                  apply gh_det (n := 56)
                  · intro fl xs w ev hG hD hl hdone hev K hK
                    have e134 := (hev (.tmp 134)).trans ((kx1.out xs).2.2.2.2.2.2.2.2.2.2.2.2.2.2.2.2.2.2.2.2.2.2.2.2.2.2.2.2.2.2.2.2.2.2.2.2.2.2.2.2.2.2.2.2.2.2.2.2.2.2.2.2.2.2.2.2.2.2.1)
                    have d55 := hD.at_ 55 rfl rfl
                    replace e134 := e134.trans d55
                    have dg := hD.at_ 40 rfl rfl
                    rw [if_pos (wantedX_yes 40 true rfl dg)]
                    have ef : ∀ f, ev (.func f) = .func (.func f) #[] #[] := fun f => (hev _).trans rfl
                    clear hev hD
                    go_simp
                    exact hK _ _ rfl hG
                  apply gh_det (n := 57)
                  · intro fl xs w ev hG hD hl hdone hev K hK
                    have e135 := (hev (.tmp 135)).trans ((kx1.out xs).2.2.2.2.2.2.2.2.2.2.2.2.2.2.2.2.2.2.2.2.2.2.2.2.2.2.2.2.2.2.2.2.2.2.2.2.2.2.2.2.2.2.2.2.2.2.2.2.2.2.2.2.2.2.2.2.2.2.2.1)
                    have d56 := hD.at_ 56 rfl rfl
                    replace e135 := e135.trans d56
                    have dg := hD.at_ 40 rfl rfl
                    rw [if_pos (wantedX_yes 40 true rfl dg)]
                    have ef : ∀ f, ev (.func f) = .func (.func f) #[] #[] := fun f => (hev _).trans rfl
                    clear hev hD
                    have m0 := (hG.cell (p := ⟨bE, _, none⟩) hbE).trans g1
                    go_simp
                    exact hK _ _ rfl hG
                  apply gh_det (n := 58)
                  · intro fl xs w ev hG hD hl hdone hev K hK
                    have e128 := (hev (.tmp 128)).trans ((kx1.out xs).2.2.2.2.2.2.2.2.2.2.2.2.2.2.2.2.2.2.2.2.2.2.2.2.2.2.2.2.2.2.2.2.2.2.2.2.2.2.2.2.2.2.2.2.2.2.2.2.2.2.2.2.1)
                    have d49 := hD.at_ 49 rfl rfl
                    replace e128 := e128.trans d49
                    have e136 := (hev (.tmp 136)).trans ((kx1.out xs).2.2.2.2.2.2.2.2.2.2.2.2.2.2.2.2.2.2.2.2.2.2.2.2.2.2.2.2.2.2.2.2.2.2.2.2.2.2.2.2.2.2.2.2.2.2.2.2.2.2.2.2.2.2.2.2.2.2.2.2.1)
                    have d57 := hD.at_ 57 rfl rfl
                    replace e136 := e136.trans d57
                    have dg := hD.at_ 40 rfl rfl
                    rw [if_pos (wantedX_yes 40 true rfl dg)]
                    have ef : ∀ f, ev (.func f) = .func (.func f) #[] #[] := fun f => (hev _).trans rfl
                    clear hev hD
                    go_simp
                    exact hK _ _ rfl hG
                  apply gh_det (n := 59)
                  · intro fl xs w ev hG hD hl hdone hev K hK
                    have e119 := (hev (.tmp 119)).trans ((kx1.out xs).2.2.2.2.2.2.2.2.2.2.2.2.2.2.2.2.2.2.2.2.2.2.2.2.2.2.2.2.2.2.2.2.2.2.2.2.2.2.2.2.2.2.2.1)
                    have d40 := hD.at_ 40 rfl rfl
                    replace e119 := e119.trans d40
                    have e137 := (hev (.tmp 137)).trans ((kx1.out xs).2.2.2.2.2.2.2.2.2.2.2.2.2.2.2.2.2.2.2.2.2.2.2.2.2.2.2.2.2.2.2.2.2.2.2.2.2.2.2.2.2.2.2.2.2.2.2.2.2.2.2.2.2.2.2.2.2.2.2.2.2.1)
                    have d58 := hD.at_ 58 rfl rfl
                    replace e137 := e137.trans d58
                    have dg := hD.at_ 21 rfl rfl
                    rw [if_pos (wantedX_yes 21 false rfl dg)]
                    have ef : ∀ f, ev (.func f) = .func (.func f) #[] #[] := fun f => (hev _).trans rfl
                    have ec : ∀ v, ev (.const v) = v := fun v => (hev _).trans rfl
                    clear hev hD
                    go_simp
                    exact hK _ _ rfl hG
                  apply gh_det (n := 60)
                  · intro fl xs w ev hG hD hl hdone hev K hK
                    have e100 := (hev (.tmp 100)).trans ((kx1.out xs).2.2.2.2.2.2.2.2.2.2.2.2.2.2.2.2.2.2.2.2.2.2.2.2.1)
                    have d21 := hD.at_ 21 rfl rfl
                    replace e100 := e100.trans d21
                    have e138 := (hev (.tmp 138)).trans ((kx1.out xs).2.2.2.2.2.2.2.2.2.2.2.2.2.2.2.2.2.2.2.2.2.2.2.2.2.2.2.2.2.2.2.2.2.2.2.2.2.2.2.2.2.2.2.2.2.2.2.2.2.2.2.2.2.2.2.2.2.2.2.2.2.2.1)
                    have d59 := hD.at_ 59 rfl rfl
                    replace e138 := e138.trans d59
                    have dg := hD.at_ 2 rfl rfl
                    rw [if_pos (wantedX_yes 2 true rfl dg)]
                    have ef : ∀ f, ev (.func f) = .func (.func f) #[] #[] := fun f => (hev _).trans rfl
                    have ec : ∀ v, ev (.const v) = v := fun v => (hev _).trans rfl
                    clear hev hD
                    go_simp
                    exact hK _ _ rfl hG
                  apply gh_det (n := 61)
                  · intro fl xs w ev hG hD hl hdone hev K hK
                    have e81 := (hev (.tmp 81)).trans ((kx1.out xs).2.2.2.2.2.1)
                    have d2 := hD.at_ 2 rfl rfl
                    replace e81 := e81.trans d2
                    have e139 := (hev (.tmp 139)).trans ((kx1.out xs).2.2.2.2.2.2.2.2.2.2.2.2.2.2.2.2.2.2.2.2.2.2.2.2.2.2.2.2.2.2.2.2.2.2.2.2.2.2.2.2.2.2.2.2.2.2.2.2.2.2.2.2.2.2.2.2.2.2.2.2.2.2.2.1)
                    have d60 := hD.at_ 60 rfl rfl
                    replace e139 := e139.trans d60
                    rw [if_pos (wantedX_none rfl)]
                    have ef : ∀ f, ev (.func f) = .func (.func f) #[] #[] := fun f => (hev _).trans rfl
                    have ec : ∀ v, ev (.const v) = v := fun v => (hev _).trans rfl
                    clear hev hD
                    go_simp
                    exact hK _ _ rfl hG
                  apply gh_det (n := 62)
                  · intro fl xs w ev hG hD hl hdone hev K hK
                    have e140 := (hev (.tmp 140)).trans ((kx1.out xs).2.2.2.2.2.2.2.2.2.2.2.2.2.2.2.2.2.2.2.2.2.2.2.2.2.2.2.2.2.2.2.2.2.2.2.2.2.2.2.2.2.2.2.2.2.2.2.2.2.2.2.2.2.2.2.2.2.2.2.2.2.2.2.2.1)
                    have d61 := hD.at_ 61 rfl rfl
                    replace e140 := e140.trans d61
                    rw [if_pos (wantedX_none rfl)]
                    have ef : ∀ f, ev (.func f) = .func (.func f) #[] #[] := fun f => (hev _).trans rfl
                    clear hev hD
                    go_simp
                    exact hK _ _ rfl hG
                  apply gh_det (n := 63)
                  · intro fl xs w ev hG hD hl hdone hev K hK
                    have e6 := (hev (.tmp 6)).trans ((kx1.out xs).1)
                    have dg := hD.at_ 62 rfl rfl
                    rw [if_pos (wantedX_yes 62 false rfl dg)]
                    have ef : ∀ f, ev (.func f) = .func (.func f) #[] #[] := fun f => (hev _).trans rfl
                    clear hev hD
                    go_simp
                    exact hK _ _ rfl hG
                  apply gh_det (n := 64)
                  · intro fl xs w ev hG hD hl hdone hev K hK
                    have e8 := (hev (.tmp 8)).trans ((kx1.out xs).2.1)
                    have dg := hD.at_ 62 rfl rfl
                    rw [if_pos (wantedX_yes 62 false rfl dg)]
                    have ef : ∀ f, ev (.func f) = .func (.func f) #[] #[] := fun f => (hev _).trans rfl
                    clear hev hD
                    go_simp
                    exact hK _ _ rfl hG
                  apply gh_det (n := 65)
                  · intro fl xs w ev hG hD hl hdone hev K hK
                    have e142 := (hev (.tmp 142)).trans ((kx1.out xs).2.2.2.2.2.2.2.2.2.2.2.2.2.2.2.2.2.2.2.2.2.2.2.2.2.2.2.2.2.2.2.2.2.2.2.2.2.2.2.2.2.2.2.2.2.2.2.2.2.2.2.2.2.2.2.2.2.2.2.2.2.2.2.2.2.2.1)
                    have d63 := hD.at_ 63 rfl rfl
                    replace e142 := e142.trans d63
                    have e143 := (hev (.tmp 143)).trans ((kx1.out xs).2.2.2.2.2.2.2.2.2.2.2.2.2.2.2.2.2.2.2.2.2.2.2.2.2.2.2.2.2.2.2.2.2.2.2.2.2.2.2.2.2.2.2.2.2.2.2.2.2.2.2.2.2.2.2.2.2.2.2.2.2.2.2.2.2.2.2.1)
                    have d64 := hD.at_ 64 rfl rfl
                    replace e143 := e143.trans d64
                    have dg := hD.at_ 62 rfl rfl
                    rw [if_pos (wantedX_yes 62 false rfl dg)]
                    have ef : ∀ f, ev (.func f) = .func (.func f) #[] #[] := fun f => (hev _).trans rfl
                    clear hev hD
                    go_simp
                    exact hK _ _ rfl hG
                  apply gh_det (n := 66)
                  · intro fl xs w ev hG hD hl hdone hev K hK
                    have e144 := (hev (.tmp 144)).trans ((kx1.out xs).2.2.2.2.2.2.2.2.2.2.2.2.2.2.2.2.2.2.2.2.2.2.2.2.2.2.2.2.2.2.2.2.2.2.2.2.2.2.2.2.2.2.2.2.2.2.2.2.2.2.2.2.2.2.2.2.2.2.2.2.2.2.2.2.2.2.2.2.1)
                    have d65 := hD.at_ 65 rfl rfl
                    replace e144 := e144.trans d65
                    have dg := hD.at_ 62 rfl rfl
                    rw [if_pos (wantedX_yes 62 false rfl dg)]
                    have ef : ∀ f, ev (.func f) = .func (.func f) #[] #[] := fun f => (hev _).trans rfl
                    clear hev hD
                    have m0 := (hG.cell (p := ⟨bR, _, none⟩) zbR).trans fw
                    go_simp
                    exact hK _ _ rfl hG
                  apply gh_det (n := 67)
                  · intro fl xs w ev hG hD hl hdone hev K hK
                    have e9 := (hev (.tmp 9)).trans ((kx1.out xs).2.2.1)
                    have dg := hD.at_ 62 rfl rfl
                    rw [if_pos (wantedX_yes 62 false rfl dg)]
                    have ef : ∀ f, ev (.func f) = .func (.func f) #[] #[] := fun f => (hev _).trans rfl
                    clear hev hD
                    go_simp
                    exact hK _ _ rfl hG
                  apply gh_det (n := 68)
                  · intro fl xs w ev hG hD hl hdone hev K hK
                    have e145 := (hev (.tmp 145)).trans ((kx1.out xs).2.2.2.2.2.2.2.2.2.2.2.2.2.2.2.2.2.2.2.2.2.2.2.2.2.2.2.2.2.2.2.2.2.2.2.2.2.2.2.2.2.2.2.2.2.2.2.2.2.2.2.2.2.2.2.2.2.2.2.2.2.2.2.2.2.2.2.2.2.1)
                    have d66 := hD.at_ 66 rfl rfl
                    replace e145 := e145.trans d66
                    have e146 := (hev (.tmp 146)).trans ((kx1.out xs).2.2.2.2.2.2.2.2.2.2.2.2.2.2.2.2.2.2.2.2.2.2.2.2.2.2.2.2.2.2.2.2.2.2.2.2.2.2.2.2.2.2.2.2.2.2.2.2.2.2.2.2.2.2.2.2.2.2.2.2.2.2.2.2.2.2.2.2.2.2.1)
                    have d67 := hD.at_ 67 rfl rfl
                    replace e146 := e146.trans d67
                    have dg := hD.at_ 62 rfl rfl
                    rw [if_pos (wantedX_yes 62 false rfl dg)]
                    have ef : ∀ f, ev (.func f) = .func (.func f) #[] #[] := fun f => (hev _).trans rfl
                    clear hev hD
                    go_simp
                    exact hK _ _ rfl hG
                  apply gh_det (n := 69)
                  · intro fl xs w ev hG hD hl hdone hev K hK
                    have e147 := (hev (.tmp 147)).trans ((kx1.out xs).2.2.2.2.2.2.2.2.2.2.2.2.2.2.2.2.2.2.2.2.2.2.2.2.2.2.2.2.2.2.2.2.2.2.2.2.2.2.2.2.2.2.2.2.2.2.2.2.2.2.2.2.2.2.2.2.2.2.2.2.2.2.2.2.2.2.2.2.2.2.2.1)
                    have d68 := hD.at_ 68 rfl rfl
                    replace e147 := e147.trans d68
                    have dg := hD.at_ 62 rfl rfl
                    rw [if_pos (wantedX_yes 62 false rfl dg)]
                    have ef : ∀ f, ev (.func f) = .func (.func f) #[] #[] := fun f => (hev _).trans rfl
                    clear hev hD
                    go_simp
                    exact hK _ _ rfl hG
                  apply gh_det (n := 70)
                  · intro fl xs w ev hG hD hl hdone hev K hK
                    have e148 := (hev (.tmp 148)).trans ((kx1.out xs).2.2.2.2.2.2.2.2.2.2.2.2.2.2.2.2.2.2.2.2.2.2.2.2.2.2.2.2.2.2.2.2.2.2.2.2.2.2.2.2.2.2.2.2.2.2.2.2.2.2.2.2.2.2.2.2.2.2.2.2.2.2.2.2.2.2.2.2.2.2.2.2.1)
                    have d69 := hD.at_ 69 rfl rfl
                    replace e148 := e148.trans d69
                    have dg := hD.at_ 62 rfl rfl
                    rw [if_pos (wantedX_yes 62 false rfl dg)]
                    have ef : ∀ f, ev (.func f) = .func (.func f) #[] #[] := fun f => (hev _).trans rfl
                    clear hev hD
                    have m0 := (hG.cell (p := ⟨bE, _, none⟩) hbE).trans g0
                    go_simp
                    exact hK _ _ rfl hG
                  apply gh_det (n := 71)
                  · intro fl xs w ev hG hD hl hdone hev K hK
                    have e149 := (hev (.tmp 149)).trans ((kx1.out xs).2.2.2.2.2.2.2.2.2.2.2.2.2.2.2.2.2.2.2.2.2.2.2.2.2.2.2.2.2.2.2.2.2.2.2.2.2.2.2.2.2.2.2.2.2.2.2.2.2.2.2.2.2.2.2.2.2.2.2.2.2.2.2.2.2.2.2.2.2.2.2.2.2.1)
                    have d70 := hD.at_ 70 rfl rfl
                    replace e149 := e149.trans d70
                    have dg := hD.at_ 62 rfl rfl
                    rw [if_pos (wantedX_yes 62 false rfl dg)]
                    have ef : ∀ f, ev (.func f) = .func (.func f) #[] #[] := fun f => (hev _).trans rfl
                    have ec : ∀ v, ev (.const v) = v := fun v => (hev _).trans rfl
                    clear hev hD
                    go_simp
                    exact hK _ _ rfl hG
                  apply gh_det (n := 72)
                  · intro fl xs w ev hG hD hl hdone hev K hK
                    have e141 := (hev (.tmp 141)).trans ((kx1.out xs).2.2.2.2.2.2.2.2.2.2.2.2.2.2.2.2.2.2.2.2.2.2.2.2.2.2.2.2.2.2.2.2.2.2.2.2.2.2.2.2.2.2.2.2.2.2.2.2.2.2.2.2.2.2.2.2.2.2.2.2.2.2.2.2.2.1)
                    have d62 := hD.at_ 62 rfl rfl
                    replace e141 := e141.trans d62
                    have e150 := (hev (.tmp 150)).trans ((kx1.out xs).2.2.2.2.2.2.2.2.2.2.2.2.2.2.2.2.2.2.2.2.2.2.2.2.2.2.2.2.2.2.2.2.2.2.2.2.2.2.2.2.2.2.2.2.2.2.2.2.2.2.2.2.2.2.2.2.2.2.2.2.2.2.2.2.2.2.2.2.2.2.2.2.2.2.1)
                    have d71 := hD.at_ 71 rfl rfl
                    replace e150 := e150.trans d71
                    rw [if_pos (wantedX_none rfl)]
                    have ef : ∀ f, ev (.func f) = .func (.func f) #[] #[] := fun f => (hev _).trans rfl
                    have ec : ∀ v, ev (.const v) = v := fun v => (hev _).trans rfl
                    clear hev hD
                    go_simp
                    exact hK _ _ rfl hG
                  apply gh_det (n := 73)
                  · intro fl xs w ev hG hD hl hdone hev K hK
                    have e151 := (hev (.tmp 151)).trans ((kx1.out xs).2.2.2.2.2.2.2.2.2.2.2.2.2.2.2.2.2.2.2.2.2.2.2.2.2.2.2.2.2.2.2.2.2.2.2.2.2.2.2.2.2.2.2.2.2.2.2.2.2.2.2.2.2.2.2.2.2.2.2.2.2.2.2.2.2.2.2.2.2.2.2.2.2.2.2.1)
                    have d72 := hD.at_ 72 rfl rfl
                    replace e151 := e151.trans d72
                    rw [if_pos (wantedX_none rfl)]
                    have ef : ∀ f, ev (.func f) = .func (.func f) #[] #[] := fun f => (hev _).trans rfl
                    clear hev hD
                    go_simp
                    exact hK _ _ rfl hG
                  apply gh_det (n := 74)
                  · intro fl xs w ev hG hD hl hdone hev K hK
                    have e6 := (hev (.tmp 6)).trans ((kx1.out xs).1)
                    have dg := hD.at_ 73 rfl rfl
                    rw [if_pos (wantedX_yes 73 false rfl dg)]
                    have ef : ∀ f, ev (.func f) = .func (.func f) #[] #[] := fun f => (hev _).trans rfl
                    clear hev hD
                    go_simp
                    exact hK _ _ rfl hG
                  apply gh_det (n := 75)
                  · intro fl xs w ev hG hD hl hdone hev K hK
                    have e8 := (hev (.tmp 8)).trans ((kx1.out xs).2.1)
                    have dg := hD.at_ 73 rfl rfl
                    rw [if_pos (wantedX_yes 73 false rfl dg)]
                    have ef : ∀ f, ev (.func f) = .func (.func f) #[] #[] := fun f => (hev _).trans rfl
                    clear hev hD
                    go_simp
                    exact hK _ _ rfl hG
                  apply gh_det (n := 76)
                  · intro fl xs w ev hG hD hl hdone hev K hK
                    have e153 := (hev (.tmp 153)).trans ((kx1.out xs).2.2.2.2.2.2.2.2.2.2.2.2.2.2.2.2.2.2.2.2.2.2.2.2.2.2.2.2.2.2.2.2.2.2.2.2.2.2.2.2.2.2.2.2.2.2.2.2.2.2.2.2.2.2.2.2.2.2.2.2.2.2.2.2.2.2.2.2.2.2.2.2.2.2.2.2.2.1)
                    have d74 := hD.at_ 74 rfl rfl
                    replace e153 := e153.trans d74
                    have e154 := (hev (.tmp 154)).trans ((kx1.out xs).2.2.2.2.2.2.2.2.2.2.2.2.2.2.2.2.2.2.2.2.2.2.2.2.2.2.2.2.2.2.2.2.2.2.2.2.2.2.2.2.2.2.2.2.2.2.2.2.2.2.2.2.2.2.2.2.2.2.2.2.2.2.2.2.2.2.2.2.2.2.2.2.2.2.2.2.2.2.1)
                    have d75 := hD.at_ 75 rfl rfl
                    replace e154 := e154.trans d75
                    have dg := hD.at_ 73 rfl rfl
                    rw [if_pos (wantedX_yes 73 false rfl dg)]
                    have ef : ∀ f, ev (.func f) = .func (.func f) #[] #[] := fun f => (hev _).trans rfl
                    clear hev hD
                    go_simp
                    exact hK _ _ rfl hG
                  apply gh_det (n := 77)
                  · intro fl xs w ev hG hD hl hdone hev K hK
                    have e155 := (hev (.tmp 155)).trans ((kx1.out xs).2.2.2.2.2.2.2.2.2.2.2.2.2.2.2.2.2.2.2.2.2.2.2.2.2.2.2.2.2.2.2.2.2.2.2.2.2.2.2.2.2.2.2.2.2.2.2.2.2.2.2.2.2.2.2.2.2.2.2.2.2.2.2.2.2.2.2.2.2.2.2.2.2.2.2.2.2.2.2.1)
                    have d76 := hD.at_ 76 rfl rfl
                    replace e155 := e155.trans d76
                    have dg := hD.at_ 73 rfl rfl
                    rw [if_pos (wantedX_yes 73 false rfl dg)]
                    have ef : ∀ f, ev (.func f) = .func (.func f) #[] #[] := fun f => (hev _).trans rfl
                    clear hev hD
                    have m0 := (hG.cell (p := ⟨bR, _, none⟩) zbR).trans fw
                    go_simp
                    exact hK _ _ rfl hG
                  apply gh_det (n := 78)
                  · intro fl xs w ev hG hD hl hdone hev K hK
                    have e9 := (hev (.tmp 9)).trans ((kx1.out xs).2.2.1)
                    have dg := hD.at_ 73 rfl rfl
                    rw [if_pos (wantedX_yes 73 false rfl dg)]
                    have ef : ∀ f, ev (.func f) = .func (.func f) #[] #[] := fun f => (hev _).trans rfl
                    clear hev hD
                    go_simp
                    exact hK _ _ rfl hG
                  apply gh_det (n := 79)
                  · intro fl xs w ev hG hD hl hdone hev K hK
                    have e156 := (hev (.tmp 156)).trans ((kx1.out xs).2.2.2.2.2.2.2.2.2.2.2.2.2.2.2.2.2.2.2.2.2.2.2.2.2.2.2.2.2.2.2.2.2.2.2.2.2.2.2.2.2.2.2.2.2.2.2.2.2.2.2.2.2.2.2.2.2.2.2.2.2.2.2.2.2.2.2.2.2.2.2.2.2.2.2.2.2.2.2.2.1)
                    have d77 := hD.at_ 77 rfl rfl
                    replace e156 := e156.trans d77
                    have e157 := (hev (.tmp 157)).trans ((kx1.out xs).2.2.2.2.2.2.2.2.2.2.2.2.2.2.2.2.2.2.2.2.2.2.2.2.2.2.2.2.2.2.2.2.2.2.2.2.2.2.2.2.2.2.2.2.2.2.2.2.2.2.2.2.2.2.2.2.2.2.2.2.2.2.2.2.2.2.2.2.2.2.2.2.2.2.2.2.2.2.2.2.2.1)
                    have d78 := hD.at_ 78 rfl rfl
                    replace e157 := e157.trans d78
                    have dg := hD.at_ 73 rfl rfl
                    rw [if_pos (wantedX_yes 73 false rfl dg)]
                    have ef : ∀ f, ev (.func f) = .func (.func f) #[] #[] := fun f => (hev _).trans rfl
                    clear hev hD
                    go_simp
                    exact hK _ _ rfl hG
                  apply gh_det (n := 80)
                  · intro fl xs w ev hG hD hl hdone hev K hK
                    have e158 := (hev (.tmp 158)).trans ((kx1.out xs).2.2.2.2.2.2.2.2.2.2.2.2.2.2.2.2.2.2.2.2.2.2.2.2.2.2.2.2.2.2.2.2.2.2.2.2.2.2.2.2.2.2.2.2.2.2.2.2.2.2.2.2.2.2.2.2.2.2.2.2.2.2.2.2.2.2.2.2.2.2.2.2.2.2.2.2.2.2.2.2.2.2.1)
                    have d79 := hD.at_ 79 rfl rfl
                    replace e158 := e158.trans d79
                    have dg := hD.at_ 73 rfl rfl
                    rw [if_pos (wantedX_yes 73 false rfl dg)]
                    have ef : ∀ f, ev (.func f) = .func (.func f) #[] #[] := fun f => (hev _).trans rfl
                    clear hev hD
                    go_simp
                    exact hK _ _ rfl hG
                  apply gh_det (n := 81)
                  · intro fl xs w ev hG hD hl hdone hev K hK
                    have e159 := (hev (.tmp 159)).trans ((kx1.out xs).2.2.2.2.2.2.2.2.2.2.2.2.2.2.2.2.2.2.2.2.2.2.2.2.2.2.2.2.2.2.2.2.2.2.2.2.2.2.2.2.2.2.2.2.2.2.2.2.2.2.2.2.2.2.2.2.2.2.2.2.2.2.2.2.2.2.2.2.2.2.2.2.2.2.2.2.2.2.2.2.2.2.2.1)
                    have d80 := hD.at_ 80 rfl rfl
                    replace e159 := e159.trans d80
                    have dg := hD.at_ 73 rfl rfl
                    rw [if_pos (wantedX_yes 73 false rfl dg)]
                    have ef : ∀ f, ev (.func f) = .func (.func f) #[] #[] := fun f => (hev _).trans rfl
                    clear hev hD
                    have m0 := (hG.cell (p := ⟨bE, _, none⟩) hbE).trans g0
                    go_simp
                    exact hK _ _ rfl hG
                  apply gh_det (n := 82)
                  · intro fl xs w ev hG hD hl hdone hev K hK
                    have e160 := (hev (.tmp 160)).trans ((kx1.out xs).2.2.2.2.2.2.2.2.2.2.2.2.2.2.2.2.2.2.2.2.2.2.2.2.2.2.2.2.2.2.2.2.2.2.2.2.2.2.2.2.2.2.2.2.2.2.2.2.2.2.2.2.2.2.2.2.2.2.2.2.2.2.2.2.2.2.2.2.2.2.2.2.2.2.2.2.2.2.2.2.2.2.2.2.1)
                    have d81 := hD.at_ 81 rfl rfl
                    replace e160 := e160.trans d81
                    have dg := hD.at_ 73 rfl rfl
                    rw [if_pos (wantedX_yes 73 false rfl dg)]
                    have ef : ∀ f, ev (.func f) = .func (.func f) #[] #[] := fun f => (hev _).trans rfl
                    have ec : ∀ v, ev (.const v) = v := fun v => (hev _).trans rfl
                    clear hev hD
                    go_simp
                    exact hK _ _ rfl hG
                  apply gh_det (n := 83)
                  · intro fl xs w ev hG hD hl hdone hev K hK
                    have e152 := (hev (.tmp 152)).trans ((kx1.out xs).2.2.2.2.2.2.2.2.2.2.2.2.2.2.2.2.2.2.2.2.2.2.2.2.2.2.2.2.2.2.2.2.2.2.2.2.2.2.2.2.2.2.2.2.2.2.2.2.2.2.2.2.2.2.2.2.2.2.2.2.2.2.2.2.2.2.2.2.2.2.2.2.2.2.2.2.1)
                    have d73 := hD.at_ 73 rfl rfl
                    replace e152 := e152.trans d73
                    have e161 := (hev (.tmp 161)).trans ((kx1.out xs).2.2.2.2.2.2.2.2.2.2.2.2.2.2.2.2.2.2.2.2.2.2.2.2.2.2.2.2.2.2.2.2.2.2.2.2.2.2.2.2.2.2.2.2.2.2.2.2.2.2.2.2.2.2.2.2.2.2.2.2.2.2.2.2.2.2.2.2.2.2.2.2.2.2.2.2.2.2.2.2.2.2.2.2.2)
                    have d82 := hD.at_ 82 rfl rfl
                    replace e161 := e161.trans d82
                    rw [if_pos (wantedX_none rfl)]
                    have ef : ∀ f, ev (.func f) = .func (.func f) #[] #[] := fun f => (hev _).trans rfl
                    have ec : ∀ v, ev (.const v) = v := fun v => (hev _).trans rfl
                    clear hev hD
                    go_simp
                    exact hK _ _ rfl hG
                  clear kx1
                  intro xs w12 hG hI
                  have e162 : xs 83 = .bool false := hI 83 _ rfl
                  clear hI
                  simp only [List.append_eq, List.cons_append, List.nil_append, setAll, List.setIfInBounds_toArray, List.set_cons_zero, List.set_cons_succ]
                  rw [e162]
                  have hfin := Lib.hid (hbj.out.trans (hG.mono hbj.out.size))
                  clear hG e162
                  go_wp2_with fail
                  go_roundw
                  case rel => exact ⟨j + 1, by omega, by go_num, hfin⟩
                  case measure => simp [intOf]; omega
                · have e5 : (x == z) = false := by simp [hxz]
                  clear hs1 hs2 hxz
                  try clear hr
                  try clear hnn
                  try clear hmm
                  try clear hhzH
                  try clear hup
                  try clear hbw0
                  try clear hnbH
                  try clear hbn1H
                  try clear hR
                  try clear hX
                  try clear hb2
                  try clear hL
                  try clear hlt
                  try clear hs
                  try clear hn40
                  try clear hm40
                  try clear hb13h
                  try clear hnewH
                  try clear hC5
                  try clear hL5
                  try clear hB5
                  try clear hB0
                  try clear hb35
                  try clear hB0le
                  try clear hRMh
                  try clear hsT
                  try clear hzT
                  try clear hnT
                  try clear hMX
                  try clear s6
                  try clear hN
                  try clear hkH
                  try clear s7
                  try clear hC7h
                  try clear hE7
                  try clear hwf1
                  try clear hl1
                  try clear hsym
                  try clear hself
                  try clear hrng
                  try clear htri
                  try clear hstep
                  try clear hrlr
                  try clear rr
                  try clear hrn
                  try clear hb
                  try clear d3
                  try clear hi
                  try clear him
                  try clear ha
                  try clear hj0
                  try clear hm
                  try clear hs1
                  try clear hs2
                  try clear hb3
                  try clear hB0w
                  go_wp2_with fail
                  go_upto_region 24 with fail
                  simp only [List.append_eq, List.cons_append, List.nil_append]
                  refine wp_region_ghost (fun fl x w => Below wr.heap.size wr w) (by kernel_rfl) (by kernel_rfl) (by kernel_rfl) (by kernel_rfl) (by kernel_rfl) ?_ ?_
                  · intro x0
                    exact ⟨rfl, rfl, rfl, Nat.le_refl _, fun _ _ => rfl⟩
                  intro base O hbase hO
                  have kx1 : Hid (∀ xs, evX base O xs (.tmp 6) = .slice (some ⟨bR, oR, none⟩) n c7 ∧ evX base O xs (.tmp 8) = .int .i64 (a : Int) ∧ evX base O xs (.tmp 9) = .int .i64 (j : Int) ∧ evX base O xs (.tmp 79) = xs 0 ∧ evX base O xs (.tmp 80) = xs 1 ∧ evX base O xs (.tmp 81) = xs 2 ∧ evX base O xs (.tmp 82) = xs 3 ∧ evX base O xs (.tmp 83) = xs 4 ∧ evX base O xs (.tmp 84) = xs 5 ∧ evX base O xs (.tmp 85) = xs 6 ∧ evX base O xs (.tmp 86) = xs 7 ∧ evX base O xs (.tmp 87) = xs 8 ∧ evX base O xs (.tmp 88) = xs 9 ∧ evX base O xs (.tmp 89) = xs 10 ∧ evX base O xs (.tmp 90) = xs 11 ∧ evX base O xs (.tmp 91) = xs 12 ∧ evX base O xs (.tmp 92) = xs 13 ∧ evX base O xs (.tmp 93) = xs 14 ∧ evX base O xs (.tmp 94) = xs 15 ∧ evX base O xs (.tmp 95) = xs 16 ∧ evX base O xs (.tmp 96) = xs 17 ∧ evX base O xs (.tmp 97) = xs 18 ∧ evX base O xs (.tmp 98) = xs 19 ∧ evX base O xs (.tmp 99) = xs 20 ∧ evX base O xs (.tmp 100) = xs 21 ∧ evX base O xs (.tmp 101) = xs 22 ∧ evX base O xs (.tmp 102) = xs 23 ∧ evX base O xs (.tmp 103) = xs 24 ∧ evX base O xs (.tmp 104) = xs 25 ∧ evX base O xs (.tmp 105) = xs 26 ∧ evX base O xs (.tmp 106) = xs 27 ∧ evX base O xs (.tmp 107) = xs 28 ∧ evX base O xs (.tmp 108) = xs 29 ∧ evX base O xs (.tmp 109) = xs 30 ∧ evX base O xs (.tmp 110) = xs 31 ∧ evX base O xs (.tmp 111) = xs 32 ∧ evX base O xs (.tmp 112) = xs 33 ∧ evX base O xs (.tmp 113) = xs 34 ∧ evX base O xs (.tmp 114) = xs 35 ∧ evX base O xs (.tmp 115) = xs 36 ∧ evX base O xs (.tmp 116) = xs 37 ∧ evX base O xs (.tmp 117) = xs 38 ∧ evX base O xs (.tmp 118) = xs 39 ∧ evX base O xs (.tmp 119) = xs 40 ∧ evX base O xs (.tmp 120) = xs 41 ∧ evX base O xs (.tmp 121) = xs 42 ∧ evX base O xs (.tmp 122) = xs 43 ∧ evX base O xs (.tmp 123) = xs 44 ∧ evX base O xs (.tmp 124) = xs 45 ∧ evX base O xs (.tmp 125) = xs 46 ∧ evX base O xs (.tmp 126) = xs 47 ∧ evX base O xs (.tmp 127) = xs 48 ∧ evX base O xs (.tmp 128) = xs 49 ∧ evX base O xs (.tmp 129) = xs 50 ∧ evX base O xs (.tmp 130) = xs 51 ∧ evX base O xs (.tmp 131) = xs 52 ∧ evX base O xs (.tmp 132) = xs 53 ∧ evX base O xs (.tmp 133) = xs 54 ∧ evX base O xs (.tmp 134) = xs 55 ∧ evX base O xs (.tmp 135) = xs 56 ∧ evX base O xs (.tmp 136) = xs 57 ∧ evX base O xs (.tmp 137) = xs 58 ∧ evX base O xs (.tmp 138) = xs 59 ∧ evX base O xs (.tmp 139) = xs 60 ∧ evX base O xs (.tmp 140) = xs 61 ∧ evX base O xs (.tmp 141) = xs 62 ∧ evX base O xs (.tmp 142) = xs 63 ∧ evX base O xs (.tmp 143) = xs 64 ∧ evX base O xs (.tmp 144) = xs 65 ∧ evX base O xs (.tmp 145) = xs 66 ∧ evX base O xs (.tmp 146) = xs 67 ∧ evX base O xs (.tmp 147) = xs 68 ∧ evX base O xs (.tmp 148) = xs 69 ∧ evX base O xs (.tmp 149) = xs 70 ∧ evX base O xs (.tmp 150) = xs 71 ∧ evX base O xs (.tmp 151) = xs 72 ∧ evX base O xs (.tmp 152) = xs 73 ∧ evX base O xs (.tmp 153) = xs 74 ∧ evX base O xs (.tmp 154) = xs 75 ∧ evX base O xs (.tmp 155) = xs 76 ∧ evX base O xs (.tmp 156) = xs 77 ∧ evX base O xs (.tmp 157) = xs 78 ∧ evX base O xs (.tmp 158) = xs 79 ∧ evX base O xs (.tmp 159) = xs 80 ∧ evX base O xs (.tmp 160) = xs 81 ∧ evX base O xs (.tmp 161) = xs 82) := fun xs => by rw [hbase, hO]; exact ⟨rfl, rfl, rfl, rfl, rfl, rfl, rfl, rfl, rfl, rfl, rfl, rfl, rfl, rfl, rfl, rfl, rfl, rfl, rfl, rfl, rfl, rfl, rfl, rfl, rfl, rfl, rfl, rfl, rfl, rfl, rfl, rfl, rfl, rfl, rfl, rfl, rfl, rfl, rfl, rfl, rfl, rfl, rfl, rfl, rfl, rfl, rfl, rfl, rfl, rfl, rfl, rfl, rfl, rfl, rfl, rfl, rfl, rfl, rfl, rfl, rfl, rfl, rfl, rfl, rfl, rfl, rfl, rfl, rfl, rfl, rfl, rfl, rfl, rfl, rfl, rfl, rfl, rfl, rfl, rfl, rfl, rfl, rfl, rfl, rfl, rfl⟩
                  clear hbase hO
                  apply gh_det (n := 0)
                  · intro fl xs w ev hG hD hl hdone hev K hK
                    have e9 := (hev (.tmp 9)).trans ((kx1.out xs).2.2.1)
                    rw [if_pos (wantedX_none rfl)]
                    have ef : ∀ f, ev (.func f) = .func (.func f) #[] #[] := fun f => (hev _).trans rfl
                    clear hev hD
                    go_simp
                    exact hK _ _ rfl hG
                  apply gh_det (n := 1)
                  · intro fl xs w ev hG hD hl hdone hev K hK
                    have e79 := (hev (.tmp 79)).trans ((kx1.out xs).2.2.2.1)
                    have d0 := hD.at_ 0 rfl rfl
                    replace e79 := e79.trans d0
                    rw [if_pos (wantedX_none rfl)]
                    have ef : ∀ f, ev (.func f) = .func (.func f) #[] #[] := fun f => (hev _).trans rfl
                    have ec : ∀ v, ev (.const v) = v := fun v => (hev _).trans rfl
                    clear hev hD
                    go_simp
                    exact hK _ _ rfl hG
                  apply gh_det (n := 2)
                  · intro fl xs w ev hG hD hl hdone hev K hK
                    have e80 := (hev (.tmp 80)).trans ((kx1.out xs).2.2.2.2.1)
                    have d1 := hD.at_ 1 rfl rfl
                    replace e80 := e80.trans d1
                    rw [if_pos (wantedX_none rfl)]
                    have ef : ∀ f, ev (.func f) = .func (.func f) #[] #[] := fun f => (hev _).trans rfl
                    clear hev hD
                    go_simp
                    exact hK _ _ rfl hG
                  apply gh_det (n := 3)
                  · intro fl xs w ev hG hD hl hdone hev K hK
                    have e6 := (hev (.tmp 6)).trans ((kx1.out xs).1)
                    have dg := hD.at_ 2 rfl rfl
                    rw [if_pos (wantedX_yes 2 true rfl dg)]
                    have ef : ∀ f, ev (.func f) = .func (.func f) #[] #[] := fun f => (hev _).trans rfl
                    clear hev hD
                    go_simp
                    exact hK _ _ rfl hG
                  apply gh_det (n := 4)
                  · intro fl xs w ev hG hD hl hdone hev K hK
                    have e8 := (hev (.tmp 8)).trans ((kx1.out xs).2.1)
                    have dg := hD.at_ 2 rfl rfl
                    rw [if_pos (wantedX_yes 2 true rfl dg)]
                    have ef : ∀ f, ev (.func f) = .func (.func f) #[] #[] := fun f => (hev _).trans rfl
                    clear hev hD
                    go_simp
                    exact hK _ _ rfl hG
                  apply gh_det (n := 5)
                  · intro fl xs w ev hG hD hl hdone hev K hK
                    have e82 := (hev (.tmp 82)).trans ((kx1.out xs).2.2.2.2.2.2.1)
                    have d3 := hD.at_ 3 rfl rfl
                    replace e82 := e82.trans d3
                    have e83 := (hev (.tmp 83)).trans ((kx1.out xs).2.2.2.2.2.2.2.1)
                    have d4 := hD.at_ 4 rfl rfl
                    replace e83 := e83.trans d4
                    have dg := hD.at_ 2 rfl rfl
                    rw [if_pos (wantedX_yes 2 true rfl dg)]
                    have ef : ∀ f, ev (.func f) = .func (.func f) #[] #[] := fun f => (hev _).trans rfl
                    clear hev hD
                    go_simp
                    exact hK _ _ rfl hG
                  apply gh_det (n := 6)
                  · intro fl xs w ev hG hD hl hdone hev K hK
                    have e84 := (hev (.tmp 84)).trans ((kx1.out xs).2.2.2.2.2.2.2.2.1)
                    have d5 := hD.at_ 5 rfl rfl
                    replace e84 := e84.trans d5
                    have dg := hD.at_ 2 rfl rfl
                    rw [if_pos (wantedX_yes 2 true rfl dg)]
                    have ef : ∀ f, ev (.func f) = .func (.func f) #[] #[] := fun f => (hev _).trans rfl
                    clear hev hD
                    have m0 := (hG.cell (p := ⟨bR, _, none⟩) zbR).trans fw
                    go_simp
                    exact hK _ _ rfl hG
                  apply gh_det (n := 7)
                  · intro fl xs w ev hG hD hl hdone hev K hK
                    have e9 := (hev (.tmp 9)).trans ((kx1.out xs).2.2.1)
                    have dg := hD.at_ 2 rfl rfl
                    rw [if_pos (wantedX_yes 2 true rfl dg)]
                    have ef : ∀ f, ev (.func f) = .func (.func f) #[] #[] := fun f => (hev _).trans rfl
                    clear hev hD
                    go_simp
                    exact hK _ _ rfl hG
                  apply gh_det (n := 8)
                  · intro fl xs w ev hG hD hl hdone hev K hK
                    have e86 := (hev (.tmp 86)).trans ((kx1.out xs).2.2.2.2.2.2.2.2.2.2.1)
                    have d7 := hD.at_ 7 rfl rfl
                    replace e86 := e86.trans d7
                    have dg := hD.at_ 2 rfl rfl
                    rw [if_pos (wantedX_yes 2 true rfl dg)]
                    have ef : ∀ f, ev (.func f) = .func (.func f) #[] #[] := fun f => (hev _).trans rfl
                    have ec : ∀ v, ev (.const v) = v := fun v => (hev _).trans rfl
                    clear hev hD
                    go_simp
                    exact hK _ _ rfl hG
                  apply gh_det (n := 9)
                  · intro fl xs w ev hG hD hl hdone hev K hK
                    have e85 := (hev (.tmp 85)).trans ((kx1.out xs).2.2.2.2.2.2.2.2.2.1)
                    have d6 := hD.at_ 6 rfl rfl
                    replace e85 := e85.trans d6
                    have e87 := (hev (.tmp 87)).trans ((kx1.out xs).2.2.2.2.2.2.2.2.2.2.2.1)
                    have d8 := hD.at_ 8 rfl rfl
                    replace e87 := e87.trans d8
                    have dg := hD.at_ 2 rfl rfl
                    rw [if_pos (wantedX_yes 2 true rfl dg)]
                    have ef : ∀ f, ev (.func f) = .func (.func f) #[] #[] := fun f => (hev _).trans rfl
                    clear hev hD
                    go_simp
                    exact hK _ _ rfl hG
                  apply gh_det (n := 10)
                  · intro fl xs w ev hG hD hl hdone hev K hK
                    have e88 := (hev (.tmp 88)).trans ((kx1.out xs).2.2.2.2.2.2.2.2.2.2.2.2.1)
                    have d9 := hD.at_ 9 rfl rfl
                    replace e88 := e88.trans d9
                    have dg := hD.at_ 2 rfl rfl
                    rw [if_pos (wantedX_yes 2 true rfl dg)]
                    have ef : ∀ f, ev (.func f) = .func (.func f) #[] #[] := fun f => (hev _).trans rfl
                    clear hev hD
                    go_simp
                    exact hK _ _ rfl hG
                  apply gh_det (n := 11)
                  · intro fl xs w ev hG hD hl hdone hev K hK
                    have e89 := (hev (.tmp 89)).trans ((kx1.out xs).2.2.2.2.2.2.2.2.2.2.2.2.2.1)
                    have d10 := hD.at_ 10 rfl rfl
                    replace e89 := e89.trans d10
                    have dg := hD.at_ 2 rfl rfl
                    rw [if_pos (wantedX_yes 2 true rfl dg)]
                    have ef : ∀ f, ev (.func f) = .func (.func f) #[] #[] := fun f => (hev _).trans rfl
                    clear hev hD
                    have m0 := (hG.cell (p := ⟨bE, _, none⟩) hbE).trans k0
                    go_simp
                    exact hK _ _ rfl hG
                  apply gh_det (n := 12)
                  · intro fl xs w ev hG hD hl hdone hev K hK
                    have e6 := (hev (.tmp 6)).trans ((kx1.out xs).1)
                    have dg := hD.at_ 2 rfl rfl
                    rw [if_pos (wantedX_yes 2 true rfl dg)]
                    have ef : ∀ f, ev (.func f) = .func (.func f) #[] #[] := fun f => (hev _).trans rfl
                    clear hev hD
                    go_simp
                    exact hK _ _ rfl hG
                  apply gh_det (n := 13)
                  · intro fl xs w ev hG hD hl hdone hev K hK
                    have e8 := (hev (.tmp 8)).trans ((kx1.out xs).2.1)
                    have dg := hD.at_ 2 rfl rfl
                    rw [if_pos (wantedX_yes 2 true rfl dg)]
                    have ef : ∀ f, ev (.func f) = .func (.func f) #[] #[] := fun f => (hev _).trans rfl
                    clear hev hD
                    go_simp
                    exact hK _ _ rfl hG
                  apply gh_det (n := 14)
                  · intro fl xs w ev hG hD hl hdone hev K hK
                    have e91 := (hev (.tmp 91)).trans ((kx1.out xs).2.2.2.2.2.2.2.2.2.2.2.2.2.2.2.1)
                    have d12 := hD.at_ 12 rfl rfl
                    replace e91 := e91.trans d12
                    have e92 := (hev (.tmp 92)).trans ((kx1.out xs).2.2.2.2.2.2.2.2.2.2.2.2.2.2.2.2.1)
                    have d13 := hD.at_ 13 rfl rfl
                    replace e92 := e92.trans d13
                    have dg := hD.at_ 2 rfl rfl
                    rw [if_pos (wantedX_yes 2 true rfl dg)]
                    have ef : ∀ f, ev (.func f) = .func (.func f) #[] #[] := fun f => (hev _).trans rfl
                    clear hev hD
                    go_simp
                    exact hK _ _ rfl hG
                  apply gh_det (n := 15)
                  · intro fl xs w ev hG hD hl hdone hev K hK
                    have e93 := (hev (.tmp 93)).trans ((kx1.out xs).2.2.2.2.2.2.2.2.2.2.2.2.2.2.2.2.2.1)
                    have d14 := hD.at_ 14 rfl rfl
                    replace e93 := e93.trans d14
                    have dg := hD.at_ 2 rfl rfl
                    rw [if_pos (wantedX_yes 2 true rfl dg)]
                    have ef : ∀ f, ev (.func f) = .func (.func f) #[] #[] := fun f => (hev _).trans rfl
                    clear hev hD
                    have m0 := (hG.cell (p := ⟨bR, _, none⟩) zbR).trans fw
                    go_simp
                    exact hK _ _ rfl hG
                  apply gh_det (n := 16)
                  · intro fl xs w ev hG hD hl hdone hev K hK
                    have e9 := (hev (.tmp 9)).trans ((kx1.out xs).2.2.1)
                    have dg := hD.at_ 2 rfl rfl
                    rw [if_pos (wantedX_yes 2 true rfl dg)]
                    have ef : ∀ f, ev (.func f) = .func (.func f) #[] #[] := fun f => (hev _).trans rfl
                    clear hev hD
                    go_simp
                    exact hK _ _ rfl hG
                  apply gh_det (n := 17)
                  · intro fl xs w ev hG hD hl hdone hev K hK
                    have e94 := (hev (.tmp 94)).trans ((kx1.out xs).2.2.2.2.2.2.2.2.2.2.2.2.2.2.2.2.2.2.1)
                    have d15 := hD.at_ 15 rfl rfl
                    replace e94 := e94.trans d15
                    have e95 := (hev (.tmp 95)).trans ((kx1.out xs).2.2.2.2.2.2.2.2.2.2.2.2.2.2.2.2.2.2.2.1)
                    have d16 := hD.at_ 16 rfl rfl
                    replace e95 := e95.trans d16
                    have dg := hD.at_ 2 rfl rfl
                    rw [if_pos (wantedX_yes 2 true rfl dg)]
                    have ef : ∀ f, ev (.func f) = .func (.func f) #[] #[] := fun f => (hev _).trans rfl
                    clear hev hD
                    go_simp
                    exact hK _ _ rfl hG
                  apply gh_det (n := 18)
                  · intro fl xs w ev hG hD hl hdone hev K hK
                    have e96 := (hev (.tmp 96)).trans ((kx1.out xs).2.2.2.2.2.2.2.2.2.2.2.2.2.2.2.2.2.2.2.2.1)
                    have d17 := hD.at_ 17 rfl rfl
                    replace e96 := e96.trans d17
                    have dg := hD.at_ 2 rfl rfl
                    rw [if_pos (wantedX_yes 2 true rfl dg)]
                    have ef : ∀ f, ev (.func f) = .func (.func f) #[] #[] := fun f => (hev _).trans rfl
                    clear hev hD
                    go_simp
                    exact hK _ _ rfl hG
                  apply gh_det (n := 19)
                  · intro fl xs w ev hG hD hl hdone hev K hK
                    have e97 := (hev (.tmp 97)).trans ((kx1.out xs).2.2.2.2.2.2.2.2.2.2.2.2.2.2.2.2.2.2.2.2.2.1)
                    have d18 := hD.at_ 18 rfl rfl
                    replace e97 := e97.trans d18
                    have dg := hD.at_ 2 rfl rfl
                    rw [if_pos (wantedX_yes 2 true rfl dg)]
                    have ef : ∀ f, ev (.func f) = .func (.func f) #[] #[] := fun f => (hev _).trans rfl
                    clear hev hD
                    have m0 := (hG.cell (p := ⟨bE, _, none⟩) hbE).trans g0
                    go_simp
                    exact hK _ _ rfl hG
                  apply gh_det (n := 20)
                  · intro fl xs w ev hG hD hl hdone hev K hK
                    have e90 := (hev (.tmp 90)).trans ((kx1.out xs).2.2.2.2.2.2.2.2.2.2.2.2.2.2.1)
                    have d11 := hD.at_ 11 rfl rfl
                    replace e90 := e90.trans d11
                    have e98 := (hev (.tmp 98)).trans ((kx1.out xs).2.2.2.2.2.2.2.2.2.2.2.2.2.2.2.2.2.2.2.2.2.2.1)
                    have d19 := hD.at_ 19 rfl rfl
                    replace e98 := e98.trans d19
                    have dg := hD.at_ 2 rfl rfl
                    rw [if_pos (wantedX_yes 2 true rfl dg)]
                    have ef : ∀ f, ev (.func f) = .func (.func f) #[] #[] := fun f => (hev _).trans rfl
                    clear hev hD
                    go_simp
                    exact hK _ _ rfl hG
                  apply gh_det (n := 21)
                  · intro fl xs w ev hG hD hl hdone hev K hK
                    have e99 := (hev (.tmp 99)).trans ((kx1.out xs).2.2.2.2.2.2.2.2.2.2.2.2.2.2.2.2.2.2.2.2.2.2.2.1)
                    have d20 := hD.at_ 20 rfl rfl
                    replace e99 := e99.trans d20
                    have dg := hD.at_ 2 rfl rfl
                    rw [if_pos (wantedX_yes 2 true rfl dg)]
                    have ef : ∀ f, ev (.func f) = .func (.func f) #[] #[] := fun f => (hev _).trans rfl
                    clear hev hD
                    go_simp
                    exact hK _ _ rfl hG
                  apply gh_det (n := 22)
                  · intro fl xs w ev hG hD hl hdone hev K hK
                    have e6 := (hev (.tmp 6)).trans ((kx1.out xs).1)
                    have dg := hD.at_ 21 rfl rfl
                    rw [if_pos (wantedX_yes 21 false rfl dg)]
                    have ef : ∀ f, ev (.func f) = .func (.func f) #[] #[] := fun f => (hev _).trans rfl
                    clear hev hD
                    go_simp
                    exact hK _ _ rfl hG
                  apply gh_det (n := 23)
                  · intro fl xs w ev hG hD hl hdone hev K hK
                    have e8 := (hev (.tmp 8)).trans ((kx1.out xs).2.1)
                    have dg := hD.at_ 21 rfl rfl
                    rw [if_pos (wantedX_yes 21 false rfl dg)]
                    have ef : ∀ f, ev (.func f) = .func (.func f) #[] #[] := fun f => (hev _).trans rfl
                    clear hev hD
                    go_simp
                    exact hK _ _ rfl hG
                  apply gh_det (n := 24)
                  · intro fl xs w ev hG hD hl hdone hev K hK
                    have e101 := (hev (.tmp 101)).trans ((kx1.out xs).2.2.2.2.2.2.2.2.2.2.2.2.2.2.2.2.2.2.2.2.2.2.2.2.2.1)
                    have d22 := hD.at_ 22 rfl rfl
                    replace e101 := e101.trans d22
                    have e102 := (hev (.tmp 102)).trans ((kx1.out xs).2.2.2.2.2.2.2.2.2.2.2.2.2.2.2.2.2.2.2.2.2.2.2.2.2.2.1)
                    have d23 := hD.at_ 23 rfl rfl
                    replace e102 := e102.trans d23
                    have dg := hD.at_ 21 rfl rfl
                    rw [if_pos (wantedX_yes 21 false rfl dg)]
                    have ef : ∀ f, ev (.func f) = .func (.func f) #[] #[] := fun f => (hev _).trans rfl
                    clear hev hD
                    go_simp
                    exact hK _ _ rfl hG
                  apply gh_det (n := 25)
                  · intro fl xs w ev hG hD hl hdone hev K hK
                    have e103 := (hev (.tmp 103)).trans ((kx1.out xs).2.2.2.2.2.2.2.2.2.2.2.2.2.2.2.2.2.2.2.2.2.2.2.2.2.2.2.1)
                    have d24 := hD.at_ 24 rfl rfl
                    replace e103 := e103.trans d24
                    have dg := hD.at_ 21 rfl rfl
                    rw [if_pos (wantedX_yes 21 false rfl dg)]
                    have ef : ∀ f, ev (.func f) = .func (.func f) #[] #[] := fun f => (hev _).trans rfl
                    clear hev hD
                    have m0 := (hG.cell (p := ⟨bR, _, none⟩) zbR).trans fw
                    go_simp
                    exact hK _ _ rfl hG
                  apply gh_det (n := 26)
                  · intro fl xs w ev hG hD hl hdone hev K hK
                    have e9 := (hev (.tmp 9)).trans ((kx1.out xs).2.2.1)
                    have dg := hD.at_ 21 rfl rfl
                    rw [if_pos (wantedX_yes 21 false rfl dg)]
                    have ef : ∀ f, ev (.func f) = .func (.func f) #[] #[] := fun f => (hev _).trans rfl
                    clear hev hD
                    go_simp
                    exact hK _ _ rfl hG
                  apply gh_det (n := 27)
                  · intro fl xs w ev hG hD hl hdone hev K hK
                    have e105 := (hev (.tmp 105)).trans ((kx1.out xs).2.2.2.2.2.2.2.2.2.2.2.2.2.2.2.2.2.2.2.2.2.2.2.2.2.2.2.2.2.1)
                    have d26 := hD.at_ 26 rfl rfl
                    replace e105 := e105.trans d26
                    have dg := hD.at_ 21 rfl rfl
                    rw [if_pos (wantedX_yes 21 false rfl dg)]
                    have ef : ∀ f, ev (.func f) = .func (.func f) #[] #[] := fun f => (hev _).trans rfl
                    have ec : ∀ v, ev (.const v) = v := fun v => (hev _).trans rfl
                    clear hev hD
                    go_simp
                    exact hK _ _ rfl hG
                  apply gh_det (n := 28)
                  · intro fl xs w ev hG hD hl hdone hev K hK
                    have e104 := (hev (.tmp 104)).trans ((kx1.out xs).2.2.2.2.2.2.2.2.2.2.2.2.2.2.2.2.2.2.2.2.2.2.2.2.2.2.2.2.1)
                    have d25 := hD.at_ 25 rfl rfl
                    replace e104 := e104.trans d25
                    have e106 := (hev (.tmp 106)).trans ((kx1.out xs).2.2.2.2.2.2.2.2.2.2.2.2.2.2.2.2.2.2.2.2.2.2.2.2.2.2.2.2.2.2.1)
                    have d27 := hD.at_ 27 rfl rfl
                    replace e106 := e106.trans d27
                    have dg := hD.at_ 21 rfl rfl
                    rw [if_pos (wantedX_yes 21 false rfl dg)]
                    have ef : ∀ f, ev (.func f) = .func (.func f) #[] #[] := fun f => (hev _).trans rfl
                    clear hev hD
                    go_simp
                    exact hK _ _ rfl hG
                  apply gh_det (n := 29)
                  · intro fl xs w ev hG hD hl hdone hev K hK
                    have e107 := (hev (.tmp 107)).trans ((kx1.out xs).2.2.2.2.2.2.2.2.2.2.2.2.2.2.2.2.2.2.2.2.2.2.2.2.2.2.2.2.2.2.2.1)
                    have d28 := hD.at_ 28 rfl rfl
                    replace e107 := e107.trans d28
                    have dg := hD.at_ 21 rfl rfl
                    rw [if_pos (wantedX_yes 21 false rfl dg)]
                    have ef : ∀ f, ev (.func f) = .func (.func f) #[] #[] := fun f => (hev _).trans rfl
                    clear hev hD
                    go_simp
                    exact hK _ _ rfl hG
                  apply gh_det (n := 30)
                  · intro fl xs w ev hG hD hl hdone hev K hK
                    have e108 := (hev (.tmp 108)).trans ((kx1.out xs).2.2.2.2.2.2.2.2.2.2.2.2.2.2.2.2.2.2.2.2.2.2.2.2.2.2.2.2.2.2.2.2.1)
                    have d29 := hD.at_ 29 rfl rfl
                    replace e108 := e108.trans d29
                    have dg := hD.at_ 21 rfl rfl
                    rw [if_pos (wantedX_yes 21 false rfl dg)]
                    have ef : ∀ f, ev (.func f) = .func (.func f) #[] #[] := fun f => (hev _).trans rfl
                    clear hev hD
                    have m0 := (hG.cell (p := ⟨bE, _, none⟩) hbE).trans k0
                    go_simp
                    exact hK _ _ rfl hG
                  apply gh_det (n := 31)
                  · intro fl xs w ev hG hD hl hdone hev K hK
                    have e6 := (hev (.tmp 6)).trans ((kx1.out xs).1)
                    have dg := hD.at_ 21 rfl rfl
                    rw [if_pos (wantedX_yes 21 false rfl dg)]
                    have ef : ∀ f, ev (.func f) = .func (.func f) #[] #[] := fun f => (hev _).trans rfl
                    clear hev hD
                    go_simp
                    exact hK _ _ rfl hG
                  apply gh_det (n := 32)
                  · intro fl xs w ev hG hD hl hdone hev K hK
                    have e8 := (hev (.tmp 8)).trans ((kx1.out xs).2.1)
                    have dg := hD.at_ 21 rfl rfl
                    rw [if_pos (wantedX_yes 21 false rfl dg)]
                    have ef : ∀ f, ev (.func f) = .func (.func f) #[] #[] := fun f => (hev _).trans rfl
                    clear hev hD
                    go_simp
                    exact hK _ _ rfl hG
                  apply gh_det (n := 33)
                  · intro fl xs w ev hG hD hl hdone hev K hK
                    have e110 := (hev (.tmp 110)).trans ((kx1.out xs).2.2.2.2.2.2.2.2.2.2.2.2.2.2.2.2.2.2.2.2.2.2.2.2.2.2.2.2.2.2.2.2.2.2.1)
                    have d31 := hD.at_ 31 rfl rfl
                    replace e110 := e110.trans d31
                    have e111 := (hev (.tmp 111)).trans ((kx1.out xs).2.2.2.2.2.2.2.2.2.2.2.2.2.2.2.2.2.2.2.2.2.2.2.2.2.2.2.2.2.2.2.2.2.2.2.1)
                    have d32 := hD.at_ 32 rfl rfl
                    replace e111 := e111.trans d32
                    have dg := hD.at_ 21 rfl rfl
                    rw [if_pos (wantedX_yes 21 false rfl dg)]
                    have ef : ∀ f, ev (.func f) = .func (.func f) #[] #[] := fun f => (hev _).trans rfl
                    clear hev hD
                    go_simp
                    exact hK _ _ rfl hG
                  apply gh_det (n := 34)
                  · intro fl xs w ev hG hD hl hdone hev K hK
                    have e112 := (hev (.tmp 112)).trans ((kx1.out xs).2.2.2.2.2.2.2.2.2.2.2.2.2.2.2.2.2.2.2.2.2.2.2.2.2.2.2.2.2.2.2.2.2.2.2.2.1)
                    have d33 := hD.at_ 33 rfl rfl
                    replace e112 := e112.trans d33
                    have dg := hD.at_ 21 rfl rfl
                    rw [if_pos (wantedX_yes 21 false rfl dg)]
                    have ef : ∀ f, ev (.func f) = .func (.func f) #[] #[] := fun f => (hev _).trans rfl
                    clear hev hD
                    have m0 := (hG.cell (p := ⟨bR, _, none⟩) zbR).trans fw
                    go_simp
                    exact hK _ _ rfl hG
                  apply gh_det (n := 35)
                  · intro fl xs w ev hG hD hl hdone hev K hK
                    have e9 := (hev (.tmp 9)).trans ((kx1.out xs).2.2.1)
                    have dg := hD.at_ 21 rfl rfl
                    rw [if_pos (wantedX_yes 21 false rfl dg)]
                    have ef : ∀ f, ev (.func f) = .func (.func f) #[] #[] := fun f => (hev _).trans rfl
                    clear hev hD
                    go_simp
                    exact hK _ _ rfl hG
                  apply gh_det (n := 36)
                  · intro fl xs w ev hG hD hl hdone hev K hK
                    have e113 := (hev (.tmp 113)).trans ((kx1.out xs).2.2.2.2.2.2.2.2.2.2.2.2.2.2.2.2.2.2.2.2.2.2.2.2.2.2.2.2.2.2.2.2.2.2.2.2.2.1)
                    have d34 := hD.at_ 34 rfl rfl
                    replace e113 := e113.trans d34
                    have e114 := (hev (.tmp 114)).trans ((kx1.out xs).2.2.2.2.2.2.2.2.2.2.2.2.2.2.2.2.2.2.2.2.2.2.2.2.2.2.2.2.2.2.2.2.2.2.2.2.2.2.1)
                    have d35 := hD.at_ 35 rfl rfl
                    replace e114 := e114.trans d35
                    have dg := hD.at_ 21 rfl rfl
                    rw [if_pos (wantedX_yes 21 false rfl dg)]
                    have ef : ∀ f, ev (.func f) = .func (.func f) #[] #[] := fun f => (hev _).trans rfl
                    clear hev hD
                    go_simp
                    exact hK _ _ rfl hG
                  apply gh_det (n := 37)
                  · intro fl xs w ev hG hD hl hdone hev K hK
                    have e115 := (hev (.tmp 115)).trans ((kx1.out xs).2.2.2.2.2.2.2.2.2.2.2.2.2.2.2.2.2.2.2.2.2.2.2.2.2.2.2.2.2.2.2.2.2.2.2.2.2.2.2.1)
                    have d36 := hD.at_ 36 rfl rfl
                    replace e115 := e115.trans d36
                    have dg := hD.at_ 21 rfl rfl
                    rw [if_pos (wantedX_yes 21 false rfl dg)]
                    have ef : ∀ f, ev (.func f) = .func (.func f) #[] #[] := fun f => (hev _).trans rfl
                    clear hev hD
                    go_simp
                    exact hK _ _ rfl hG
                  apply gh_det (n := 38)
                  · intro fl xs w ev hG hD hl hdone hev K hK
                    have e116 := (hev (.tmp 116)).trans ((kx1.out xs).2.2.2.2.2.2.2.2.2.2.2.2.2.2.2.2.2.2.2.2.2.2.2.2.2.2.2.2.2.2.2.2.2.2.2.2.2.2.2.2.1)
                    have d37 := hD.at_ 37 rfl rfl
                    replace e116 := e116.trans d37
                    have dg := hD.at_ 21 rfl rfl
                    rw [if_pos (wantedX_yes 21 false rfl dg)]
                    have ef : ∀ f, ev (.func f) = .func (.func f) #[] #[] := fun f => (hev _).trans rfl
                    clear hev hD
                    have m0 := (hG.cell (p := ⟨bE, _, none⟩) hbE).trans g0
                    go_simp
                    exact hK _ _ rfl hG
                  apply gh_det (n := 39)
                  · intro fl xs w ev hG hD hl hdone hev K hK
                    have e109 := (hev (.tmp 109)).trans ((kx1.out xs).2.2.2.2.2.2.2.2.2.2.2.2.2.2.2.2.2.2.2.2.2.2.2.2.2.2.2.2.2.2.2.2.2.1)
                    have d30 := hD.at_ 30 rfl rfl
                    replace e109 := e109.trans d30
                    have e117 := (hev (.tmp 117)).trans ((kx1.out xs).2.2.2.2.2.2.2.2.2.2.2.2.2.2.2.2.2.2.2.2.2.2.2.2.2.2.2.2.2.2.2.2.2.2.2.2.2.2.2.2.2.1)
                    have d38 := hD.at_ 38 rfl rfl
                    replace e117 := e117.trans d38
                    have dg := hD.at_ 21 rfl rfl
                    rw [if_pos (wantedX_yes 21 false rfl dg)]
                    have ef : ∀ f, ev (.func f) = .func (.func f) #[] #[] := fun f => (hev _).trans rfl
                    clear hev hD
                    go_simp
                    exact hK _ _ rfl hG
                  apply gh_det (n := 40)
                  · intro fl xs w ev hG hD hl hdone hev K hK
                    have e118 := (hev (.tmp 118)).trans ((kx1.out xs).2.2.2.2.2.2.2.2.2.2.2.2.2.2.2.2.2.2.2.2.2.2.2.2.2.2.2.2.2.2.2.2.2.2.2.2.2.2.2.2.2.2.1)
                    have d39 := hD.at_ 39 rfl rfl
                    replace e118 := e118.trans d39
                    have dg := hD.at_ 21 rfl rfl
                    rw [if_pos (wantedX_yes 21 false rfl dg)]
                    have ef : ∀ f, ev (.func f) = .func (.func f) #[] #[] := fun f => (hev _).trans rfl
                    clear hev hD
                    go_simp
                    exact hK _ _ rfl hG
                  apply gh_det (n := 41)
                  · intro fl xs w ev hG hD hl hdone hev K hK
                    have e6 := (hev (.tmp 6)).trans ((kx1.out xs).1)
                    have dg := hD.at_ 40 rfl rfl
                    rw [if_neg (Bool.eq_false_iff.1 (wantedX_no 40 false rfl dg))]
                    exact hK _ _ rfl hG
                  apply gh_det (n := 42)
                  · intro fl xs w ev hG hD hl hdone hev K hK
                    have e8 := (hev (.tmp 8)).trans ((kx1.out xs).2.1)
                    have dg := hD.at_ 40 rfl rfl
                    rw [if_neg (Bool.eq_false_iff.1 (wantedX_no 40 false rfl dg))]
                    exact hK _ _ rfl hG
                  apply gh_det (n := 43)
                  · intro fl xs w ev hG hD hl hdone hev K hK
                    have e120 := (hev (.tmp 120)).trans ((kx1.out xs).2.2.2.2.2.2.2.2.2.2.2.2.2.2.2.2.2.2.2.2.2.2.2.2.2.2.2.2.2.2.2.2.2.2.2.2.2.2.2.2.2.2.2.2.1)
                    have d41 := hD.at_ 41 rfl rfl
                    replace e120 := e120.trans d41
                    have e121 := (hev (.tmp 121)).trans ((kx1.out xs).2.2.2.2.2.2.2.2.2.2.2.2.2.2.2.2.2.2.2.2.2.2.2.2.2.2.2.2.2.2.2.2.2.2.2.2.2.2.2.2.2.2.2.2.2.1)
                    have d42 := hD.at_ 42 rfl rfl
                    replace e121 := e121.trans d42
                    have dg := hD.at_ 40 rfl rfl
                    rw [if_neg (Bool.eq_false_iff.1 (wantedX_no 40 false rfl dg))]
                    exact hK _ _ rfl hG
                  apply gh_det (n := 44)
                  · intro fl xs w ev hG hD hl hdone hev K hK
                    have e122 := (hev (.tmp 122)).trans ((kx1.out xs).2.2.2.2.2.2.2.2.2.2.2.2.2.2.2.2.2.2.2.2.2.2.2.2.2.2.2.2.2.2.2.2.2.2.2.2.2.2.2.2.2.2.2.2.2.2.1)
                    have d43 := hD.at_ 43 rfl rfl
                    replace e122 := e122.trans d43
                    have dg := hD.at_ 40 rfl rfl
                    rw [if_neg (Bool.eq_false_iff.1 (wantedX_no 40 false rfl dg))]
                    exact hK _ _ rfl hG
                  apply gh_det (n := 45)
                  · intro fl xs w ev hG hD hl hdone hev K hK
                    have e9 := (hev (.tmp 9)).trans ((kx1.out xs).2.2.1)
                    have dg := hD.at_ 40 rfl rfl
                    rw [if_neg (Bool.eq_false_iff.1 (wantedX_no 40 false rfl dg))]
                    exact hK _ _ rfl hG
                  apply gh_det (n := 46)
                  · intro fl xs w ev hG hD hl hdone hev K hK
                    have e124 := (hev (.tmp 124)).trans ((kx1.out xs).2.2.2.2.2.2.2.2.2.2.2.2.2.2.2.2.2.2.2.2.2.2.2.2.2.2.2.2.2.2.2.2.2.2.2.2.2.2.2.2.2.2.2.2.2.2.2.2.1)
                    have d45 := hD.at_ 45 rfl rfl
                    replace e124 := e124.trans d45
                    have dg := hD.at_ 40 rfl rfl
                    rw [if_neg (Bool.eq_false_iff.1 (wantedX_no 40 false rfl dg))]
                    exact hK _ _ rfl hG
                  apply gh_det (n := 47)
                  · intro fl xs w ev hG hD hl hdone hev K hK
                    have e123 := (hev (.tmp 123)).trans ((kx1.out xs).2.2.2.2.2.2.2.2.2.2.2.2.2.2.2.2.2.2.2.2.2.2.2.2.2.2.2.2.2.2.2.2.2.2.2.2.2.2.2.2.2.2.2.2.2.2.2.1)
                    have d44 := hD.at_ 44 rfl rfl
                    replace e123 := e123.trans d44
                    have e125 := (hev (.tmp 125)).trans ((kx1.out xs).2.2.2.2.2.2.2.2.2.2.2.2.2.2.2.2.2.2.2.2.2.2.2.2.2.2.2.2.2.2.2.2.2.2.2.2.2.2.2.2.2.2.2.2.2.2.2.2.2.1)
                    have d46 := hD.at_ 46 rfl rfl
                    replace e125 := e125.trans d46
                    have dg := hD.at_ 40 rfl rfl
                    rw [if_neg (Bool.eq_false_iff.1 (wantedX_no 40 false rfl dg))]
                    exact hK _ _ rfl hG
                  apply gh_det (n := 48)
                  · intro fl xs w ev hG hD hl hdone hev K hK
                    have e126 := (hev (.tmp 126)).trans ((kx1.out xs).2.2.2.2.2.2.2.2.2.2.2.2.2.2.2.2.2.2.2.2.2.2.2.2.2.2.2.2.2.2.2.2.2.2.2.2.2.2.2.2.2.2.2.2.2.2.2.2.2.2.1)
                    have d47 := hD.at_ 47 rfl rfl
                    replace e126 := e126.trans d47
                    have dg := hD.at_ 40 rfl rfl
                    rw [if_neg (Bool.eq_false_iff.1 (wantedX_no 40 false rfl dg))]
                    exact hK _ _ rfl hG
                  apply gh_det (n := 49)
                  · intro fl xs w ev hG hD hl hdone hev K hK
                    have e127 := (hev (.tmp 127)).trans ((kx1.out xs).2.2.2.2.2.2.2.2.2.2.2.2.2.2.2.2.2.2.2.2.2.2.2.2.2.2.2.2.2.2.2.2.2.2.2.2.2.2.2.2.2.2.2.2.2.2.2.2.2.2.2.1)
                    have d48 := hD.at_ 48 rfl rfl
                    replace e127 := e127.trans d48
                    have dg := hD.at_ 40 rfl rfl
                    rw [if_neg (Bool.eq_false_iff.1 (wantedX_no 40 false rfl dg))]
                    exact hK _ _ rfl hG
                  apply gh_det (n := 50)
                  · intro fl xs w ev hG hD hl hdone hev K hK
                    have e6 := (hev (.tmp 6)).trans ((kx1.out xs).1)
                    have dg := hD.at_ 40 rfl rfl
                    rw [if_neg (Bool.eq_false_iff.1 (wantedX_no 40 false rfl dg))]
                    exact hK _ _ rfl hG
                  apply gh_det (n := 51)
                  · intro fl xs w ev hG hD hl hdone hev K hK
                    have e8 := (hev (.tmp 8)).trans ((kx1.out xs).2.1)
                    have dg := hD.at_ 40 rfl rfl
                    rw [if_neg (Bool.eq_false_iff.1 (wantedX_no 40 false rfl dg))]
                    exact hK _ _ rfl hG
                  apply gh_det (n := 52)
                  · intro fl xs w ev hG hD hl hdone hev K hK
                    have e129 := (hev (.tmp 129)).trans ((kx1.out xs).2.2.2.2.2.2.2.2.2.2.2.2.2.2.2.2.2.2.2.2.2.2.2.2.2.2.2.2.2.2.2.2.2.2.2.2.2.2.2.2.2.2.2.2.2.2.2.2.2.2.2.2.2.1)
                    have d50 := hD.at_ 50 rfl rfl
                    replace e129 := e129.trans d50
                    have e130 := (hev (.tmp 130)).trans ((kx1.out xs).2.2.2.2.2.2.2.2.2.2.2.2.2.2.2.2.2.2.2.2.2.2.2.2.2.2.2.2.2.2.2.2.2.2.2.2.2.2.2.2.2.2.2.2.2.2.2.2.2.2.2.2.2.2.1)
                    have d51 := hD.at_ 51 rfl rfl
                    replace e130 := e130.trans d51
                    have dg := hD.at_ 40 rfl rfl
                    rw [if_neg (Bool.eq_false_iff.1 (wantedX_no 40 false rfl dg))]
                    exact hK _ _ rfl hG
                  apply gh_det (n := 53)
                  · intro fl xs w ev hG hD hl hdone hev K hK
                    have e131 := (hev (.tmp 131)).trans ((kx1.out xs).2.2.2.2.2.2.2.2.2.2.2.2.2.2.2.2.2.2.2.2.2.2.2.2.2.2.2.2.2.2.2.2.2.2.2.2.2.2.2.2.2.2.2.2.2.2.2.2.2.2.2.2.2.2.2.1)
                    have d52 := hD.at_ 52 rfl rfl
                    replace e131 := e131.trans d52
                    have dg := hD.at_ 40 rfl rfl
                    rw [if_neg (Bool.eq_false_iff.1 (wantedX_no 40 false rfl dg))]
                    exact hK _ _ rfl hG
                  apply gh_det (n := 54)
                  · intro fl xs w ev hG hD hl hdone hev K hK
                    have e9 := (hev (.tmp 9)).trans ((kx1.out xs).2.2.1)
                    have dg := hD.at_ 40 rfl rfl
                    rw [if_neg (Bool.eq_false_iff.1 (wantedX_no 40 false rfl dg))]
                    exact hK _ _ rfl hG
                  apply gh_det (n := 55)
                  · intro fl xs w ev hG hD hl hdone hev K hK
                    have e132 := (hev (.tmp 132)).trans ((kx1.out xs).2.2.2.2.2.2.2.2.2.2.2.2.2.2.2.2.2.2.2.2.2.2.2.2.2.2.2.2.2.2.2.2.2.2.2.2.2.2.2.2.2.2.2.2.2.2.2.2.2.2.2.2.2.2.2.2.1)
                    have d53 := hD.at_ 53 rfl rfl
                    replace e132 := e132.trans d53
                    have e133 := (hev (.tmp 133)).trans ((kx1.out xs).2.2.2.2.2.2.2.2.2.2.2.2.2.2.2.2.2.2.2.2.2.2.2.2.2.2.2.2.2.2.2.2.2.2.2.2.2.2.2.2.2.2.2.2.2.2.2.2.2.2.2.2.2.2.2.2.2.1)
                    have d54 := hD.at_ 54 rfl rfl
                    replace e133 := e133.trans d54
                    have dg := hD.at_ 40 rfl rfl
                    rw [if_neg (Bool.eq_false_iff.1 (wantedX_no 40 false rfl dg))]
                    exact hK _ _ rfl hG
                  apply gh_det (n := 56)
                  · intro fl xs w ev hG hD hl hdone hev K hK
                    have e134 := (hev (.tmp 134)).trans ((kx1.out xs).2.2.2.2.2.2.2.2.2.2.2.2.2.2.2.2.2.2.2.2.2.2.2.2.2.2.2.2.2.2.2.2.2.2.2.2.2.2.2.2.2.2.2.2.2.2.2.2.2.2.2.2.2.2.2.2.2.2.1)
                    have d55 := hD.at_ 55 rfl rfl
                    replace e134 := e134.trans d55
                    have dg := hD.at_ 40 rfl rfl
                    rw [if_neg (Bool.eq_false_iff.1 (wantedX_no 40 false rfl dg))]
                    exact hK _ _ rfl hG
                  apply gh_det (n := 57)
                  · intro fl xs w ev hG hD hl hdone hev K hK
                    have e135 := (hev (.tmp 135)).trans ((kx1.out xs).2.2.2.2.2.2.2.2.2.2.2.2.2.2.2.2.2.2.2.2.2.2.2.2.2.2.2.2.2.2.2.2.2.2.2.2.2.2.2.2.2.2.2.2.2.2.2.2.2.2.2.2.2.2.2.2.2.2.2.1)
                    have d56 := hD.at_ 56 rfl rfl
                    replace e135 := e135.trans d56
                    have dg := hD.at_ 40 rfl rfl
                    rw [if_neg (Bool.eq_false_iff.1 (wantedX_no 40 false rfl dg))]
                    exact hK _ _ rfl hG
                  apply gh_det (n := 58)
                  · intro fl xs w ev hG hD hl hdone hev K hK
                    have e128 := (hev (.tmp 128)).trans ((kx1.out xs).2.2.2.2.2.2.2.2.2.2.2.2.2.2.2.2.2.2.2.2.2.2.2.2.2.2.2.2.2.2.2.2.2.2.2.2.2.2.2.2.2.2.2.2.2.2.2.2.2.2.2.2.1)
                    have d49 := hD.at_ 49 rfl rfl
                    replace e128 := e128.trans d49
                    have e136 := (hev (.tmp 136)).trans ((kx1.out xs).2.2.2.2.2.2.2.2.2.2.2.2.2.2.2.2.2.2.2.2.2.2.2.2.2.2.2.2.2.2.2.2.2.2.2.2.2.2.2.2.2.2.2.2.2.2.2.2.2.2.2.2.2.2.2.2.2.2.2.2.1)
                    have d57 := hD.at_ 57 rfl rfl
                    replace e136 := e136.trans d57
                    have dg := hD.at_ 40 rfl rfl
                    rw [if_neg (Bool.eq_false_iff.1 (wantedX_no 40 false rfl dg))]
                    exact hK _ _ rfl hG
                  apply gh_det (n := 59)
                  · intro fl xs w ev hG hD hl hdone hev K hK
                    have e119 := (hev (.tmp 119)).trans ((kx1.out xs).2.2.2.2.2.2.2.2.2.2.2.2.2.2.2.2.2.2.2.2.2.2.2.2.2.2.2.2.2.2.2.2.2.2.2.2.2.2.2.2.2.2.2.1)
                    have d40 := hD.at_ 40 rfl rfl
                    replace e119 := e119.trans d40
                    have e137 := (hev (.tmp 137)).trans ((kx1.out xs).2.2.2.2.2.2.2.2.2.2.2.2.2.2.2.2.2.2.2.2.2.2.2.2.2.2.2.2.2.2.2.2.2.2.2.2.2.2.2.2.2.2.2.2.2.2.2.2.2.2.2.2.2.2.2.2.2.2.2.2.2.1)
                    have d58 := hD.at_ 58 rfl rfl
                    replace e137 := e137.trans d58
                    have dg := hD.at_ 21 rfl rfl
                    rw [if_pos (wantedX_yes 21 false rfl dg)]
                    have ef : ∀ f, ev (.func f) = .func (.func f) #[] #[] := fun f => (hev _).trans rfl
                    have ec : ∀ v, ev (.const v) = v := fun v => (hev _).trans rfl
                    clear hev hD
                    go_simp
                    exact hK _ _ rfl hG
                  apply gh_det (n := 60)
                  · intro fl xs w ev hG hD hl hdone hev K hK
                    have e100 := (hev (.tmp 100)).trans ((kx1.out xs).2.2.2.2.2.2.2.2.2.2.2.2.2.2.2.2.2.2.2.2.2.2.2.2.1)
                    have d21 := hD.at_ 21 rfl rfl
                    replace e100 := e100.trans d21
                    have e138 := (hev (.tmp 138)).trans ((kx1.out xs).2.2.2.2.2.2.2.2.2.2.2.2.2.2.2.2.2.2.2.2.2.2.2.2.2.2.2.2.2.2.2.2.2.2.2.2.2.2.2.2.2.2.2.2.2.2.2.2.2.2.2.2.2.2.2.2.2.2.2.2.2.2.1)
                    have d59 := hD.at_ 59 rfl rfl
                    replace e138 := e138.trans d59
                    have dg := hD.at_ 2 rfl rfl
                    rw [if_pos (wantedX_yes 2 true rfl dg)]
                    have ef : ∀ f, ev (.func f) = .func (.func f) #[] #[] := fun f => (hev _).trans rfl
                    have ec : ∀ v, ev (.const v) = v := fun v => (hev _).trans rfl
                    clear hev hD
                    go_simp
                    exact hK _ _ rfl hG
                  apply gh_det (n := 61)
                  · intro fl xs w ev hG hD hl hdone hev K hK
                    have e81 := (hev (.tmp 81)).trans ((kx1.out xs).2.2.2.2.2.1)
                    have d2 := hD.at_ 2 rfl rfl
                    replace e81 := e81.trans d2
                    have e139 := (hev (.tmp 139)).trans ((kx1.out xs).2.2.2.2.2.2.2.2.2.2.2.2.2.2.2.2.2.2.2.2.2.2.2.2.2.2.2.2.2.2.2.2.2.2.2.2.2.2.2.2.2.2.2.2.2.2.2.2.2.2.2.2.2.2.2.2.2.2.2.2.2.2.2.1)
                    have d60 := hD.at_ 60 rfl rfl
                    replace e139 := e139.trans d60
                    rw [if_pos (wantedX_none rfl)]
                    have ef : ∀ f, ev (.func f) = .func (.func f) #[] #[] := fun f => (hev _).trans rfl
                    have ec : ∀ v, ev (.const v) = v := fun v => (hev _).trans rfl
                    clear hev hD
                    go_simp
                    exact hK _ _ rfl hG
                  apply gh_det (n := 62)
                  · intro fl xs w ev hG hD hl hdone hev K hK
                    have e140 := (hev (.tmp 140)).trans ((kx1.out xs).2.2.2.2.2.2.2.2.2.2.2.2.2.2.2.2.2.2.2.2.2.2.2.2.2.2.2.2.2.2.2.2.2.2.2.2.2.2.2.2.2.2.2.2.2.2.2.2.2.2.2.2.2.2.2.2.2.2.2.2.2.2.2.2.1)
                    have d61 := hD.at_ 61 rfl rfl
                    replace e140 := e140.trans d61
                    rw [if_pos (wantedX_none rfl)]
                    have ef : ∀ f, ev (.func f) = .func (.func f) #[] #[] := fun f => (hev _).trans rfl
                    clear hev hD
                    go_simp
                    exact hK _ _ rfl hG
                  apply gh_det (n := 63)
                  · intro fl xs w ev hG hD hl hdone hev K hK
                    have e6 := (hev (.tmp 6)).trans ((kx1.out xs).1)
                    have dg := hD.at_ 62 rfl rfl
                    rw [if_pos (wantedX_yes 62 false rfl dg)]
                    have ef : ∀ f, ev (.func f) = .func (.func f) #[] #[] := fun f => (hev _).trans rfl
                    clear hev hD
                    go_simp
                    exact hK _ _ rfl hG
                  apply gh_det (n := 64)
                  · intro fl xs w ev hG hD hl hdone hev K hK
                    have e8 := (hev (.tmp 8)).trans ((kx1.out xs).2.1)
                    have dg := hD.at_ 62 rfl rfl
                    rw [if_pos (wantedX_yes 62 false rfl dg)]
                    have ef : ∀ f, ev (.func f) = .func (.func f) #[] #[] := fun f => (hev _).trans rfl
                    clear hev hD
                    go_simp
                    exact hK _ _ rfl hG
                  apply gh_det (n := 65)
                  · intro fl xs w ev hG hD hl hdone hev K hK
                    have e142 := (hev (.tmp 142)).trans ((kx1.out xs).2.2.2.2.2.2.2.2.2.2.2.2.2.2.2.2.2.2.2.2.2.2.2.2.2.2.2.2.2.2.2.2.2.2.2.2.2.2.2.2.2.2.2.2.2.2.2.2.2.2.2.2.2.2.2.2.2.2.2.2.2.2.2.2.2.2.1)
                    have d63 := hD.at_ 63 rfl rfl
                    replace e142 := e142.trans d63
                    have e143 := (hev (.tmp 143)).trans ((kx1.out xs).2.2.2.2.2.2.2.2.2.2.2.2.2.2.2.2.2.2.2.2.2.2.2.2.2.2.2.2.2.2.2.2.2.2.2.2.2.2.2.2.2.2.2.2.2.2.2.2.2.2.2.2.2.2.2.2.2.2.2.2.2.2.2.2.2.2.2.1)
                    have d64 := hD.at_ 64 rfl rfl
                    replace e143 := e143.trans d64
                    have dg := hD.at_ 62 rfl rfl
                    rw [if_pos (wantedX_yes 62 false rfl dg)]
                    have ef : ∀ f, ev (.func f) = .func (.func f) #[] #[] := fun f => (hev _).trans rfl
                    clear hev hD
                    go_simp
                    exact hK _ _ rfl hG
                  apply gh_det (n := 66)
                  · intro fl xs w ev hG hD hl hdone hev K hK
                    have e144 := (hev (.tmp 144)).trans ((kx1.out xs).2.2.2.2.2.2.2.2.2.2.2.2.2.2.2.2.2.2.2.2.2.2.2.2.2.2.2.2.2.2.2.2.2.2.2.2.2.2.2.2.2.2.2.2.2.2.2.2.2.2.2.2.2.2.2.2.2.2.2.2.2.2.2.2.2.2.2.2.1)
                    have d65 := hD.at_ 65 rfl rfl
                    replace e144 := e144.trans d65
                    have dg := hD.at_ 62 rfl rfl
                    rw [if_pos (wantedX_yes 62 false rfl dg)]
                    have ef : ∀ f, ev (.func f) = .func (.func f) #[] #[] := fun f => (hev _).trans rfl
                    clear hev hD
                    have m0 := (hG.cell (p := ⟨bR, _, none⟩) zbR).trans fw
                    go_simp
                    exact hK _ _ rfl hG
                  apply gh_det (n := 67)
                  · intro fl xs w ev hG hD hl hdone hev K hK
                    have e9 := (hev (.tmp 9)).trans ((kx1.out xs).2.2.1)
                    have dg := hD.at_ 62 rfl rfl
                    rw [if_pos (wantedX_yes 62 false rfl dg)]
                    have ef : ∀ f, ev (.func f) = .func (.func f) #[] #[] := fun f => (hev _).trans rfl
                    clear hev hD
                    go_simp
                    exact hK _ _ rfl hG
                  apply gh_det (n := 68)
                  · intro fl xs w ev hG hD hl hdone hev K hK
                    have e145 := (hev (.tmp 145)).trans ((kx1.out xs).2.2.2.2.2.2.2.2.2.2.2.2.2.2.2.2.2.2.2.2.2.2.2.2.2.2.2.2.2.2.2.2.2.2.2.2.2.2.2.2.2.2.2.2.2.2.2.2.2.2.2.2.2.2.2.2.2.2.2.2.2.2.2.2.2.2.2.2.2.1)
                    have d66 := hD.at_ 66 rfl rfl
                    replace e145 := e145.trans d66
                    have e146 := (hev (.tmp 146)).trans ((kx1.out xs).2.2.2.2.2.2.2.2.2.2.2.2.2.2.2.2.2.2.2.2.2.2.2.2.2.2.2.2.2.2.2.2.2.2.2.2.2.2.2.2.2.2.2.2.2.2.2.2.2.2.2.2.2.2.2.2.2.2.2.2.2.2.2.2.2.2.2.2.2.2.1)
                    have d67 := hD.at_ 67 rfl rfl
                    replace e146 := e146.trans d67
                    have dg := hD.at_ 62 rfl rfl
                    rw [if_pos (wantedX_yes 62 false rfl dg)]
                    have ef : ∀ f, ev (.func f) = .func (.func f) #[] #[] := fun f => (hev _).trans rfl
                    clear hev hD
                    go_simp
                    exact hK _ _ rfl hG
                  apply gh_det (n := 69)
                  · intro fl xs w ev hG hD hl hdone hev K hK
                    have e147 := (hev (.tmp 147)).trans ((kx1.out xs).2.2.2.2.2.2.2.2.2.2.2.2.2.2.2.2.2.2.2.2.2.2.2.2.2.2.2.2.2.2.2.2.2.2.2.2.2.2.2.2.2.2.2.2.2.2.2.2.2.2.2.2.2.2.2.2.2.2.2.2.2.2.2.2.2.2.2.2.2.2.2.1)
                    have d68 := hD.at_ 68 rfl rfl
                    replace e147 := e147.trans d68
                    have dg := hD.at_ 62 rfl rfl
                    rw [if_pos (wantedX_yes 62 false rfl dg)]
                    have ef : ∀ f, ev (.func f) = .func (.func f) #[] #[] := fun f => (hev _).trans rfl
                    clear hev hD
                    go_simp
                    exact hK _ _ rfl hG
                  apply gh_det (n := 70)
                  · intro fl xs w ev hG hD hl hdone hev K hK
                    have e148 := (hev (.tmp 148)).trans ((kx1.out xs).2.2.2.2.2.2.2.2.2.2.2.2.2.2.2.2.2.2.2.2.2.2.2.2.2.2.2.2.2.2.2.2.2.2.2.2.2.2.2.2.2.2.2.2.2.2.2.2.2.2.2.2.2.2.2.2.2.2.2.2.2.2.2.2.2.2.2.2.2.2.2.2.1)
                    have d69 := hD.at_ 69 rfl rfl
                    replace e148 := e148.trans d69
                    have dg := hD.at_ 62 rfl rfl
                    rw [if_pos (wantedX_yes 62 false rfl dg)]
                    have ef : ∀ f, ev (.func f) = .func (.func f) #[] #[] := fun f => (hev _).trans rfl
                    clear hev hD
                    have m0 := (hG.cell (p := ⟨bE, _, none⟩) hbE).trans g0
                    go_simp
                    exact hK _ _ rfl hG
                  apply gh_det (n := 71)
                  · intro fl xs w ev hG hD hl hdone hev K hK
                    have e149 := (hev (.tmp 149)).trans ((kx1.out xs).2.2.2.2.2.2.2.2.2.2.2.2.2.2.2.2.2.2.2.2.2.2.2.2.2.2.2.2.2.2.2.2.2.2.2.2.2.2.2.2.2.2.2.2.2.2.2.2.2.2.2.2.2.2.2.2.2.2.2.2.2.2.2.2.2.2.2.2.2.2.2.2.2.1)
                    have d70 := hD.at_ 70 rfl rfl
                    replace e149 := e149.trans d70
                    have dg := hD.at_ 62 rfl rfl
                    rw [if_pos (wantedX_yes 62 false rfl dg)]
                    have ef : ∀ f, ev (.func f) = .func (.func f) #[] #[] := fun f => (hev _).trans rfl
                    have ec : ∀ v, ev (.const v) = v := fun v => (hev _).trans rfl
                    clear hev hD
                    go_simp
                    exact hK _ _ rfl hG
                  apply gh_det (n := 72)
                  · intro fl xs w ev hG hD hl hdone hev K hK
                    have e141 := (hev (.tmp 141)).trans ((kx1.out xs).2.2.2.2.2.2.2.2.2.2.2.2.2.2.2.2.2.2.2.2.2.2.2.2.2.2.2.2.2.2.2.2.2.2.2.2.2.2.2.2.2.2.2.2.2.2.2.2.2.2.2.2.2.2.2.2.2.2.2.2.2.2.2.2.2.1)
                    have d62 := hD.at_ 62 rfl rfl
                    replace e141 := e141.trans d62
                    have e150 := (hev (.tmp 150)).trans ((kx1.out xs).2.2.2.2.2.2.2.2.2.2.2.2.2.2.2.2.2.2.2.2.2.2.2.2.2.2.2.2.2.2.2.2.2.2.2.2.2.2.2.2.2.2.2.2.2.2.2.2.2.2.2.2.2.2.2.2.2.2.2.2.2.2.2.2.2.2.2.2.2.2.2.2.2.2.1)
                    have d71 := hD.at_ 71 rfl rfl
                    replace e150 := e150.trans d71
                    rw [if_pos (wantedX_none rfl)]
                    have ef : ∀ f, ev (.func f) = .func (.func f) #[] #[] := fun f => (hev _).trans rfl
                    have ec : ∀ v, ev (.const v) = v := fun v => (hev _).trans rfl
                    clear hev hD
                    go_simp
                    exact hK _ _ rfl hG
                  apply gh_det (n := 73)
                  · intro fl xs w ev hG hD hl hdone hev K hK
                    have e151 := (hev (.tmp 151)).trans ((kx1.out xs).2.2.2.2.2.2.2.2.2.2.2.2.2.2.2.2.2.2.2.2.2.2.2.2.2.2.2.2.2.2.2.2.2.2.2.2.2.2.2.2.2.2.2.2.2.2.2.2.2.2.2.2.2.2.2.2.2.2.2.2.2.2.2.2.2.2.2.2.2.2.2.2.2.2.2.1)
                    have d72 := hD.at_ 72 rfl rfl
                    replace e151 := e151.trans d72
                    rw [if_pos (wantedX_none rfl)]
                    have ef : ∀ f, ev (.func f) = .func (.func f) #[] #[] := fun f => (hev _).trans rfl
                    clear hev hD
                    go_simp
                    exact hK _ _ rfl hG
                  apply gh_det (n := 74)
                  · intro fl xs w ev hG hD hl hdone hev K hK
                    have e6 := (hev (.tmp 6)).trans ((kx1.out xs).1)
                    have dg := hD.at_ 73 rfl rfl
                    rw [if_pos (wantedX_yes 73 false rfl dg)]
                    have ef : ∀ f, ev (.func f) = .func (.func f) #[] #[] := fun f => (hev _).trans rfl
                    clear hev hD
                    go_simp
                    exact hK _ _ rfl hG
                  apply gh_det (n := 75)
                  · intro fl xs w ev hG hD hl hdone hev K hK
                    have e8 := (hev (.tmp 8)).trans ((kx1.out xs).2.1)
                    have dg := hD.at_ 73 rfl rfl
                    rw [if_pos (wantedX_yes 73 false rfl dg)]
                    have ef : ∀ f, ev (.func f) = .func (.func f) #[] #[] := fun f => (hev _).trans rfl
                    clear hev hD
                    go_simp
                    exact hK _ _ rfl hG
                  apply gh_det (n := 76)
                  · intro fl xs w ev hG hD hl hdone hev K hK
                    have e153 := (hev (.tmp 153)).trans ((kx1.out xs).2.2.2.2.2.2.2.2.2.2.2.2.2.2.2.2.2.2.2.2.2.2.2.2.2.2.2.2.2.2.2.2.2.2.2.2.2.2.2.2.2.2.2.2.2.2.2.2.2.2.2.2.2.2.2.2.2.2.2.2.2.2.2.2.2.2.2.2.2.2.2.2.2.2.2.2.2.1)
                    have d74 := hD.at_ 74 rfl rfl
                    replace e153 := e153.trans d74
                    have e154 := (hev (.tmp 154)).trans ((kx1.out xs).2.2.2.2.2.2.2.2.2.2.2.2.2.2.2.2.2.2.2.2.2.2.2.2.2.2.2.2.2.2.2.2.2.2.2.2.2.2.2.2.2.2.2.2.2.2.2.2.2.2.2.2.2.2.2.2.2.2.2.2.2.2.2.2.2.2.2.2.2.2.2.2.2.2.2.2.2.2.1)
                    have d75 := hD.at_ 75 rfl rfl
                    replace e154 := e154.trans d75
                    have dg := hD.at_ 73 rfl rfl
                    rw [if_pos (wantedX_yes 73 false rfl dg)]
                    have ef : ∀ f, ev (.func f) = .func (.func f) #[] #[] := fun f => (hev _).trans rfl
                    clear hev hD
                    go_simp
                    exact hK _ _ rfl hG
                  apply gh_det (n := 77)
                  · intro fl xs w ev hG hD hl hdone hev K hK
                    have e155 := (hev (.tmp 155)).trans ((kx1.out xs).2.2.2.2.2.2.2.2.2.2.2.2.2.2.2.2.2.2.2.2.2.2.2.2.2.2.2.2.2.2.2.2.2.2.2.2.2.2.2.2.2.2.2.2.2.2.2.2.2.2.2.2.2.2.2.2.2.2.2.2.2.2.2.2.2.2.2.2.2.2.2.2.2.2.2.2.2.2.2.1)
                    have d76 := hD.at_ 76 rfl rfl
                    replace e155 := e155.trans d76
                    have dg := hD.at_ 73 rfl rfl
                    rw [if_pos (wantedX_yes 73 false rfl dg)]
                    have ef : ∀ f, ev (.func f) = .func (.func f) #[] #[] := fun f => (hev _).trans rfl
                    clear hev hD
                    have m0 := (hG.cell (p := ⟨bR, _, none⟩) zbR).trans fw
                    go_simp
                    exact hK _ _ rfl hG
                  apply gh_det (n := 78)
                  · intro fl xs w ev hG hD hl hdone hev K hK
                    have e9 := (hev (.tmp 9)).trans ((kx1.out xs).2.2.1)
                    have dg := hD.at_ 73 rfl rfl
                    rw [if_pos (wantedX_yes 73 false rfl dg)]
                    have ef : ∀ f, ev (.func f) = .func (.func f) #[] #[] := fun f => (hev _).trans rfl
                    clear hev hD
                    go_simp
                    exact hK _ _ rfl hG
                  apply gh_det (n := 79)
                  · intro fl xs w ev hG hD hl hdone hev K hK
                    have e156 := (hev (.tmp 156)).trans ((kx1.out xs).2.2.2.2.2.2.2.2.2.2.2.2.2.2.2.2.2.2.2.2.2.2.2.2.2.2.2.2.2.2.2.2.2.2.2.2.2.2.2.2.2.2.2.2.2.2.2.2.2.2.2.2.2.2.2.2.2.2.2.2.2.2.2.2.2.2.2.2.2.2.2.2.2.2.2.2.2.2.2.2.1)
                    have d77 := hD.at_ 77 rfl rfl
                    replace e156 := e156.trans d77
                    have e157 := (hev (.tmp 157)).trans ((kx1.out xs).2.2.2.2.2.2.2.2.2.2.2.2.2.2.2.2.2.2.2.2.2.2.2.2.2.2.2.2.2.2.2.2.2.2.2.2.2.2.2.2.2.2.2.2.2.2.2.2.2.2.2.2.2.2.2.2.2.2.2.2.2.2.2.2.2.2.2.2.2.2.2.2.2.2.2.2.2.2.2.2.2.1)
                    have d78 := hD.at_ 78 rfl rfl
                    replace e157 := e157.trans d78
                    have dg := hD.at_ 73 rfl rfl
                    rw [if_pos (wantedX_yes 73 false rfl dg)]
                    have ef : ∀ f, ev (.func f) = .func (.func f) #[] #[] := fun f => (hev _).trans rfl
                    clear hev hD
                    go_simp
                    exact hK _ _ rfl hG
                  apply gh_det (n := 80)
                  · intro fl xs w ev hG hD hl hdone hev K hK
                    have e158 := (hev (.tmp 158)).trans ((kx1.out xs).2.2.2.2.2.2.2.2.2.2.2.2.2.2.2.2.2.2.2.2.2.2.2.2.2.2.2.2.2.2.2.2.2.2.2.2.2.2.2.2.2.2.2.2.2.2.2.2.2.2.2.2.2.2.2.2.2.2.2.2.2.2.2.2.2.2.2.2.2.2.2.2.2.2.2.2.2.2.2.2.2.2.1)
                    have d79 := hD.at_ 79 rfl rfl
                    replace e158 := e158.trans d79
                    have dg := hD.at_ 73 rfl rfl
                    rw [if_pos (wantedX_yes 73 false rfl dg)]
                    have ef : ∀ f, ev (.func f) = .func (.func f) #[] #[] := fun f => (hev _).trans rfl
                    clear hev hD
                    go_simp
                    exact hK _ _ rfl hG
                  apply gh_det (n := 81)
                  · intro fl xs w ev hG hD hl hdone hev K hK
                    have e159 := (hev (.tmp 159)).trans ((kx1.out xs).2.2.2.2.2.2.2.2.2.2.2.2.2.2.2.2.2.2.2.2.2.2.2.2.2.2.2.2.2.2.2.2.2.2.2.2.2.2.2.2.2.2.2.2.2.2.2.2.2.2.2.2.2.2.2.2.2.2.2.2.2.2.2.2.2.2.2.2.2.2.2.2.2.2.2.2.2.2.2.2.2.2.2.1)
                    have d80 := hD.at_ 80 rfl rfl
                    replace e159 := e159.trans d80
                    have dg := hD.at_ 73 rfl rfl
                    rw [if_pos (wantedX_yes 73 false rfl dg)]
                    have ef : ∀ f, ev (.func f) = .func (.func f) #[] #[] := fun f => (hev _).trans rfl
                    clear hev hD
                    have m0 := (hG.cell (p := ⟨bE, _, none⟩) hbE).trans g0
                    go_simp
                    exact hK _ _ rfl hG
                  apply gh_det (n := 82)
                  · intro fl xs w ev hG hD hl hdone hev K hK
                    have e160 := (hev (.tmp 160)).trans ((kx1.out xs).2.2.2.2.2.2.2.2.2.2.2.2.2.2.2.2.2.2.2.2.2.2.2.2.2.2.2.2.2.2.2.2.2.2.2.2.2.2.2.2.2.2.2.2.2.2.2.2.2.2.2.2.2.2.2.2.2.2.2.2.2.2.2.2.2.2.2.2.2.2.2.2.2.2.2.2.2.2.2.2.2.2.2.2.1)
                    have d81 := hD.at_ 81 rfl rfl
                    replace e160 := e160.trans d81
                    have dg := hD.at_ 73 rfl rfl
                    rw [if_pos (wantedX_yes 73 false rfl dg)]
                    have ef : ∀ f, ev (.func f) = .func (.func f) #[] #[] := fun f => (hev _).trans rfl
                    have ec : ∀ v, ev (.const v) = v := fun v => (hev _).trans rfl
                    clear hev hD
                    go_simp
                    exact hK _ _ rfl hG
                  apply gh_det (n := 83)
                  · intro fl xs w ev hG hD hl hdone hev K hK
                    have e152 := (hev (.tmp 152)).trans ((kx1.out xs).2.2.2.2.2.2.2.2.2.2.2.2.2.2.2.2.2.2.2.2.2.2.2.2.2.2.2.2.2.2.2.2.2.2.2.2.2.2.2.2.2.2.2.2.2.2.2.2.2.2.2.2.2.2.2.2.2.2.2.2.2.2.2.2.2.2.2.2.2.2.2.2.2.2.2.2.1)
                    have d73 := hD.at_ 73 rfl rfl
                    replace e152 := e152.trans d73
                    have e161 := (hev (.tmp 161)).trans ((kx1.out xs).2.2.2.2.2.2.2.2.2.2.2.2.2.2.2.2.2.2.2.2.2.2.2.2.2.2.2.2.2.2.2.2.2.2.2.2.2.2.2.2.2.2.2.2.2.2.2.2.2.2.2.2.2.2.2.2.2.2.2.2.2.2.2.2.2.2.2.2.2.2.2.2.2.2.2.2.2.2.2.2.2.2.2.2.2)
                    have d82 := hD.at_ 82 rfl rfl
                    replace e161 := e161.trans d82
                    rw [if_pos (wantedX_none rfl)]
                    have ef : ∀ f, ev (.func f) = .func (.func f) #[] #[] := fun f => (hev _).trans rfl
                    have ec : ∀ v, ev (.const v) = v := fun v => (hev _).trans rfl
                    clear hev hD
                    go_simp
                    exact hK _ _ rfl hG
                  clear kx1
                  intro xs w12 hG hI
                  have e162 : xs 83 = .bool false := hI 83 _ rfl
                  clear hI
                  simp only [List.append_eq, List.cons_append, List.nil_append, setAll, List.setIfInBounds_toArray, List.set_cons_zero, List.set_cons_succ]
                  rw [e162]
                  have hfin := Lib.hid (hbj.out.trans (hG.mono hbj.out.size))
                  clear hG e162
                  go_wp2_with fail
                  go_roundw
                  case rel => exact ⟨j + 1, by omega, by go_num, hfin⟩
                  case measure => simp [intOf]; omega
            · obtain rfl : j = rn := by omega
              have hbA := Lib.hid (hb.out.trans (hbj.out.mono hb.out.size))
              have hq := Lib.hid (hl1.out a a wr han han hbA.out)
              rw [hself.out a han] at hq
              go_wp2_with fail
              clear fw
              refine hq.out.mono ?_; rintro e w8 ⟨rfl, hb8⟩
              have hB8 := Lib.hid (hbA.out.trans (hb8.mono hbA.out.size))
              clear hq hb8
              go_wp2_with fail
              go_loopw [10] (fun bv wr => ∃ (b : Nat), b ≤ n ∧ bv = .int .i64 b ∧ Hid (Below w7.heap.size w7 wr)) (fun bv _ => n - (intOf bv).toNat)
              case atStart => exact ⟨0, Nat.zero_le _, rfl, hB8⟩
              case round =>
                obtain ⟨b, hbn2, rfl, hbb⟩ := hrel
                by_cases hbn3 : b < n
                rotate_left
                · obtain rfl : b = n := by omega
                  go_wp2_with fail
                  go_roundw
                  case rel => exact ⟨a + 1, by omega, by go_num, hbb⟩
                  case measure => simp [intOf]; omega
                have hbnI : (b : Int) < (n : Int) := by omega
                have hq := Lib.hid (hl1.out a b wr han hbn3 hbb.out)
                have hq2 := Lib.hid (fun U => hl1.out b a U hbn3 han)
                rw [← hsym.out a b han hbn3] at hq2
                have hr1 := hrng.out a b han hbn3
                have ht1 := Lib.hid (fun k => htri.out a b k han hbn3)
                obtain ⟨dd, hdd⟩ : ∃ q, farC (twoN N) a b = q := ⟨_, rfl⟩
                rw [hdd] at hq hq2 hr1 ht1
                have d4 : (dd != dd) = false := by simp
                clear hdd
                go_wp2_with fail
                refine hq.out.mono ?_; rintro e w9 ⟨rfl, hb9⟩
                have hB9 := Lib.hid (hbb.out.trans (hb9.mono hbb.out.size))
                clear hq hb9
                go_wp2_with fail
                refine (hq2.out _ hB9.out).mono ?_; rintro e w10 ⟨rfl, hb10⟩
                have hB10 := Lib.hid (hB9.out.trans (hb10.mono hB9.out.size))
                clear hq2 hb10
                go_wp2_with fail
                go_loopw [12] (fun kv wr => ∃ (k : Nat), k ≤ n ∧ kv = .int .i64 k ∧ Hid (Below w7.heap.size w7 wr)) (fun kv _ => n - (intOf kv).toNat)
                case atStart => exact ⟨0, Nat.zero_le _, rfl, hB10⟩
                case round =>
                  obtain ⟨k, hkn, rfl, hbk⟩ := hrel
                  by_cases hkn3 : k < n
                  rotate_left
                  · obtain rfl : k = n := by omega
                    go_wp2_with fail
                    go_roundw
                    case rel => exact ⟨b + 1, by omega, by go_num, hbk⟩
                    case measure => simp [intOf]; omega
                  have hknI : (k : Int) < (n : Int) := by omega
                  by_cases hdi : dd = 4611686018427387904
                  · have d5 : (dd != 4611686018427387904) = false := by simp [hdi]
                    clear hdi hr1
                    go_wp2_with fail
                    go_roundw
                    case rel => exact ⟨b + 1, by omega, by go_num, hbk⟩
                    case measure => simp [intOf]; omega
                  have d5 : (dd != 4611686018427387904) = true := by simp [hdi]
                  have hd0 : 0 ≤ dd := by omega
                  have hd1 : dd ≤ 1099511627776 := by omega
                  have hq := Lib.hid (hl1.out b k wr hbn3 hkn3 hbk.out)
                  have hr2 := hrng.out b k hbn3 hkn3
                  have ht2 := ht1.out k hkn3
                  have hq2 := Lib.hid (fun U => hl1.out a k U han hkn3)
                  obtain ⟨x, hx⟩ : ∃ q, farC (twoN N) b k = q := ⟨_, rfl⟩
                  obtain ⟨y, hy⟩ : ∃ q, farC (twoN N) a k = q := ⟨_, rfl⟩
                  rw [hx] at hq hr2 ht2
                  rw [hy] at hq2 ht2
                  clear hx hy hr1 hdi
                  by_cases hxi : x = 4611686018427387904
                  · have d6 : (x != 4611686018427387904) = false := by simp [hxi]
                    clear hxi hr2 ht2
                    go_wp2_with fail
                    refine hq.out.mono ?_; rintro e w11 ⟨rfl, hb11⟩
                    have hB11 := Lib.hid (hbk.out.trans (hb11.mono hbk.out.size))
                    clear hq hb11
                    go_wp2_with fail
                    go_roundw
                    case rel => exact ⟨k + 1, by omega, by go_num, hB11⟩
                    case measure => simp [intOf]; omega
                  have d6 : (x != 4611686018427387904) = true := by simp [hxi]
                  have hx0 : 0 ≤ x := by omega
                  have hx1 : x ≤ 1099511627776 := by omega
                  by_cases hsum : dd + x ≤ 1099511627776
                  · have d7 : decide (dd + x ≤ 1099511627776) = true := decide_eq_true hsum
                    have d8 : decide (dd + x < y) = false := decide_eq_false (by have := ht2 hxi hsum; omega)
                    clear hxi hr2 ht2 hsum
                    go_wp2_with fail
                    refine hq.out.mono ?_; rintro e w11 ⟨rfl, hb11⟩
                    have hB11 := Lib.hid (hbk.out.trans (hb11.mono hbk.out.size))
                    clear hq hb11
                    go_wp2_with fail
                    refine (hq2.out _ hB11.out).mono ?_; rintro e w12 ⟨rfl, hb12⟩
                    have hB12 := Lib.hid (hB11.out.trans (hb12.mono hB11.out.size))
                    clear hq2 hb12
                    go_wp2_with fail
                    go_roundw
                    case rel => exact ⟨k + 1, by omega, by go_num, hB12⟩
                    case measure => simp [intOf]; omega
                  · have d7 : decide (dd + x ≤ 1099511627776) = false := decide_eq_false hsum
                    clear hxi hr2 ht2 hsum
                    go_wp2_with fail
                    refine hq.out.mono ?_; rintro e w11 ⟨rfl, hb11⟩
                    have hB11 := Lib.hid (hbk.out.trans (hb11.mono hbk.out.size))
                    clear hq hb11
                    go_wp2_with fail
                    go_roundw
                    case rel => exact ⟨k + 1, by omega, by go_num, hB11⟩
                    case measure => simp [intOf]; omega
end Go.Proofs.Ytonkkibnigdfbaa
