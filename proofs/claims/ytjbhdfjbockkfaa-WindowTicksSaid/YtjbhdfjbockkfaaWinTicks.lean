/-
  Walk: timetablelaw08.WindowTicks answers true, whatever the times and ticks.
-/
import Derived.Test.YtjbhdfjbockkfaaWin5
import Derived.Test.YtjbhdfjbockkfaaWin7
import Derived.Test.YtjbhdfjbockkfaaWin8
import Derived.Test.YtjbhdfjbockkfaaQuiet
import Derived.Test.YtjbhdfjbockkfaaOpen2
import Derived.Deep.DeepCutAuto
namespace Go.Proofs.Ytjbhdfjbockkfaa
open Go.RowKit B Go.Shelf
set_option linter.unusedVariables false
set_option linter.unusedSimpArgs false
theorem B.Rd.num {w : World} {n k : Nat} {ki : IntKind} {A : Option Addr} {l : List Int} (h : Rd w 1 (numE ki) A n l) (hk : k < n) : ∃ b o x, A = some ⟨b, o, none⟩ ∧ b < w.heap.size ∧ l[k]? = some x ∧
    w.cell? ⟨b, o + k, none⟩ = some (.int ki x) := by
  obtain ⟨b, o, rfl, hb, hc⟩ := h.cells (by omega)
  have hl : k < l.length := by rw [h.len]; exact hk
  have hx : l[k]? = some l[k] := List.getElem?_eq_getElem hl
  exact ⟨b, o, l[k], rfl, hb, hx, by simpa using hc k _ hx 0 _ rfl⟩
theorem W.ticks {f v n f' v' n' h : Int} (hz : (winsM f v n h).2 = 0) (hz' : (winsM f' v' n' h).2 = 0) :
    (W.good (winsM f v n h).1 = true ∧ W.good (W.unionM (winsM f v n h).1 (winsM f' v' n' h).1) = true ∧
    W.unionM (winsM f' v' n' h).1 (winsM f v n h).1 = W.unionM (winsM f v n h).1 (winsM f' v' n' h).1 ∧
    W.unionM (W.unionM (winsM f v n h).1 (winsM f' v' n' h).1) (winsM f v n h).1 = W.unionM (winsM f v n h).1 (winsM f' v' n' h).1 ∧
    (W.sum (W.unionM (winsM f v n h).1 (winsM f' v' n' h).1) ≤ W.sum (winsM f v n h).1 + W.sum (winsM f' v' n' h).1 ∧
    (0 ≤ W.sum (winsM f v n h).1 ∧ W.sum (winsM f v n h).1 ≤ 4398046511104) ∧ (0 ≤ W.sum (winsM f' v' n' h).1 ∧ W.sum (winsM f' v' n' h).1 ≤ 4398046511104))) ∧
    (∀ x, 0 ≤ x ∧ x ≤ 1099511627776 → W.has (winsM f v n h).1 x = inT f v n h x ∧ W.has (W.unionM (winsM f v n h).1 (winsM f' v' n' h).1) x = (inT f v n h x || inT f' v' n' h x)) ∧
    ((winsM f v n h).1.length ≤ 256 ∧ (winsM f' v' n' h).1.length ≤ 256 ∧ (W.unionM (winsM f v n h).1 (winsM f' v' n' h).1).length ≤ 512) := by
  obtain ⟨g1, t1, l1⟩ := wins_good hz
  obtain ⟨g2, t2, l2⟩ := wins_good hz'
  obtain ⟨g3, t3, s3⟩ := W.union_facts g1 g2
  refine ⟨⟨g1, g3, W.union_comm g2 g1, W.union_of g3 g1 (fun y h => (t3 y).2 (.inl h)), ?_⟩, fun x hx => ⟨?_, ?_⟩, l1, l2, ?_⟩
  · have b1 := W.sumF_bounds _ _ g1 (by omega) (by omega)
    have b2 := W.sumF_bounds _ _ g2 (by omega) (by omega)
    rw [W.sum_good g1, W.sum_good g2, W.sum_good g3]
    omega
  · rw [Bool.eq_iff_iff, W.has_iff g1 hx, t1]
  · rw [Bool.eq_iff_iff, W.has_iff g3 hx, t3, t1, t2, Bool.or_eq_true]
  · unfold W.unionM
    rw [g1, g2]
    have := W.joinL_len (W.mergeL (winsM f v n h).1 (winsM f' v' n' h).1)
    rw [(W.merge_facts _ _ _ 0 rfl (W.srt_of_good _ (-1) (by omega) g1) (W.srt_of_good _ (-1) (by omega) g2)).2.2.2] at this
    simp only [Bool.and_self, if_true]
    omega
set_option maxHeartbeats 2000000
set_option maxRecDepth 100000 in
theorem ticks_any (f v n f' v' n' h : Int) (A : Option Addr) (nl c : Nat) (l : List Int) (w : World) (hr : Rd w 1 (numE .i64) A nl l) (hc : nl ≤ c) (hc2 : c ≤ 9223372036854775807) :
    Calls Try.prog 8 #[.agg #[.int .i64 f, .int .i64 v, .int .i64 n], .agg #[.int .i64 f', .int .i64 v', .int .i64 n'], .int .i64 h, .slice A nl c] w fun e w' => e = .returned (.bool true) ∧ Below w.heap.size w w' := by
  go_enter Try.func8, Try.ntmps8
  go_wp2_with fail
  refine (lives_any _).mono ?_; rintro e w1 ⟨rfl, hb1⟩
  have hs1 := hb1.size
  simp at hs1
  have B1 : Box3 w1 w.heap.size f v n := ⟨by omega, (hb1.cell (p := ⟨w.heap.size, 0, none⟩) (by simp; omega)).trans (by simp [go_sem]), (hb1.cell (p := ⟨w.heap.size, 1, none⟩) (by simp; omega)).trans (by simp [go_sem]), (hb1.cell (p := ⟨w.heap.size, 2, none⟩) (by simp; omega)).trans (by simp [go_sem])⟩
  have B2 : Box3 w1 (w.heap.size + 1) f' v' n' := ⟨by omega, (hb1.cell (p := ⟨w.heap.size + 1, 0, none⟩) (by simp)).trans (by simp [go_sem]), (hb1.cell (p := ⟨w.heap.size + 1, 1, none⟩) (by simp)).trans (by simp [go_sem]), (hb1.cell (p := ⟨w.heap.size + 1, 2, none⟩) (by simp)).trans (by simp [go_sem])⟩
  have hbw : Below w.heap.size w w1 := (((Below.refl _ w).alloc (Nat.le_refl _) _).alloc (by simp) _).trans (hb1.mono (by simp; omega))
  have hr1 := hr.below hbw
  clear hb1 hr
  have k1 := B1.c0
  have k2 := B1.c1
  have k3 := B1.c2
  go_wp2_with fail
  clear k1 k2 k3
  refine (wins_any f v n h _).mono ?_; rintro e w2 ⟨A1, c1, rfl, r1, s1, t1, hb2⟩
  have B1 := B1.below hb2 (by omega)
  have B2 := B2.below hb2 (by omega)
  have hr2 := hr1.below hb2
  have hbw2 := hbw.trans (hb2.mono (by omega))
  clear hr1 hbw hb2
  have k1 := B2.c0
  have k2 := B2.c1
  have k3 := B2.c2
  go_wp2_with fail
  clear k1 k2 k3
  refine (wins_any f' v' n' h _).mono ?_; rintro e w3 ⟨A2, c2, rfl, r2, s2, t2, hb3⟩
  have B1 := B1.below hb3 B1.lt
  have B2 := B2.below hb3 B2.lt
  have hr3 := hr2.below hb3
  have r1 := r1.below hb3
  have hbw3 := hbw2.trans (hb3.mono hbw2.size)
  clear hr2 hbw2 hb3
  by_cases hz : (winsM f v n h).2 = 0
  · by_cases hz' : (winsM f' v' n' h).2 = 0
    · have F := Lib.hid (W.ticks hz hz')
      have H := Lib.hid (show W.chkT f v n = 0 ∧ W.chkT f' v' n' = 0 ∧ W.chk h = 0 from ⟨(winsM_ok hz).1, (winsM_ok hz').1, (winsM_ok hz).2.1⟩)
      have hz := Lib.hid hz
      have hz' := Lib.hid hz'
      rename_i x1 x2; clear x1 x2
      rw [hz.out, hz'.out]
      generalize (winsM f v n h).1 = la at *
      generalize (winsM f' v' n' h).1 = lb at *
      clear hz hz'
      by_cases hl : 60 < nl
      · go_wp2_with fail
        go_returns
        exact ⟨rfl, hbw3⟩
      · have hl2 : decide ((60 : Int) < (nl : Int)) = false := decide_eq_false (by omega)
        go_wp2_with fail
        refine (union_any A1 _ c1 la A2 _ c2 lb _ r1 r2 (by have := F.out.2.2; omega) (by have := F.out.2.2; omega)).mono ?_; rintro e w4 ⟨A3, c3, rfl, r3, s3, t3, hb4⟩
        have B1 := B1.below hb4 B1.lt
        have B2 := B2.below hb4 B2.lt
        have hr4 := hr3.below hb4
        have r1 := r1.below hb4
        have r2 := r2.below hb4
        have hbw4 := hbw3.trans (hb4.mono hbw3.size)
        clear hr3 hbw3 hb4
        generalize hU : W.unionM la lb = lu at *
        go_wp2_with fail
        refine (good_any A1 _ c1 la _ r1 (by have := F.out.2.2; omega)).mono ?_; rintro e w5 ⟨rfl, hb5⟩
        rw [F.out.1.1]
        have B1 := B1.below hb5 B1.lt
        have B2 := B2.below hb5 B2.lt
        have hr5 := hr4.below hb5
        have r1 := r1.below hb5
        have r2 := r2.below hb5
        have r3 := r3.below hb5
        have hbw5 := hbw4.trans (hb5.mono hbw4.size)
        clear hr4 hbw4 hb5
        go_wp2_with fail
        refine (good_any A3 _ c3 lu _ r3 (by have := F.out.2.2; omega)).mono ?_; rintro e w6 ⟨rfl, hb6⟩
        rw [F.out.1.2.1]
        have B1 := B1.below hb6 B1.lt
        have B2 := B2.below hb6 B2.lt
        have hr6 := hr5.below hb6
        have r1 := r1.below hb6
        have r2 := r2.below hb6
        have r3 := r3.below hb6
        have hbw6 := hbw5.trans (hb6.mono hbw5.size)
        clear hr5 hbw5 hb6
        go_wp2_with fail
        refine (union_any A2 _ c2 lb A1 _ c1 la _ r2 r1 (by have := F.out.2.2; omega) (by have := F.out.2.2; omega)).mono ?_; rintro e w7 ⟨A4, c4, rfl, r4, s4, t4, hb7⟩
        rw [F.out.1.2.2.1] at r4 ⊢
        have B1 := B1.below hb7 B1.lt
        have B2 := B2.below hb7 B2.lt
        have hr7 := hr6.below hb7
        have r1 := r1.below hb7
        have r2 := r2.below hb7
        have r3 := r3.below hb7
        have hbw7 := hbw6.trans (hb7.mono hbw6.size)
        clear hr6 hbw6 hb7 s4 t4
        go_wp2_with fail
        refine (same_any A3 _ c3 lu A4 _ c4 lu _ r3 r4 (by have := F.out.2.2; omega) (by have := F.out.2.2; omega)).mono ?_; rintro e w8 ⟨rfl, hb8⟩
        rw [decide_eq_true (rfl : lu = lu)]
        have B1 := B1.below hb8 B1.lt
        have B2 := B2.below hb8 B2.lt
        have hr8 := hr7.below hb8
        have r1 := r1.below hb8
        have r2 := r2.below hb8
        have r3 := r3.below hb8
        have hbw8 := hbw7.trans (hb8.mono hbw7.size)
        clear hr7 hbw7 hb8 r4
        go_wp2_with fail
        refine (union_any A3 _ c3 lu A1 _ c1 la _ r3 r1 (by have := F.out.2.2; omega) (by have := F.out.2.2; omega)).mono ?_; rintro e w9 ⟨A5, c5, rfl, r5, s5, t5, hb9⟩
        rw [F.out.1.2.2.2.1] at r5 ⊢
        have B1 := B1.below hb9 B1.lt
        have B2 := B2.below hb9 B2.lt
        have hr9 := hr8.below hb9
        have r1 := r1.below hb9
        have r2 := r2.below hb9
        have r3 := r3.below hb9
        have hbw9 := hbw8.trans (hb9.mono hbw8.size)
        clear hr8 hbw8 hb9 s5 t5
        go_wp2_with fail
        refine (same_any A5 _ c5 lu A3 _ c3 lu _ r5 r3 (by have := F.out.2.2; omega) (by have := F.out.2.2; omega)).mono ?_; rintro e w10 ⟨rfl, hb10⟩
        rw [decide_eq_true (rfl : lu = lu)]
        have B1 := B1.below hb10 B1.lt
        have B2 := B2.below hb10 B2.lt
        have hr10 := hr9.below hb10
        have r1 := r1.below hb10
        have r2 := r2.below hb10
        have r3 := r3.below hb10
        have hbw10 := hbw9.trans (hb10.mono hbw9.size)
        clear hr9 hbw9 hb10 r5
        go_wp2_with fail
        refine (sum_any A3 _ c3 lu _ r3 (by have := F.out.2.2; omega)).mono ?_; rintro e w11 ⟨rfl, hb11⟩
        have B1 := B1.below hb11 B1.lt
        have B2 := B2.below hb11 B2.lt
        have hr11 := hr10.below hb11
        have r1 := r1.below hb11
        have r2 := r2.below hb11
        have r3 := r3.below hb11
        have hbw11 := hbw10.trans (hb11.mono hbw10.size)
        clear hr10 hbw10 hb11
        go_wp2_with fail
        refine (sum_any A1 _ c1 la _ r1 (by have := F.out.2.2; omega)).mono ?_; rintro e w12 ⟨rfl, hb12⟩
        have B1 := B1.below hb12 B1.lt
        have B2 := B2.below hb12 B2.lt
        have hr12 := hr11.below hb12
        have r1 := r1.below hb12
        have r2 := r2.below hb12
        have r3 := r3.below hb12
        have hbw12 := hbw11.trans (hb12.mono hbw11.size)
        clear hr11 hbw11 hb12
        go_wp2_with fail
        refine (sum_any A2 _ c2 lb _ r2 (by have := F.out.2.2; omega)).mono ?_; rintro e w13 ⟨rfl, hb13⟩
        have B1 := B1.below hb13 B1.lt
        have B2 := B2.below hb13 B2.lt
        have hr13 := hr12.below hb13
        have r1 := r1.below hb13
        have r3 := r3.below hb13
        have hbw13 := hbw12.trans (hb13.mono hbw12.size)
        clear hr12 hbw12 hb13 r2
        have G := F.out.1.2.2.2.2
        generalize W.sum lu = su at *
        generalize W.sum la = sa at *
        generalize W.sum lb = sb at *
        go_wp2_with fail
        clear G
        go_loopw [14] (fun i wr => ∃ (k : Nat), k ≤ nl ∧ i = .int .i64 k ∧ (Box3 wr w.heap.size f v n ∧ Box3 wr (w.heap.size + 1) f' v' n') ∧ Rd wr 1 (numE .i64) A nl l ∧ (Rd wr 2 pairE A1 la.length la ∧ Rd wr 2 pairE A3 lu.length lu) ∧ Below w.heap.size w wr) (fun i _ => nl - (intOf i).toNat)
        case atStart => exact ⟨0, Nat.zero_le _, rfl, ⟨B1, B2⟩, hr13, ⟨r1, r3⟩, hbw13⟩
        case round =>
          clear B1 B2 hr13 r1 r3 hbw13
          obtain ⟨k, hk, rfl, ⟨B1, B2⟩, hrk, ⟨r1, r3⟩, hbk⟩ := hrel
          by_cases hlt : k < nl
          · obtain ⟨ab, ao, x, rfl, hab, hlx, hcx⟩ := hrk.num hlt
            clear hlx
            by_cases hx0 : x < 0
            · go_wp2_with fail
              go_roundw
              case rel => exact ⟨k + 1, by omega, by go_num, ⟨B1, B2⟩, hrk, ⟨r1, r3⟩, hbk⟩
              case measure => simp [intOf]; omega
            · by_cases hx1 : 1099511627776 < x
              · have hx0' : decide (x < 0) = false := decide_eq_false hx0
                go_wp2_with fail
                go_roundw
                case rel => exact ⟨k + 1, by omega, by go_num, ⟨B1, B2⟩, hrk, ⟨r1, r3⟩, hbk⟩
                case measure => simp [intOf]; omega
              · obtain ⟨f1, f2⟩ := F.out.2.1 x ⟨by omega, by omega⟩
                obtain ⟨p, hp⟩ : ∃ p, inT f v n h x = p := ⟨_, rfl⟩
                obtain ⟨q, hq⟩ : ∃ q, inT f' v' n' h x = q := ⟨_, rfl⟩
                rw [hp] at f1
                rw [hp, hq] at f2
                have f1 := Lib.hid f1
                have f2 := Lib.hid f2
                have hp := Lib.hid hp
                have hq := Lib.hid hq
                rename_i z1 z2 z3 z4; clear z1 z2 z3 z4
                have hx0' : decide (x < 0) = false := decide_eq_false hx0
                go_upto_region 15 with fail
                clear hx0'
                cases p <;> cases q
                all_goals
                  refine wp_region_below wr.heap.size (by kernel_rfl) (by kernel_rfl) ?_
                  intro C hC
                  simp only [Bool.or_false, Bool.false_or, Bool.or_true, Bool.true_or, Bool.or_self] at f2
                  repeat (go_big_quiet_step ((intro _; with_reducible rfl)))
                  go_big_quiet_step ((intro hc; refine (has_any A1 _ c1 la x _ (r1.below hc) (by have := F.out.2.2; omega)).mono ?_; rintro e w'' ⟨rfl, hb⟩; exact ⟨congrArg (fun b => Ending.returned (.bool b)) f1.out, hc.trans (hb.mono hc.size)⟩))
                  repeat (go_big_quiet_step ((intro _; with_reducible rfl)))
                  go_big_quiet_step ((intro hc; have m0 := (B1.below hc B1.lt).c0; have m1 := (B1.below hc B1.lt).c1; have m2 := (B1.below hc B1.lt).c2; simp only [m0, m1, m2, Result.andThen]; exact ⟨trivial, rfl⟩))
                  repeat (go_big_quiet_step ((intro _; with_reducible rfl)))
                  go_big_quiet_step ((intro hc; refine (in_any f v n h x _ H.out.1 H.out.2.2 ⟨by omega, by omega⟩).mono ?_; rintro e w'' ⟨rfl, hb⟩; exact ⟨congrArg (fun b => Ending.returned (.bool b)) hp.out, hc.trans (hb.mono hc.size)⟩))
                  repeat (go_big_quiet_step ((intro _; with_reducible rfl)))
                  go_big_quiet_step ((intro hc; refine (has_any A3 _ c3 lu x _ (r3.below hc) (by have := F.out.2.2; omega)).mono ?_; rintro e w'' ⟨rfl, hb⟩; exact ⟨congrArg (fun b => Ending.returned (.bool b)) f2.out, hc.trans (hb.mono hc.size)⟩))
                  repeat (go_big_quiet_step ((intro _; with_reducible rfl)))
                  go_big_quiet_step ((intro hc; have m0 := (B1.below hc B1.lt).c0; have m1 := (B1.below hc B1.lt).c1; have m2 := (B1.below hc B1.lt).c2; simp only [m0, m1, m2, Result.andThen]; exact ⟨trivial, rfl⟩))
                  repeat (go_big_quiet_step ((intro _; with_reducible rfl)))
                  go_big_quiet_step ((intro hc; refine (in_any f v n h x _ H.out.1 H.out.2.2 ⟨by omega, by omega⟩).mono ?_; rintro e w'' ⟨rfl, hb⟩; exact ⟨congrArg (fun b => Ending.returned (.bool b)) hp.out, hc.trans (hb.mono hc.size)⟩))
                  repeat (go_big_quiet_step ((intro _; with_reducible rfl)))
                  try
                    go_big_quiet_step ((intro hc; have m0 := (B2.below hc B2.lt).c0; have m1 := (B2.below hc B2.lt).c1; have m2 := (B2.below hc B2.lt).c2; simp only [m0, m1, m2, Result.andThen]; exact ⟨trivial, rfl⟩))
                    repeat (go_big_quiet_step ((intro _; with_reducible rfl)))
                    go_big_quiet_step ((intro hc; refine (in_any f' v' n' h x _ H.out.2.1 H.out.2.2 ⟨by omega, by omega⟩).mono ?_; rintro e w'' ⟨rfl, hb⟩; exact ⟨congrArg (fun b => Ending.returned (.bool b)) hq.out, hc.trans (hb.mono hc.size)⟩))
                    repeat (go_big_quiet_step ((intro _; with_reducible rfl)))
                  refine wpQuiet_nil ?_
                  intro w14 hb14
                  clear hC
                  have B1 := B1.below hb14 B1.lt
                  have B2 := B2.below hb14 B2.lt
                  have hrk := hrk.below hb14
                  have r1 := r1.below hb14
                  have r3 := r3.below hb14
                  have hbk := hbk.trans (hb14.mono hbk.size)
                  go_wp2_with fail
                  go_roundw
                  case rel => exact ⟨k + 1, by omega, by go_num, ⟨B1, B2⟩, hrk, ⟨r1, r3⟩, hbk⟩
                  case measure => simp [intOf]; omega
          · go_wp2_with fail
            go_returns
            exact ⟨ret_bool rfl, hbk⟩
    · generalize (winsM f' v' n' h).2 = e2 at *
      rw [hz]
      have hn1 : (e2 != 0) = true := by simp [hz']
      have hn2 : decide (e2 = 0) = false := decide_eq_false hz'
      clear hz'
      go_wp2_with fail
      go_returns
      exact ⟨rfl, hbw3⟩
  · have hnil := winsM_no hz
    rw [hnil] at r1 s1 ⊢
    generalize (winsM f v n h).2 = e1 at *
    have hn1 : (e1 != 0) = true := by simp [hz]
    have hn2 : (e1 == 0) = false := by simp [hz]
    have hn3 : decide (e1 = 0) = false := decide_eq_false hz
    clear hz hnil
    go_wp2_with fail
    go_returns
    exact ⟨rfl, hbw3⟩
end Go.Proofs.Ytjbhdfjbockkfaa
