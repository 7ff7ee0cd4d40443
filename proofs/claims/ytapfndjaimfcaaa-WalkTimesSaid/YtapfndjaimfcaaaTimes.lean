/-
  Walk: timetablelaw13.WalkTimes.
-/
import Derived.Test.YtapfndjaimfcaaaKit13
namespace Go.Proofs.Ytapfndjaimfcaaa
open Go.RowKit Go.Shelf B K
set_option linter.unusedVariables false
set_option linter.unusedSimpArgs false
set_option maxHeartbeats 4000000
theorem flat_set3 : ∀ (l : List Ed) (i : Nat) (a b x y : Int), l[i]? = some (a, b, y) → (l.flatMap tripE).set (i * 3 + 2) (.int .i64 x) = (l.set i (a, b, x)).flatMap tripE
  | [], _, _, _, _, _, h => by simp at h
  | p :: r, 0, a, b, x, y, h => by simp at h; subst h; rfl
  | p :: r, i + 1, a, b, x, y, h => by
    have ih := flat_set3 r i a b x y (by simpa using h)
    rw [List.set_cons_succ, List.flatMap_cons, List.flatMap_cons, ← ih]
    have e1 : (i + 1) * 3 + 2 = 3 + (i * 3 + 2) := by omega
    rw [e1, List.set_append_right _ _ (by simp [tripE])]
    congr 2
    simp [tripE]
/-- the first k are turned -/
def partMap (f : Ed → Ed) (l : List Ed) (k : Nat) : List Ed := (l.take k).map f ++ l.drop k
theorem partMap_zero (f : Ed → Ed) (l : List Ed) : partMap f l 0 = l := by simp [partMap]
theorem partMap_all (f : Ed → Ed) (l : List Ed) : partMap f l l.length = l.map f := by simp [partMap]
theorem partMap_at {f : Ed → Ed} {l : List Ed} {k : Nat} {x : Ed} (h : l[k]? = some x) : (partMap f l k)[k]? = some x := by
  have hk := (List.getElem?_eq_some_iff.1 h).1
  unfold partMap
  rw [List.getElem?_append_right (by simp; omega)]
  simp only [List.length_map, List.length_take, List.getElem?_drop]
  rw [show k + (k - min k l.length) = k by omega]
  exact h
theorem partMap_step {f : Ed → Ed} {l : List Ed} {k : Nat} {x : Ed} (h : l[k]? = some x) : (partMap f l k).set k (f x) = partMap f l (k + 1) := by
  have hk := (List.getElem?_eq_some_iff.1 h).1
  unfold partMap
  rw [List.set_append_right _ _ (by simp; omega), take_at h, drop_at h, List.map_append]
  simp only [List.length_map, List.length_take]
  rw [show k - min k l.length = 0 by omega]
  simp
set_option maxRecDepth 100000 in
theorem lawTimes_any (n : Int) (A : Option Addr) (m c : Nat) (l : List Ed) (tm sx tx : Int) (w : World) (hr : Rd w 3 tripE A m l) (b1 : -9223372036854775808 ≤ tm ∧ tm ≤ 9223372036854775807) (b2 : -9223372036854775808 ≤ sx ∧ sx ≤ 9223372036854775807) (b3 : -9223372036854775808 ≤ tx ∧ tx ≤ 9223372036854775807) :
    Calls Try.prog 4 #[.int .i64 n, .slice A m c, .int .i64 tm, .int .i64 sx, .int .i64 tx] w fun e w' => e = .returned (.bool true) ∧ Below w.heap.size w w' := by
  go_enter Try.func4, Try.ntmps4
  go_wp2_with fail
  refine (lives13_any _).mono ?_; rintro e w1 ⟨rfl, hb1⟩
  have r1 := Lib.hid (hr.below hb1)
  have hb1h := Lib.hid hb1
  clear hr hb1
  by_cases h1 : 60 < m
  · have hd1 : decide ((60 : Int) < (m : Int)) = true := decide_eq_true (by omega)
    go_wp2_with fail
    go_returns
    exact ⟨rfl, hb1h.out⟩
  have hd1 : decide ((60 : Int) < (m : Int)) = false := decide_eq_false (by omega)
  by_cases h2 : n < 1
  · have hd2 : decide (n < 1) = true := decide_eq_true h2
    go_wp2_with fail
    go_returns
    exact ⟨rfl, hb1h.out⟩
  have hd2 : decide (n < 1) = false := decide_eq_false h2
  by_cases h3 : 60 < n
  · have hd3 : decide (60 < n) = true := decide_eq_true h3
    go_wp2_with fail
    go_returns
    exact ⟨rfl, hb1h.out⟩
  have hd3 : decide (60 < n) = false := decide_eq_false h3
  obtain ⟨N, rfl⟩ : ∃ N : Nat, n = N := ⟨n.toNat, by omega⟩
  have hC := Lib.hid (chk_any N A m c l w1 r1.out (by omega))
  by_cases hc : chkE (N : Int) l = 0
  rotate_left
  · obtain ⟨q, hq⟩ : ∃ q, chkE (N : Int) l = q := ⟨_, rfl⟩
    rw [hq] at hC hc
    have hd : (q != 0) = true := by simpa using hc
    clear hq
    go_wp2_with (go_at_call 15; refine hC.out.mono ?_; rintro e w2 ⟨rfl, hb2⟩)
    go_returns
    exact ⟨rfl, hb1h.out.trans (hb2.mono hb1h.out.size)⟩
  rw [hc] at hC
  have hch := Lib.hid hc
  have hE := Lib.hid (eds_ok hc)
  clear hc
  have hN60 : N ≤ 60 := by omega
  have hN1 : 1 ≤ N := by omega
  go_wp2_with (go_at_call 15; refine hC.out.mono ?_; rintro e w2 ⟨rfl, hb2⟩)
  have hbw2 := hb1h.out.trans (hb2.mono hb1h.out.size)
  have r2 := r1.out.below hb2
  have hbw2h := Lib.hid hbw2
  have r2h := Lib.hid r2
  clear hC hb2 hbw2 r2 r1 hb1h
  refine (pick_any tm 100 w2 (by decide) b1).mono ?_; rintro e w3 ⟨q0, rfl, hq0, hb3⟩
  have hq1 : IntKind.i64.wrap (1 + (q0 : Int)) = ((q0 + 1 : Nat) : Int) := by rw [IntKind.wrap_i64]; omega
  obtain ⟨q, hqe⟩ : ∃ q : Nat, q0 + 1 = q := ⟨_, rfl⟩
  rw [hqe] at hq1
  have hq : 1 ≤ (q : Int) ∧ (q : Int) ≤ 100 := by omega
  clear hqe hq0
  have hbw3 := hbw2h.out.trans (hb3.mono hbw2h.out.size)
  have r3 := r2h.out.below hb3
  have hP1 := Lib.hid (pick_any sx N w3 (by omega) b2)
  have hbw3h := Lib.hid hbw3
  have r3h := Lib.hid r3
  clear hb3 hbw3 r3 hbw2h r2h b1 b2
  go_wp2_with fail
  refine hP1.out.mono ?_; rintro e w4 ⟨s, rfl, hs, hb4⟩
  have hs' : s < N := by omega
  have hP2 := Lib.hid (pick_any tx N w4 (by omega) b3)
  have hbw4 := hbw3h.out.trans (hb4.mono hbw3h.out.size)
  have r4 := r3h.out.below hb4
  have hbw4h := Lib.hid hbw4
  have r4h := Lib.hid r4
  clear hb4 hbw4 r4 hbw3h r3h hP1 b3
  go_wp2_with fail
  refine hP2.out.mono ?_; rintro e w5 ⟨t, rfl, ht, hb5⟩
  have ht' : t < N := by omega
  have hbw5 := hbw4h.out.trans (hb5.mono hbw4h.out.size)
  have r5 := r4h.out.below hb5
  have hO := Lib.hid (ownE_any A m c l w5 r5 (by omega))
  have hbw5h := Lib.hid hbw5
  have r5h := Lib.hid r5
  clear hb5 hbw5 r5 hbw4h r4h hP2
  go_wp2_with fail
  refine hO.out.mono ?_; rintro e w6 ⟨v, rfl, own, hb6⟩
  obtain ⟨A6, c6, rfl, _, _, _⟩ := Rd.of_own (enc := tripE) tripE_len r5h.out.len own
  have hbw6 := Lib.hid (hbw5h.out.trans (hb6.mono hbw5h.out.size))
  have r6 := Lib.hid (r5h.out.below hb6)
  have hb56 := Lib.hid hb6
  have ownh := Lib.hid own
  have hlm := Lib.hid r5h.out.len
  clear hb6 own hO
  go_wp2_with fail
  go_loopw [12] (fun i wr => ∃ (k : Nat), k ≤ m ∧ i = .int .i64 k ∧ Hid (wr.ownsRow w5.heap.size 32 3 (.slice A6 m c6) m ((partMap (scE q) l k).flatMap tripE) ∧ (∀ e ∈ l.take k, e.2.2 ≤ 1000) ∧ Below w5.heap.size w5 wr)) (fun i _ => m - (intOf i).toNat)
  case atStart => exact ⟨0, Nat.zero_le _, rfl, by rw [partMap_zero]; exact ownh.out, fun e he => by simp at he, hb56.out⟩
  case round =>
    clear ownh hb56
    obtain ⟨k, hk, rfl, hH⟩ := hrel
    obtain ⟨own, hsm, hb⟩ := hH.out
    by_cases hlt : k < m
    · obtain ⟨x, hx⟩ : ∃ x, l[k]? = some x := ⟨l[k]'(by rw [hlm.out]; exact hlt), List.getElem?_eq_getElem _⟩
      obtain ⟨x1, x2, x3⟩ := x
      have hpl : (partMap (scE q) l k).length = m := by rw [← hlm.out]; unfold partMap; simp; have := hlm.out; omega
      rcases own.2 with ⟨h0, hn0⟩ | ⟨g, cap, cur, h0, hb0, hh, hnc, hcm, hcs, htk⟩
      · simp only [Value.slice.injEq] at h0; omega
      simp only [Value.slice.injEq] at h0
      obtain ⟨rfl, _, rfl⟩ := h0
      have c3 : wr.cell? ⟨g, k * 3 + 2, none⟩ = some (.int .i64 x3) := by
        have hrd : Rd wr 3 tripE (some ⟨g, 0, none⟩) m (partMap (scE q) l k) := by
          obtain ⟨A', c', e', r', _⟩ := Rd.of_own (enc := tripE) tripE_len hpl own
          simp only [Value.slice.injEq] at e'
          rw [e'.1]; exact r'
        obtain ⟨b', o', y1, y2, y3, e', _, hy, _, _, h3⟩ := hrd.trip hlt
        cases e'
        rw [partMap_at hx] at hy
        cases hy
        rw [Nat.zero_add] at h3
        exact h3
      have hlt2 : (k : Int) < (m : Int) := by omega
      have hgl := (Array.getElem?_eq_some_iff.1 hh).1
      have hlo := (hE.out _ (List.mem_of_getElem? hx)).2.2.2.2.2.1
      simp only at hlo
      by_cases hbig : 1000 < x3
      · have hdb : decide (1000 < x3) = true := decide_eq_true hbig
        have hfin := Lib.hid (hb)
        clear own hsm hb hH hx hpl hh hcs htk hlo hbig
        go_wp2_with fail
        go_returns
        exact ⟨rfl, hbw5h.out.trans (hfin.out.mono hbw5h.out.size)⟩
      · have hdb : decide (1000 < x3) = false := decide_eq_false hbig
        have hmb := mul_bound (by omega : 0 ≤ x3) (by omega : x3 ≤ 1000) (by omega : 0 ≤ (q : Int)) hq.2
        have hwr : IntKind.i64.wrap (x3 * (q : Int)) = x3 * (q : Int) := by rw [IntKind.wrap_i64]; omega
        have fz := own.frozenAt (k * 3 + 2)
        have own1 := (own.stored (k * 3 + 2) (.int .i64 (x3 * (q : Int)))).1
        rw [flat_set3 _ k x1 x2 (x3 * (q : Int)) x3 (partMap_at hx), show ((x1, x2, x3 * (q : Int)) : Ed) = scE q (x1, x2, x3) from rfl, partMap_step hx] at own1
        have hb' : Below w5.heap.size w5 (wr.setCell ⟨g, k * 3 + 2, none⟩ (.int .i64 (x3 * (q : Int)))) := hb.setCell (by simpa using hb0) _
        have hsm' : ∀ e ∈ l.take (k + 1), e.2.2 ≤ 1000 := fun e he => by
          rw [take_at hx, List.mem_append] at he
          rcases he with he | he
          · exact hsm e he
          · simp at he; subst he; show x3 ≤ 1000; omega
        have hfin : Hid ((wr.setCell ⟨g, k * 3 + 2, none⟩ (.int .i64 (x3 * (q : Int)))).ownsRow w5.heap.size 32 3 (.slice (some ⟨g, 0, none⟩) m c6) m ((partMap (scE q) l (k + 1)).flatMap tripE) ∧ (∀ e ∈ l.take (k + 1), e.2.2 ≤ 1000) ∧ Below w5.heap.size w5 (wr.setCell ⟨g, k * 3 + 2, none⟩ (.int .i64 (x3 * (q : Int))))) := ⟨own1, hsm', hb'⟩
        clear own hsm hb hH hx hpl hh hcs htk hlo hbig hmb own1 hb' hsm'
        go_wp2_with fail
        go_roundw
        case rel => exact ⟨k + 1, by omega, by go_num, hfin⟩
        case measure => simp [intOf]; omega
    · obtain rfl : k = m := by omega
      clear hH
      have hall : partMap (scE q) l k = l.map (scE q) := by rw [← hlm.out]; exact partMap_all _ _
      rw [hall] at own
      rw [List.take_of_length_le (by rw [hlm.out]; exact Nat.le_refl _)] at hsm
      obtain ⟨A', c', e', rM, _, _⟩ := Rd.of_own (enc := tripE) tripE_len (by rw [List.length_map]; exact hlm.out) own
      simp only [Value.slice.injEq] at e'
      obtain ⟨rfl, _, rfl⟩ := e'
      have hEm := eds_sc (k := (q : Int)) hE.out hsm hq
      have hcm : chkE (N : Int) (l.map (scE q)) = 0 := chk_of hEm (by rw [List.length_map, hlm.out]; omega) (by omega)
      have rl := r5h.out.below hb
      have hF := Lib.hid (From_ok (c := c) N s rl (by omega) hch.out hs')
      have hbw := hbw5h.out.trans (hb.mono hbw5h.out.size)
      have hsmh := Lib.hid hsm
      have hcmh := Lib.hid hcm
      have rMh := Lib.hid rM
      have rlh := Lib.hid rl
      have hbwh := Lib.hid hbw
      have hEmh := Lib.hid hEm
      clear own hsm hall rM hEm hcm rl hbw hb hbw5h r5h r6 hbw6
      go_wp2_with fail
      refine hF.out.mono ?_; rintro e w7 ⟨fa, da, rfl, hDa, _, hfa, hb7⟩
      have hG := Lib.hid (From_ok (c := c6) N s (rMh.out.below hb7) (by omega) hcmh.out hs')
      have hbw7 := Lib.hid (hbwh.out.trans (hb7.mono hbwh.out.size))
      have r7 := Lib.hid (rlh.out.below hb7)
      have m7 := Lib.hid (rMh.out.below hb7)
      have hDah := Lib.hid hDa
      have hfah := Lib.hid hfa
      clear hF hb7 hDa hfa rlh rMh hbwh
      go_wp2_with fail
      refine hG.out.mono ?_; rintro e w8 ⟨fb, db, rfl, hDb, _, hfb, hb8⟩
      obtain rfl : db = da.map (scV q) := hDb.uniq hEmh.out (hDah.out.scale hE.out hN60 hsmh.out hq)
      have hfa8 := (hb8.block fa (Array.getElem?_eq_some_iff.1 hfah.out).1).trans hfah.out
      have r8 := Lib.hid (r7.out.below hb8)
      have m8 := Lib.hid (m7.out.below hb8)
      have hbw8 := Lib.hid (hbw7.out.trans (hb8.mono hbw7.out.size))
      have hfal := (Array.getElem?_eq_some_iff.1 hfa8).1
      have hfbl := (Array.getElem?_eq_some_iff.1 hfb).1
      have hfa8h := Lib.hid hfa8
      have hfbh := Lib.hid hfb
      have hDbh := Lib.hid hDb
      clear hG hb8 hfa8 hfb hDb r7 m7 hbw7 hfah
      go_wp2_with fail
      go_loopw [17] (fun i wq => ∃ (j : Nat), j ≤ N ∧ i = .int .i64 j ∧ Below w8.heap.size w8 wq) (fun i _ => N - (intOf i).toNat)
      case atStart => exact ⟨0, Nat.zero_le _, rfl, Below.refl _ _⟩
      case round =>
        obtain ⟨j, hj, rfl, hbq⟩ := hrel
        by_cases hlj : j < N
        · obtain ⟨u, hu⟩ := hDah.out.get hlj
          have hru := hDah.out.sixty hE.out hN60 hsmh.out hu
          have mu : wr.cell? ⟨fa, j, none⟩ = some (.int .i64 u) := by rw [cell_of_row _ _ _ _ _ _ ((hbq.block fa hfal).trans hfa8h.out)]; simp [hu]
          obtain ⟨y, hy⟩ : ∃ y, scV q u = y := ⟨_, rfl⟩
          have mv : wr.cell? ⟨fb, j, none⟩ = some (.int .i64 y) := by rw [cell_of_row _ _ _ _ _ _ ((hbq.block fb hfbl).trans hfbh.out)]; simp [hu, hy]
          have zfa := Nat.lt_of_lt_of_le hfal hbq.size
          have zfb := Nat.lt_of_lt_of_le hfbl hbq.size
          have hbqh := Lib.hid hbq
          have hlj2 : (j : Int) < (N : Int) := by omega
          clear hbq hu
          by_cases hinf : u = 4611686018427387904
          · have e1 : (u == 4611686018427387904) = true := by simpa using hinf
            have e2 : (y == 4611686018427387904) = true := by rw [← hy, hinf, scV_inf]; rfl
            have e3 : decide (u < 4611686018427387904) = false := decide_eq_false (by omega)
            clear hinf hy hru
            go_wp2_with fail
            go_upto_region 21 with fail
            refine wp_region_below wr.heap.size (by kernel_rfl) (by kernel_rfl) ?_
            intro C hC
            repeat (go_big_quiet_step (first
              | ((intro _; with_reducible rfl))
              | (intro hc; have m0 := (hc.cell (p := ⟨fa, _, none⟩) zfa).trans mu; have m1 := (hc.cell (p := ⟨fb, _, none⟩) zfb).trans mv; simp only [m0, m1, Result.andThen]; exact ⟨trivial, rfl⟩)))
            refine wpQuiet_nil ?_
            intro w9 hb9
            clear hC
            have hfin : Hid (Below w8.heap.size w8 w9) := hbqh.out.trans (hb9.mono hbqh.out.size)
            clear hb9
            go_wp2_with fail
            go_roundw
            case rel => exact ⟨j + 1, by omega, by go_num, hfin.out⟩
            case measure => simp [intOf]; omega
          · have hr := hru.resolve_left hinf
            have hmb := mul_bound hr.1 hr.2 (by omega : 0 ≤ (q : Int)) hq.2
            rw [scV_fin hinf] at hy
            have e1 : (u == 4611686018427387904) = false := by simpa using hinf
            have e2 : (y == 4611686018427387904) = false := by simp; omega
            have e3 : decide (u < 4611686018427387904) = true := decide_eq_true (by omega)
            have hwr : IntKind.i64.wrap (u * (q : Int)) = y := by rw [IntKind.wrap_i64]; omega
            have e4 : (y != y) = false := by simp
            clear hinf hy hru hr hmb
            go_wp2_with fail
            go_upto_region 21 with fail
            refine wp_region_below wr.heap.size (by kernel_rfl) (by kernel_rfl) ?_
            intro C hC
            repeat (go_big_quiet_step (first
              | ((intro _; with_reducible rfl))
              | (intro hc; have m0 := (hc.cell (p := ⟨fa, _, none⟩) zfa).trans mu; have m1 := (hc.cell (p := ⟨fb, _, none⟩) zfb).trans mv; simp only [m0, m1, Result.andThen]; exact ⟨trivial, rfl⟩)))
            refine wpQuiet_nil ?_
            intro w9 hb9
            clear hC
            have hfin : Hid (Below w8.heap.size w8 w9) := hbqh.out.trans (hb9.mono hbqh.out.size)
            clear hb9
            go_wp2_with fail
            go_roundw
            case rel => exact ⟨j + 1, by omega, by go_num, hfin.out⟩
            case measure => simp [intOf]; omega
        · have hbqh := Lib.hid hbq
          have hlj2 : decide ((j : Int) < (N : Int)) = false := decide_eq_false (by omega)
          have rq := r8.out.below hbq
          have hW := Lib.hid (Way_ok (c := c) N s t rq (by omega) hch.out hs' ht')
          clear hbq rq
          go_wp2_with fail
          refine hW.out.mono ?_; rintro e w10 ⟨d1, hD1, hb10, hW1⟩
          obtain rfl := hDah.out.uniq hE.out hD1
          have hb8 := hbqh.out.trans (hb10.mono hbqh.out.size)
          have m10 := m8.out.below hb8
          have hV := Lib.hid (Way_ok (c := c6) N s t m10 (by omega) hcmh.out hs' ht')
          have hbw10 := Lib.hid (hbw8.out.trans (hb8.mono hbw8.out.size))
          clear hW hD1 hb10 hb8 m10 hbqh
          obtain ⟨vt, hvt⟩ := hDah.out.get ht'
          rcases hW1 with ⟨hi, rfl⟩ | ⟨hi, A1, cc1, O1, hO1, rfl, hl1, rW1⟩
          · go_wp2_with fail
            refine hV.out.mono ?_; rintro e w11 ⟨d2, hD2, hb11, hW2⟩
            obtain rfl : d2 = da.map (scV q) := hD2.uniq hEmh.out hDbh.out
            rcases hW2 with ⟨_, rfl⟩ | ⟨hne, _⟩
            rotate_left
            · exact absurd (by rw [List.getElem?_map, hi]; simp [scV]) hne
            have hbw11 := Lib.hid (hbw10.out.trans (hb11.mono hbw10.out.size))
            have rN : Rd w11 1 (numE .i64) none 0 ([] : List Int) := ⟨rfl, fun h => absurd h (by decide)⟩
            have hS := Lib.hid (sameN_any none 0 0 [] none 0 0 [] w11 rN rN (by decide) (by decide))
            rw [decide_eq_true rfl] at hS
            clear hD2 hb11 rN hi
            go_wp2_with fail
            refine hS.out.mono ?_; rintro e w12 ⟨rfl, hb12⟩
            go_wp2_with fail
            go_returns
            exact ⟨rfl, hbw11.out.trans (hb12.mono hbw11.out.size)⟩
          · have hvn : vt ≠ 4611686018427387904 := fun e => hi (by rw [hvt, e])
            have hO2 := hO1.sc hDah.out hE.out hN60 hsmh.out hq hvt hvn
            have rW1h := Lib.hid rW1
            have hO2h := Lib.hid hO2
            clear rW1 hO2 hO1 hi
            go_wp2_with fail
            refine hV.out.mono ?_; rintro e w11 ⟨d2, hD2, hb11, hW2⟩
            obtain rfl : d2 = da.map (scV q) := hD2.uniq hEmh.out hDbh.out
            rcases hW2 with ⟨h1, _⟩ | ⟨_, A2, cc2, O2, hO3, rfl, hl2, rW2⟩
            · exfalso
              rw [List.getElem?_map, hvt] at h1
              have h1 := Option.some.inj h1
              have hr := (hDah.out.sixty hE.out hN60 hsmh.out hvt).resolve_left hvn
              have hmb := mul_bound hr.1 hr.2 (by omega : 0 ≤ (q : Int)) hq.2
              rw [scV_fin hvn] at h1
              omega
            obtain rfl := hO2h.out.uniq hO3
            have hbw11 := Lib.hid (hbw10.out.trans (hb11.mono hbw10.out.size))
            have hS := Lib.hid (sameN_any A1 O1.length cc1 O1.reverse A2 O1.length cc2 O1.reverse w11 (rW1h.out.below hb11) rW2 hl1 hl1)
            rw [decide_eq_true rfl] at hS
            clear hD2 hb11 rW2 hl1 hl2 hO3 rW1h
            go_wp2_with fail
            refine hS.out.mono ?_; rintro e w12 ⟨rfl, hb12⟩
            go_wp2_with fail
            go_returns
            exact ⟨rfl, hbw11.out.trans (hb12.mono hbw11.out.size)⟩
end Go.Proofs.Ytapfndjaimfcaaa
