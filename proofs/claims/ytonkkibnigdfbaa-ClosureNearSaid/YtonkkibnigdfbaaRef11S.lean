/-
  Walk: the document's Check of a net (gen8.py).
-/
import Derived.Test.YtonkkibnigdfbaaRef08S
import Derived.BigQuiet
namespace Go.Proofs.Ytonkkibnigdfbaa
open Go.RowKit Go.Shelf B K
set_option linter.unusedVariables false
set_option linter.unusedSimpArgs false
set_option maxHeartbeats 4000000
set_option maxRecDepth 100000 in
theorem r11check_any {N : NetP} {A B : Option Addr} {n c m d : Nat} (hs : Small N) (w : World) (hr : RNet w N A n B m) :
    Calls Try.prog 18 #[.agg #[.int .i64 N.hz, .slice A n c, .slice B m d]] w fun e w' => e = .returned (.int .i64 (chkN N)) ∧ Below w.heap.size w w' := by
  obtain ⟨hz, hhz⟩ : ∃ q, N.hz = q := ⟨_, rfl⟩
  have hnn : Hid (N.cs.length = n) := hr.nn
  have hmm : Hid (N.ls.length = m) := hr.mm
  have hn1 : n ≤ 1000 := by have := hs.cn; have := hnn.out; omega
  have hm1 : m ≤ 1000 := by have := hs.ln; have := hmm.out; omega
  have hend : Hid (W.chk hz = 0 → n ≤ 256 → (∀ x ∈ N.cs, W.good x = true) → (∀ l ∈ N.ls, okL n l = true) → chkN N = 0) := fun h1 h2 h3 h4 => chkN_iff.2 ⟨by rw [hhz]; exact W.chk_zero h1, by have := hnn.out; omega, by have := hmm.out; omega, fun l hl => by rw [hnn.out]; exact h4 l hl, h3⟩
  have hbad : Hid ((W.chk hz ≠ 0 ∨ 256 < n ∨ (∃ x ∈ N.cs, W.good x = false) ∨ (∃ l ∈ N.ls, okL n l = false)) → chkN N = 2) := fun h => by
    rcases chkN_cases N with h0 | h0
    · exfalso
      have h1 := chkN_iff.1 h0
      rcases h with h | h | ⟨x, hx, h⟩ | ⟨l, hl, h⟩
      · exact h (by rw [← hhz]; exact W.chk_ok h1.hz)
      · have := h1.cn; have := hnn.out; omega
      · rw [h1.gd x hx] at h; cases h
      · have := h1.lk l hl; rw [hnn.out, h] at this; cases this
    · exact h0
  rw [hhz]
  have hb1 : Below w.heap.size w (w.alloc (.cells #[.int .i64 hz, .slice A n c, .slice B m d] 25)) := (Below.refl _ w).alloc (Nat.le_refl _) _
  obtain ⟨x0, x1, x2⟩ := rowBx3 w 25 (.int .i64 hz) (.slice A n c) (.slice B m d)
  have hbn1 : w.heap.size < (w.alloc (.cells #[.int .i64 hz, .slice A n c, .slice B m d] 25)).heap.size := by simp
  obtain ⟨w1, hw1⟩ : ∃ q, w.alloc (.cells #[.int .i64 hz, .slice A n c, .slice B m d] 25) = q := ⟨_, rfl⟩
  rw [hw1] at hb1 x0 x1 x2 hbn1
  have hup : Hid (∀ w2, Below w1.heap.size w1 w2 → Below w.heap.size w w2) := fun w2 h => hb1.trans (h.mono hb1.size)
  obtain ⟨bn, hbn⟩ : ∃ q, w.heap.size = q := ⟨_, rfl⟩
  rw [hbn] at x0 x1 x2 hbn1
  have hbnH := Lib.hid hbn
  have hR := Lib.hid (hr.below hb1)
  have hsH := Lib.hid hs
  have hX : Hid (∀ U, Below w1.heap.size w1 U → U.cell? ⟨bn, 1, none⟩ = some (.slice A n c) ∧ U.cell? ⟨bn, 2, none⟩ = some (.slice B m d)) := fun U hU =>
    ⟨(hU.cell (p := ⟨bn, 1, none⟩) hbn1).trans x1, (hU.cell (p := ⟨bn, 2, none⟩) hbn1).trans x2⟩
  have htc := Lib.hid (rchkW_any hz w1)
  have dm : decide ((2304 : Int) < (m : Int)) = false := decide_eq_false (by omega)
  have dm' : decide (2304 < m) = false := decide_eq_false (by omega)
  clear hb1 hr hs
  have fin2 : Hid (∀ U, chkN N = 2 → Below w1.heap.size w1 U → Ending.returned (.int .i64 2) = Ending.returned (.int .i64 (chkN N)) ∧ Below w.heap.size w U) := fun U h hU => ⟨by rw [h], hup.out _ hU⟩
  rcases W.chk_cases hz with hc | hc
  rotate_left
  · have hv := hbad.out (.inl (by omega))
    rw [hc] at htc
    have hv := Lib.hid hv
    go_enter Try.func18, Try.ntmps18
    go_wp2_with fail
    refine htc.out.mono ?_; rintro e w' ⟨rfl, rfl⟩
    go_wp2_with fail
    go_returns
    exact fin2.out _ hv.out (Below.refl _ _)
  rw [hc] at htc
  by_cases h2 : 256 < n
  · have hv := Lib.hid (hbad.out (.inr (.inl h2)))
    have dn : decide ((256 : Int) < (n : Int)) = true := decide_eq_true (by omega)
    have dn' : decide (256 < n) = true := decide_eq_true (by omega)
    go_enter Try.func18, Try.ntmps18
    go_wp2_with fail
    refine htc.out.mono ?_; rintro e w' ⟨rfl, rfl⟩
    go_wp2_with fail
    go_returns
    exact fin2.out _ hv.out (Below.refl _ _)
  have dn : decide ((256 : Int) < (n : Int)) = false := decide_eq_false (by omega)
  have dn' : decide (256 < n) = false := decide_eq_false (by omega)
  have hcH := Lib.hid hc
  clear hc
  go_enter Try.func18, Try.ntmps18
  go_wp2_with fail
  refine htc.out.mono ?_; rintro e w' ⟨rfl, rfl⟩
  go_wp2_with fail
  clear hw1 hbn x0 x1 x2
  go_loopw [3] (fun i wr => ∃ (k : Nat), k ≤ n ∧ i = .int .i64 k ∧ Hid (Below w1.heap.size w1 wr) ∧ Hid (∀ y ∈ N.cs.take k, W.good y = true)) (fun i _ => n - (intOf i).toNat)
  case atStart => exact ⟨0, Nat.zero_le _, rfl, Below.refl _ _, fun y hy => by simp at hy⟩
  case round =>
    obtain ⟨k, hk, rfl, hb, hno⟩ := hrel
    obtain ⟨y1, y2⟩ := hX.out _ hb.out
    by_cases hlt : k < n
    · obtain ⟨b, o, sA, sn, sc, l, rfl, hbs, hx, c0, rs, _⟩ := (hR.out.below hb.out).clo hlt
      have hlw := hsH.out.cw l (List.mem_of_getElem? hx)
      have hll := rs.len
      have hg := Lib.hid (rgood_any sA sn sc l wr rs (by omega))
      have hxH := Lib.hid hx
      have hltI : (k : Int) < (n : Int) := by omega
      clear hx rs hll
      obtain ⟨g, hgv⟩ : ∃ g, W.good l = g := ⟨_, rfl⟩
      rw [hgv] at hg
      cases g with
      | false =>
        have hv := Lib.hid (hbad.out (.inr (.inr (.inl ⟨l, List.mem_of_getElem? hxH.out, hgv⟩))))
        clear hgv
        go_wp2_with fail
        refine hg.out.mono ?_; rintro e w2 ⟨rfl, hb2⟩
        go_wp2_with fail
        go_returns
        exact fin2.out _ hv.out (hb.out.trans (hb2.mono hb.out.size))
      | true =>
        have hno2 : Hid (∀ y ∈ N.cs.take (k + 1), W.good y = true) := fun y hy => by
          rw [take_at hxH.out, List.mem_append] at hy
          rcases hy with hy | hy
          · exact hno.out y hy
          · simp at hy; subst hy; exact hgv
        clear hgv
        go_wp2_with fail
        refine hg.out.mono ?_; rintro e w2 ⟨rfl, hb2⟩
        have hb3 := Lib.hid (hb.out.trans (hb2.mono hb.out.size))
        go_wp2_with fail
        go_roundw
        case rel => exact ⟨k + 1, by omega, by go_num, hb3, hno2⟩
        case measure => simp [intOf]; omega
    · have hgood : Hid (∀ y ∈ N.cs, W.good y = true) := fun y hy => hno.out y (by rwa [List.take_of_length_le (by rw [hnn.out]; omega)])
      clear hno
      have hbO := hb
      go_wp2_with fail
      go_loopw [4] (fun i wr => ∃ (j : Nat), j ≤ m ∧ i = .int .i64 j ∧ Hid (Below w1.heap.size w1 wr) ∧ Hid (∀ l ∈ N.ls.take j, okL n l = true)) (fun i _ => m - (intOf i).toNat)
      case atStart => exact ⟨0, Nat.zero_le _, rfl, hbO, fun y hy => by simp at hy⟩
      case round =>
        clear hb hbO y1 y2
        obtain ⟨j, hj, rfl, hb, hno⟩ := hrel
        by_cases hlt2 : j < m
        rotate_left
        · have hv := Lib.hid (hend.out hcH.out (by omega) hgood.out fun l hl => hno.out l (by rwa [List.take_of_length_le (by rw [hmm.out]; omega)]))
          obtain ⟨y1, y2⟩ := hX.out _ hb.out
          go_wp2_with fail
          go_returns
          exact ⟨by rw [hv.out]; rfl, hup.out _ hb.out⟩
        obtain ⟨l, hl, b, o, pA, pn, pc, kA, kn, kc, rfl, hbl, ⟨ro, _⟩, ⟨rk, _⟩, c0, c1, c2, c3, c4, c5, c6⟩ := (hR.out.below hb.out).lnk hlt2
        have hlw := hsH.out.lw l (List.mem_of_getElem? hl)
        obtain ⟨la, lb, ln, ld, lo, op, cl⟩ := l
        simp only at c0 c1 c2 c3 c4 ro rk hlw
        have ha9 : Below wr.heap.size wr (wr.alloc (.cells #[.int .i64 la, .int .i64 lb, .int .i64 ln, .bool ld, .int .i64 lo, .slice pA pn pc, .slice kA kn kc] 38)) := (Below.refl _ wr).alloc (Nat.le_refl _) _
        obtain ⟨d0, d1, d2, d3, d4, d5, d6⟩ := rowBx7 wr 38 (.int .i64 la) (.int .i64 lb) (.int .i64 ln) (.bool ld) (.int .i64 lo) (.slice pA pn pc) (.slice kA kn kc)
        have hlb9 : wr.heap.size < (wr.alloc (.cells #[.int .i64 la, .int .i64 lb, .int .i64 ln, .bool ld, .int .i64 lo, .slice pA pn pc, .slice kA kn kc] 38)).heap.size := by simp
        have hb9 := hb.out.trans (ha9.mono hb.out.size)
        obtain ⟨y1, y2⟩ := hX.out _ hb.out
        have y1' := (ha9.cell (p := ⟨bn, 1, none⟩) (Nat.lt_of_lt_of_le hbn1 hb.out.size)).trans y1
        have ro9 := Lib.hid (ro.below ha9)
        have rk9 := Lib.hid (rk.below ha9)
        have hlo := ro.len
        have hlk := rk.len
        have hon : pn ≤ 1000 := by omega
        have hkn : kn ≤ 1000 := by omega
        have hloH := Lib.hid hlo
        have hlkH := Lib.hid hlk
        obtain ⟨w9, hw9⟩ : ∃ q, wr.alloc (.cells #[.int .i64 la, .int .i64 lb, .int .i64 ln, .bool ld, .int .i64 lo, .slice pA pn pc, .slice kA kn kc] 38) = q := ⟨_, rfl⟩
        rw [hw9] at d0 d1 d2 d3 d4 d5 d6 hb9 hlb9 ro9 rk9 y1'
        obtain ⟨bk, hbk⟩ : ∃ q, wr.heap.size = q := ⟨_, rfl⟩
        rw [hbk] at d0 d1 d2 d3 d4 d5 d6 hlb9
        have k3 := Lib.hid (rgood_any pA pn pc op w9 ro9.out (by omega))
        have hlH := Lib.hid hl
        have hb9h := Lib.hid hb9
        have hltI : (j : Int) < (m : Int) := by omega
        have hbadL : Hid (okL n ⟨la, lb, ln, ld, lo, op, cl⟩ = false → chkN N = 2) := fun h => hbad.out (.inr (.inr (.inr ⟨_, List.mem_of_getElem? hl, h⟩)))
        have hnxt : Hid (okL n ⟨la, lb, ln, ld, lo, op, cl⟩ = true → ∀ l ∈ N.ls.take (j + 1), okL n l = true) := fun h y hy => by
          rw [take_at hlH.out, List.mem_append] at hy
          rcases hy with hy | hy
          · exact hno.out y hy
          · simp at hy; subst hy; exact h
        have hiff := Lib.hid (@okL_iff n ⟨la, lb, ln, ld, lo, op, cl⟩)
        clear hl ro rk ha9 hb9 hlo hlk hno hlw
        by_cases q1 : la < 0
        · have e1 : decide (la < 0) = true := decide_eq_true q1
          have hv := Lib.hid (hbadL.out (Bool.eq_false_iff.2 fun h => by
            have hh := hiff.out.1 h
            have := hh.1; simp only at this; omega))
          clear hiff hnxt hbadL
          go_upto_region 12 with fail
          simp only [List.append_eq, List.cons_append, List.nil_append]
          go_wp2_with fail
          go_returns
          exact fin2.out _ hv.out hb9h.out
        have e1 : decide (la < 0) = false := decide_eq_false q1
        by_cases q2 : (n : Int) ≤ la
        · have e2 : decide ((n : Int) ≤ la) = true := decide_eq_true q2
          have hv := Lib.hid (hbadL.out (Bool.eq_false_iff.2 fun h => by
            have hh := hiff.out.1 h
            have := hh.1; simp only at this; omega))
          clear hiff hnxt hbadL
          go_upto_region 12 with fail
          simp only [List.append_eq, List.cons_append, List.nil_append]
          go_wp2_with fail
          go_returns
          exact fin2.out _ hv.out hb9h.out
        have e2 : decide ((n : Int) ≤ la) = false := decide_eq_false q2
        by_cases q3 : lb < 0
        · have e3 : decide (lb < 0) = true := decide_eq_true q3
          have hv := Lib.hid (hbadL.out (Bool.eq_false_iff.2 fun h => by
            have hh := hiff.out.1 h
            have := hh.2.1; simp only at this; omega))
          clear hiff hnxt hbadL
          go_upto_region 12 with fail
          simp only [List.append_eq, List.cons_append, List.nil_append]
          go_wp2_with fail
          go_returns
          exact fin2.out _ hv.out hb9h.out
        have e3 : decide (lb < 0) = false := decide_eq_false q3
        by_cases q4 : (n : Int) ≤ lb
        · have e4 : decide ((n : Int) ≤ lb) = true := decide_eq_true q4
          have hv := Lib.hid (hbadL.out (Bool.eq_false_iff.2 fun h => by
            have hh := hiff.out.1 h
            have := hh.2.1; simp only at this; omega))
          clear hiff hnxt hbadL
          go_upto_region 12 with fail
          simp only [List.append_eq, List.cons_append, List.nil_append]
          go_wp2_with fail
          go_returns
          exact fin2.out _ hv.out hb9h.out
        have e4 : decide ((n : Int) ≤ lb) = false := decide_eq_false q4
        by_cases q5 : la = lb
        · skip
          have hv := Lib.hid (hbadL.out (Bool.eq_false_iff.2 fun h => by
            have hh := hiff.out.1 h
            exact hh.2.2.1 q5))
          clear hiff hnxt hbadL
          subst q5
          go_upto_region 12 with fail
          simp only [List.append_eq, List.cons_append, List.nil_append]
          go_wp2_with fail
          go_returns
          exact fin2.out _ hv.out hb9h.out
        have e5 : (la == lb) = false := by simp [q5]
        by_cases q6 : ln < 1
        · have e6 : decide (ln < 1) = true := decide_eq_true q6
          have hv := Lib.hid (hbadL.out (Bool.eq_false_iff.2 fun h => by
            have hh := hiff.out.1 h
            have := hh.2.2.2.1; simp only at this; omega))
          clear hiff hnxt hbadL
          go_upto_region 12 with fail
          simp only [List.append_eq, List.cons_append, List.nil_append]
          go_wp2_with fail
          go_returns
          exact fin2.out _ hv.out hb9h.out
        have e6 : decide (ln < 1) = false := decide_eq_false q6
        by_cases q7 : 1099511627776 < ln
        · have e7 : decide (1099511627776 < ln) = true := decide_eq_true q7
          have hv := Lib.hid (hbadL.out (Bool.eq_false_iff.2 fun h => by
            have hh := hiff.out.1 h
            have := hh.2.2.2.2.1; simp only at this; omega))
          clear hiff hnxt hbadL
          go_upto_region 12 with fail
          simp only [List.append_eq, List.cons_append, List.nil_append]
          go_wp2_with fail
          go_returns
          exact fin2.out _ hv.out hb9h.out
        have e7 : decide (1099511627776 < ln) = false := decide_eq_false q7
        cases hg6 : W.good op with
        | false =>
          rw [hg6] at k3
          have hv := Lib.hid (hbadL.out (Bool.eq_false_iff.2 fun h => by
            have hh := hiff.out.1 h
            have := hh.2.2.2.2.2.1; rw [hg6] at this; cases this))
          clear hiff hnxt hbadL hg6
          go_upto_region 12 with fail
          simp only [List.append_eq, List.cons_append, List.nil_append]
          go_wp2_with fail
          refine k3.out.mono ?_; rintro e w3 ⟨rfl, hb3⟩
          have m3 := (hb3.cell (p := ⟨bk, 3, none⟩) hlb9).trans d3
          have m5 := (hb3.cell (p := ⟨bk, 5, none⟩) hlb9).trans d5
          have m6 := (hb3.cell (p := ⟨bk, 6, none⟩) hlb9).trans d6
          have hb93 := Lib.hid (hb9h.out.trans (hb3.mono hb9h.out.size))
          go_wp2_with fail
          go_returns
          exact fin2.out _ hv.out hb93.out
        | true =>
          rw [hg6] at k3
          cases hg7 : W.good cl with
          | false =>
            have hv := Lib.hid (hbadL.out (Bool.eq_false_iff.2 fun h => by
              have hh := hiff.out.1 h
              have := hh.2.2.2.2.2.2.1; rw [hg7] at this; cases this))
            clear hiff hnxt hbadL
            go_upto_region 12 with fail
            simp only [List.append_eq, List.cons_append, List.nil_append]
            go_wp2_with fail
            refine k3.out.mono ?_; rintro e w3 ⟨rfl, hb3⟩
            have m3 := (hb3.cell (p := ⟨bk, 3, none⟩) hlb9).trans d3
            have m5 := (hb3.cell (p := ⟨bk, 5, none⟩) hlb9).trans d5
            have m6 := (hb3.cell (p := ⟨bk, 6, none⟩) hlb9).trans d6
            have hb93 := Lib.hid (hb9h.out.trans (hb3.mono hb9h.out.size))
            have k4 := Lib.hid (rgood_any kA kn kc cl w3 (rk9.out.below hb3) (by omega))
            rw [hg7] at k4
            have hlb93 := Nat.lt_of_lt_of_le hlb9 hb3.size
            go_wp2_with fail
            refine k4.out.mono ?_; rintro e w4 ⟨rfl, hb4⟩
            have n3 := (hb4.cell (p := ⟨bk, 3, none⟩) hlb93).trans m3
            have n5 := (hb4.cell (p := ⟨bk, 5, none⟩) hlb93).trans m5
            have n6 := (hb4.cell (p := ⟨bk, 6, none⟩) hlb93).trans m6
            have hb94 := Lib.hid (hb93.out.trans (hb4.mono hb93.out.size))
            go_wp2_with fail
            go_returns
            exact fin2.out _ hv.out hb94.out
          | true =>
            cases ld with
            | true =>
              by_cases h8 : 0 < kn
              · have d8 : decide ((0 : Int) < (kn : Int)) = true := decide_eq_true (by omega)
                have d8' : decide (0 < kn) = true := decide_eq_true h8
                have hv := Lib.hid (hbadL.out (Bool.eq_false_iff.2 fun h => by
                  have hh := hiff.out.1 h
                  have := hh.2.2.2.2.2.2.2.1 rfl; have := hlkH.out; simp only at *; omega))
                clear hiff hnxt hbadL
                go_upto_region 12 with fail
                simp only [List.append_eq, List.cons_append, List.nil_append]
                go_wp2_with fail
                refine k3.out.mono ?_; rintro e w3 ⟨rfl, hb3⟩
                have m3 := (hb3.cell (p := ⟨bk, 3, none⟩) hlb9).trans d3
                have m5 := (hb3.cell (p := ⟨bk, 5, none⟩) hlb9).trans d5
                have m6 := (hb3.cell (p := ⟨bk, 6, none⟩) hlb9).trans d6
                have hb93 := Lib.hid (hb9h.out.trans (hb3.mono hb9h.out.size))
                have k4 := Lib.hid (rgood_any kA kn kc cl w3 (rk9.out.below hb3) (by omega))
                rw [hg7] at k4
                have hlb93 := Nat.lt_of_lt_of_le hlb9 hb3.size
                go_wp2_with fail
                refine k4.out.mono ?_; rintro e w4 ⟨rfl, hb4⟩
                have n3 := (hb4.cell (p := ⟨bk, 3, none⟩) hlb93).trans m3
                have n5 := (hb4.cell (p := ⟨bk, 5, none⟩) hlb93).trans m5
                have n6 := (hb4.cell (p := ⟨bk, 6, none⟩) hlb93).trans m6
                have hb94 := Lib.hid (hb93.out.trans (hb4.mono hb93.out.size))
                go_wp2_with fail
                go_returns
                exact fin2.out _ hv.out hb94.out
              · have d8 : decide ((0 : Int) < (kn : Int)) = false := decide_eq_false (by omega)
                have d8' : decide (0 < kn) = false := decide_eq_false h8
                have hv := Lib.hid (hnxt.out (hiff.out.2 (by
                  exact ⟨⟨by show 0 ≤ la; omega, by show la < _; omega⟩, ⟨by show 0 ≤ lb; omega, by show lb < _; omega⟩, q5, by show 1 ≤ ln; omega, by show ln ≤ 1099511627776; omega, hg6, hg7, fun _ => (by have := hlkH.out; show cl.length = 0; omega), fun h => by cases h⟩)))
                clear hiff hnxt hbadL
                go_upto_region 12 with fail
                simp only [List.append_eq, List.cons_append, List.nil_append]
                go_wp2_with fail
                refine k3.out.mono ?_; rintro e w3 ⟨rfl, hb3⟩
                have m3 := (hb3.cell (p := ⟨bk, 3, none⟩) hlb9).trans d3
                have m5 := (hb3.cell (p := ⟨bk, 5, none⟩) hlb9).trans d5
                have m6 := (hb3.cell (p := ⟨bk, 6, none⟩) hlb9).trans d6
                have hb93 := Lib.hid (hb9h.out.trans (hb3.mono hb9h.out.size))
                have k4 := Lib.hid (rgood_any kA kn kc cl w3 (rk9.out.below hb3) (by omega))
                rw [hg7] at k4
                have hlb93 := Nat.lt_of_lt_of_le hlb9 hb3.size
                go_wp2_with fail
                refine k4.out.mono ?_; rintro e w4 ⟨rfl, hb4⟩
                have n3 := (hb4.cell (p := ⟨bk, 3, none⟩) hlb93).trans m3
                have n5 := (hb4.cell (p := ⟨bk, 5, none⟩) hlb93).trans m5
                have n6 := (hb4.cell (p := ⟨bk, 6, none⟩) hlb93).trans m6
                have hb94 := Lib.hid (hb93.out.trans (hb4.mono hb93.out.size))
                go_wp2_with fail
                go_roundw
                case rel => exact ⟨j + 1, by omega, by go_num, hb94.out, hv⟩
                case measure => simp [intOf]; omega
            | false =>
              by_cases h8 : 0 < pn
              · have d8 : decide ((0 : Int) < (pn : Int)) = true := decide_eq_true (by omega)
                have d8' : decide (0 < pn) = true := decide_eq_true h8
                have hv := Lib.hid (hbadL.out (Bool.eq_false_iff.2 fun h => by
                  have hh := hiff.out.1 h
                  have := hh.2.2.2.2.2.2.2.2 rfl; have := hloH.out; simp only at *; omega))
                clear hiff hnxt hbadL
                go_upto_region 12 with fail
                simp only [List.append_eq, List.cons_append, List.nil_append]
                go_wp2_with fail
                refine k3.out.mono ?_; rintro e w3 ⟨rfl, hb3⟩
                have m3 := (hb3.cell (p := ⟨bk, 3, none⟩) hlb9).trans d3
                have m5 := (hb3.cell (p := ⟨bk, 5, none⟩) hlb9).trans d5
                have m6 := (hb3.cell (p := ⟨bk, 6, none⟩) hlb9).trans d6
                have hb93 := Lib.hid (hb9h.out.trans (hb3.mono hb9h.out.size))
                have k4 := Lib.hid (rgood_any kA kn kc cl w3 (rk9.out.below hb3) (by omega))
                rw [hg7] at k4
                have hlb93 := Nat.lt_of_lt_of_le hlb9 hb3.size
                go_wp2_with fail
                refine k4.out.mono ?_; rintro e w4 ⟨rfl, hb4⟩
                have n3 := (hb4.cell (p := ⟨bk, 3, none⟩) hlb93).trans m3
                have n5 := (hb4.cell (p := ⟨bk, 5, none⟩) hlb93).trans m5
                have n6 := (hb4.cell (p := ⟨bk, 6, none⟩) hlb93).trans m6
                have hb94 := Lib.hid (hb93.out.trans (hb4.mono hb93.out.size))
                go_wp2_with fail
                go_returns
                exact fin2.out _ hv.out hb94.out
              · have d8 : decide ((0 : Int) < (pn : Int)) = false := decide_eq_false (by omega)
                have d8' : decide (0 < pn) = false := decide_eq_false h8
                have hv := Lib.hid (hnxt.out (hiff.out.2 (by
                  exact ⟨⟨by show 0 ≤ la; omega, by show la < _; omega⟩, ⟨by show 0 ≤ lb; omega, by show lb < _; omega⟩, q5, by show 1 ≤ ln; omega, by show ln ≤ 1099511627776; omega, hg6, hg7, (fun h => by cases h), fun _ => by have := hloH.out; show op.length = 0; omega⟩)))
                clear hiff hnxt hbadL
                go_upto_region 12 with fail
                simp only [List.append_eq, List.cons_append, List.nil_append]
                go_wp2_with fail
                refine k3.out.mono ?_; rintro e w3 ⟨rfl, hb3⟩
                have m3 := (hb3.cell (p := ⟨bk, 3, none⟩) hlb9).trans d3
                have m5 := (hb3.cell (p := ⟨bk, 5, none⟩) hlb9).trans d5
                have m6 := (hb3.cell (p := ⟨bk, 6, none⟩) hlb9).trans d6
                have hb93 := Lib.hid (hb9h.out.trans (hb3.mono hb9h.out.size))
                have k4 := Lib.hid (rgood_any kA kn kc cl w3 (rk9.out.below hb3) (by omega))
                rw [hg7] at k4
                have hlb93 := Nat.lt_of_lt_of_le hlb9 hb3.size
                go_wp2_with fail
                refine k4.out.mono ?_; rintro e w4 ⟨rfl, hb4⟩
                have n3 := (hb4.cell (p := ⟨bk, 3, none⟩) hlb93).trans m3
                have n5 := (hb4.cell (p := ⟨bk, 5, none⟩) hlb93).trans m5
                have n6 := (hb4.cell (p := ⟨bk, 6, none⟩) hlb93).trans m6
                have hb94 := Lib.hid (hb93.out.trans (hb4.mono hb93.out.size))
                go_wp2_with fail
                go_roundw
                case rel => exact ⟨j + 1, by omega, by go_num, hb94.out, hv⟩
                case measure => simp [intOf]; omega
end Go.Proofs.Ytonkkibnigdfbaa
