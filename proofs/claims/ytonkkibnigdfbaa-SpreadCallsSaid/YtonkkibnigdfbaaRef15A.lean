/-
  Walks: the document's Check and All of labels (gen14.py).
-/
import Derived.Test.YtonkkibnigdfbaaRef11F
import Derived.Test.YtonkkibnigdfbaaBfS
namespace Go.Proofs.Ytonkkibnigdfbaa
open Go.RowKit Go.Shelf B K
set_option linter.unusedVariables false
set_option linter.unusedSimpArgs false
set_option maxHeartbeats 4000000
theorem sck_chk {N : NetP} {arr : List Int} (h : chkN N ≠ 0) : sckN N arr = chkN N := by unfold sckN; rw [if_pos h]
theorem sck_len {N : NetP} {arr : List Int} (h : chkN N = 0) (h2 : arr.length ≠ N.cs.length) : sckN N arr = 2 := by unfold sckN; rw [if_neg (by omega), if_pos h2]
theorem sck_bad {N : NetP} {arr : List Int} (h : chkN N = 0) (h2 : arr.length = N.cs.length) {x : Int} (hx : x ∈ arr) (hb : badT N.hz x = true) : sckN N arr = 9 := by
  unfold sckN; rw [if_neg (by omega), if_neg (by omega), if_pos (List.any_eq_true.2 ⟨x, hx, hb⟩)]
theorem sck_ok {N : NetP} {arr : List Int} (h : chkN N = 0) (h2 : arr.length = N.cs.length) (hx : ∀ x ∈ arr, badT N.hz x = false) : sckN N arr = 0 := by
  unfold sckN
  rw [if_neg (by omega), if_neg (by omega), if_neg]
  intro h3
  obtain ⟨x, h4, h5⟩ := List.any_eq_true.1 h3
  rw [hx x h4] at h5; cases h5
set_option maxRecDepth 100000 in
theorem rcheck15_any {N : NetP} {A B Ar : Option Addr} {n c m d na ca : Nat} {arr : List Int} (hs : Small N) (w : World) (hr : RNet w N A n B m) (hra : Rd w 1 (numE .i64) Ar na arr) (hna : na ≤ 1099511627776) :
    Calls Try.prog 38 #[.agg #[.int .i64 N.hz, .slice A n c, .slice B m d], .slice Ar na ca] w fun e w' => e = .returned (.int .i64 (sckN N arr)) ∧ Below w.heap.size w w' := by
  have hnn : Hid (N.cs.length = n) := hr.nn
  have hla : Hid (arr.length = na) := hra.len
  obtain ⟨hz, hhz⟩ : ∃ q, N.hz = q := ⟨_, rfl⟩
  rw [hhz]
  have hb1 : Below w.heap.size w (w.alloc (.cells #[.int .i64 hz, .slice A n c, .slice B m d] 25)) := (Below.refl _ w).alloc (Nat.le_refl _) _
  obtain ⟨x0, x1, x2⟩ := rowBx3 w 25 (.int .i64 hz) (.slice A n c) (.slice B m d)
  have hbn1 : w.heap.size < (w.alloc (.cells #[.int .i64 hz, .slice A n c, .slice B m d] 25)).heap.size := by simp
  obtain ⟨w1, hw1⟩ : ∃ q, w.alloc (.cells #[.int .i64 hz, .slice A n c, .slice B m d] 25) = q := ⟨_, rfl⟩
  rw [hw1] at hb1 x0 x1 x2 hbn1
  have hup : Hid (∀ w2, Below w1.heap.size w1 w2 → Below w.heap.size w w2) := fun w2 h => hb1.trans (h.mono hb1.size)
  obtain ⟨bn, hbn⟩ : ∃ q, w.heap.size = q := ⟨_, rfl⟩
  rw [hbn] at x0 x1 x2 hbn1
  have hR := Lib.hid (hr.below hb1)
  have hX : Hid (∀ U, Below w1.heap.size w1 U → U.cell? ⟨bn, 0, none⟩ = some (.int .i64 hz) ∧ U.cell? ⟨bn, 1, none⟩ = some (.slice A n c) ∧ U.cell? ⟨bn, 2, none⟩ = some (.slice B m d)) := fun U hU =>
    ⟨(hU.cell (p := ⟨bn, 0, none⟩) hbn1).trans x0, (hU.cell (p := ⟨bn, 1, none⟩) hbn1).trans x1, (hU.cell (p := ⟨bn, 2, none⟩) hbn1).trans x2⟩
  have hhzH := Lib.hid hhz
  have hRa := Lib.hid (hra.below hb1)
  have hC := Lib.hid (r11check_any (c := c) (d := d) hs w1 (hr.below hb1))
  rw [hhz] at hC
  clear hb1 hr hra x0 x1 x2 hhz hs
  obtain ⟨y0, y1, y2⟩ := hX.out _ (Below.refl _ _)
  rcases chkN_cases N with hk | hk
  rotate_left
  · have hv := Lib.hid (sck_chk (arr := arr) (N := N) (by omega))
    rw [hk] at hC hv
    clear hk
    go_enter Try.func38, Try.ntmps38
    go_wp2_with fail
    refine hC.out.mono ?_; rintro e w2 ⟨rfl, hb2⟩
    go_wp2_with fail
    go_returns
    exact ⟨by rw [hv.out]; rfl, hup.out _ hb2⟩
  rw [hk] at hC
  by_cases hl : na = n
  rotate_left
  · have hv := Lib.hid (sck_len (arr := arr) (N := N) hk (by rw [hla.out, hnn.out]; exact hl))
    have d1 : ((na : Int) != (n : Int)) = true := by simp; omega
    clear hk
    go_enter Try.func38, Try.ntmps38
    go_wp2_with fail
    refine hC.out.mono ?_; rintro e w2 ⟨rfl, hb2⟩
    clear hw1 hbn y0 y1 y2
    obtain ⟨y0, y1, y2⟩ := hX.out _ hb2
    go_wp2_with fail
    go_returns
    exact ⟨by rw [hv.out]; rfl, hup.out _ hb2⟩
  subst hl
  have hkH := Lib.hid hk
  have d1 : ((na : Int) != (na : Int)) = false := by simp
  clear hk
  go_enter Try.func38, Try.ntmps38
  go_wp2_with fail
  refine hC.out.mono ?_; rintro e w2 ⟨rfl, hb2⟩
  clear hw1 hbn y0 y1 y2
  obtain ⟨y0, y1, y2⟩ := hX.out _ hb2
  go_wp2_with fail
  go_loopw [6] (fun i wr => ∃ (k : Nat), k ≤ na ∧ i = .int .i64 k ∧ Hid (∀ x ∈ arr.take k, badT hz x = false) ∧ Hid (Below w1.heap.size w1 wr)) (fun i _ => na - (intOf i).toNat)
  case atStart => exact ⟨0, Nat.zero_le _, rfl, fun x hx => by simp at hx, hb2⟩
  case round =>
    clear hb2 y0 y1 y2
    obtain ⟨k, hk, rfl, hno, hb⟩ := hrel
    obtain ⟨y0, y1, y2⟩ := hX.out _ hb.out
    by_cases hlt : k < na
    · obtain ⟨b, o, t, rfl, hbb, ht, ft⟩ := (hRa.out.below hb.out).num hlt
      have hkI : (k : Int) < (na : Int) := by omega
      have hbad : Hid (badT hz t = true → sckN N arr = 9) := fun h => sck_bad hkH.out (by rw [hla.out, hnn.out]) (List.mem_of_getElem? ht) (by rw [hhzH.out]; exact h)
      have hgood : Hid (badT hz t = false → ∀ x ∈ arr.take (k + 1), badT hz x = false) := fun h => take_no ht hno.out h
      clear ht hno
      by_cases q1 : t = W.inf
      · have e1 : (t != 4611686018427387904) = false := by rw [q1]; rfl
        have hg := Lib.hid (hgood.out (by unfold badT; rw [decide_eq_false_iff_not]; exact fun h => h.1 q1))
        clear hbad hgood q1
        go_wp2_with fail
        go_quiet (fail)
        go_wp2_with fail
        go_roundw
        case rel => exact ⟨k + 1, by omega, by go_num, hg, below_drewQ hb.out _⟩
        case measure => simp [intOf]; omega
      have e1 : (t != 4611686018427387904) = true := by simp only [bne_iff_ne, ne_eq]; exact q1
      by_cases q2 : t < 0
      · have e2 : decide (t < 0) = true := decide_eq_true q2
        have hv := Lib.hid (hbad.out (by unfold badT; rw [decide_eq_true_iff]; exact ⟨q1, .inl q2⟩))
        clear hbad hgood q1
        go_wp2_with fail
        go_quiet (fail)
        go_wp2_with fail
        go_returns
        exact ⟨by rw [hv.out]; rfl, below_drewQ (hup.out _ hb.out) _⟩
      have e2 : decide (t < 0) = false := decide_eq_false q2
      by_cases q3 : hz < t
      · have e3 : decide (hz < t) = true := decide_eq_true q3
        have hv := Lib.hid (hbad.out (by unfold badT; rw [decide_eq_true_iff]; exact ⟨q1, .inr q3⟩))
        clear hbad hgood q1
        go_wp2_with fail
        go_quiet (fail)
        go_wp2_with fail
        go_returns
        exact ⟨by rw [hv.out]; rfl, below_drewQ (hup.out _ hb.out) _⟩
      have e3 : decide (hz < t) = false := decide_eq_false q3
      have hg := Lib.hid (hgood.out (by unfold badT; rw [decide_eq_false_iff_not]; exact fun h => h.2.elim q2 q3))
      clear hbad hgood q1
      go_wp2_with fail
      go_quiet (fail)
      go_wp2_with fail
      go_roundw
      case rel => exact ⟨k + 1, by omega, by go_num, hg, below_drewQ hb.out _⟩
      case measure => simp [intOf]; omega
    · have hv := Lib.hid (sck_ok (arr := arr) (N := N) hkH.out (by rw [hla.out, hnn.out]) fun x hx => by rw [hhzH.out]; exact hno.out x (by rwa [List.take_of_length_le (by rw [hla.out]; omega)]))
      clear hno
      go_wp2_with fail
      go_returns
      exact ⟨by rw [hv.out]; rfl, hup.out _ hb.out⟩
set_option maxRecDepth 100000 in
theorem rall15_bad {N : NetP} {A B Ar : Option Addr} {n c m d na ca : Nat} {arr : List Int} {w : World} (hs : Small N) (hr : RNet w N A n B m) (hra : Rd w 1 (numE .i64) Ar na arr) (hna : na ≤ 1099511627776) (hb : sckN N arr ≠ 0) :
    Calls Try.prog 35 #[.agg #[.int .i64 N.hz, .slice A n c, .slice B m d], .slice Ar na ca] w fun e w' => e = .returned (.tuple #[.slice none 0 0, .slice none 0 0, .int .i64 (sckN N arr)]) ∧ Below w.heap.size w w' := by
  obtain ⟨hz, hhz⟩ : ∃ q, N.hz = q := ⟨_, rfl⟩
  rw [hhz]
  have hb1 : Below w.heap.size w (w.alloc (.cells #[.int .i64 hz, .slice A n c, .slice B m d] 25)) := (Below.refl _ w).alloc (Nat.le_refl _) _
  obtain ⟨x0, x1, x2⟩ := rowBx3 w 25 (.int .i64 hz) (.slice A n c) (.slice B m d)
  have hbn1 : w.heap.size < (w.alloc (.cells #[.int .i64 hz, .slice A n c, .slice B m d] 25)).heap.size := by simp
  obtain ⟨w1, hw1⟩ : ∃ q, w.alloc (.cells #[.int .i64 hz, .slice A n c, .slice B m d] 25) = q := ⟨_, rfl⟩
  rw [hw1] at hb1 x0 x1 x2 hbn1
  have hup : Hid (∀ w2, Below w1.heap.size w1 w2 → Below w.heap.size w w2) := fun w2 h => hb1.trans (h.mono hb1.size)
  obtain ⟨bn, hbn⟩ : ∃ q, w.heap.size = q := ⟨_, rfl⟩
  rw [hbn] at x0 x1 x2 hbn1
  have hR := Lib.hid (hr.below hb1)
  have hX : Hid (∀ U, Below w1.heap.size w1 U → U.cell? ⟨bn, 0, none⟩ = some (.int .i64 hz) ∧ U.cell? ⟨bn, 1, none⟩ = some (.slice A n c) ∧ U.cell? ⟨bn, 2, none⟩ = some (.slice B m d)) := fun U hU =>
    ⟨(hU.cell (p := ⟨bn, 0, none⟩) hbn1).trans x0, (hU.cell (p := ⟨bn, 1, none⟩) hbn1).trans x1, (hU.cell (p := ⟨bn, 2, none⟩) hbn1).trans x2⟩
  have hhzH := Lib.hid hhz
  have hC := Lib.hid (rcheck15_any (c := c) (d := d) (ca := ca) hs w1 (hr.below hb1) (hra.below hb1) hna)
  rw [hhz] at hC
  clear hb1 hr hra hhz hs
  obtain ⟨q, hq⟩ : ∃ q, sckN N arr = q := ⟨_, rfl⟩
  rw [hq] at hC hb ⊢
  have d1 : (q != 0) = true := by simp [hb]
  clear hq hb
  go_enter Try.func35, Try.ntmps35
  go_wp2_with fail
  refine hC.out.mono ?_; rintro e w2 ⟨rfl, hb2⟩
  go_wp2_with fail
  go_returns
  exact ⟨rfl, hup.out _ hb2⟩
/-- what All hands back of labels that may be -/
def RetAll15 (N : NetP) (X D : List Int) (n : Nat) (w : World) (e : Ending) (w' : World) : Prop :=
  ∃ A c Av cv, e = .returned (.tuple #[.slice A n c, .slice Av n cv, .int .i64 0]) ∧ Rd w' 1 (numE .i64) A n D ∧ Rd w' 2 pairE Av n (viasL N X D) ∧ Below w.heap.size w w'
set_option maxRecDepth 100000 in
theorem rall15_ok {N : NetP} {A B Ar : Option Addr} {n c m d ca : Nat} {X D : List Int} {w : World} (hs : Small N) (hr : RNet w N A n B m) (hra : Rd w 1 (numE .i64) Ar n X) (hN : OkN N) (hkx : LabsOk N X) (hS : Spr N X D) :
    Calls Try.prog 35 #[.agg #[.int .i64 N.hz, .slice A n c, .slice B m d], .slice Ar n ca] w (RetAll15 N X D n w) := by
  have hnn : Hid (N.cs.length = n) := hr.nn
  have hmm : Hid (N.ls.length = m) := hr.mm
  have hdl : Hid (D.length = n) := by show _ = _; rw [hS.ok.1]; exact hr.nn
  have hxl : Hid (X.length = n) := hra.len
  have hn1 : n ≤ 1000 := by have := hs.cn; have := hnn.out; omega
  have hm1 : m ≤ 1000 := by have := hs.ln; have := hmm.out; omega
  obtain ⟨hz, hhz⟩ : ∃ q, N.hz = q := ⟨_, rfl⟩
  rw [hhz]
  have hb1 : Below w.heap.size w (w.alloc (.cells #[.int .i64 hz, .slice A n c, .slice B m d] 25)) := (Below.refl _ w).alloc (Nat.le_refl _) _
  obtain ⟨x0, x1, x2⟩ := rowBx3 w 25 (.int .i64 hz) (.slice A n c) (.slice B m d)
  have hbn1 : w.heap.size < (w.alloc (.cells #[.int .i64 hz, .slice A n c, .slice B m d] 25)).heap.size := by simp
  obtain ⟨w1, hw1⟩ : ∃ q, w.alloc (.cells #[.int .i64 hz, .slice A n c, .slice B m d] 25) = q := ⟨_, rfl⟩
  rw [hw1] at hb1 x0 x1 x2 hbn1
  have hup : Hid (∀ w2, Below w1.heap.size w1 w2 → Below w.heap.size w w2) := fun w2 h => hb1.trans (h.mono hb1.size)
  obtain ⟨bn, hbn⟩ : ∃ q, w.heap.size = q := ⟨_, rfl⟩
  rw [hbn] at x0 x1 x2 hbn1
  have hR := Lib.hid (hr.below hb1)
  have hX : Hid (∀ U, Below w1.heap.size w1 U → U.cell? ⟨bn, 0, none⟩ = some (.int .i64 hz) ∧ U.cell? ⟨bn, 1, none⟩ = some (.slice A n c) ∧ U.cell? ⟨bn, 2, none⟩ = some (.slice B m d)) := fun U hU =>
    ⟨(hU.cell (p := ⟨bn, 0, none⟩) hbn1).trans x0, (hU.cell (p := ⟨bn, 1, none⟩) hbn1).trans x1, (hU.cell (p := ⟨bn, 2, none⟩) hbn1).trans x2⟩
  have hhzH := Lib.hid hhz
  have hRx := Lib.hid (hra.below hb1)
  have hC := Lib.hid (rcheck15_any (c := c) (d := d) (ca := ca) hs w1 (hr.below hb1) (hra.below hb1) (by omega))
  rw [sck_iff.2 ⟨hN, hkx⟩, hhz] at hC
  have hF : Hid (∀ (i : Nat) (l : Lk) (t : Int), N.ls[i]? = some l → W.chk t = 0 → ∀ U, Below w1.heap.size w1 U → Calls Try.prog 30 #[.agg #[.int .i64 hz, .slice A n c, .slice B m d], .int .i64 (i : Int), .int .i64 t] U fun e w' => e = .returned (.tuple #[.int .i64 (firstL N l t), .int .i64 (toL N l t)]) ∧ Below U.heap.size U w') := fun i l t hl ht U hU => by
    have := rfirst_ok (c := c) (d := d) hs hN hl t ht U ((hR.out).below hU)
    rwa [hhz] at this
  have hSh := Lib.hid hS
  replace hN := Lib.hid hN
  replace hkx := Lib.hid hkx
  clear hb1 hr hra x0 x1 x2 hhz hs hS
  obtain ⟨y0, y1, y2⟩ := hX.out _ (Below.refl _ _)
  go_enter Try.func35, Try.ntmps35
  go_wp2_with fail
  refine hC.out.mono ?_; rintro e w2 ⟨rfl, hb2⟩
  clear hw1 hbn y0 y1 y2
  obtain ⟨qA, qc, w3, hrun, hI, _, _, hb3⟩ := own_copy (c := ca) (hRx.out.below hb2) (by omega)
  have hb23 := Lib.hid hb3
  have hb13 := Lib.hid (hb2.trans (hb3.mono hb2.size))
  have hIh := Lib.hid hI
  have hst := Lib.hid (BfI.start hN.out hSh.out hkx.out)
  have hb12 := Lib.hid hb2
  clear hI hb3 hb2
  go_wp2_with (at_builtin; refine wpList_append_run ?a1 (.tmp 27) (.tmp 28) 40 ?a2 ?a3 ?a4 hrun ?_)
  case a1 => rfl
  case a2 => rfl
  try (case a3 => rfl)
  try (case a4 => rfl)
  go_loopw [9] (fun i wr => ∃ (r : Nat) (E : List Int), r ≤ n + 1 ∧ i = .int .i64 r ∧ Hid (BfI N X D r 0 E) ∧ Hid (RowI wr w2.heap.size qA n E) ∧ Hid (Below w2.heap.size w2 wr)) (fun i _ => n + 1 - (intOf i).toNat)
  case atStart => exact ⟨0, X, Nat.zero_le _, rfl, hst, hIh, hb23⟩
  case round =>
    clear hst hIh hb23 hrun hb13
    obtain ⟨r, E, hr, rfl, hE, hI, hb⟩ := hrel
    by_cases hlr : r ≤ n
    · have d9 : decide ((r : Int) ≤ (n : Int)) = true := decide_eq_true (by omega)
      have d9' : decide (r ≤ n) = true := decide_eq_true hlr
      go_wp2_with fail
      go_loopw [10] (fun i wr => ∃ (i' : Nat) (E : List Int), i' ≤ m ∧ i = .int .i64 i' ∧ Hid (BfI N X D r i' E) ∧ Hid (RowI wr w2.heap.size qA n E) ∧ Hid (Below w2.heap.size w2 wr)) (fun i _ => m - (intOf i).toNat)
      case atStart => exact ⟨0, E, Nat.zero_le _, rfl, hE, hI, hb⟩
      case round =>
        clear hE hI hb
        obtain ⟨i, E, him, rfl, hE, hI, hb⟩ := hrel
        have hbw := Lib.hid (hb12.out.trans (hb.out.mono hb12.out.size))
        obtain ⟨y0, y1, y2⟩ := hX.out _ hbw.out
        by_cases hlti : i < m
        · skip
          obtain ⟨l, hl, b, o, pA, pn, pc, kA, kn, kc, rfl, hbl, _, _, c0, c1, c2, c3, c4, c5', c6⟩ := (hR.out.below hbw.out).lnk hlti
          have hlm := List.mem_of_getElem? hl
          obtain ⟨⟨la0, la1⟩, ⟨lb0, lb1⟩, _⟩ := okL_iff.1 (hN.out.lk l hlm)
          have hnn' := hnn.out
          obtain ⟨a', ha'⟩ : ∃ a' : Nat, l.a = a' := ⟨l.a.toNat, by omega⟩
          obtain ⟨b', hb'⟩ : ∃ b' : Nat, l.b = b' := ⟨l.b.toNat, by omega⟩
          have han : a' < n := by omega
          have hbn' : b' < n := by omega
          have hltI : (i : Int) < (m : Int) := by omega
          have hanI : (a' : Int) < (n : Int) := by omega
          have hbnI : (b' : Int) < (n : Int) := by omega
          rw [ha'] at c0
          rw [hb'] at c1
          have hElen : E.length = n := by rw [hE.out.ok.1]; exact hnn.out
          have hEa := lab_get (D := E) (s := a') (by omega)
          have hEb := lab_get (D := E) (s := b') (by omega)
          obtain ⟨g, rfl, fa, _⟩ := hI.out.at_ hEa
          obtain ⟨g', e9, fb, fz⟩ := hI.out.at_ hEb
          cases e9
          have hskip : Hid (lab E a' = W.inf ∨ lab E b' ≤ toL N l (lab E a') → BfI N X D r (i + 1) E) := fun h => hE.out.skip hN.out hSh.out hkx.out hl (by rw [ha', hb']; exact h)
          have hlow : Hid (lab E a' ≠ W.inf → toL N l (lab E a') < lab E b' → BfI N X D r (i + 1) (E.set b' (toL N l (lab E a')))) := fun h1 h2 => by
            have := hE.out.low hN.out hSh.out hkx.out hl (by rw [ha']; exact h1) (by rw [ha', hb']; exact h2)
            rwa [ha', hb'] at this
          have hta : Hid (lab E a' ≠ W.inf → W.chk (lab E a') = 0) := fun h => by
            have h1 := hE.out.ok.fin h
            have := hN.out.hz
            exact W.chk_ok ⟨h1.1, by omega⟩
          have hFF := Lib.hid (fun h => hF.out i l (lab E a') hl (hta.out h))
          obtain ⟨ta, hta'⟩ : ∃ q, lab E a' = q := ⟨_, rfl⟩
          obtain ⟨tb, htb'⟩ : ∃ q, lab E b' = q := ⟨_, rfl⟩
          rw [hta'] at fa hskip hlow hFF
          rw [htb'] at fb hskip hlow hEb
          obtain ⟨fF, hfF⟩ : ∃ q, firstL N l ta = q := ⟨_, rfl⟩
          obtain ⟨tT, htT⟩ : ∃ q, toL N l ta = q := ⟨_, rfl⟩
          rw [hfF, htT] at hFF
          rw [htT] at hskip hlow
          obtain ⟨la, lb, ln, ld, lo, op, cl⟩ := l
          simp only at c0 c1 c2 c3 c4
          obtain ⟨d0, d1', d2, d3, d4, d5, d6⟩ := rowBx7 wr 38 (.int .i64 (a' : Int)) (.int .i64 (b' : Int)) (.int .i64 ln) (.bool ld) (.int .i64 lo) (.slice pA pn pc) (.slice kA kn kc)
          have hb9 : Below wr.heap.size wr (wr.alloc (.cells #[.int .i64 (a' : Int), .int .i64 (b' : Int), .int .i64 ln, .bool ld, .int .i64 lo, .slice pA pn pc, .slice kA kn kc] 38)) := (Below.refl _ wr).alloc (Nat.le_refl _) _
          have hbl9 : wr.heap.size < (wr.alloc (.cells #[.int .i64 (a' : Int), .int .i64 (b' : Int), .int .i64 ln, .bool ld, .int .i64 lo, .slice pA pn pc, .slice kA kn kc] 38)).heap.size := by simp
          obtain ⟨z0, z1, z2⟩ := hX.out _ (hbw.out.trans (hb9.mono hbw.out.size))
          obtain ⟨w9, hw9⟩ : ∃ q, wr.alloc (.cells #[.int .i64 (a' : Int), .int .i64 (b' : Int), .int .i64 ln, .bool ld, .int .i64 lo, .slice pA pn pc, .slice kA kn kc] 38) = q := ⟨_, rfl⟩
          rw [hw9] at d0 d1' d2 d3 d4 d5 d6 hb9 hbl9 z0 z1 z2
          obtain ⟨bl, hbl'⟩ : ∃ q, wr.heap.size = q := ⟨_, rfl⟩
          rw [hbl'] at d0 d1' d2 d3 d4 d5 d6 hbl9
          have hbn9 : bn < w9.heap.size := by have := hbw.out.size; have := hb9.size; omega
          have hb9h := Lib.hid hb9
          have hgw : g < wr.heap.size := hI.out.lt g (mem_blks.2 ⟨_, rfl, rfl⟩)
          have hgge : w2.heap.size ≤ g := hI.out.ge g (mem_blks.2 ⟨_, rfl, rfl⟩)
          rw [hbl'] at hgw
          have fa9 := (hb9.cell (p := ⟨g, _, none⟩) (by rw [hbl']; exact hgw)).trans fa
          have fb9 := (hb9.cell (p := ⟨g, _, none⟩) (by rw [hbl']; exact hgw)).trans fb
          have hbD9 : g < w9.heap.size := by omega
          have hbx := Lib.hid (hb.out.trans (hb9.mono hb.out.size))
          have hI9 := Lib.hid (hI.out.below hb9)
          have hEbh := Lib.hid hEb
          clear hl hlm la0 la1 lb0 lb1 ha' hb' hnn' hEa hEb hfF htT hb9 hta hI hE hElen hta' htb'
          by_cases q1 : ta = W.inf
          · have e1 : (ta == 4611686018427387904) = true := by rw [q1]; rfl
            have hnx := Lib.hid (hskip.out (.inl q1))
            clear hskip hlow hFF
            subst q1
            go_wp2_with fail
            go_roundw
            case rel => exact ⟨i + 1, E, by omega, by go_num, hnx, hI9, hbx⟩
            case measure => simp [intOf]; omega
          have e1 : (ta == 4611686018427387904) = false := by simp only [beq_eq_false_iff_ne, ne_eq]; exact q1
          have hF2 : Hid (∀ U, Below wr.heap.size wr U → Calls Try.prog 30 #[.agg #[.int .i64 hz, .slice A n c, .slice (some ⟨b, o, none⟩) m d], .int .i64 (i : Int), .int .i64 ta] U fun e w' => e = .returned (.tuple #[.int .i64 fF, .int .i64 tT]) ∧ Below U.heap.size U w') := fun U hU => hFF.out q1 U (hbw.out.trans (hU.mono hbw.out.size))
          by_cases q2 : tT < tb
          rotate_left
          · have e2 : decide (tT < tb) = false := decide_eq_false q2
            have hnx := Lib.hid (hskip.out (.inr (by omega)))
            clear hskip hlow hFF q1
            go_upto_region 13 with fail
            refine wp_region_below w9.heap.size (by kernel_rfl) (by kernel_rfl) ?_
            intro C hC
            repeat (go_big_quiet_step (first
              | ((intro _; with_reducible rfl))
              | (intro hc; have m0 := (hc.cell (p := ⟨bn, _, none⟩) hbn9).trans z0; have m1 := (hc.cell (p := ⟨bn, _, none⟩) hbn9).trans z1; have m2 := (hc.cell (p := ⟨bn, _, none⟩) hbn9).trans z2; simp only [m0, m1, m2, Result.andThen]; exact ⟨trivial, rfl⟩)
              | (intro hc; have m0 := (hc.cell (p := ⟨bl, _, none⟩) hbl9).trans d0; simp only [m0, Result.andThen]; exact ⟨trivial, rfl⟩)
              | (intro hc; have m0 := (hc.cell (p := ⟨g, _, none⟩) hbD9).trans fa9; simp only [m0, Result.andThen]; exact ⟨trivial, rfl⟩)
              | (intro hc; with_reducible refine (hF2.out _ (hb9h.out.trans (hc.mono hb9h.out.size))).mono ?_; rintro e w'' ⟨rfl, hb⟩; exact ⟨rfl, hc.trans (hb.mono hc.size)⟩)))
            refine wpQuiet_nil ?_
            intro w10 hb10
            clear hC
            clear hw9 hbl'
            replace d1' := (hb10.cell (p := ⟨bl, _, none⟩) hbl9).trans d1'
            replace fb9 := (hb10.cell (p := ⟨g, _, none⟩) hbD9).trans fb9
            have hbx2 := Lib.hid (hbx.out.trans (hb10.mono hbx.out.size))
            have hI10 := Lib.hid (hI9.out.below hb10)
            go_wp2_with fail
            go_roundw
            case rel => exact ⟨i + 1, E, by omega, by go_num, hnx, hI10, hbx2⟩
            case measure => simp [intOf]; omega
          have e2 : decide (tT < tb) = true := decide_eq_true q2
          have hnx := Lib.hid (hlow.out q1 q2)
          clear hskip hlow hFF q1
          go_upto_region 13 with fail
          refine wp_region_below w9.heap.size (by kernel_rfl) (by kernel_rfl) ?_
          intro C hC
          repeat (go_big_quiet_step (first
            | ((intro _; with_reducible rfl))
            | (intro hc; have m0 := (hc.cell (p := ⟨bn, _, none⟩) hbn9).trans z0; have m1 := (hc.cell (p := ⟨bn, _, none⟩) hbn9).trans z1; have m2 := (hc.cell (p := ⟨bn, _, none⟩) hbn9).trans z2; simp only [m0, m1, m2, Result.andThen]; exact ⟨trivial, rfl⟩)
            | (intro hc; have m0 := (hc.cell (p := ⟨bl, _, none⟩) hbl9).trans d0; simp only [m0, Result.andThen]; exact ⟨trivial, rfl⟩)
            | (intro hc; have m0 := (hc.cell (p := ⟨g, _, none⟩) hbD9).trans fa9; simp only [m0, Result.andThen]; exact ⟨trivial, rfl⟩)
            | (intro hc; with_reducible refine (hF2.out _ (hb9h.out.trans (hc.mono hb9h.out.size))).mono ?_; rintro e w'' ⟨rfl, hb⟩; exact ⟨rfl, hc.trans (hb.mono hc.size)⟩)))
          refine wpQuiet_nil ?_
          intro w10 hb10
          clear hC
          clear hw9 hbl'
          replace d1' := (hb10.cell (p := ⟨bl, _, none⟩) hbl9).trans d1'
          replace fb9 := (hb10.cell (p := ⟨g, _, none⟩) hbD9).trans fb9
          have hbx2 := Lib.hid (hbx.out.trans (hb10.mono hbx.out.size))
          have hI10 := hI9.out.below hb10
          obtain ⟨_, e9, _, fz10⟩ := hI10.at_ hEbh.out
          cases e9
          have hI11 := Lib.hid (hI10.set (y := tT) hEbh.out)
          have hbx3 := Lib.hid (hbx2.out.setCell (p := ⟨g, b', none⟩) hgge (.int .i64 tT))
          clear hI10
          go_wp2_with fail
          go_roundw
          case rel => exact ⟨i + 1, _, by omega, by go_num, hnx, hI11, hbx3⟩
          case measure => simp [intOf]; omega
        · obtain rfl : i = m := by omega
          have hE' := hE.out
          rw [← hmm.out] at hE'
          have hnx := Lib.hid (hE'.next hSh.out)
          clear hE' hE
          go_wp2_with fail
          go_roundw
          case rel => exact ⟨r + 1, E, by omega, by go_num, hnx, hI, hb⟩
          case measure => simp [intOf]; omega
    · have d9 : decide ((r : Int) ≤ (n : Int)) = false := decide_eq_false (by omega)
      have d9' : decide (r ≤ n) = false := decide_eq_false hlr
      obtain rfl : E = D := hE.out.done hN.out hSh.out hkx.out (by rw [hdl.out]; omega)
      clear hE
      have hRo := Lib.hid hI.out.rd
      obtain ⟨wo, hwo⟩ : ∃ q, q = wr := ⟨_, rfl⟩
      subst hwo
      have hbO := Lib.hid (hb12.out.trans (hb.out.mono hb12.out.size))
      have hKH := Lib.hid hSh.out.ok
      have hleH := Lib.hid hSh.out.le
      clear hI hb
      go_wp2_with fail
      go_loopw [14, 15] (fun v i wr => ∃ (k : Nat), k ≤ n ∧ i = .int .i64 k ∧ Hid (wr.ownsRow wo.heap.size 59 2 v k (((viasL N X E).take k).flatMap pairE)) ∧ Hid (Below wo.heap.size wo wr)) (fun _ i _ => n - (intOf i).toNat)
      case atStart => exact ⟨0, Nat.zero_le _, rfl, World.ownsRow_nil _ _ _ _, Below.refl _ _⟩
      case round =>
        obtain ⟨k, hkn, rfl, own, hb⟩ := hrel
        by_cases hlt : k < n
        rotate_left
        · obtain rfl : k = n := by omega
          obtain ⟨A', c', rfl, r1, _, _⟩ := Rd.of_own (enc := pairE) (l := (viasL N X E).take k) (fun _ => rfl) (by rw [List.length_take, viasL_len, hdl.out]; omega) own.out
          rw [List.take_of_length_le (by rw [viasL_len, hdl.out]; exact Nat.le_refl _)] at r1
          have r1 := Lib.hid r1
          have hRf := Lib.hid (hRo.out.below hb.out)
          go_wp2_with fail
          go_returns
          exact ⟨qA, qc, A', c', rfl, hRf.out, r1.out, hup.out _ (hbO.out.trans (hb.out.mono hbO.out.size))⟩
        have hbwk := Lib.hid (hbO.out.trans (hb.out.mono hbO.out.size))
        obtain ⟨bo, oo, t, rfl, hbo, hDt, hct⟩ := (hRo.out.below hb.out).num hlt
        obtain ⟨ba, oa, ta, rfl, hba, hAt, hca⟩ := (hRx.out.below hbwk.out).num hlt
        have hDk : Hid (lab E k = t) := lab_at hDt
        have hAk : Hid (lab X k = ta) := lab_at hAt
        have hle := hleH.out k
        rw [hDk.out, hAk.out] at hle
        have hv1 : Below wr.heap.size wr (wr.alloc (.cells #[.int .i64 (-1), .int .i64 0] 59)) := (Below.refl _ wr).alloc (Nat.le_refl _) _
        have hvk := heap_alloc_new wr (.cells #[.int .i64 (-1), .int .i64 0] 59)
        obtain ⟨vb, hvb⟩ : ∃ q, wr.heap.size = q := ⟨_, rfl⟩
        rw [hvb] at hvk
        have hvkh := Lib.hid hvk
        have hv1h := Lib.hid hv1
        have hvbH := Lib.hid hvb
        have hEnd : Hid (∀ (wq : World) (nq : Nat) (x y : Int), Below wr.heap.size wr wq → wq.heap[vb]? = some (.cells #[.int .i64 x, .int .i64 y] 59 (0, 0)) → viaF N X E k = (x, y) →
            wq.cell? ⟨vb, 0, none⟩ = some (.int .i64 x) ∧ wq.cell? ⟨vb, 1, none⟩ = some (.int .i64 y) ∧
            ∃ g c w9, (Builtin.append_ #[46, 46] 46 #[u14, .slice (some ⟨wq.heap.size, 0, none⟩) 1 1]).run Try.prog ((wq.drewN nq).alloc (.cells #[.int .i64 x, .int .i64 y] 59)) = .ok (.slice (some ⟨g, 0, none⟩) (k + 1) c) w9 ∧
              w9.ownsRow wo.heap.size 59 2 (.slice (some ⟨g, 0, none⟩) (k + 1) c) (k + 1) (((viasL N X E).take (k + 1)).flatMap pairE) ∧ Below wo.heap.size wo w9) := fun wq nq x y hq hrow hvia => by
          have hlk : ((viasL N X E).take k).length = k := by rw [List.length_take, viasL_len]; have := hdl.out; omega
          obtain ⟨g, c, w9, hrun, own9, hb9, _⟩ := own_push (enc := pairE) (l := (viasL N X E).take k) Try.underlying46 infoVia rfl (by decide) (fun _ => rfl) (fun x u hu => by simp [pairE] at hu; rcases hu with rfl | rfl <;> rfl) (x, y) (by rw [hlk]; exact own_up own.out hq) (by rw [hlk]; omega) (by decide) (hb.out.trans (hq.mono hb.out.size)) (Nat.le_trans hb.out.size hq.size) nq
          rw [hlk] at hrun own9
          refine ⟨by rw [cell_of_row _ _ _ _ _ _ hrow]; rfl, by rw [cell_of_row _ _ _ _ _ _ hrow]; rfl, g, c, w9, hrun, ?_, hb9⟩
          rw [viasL_take N X E (by have := hdl.out; omega), hvia]
          exact own9
        obtain ⟨y0, y1, y2⟩ := hX.out _ hbwk.out
        have hbok := hb
        clear hvk hv1 hDt hAt own hb
        go_wp2_with fail
        clear hvb
        obtain ⟨wv, hwv⟩ : ∃ q, wr.alloc (.cells #[.int .i64 (-1), .int .i64 0] 59) = q := ⟨_, rfl⟩
        rw [hwv] at hvkh hv1h ⊢
        obtain ⟨wk, hwk⟩ : ∃ q, q = wr := ⟨_, rfl⟩
        subst hwk
        go_loopw [17] (fun j wq => ∃ (i : Nat), i ≤ m ∧ j = .int .i64 i ∧ Hid (Below wk.heap.size wk wq) ∧
          ((Hid (wq.heap[vb]? = some (.cells #[.int .i64 (-1), .int .i64 0] 59 (0, 0))) ∧ Hid (∀ y ∈ N.ls.take i, viaP N E k y = false)) ∨
           ∃ (l : Nat) (f : Int), Hid (wq.heap[vb]? = some (.cells #[.int .i64 l, .int .i64 f] 59 (0, 0))) ∧ Hid (t ≠ ta ∧ viaF N X E k = ((l : Int), f)))) (fun j _ => m - (intOf j).toNat)
        case atStart => exact ⟨0, Nat.zero_le _, rfl, hv1h, .inl ⟨hvkh, fun y hy => by simp at hy⟩⟩
        case round =>
          clear hv1h hvkh hwv y0 y1 y2
          obtain ⟨i, him, rfl, hbq, hst⟩ := hrel
          have hbw := Lib.hid (hbwk.out.trans (hbq.out.mono hbwk.out.size))
          obtain ⟨y0, y1, y2⟩ := hX.out _ hbw.out
          have ct := (hbq.out.cell (p := ⟨bo, _, none⟩) hbo).trans hct
          have ca' := (hbq.out.cell (p := ⟨ba, _, none⟩) hba).trans hca
          have hkI : (k : Int) < (n : Int) := by omega
          have htake : Hid (i = m → N.ls.take i = N.ls) := fun h => List.take_of_length_le (by rw [hmm.out, h]; exact Nat.le_refl _)
          rcases hst with ⟨hrow, hno⟩ | ⟨lk, f, hrow, hfd⟩
          rotate_left
          · have m0 : wr.cell? ⟨vb, 0, none⟩ = some (.int .i64 (lk : Int)) := by rw [cell_of_row _ _ _ _ _ _ hrow.out]; rfl
            have e0 : decide ((lk : Int) < 0) = false := decide_eq_false (by omega)
            have hvia := Lib.hid hfd.out.2
            by_cases hlti : i < m
            · have hltI : (i : Int) < (m : Int) := by omega
              clear htake hfd
              go_wp2_with fail
              go_quiet (fail)
              obtain ⟨vc0, vc1, gg, cc, w9, hrun, own9, hb9⟩ := hEnd.out wr nq ((lk : Int)) (f) hbq.out hrow.out hvia.out
              replace own9 := Lib.hid own9
              replace hb9 := Lib.hid hb9
              go_wp2_with (at_builtin; refine wpList_append_run ?a1 (.tmp 144) (.tmp 146) 46 ?a2 ?a3 ?a4 hrun ?_)
              case a1 => rfl
              case a2 => rfl
              try (case a3 => rfl)
              try (case a4 => rfl)
              go_roundw
              case rel => exact ⟨k + 1, by omega, by go_num, own9, hb9⟩
              case measure => simp [intOf]; omega
            · clear htake hfd
              go_wp2_with fail
              go_quiet (fail)
              obtain ⟨vc0, vc1, gg, cc, w9, hrun, own9, hb9⟩ := hEnd.out wr nq ((lk : Int)) (f) hbq.out hrow.out hvia.out
              replace own9 := Lib.hid own9
              replace hb9 := Lib.hid hb9
              go_wp2_with (at_builtin; refine wpList_append_run ?a1 (.tmp 144) (.tmp 146) 46 ?a2 ?a3 ?a4 hrun ?_)
              case a1 => rfl
              case a2 => rfl
              try (case a3 => rfl)
              try (case a4 => rfl)
              go_roundw
              case rel => exact ⟨k + 1, by omega, by go_num, own9, hb9⟩
              case measure => simp [intOf]; omega
          have m0 : wr.cell? ⟨vb, 0, none⟩ = some (.int .i64 (-1)) := by rw [cell_of_row _ _ _ _ _ _ hrow.out]; rfl
          by_cases hlti : i < m
          rotate_left
          · have hvia : Hid (viaF N X E k = (-1, 0)) := viaF_none (by rw [← htake.out (by omega)]; exact hno.out)
            clear htake hno
            go_wp2_with fail
            go_quiet (fail)
            obtain ⟨vc0, vc1, gg, cc, w9, hrun, own9, hb9⟩ := hEnd.out wr nq (-1) (0) hbq.out hrow.out hvia.out
            replace own9 := Lib.hid own9
            replace hb9 := Lib.hid hb9
            go_wp2_with (at_builtin; refine wpList_append_run ?a1 (.tmp 144) (.tmp 146) 46 ?a2 ?a3 ?a4 hrun ?_)
            case a1 => rfl
            case a2 => rfl
            try (case a3 => rfl)
            try (case a4 => rfl)
            go_roundw
            case rel => exact ⟨k + 1, by omega, by go_num, own9, hb9⟩
            case measure => simp [intOf]; omega
          by_cases htt : t < ta
          rotate_left
          · have e1 : decide (t < ta) = false := decide_eq_false htt
            have hvia : Hid (viaF N X E k = (-1, 0)) := viaF_same (by rw [hDk.out, hAk.out]; omega)
            have hltI : (i : Int) < (m : Int) := by omega
            clear htake hno
            go_wp2_with fail
            go_quiet (fail)
            obtain ⟨vc0, vc1, gg, cc, w9, hrun, own9, hb9⟩ := hEnd.out wr nq (-1) (0) hbq.out hrow.out hvia.out
            replace own9 := Lib.hid own9
            replace hb9 := Lib.hid hb9
            go_wp2_with (at_builtin; refine wpList_append_run ?a1 (.tmp 144) (.tmp 146) 46 ?a2 ?a3 ?a4 hrun ?_)
            case a1 => rfl
            case a2 => rfl
            try (case a3 => rfl)
            try (case a4 => rfl)
            go_roundw
            case rel => exact ⟨k + 1, by omega, by go_num, own9, hb9⟩
            case measure => simp [intOf]; omega
          have e1 : decide (t < ta) = true := decide_eq_true htt
          have httH : Hid (t ≠ ta) := by show _ ≠ _; omega
          clear htake hEnd
          obtain ⟨l, hl, b, o, pA, pn, pc, kA, kn, kc, rfl, hbl, _, _, c0, c1, c2, c3, c4, c5', c6⟩ := (hR.out.below hbw.out).lnk hlti
          have hlm := List.mem_of_getElem? hl
          obtain ⟨⟨la0, la1⟩, ⟨lb0, lb1⟩, _⟩ := okL_iff.1 (hN.out.lk l hlm)
          have hnn' := hnn.out
          obtain ⟨a', ha'⟩ : ∃ a' : Nat, l.a = a' := ⟨l.a.toNat, by omega⟩
          obtain ⟨b', hb'⟩ : ∃ b' : Nat, l.b = b' := ⟨l.b.toNat, by omega⟩
          have han : a' < n := by omega
          have hbn' : b' < n := by omega
          have hltI : (i : Int) < (m : Int) := by omega
          have hanI : (a' : Int) < (n : Int) := by omega
          have hbnI : (b' : Int) < (n : Int) := by omega
          rw [ha'] at c0
          rw [hb'] at c1
          have hboq := Lib.hid (hbok.out.trans (hbq.out.mono hbok.out.size))
          obtain ⟨b9, o9, x, he9, hbx, hDa, hcx⟩ := (hRo.out.below hboq.out).num han
          cases he9
          have hDaH : Hid (lab E a' = x) := lab_at hDa
          have hlA : Hid (l.a.toNat = a') := by show _ = _; rw [ha']; rfl
          have hlB : Hid (l.b = (b' : Int)) := hb'
          have hnoS : Hid (¬ ((b' : Int) = (k : Int) ∧ x ≠ W.inf ∧ toL N l x = t) → viaP N E k l = false) := fun h => viaP_no (by rw [hlA.out, hlB.out, hDaH.out, hDk.out]; exact h)
          have hyes : Hid ((b' : Int) = (k : Int) → x ≠ W.inf → toL N l x = t → viaF N X E k = ((i : Int), firstL N l x)) := fun h1 h2 h3 => by
            have := viaF_some (arr := X) (D := E) (s := k) (by rw [hDk.out, hAk.out]; exact httH.out) hl (viaP_iff.2 ⟨by rw [hlB.out]; exact h1, by rw [hlA.out, hDaH.out]; exact h2, by rw [hlA.out, hDaH.out, hDk.out]; exact h3⟩) hno.out
            rw [this, hlA.out, hDaH.out]
          have hnx : Hid (viaP N E k l = false → ∀ y ∈ N.ls.take (i + 1), viaP N E k y = false) := fun h => take_no hl hno.out h
          have hta : Hid (x ≠ W.inf → W.chk x = 0) := fun h => by
            have h1 := hKH.out.fin (s := a') (by rw [hDaH.out]; exact h)
            rw [hDaH.out] at h1
            have := hN.out.hz
            exact W.chk_ok ⟨h1.1, by omega⟩
          have hFF := Lib.hid (fun h => hF.out i l x hl (hta.out h))
          obtain ⟨fF, hfF⟩ : ∃ q, firstL N l x = q := ⟨_, rfl⟩
          obtain ⟨tT, htT⟩ : ∃ q, toL N l x = q := ⟨_, rfl⟩
          rw [hfF, htT] at hFF
          rw [htT] at hnoS hyes
          rw [hfF] at hyes
          obtain ⟨la, lb, ln, ld, lo, op, cl⟩ := l
          simp only at c0 c1 c2 c3 c4
          clear hl hlm la0 la1 lb0 lb1 ha' hb' hnn' hfF htT hta hDa hno hlA hlB
          go_wp2_with fail
          go_quiet (fail)
          obtain ⟨wz, hwz⟩ : ∃ q, q = wr.drewN nq := ⟨_, rfl⟩
          have hzr : Below wr.heap.size wr wz := by rw [hwz]; exact below_drewQ (Below.refl _ _) _
          rw [← hwz]
          have hbqz := Lib.hid (hbq.out.trans (hzr.mono hbq.out.size))
          have hrowz := Lib.hid ((hzr.block vb (Array.getElem?_eq_some_iff.1 hrow.out).1).trans hrow.out)
          have k0 := (hzr.cell (p := ⟨b, _, none⟩) hbl).trans c0
          have k1 := (hzr.cell (p := ⟨b, _, none⟩) hbl).trans c1
          have k2 := (hzr.cell (p := ⟨b, _, none⟩) hbl).trans c2
          have k3 := (hzr.cell (p := ⟨b, _, none⟩) hbl).trans c3
          have k4 := (hzr.cell (p := ⟨b, _, none⟩) hbl).trans c4
          have k5 := (hzr.cell (p := ⟨b, _, none⟩) hbl).trans c5'
          have k6 := (hzr.cell (p := ⟨b, _, none⟩) hbl).trans c6
          have hcxz := (hzr.cell (p := ⟨bo, _, none⟩) hbx).trans hcx
          have hctz := (hzr.cell (p := ⟨bo, _, none⟩) hbx).trans ct
          have hbxz := Nat.lt_of_lt_of_le hbx hzr.size
          have hbwz := Lib.hid (hbw.out.trans (hzr.mono hbw.out.size))
          clear hzr hwz c0 c1 c2 c3 c4 c5' c6 hcx ct ca' m0 hbx hbl y0 y1 y2 hrow hbq hbw hboq
          obtain ⟨y0, y1, y2⟩ := hX.out _ hbwz.out
          obtain ⟨d0, d1', d2, d3, d4, d5, d6⟩ := rowBx7 wz 38 (.int .i64 (a' : Int)) (.int .i64 (b' : Int)) (.int .i64 ln) (.bool ld) (.int .i64 lo) (.slice pA pn pc) (.slice kA kn kc)
          have hb9 : Below wz.heap.size wz (wz.alloc (.cells #[.int .i64 (a' : Int), .int .i64 (b' : Int), .int .i64 ln, .bool ld, .int .i64 lo, .slice pA pn pc, .slice kA kn kc] 38)) := (Below.refl _ wz).alloc (Nat.le_refl _) _
          have hbl9 : wz.heap.size < (wz.alloc (.cells #[.int .i64 (a' : Int), .int .i64 (b' : Int), .int .i64 ln, .bool ld, .int .i64 lo, .slice pA pn pc, .slice kA kn kc] 38)).heap.size := by simp
          obtain ⟨z0, z1, z2⟩ := hX.out _ (hbwz.out.trans (hb9.mono hbwz.out.size))
          obtain ⟨w9, hw9⟩ : ∃ q, wz.alloc (.cells #[.int .i64 (a' : Int), .int .i64 (b' : Int), .int .i64 ln, .bool ld, .int .i64 lo, .slice pA pn pc, .slice kA kn kc] 38) = q := ⟨_, rfl⟩
          rw [hw9] at d0 d1' d2 d3 d4 d5 d6 hb9 hbl9 z0 z1 z2
          obtain ⟨bl, hbl'⟩ : ∃ q, wz.heap.size = q := ⟨_, rfl⟩
          rw [hbl'] at d0 d1' d2 d3 d4 d5 d6 hbl9
          have hbn9 : bn < w9.heap.size := by have := hbwz.out.size; have := hb9.size; omega
          have hb9h := Lib.hid hb9
          have fa9 := (hb9.cell (p := ⟨bo, _, none⟩) hbxz).trans hcxz
          have ft9 := (hb9.cell (p := ⟨bo, _, none⟩) hbxz).trans hctz
          have hbD9 : bo < w9.heap.size := Nat.lt_of_lt_of_le hbxz hb9.size
          have hbx := Lib.hid (hbqz.out.trans (hb9.mono hbqz.out.size))
          have hrow9 := Lib.hid ((hb9.block vb (Array.getElem?_eq_some_iff.1 hrowz.out).1).trans hrowz.out)
          clear hb9 hcxz hctz hbqz hrowz
          by_cases q0 : b' = k
          rotate_left
          · have e2 : ((b' : Int) != (k : Int)) = true := by simp; omega
            have hnx2 := Lib.hid (hnx.out (hnoS.out (fun h => q0 (by omega))))
            clear hnx hnoS hyes hFF
            go_wp2_with fail
            go_roundw
            case rel => exact ⟨i + 1, by omega, by go_num, hbx, .inl ⟨hrow9, hnx2⟩⟩
            case measure => simp [intOf]; omega
          have e2 : ((b' : Int) != (k : Int)) = false := by simp [q0]
          by_cases q1 : x = W.inf
          · have e3 : (x == 4611686018427387904) = true := by rw [q1]; rfl
            have hnx2 := Lib.hid (hnx.out (hnoS.out (fun h => h.2.1 q1)))
            clear hnx hnoS hyes hFF q1 q0
            go_wp2_with fail
            go_roundw
            case rel => exact ⟨i + 1, by omega, by go_num, hbx, .inl ⟨hrow9, hnx2⟩⟩
            case measure => simp [intOf]; omega
          have e3 : (x == 4611686018427387904) = false := by simp only [beq_eq_false_iff_ne, ne_eq]; exact q1
          have hF2 : Hid (∀ U, Below wz.heap.size wz U → Calls Try.prog 30 #[.agg #[.int .i64 hz, .slice A n c, .slice (some ⟨b, o, none⟩) m d], .int .i64 (i : Int), .int .i64 x] U fun e w' => e = .returned (.tuple #[.int .i64 fF, .int .i64 tT]) ∧ Below U.heap.size U w') := fun U hU => hFF.out q1 U (hbwz.out.trans (hU.mono hbwz.out.size))
          have hyes2 := Lib.hid (hyes.out (by omega) q1)
          have hno2 : Hid (tT ≠ t → viaP N E k ⟨la, lb, ln, ld, lo, op, cl⟩ = false) := fun h => hnoS.out fun h2 => h h2.2.2
          clear hyes hnoS hFF q1 q0
          go_upto_region 26 with fail
          refine wp_region_below w9.heap.size (by kernel_rfl) (by kernel_rfl) ?_
          intro C hC
          repeat (go_big_quiet_step (first
            | ((intro _; with_reducible rfl))
            | (intro hc; have m0 := (hc.cell (p := ⟨bn, _, none⟩) hbn9).trans z0; have m1 := (hc.cell (p := ⟨bn, _, none⟩) hbn9).trans z1; have m2 := (hc.cell (p := ⟨bn, _, none⟩) hbn9).trans z2; simp only [m0, m1, m2, Result.andThen]; exact ⟨trivial, rfl⟩)
            | (intro hc; have m0 := (hc.cell (p := ⟨bl, _, none⟩) hbl9).trans d0; simp only [m0, Result.andThen]; exact ⟨trivial, rfl⟩)
            | (intro hc; have m0 := (hc.cell (p := ⟨bo, _, none⟩) hbD9).trans fa9; simp only [m0, Result.andThen]; exact ⟨trivial, rfl⟩)
            | (intro hc; with_reducible refine (hF2.out _ (hb9h.out.trans (hc.mono hb9h.out.size))).mono ?_; rintro e w'' ⟨rfl, hb⟩; exact ⟨rfl, hc.trans (hb.mono hc.size)⟩)))
          refine wpQuiet_nil ?_
          intro w10 hb10
          clear hC
          clear hw9 hbl'
          replace ft9 := (hb10.cell (p := ⟨bo, _, none⟩) hbD9).trans ft9
          have hbx2 := Lib.hid (hbx.out.trans (hb10.mono hbx.out.size))
          have hrow10 := (hb10.block vb (Array.getElem?_eq_some_iff.1 hrow9.out).1).trans hrow9.out
          obtain ⟨p0, p1, f0, f1, hnew⟩ := row2_set (.int .i64 (i : Int)) (.int .i64 fF) hrow10
          have hvge : wk.heap.size ≤ vb := Nat.le_of_eq hvbH.out
          have hbx3 := Lib.hid ((hbx2.out.setCell (p := ⟨vb, 0, none⟩) hvge (.int .i64 (i : Int))).setCell (p := ⟨vb, 1, none⟩) hvge (.int .i64 fF))
          have hnewH := Lib.hid hnew
          have hrow10H := Lib.hid hrow10
          clear hrow10 hnew
          by_cases q2 : tT = t
          · have e4 : (tT == t) = true := by simp [q2]
            have hvia : Hid (t ≠ ta ∧ viaF N X E k = ((i : Int), fF)) := ⟨httH.out, hyes2.out q2⟩
            clear hno2 hyes2 q2 hnx hrow10H
            go_wp2_with fail
            go_roundw
            case rel => exact ⟨i + 1, by omega, by go_num, hbx3, .inr ⟨i, fF, hnewH, hvia⟩⟩
            case measure => simp [intOf]; omega
          · have e4 : (tT == t) = false := by simp [q2]
            have hnx2 := Lib.hid (hnx.out (hno2.out q2))
            clear hno2 hyes2 q2 hnx hnewH p0 p1 f0 f1 hbx3
            go_wp2_with fail
            go_roundw
            case rel => exact ⟨i + 1, by omega, by go_num, hbx2, .inl ⟨hrow10H, hnx2⟩⟩
            case measure => simp [intOf]; omega
end Go.Proofs.Ytonkkibnigdfbaa
