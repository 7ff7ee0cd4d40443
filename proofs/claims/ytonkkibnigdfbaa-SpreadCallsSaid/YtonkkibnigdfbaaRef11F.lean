/-
  Walks: the document's answers on links: May1, May, First (gen9.py).
-/
import Derived.Test.YtonkkibnigdfbaaRef11S
namespace Go.Proofs.Ytonkkibnigdfbaa
open Go.RowKit Go.Shelf B K
set_option linter.unusedVariables false
set_option linter.unusedSimpArgs false
set_option maxHeartbeats 4000000
theorem mayL_val (N : NetP) (l : Lk) (t : Int) {hz : Int} (hhz : N.hz = hz) {S : W.Row} (hS : shutL N l = S) : mayL N l t = (decide (l.len ≤ hz) && decide (t ≤ hz - l.len) && !W.has S t && (if l.door then W.has l.op t else decide (W.gap l.cl t l.len = t))) := by
  unfold mayL; rw [hhz, hS]
set_option maxRecDepth 100000 in
theorem rmay1_any {N : NetP} {A B : Option Addr} {n c m d : Nat} (hs : Small N) (hN : OkN N) {l : Lk} (hl : l ∈ N.ls) (pA : Option Addr) (pn pc : Nat) (kA : Option Addr) (kn kc : Nat) (t : Int) (w : World) (hr : RNet w N A n B m) (ro : Rd w 2 pairE pA pn l.op) (rk : Rd w 2 pairE kA kn l.cl) :
    Calls Try.prog 64 #[.agg #[.int .i64 N.hz, .slice A n c, .slice B m d], .agg #[.int .i64 l.a, .int .i64 l.b, .int .i64 l.len, .bool l.door, .int .i64 l.no, .slice pA pn pc, .slice kA kn kc], .int .i64 t] w fun e w' => e = .returned (.bool (mayL N l t)) ∧ Below w.heap.size w w' := by
  obtain ⟨hz, hhz⟩ : ∃ q, N.hz = q := ⟨_, rfl⟩
  have hzr := hN.hz
  obtain ⟨⟨la0, la1⟩, _, _, ln0, ln1, _⟩ := okL_iff.1 (hN.lk l hl)
  have hlw := hs.lw l hl
  obtain ⟨a', ha'⟩ : ∃ a' : Nat, l.a = a' := ⟨l.a.toNat, by omega⟩
  have han : a' < n := by have := hr.nn; omega
  obtain ⟨b, o, sA, sn, sc, S, rfl, hbs, hx, c0, rs, _⟩ := hr.clo han
  have hS : shutL N l = S := by unfold shutL; rw [show l.a.toNat = a' by omega, hx]; rfl
  have hmv := mayL_val N l t hhz hS
  obtain ⟨r, hrr⟩ : ∃ q, mayL N l t = q := ⟨_, rfl⟩
  rw [hrr] at hmv ⊢
  have hsw := hs.cw S (List.mem_of_getElem? hx)
  have hS1 : sn ≤ 1000 := by have := rs.len; omega
  have hP1 : pn ≤ 1000 := by have := ro.len; omega
  have hK1 : kn ≤ 1000 := by have := rk.len; omega
  obtain ⟨la, lb, ln, ld, lo, op, cl⟩ := l
  simp only at ha' hmv ln0 ln1 ro rk
  subst ha'
  rw [hhz] at hzr ⊢
  have hmvH := Lib.hid hmv
  clear hmv hrr hS hlw hsw hx hl la0 la1
  obtain ⟨x0, x1, x2⟩ := rowBx3 w 25 (.int .i64 hz) (.slice (some ⟨b, o, none⟩) n c) (.slice B m d)
  have hb1 : Below w.heap.size w (w.alloc (.cells #[.int .i64 hz, .slice (some ⟨b, o, none⟩) n c, .slice B m d] 25)) := (Below.refl _ w).alloc (Nat.le_refl _) _
  have hbn1 : w.heap.size < (w.alloc (.cells #[.int .i64 hz, .slice (some ⟨b, o, none⟩) n c, .slice B m d] 25)).heap.size := by simp
  have c1 := (hb1.cell (p := ⟨b, o + a', none⟩) hbs).trans c0
  obtain ⟨w1, hw1⟩ : ∃ q, w.alloc (.cells #[.int .i64 hz, .slice (some ⟨b, o, none⟩) n c, .slice B m d] 25) = q := ⟨_, rfl⟩
  rw [hw1] at hb1 x0 x1 x2 hbn1 c1
  obtain ⟨bn, hbn⟩ : ∃ q, w.heap.size = q := ⟨_, rfl⟩
  rw [hbn] at x0 x1 x2 hbn1
  have hbs1 : b < w1.heap.size := Nat.lt_of_lt_of_le hbs hb1.size
  obtain ⟨d0, d1, d2, d3, d4, d5, d6⟩ := rowBx7 w1 38 (.int .i64 (a' : Int)) (.int .i64 lb) (.int .i64 ln) (.bool ld) (.int .i64 lo) (.slice pA pn pc) (.slice kA kn kc)
  have hb2 : Below w1.heap.size w1 (w1.alloc (.cells #[.int .i64 (a' : Int), .int .i64 lb, .int .i64 ln, .bool ld, .int .i64 lo, .slice pA pn pc, .slice kA kn kc] 38)) := (Below.refl _ w1).alloc (Nat.le_refl _) _
  have hbl2 : w1.heap.size < (w1.alloc (.cells #[.int .i64 (a' : Int), .int .i64 lb, .int .i64 ln, .bool ld, .int .i64 lo, .slice pA pn pc, .slice kA kn kc] 38)).heap.size := by simp
  have y0 := (hb2.cell (p := ⟨bn, 0, none⟩) hbn1).trans x0
  have y1 := (hb2.cell (p := ⟨bn, 1, none⟩) hbn1).trans x1
  have y2 := (hb2.cell (p := ⟨bn, 2, none⟩) hbn1).trans x2
  have c2 := (hb2.cell (p := ⟨b, o + a', none⟩) hbs1).trans c1
  obtain ⟨w2, hw2⟩ : ∃ q, w1.alloc (.cells #[.int .i64 (a' : Int), .int .i64 lb, .int .i64 ln, .bool ld, .int .i64 lo, .slice pA pn pc, .slice kA kn kc] 38) = q := ⟨_, rfl⟩
  rw [hw2] at hb2 d0 d1 d2 d3 d4 d5 d6 hbl2 y0 y1 y2 c2
  have hb02 := hb1.trans (hb2.mono hb1.size)
  have rs2 := rs.below hb02
  have ro2 := ro.below hb02
  have rk2 := rk.below hb02
  obtain ⟨bl, hbl⟩ : ∃ q, w1.heap.size = q := ⟨_, rfl⟩
  rw [hbl] at d0 d1 d2 d3 d4 d5 d6 hbl2
  have hrange : 0 ≤ hz ∧ hz ≤ 1099511627776 := hzr
  have kS := Lib.hid (rhas_any sA sn sc S t w2 rs2 (by omega))
  have hup : Hid (∀ U, Below w2.heap.size w2 U → Below w.heap.size w U) := fun U h => hb02.trans (h.mono hb02.size)
  have hro := Lib.hid ro2
  have hrk := Lib.hid rk2
  clear hb1 hb2 c0 c1 x0 x1 x2 hr rs rs2 ro ro2 rk rk2 hb02 hN hs hbs hbs1 hbn1
  have hanI : (a' : Int) < (n : Int) := by omega
  by_cases q1 : hz < ln
  · have e1 : decide (hz < ln) = true := decide_eq_true q1
    obtain rfl : r = false := by rw [hmvH.out, decide_eq_false (by omega : ¬ ln ≤ hz)]; rfl
    clear hmvH
    go_enter Try.func64, Try.ntmps64
    go_wp2_with fail
    go_returns
    exact ⟨rfl, by rw [← hbn]; exact hup.out _ (Below.refl _ _)⟩
  have e1 : decide (hz < ln) = false := decide_eq_false q1
  by_cases q2 : hz - ln < t
  · have e2 : decide (hz - ln < t) = true := decide_eq_true q2
    obtain rfl : r = false := by rw [hmvH.out, decide_eq_false (by omega : ¬ t ≤ hz - ln)]; simp
    clear hmvH
    go_enter Try.func64, Try.ntmps64
    go_wp2_with fail
    go_returns
    exact ⟨rfl, by rw [← hbn]; exact hup.out _ (Below.refl _ _)⟩
  have e2 : decide (hz - ln < t) = false := decide_eq_false q2
  have hmv2 : Hid (r = (!W.has S t && (if ld then W.has op t else decide (W.gap cl t ln = t)))) := by
    show _ = _
    rw [hmvH.out, decide_eq_true (by omega : ln ≤ hz), decide_eq_true (by omega : t ≤ hz - ln)]; rfl
  clear hmvH
  cases hq3 : W.has S t with
  | true =>
    rw [hq3] at kS
    obtain rfl : r = false := by rw [hmv2.out, hq3]; rfl
    clear hmv2 hq3
    go_enter Try.func64, Try.ntmps64
    go_wp2_with fail
    refine kS.out.mono ?_; rintro e w3 ⟨rfl, hb3⟩
    go_wp2_with fail
    go_returns
    exact ⟨rfl, hup.out _ hb3⟩
  | false =>
    rw [hq3] at kS
    have hmv3 : Hid (r = (if ld then W.has op t else decide (W.gap cl t ln = t))) := by
      show _ = _
      rw [hmv2.out, hq3]; rfl
    clear hmv2 hq3
    cases ld with
    | true =>
      have hv : Hid (r = W.has op t) := hmv3.out
      clear hmv3
      go_enter Try.func64, Try.ntmps64
      go_wp2_with fail
      refine kS.out.mono ?_; rintro e w3 ⟨rfl, hb3⟩
      have m0 := (hb3.cell (p := ⟨bl, 0, none⟩) hbl2).trans d0
      have m3 := (hb3.cell (p := ⟨bl, 3, none⟩) hbl2).trans d3
      have m5 := (hb3.cell (p := ⟨bl, 5, none⟩) hbl2).trans d5
      have kO := Lib.hid (rhas_any pA pn pc op t w3 (hro.out.below hb3) (by omega))
      rw [← hv.out] at kO
      go_wp2_with fail
      refine kO.out.mono ?_; rintro e w4 ⟨rfl, hb4⟩
      go_wp2_with fail
      go_returns
      exact ⟨rfl, hup.out _ (hb3.trans (hb4.mono hb3.size))⟩
    | false =>
      have hv : Hid (r = decide (W.gap cl t ln = t)) := hmv3.out
      clear hmv3
      obtain ⟨g, hg⟩ : ∃ q, W.gap cl t ln = q := ⟨_, rfl⟩
      rw [hg] at hv
      have hgH := Lib.hid hg
      clear hg
      go_enter Try.func64, Try.ntmps64
      go_wp2_with fail
      refine kS.out.mono ?_; rintro e w3 ⟨rfl, hb3⟩
      have m2 := (hb3.cell (p := ⟨bl, 2, none⟩) hbl2).trans d2
      have m3 := (hb3.cell (p := ⟨bl, 3, none⟩) hbl2).trans d3
      have m6 := (hb3.cell (p := ⟨bl, 6, none⟩) hbl2).trans d6
      have kO := Lib.hid (rgap_any kA kn kc cl t ln w3 (hrk.out.below hb3) (by omega))
      rw [hgH.out] at kO
      go_wp2_with fail
      refine kO.out.mono ?_; rintro e w4 ⟨rfl, hb4⟩
      go_wp2_with fail
      go_returns
      exact ⟨ret_bool (by rw [hv.out]; by_cases h : g = t <;> simp [h]), hup.out _ (hb3.trans (hb4.mono hb3.size))⟩
set_option maxRecDepth 100000 in
theorem rmay_ok {N : NetP} {A B : Option Addr} {n c m d : Nat} (hs : Small N) (hN : OkN N) {i : Nat} {l : Lk} (hl : N.ls[i]? = some l) (t : Int) (ht : 0 ≤ t) (w : World) (hr : RNet w N A n B m) :
    Calls Try.prog 31 #[.agg #[.int .i64 N.hz, .slice A n c, .slice B m d], .int .i64 (i : Int), .int .i64 t] w fun e w' => e = .returned (.bool (mayL N l t)) ∧ Below w.heap.size w w' := by
  have him : i < m := by have := hr.mm; have := (List.getElem?_eq_some_iff.1 hl).1; omega
  have hCk : Hid (∀ U, RNet U N A n B m → Calls Try.prog 18 #[.agg #[.int .i64 N.hz, .slice A n c, .slice B m d]] U fun e w' => e = .returned (.int .i64 0) ∧ Below U.heap.size U w') := fun U hU => by
    have := r11check_any (c := c) (d := d) hs U hU
    rwa [chkN_iff.2 hN] at this
  have hM1 : Hid (∀ U (pA : Option Addr) (pn pc : Nat) (kA : Option Addr) (kn kc : Nat), RNet U N A n B m → Rd U 2 pairE pA pn l.op → Rd U 2 pairE kA kn l.cl → Calls Try.prog 64 #[.agg #[.int .i64 N.hz, .slice A n c, .slice B m d], .agg #[.int .i64 l.a, .int .i64 l.b, .int .i64 l.len, .bool l.door, .int .i64 l.no, .slice pA pn pc, .slice kA kn kc], .int .i64 t] U fun e w' => e = .returned (.bool (mayL N l t)) ∧ Below U.heap.size U w') := fun U pA pn pc kA kn kc hU ho hk =>
    rmay1_any hs hN (List.mem_of_getElem? hl) pA pn pc kA kn kc t U hU ho hk
  obtain ⟨hz, hhz⟩ : ∃ q, N.hz = q := ⟨_, rfl⟩
  rw [hhz] at hCk hM1 ⊢
  have hm1 : m ≤ 1000 := by have := hs.ln; have := hr.mm; omega
  obtain ⟨l', hl', b, o, pA, pn, pc, kA, kn, kc, rfl, hbl, ⟨ro, _⟩, ⟨rk, _⟩, c0, c1, c2, c3, c4, c5, c6⟩ := hr.lnk him
  rw [hl] at hl'; cases hl'
  obtain ⟨r, hrr⟩ : ∃ q, mayL N l t = q := ⟨_, rfl⟩
  rw [hrr] at hM1 ⊢
  obtain ⟨x0, x1, x2⟩ := rowBx3 w 25 (.int .i64 hz) (.slice A n c) (.slice (some ⟨b, o, none⟩) m d)
  have hb1 : Below w.heap.size w (w.alloc (.cells #[.int .i64 hz, .slice A n c, .slice (some ⟨b, o, none⟩) m d] 25)) := (Below.refl _ w).alloc (Nat.le_refl _) _
  have hbn1 : w.heap.size < (w.alloc (.cells #[.int .i64 hz, .slice A n c, .slice (some ⟨b, o, none⟩) m d] 25)).heap.size := by simp
  obtain ⟨w1, hw1⟩ : ∃ q, w.alloc (.cells #[.int .i64 hz, .slice A n c, .slice (some ⟨b, o, none⟩) m d] 25) = q := ⟨_, rfl⟩
  rw [hw1] at hb1 x0 x1 x2 hbn1
  have hup : Hid (∀ w2, Below w1.heap.size w1 w2 → Below w.heap.size w w2) := fun w2 h => hb1.trans (h.mono hb1.size)
  obtain ⟨bn, hbn⟩ : ∃ q, w.heap.size = q := ⟨_, rfl⟩
  rw [hbn] at x0 x1 x2 hbn1
  have hR := Lib.hid (hr.below hb1)
  have ro1 := Lib.hid (ro.below hb1)
  have rk1 := Lib.hid (rk.below hb1)
  have hbl1 : b < w1.heap.size := Nat.lt_of_lt_of_le hbl hb1.size
  have k0 := (hb1.cell (p := ⟨b, _, none⟩) hbl).trans c0
  have k1 := (hb1.cell (p := ⟨b, _, none⟩) hbl).trans c1
  have k2 := (hb1.cell (p := ⟨b, _, none⟩) hbl).trans c2
  have k3 := (hb1.cell (p := ⟨b, _, none⟩) hbl).trans c3
  have k4 := (hb1.cell (p := ⟨b, _, none⟩) hbl).trans c4
  have k5 := (hb1.cell (p := ⟨b, _, none⟩) hbl).trans c5
  have k6 := (hb1.cell (p := ⟨b, _, none⟩) hbl).trans c6
  obtain ⟨la, lb, ln, ld, lo, op, cl⟩ := l
  simp only at k0 k1 k2 k3 k4 ro1 rk1 hM1
  have g1 : decide ((0 : Int) ≤ (i : Int)) = true := decide_eq_true (by omega)
  have g1' : decide (0 ≤ i) = true := decide_eq_true (by omega)
  have g2 : decide ((i : Int) < (m : Int)) = true := decide_eq_true (by omega)
  have g2' : decide (i < m) = true := decide_eq_true (by omega)
  have g3 : decide (0 ≤ t) = true := decide_eq_true ht
  have hltI : (i : Int) < (m : Int) := by omega
  clear hl c0 c1 c2 c3 c4 c5 c6 ro rk hr hrr hhz hN hs hb1
  go_enter Try.func31, Try.ntmps31
  go_upto_region 1 with fail
  clear hw1
  have hbnH := Lib.hid hbn
  clear hbn
  refine wp_region_below w1.heap.size (by kernel_rfl) (by kernel_rfl) ?_
  intro C hC
  repeat (go_big_quiet_step (first
    | ((intro _; with_reducible rfl))
    | (intro hc; have m0 := (hc.cell (p := ⟨bn, 0, none⟩) hbn1).trans x0; have m1 := (hc.cell (p := ⟨bn, 1, none⟩) hbn1).trans x1; have m2 := (hc.cell (p := ⟨bn, 2, none⟩) hbn1).trans x2; simp only [m0, m1, m2, Result.andThen]; exact ⟨trivial, rfl⟩)
    | (intro hc; have m0 := (hc.cell (p := ⟨b, _, none⟩) hbl1).trans k0; have m1 := (hc.cell (p := ⟨b, _, none⟩) hbl1).trans k1; have m2 := (hc.cell (p := ⟨b, _, none⟩) hbl1).trans k2; have m3 := (hc.cell (p := ⟨b, _, none⟩) hbl1).trans k3; have m4 := (hc.cell (p := ⟨b, _, none⟩) hbl1).trans k4; have m5 := (hc.cell (p := ⟨b, _, none⟩) hbl1).trans k5; have m6 := (hc.cell (p := ⟨b, _, none⟩) hbl1).trans k6; simp only [m0, m1, m2, m3, m4, m5, m6, Result.andThen]; exact ⟨trivial, rfl⟩)
    | (intro hc; with_reducible refine (hCk.out _ (hR.out.below hc)).mono ?_; rintro e w'' ⟨rfl, hb⟩; exact ⟨rfl, hc.trans (hb.mono hc.size)⟩)
    | (intro hc; with_reducible refine (hM1.out _ _ _ _ _ _ _ (hR.out.below hc) (ro1.out.below hc) (rk1.out.below hc)).mono ?_; rintro e w'' ⟨rfl, hb⟩; exact ⟨rfl, hc.trans (hb.mono hc.size)⟩)))
  refine wpQuiet_nil ?_
  intro w4 hb4
  clear hC
  go_wp2_with fail
  go_returns
  exact ⟨rfl, hup.out _ hb4⟩
theorem pushI {B : Nat} {w wr : World} {v : Value} {l : List Int} (x : Int) (hown : wr.ownsRow B 2 1 v l.length (l.flatMap (numE .i64))) (hlen : l.length + 1 ≤ 1099511627776) (hb : Below B w wr) (hB : B ≤ wr.heap.size) :
    ∃ g c w1, (Builtin.append_ #[40, 40] 40 #[v, .slice (some ⟨wr.heap.size, 0, none⟩) 1 1]).run Try.prog (wr.alloc (.cells #[.int .i64 x] 2)) = .ok (.slice (some ⟨g, 0, none⟩) (l.length + 1) c) w1 ∧
      w1.ownsRow B 2 1 (.slice (some ⟨g, 0, none⟩) (l.length + 1) c) (l.length + 1) ((l ++ [x]).flatMap (numE .i64)) ∧ Below B w w1 := by
  obtain ⟨g, c, w1, h1, h2, h3, _⟩ := own_push (enc := numE .i64) Try.underlying40 infoT rfl (by decide) nume_len nume_one x hown hlen (by decide) hb hB 0
  exact ⟨g, c, w1, h1, h2, h3⟩
theorem own_one (w : World) (base : Nat) (x : Int) (hb : base ≤ w.heap.size) : (w.alloc (.cells #[.int .i64 x] 2)).ownsRow base 2 1 (.slice (some ⟨w.heap.size, 0, none⟩) 1 1) 1 ([x].flatMap (numE .i64)) :=
  ⟨by simp [numE], .inr ⟨w.heap.size, 1, _, rfl, hb, heap_alloc_new w _, Nat.le_refl _, by rw [maxLen_num]; omega, by simp, by simp [numE]⟩⟩
theorem fold_snoc {α β : Type} (f : β → α → β) (b : β) {l : List α} {k : Nat} {x : α} (hx : l[k]? = some x) : (l.take (k + 1)).foldl f b = f ((l.take k).foldl f b) x := by
  rw [take_at hx, List.foldl_append]; rfl
set_option maxRecDepth 100000 in
theorem rfirst_ok {N : NetP} {A B : Option Addr} {n c m d : Nat} (hs : Small N) (hN : OkN N) {i : Nat} {l : Lk} (hl : N.ls[i]? = some l) (t : Int) (htk : W.chk t = 0) (w : World) (hr : RNet w N A n B m) :
    Calls Try.prog 30 #[.agg #[.int .i64 N.hz, .slice A n c, .slice B m d], .int .i64 (i : Int), .int .i64 t] w fun e w' => e = .returned (.tuple #[.int .i64 (firstL N l t), .int .i64 (toL N l t)]) ∧ Below w.heap.size w w' := by
  have him : i < m := by have := hr.mm; have := (List.getElem?_eq_some_iff.1 hl).1; omega
  have hCk : Hid (∀ U, RNet U N A n B m → Calls Try.prog 18 #[.agg #[.int .i64 N.hz, .slice A n c, .slice B m d]] U fun e w' => e = .returned (.int .i64 0) ∧ Below U.heap.size U w') := fun U hU => by
    have := r11check_any (c := c) (d := d) hs U hU
    rwa [chkN_iff.2 hN] at this
  have hM1 : Hid (∀ (y : Int) U (pA : Option Addr) (pn pc : Nat) (kA : Option Addr) (kn kc : Nat), RNet U N A n B m → Rd U 2 pairE pA pn l.op → Rd U 2 pairE kA kn l.cl → Calls Try.prog 64 #[.agg #[.int .i64 N.hz, .slice A n c, .slice B m d], .agg #[.int .i64 l.a, .int .i64 l.b, .int .i64 l.len, .bool l.door, .int .i64 l.no, .slice pA pn pc, .slice kA kn kc], .int .i64 y] U fun e w' => e = .returned (.bool (mayL N l y)) ∧ Below U.heap.size U w') := fun y U pA pn pc kA kn kc hU ho hk =>
    rmay1_any hs hN (List.mem_of_getElem? hl) pA pn pc kA kn kc y U hU ho hk
  have hTk : Hid (∀ U, Calls Try.prog 51 #[.int .i64 t] U fun e w' => e = .returned (.int .i64 0) ∧ U = w') := fun U => by
    have := rchkW_any t U
    rwa [htk] at this
  have hzr := hN.hz
  have hlm := List.mem_of_getElem? hl
  obtain ⟨⟨la0, la1⟩, _, _, ln0, ln1, _⟩ := okL_iff.1 (hN.lk l hlm)
  have hlw := hs.lw l hlm
  obtain ⟨a', ha'⟩ : ∃ a' : Nat, l.a = a' := ⟨l.a.toNat, by omega⟩
  have han : a' < n := by have := hr.nn; omega
  obtain ⟨b2, o2, sA, sn, sc, S, rfl, hbs, hx, s0, rs, _⟩ := hr.clo han
  have hS : shutL N l = S := by unfold shutL; rw [show l.a.toNat = a' by omega, hx]; rfl
  have hsw := hs.cw S (List.mem_of_getElem? hx)
  have hm1 : m ≤ 1000 := by have := hs.ln; have := hr.mm; omega
  have hn1 : n ≤ 1000 := by have := hs.cn; have := hr.nn; omega
  obtain ⟨l', hl', b, o, pA, pn, pc, kA, kn, kc, rfl, hbl, ⟨ro, _⟩, ⟨rk, _⟩, c0, c1, c2, c3, c4, c5, c6⟩ := hr.lnk him
  rw [hl] at hl'; cases hl'
  have hS1 : sn ≤ 1000 := by have := rs.len; omega
  have hP1 : pn ≤ 1000 := by have := ro.len; omega
  have hK1 : kn ≤ 1000 := by have := rk.len; omega
  have hcand : Hid (candL N l t = t :: (S.map Prod.snd ++ l.op.map Prod.fst ++ l.cl.map Prod.snd)) := by show _ = _; unfold candL; rw [hS]
  have hfold : Hid (firstL N l t = (candL N l t).foldl (pickL N l t) W.inf) := rfl
  have htoL : Hid (toL N l t = if firstL N l t = W.inf then W.inf else firstL N l t + l.len) := rfl
  have hspec := Lib.hid (first_spec hN (hN.lk l hlm) (W.chk_zero htk).1)
  obtain ⟨fF, hfF⟩ : ∃ q, firstL N l t = q := ⟨_, rfl⟩
  obtain ⟨tT, htT⟩ : ∃ q, toL N l t = q := ⟨_, rfl⟩
  rw [hfF, htT]
  rw [hfF] at hfold htoL
  rw [htT] at htoL
  have hfin : Hid (fF = W.inf ∨ (0 ≤ fF ∧ fF + l.len ≤ N.hz)) := by
    have := hspec.out
    rw [hfF] at this
    rcases this with h | h
    · exact .inl h.1
    · exact .inr ⟨Int.le_trans (W.chk_zero htk).1 h.1, h.2.1⟩
  obtain ⟨hz, hhz⟩ : ∃ q, N.hz = q := ⟨_, rfl⟩
  rw [hhz] at hCk hM1 hzr hfin ⊢
  obtain ⟨x0, x1, x2⟩ := rowBx3 w 25 (.int .i64 hz) (.slice (some ⟨b2, o2, none⟩) n c) (.slice (some ⟨b, o, none⟩) m d)
  have hb1 : Below w.heap.size w (w.alloc (.cells #[.int .i64 hz, .slice (some ⟨b2, o2, none⟩) n c, .slice (some ⟨b, o, none⟩) m d] 25)) := (Below.refl _ w).alloc (Nat.le_refl _) _
  have hbn1 : w.heap.size < (w.alloc (.cells #[.int .i64 hz, .slice (some ⟨b2, o2, none⟩) n c, .slice (some ⟨b, o, none⟩) m d] 25)).heap.size := by simp
  obtain ⟨w1, hw1⟩ : ∃ q, w.alloc (.cells #[.int .i64 hz, .slice (some ⟨b2, o2, none⟩) n c, .slice (some ⟨b, o, none⟩) m d] 25) = q := ⟨_, rfl⟩
  rw [hw1] at hb1 x0 x1 x2 hbn1
  have hup : Hid (∀ w2, Below w1.heap.size w1 w2 → Below w.heap.size w w2) := fun w2 h => hb1.trans (h.mono hb1.size)
  obtain ⟨bn, hbn⟩ : ∃ q, w.heap.size = q := ⟨_, rfl⟩
  rw [hbn] at x0 x1 x2 hbn1
  have hR := Lib.hid (hr.below hb1)
  have ro1 := Lib.hid (ro.below hb1)
  have rk1 := Lib.hid (rk.below hb1)
  have rs1 := Lib.hid (rs.below hb1)
  have hbl1 : b < w1.heap.size := Nat.lt_of_lt_of_le hbl hb1.size
  have hbs1 : b2 < w1.heap.size := Nat.lt_of_lt_of_le hbs hb1.size
  have k0 := (hb1.cell (p := ⟨b, _, none⟩) hbl).trans c0
  have k1 := (hb1.cell (p := ⟨b, _, none⟩) hbl).trans c1
  have k2 := (hb1.cell (p := ⟨b, _, none⟩) hbl).trans c2
  have k3 := (hb1.cell (p := ⟨b, _, none⟩) hbl).trans c3
  have k4 := (hb1.cell (p := ⟨b, _, none⟩) hbl).trans c4
  have k5 := (hb1.cell (p := ⟨b, _, none⟩) hbl).trans c5
  have k6 := (hb1.cell (p := ⟨b, _, none⟩) hbl).trans c6
  have r0 := (hb1.cell (p := ⟨b2, _, none⟩) hbs).trans s0
  have hpick : Hid (∀ bst y, pickL N l t bst y = if t ≤ y ∧ y < bst ∧ mayL N l y = true then y else bst) := fun _ _ => rfl
  obtain ⟨la, lb, ln, ld, lo, op, cl⟩ := l
  simp only at k0 k1 k2 k3 k4 ro1 rk1 hM1 hcand htoL ha' ln0 ln1 hfin
  subst ha'
  obtain ⟨cand, hcd⟩ : ∃ q, candL N ⟨a', lb, ln, ld, lo, op, cl⟩ t = q := ⟨_, rfl⟩
  obtain ⟨pk, hpk⟩ : ∃ q, pickL N ⟨a', lb, ln, ld, lo, op, cl⟩ t = q := ⟨_, rfl⟩
  obtain ⟨my, hmy⟩ : ∃ q, mayL N ⟨a', lb, ln, ld, lo, op, cl⟩ = q := ⟨_, rfl⟩
  rw [hcd] at hcand hfold
  rw [hpk] at hfold hpick
  rw [hmy] at hpick hM1
  have g1 : decide ((i : Int) < 0) = false := decide_eq_false (by omega)
  have g1' : decide (i < 0) = false := decide_eq_false (by omega)
  have g2 : decide ((m : Int) ≤ (i : Int)) = false := decide_eq_false (by omega)
  have g2' : decide (m ≤ i) = false := decide_eq_false (by omega)
  have hltI : (i : Int) < (m : Int) := by omega
  have hanI : (a' : Int) < (n : Int) := by omega
  have hopl : Hid (op.length = pn) := ro.len
  have hcll : Hid (cl.length = kn) := rk.len
  have hSl : Hid (S.length = sn) := rs.len
  have hbnH := Lib.hid hbn
  clear hl c0 c1 c2 c3 c4 c5 c6 s0 ro rk rs hr hhz hN hs hb1 hfF htT hcd hpk hmy hspec hS hsw hx hlm hlw la0 la1 hbl hbs
  go_enter Try.func30, Try.ntmps30
  go_wp2_with fail
  refine (hCk.out _ hR.out).mono ?_; rintro e w2 ⟨rfl, hb2⟩
  clear hw1 hbn
  replace x0 := (hb2.cell (p := ⟨bn, 0, none⟩) hbn1).trans x0
  replace x1 := (hb2.cell (p := ⟨bn, 1, none⟩) hbn1).trans x1
  replace x2 := (hb2.cell (p := ⟨bn, 2, none⟩) hbn1).trans x2
  replace k0 := (hb2.cell (p := ⟨b, _, none⟩) hbl1).trans k0
  replace k1 := (hb2.cell (p := ⟨b, _, none⟩) hbl1).trans k1
  replace k2 := (hb2.cell (p := ⟨b, _, none⟩) hbl1).trans k2
  replace k3 := (hb2.cell (p := ⟨b, _, none⟩) hbl1).trans k3
  replace k4 := (hb2.cell (p := ⟨b, _, none⟩) hbl1).trans k4
  replace k5 := (hb2.cell (p := ⟨b, _, none⟩) hbl1).trans k5
  replace k6 := (hb2.cell (p := ⟨b, _, none⟩) hbl1).trans k6
  replace r0 := (hb2.cell (p := ⟨b2, _, none⟩) hbs1).trans r0
  have hbn2 : bn < w2.heap.size := Nat.lt_of_lt_of_le hbn1 hb2.size
  have hbs2 : b2 < w2.heap.size := Nat.lt_of_lt_of_le hbs1 hb2.size
  have hba2 : b < w2.heap.size := Nat.lt_of_lt_of_le hbl1 hb2.size
  obtain ⟨d0, d1, d2, d3, d4, d5, d6⟩ := rowBx7 w2 38 (.int .i64 (a' : Int)) (.int .i64 lb) (.int .i64 ln) (.bool ld) (.int .i64 lo) (.slice pA pn pc) (.slice kA kn kc)
  have hb3 : Below w2.heap.size w2 (w2.alloc (.cells #[.int .i64 (a' : Int), .int .i64 lb, .int .i64 ln, .bool ld, .int .i64 lo, .slice pA pn pc, .slice kA kn kc] 38)) := (Below.refl _ w2).alloc (Nat.le_refl _) _
  have hbl3 : w2.heap.size < (w2.alloc (.cells #[.int .i64 (a' : Int), .int .i64 lb, .int .i64 ln, .bool ld, .int .i64 lo, .slice pA pn pc, .slice kA kn kc] 38)).heap.size := by simp
  obtain ⟨w3, hw3⟩ : ∃ q, w2.alloc (.cells #[.int .i64 (a' : Int), .int .i64 lb, .int .i64 ln, .bool ld, .int .i64 lo, .slice pA pn pc, .slice kA kn kc] 38) = q := ⟨_, rfl⟩
  rw [hw3] at hb3 d0 d1 d2 d3 d4 d5 d6 hbl3
  obtain ⟨bl, hbl⟩ : ∃ q, w2.heap.size = q := ⟨_, rfl⟩
  rw [hbl] at d0 d1 d2 d3 d4 d5 d6 hbl3
  have hb13 := hb2.trans (hb3.mono hb2.size)
  have ro3 := Lib.hid (ro1.out.below hb13)
  have rk3 := Lib.hid (rk1.out.below hb13)
  have rs3 := Lib.hid (rs1.out.below hb13)
  have hR3 := Lib.hid (hR.out.below hb13)
  have hup3 : Hid (∀ U, Below w3.heap.size w3 U → Below w.heap.size w U) := fun U h => hup.out _ (hb13.trans (h.mono hb13.size))
  have hX : Hid (∀ U, Below w3.heap.size w3 U →
      (U.cell? ⟨bn, 0, none⟩ = some (.int .i64 hz) ∧ U.cell? ⟨bn, 1, none⟩ = some (.slice (some ⟨b2, o2, none⟩) n c) ∧ U.cell? ⟨bn, 2, none⟩ = some (.slice (some ⟨b, o, none⟩) m d)) ∧
      (U.cell? ⟨bl, 0, none⟩ = some (.int .i64 (a' : Int)) ∧ U.cell? ⟨bl, 1, none⟩ = some (.int .i64 lb) ∧ U.cell? ⟨bl, 2, none⟩ = some (.int .i64 ln) ∧ U.cell? ⟨bl, 3, none⟩ = some (.bool ld) ∧ U.cell? ⟨bl, 4, none⟩ = some (.int .i64 lo) ∧ U.cell? ⟨bl, 5, none⟩ = some (.slice pA pn pc) ∧ U.cell? ⟨bl, 6, none⟩ = some (.slice kA kn kc)) ∧
      U.cell? ⟨b2, o2 + a', none⟩ = some (.slice sA sn sc)) := fun U hU => by
    have q1 := fun (a : Nat) (v : Value) (h : w2.cell? ⟨bn, a, none⟩ = some v) => (hU.cell (p := ⟨bn, a, none⟩) (show bn < w3.heap.size by omega)).trans ((hb3.cell (p := ⟨bn, a, none⟩) hbn2).trans h)
    have q2 := fun (a : Nat) (v : Value) (h : w3.cell? ⟨bl, a, none⟩ = some v) => (hU.cell (p := ⟨bl, a, none⟩) hbl3).trans h
    exact ⟨⟨q1 _ _ x0, q1 _ _ x1, q1 _ _ x2⟩, ⟨q2 _ _ d0, q2 _ _ d1, q2 _ _ d2, q2 _ _ d3, q2 _ _ d4, q2 _ _ d5, q2 _ _ d6⟩,
      (hU.cell (p := ⟨b2, _, none⟩) (show b2 < w3.heap.size by omega)).trans ((hb3.cell (p := ⟨b2, _, none⟩) hbs2).trans r0)⟩
  have own0 := Lib.hid (own_one w3 w3.heap.size t (Nat.le_refl _))
  have hb0 : Hid (Below w3.heap.size w3 (w3.alloc (.cells #[.int .i64 t] 2))) := (Below.refl _ w3).alloc (Nat.le_refl _) _
  obtain ⟨w4, hw4⟩ : ∃ q, w3.alloc (.cells #[.int .i64 t] 2) = q := ⟨_, rfl⟩
  rw [hw4] at own0 hb0
  clear hb13 hb3 hb2 ro1 rk1 rs1 d0 d1 d2 d3 d4 d5 d6
  go_wp2_with (refine (hTk.out _).mono ?_; rintro e w' ⟨rfl, rfl⟩)
  clear x0 x1 x2 k0 k1 k2 k3 k4 k5 k6 r0 hbl hw3 hw4
  go_loopw [10, 11] (fun v i wr => ∃ (k : Nat), k ≤ sn ∧ i = .int .i64 k ∧ Hid (wr.ownsRow w3.heap.size 2 1 v ([t] ++ (S.take k).map Prod.snd).length (([t] ++ (S.take k).map Prod.snd).flatMap (numE .i64))) ∧ Hid (Below w3.heap.size w3 wr)) (fun _ i _ => sn - (intOf i).toNat)
  case atStart => exact ⟨0, Nat.zero_le _, rfl, (by simpa using own0), hb0⟩
  case round =>
    clear own0 hb0
    obtain ⟨k, hk, rfl, own, hb⟩ := hrel
    obtain ⟨⟨y0, y1, y2⟩, ⟨z0, z1, z2, z3, z4, z5, z6⟩, z7⟩ := hX.out _ hb.out
    by_cases hlt : k < sn
    · obtain ⟨bq, oq, x, y, rfl, hbq, hxq, f0, f1⟩ := rs3.out.pair hlt
      replace f0 := (hb.out.cell (p := ⟨bq, _, none⟩) hbq).trans f0
      replace f1 := (hb.out.cell (p := ⟨bq, _, none⟩) hbq).trans f1
      have hltk : (k : Int) < (sn : Int) := by omega
      obtain ⟨L, hL⟩ : ∃ q, [t] ++ (S.take k).map Prod.snd = q := ⟨_, rfl⟩
      have hL2 : Hid ([t] ++ (S.take (k + 1)).map Prod.snd = L ++ [y]) := by
        show _ = _
        rw [take_at hxq, List.map_append, ← List.append_assoc, hL]; rfl
      have hLn : L.length + 1 ≤ 1099511627776 := by
        have h1 := congrArg List.length hL
        have h2 := List.length_take_le k S
        have h3 := hSl.out
        have h4 := hopl.out
        have h5 := hcll.out
        simp only [List.length_append, List.length_map, List.length_cons, List.length_nil] at h1
        omega
      rw [hL] at own
      obtain ⟨g, cc, w5, hrun, own5, hb5⟩ := pushI (y) own.out hLn hb.out hb.out.size
      replace own5 := Lib.hid own5
      replace hb5 := Lib.hid hb5
      clear hL hxq hLn own hbq
      go_wp2_with (at_builtin; refine wpList_append_run ?a1 (.tmp 52) (.tmp 63) 40 ?a2 ?a3 ?a4 hrun ?_)
      case a1 => rfl
      case a2 => rfl
      try (case a3 => rfl)
      try (case a4 => rfl)
      go_roundw
      case rel => exact ⟨k + 1, by omega, by go_num, by rw [hL2.out, List.length_append]; exact own5, hb5⟩
      case measure => simp [intOf]; omega
    · obtain rfl : k = sn := by omega
      have own1 : Hid (wr.ownsRow w3.heap.size 2 1 u10 ([t] ++ S.map Prod.snd).length (([t] ++ S.map Prod.snd).flatMap (numE .i64))) := by
        have := own.out
        rwa [List.take_of_length_le (by rw [hSl.out]; exact Nat.le_refl _)] at this
      have hbO := hb
      clear own hb
      go_wp2_with fail
      go_loopw [10, 12] (fun v i wr => ∃ (k : Nat), k ≤ pn ∧ i = .int .i64 k ∧ Hid (wr.ownsRow w3.heap.size 2 1 v (([t] ++ S.map Prod.snd) ++ (op.take k).map Prod.fst).length ((([t] ++ S.map Prod.snd) ++ (op.take k).map Prod.fst).flatMap (numE .i64))) ∧ Hid (Below w3.heap.size w3 wr)) (fun _ i _ => pn - (intOf i).toNat)
      case atStart => exact ⟨0, Nat.zero_le _, rfl, (by simpa using own1), hbO⟩
      case round =>
        clear own1 hbO
        obtain ⟨k, hk, rfl, own, hb⟩ := hrel
        obtain ⟨⟨y0, y1, y2⟩, ⟨z0, z1, z2, z3, z4, z5, z6⟩, z7⟩ := hX.out _ hb.out
        by_cases hlt : k < pn
        · obtain ⟨bq, oq, x, y, rfl, hbq, hxq, f0, f1⟩ := ro3.out.pair hlt
          replace f0 := (hb.out.cell (p := ⟨bq, _, none⟩) hbq).trans f0
          replace f1 := (hb.out.cell (p := ⟨bq, _, none⟩) hbq).trans f1
          have hltk : (k : Int) < (pn : Int) := by omega
          obtain ⟨L, hL⟩ : ∃ q, ([t] ++ S.map Prod.snd) ++ (op.take k).map Prod.fst = q := ⟨_, rfl⟩
          have hL2 : Hid (([t] ++ S.map Prod.snd) ++ (op.take (k + 1)).map Prod.fst = L ++ [x]) := by
            show _ = _
            rw [take_at hxq, List.map_append, ← List.append_assoc, hL]; rfl
          have hLn : L.length + 1 ≤ 1099511627776 := by
            have h1 := congrArg List.length hL
            have h2 := List.length_take_le k op
            have h3 := hSl.out
            have h4 := hopl.out
            have h5 := hcll.out
            simp only [List.length_append, List.length_map, List.length_cons, List.length_nil] at h1
            omega
          rw [hL] at own
          obtain ⟨g, cc, w5, hrun, own5, hb5⟩ := pushI (x) own.out hLn hb.out hb.out.size
          replace own5 := Lib.hid own5
          replace hb5 := Lib.hid hb5
          clear hL hxq hLn own hbq
          go_wp2_with (at_builtin; refine wpList_append_run ?a1 (.tmp 72) (.tmp 79) 40 ?a2 ?a3 ?a4 hrun ?_)
          case a1 => rfl
          case a2 => rfl
          try (case a3 => rfl)
          try (case a4 => rfl)
          go_roundw
          case rel => exact ⟨k + 1, by omega, by go_num, by rw [hL2.out, List.length_append]; exact own5, hb5⟩
          case measure => simp [intOf]; omega
        · obtain rfl : k = pn := by omega
          have own1 : Hid (wr.ownsRow w3.heap.size 2 1 u10 (([t] ++ S.map Prod.snd) ++ op.map Prod.fst).length ((([t] ++ S.map Prod.snd) ++ op.map Prod.fst).flatMap (numE .i64))) := by
            have := own.out
            rwa [List.take_of_length_le (by rw [hopl.out]; exact Nat.le_refl _)] at this
          have hbO := hb
          clear own hb
          go_wp2_with fail
          go_loopw [10, 13] (fun v i wr => ∃ (k : Nat), k ≤ kn ∧ i = .int .i64 k ∧ Hid (wr.ownsRow w3.heap.size 2 1 v (([t] ++ S.map Prod.snd ++ op.map Prod.fst) ++ (cl.take k).map Prod.snd).length ((([t] ++ S.map Prod.snd ++ op.map Prod.fst) ++ (cl.take k).map Prod.snd).flatMap (numE .i64))) ∧ Hid (Below w3.heap.size w3 wr)) (fun _ i _ => kn - (intOf i).toNat)
          case atStart => exact ⟨0, Nat.zero_le _, rfl, (by simpa using own1), hbO⟩
          case round =>
            clear own1 hbO
            obtain ⟨k, hk, rfl, own, hb⟩ := hrel
            obtain ⟨⟨y0, y1, y2⟩, ⟨z0, z1, z2, z3, z4, z5, z6⟩, z7⟩ := hX.out _ hb.out
            by_cases hlt : k < kn
            · obtain ⟨bq, oq, x, y, rfl, hbq, hxq, f0, f1⟩ := rk3.out.pair hlt
              replace f0 := (hb.out.cell (p := ⟨bq, _, none⟩) hbq).trans f0
              replace f1 := (hb.out.cell (p := ⟨bq, _, none⟩) hbq).trans f1
              have hltk : (k : Int) < (kn : Int) := by omega
              obtain ⟨L, hL⟩ : ∃ q, ([t] ++ S.map Prod.snd ++ op.map Prod.fst) ++ (cl.take k).map Prod.snd = q := ⟨_, rfl⟩
              have hL2 : Hid (([t] ++ S.map Prod.snd ++ op.map Prod.fst) ++ (cl.take (k + 1)).map Prod.snd = L ++ [y]) := by
                show _ = _
                rw [take_at hxq, List.map_append, ← List.append_assoc, hL]; rfl
              have hLn : L.length + 1 ≤ 1099511627776 := by
                have h1 := congrArg List.length hL
                have h2 := List.length_take_le k cl
                have h3 := hSl.out
                have h4 := hopl.out
                have h5 := hcll.out
                simp only [List.length_append, List.length_map, List.length_cons, List.length_nil] at h1
                omega
              rw [hL] at own
              obtain ⟨g, cc, w5, hrun, own5, hb5⟩ := pushI (y) own.out hLn hb.out hb.out.size
              replace own5 := Lib.hid own5
              replace hb5 := Lib.hid hb5
              clear hL hxq hLn own hbq
              go_wp2_with (at_builtin; refine wpList_append_run ?a1 (.tmp 88) (.tmp 95) 40 ?a2 ?a3 ?a4 hrun ?_)
              case a1 => rfl
              case a2 => rfl
              try (case a3 => rfl)
              try (case a4 => rfl)
              go_roundw
              case rel => exact ⟨k + 1, by omega, by go_num, by rw [hL2.out, List.length_append]; exact own5, hb5⟩
              case measure => simp [intOf]; omega
            · obtain rfl : k = kn := by omega
              have own1 : Hid (wr.ownsRow w3.heap.size 2 1 u10 (([t] ++ S.map Prod.snd ++ op.map Prod.fst) ++ cl.map Prod.snd).length ((([t] ++ S.map Prod.snd ++ op.map Prod.fst) ++ cl.map Prod.snd).flatMap (numE .i64))) := by
                have := own.out
                rwa [List.take_of_length_le (by rw [hcll.out]; exact Nat.le_refl _)] at this
              have hbO := hb
              clear own hb
              go_wp2_with fail
              have hcand2 : Hid ([t] ++ S.map Prod.snd ++ op.map Prod.fst ++ cl.map Prod.snd = cand) := by show _ = _; rw [hcand.out]; simp
              rw [hcand2.out] at own1
              obtain ⟨cA, cc, rfl, hrc, _, _⟩ := Rd.of_own (enc := numE .i64) (l := cand) nume_len rfl own1.out
              obtain ⟨cn, hcn⟩ : ∃ q, cand.length = q := ⟨_, rfl⟩
              rw [hcn] at hrc ⊢
              have hcn1 : cn ≤ 1000000 := by
                have h1 := congrArg List.length hcand.out
                have h3 := hSl.out
                have h4 := hopl.out
                have h5 := hcll.out
                simp only [List.length_append, List.length_map, List.length_cons] at h1
                omega
              have hrcH := Lib.hid hrc
              have hcnH := Lib.hid hcn
              obtain ⟨wo, hwo⟩ : ∃ q, q = wr := ⟨_, rfl⟩
              subst hwo
              go_loopw [9, 14] (fun v i wq => ∃ (k : Nat), k ≤ cn ∧ i = .int .i64 k ∧ v = .int .i64 ((cand.take k).foldl pk W.inf) ∧ Hid (Below wo.heap.size wo wq)) (fun _ i _ => cn - (intOf i).toNat)
              case atStart => exact ⟨0, Nat.zero_le _, rfl, rfl, Below.refl _ _⟩
              case round =>
                clear hrc hcn own1 y0 y1 y2 z0 z1 z2 z3 z4 z5 z6 z7
                obtain ⟨k, hk, rfl, rfl, hb⟩ := hrel
                have hbwH := Lib.hid (hbO.out.trans (hb.out.mono hbO.out.size))
                obtain ⟨bst, hbst⟩ : ∃ q, (cand.take k).foldl pk W.inf = q := ⟨_, rfl⟩
                by_cases hlt : k < cn
                · obtain ⟨bc, oc, x, rfl, hbc, hxc, f0⟩ := (hrcH.out.below hb.out).num hlt
                  have hstep : Hid ((cand.take (k + 1)).foldl pk W.inf = if t ≤ x ∧ x < bst ∧ my x = true then x else bst) := by show _ = _; rw [fold_snoc _ _ hxc, hbst, hpick.out]
                  have hltc : (k : Int) < (cn : Int) := by omega
                  rw [hbst]
                  clear hbst hxc
                  by_cases q1 : t ≤ x
                  · have e1 : decide (t ≤ x) = true := decide_eq_true q1
                    by_cases q2 : x < bst
                    · have e2 : decide (x < bst) = true := decide_eq_true q2
                      cases q3 : my x with
                      | true =>
                        have hv : Hid ((cand.take (k + 1)).foldl pk W.inf = x) := by show _ = _; rw [hstep.out, if_pos ⟨q1, q2, q3⟩]
                        have q3H := Lib.hid q3
                        clear hstep q3
                        go_upto_region 21 with fail
                        refine wp_region_below wr.heap.size (by kernel_rfl) (by kernel_rfl) ?_
                        intro C hC
                        repeat (go_big_quiet_step (first
                          | ((intro _; with_reducible rfl))
                          | (intro hc; obtain ⟨⟨y0, y1, y2⟩, ⟨z0, z1, z2, z3, z4, z5, z6⟩, z7⟩ := hX.out _ (hbwH.out.trans (hc.mono hbwH.out.size)); simp only [y0, y1, y2, Result.andThen]; exact ⟨trivial, rfl⟩)
                          | (intro hc; obtain ⟨⟨y0, y1, y2⟩, ⟨z0, z1, z2, z3, z4, z5, z6⟩, z7⟩ := hX.out _ (hbwH.out.trans (hc.mono hbwH.out.size)); simp only [z0, z1, z2, z3, z4, z5, z6, Result.andThen]; exact ⟨trivial, rfl⟩)
                          | (intro hc; have m0 := (hc.cell (p := ⟨bc, _, none⟩) hbc).trans f0; simp only [m0, Result.andThen]; exact ⟨trivial, rfl⟩)
                          | (intro hc; with_reducible refine (hM1.out x _ _ _ _ _ _ _ (hR3.out.below (hbwH.out.trans (hc.mono hbwH.out.size))) (ro3.out.below (hbwH.out.trans (hc.mono hbwH.out.size))) (rk3.out.below (hbwH.out.trans (hc.mono hbwH.out.size)))).mono ?_; rintro e w'' ⟨rfl, hb⟩; exact ⟨congrArg (fun b => Ending.returned (.bool b)) q3H.out, hc.trans (hb.mono hc.size)⟩)))
                        refine wpQuiet_nil ?_
                        intro w7 hb7
                        clear hC
                        replace f0 := (hb7.cell (p := ⟨bc, _, none⟩) hbc).trans f0
                        replace hb7 := Lib.hid (hb.out.trans (hb7.mono hb.out.size))
                        go_wp2_with fail
                        go_roundw
                        case rel => exact ⟨k + 1, by omega, by go_num, by rw [hv.out], hb7⟩
                        case measure => simp [intOf]; omega
                      | false =>
                        have hv : Hid ((cand.take (k + 1)).foldl pk W.inf = bst) := by show _ = _; rw [hstep.out, if_neg (fun h => by rw [h.2.2] at q3; cases q3)]
                        have q3H := Lib.hid q3
                        clear hstep q3
                        go_upto_region 21 with fail
                        refine wp_region_below wr.heap.size (by kernel_rfl) (by kernel_rfl) ?_
                        intro C hC
                        repeat (go_big_quiet_step (first
                          | ((intro _; with_reducible rfl))
                          | (intro hc; obtain ⟨⟨y0, y1, y2⟩, ⟨z0, z1, z2, z3, z4, z5, z6⟩, z7⟩ := hX.out _ (hbwH.out.trans (hc.mono hbwH.out.size)); simp only [y0, y1, y2, Result.andThen]; exact ⟨trivial, rfl⟩)
                          | (intro hc; obtain ⟨⟨y0, y1, y2⟩, ⟨z0, z1, z2, z3, z4, z5, z6⟩, z7⟩ := hX.out _ (hbwH.out.trans (hc.mono hbwH.out.size)); simp only [z0, z1, z2, z3, z4, z5, z6, Result.andThen]; exact ⟨trivial, rfl⟩)
                          | (intro hc; have m0 := (hc.cell (p := ⟨bc, _, none⟩) hbc).trans f0; simp only [m0, Result.andThen]; exact ⟨trivial, rfl⟩)
                          | (intro hc; with_reducible refine (hM1.out x _ _ _ _ _ _ _ (hR3.out.below (hbwH.out.trans (hc.mono hbwH.out.size))) (ro3.out.below (hbwH.out.trans (hc.mono hbwH.out.size))) (rk3.out.below (hbwH.out.trans (hc.mono hbwH.out.size)))).mono ?_; rintro e w'' ⟨rfl, hb⟩; exact ⟨congrArg (fun b => Ending.returned (.bool b)) q3H.out, hc.trans (hb.mono hc.size)⟩)))
                        refine wpQuiet_nil ?_
                        intro w7 hb7
                        clear hC
                        replace f0 := (hb7.cell (p := ⟨bc, _, none⟩) hbc).trans f0
                        replace hb7 := Lib.hid (hb.out.trans (hb7.mono hb.out.size))
                        go_wp2_with fail
                        go_roundw
                        case rel => exact ⟨k + 1, by omega, by go_num, by rw [hv.out], hb7⟩
                        case measure => simp [intOf]; omega
                    · have e2 : decide (x < bst) = false := decide_eq_false q2
                      have hv : Hid ((cand.take (k + 1)).foldl pk W.inf = bst) := by show _ = _; rw [hstep.out, if_neg (fun h => q2 h.2.1)]
                      clear hstep
                      go_upto_region 21 with fail
                      refine wp_region_below wr.heap.size (by kernel_rfl) (by kernel_rfl) ?_
                      intro C hC
                      repeat (go_big_quiet_step (first
                        | ((intro _; with_reducible rfl))
                        | (intro hc; obtain ⟨⟨y0, y1, y2⟩, ⟨z0, z1, z2, z3, z4, z5, z6⟩, z7⟩ := hX.out _ (hbwH.out.trans (hc.mono hbwH.out.size)); simp only [y0, y1, y2, Result.andThen]; exact ⟨trivial, rfl⟩)
                        | (intro hc; obtain ⟨⟨y0, y1, y2⟩, ⟨z0, z1, z2, z3, z4, z5, z6⟩, z7⟩ := hX.out _ (hbwH.out.trans (hc.mono hbwH.out.size)); simp only [z0, z1, z2, z3, z4, z5, z6, Result.andThen]; exact ⟨trivial, rfl⟩)
                        | (intro hc; have m0 := (hc.cell (p := ⟨bc, _, none⟩) hbc).trans f0; simp only [m0, Result.andThen]; exact ⟨trivial, rfl⟩)))
                      refine wpQuiet_nil ?_
                      intro w7 hb7
                      clear hC
                      replace f0 := (hb7.cell (p := ⟨bc, _, none⟩) hbc).trans f0
                      replace hb7 := Lib.hid (hb.out.trans (hb7.mono hb.out.size))
                      go_wp2_with fail
                      go_roundw
                      case rel => exact ⟨k + 1, by omega, by go_num, by rw [hv.out], hb7⟩
                      case measure => simp [intOf]; omega
                  · have e1 : decide (t ≤ x) = false := decide_eq_false q1
                    have hv : Hid ((cand.take (k + 1)).foldl pk W.inf = bst) := by show _ = _; rw [hstep.out, if_neg (fun h => q1 h.1)]
                    clear hstep
                    go_upto_region 21 with fail
                    refine wp_region_below wr.heap.size (by kernel_rfl) (by kernel_rfl) ?_
                    intro C hC
                    repeat (go_big_quiet_step (first
                      | ((intro _; with_reducible rfl))
                      | (intro hc; obtain ⟨⟨y0, y1, y2⟩, ⟨z0, z1, z2, z3, z4, z5, z6⟩, z7⟩ := hX.out _ (hbwH.out.trans (hc.mono hbwH.out.size)); simp only [y0, y1, y2, Result.andThen]; exact ⟨trivial, rfl⟩)
                      | (intro hc; obtain ⟨⟨y0, y1, y2⟩, ⟨z0, z1, z2, z3, z4, z5, z6⟩, z7⟩ := hX.out _ (hbwH.out.trans (hc.mono hbwH.out.size)); simp only [z0, z1, z2, z3, z4, z5, z6, Result.andThen]; exact ⟨trivial, rfl⟩)
                      | (intro hc; have m0 := (hc.cell (p := ⟨bc, _, none⟩) hbc).trans f0; simp only [m0, Result.andThen]; exact ⟨trivial, rfl⟩)))
                    refine wpQuiet_nil ?_
                    intro w7 hb7
                    clear hC
                    replace f0 := (hb7.cell (p := ⟨bc, _, none⟩) hbc).trans f0
                    replace hb7 := Lib.hid (hb.out.trans (hb7.mono hb.out.size))
                    go_wp2_with fail
                    go_roundw
                    case rel => exact ⟨k + 1, by omega, by go_num, by rw [hv.out], hb7⟩
                    case measure => simp [intOf]; omega
                · obtain rfl : bst = fF := by
                    rw [hfold.out, ← hbst, List.take_of_length_le (by rw [hcnH.out]; omega)]
                  rw [hbst]
                  clear hbst
                  obtain ⟨⟨y0, y1, y2⟩, ⟨z0, z1, z2, z3, z4, z5, z6⟩, z7⟩ := hX.out _ hbwH.out
                  by_cases hF : bst = W.inf
                  · obtain rfl : tT = W.inf := by rw [htoL.out, if_pos hF]
                    have q1 : (bst == 4611686018427387904) = true := by rw [hF]; rfl
                    subst hF
                    go_wp2_with fail
                    go_returns
                    exact ⟨rfl, hup3.out _ hbwH.out⟩
                  · obtain rfl : tT = bst + ln := by rw [htoL.out, if_neg hF]
                    have q1 : (bst == 4611686018427387904) = false := by simp only [beq_eq_false_iff_ne, ne_eq]; exact hF
                    obtain ⟨hf0, hf1⟩ := hfin.out.resolve_left hF
                    clear hF
                    go_wp2_with fail
                    go_quiet (fail)
                    go_wp2_with fail
                    go_returns
                    exact ⟨rfl, hup3.out _ (below_drewQ hbwH.out _)⟩
end Go.Proofs.Ytonkkibnigdfbaa
