/-
  Walks: closure.Plain; the document's plain links (clo/gen1.py).
-/
import Derived.Test.YtonkkibnigdfbaaClPlain
import Derived.Test.YtonkkibnigdfbaaRef11S
namespace Go.Proofs.Ytonkkibnigdfbaa
open Go.RowKit Go.Shelf B K
set_option linter.unusedVariables false
set_option linter.unusedSimpArgs false
set_option maxHeartbeats 4000000
theorem infoInt : (Try.prog.info? 3).map (fun i => (i.zero, i.size, i.bytes)) = some (some (.int .i64 0), 1, 8) := by kernel_rfl
theorem pushN {B : Nat} {w wr : World} {v : Value} {l : List Int} (x : Int) (nq : Nat) (hown : wr.ownsRow B 3 1 v l.length (l.flatMap (numE .i64))) (hlen : l.length + 1 ≤ 1099511627776) (hb : Below B w wr) (hB : B ≤ wr.heap.size) :
    ∃ g c w1, (Builtin.append_ #[30, 30] 30 #[v, .slice (some ⟨wr.heap.size, 0, none⟩) 1 1]).run Try.prog ((wr.drewN nq).alloc (.cells #[.int .i64 x] 3)) = .ok (.slice (some ⟨g, 0, none⟩) (l.length + 1) c) w1 ∧
      w1.ownsRow B 3 1 (.slice (some ⟨g, 0, none⟩) (l.length + 1) c) (l ++ [x]).length ((l ++ [x]).flatMap (numE .i64)) ∧ Below B w w1 := by
  obtain ⟨g, c, w1, h1, h2, h3, _⟩ := own_push (enc := numE .i64) Try.underlying30 infoInt rfl (by decide) nume_len nume_one x hown hlen (by decide) hb hB nq
  exact ⟨g, c, w1, h1, by rw [List.length_append]; exact h2, h3⟩
def plZ (N : NetP) (k : Nat) : List Int := (plainK N k).map Int.ofNat
theorem plZ_yes {N : NetP} {k : Nat} (h : plainAt N k = true) : plZ N (k + 1) = plZ N k ++ [(k : Int)] := by unfold plZ; rw [plainK_yes h, List.map_append]; rfl
theorem plZ_no {N : NetP} {k : Nat} (h : plainAt N k = false) : plZ N (k + 1) = plZ N k := by unfold plZ; rw [plainK_no h]
theorem plZ_len (N : NetP) (k : Nat) : (plZ N k).length ≤ k := by unfold plZ; rw [List.length_map]; exact plainK_len N k
/-- what Plain tells -/
def plR (N : NetP) : List Int := if chkN N = 0 then plZ N N.ls.length else []
def RetP (N : NetP) (w : World) (e : Ending) (w' : World) : Prop := ∃ A c, e = .returned (.tuple #[.slice A (plR N).length c, .int .i64 (chkN N)]) ∧ Rd w' 1 (numE .i64) A (plR N).length (plR N) ∧ Below w.heap.size w w'
theorem clo_len {N : NetP} {x : Int} {k : Nat} {S : W.Row} (hx : x = (k : Int)) (hS : N.cs[k]? = some S) : clA N x = S := by unfold clA; rw [hx, show ((k : Int)).toNat = k from rfl, hS]; rfl
set_option maxRecDepth 100000 in
theorem cplain_any {N : NetP} {A B : Option Addr} {n c m d : Nat} (hs : Small N) (w : World) (hr : RNet w N A n B m) :
    Calls Try.prog 44 #[.agg #[.int .i64 N.hz, .slice A n c, .slice B m d]] w (RetP N w) := by
  have hnn : Hid (N.cs.length = n) := hr.nn
  have hmm : Hid (N.ls.length = m) := hr.mm
  have hn1 : n ≤ 1000 := by have := hs.cn; have := hnn.out; omega
  have hm1 : m ≤ 1000 := by have := hs.ln; have := hmm.out; omega
  obtain ⟨hz, hhz⟩ : ∃ q, N.hz = q := ⟨_, rfl⟩
  rw [hhz]
  have hb1 : Below w.heap.size w (w.alloc (.cells #[.int .i64 hz, .slice A n c, .slice B m d] 25)) := (Below.refl _ w).alloc (Nat.le_refl _) _
  obtain ⟨x0, x1, x2⟩ := rowBx3 w 25 (.int .i64 hz) (.slice A n c) (.slice B m d)
  have hbn1 : w.heap.size < (w.alloc (.cells #[.int .i64 hz, .slice A n c, .slice B m d] 25)).heap.size := by simp
  obtain ⟨w1, hw1⟩ : ∃ q, w.alloc (.cells #[.int .i64 hz, .slice A n c, .slice B m d] 25) = q := ⟨_, rfl⟩
  rw [hw1] at hb1 x0 x1 x2 hbn1
  have hup : Hid (∀ w2, Below w1.heap.size w1 w2 → Below w.heap.size w w2) := fun w2 h => hb1.trans (h.mono hb1.size)
  obtain ⟨bn, hbn⟩ : ∃ q, w.heap.size = q := ⟨_, rfl⟩
  rw [hbn] at x0 x1 x2 hbn1
  have hR := Lib.hid (hr.below hb1)
  have hX : Hid (∀ U, Below w1.heap.size w1 U → U.cell? ⟨bn, 0, none⟩ = some (.int .i64 hz) ∧ U.cell? ⟨bn, 1, none⟩ = some (.slice A n c) ∧ U.cell? ⟨bn, 2, none⟩ = some (.slice B m d)) := fun U hU =>
    ⟨(hU.cell (p := ⟨bn, 0, none⟩) hbn1).trans x0, (hU.cell (p := ⟨bn, 1, none⟩) hbn1).trans x1, (hU.cell (p := ⟨bn, 2, none⟩) hbn1).trans x2⟩
  have hhzH := Lib.hid hhz
  have hC := Lib.hid (lcheck_any (c := c) (d := d) hs w1 (hr.below hb1))
  rw [hhz] at hC
  have hsH := Lib.hid hs
  clear hb1 hr x0 x1 x2 hhz hs
  obtain ⟨y0, y1, y2⟩ := hX.out _ (Below.refl _ _)
  unfold RetP
  rcases chkN_cases N with hk | hk
  rotate_left
  · have hpr : Hid (plR N = []) := by show _ = _; unfold plR; rw [if_neg (by omega)]
    rw [hpr.out, hk]
    rw [hk] at hC
    clear hk
    go_enter Try.func44, Try.ntmps44
    go_wp2_with fail
    refine hC.out.mono ?_; rintro e w2 ⟨rfl, hb2⟩
    go_wp2_with fail
    go_returns
    exact ⟨none, 0, rfl, Rd.nil, hup.out _ hb2⟩
  have hpr : Hid (plR N = plZ N m) := by show _ = _; unfold plR; rw [if_pos hk, hmm.out]
  have hN := Lib.hid (chkN_iff.1 hk)
  rw [hpr.out, hk]
  rw [hk] at hC
  clear hk
  go_enter Try.func44, Try.ntmps44
  go_wp2_with fail
  refine hC.out.mono ?_; rintro e w2 ⟨rfl, hb2⟩
  clear hw1 hbn y0 y1 y2
  obtain ⟨y0, y1, y2⟩ := hX.out _ hb2
  have hb2h := Lib.hid hb2
  clear hb2
  go_wp2_with fail
  go_loopw [5, 16] (fun v i wr => ∃ (k : Nat), k ≤ m ∧ i = .int .i64 k ∧ Hid (wr.ownsRow w2.heap.size 3 1 v (plZ N k).length ((plZ N k).flatMap (numE .i64))) ∧ Hid (Below w2.heap.size w2 wr)) (fun _ i _ => m - (intOf i).toNat)
  case atStart => exact ⟨0, Nat.zero_le _, rfl, World.ownsRow_nil _ _ _ _, Below.refl _ _⟩
  case round =>
    clear y0 y1 y2
    obtain ⟨i, him, rfl, own, hb⟩ := hrel
    have hbw := Lib.hid (hb2h.out.trans (hb.out.mono hb2h.out.size))
    obtain ⟨y0, y1, y2⟩ := hX.out _ hbw.out
    by_cases hlti : i < m
    rotate_left
    · obtain rfl : i = m := by omega
      obtain ⟨A', c', rfl, r1, _, _⟩ := Rd.of_own nume_len rfl own.out
      have r1 := Lib.hid r1
      clear own
      go_wp2_with fail
      go_returns
      exact ⟨A', c', rfl, r1.out, hup.out _ hbw.out⟩
    obtain ⟨l, hl, b, o, pA, pn, pc, kA, kn, kc, rfl, hbl, _, ⟨rk, _⟩, c0, c1, c2, c3, c4, c5', c6⟩ := (hR.out.below hbw.out).lnk hlti
    have hlm := List.mem_of_getElem? hl
    obtain ⟨⟨la0, la1⟩, ⟨lb0, lb1⟩, _⟩ := okL_iff.1 (hN.out.lk l hlm)
    have hnn' := hnn.out
    obtain ⟨a', ha'⟩ : ∃ a' : Nat, l.a = a' := ⟨l.a.toNat, by omega⟩
    obtain ⟨b', hb'⟩ : ∃ b' : Nat, l.b = b' := ⟨l.b.toNat, by omega⟩
    have han : a' < n := by omega
    have hbn' : b' < n := by omega
    obtain ⟨b2, o2, sA, sn, sc, S, rfl, hbs, hxS, s0, rs, _⟩ := (hR.out.below hbw.out).clo han
    obtain ⟨b2', o2', sB, sm, sd, S', e9, hbs', hxS', s1, rs', _⟩ := (hR.out.below hbw.out).clo hbn'
    cases e9
    have hltI : (i : Int) < (m : Int) := by omega
    have hanI : (a' : Int) < (n : Int) := by omega
    have hbnI : (b' : Int) < (n : Int) := by omega
    have hkl : kn ≤ 1000 := by have := hsH.out.lw l hlm; have := rk.len; omega
    have hsl : sn ≤ 1000 := by have := hsH.out.cw S (List.mem_of_getElem? hxS); have := rs.len; omega
    have hsl' : sm ≤ 1000 := by have := hsH.out.cw S' (List.mem_of_getElem? hxS'); have := rs'.len; omega
    have hpl : Hid (plainAt N i = (!l.door && decide (kn = 0) && decide (sn = 0) && decide (sm = 0))) := by
      show _ = _
      unfold plainAt
      rw [hl]
      show plainB N l = _
      unfold plainB
      rw [clo_len ha' hxS, clo_len hb' hxS', rk.len, rs.len, rs'.len]
    rw [ha'] at c0
    rw [hb'] at c1
    have hno : Hid (plainAt N i = false → wr.ownsRow w2.heap.size 3 1 u5 (plZ N (i + 1)).length ((plZ N (i + 1)).flatMap (numE .i64))) := fun h => by rw [plZ_no h]; exact own.out
    have hyes : Hid (plainAt N i = true → plZ N (i + 1) = plZ N i ++ [(i : Int)]) := fun h => plZ_yes h
    have hpzl : Hid ((plZ N i).length + 1 ≤ 1099511627776) := by show _ ≤ _; have := plZ_len N i; omega
    obtain ⟨la, lb, ln, ld, lo, op, cl⟩ := l
    simp only at c0 c1 c2 c3 c4 hpl
    obtain ⟨d0, d1', d2, d3, d4, d5, d6⟩ := rowBx7 wr 38 (.int .i64 (a' : Int)) (.int .i64 (b' : Int)) (.int .i64 ln) (.bool ld) (.int .i64 lo) (.slice pA pn pc) (.slice kA kn kc)
    have hb9 : Below wr.heap.size wr (wr.alloc (.cells #[.int .i64 (a' : Int), .int .i64 (b' : Int), .int .i64 ln, .bool ld, .int .i64 lo, .slice pA pn pc, .slice kA kn kc] 38)) := (Below.refl _ wr).alloc (Nat.le_refl _) _
    obtain ⟨z0, z1, z2⟩ := hX.out _ (hbw.out.trans (hb9.mono hbw.out.size))
    have s09 := (hb9.cell (p := ⟨b2, _, none⟩) hbs).trans s0
    have s19 := (hb9.cell (p := ⟨b2, _, none⟩) hbs).trans s1
    obtain ⟨w9, hw9⟩ : ∃ q, wr.alloc (.cells #[.int .i64 (a' : Int), .int .i64 (b' : Int), .int .i64 ln, .bool ld, .int .i64 lo, .slice pA pn pc, .slice kA kn kc] 38) = q := ⟨_, rfl⟩
    rw [hw9] at d0 d1' d2 d3 d4 d5 d6 hb9 z0 z1 z2 s09 s19
    obtain ⟨bl, hbl'⟩ : ∃ q, wr.heap.size = q := ⟨_, rfl⟩
    rw [hbl'] at d0 d1' d2 d3 d4 d5 d6
    have hbx := Lib.hid (hb.out.trans (hb9.mono hb.out.size))
    have own9 := Lib.hid (own_up own.out hb9)
    have hno9 : Hid (plainAt N i = false → w9.ownsRow w2.heap.size 3 1 u5 (plZ N (i + 1)).length ((plZ N (i + 1)).flatMap (numE .i64))) := fun h => own_up (hno.out h) hb9
    clear hl hlm la0 la1 lb0 lb1 ha' hb' hnn' hxS hxS' rs rs' rk hb9 hno own hb s0 s1
    by_cases q0 : ld = true
    · subst q0
      have ho := Lib.hid (hno9.out (by rw [hpl.out]; simp))
      clear hpl hyes hno9
      go_wp2_with fail
      go_quiet (fail)
      go_wp2_with fail
      go_roundw
      case rel => exact ⟨i + 1, by omega, by go_num, own_keep ho.out fun _ _ => rfl, below_drewQ hbx.out _⟩
      case measure => simp [intOf]; omega
    obtain rfl : ld = false := by simpa using q0
    have hws : IntKind.i64.wrap ((kn : Int) + (sn : Int)) = (kn : Int) + (sn : Int) := by rw [IntKind.wrap_i64]; omega
    have hwt : IntKind.i64.wrap ((kn : Int) + (sn : Int) + (sm : Int)) = (kn : Int) + (sn : Int) + (sm : Int) := by rw [IntKind.wrap_i64]; omega
    by_cases q1 : kn = 0 ∧ sn = 0 ∧ sm = 0
    · have e1 : ((kn : Int) + (sn : Int) + (sm : Int) == 0) = true := by simp; omega
      have hy := hyes.out (by rw [hpl.out, decide_eq_true q1.1, decide_eq_true q1.2.1, decide_eq_true q1.2.2]; rfl)
      clear hpl hyes hno9 q1 q0
      go_wp2_with fail
      go_quiet (fail)
      obtain ⟨g, cc, w10, hrun, own10, hb10⟩ := pushN (i : Int) nq own9.out hpzl.out hbx.out hbx.out.size
      rw [← hy] at own10
      have own10 := Lib.hid own10
      have hb10 := Lib.hid hb10
      clear hy
      go_wp2_with (at_builtin; refine wpList_append_run ?a1 (.tmp 46) (.tmp 48) 30 ?a2 ?a3 ?a4 hrun ?_)
      case a1 => rfl
      case a2 => rfl
      try (case a3 => rfl)
      try (case a4 => rfl)
      go_roundw
      case rel => exact ⟨i + 1, by omega, by go_num, own10, hb10⟩
      case measure => simp [intOf]; omega
    · have e1 : ((kn : Int) + (sn : Int) + (sm : Int) == 0) = false := by simp; omega
      have ho := Lib.hid (hno9.out (by
        rw [hpl.out]
        by_cases h1 : kn = 0
        · by_cases h2 : sn = 0
          · have h3 : ¬ sm = 0 := fun h => q1 ⟨h1, h2, h⟩
            simp [h3]
          · simp [h2]
        · simp [h1]))
      clear hpl hyes hno9 q1 q0
      go_wp2_with fail
      go_quiet (fail)
      go_wp2_with fail
      go_roundw
      case rel => exact ⟨i + 1, by omega, by go_num, own_keep ho.out fun _ _ => rfl, below_drewQ hbx.out _⟩
      case measure => simp [intOf]; omega
set_option maxRecDepth 100000 in
theorem rplain1_any {N : NetP} {A B : Option Addr} {n c m d : Nat} (hs : Small N) (hN : OkN N) {l : Lk} (hl : l ∈ N.ls) (pA : Option Addr) (pn pc : Nat) (kA : Option Addr) (kn kc : Nat) (w : World) (hr : RNet w N A n B m) (rk : Rd w 2 pairE kA kn l.cl) :
    Calls Try.prog 53 #[.agg #[.int .i64 N.hz, .slice A n c, .slice B m d], .agg #[.int .i64 l.a, .int .i64 l.b, .int .i64 l.len, .bool l.door, .int .i64 l.no, .slice pA pn pc, .slice kA kn kc]] w fun e w' => e = .returned (.bool (plainB N l)) ∧ Below w.heap.size w w' := by
  obtain ⟨hz, hhz⟩ : ∃ q, N.hz = q := ⟨_, rfl⟩
  obtain ⟨⟨la0, la1⟩, ⟨lb0, lb1⟩, _⟩ := okL_iff.1 (hN.lk l hl)
  have hnn' := hr.nn
  obtain ⟨a', ha'⟩ : ∃ a' : Nat, l.a = a' := ⟨l.a.toNat, by omega⟩
  obtain ⟨b', hb'⟩ : ∃ b' : Nat, l.b = b' := ⟨l.b.toNat, by omega⟩
  have han : a' < n := by omega
  have hbn' : b' < n := by omega
  obtain ⟨b, o, sA, sn, sc, S, rfl, hbs, hxS, s0, rs, _⟩ := hr.clo han
  obtain ⟨b2', o2', sB, sm, sd, S', e9, hbs', hxS', s1, rs', _⟩ := hr.clo hbn'
  cases e9
  have hanI : (a' : Int) < (n : Int) := by omega
  have hbnI : (b' : Int) < (n : Int) := by omega
  have hkl : kn ≤ 1000 := by have := hs.lw l hl; have := rk.len; omega
  have hsl : sn ≤ 1000 := by have := hs.cw S (List.mem_of_getElem? hxS); have := rs.len; omega
  have hsl' : sm ≤ 1000 := by have := hs.cw S' (List.mem_of_getElem? hxS'); have := rs'.len; omega
  have hpl : Hid (plainB N l = (!l.door && decide (kn = 0) && decide (sn = 0) && decide (sm = 0))) := by
    show _ = _
    unfold plainB
    rw [clo_len ha' hxS, clo_len hb' hxS', rk.len, rs.len, rs'.len]
  obtain ⟨r, hrr⟩ : ∃ q, plainB N l = q := ⟨_, rfl⟩
  rw [hrr] at hpl
  rw [hrr, hhz]
  obtain ⟨la, lb, ln, ld, lo, op, cl⟩ := l
  simp only at ha' hb' hpl
  subst ha' hb'
  obtain ⟨x0, x1, x2⟩ := rowBx3 w 25 (.int .i64 hz) (.slice (some ⟨b, o, none⟩) n c) (.slice B m d)
  have hb1 : Below w.heap.size w (w.alloc (.cells #[.int .i64 hz, .slice (some ⟨b, o, none⟩) n c, .slice B m d] 25)) := (Below.refl _ w).alloc (Nat.le_refl _) _
  have hbn1 : w.heap.size < (w.alloc (.cells #[.int .i64 hz, .slice (some ⟨b, o, none⟩) n c, .slice B m d] 25)).heap.size := by simp
  have c1 := (hb1.cell (p := ⟨b, _, none⟩) hbs).trans s0
  have c2 := (hb1.cell (p := ⟨b, _, none⟩) hbs).trans s1
  obtain ⟨w1, hw1⟩ : ∃ q, w.alloc (.cells #[.int .i64 hz, .slice (some ⟨b, o, none⟩) n c, .slice B m d] 25) = q := ⟨_, rfl⟩
  rw [hw1] at hb1 x0 x1 x2 hbn1 c1 c2
  obtain ⟨bn, hbn⟩ : ∃ q, w.heap.size = q := ⟨_, rfl⟩
  rw [hbn] at x0 x1 x2 hbn1
  have hbs1 : b < w1.heap.size := Nat.lt_of_lt_of_le hbs hb1.size
  obtain ⟨d0, d1, d2, d3, d4, d5, d6⟩ := rowBx7 w1 38 (.int .i64 (a' : Int)) (.int .i64 (b' : Int)) (.int .i64 ln) (.bool ld) (.int .i64 lo) (.slice pA pn pc) (.slice kA kn kc)
  have hb2 : Below w1.heap.size w1 (w1.alloc (.cells #[.int .i64 (a' : Int), .int .i64 (b' : Int), .int .i64 ln, .bool ld, .int .i64 lo, .slice pA pn pc, .slice kA kn kc] 38)) := (Below.refl _ w1).alloc (Nat.le_refl _) _
  have y1 := (hb2.cell (p := ⟨bn, 1, none⟩) hbn1).trans x1
  have k1 := (hb2.cell (p := ⟨b, _, none⟩) hbs1).trans c1
  have k2 := (hb2.cell (p := ⟨b, _, none⟩) hbs1).trans c2
  obtain ⟨w2, hw2⟩ : ∃ q, w1.alloc (.cells #[.int .i64 (a' : Int), .int .i64 (b' : Int), .int .i64 ln, .bool ld, .int .i64 lo, .slice pA pn pc, .slice kA kn kc] 38) = q := ⟨_, rfl⟩
  rw [hw2] at hb2 d0 d1 d2 d3 d4 d5 d6 y1 k1 k2
  have hbf : Hid (Below w.heap.size w w2) := hb1.trans (hb2.mono hb1.size)
  obtain ⟨bl, hbl⟩ : ∃ q, w1.heap.size = q := ⟨_, rfl⟩
  rw [hbl] at d0 d1 d2 d3 d4 d5 d6
  clear hb1 hb2 s0 s1 c1 c2 x0 x1 x2 hr rs rs' rk hN hs hbs hbs' hbs1 hbn1 hl hxS hxS' hnn' la0 la1 lb0 lb1 hrr
  have hf : ∀ q : Nat, q ≠ 0 → ((q : Int) == 0) = false ∧ (q == 0) = false := fun q h => ⟨by simp; omega, by simp [h]⟩
  have ht : ∀ q : Nat, q = 0 → ((q : Int) == 0) = true ∧ (q == 0) = true := fun q h => ⟨by simp [h], by simp [h]⟩
  by_cases q0 : ld = true
  · subst q0
    obtain rfl : r = false := by rw [hpl.out]; simp
    clear hpl hf ht
    go_enter Try.func53, Try.ntmps53
    go_wp2_with fail
    go_returns
    exact ⟨rfl, by rw [← hbn]; exact hbf.out⟩
  obtain rfl : ld = false := by simpa using q0
  by_cases q1 : kn = 0
  rotate_left
  · obtain ⟨e1, e1'⟩ := hf kn q1
    obtain rfl : r = false := by rw [hpl.out]; simp [q1]
    clear hpl hf ht q1
    go_enter Try.func53, Try.ntmps53
    go_wp2_with fail
    go_returns
    exact ⟨rfl, by rw [← hbn]; exact hbf.out⟩
  obtain ⟨e1, e1'⟩ := ht kn q1
  by_cases q2 : sn = 0
  rotate_left
  · obtain ⟨e2, e2'⟩ := hf sn q2
    obtain rfl : r = false := by rw [hpl.out]; simp [q2]
    clear hpl hf ht q1 q2
    go_enter Try.func53, Try.ntmps53
    go_wp2_with fail
    go_returns
    exact ⟨rfl, by rw [← hbn]; exact hbf.out⟩
  obtain ⟨e2, e2'⟩ := ht sn q2
  by_cases q3 : sm = 0
  rotate_left
  · obtain ⟨e3, e3'⟩ := hf sm q3
    obtain rfl : r = false := by rw [hpl.out]; simp [q3]
    clear hpl hf ht q1 q2 q3
    go_enter Try.func53, Try.ntmps53
    go_wp2_with fail
    go_returns
    exact ⟨rfl, by rw [← hbn]; exact hbf.out⟩
  obtain ⟨e3, e3'⟩ := ht sm q3
  obtain rfl : r = true := by rw [hpl.out]; simp [q1, q2, q3]
  clear hpl hf ht q1 q2 q3
  go_enter Try.func53, Try.ntmps53
  go_wp2_with fail
  go_returns
  exact ⟨rfl, by rw [← hbn]; exact hbf.out⟩
set_option maxRecDepth 100000 in
theorem rPlain_any {N : NetP} {A B : Option Addr} {n c m d : Nat} (hs : Small N) (w : World) (hr : RNet w N A n B m) :
    Calls Try.prog 19 #[.agg #[.int .i64 N.hz, .slice A n c, .slice B m d]] w (RetP N w) := by
  have hnn : Hid (N.cs.length = n) := hr.nn
  have hmm : Hid (N.ls.length = m) := hr.mm
  have hn1 : n ≤ 1000 := by have := hs.cn; have := hnn.out; omega
  have hm1 : m ≤ 1000 := by have := hs.ln; have := hmm.out; omega
  obtain ⟨hz, hhz⟩ : ∃ q, N.hz = q := ⟨_, rfl⟩
  rw [hhz]
  have hb1 : Below w.heap.size w (w.alloc (.cells #[.int .i64 hz, .slice A n c, .slice B m d] 25)) := (Below.refl _ w).alloc (Nat.le_refl _) _
  obtain ⟨x0, x1, x2⟩ := rowBx3 w 25 (.int .i64 hz) (.slice A n c) (.slice B m d)
  have hbn1 : w.heap.size < (w.alloc (.cells #[.int .i64 hz, .slice A n c, .slice B m d] 25)).heap.size := by simp
  obtain ⟨w1, hw1⟩ : ∃ q, w.alloc (.cells #[.int .i64 hz, .slice A n c, .slice B m d] 25) = q := ⟨_, rfl⟩
  rw [hw1] at hb1 x0 x1 x2 hbn1
  have hup : Hid (∀ w2, Below w1.heap.size w1 w2 → Below w.heap.size w w2) := fun w2 h => hb1.trans (h.mono hb1.size)
  obtain ⟨bn, hbn⟩ : ∃ q, w.heap.size = q := ⟨_, rfl⟩
  rw [hbn] at x0 x1 x2 hbn1
  have hR := Lib.hid (hr.below hb1)
  have hX : Hid (∀ U, Below w1.heap.size w1 U → U.cell? ⟨bn, 0, none⟩ = some (.int .i64 hz) ∧ U.cell? ⟨bn, 1, none⟩ = some (.slice A n c) ∧ U.cell? ⟨bn, 2, none⟩ = some (.slice B m d)) := fun U hU =>
    ⟨(hU.cell (p := ⟨bn, 0, none⟩) hbn1).trans x0, (hU.cell (p := ⟨bn, 1, none⟩) hbn1).trans x1, (hU.cell (p := ⟨bn, 2, none⟩) hbn1).trans x2⟩
  have hhzH := Lib.hid hhz
  have hC := Lib.hid (r11check_any (c := c) (d := d) hs w1 (hr.below hb1))
  rw [hhz] at hC
  have hsH := Lib.hid hs
  clear hb1 hr x0 x1 x2 hs hhz
  obtain ⟨y0, y1, y2⟩ := hX.out _ (Below.refl _ _)
  unfold RetP
  rcases chkN_cases N with hk | hk
  rotate_left
  · have hpr : Hid (plR N = []) := by show _ = _; unfold plR; rw [if_neg (by omega)]
    rw [hpr.out, hk]
    rw [hk] at hC
    clear hk
    go_enter Try.func19, Try.ntmps19
    go_wp2_with fail
    refine hC.out.mono ?_; rintro e w2 ⟨rfl, hb2⟩
    go_wp2_with fail
    go_returns
    exact ⟨none, 0, rfl, Rd.nil, hup.out _ hb2⟩
  have hpr : Hid (plR N = plZ N m) := by show _ = _; unfold plR; rw [if_pos hk, hmm.out]
  have hN := Lib.hid (chkN_iff.1 hk)
  rw [hpr.out, hk]
  rw [hk] at hC
  clear hk
  go_enter Try.func19, Try.ntmps19
  go_wp2_with fail
  refine hC.out.mono ?_; rintro e w2 ⟨rfl, hb2⟩
  clear hw1 hbn y0 y1 y2
  obtain ⟨y0, y1, y2⟩ := hX.out _ hb2
  have hb2h := Lib.hid hb2
  clear hb2
  go_wp2_with fail
  go_loopw [5, 6] (fun v i wr => ∃ (k : Nat), k ≤ m ∧ i = .int .i64 k ∧ Hid (wr.ownsRow w2.heap.size 3 1 v (plZ N k).length ((plZ N k).flatMap (numE .i64))) ∧ Hid (Below w2.heap.size w2 wr)) (fun _ i _ => m - (intOf i).toNat)
  case atStart => exact ⟨0, Nat.zero_le _, rfl, World.ownsRow_nil _ _ _ _, Below.refl _ _⟩
  case round =>
    clear y0 y1 y2
    obtain ⟨i, him, rfl, own, hb⟩ := hrel
    have hbw := Lib.hid (hb2h.out.trans (hb.out.mono hb2h.out.size))
    obtain ⟨y0, y1, y2⟩ := hX.out _ hbw.out
    by_cases hlti : i < m
    rotate_left
    · obtain rfl : i = m := by omega
      obtain ⟨A', c', rfl, r1, _, _⟩ := Rd.of_own nume_len rfl own.out
      have r1 := Lib.hid r1
      clear own
      go_wp2_with fail
      go_returns
      exact ⟨A', c', rfl, r1.out, hup.out _ hbw.out⟩
    obtain ⟨l, hl, b, o, pA, pn, pc, kA, kn, kc, rfl, hbl, _, ⟨rk, _⟩, c0, c1, c2, c3, c4, c5', c6⟩ := (hR.out.below hbw.out).lnk hlti
    have hM : Hid (∀ U, Below wr.heap.size wr U → Calls Try.prog 53 #[.agg #[.int .i64 hz, .slice A n c, .slice (some ⟨b, o, none⟩) m d], .agg #[.int .i64 l.a, .int .i64 l.b, .int .i64 l.len, .bool l.door, .int .i64 l.no, .slice pA pn pc, .slice kA kn kc]] U fun e w' => e = .returned (.bool (plainB N l)) ∧ Below U.heap.size U w') := fun U hU => by
      have := rplain1_any (c := c) (d := d) hsH.out hN.out (List.mem_of_getElem? hl) pA pn pc kA kn kc U ((hR.out.below hbw.out).below hU) (rk.below hU)
      rwa [hhzH.out] at this
    have hpl : Hid (plainAt N i = plainB N l) := by show _ = _; unfold plainAt; rw [hl]
    obtain ⟨r, hrr⟩ : ∃ q, plainB N l = q := ⟨_, rfl⟩
    rw [hrr] at hpl hM
    have hltI : (i : Int) < (m : Int) := by omega
    have hbnr : bn < wr.heap.size := by have := hbw.out.size; omega
    have hpzl : Hid ((plZ N i).length + 1 ≤ 1099511627776) := by show _ ≤ _; have := plZ_len N i; omega
    obtain ⟨la, lb, ln, ld, lo, op, cl⟩ := l
    simp only at c0 c1 c2 c3 c4 hM
    clear hl rk hrr
    go_upto_region 8 with fail
    refine wp_region_below wr.heap.size (by kernel_rfl) (by kernel_rfl) ?_
    intro C hC
    repeat (go_big_quiet_step (first
      | ((intro _; with_reducible rfl))
      | (intro hc; have m0 := (hc.cell (p := ⟨bn, _, none⟩) hbnr).trans y0; have m1 := (hc.cell (p := ⟨bn, _, none⟩) hbnr).trans y1; have m2 := (hc.cell (p := ⟨bn, _, none⟩) hbnr).trans y2; simp only [m0, m1, m2, Result.andThen]; exact ⟨trivial, rfl⟩)
      | (intro hc; have m0 := (hc.cell (p := ⟨b, _, none⟩) hbl).trans c0; have m1 := (hc.cell (p := ⟨b, _, none⟩) hbl).trans c1; have m2 := (hc.cell (p := ⟨b, _, none⟩) hbl).trans c2; have m3 := (hc.cell (p := ⟨b, _, none⟩) hbl).trans c3; have m4 := (hc.cell (p := ⟨b, _, none⟩) hbl).trans c4; have m5 := (hc.cell (p := ⟨b, _, none⟩) hbl).trans c5'; have m6 := (hc.cell (p := ⟨b, _, none⟩) hbl).trans c6; simp only [m0, m1, m2, m3, m4, m5, m6, Result.andThen]; exact ⟨trivial, rfl⟩)
      | (intro hc; with_reducible refine (hM.out _ hc).mono ?_; rintro e w'' ⟨rfl, hb⟩; exact ⟨rfl, hc.trans (hb.mono hc.size)⟩)))
    refine wpQuiet_nil ?_
    intro w10 hb10
    clear hC
    have hbx := Lib.hid (hb.out.trans (hb10.mono hb.out.size))
    have own10 := Lib.hid (own_up own.out hb10)
    clear own hb hM c0 c1 c2 c3 c4 c5' c6
    cases r with
    | false =>
      have hnx : Hid (plZ N (i + 1) = plZ N i) := plZ_no hpl.out
      clear hpl
      go_wp2_with fail
      go_roundw
      case rel => exact ⟨i + 1, by omega, by go_num, by rw [hnx.out]; exact own10, hbx⟩
      case measure => simp [intOf]; omega
    | true =>
      have hy := plZ_yes hpl.out
      obtain ⟨g, cc, w11, hrun, own11, hb11⟩ := pushN (i : Int) 0 own10.out hpzl.out hbx.out hbx.out.size
      rw [← hy] at own11
      have own11 := Lib.hid own11
      have hb11 := Lib.hid hb11
      have hrun : (Builtin.append_ #[30, 30] 30 #[u5, .slice (some ⟨w10.heap.size, 0, none⟩) 1 1]).run Try.prog (w10.alloc (.cells #[.int .i64 (i : Int)] 3)) = .ok (.slice (some ⟨g, 0, none⟩) ((plZ N i).length + 1) cc) w11 := hrun
      clear hy hpl
      go_wp2_with (at_builtin; refine wpList_append_run ?a1 (.tmp 26) (.tmp 28) 30 ?a2 ?a3 ?a4 hrun ?_)
      case a1 => rfl
      case a2 => rfl
      try (case a3 => rfl)
      try (case a4 => rfl)
      go_roundw
      case rel => exact ⟨i + 1, by omega, by go_num, own11, hb11⟩
      case measure => simp [intOf]; omega
end Go.Proofs.Ytonkkibnigdfbaa
