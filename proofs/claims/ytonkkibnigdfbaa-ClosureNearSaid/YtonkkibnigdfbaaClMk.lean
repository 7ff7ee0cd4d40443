/-
  Walk: closure.Make (clo/gen3.py).
-/
import Derived.Test.YtonkkibnigdfbaaClPl
import Derived.Test.YtonkkibnigdfbaaNearV
import Derived.Test.YtonkkibnigdfbaaSortN
namespace Go.Proofs.Ytonkkibnigdfbaa
open Go.RowKit Go.Shelf B K
set_option linter.unusedVariables false
set_option linter.unusedSimpArgs false
set_option maxHeartbeats 4000000
theorem infoEdC : (Try.prog.info? 85).map (fun i => (i.zero, i.size, i.bytes)) = some (some (.agg #[.int .i64 0, .int .i64 0, .int .i64 0]), 3, 24) := by kernel_rfl
theorem pushE {B : Nat} {w wr : World} {v : Value} {l : List Ed} (x : Ed) (hown : wr.ownsRow B 85 3 v l.length (l.flatMap tripE)) (hlen : l.length + 1 ≤ 1099511627776) (hb : Below B w wr) (hB : B ≤ wr.heap.size) :
    ∃ g c w1, (Builtin.append_ #[83, 83] 83 #[v, .slice (some ⟨wr.heap.size, 0, none⟩) 1 1]).run Try.prog (wr.alloc (.cells #[.int .i64 x.1, .int .i64 x.2.1, .int .i64 x.2.2] 85)) = .ok (.slice (some ⟨g, 0, none⟩) (l.length + 1) c) w1 ∧
      w1.ownsRow B 85 3 (.slice (some ⟨g, 0, none⟩) (l.length + 1) c) (l ++ [x]).length ((l ++ [x]).flatMap tripE) ∧ Below B w w1 := by
  obtain ⟨g, c, w1, h1, h2, h3, _⟩ := own_push (enc := tripE) Try.underlying83 infoEdC rfl (by decide) (fun _ => rfl) (fun x u hu => by simp [tripE] at hu; rcases hu with rfl | rfl | rfl <;> rfl) x hown hlen (by decide) hb hB 0
  exact ⟨g, c, w1, h1, by rw [List.length_append]; exact h2, h3⟩
theorem pushI2 {B : Nat} {w wr : World} {v : Value} {l : List It} (x : It) (hown : wr.ownsRow B 67 2 v l.length (l.flatMap pairE)) (hlen : l.length + 1 ≤ 1099511627776) (hb : Below B w wr) (hB : B ≤ wr.heap.size) :
    ∃ g c w1, (Builtin.append_ #[65, 65] 65 #[v, .slice (some ⟨wr.heap.size, 0, none⟩) 1 1]).run Try.prog (wr.alloc (.cells #[.int .i64 x.1, .int .i64 x.2] 67)) = .ok (.slice (some ⟨g, 0, none⟩) (l.length + 1) c) w1 ∧
      w1.ownsRow B 67 2 (.slice (some ⟨g, 0, none⟩) (l.length + 1) c) (l ++ [x]).length ((l ++ [x]).flatMap pairE) ∧ Below B w w1 := by
  obtain ⟨g, c, w1, h1, h2, h3, _⟩ := own_push (enc := pairE) Try.underlying65 infoNearV rfl (by decide) (fun _ => rfl) (fun x u hu => by simp [pairE] at hu; rcases hu with rfl | rfl <;> rfl) x hown hlen (by decide) hb hB 0
  exact ⟨g, c, w1, h1, by rw [List.length_append]; exact h2, h3⟩
def nearS (d : List Int) (n : Nat) : W.Row := srtI (itemsTo d n)
theorem nearS_len (d : List Int) (n : Nat) : (nearS d n).length ≤ n := by unfold nearS; rw [srtI_len]; exact itemsTo_len d n
def rowsTo (D : Nat → List Int) (n k : Nat) : List W.Row := (List.range k).map fun s => nearS (D s) n
theorem rowsTo_len (D : Nat → List Int) (n k : Nat) : (rowsTo D n k).length = k := by simp [rowsTo]
theorem rowsTo_snoc (D : Nat → List Int) (n k : Nat) : rowsTo D n (k + 1) = rowsTo D n k ++ [nearS (D k) n] := by simp [rowsTo, List.range_succ]
theorem rowsTo_congr {D D' : Nat → List Int} {n k : Nat} (h : ∀ s, s < k → D s = D' s) : rowsTo D n k = rowsTo D' n k := by
  unfold rowsTo
  exact List.map_congr_left fun s hs => by rw [h s (List.mem_range.1 hs)]
/-- how far all stops are by plain links -/
noncomputable def clD (N : NetP) (s : Nat) : List Int := distR N.cs.length (plainE N) s
noncomputable def mkC (N : NetP) : List W.Row := open Classical in if chkN N = 0 then rowsTo (clD N) N.cs.length N.cs.length else []
theorem clD_is {N : NetP} (h : OkN N) {s : Nat} (hs : s < N.cs.length) : IsDist N.cs.length (plainE N) s (clD N s) := distR_is (plainE_ok h) hs
theorem mkC_ok {N : NetP} (h : OkN N) : mkC N = rowsTo (clD N) N.cs.length N.cs.length := by unfold mkC; rw [if_pos (chkN_iff.2 h)]
theorem mkC_bad {N : NetP} (h : chkN N ≠ 0) : mkC N = [] := by unfold mkC; rw [if_neg h]
def RetM (N : NetP) (w : World) (e : Ending) (w' : World) : Prop := ∃ A c, e = .returned (.tuple #[.slice A (mkC N).length c, .int .i64 (chkN N)]) ∧ RRows w' (mkC N) A (mkC N).length ∧ (mkC N).length ≤ c ∧ c ≤ 9223372036854775807 ∧ Below w.heap.size w w'
theorem plZ_all {N : NetP} {j : Nat} {x : Int} {m : Nat} (hm : N.ls.length = m) (h : (plZ N m)[j]? = some x) : ∃ i : Nat, x = (i : Int) ∧ (plainI N)[j]? = some i := by
  unfold plZ at h
  rw [List.getElem?_map] at h
  obtain ⟨i, hi, rfl⟩ := Option.map_eq_some_iff.1 h
  exact ⟨i, rfl, by unfold plainI; rw [hm]; exact hi⟩
theorem plZ_I {N : NetP} {m : Nat} (hm : N.ls.length = m) : (plZ N m).length = (plainI N).length := by unfold plZ plainI; rw [List.length_map, hm]
set_option maxRecDepth 100000 in
theorem cmake_any {N : NetP} {A B : Option Addr} {n c m d : Nat} (hs : Small N) (w : World) (hr : RNet w N A n B m) :
    Calls Try.prog 41 #[.agg #[.int .i64 N.hz, .slice A n c, .slice B m d]] w (RetM N w) := by
  have hnn : Hid (N.cs.length = n) := hr.nn
  have hmm : Hid (N.ls.length = m) := hr.mm
  have hn1 : n ≤ 1000 := by have := hs.cn; have := hnn.out; omega
  have hm1 : m ≤ 1000 := by have := hs.ln; have := hmm.out; omega
  obtain ⟨hz, hhz⟩ : ∃ q, N.hz = q := ⟨_, rfl⟩
  rw [hhz]
  have hb1 : Below w.heap.size w (w.alloc (.cells #[.int .i64 hz, .slice A n c, .slice B m d] 25)) := (Below.refl _ w).alloc (Nat.le_refl _) _
  obtain ⟨x0, x1, x2⟩ := rowBx3 w 25 (.int .i64 hz) (.slice A n c) (.slice B m d)
  have hbn1 : w.heap.size < (w.alloc (.cells #[.int .i64 hz, .slice A n c, .slice B m d] 25)).heap.size := by simp
  obtain ⟨w1, hw1⟩ : ∃ q, w.alloc (.cells #[.int .i64 hz, .slice A n c, .slice B m d] 25) = q := ⟨_, rfl⟩
  rw [hw1] at hb1 x0 x1 x2 hbn1
  have hup : Hid (∀ w2, Below w1.heap.size w1 w2 → Below w.heap.size w w2) := fun w2 h => hb1.trans (h.mono hb1.size)
  obtain ⟨bn, hbn⟩ : ∃ q, w.heap.size = q := ⟨_, rfl⟩
  rw [hbn] at x0 x1 x2 hbn1
  have hR := Lib.hid (hr.below hb1)
  have hX : Hid (∀ U, Below w1.heap.size w1 U → U.cell? ⟨bn, 0, none⟩ = some (.int .i64 hz) ∧ U.cell? ⟨bn, 1, none⟩ = some (.slice A n c) ∧ U.cell? ⟨bn, 2, none⟩ = some (.slice B m d)) := fun U hU =>
    ⟨(hU.cell (p := ⟨bn, 0, none⟩) hbn1).trans x0, (hU.cell (p := ⟨bn, 1, none⟩) hbn1).trans x1, (hU.cell (p := ⟨bn, 2, none⟩) hbn1).trans x2⟩
  have hhzH := Lib.hid hhz
  have hC := Lib.hid (cplain_any (c := c) (d := d) hs w1 (hr.below hb1))
  rw [hhz] at hC
  clear hb1 hr x0 x1 x2 hs hhz
  obtain ⟨y0, y1, y2⟩ := hX.out _ (Below.refl _ _)
  unfold RetM
  rcases chkN_cases N with hk | hk
  rotate_left
  · have hpr := Lib.hid (mkC_bad (N := N) (by omega))
    have hpl : Hid (plR N = []) := by show _ = _; unfold plR; rw [if_neg (by omega)]
    rw [hpr.out, hk]
    go_enter Try.func41, Try.ntmps41
    go_wp2_with fail
    refine hC.out.mono ?_; rintro e w2 ⟨A2, c2, rfl, _, hb2⟩
    rw [hk]
    clear hk
    go_wp2_with fail
    go_returns
    exact ⟨none, 0, rfl, RRows.nil, by simp, by simp, hup.out _ hb2⟩
  have hN := Lib.hid (chkN_iff.1 hk)
  have hpl : Hid (plR N = plZ N m) := by show _ = _; unfold plR; rw [if_pos hk, hmm.out]
  have hpI := Lib.hid (plZ_I hmm.out)
  have hmk := Lib.hid (mkC_ok hN.out)
  have hkH := Lib.hid hk
  rw [hmk.out, hnn.out, rowsTo_len, hk]
  go_enter Try.func41, Try.ntmps41
  go_wp2_with fail
  refine hC.out.mono ?_; rintro e w2 ⟨A2, c2, rfl, hP, hb2⟩
  rw [hk, hpl.out]
  rw [hpl.out] at hP
  clear hw1 hbn y0 y1 y2 hk
  obtain ⟨y0, y1, y2⟩ := hX.out _ hb2
  obtain ⟨q, hq⟩ : ∃ q, (plZ N m).length = q := ⟨_, rfl⟩
  have hqm : q ≤ 1000 := by have := plZ_len N m; omega
  rw [hq] at hP
  rw [hq]
  have hqH := Lib.hid hq
  have hPh := Lib.hid hP
  have hb2h := Lib.hid hb2
  clear hq hP hb2 hC
  go_wp2_with fail
  go_loopw [6, 28] (fun v i wr => ∃ (j : Nat), j ≤ q ∧ i = .int .i64 j ∧ Hid (wr.ownsRow w2.heap.size 85 3 v (edgesTo N j).length ((edgesTo N j).flatMap tripE)) ∧ Hid (Below w2.heap.size w2 wr)) (fun _ i _ => q - (intOf i).toNat)
  case atStart => exact ⟨0, Nat.zero_le _, rfl, World.ownsRow_nil _ _ _ _, Below.refl _ _⟩
  case round =>
    clear y0 y1 y2
    obtain ⟨j, hj, rfl, own, hb⟩ := hrel
    have hbw := Lib.hid (hb2h.out.trans (hb.out.mono hb2h.out.size))
    obtain ⟨y0, y1, y2⟩ := hX.out _ hbw.out
    by_cases hjq : j < q
    · obtain ⟨bP, oP, x, rfl, hbP, hxj, fP⟩ := (hPh.out.below hb.out).num hjq
      obtain ⟨i, rfl, hij⟩ := plZ_all hmm.out hxj
      obtain ⟨l, hl, hp⟩ := plainI_at hij
      have hlti : i < m := by have := (List.getElem?_eq_some_iff.1 hl).1; have := hmm.out; omega
      obtain ⟨l', hl', b, o, pA, pn, pc, kA, kn, kc, rfl, hbl, _, _, c0, c1, c2', c3, c4, c5', c6⟩ := (hR.out.below hbw.out).lnk hlti
      rw [hl] at hl'; cases hl'
      have hsn := edgesTo_snoc hij hl
      have hel := edgesTo_len N j (by have := hqH.out; have := hpI.out; omega)
      have hjI : (j : Int) < (q : Int) := by omega
      have hiI : (i : Int) < (m : Int) := by omega
      have hb9 : Below wr.heap.size wr (wr.alloc (.cells #[.int .i64 l.a, .int .i64 l.b, .int .i64 l.len, .bool l.door, .int .i64 l.no, .slice pA pn pc, .slice kA kn kc] 38)) := (Below.refl _ wr).alloc (Nat.le_refl _) _
      obtain ⟨d0, d1, d2, d3, d4, d5, d6⟩ := rowBx7 wr 38 (.int .i64 l.a) (.int .i64 l.b) (.int .i64 l.len) (.bool l.door) (.int .i64 l.no) (.slice pA pn pc) (.slice kA kn kc)
      obtain ⟨la, lb, ln, ld, lo, op, cl⟩ := l
      simp only at c0 c1 c2' c3 c4 d0 d1 d2 d3 d4 hb9
      obtain ⟨w9, hw9⟩ : ∃ q, wr.alloc (.cells #[.int .i64 la, .int .i64 lb, .int .i64 ln, .bool ld, .int .i64 lo, .slice pA pn pc, .slice kA kn kc] 38) = q := ⟨_, rfl⟩
      rw [hw9] at d0 d1 d2 d3 d4 d5 d6 hb9
      obtain ⟨bl, hbl'⟩ : ∃ q, wr.heap.size = q := ⟨_, rfl⟩
      rw [hbl'] at d0 d1 d2 d3 d4 d5 d6
      have hbx := hb.out.trans (hb9.mono hb.out.size)
      obtain ⟨g, cc, w10, hrun, own10, hb10⟩ := pushE (la, lb, ln) (own_up own.out hb9) (by omega) hbx hbx.size
      have hsn' : edgesTo N j ++ [((la, lb, ln) : Ed)] = edgesTo N (j + 1) := hsn.symm
      rw [hsn'] at own10
      rw [hel] at hrun own10
      simp only at hrun
      have own10 := Lib.hid own10
      have hb10 := Lib.hid hb10
      clear hsn hsn' hel hb9 hbx hij hl hp own hb hxj
      go_wp2_with (at_builtin; refine wpList_append_run ?a1 (.tmp 37) (.tmp 45) 83 ?a2 ?a3 ?a4 hrun ?_)
      case a1 => rfl
      case a2 => rfl
      try (case a3 => rfl)
      try (case a4 => rfl)
      go_roundw
      case rel => exact ⟨j + 1, by omega, by go_num, own10, hb10⟩
      case measure => simp [intOf]; omega
    · obtain rfl : j = q := by omega
      have own' := own.out
      rw [edgesTo_all (by have := hqH.out; have := hpI.out; omega)] at own'
      obtain ⟨Ae, ce, rfl, hRe, _, _⟩ := Rd.of_own (enc := tripE) (fun _ => rfl) rfl own'
      have hchk := plainE_chk hN.out
      rw [hnn.out] at hchk
      have hAll := Lib.hid (All_ok (c := ce) n hRe (by have := plainE_len N; have := hmm.out; omega) hchk)
      have hbO := Lib.hid (hup.out _ hbw.out)
      obtain ⟨wo, hwo⟩ : ∃ q, q = wr := ⟨_, rfl⟩
      subst hwo
      clear own own' hRe hchk hb
      go_wp2_with fail
      refine hAll.out.mono ?_; rintro e w4 ⟨A4, c4, L, rfl, hR4, hok, hb4⟩
      obtain ⟨D, hRD, hDist⟩ := hok.rows hR4.len
      have hbO4 := Lib.hid (hbO.out.trans (hb4.mono hbO.out.size))
      have hR4h := Lib.hid hR4
      have hRDh := Lib.hid hRD
      have hDD : Hid (rowsTo D n n = rowsTo (clD N) n n) := rowsTo_congr fun s hs => (hDist s hs).uniq (by have := plainE_ok hN.out; rwa [hnn.out] at this) (by have := clD_is hN.out (s := s) (by rw [hnn.out]; exact hs); rwa [hnn.out] at this)
      clear hR4 hok hRD hb4 hAll y0 y1 y2
      go_wp2_with fail
      go_loopw [12, 58] (fun v i wr => ∃ (k : Nat) (cv : List RwV), k ≤ n ∧ i = .int .i64 k ∧ Hid (NsV wr w4.heap.size v (rowsTo D n k) cv) ∧ Hid (Below w4.heap.size w4 wr)) (fun _ i _ => n - (intOf i).toNat)
      case atStart => exact ⟨0, [], Nat.zero_le _, rfl, NsV.nil, Below.refl _ _⟩
      case round =>
        obtain ⟨k, cv, hk, rfl, hC, hb⟩ := hrel
        by_cases hkn : k < n
        rotate_left
        · obtain rfl : k = n := by omega
          obtain ⟨A', c', rfl, hrow, h1, h2⟩ := hC.out.rows
          rw [rowsTo_len] at hrow h1
          have hrowH := Lib.hid hrow
          have hlenk := rowsTo_len D k k
          clear hrow hC
          rw [hlenk]
          clear hlenk
          go_wp2_with fail
          go_returns
          exact ⟨A', c', rfl, (by rw [← hDD.out]; exact hrowH.out), h1, h2, hbO4.out.trans (hb.out.mono hbO4.out.size)⟩
        obtain ⟨bR, oR, fb, rfl, hbR, hLk, fR⟩ := (hR4h.out.below hb.out).row hkn
        obtain ⟨hfb, hDl⟩ := (hRDh.out.below hb.out) k fb hLk
        have hfbl := (Array.getElem?_eq_some_iff.1 hfb).1
        have hkI : (k : Int) < (n : Int) := by omega
        have hfbH := Lib.hid hfb
        obtain ⟨wk, hwk⟩ : ∃ q, q = wr := ⟨_, rfl⟩
        subst hwk
        have hDlH := Lib.hid hDl
        clear hLk hfb hDl
        go_wp2_with fail
        go_loopw [15, 64] (fun v i wr => ∃ (t : Nat), t ≤ n ∧ i = .int .i64 t ∧ Hid (wr.ownsRow wk.heap.size 67 2 v (itemsTo (D k) t).length ((itemsTo (D k) t).flatMap pairE)) ∧ Hid (Below wk.heap.size wk wr)) (fun _ i _ => n - (intOf i).toNat)
        case atStart => exact ⟨0, Nat.zero_le _, rfl, World.ownsRow_nil _ _ _ _, Below.refl _ _⟩
        case round =>
          obtain ⟨t, ht, rfl, own, hbk⟩ := hrel
          by_cases htn : t < n
          · have hDt := lab_get (D := D k) (s := t) (by rw [hDlH.out]; exact htn)
            have hblk := (hbk.out.block fb hfbl).trans hfbH.out
            have fd : wr.cell? ⟨fb, t, none⟩ = some (.int .i64 (lab (D k) t)) := by
              rw [cell_of_row _ _ _ _ _ _ hblk]
              simp [hDt]
            have htI : (t : Int) < (n : Int) := by omega
            have hsn := itemsTo_snoc (D k) t
            have hil := itemsTo_len (D k) t
            obtain ⟨x, hx⟩ : ∃ q, lab (D k) t = q := ⟨_, rfl⟩
            rw [hx] at fd hsn
            clear hblk hDt hx
            by_cases hxi : x = W.inf
            · have e1 : (x != 4611686018427387904) = false := by rw [hxi]; rfl
              rw [if_pos hxi, List.append_nil] at hsn
              have own2 : Hid (wr.ownsRow wk.heap.size 67 2 u15 (itemsTo (D k) (t + 1)).length ((itemsTo (D k) (t + 1)).flatMap pairE)) := by rw [hsn]; exact own
              clear hsn hil hxi own
              go_wp2_with fail
              go_roundw
              case rel => exact ⟨t + 1, by omega, by go_num, own2, hbk⟩
              case measure => simp [intOf]; omega
            · have e1 : (x != 4611686018427387904) = true := by simp only [bne_iff_ne, ne_eq]; exact hxi
              rw [if_neg hxi] at hsn
              obtain ⟨g, cc, w10, hrun, own10, hb10⟩ := pushI2 (x, (t : Int)) own.out (by omega) hbk.out hbk.out.size
              rw [← hsn] at own10
              simp only at hrun
              have own10 := Lib.hid own10
              have hb10 := Lib.hid hb10
              have hil2 : Hid ((itemsTo (D k) t).length + 1 = (itemsTo (D k) (t + 1)).length) := by show _ = _; rw [hsn, List.length_append]; rfl
              obtain ⟨qi, hqi⟩ : ∃ q, (itemsTo (D k) t).length + 1 = q := ⟨_, rfl⟩
              rw [hqi] at hrun own10
              clear hsn hil hxi own hil2 hqi
              go_wp2_with (at_builtin; refine wpList_append_run ?b1 (.tmp 71) (.tmp 75) 65 ?b2 ?b3 ?b4 hrun ?_)
              case b1 => rfl
              case b2 => rfl
              try (case b3 => rfl)
              try (case b4 => rfl)
              go_roundw
              case rel => exact ⟨t + 1, by omega, by go_num, own10, hb10⟩
              case measure => simp [intOf]; omega
          · obtain rfl : t = n := by omega
            have hSo := Lib.hid (sortN_any wk.heap.size u15 (itemsTo (D k) t) wr own.out (by have := itemsTo_len (D k) t; omega))
            have hownb : ∀ g, u15.ownBlock = some g → wk.heap.size ≤ g := fun g hg => (own.out.lt g hg).1
            have hownbH := Lib.hid hownb
            clear own hownb
            go_wp2_with fail
            refine hSo.out.mono ?_; rintro e w11 ⟨rfl, own11, hgr⟩
            have hb11 := hbk.out.grown hgr hbk.out.size hownbH.out
            obtain ⟨A11, c11, rfl, _, h1, h2⟩ := Rd.of_own (enc := pairE) (l := srtI (itemsTo (D k) t)) (fun _ => rfl) rfl own11
            have hOwn : OwnN w11 wk.heap.size (A11, c11) (nearS (D k) t) := ⟨own11, h1, h2⟩
            have hbw11 := hb.out.trans (hb11.mono hb.out.size)
            have hnl := nearS_len (D k) t
            obtain ⟨g, cc, w12, hrun, hC12, hb12, _⟩ := (hC.out.up hb11).push (nearS (D k) t, (A11, c11)) (hOwn.low hb.out.size) (by rw [rowsTo_len]; omega) hbw11.size
            rw [rowsTo_len, ← rowsTo_snoc] at hC12
            rw [rowsTo_len] at hrun
            have hlen : (nearS (D k) t).length = (srtI (itemsTo (D k) t)).length := rfl
            simp only [rwE, slV, hlen] at hrun
            have hC12h := Lib.hid hC12
            have hb12h := Lib.hid (hbw11.trans hb12)
            obtain ⟨qi, hqi⟩ : ∃ q, (srtI (itemsTo (D k) t)).length = q := ⟨_, rfl⟩
            rw [hqi] at hrun
            rw [hqi]
            clear own11 hgr hb11 hOwn hbw11 hnl hC12 hb12 hlen hqi hSo hC h1 h2
            go_wp2_with (at_builtin; refine wpList_append_run ?d1 (.tmp 80) (.tmp 82) 33 ?d2 ?d3 ?d4 hrun ?_)
            case d1 => rfl
            case d2 => rfl
            try (case d3 => rfl)
            try (case d4 => rfl)
            go_roundw
            case rel => exact ⟨k + 1, _, by omega, by go_num, hC12h, hb12h⟩
            case measure => simp [intOf]; omega
end Go.Proofs.Ytonkkibnigdfbaa
