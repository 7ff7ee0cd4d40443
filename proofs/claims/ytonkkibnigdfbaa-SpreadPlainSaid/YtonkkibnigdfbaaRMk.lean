/-
  Walk: timetableref14.Make (clo/gen8.py).
-/
import Derived.Test.YtonkkibnigdfbaaRmPlain
namespace Go.Proofs.Ytonkkibnigdfbaa
open Go.RowKit Go.Shelf B K
set_option linter.unusedVariables false
set_option linter.unusedSimpArgs false
set_option maxHeartbeats 8000000
theorem setl7 {w : World} {g : Nat} {t : TypeId} {z0 z1 z2 z3 z4 z5 z6 : Value} (u0 u1 u2 u3 u4 u5 u6 : Value) (h : w.heap[g]? = some (.cells #[z0, z1, z2, z3, z4, z5, z6] t (0, 0))) :
    (w.frozen? ⟨g, 0, none⟩ = false ∧ w.frozen? ⟨g, 1, none⟩ = false ∧ w.frozen? ⟨g, 2, none⟩ = false ∧ w.frozen? ⟨g, 3, none⟩ = false ∧ w.frozen? ⟨g, 4, none⟩ = false ∧ w.frozen? ⟨g, 5, none⟩ = false ∧ w.frozen? ⟨g, 6, none⟩ = false) ∧
    (((((((w.setCell ⟨g, 0, none⟩ u0).setCell ⟨g, 1, none⟩ u1).setCell ⟨g, 2, none⟩ u2).setCell ⟨g, 3, none⟩ u3).setCell ⟨g, 4, none⟩ u4).setCell ⟨g, 5, none⟩ u5).setCell ⟨g, 6, none⟩ u6).heap[g]? = some (.cells #[u0, u1, u2, u3, u4, u5, u6] t (0, 0)) := by
  have hb := (Array.getElem?_eq_some_iff.1 h).1
  refine ⟨by simp [World.frozen?, h], ?_⟩
  have e : w.heap[g] = .cells #[z0, z1, z2, z3, z4, z5, z6] t (0, 0) := by rw [Array.getElem?_eq_getElem hb] at h; exact Option.some.inj h
  simp [World.setCell, h, hb, Array.getElem_modify, e]
theorem app_nears {w : World} {v : Value} {base : Nat} {L R : List It} {A : Option Addr} {m : Nat} (c : Nat) (own : w.ownsRow base 67 2 v L.length (L.flatMap pairE)) (hr : Rd w 2 pairE A m R) (hlen : L.length + m ≤ 1099511627776) (hB : base ≤ w.heap.size) :
    ∃ v' w1, (Builtin.append_ #[65, 65] 65 #[v, .slice A m c]).run Try.prog w = .ok v' w1 ∧ w1.ownsRow base 67 2 v' (L ++ R).length ((L ++ R).flatMap pairE) ∧ w.grownBy w1 v.ownBlock ∧ (v'.ownBlock = v.ownBlock ∨ v'.ownBlock = some w.heap.size) := by
  obtain ⟨v', w1, h1, h2, h3, h4⟩ := own_append (enc := pairE) Try.underlying65 infoNearV rfl (by decide) pairE_len2 pairE_one c own hr hlen (by decide) hB
  refine ⟨v', w1, h1, ?_, h3, h4⟩
  rw [List.length_append, hr.len]
  exact h2
theorem nearS_zero (d : List Int) : nearS d 0 = [] := by simp [nearS, srtI, itemsTo]
theorem run_headN {P : Program} {t e : TypeId} {s : Nat} (ht : P.underlying t = some (.slice e)) (he : P.elem t = e) (hs : ∀ W, (sizeOf e).run P W = .ok s W) (A : Option Addr) (n c k : Nat) (hk : k ≤ c) (kl : IntKind) (W : World) :
    (Instr.slice t (.slice A n c) none (some (.int kl (k : Int))) none).run P W = .ok (.slice A k c) W := by
  have := run_head ht he hs A n c k hk kl W
  rwa [cutA_zero] at this
set_option maxRecDepth 100000 in
theorem rmake_any {N : NetP} {A B : Option Addr} {n c m d : Nat} (hs : Small N) (w : World) (hr : RNet w N A n B m) :
    Calls Try.prog 20 #[.agg #[.int .i64 N.hz, .slice A n c, .slice B m d]] w (RetM N w) := by
  have hnn : Hid (N.cs.length = n) := hr.nn
  have hmm : Hid (N.ls.length = m) := hr.mm
  have hn1 : n ≤ 1000 := by have := hs.cn; have := hnn.out; omega
  have hm1 : m ≤ 1000 := by have := hs.ln; have := hmm.out; omega
  obtain ⟨hz, hhz⟩ : ∃ q, N.hz = q := ⟨_, rfl⟩
  rw [hhz]
  have hb1 : Below w.heap.size w (w.alloc (.cells #[.int .i64 hz, .slice A n c, .slice B m d] 25)) := (Below.refl _ w).alloc (Nat.le_refl _) _
  obtain ⟨x0, x1, x2⟩ := rowBx3 w 25 (.int .i64 hz) (.slice A n c) (.slice B m d)
  have hbn1 : w.heap.size < (w.alloc (.cells #[.int .i64 hz, .slice A n c, .slice B m d] 25)).heap.size := by simp
  obtain ⟨w1, hw1⟩ : ∃ q, w.alloc (.cells #[.int .i64 hz, .slice A n c, .slice B m d] 25) = q := ⟨_, rfl⟩
  rw [hw1] at hb1 x0 x1 x2 hbn1
  have hup : Hid (∀ w2, Below w1.heap.size w1 w2 → Below w.heap.size w w2) := fun w2 h => hb1.trans (h.mono hb1.size)
  obtain ⟨bn, hbn⟩ : ∃ q, w.heap.size = q := ⟨_, rfl⟩
  rw [hbn] at x0 x1 x2 hbn1
  have hR := Lib.hid (hr.below hb1)
  have hX : Hid (∀ U, Below w1.heap.size w1 U → U.cell? ⟨bn, 0, none⟩ = some (.int .i64 hz) ∧ U.cell? ⟨bn, 1, none⟩ = some (.slice A n c) ∧ U.cell? ⟨bn, 2, none⟩ = some (.slice B m d)) := fun U hU =>
    ⟨(hU.cell (p := ⟨bn, 0, none⟩) hbn1).trans x0, (hU.cell (p := ⟨bn, 1, none⟩) hbn1).trans x1, (hU.cell (p := ⟨bn, 2, none⟩) hbn1).trans x2⟩
  have hhzH := Lib.hid hhz
  have hC := Lib.hid (rPlain_any (c := c) (d := d) hs w1 (hr.below hb1))
  rw [hhz] at hC
  clear hb1 hr x0 x1 x2 hs hhz
  obtain ⟨y0, y1, y2⟩ := hX.out _ (Below.refl _ _)
  unfold RetM
  rcases chkN_cases N with hk | hk
  rotate_left
  · have hpr := Lib.hid (mkC_bad (N := N) (by omega))
    have hpl : Hid (plR N = []) := by show _ = _; unfold plR; rw [if_neg (by omega)]
    rw [hpr.out, hk]
    go_enter Try.func20, Try.ntmps20
    go_wp2_with fail
    refine hC.out.mono ?_; rintro e w2 ⟨A2, c2, rfl, _, hb2⟩
    rw [hk]
    clear hk
    go_wp2_with fail
    go_returns
    exact ⟨none, 0, rfl, RRows.nil, by simp, by simp, hup.out _ hb2⟩
  have hN := Lib.hid (chkN_iff.1 hk)
  have hpl : Hid (plR N = plZ N m) := by show _ = _; unfold plR; rw [if_pos hk, hmm.out]
  have hpI := Lib.hid (plZ_I hmm.out)
  have hmk := Lib.hid (mkC_ok hN.out)
  rw [hmk.out, hnn.out, rowsTo_len, hk]
  go_enter Try.func20, Try.ntmps20
  go_wp2_with fail
  refine hC.out.mono ?_; rintro e w2 ⟨A2, c2, rfl, hP, hb2⟩
  rw [hk, hpl.out]
  rw [hpl.out] at hP
  clear hw1 hbn y0 y1 y2 hk
  obtain ⟨y0, y1, y2⟩ := hX.out _ hb2
  obtain ⟨q, hq⟩ : ∃ q, (plZ N m).length = q := ⟨_, rfl⟩
  have hqm : q ≤ 1000 := by have := plZ_len N m; omega
  rw [hq] at hP
  rw [hq]
  have hqH := Lib.hid hq
  have hPh := Lib.hid hP
  have hb2h := Lib.hid hb2
  clear hq hP hb2 hC
  go_wp2_with fail
  go_loopw [6, 7] (fun v i wr => ∃ (j : Nat), j ≤ q ∧ i = .int .i64 j ∧ Hid (wr.ownsRow w2.heap.size 85 3 v (edgesTo N j).length ((edgesTo N j).flatMap tripE)) ∧ Hid (Below w2.heap.size w2 wr)) (fun _ i _ => q - (intOf i).toNat)
  case atStart => exact ⟨0, Nat.zero_le _, rfl, World.ownsRow_nil _ _ _ _, Below.refl _ _⟩
  case round =>
    clear y0 y1 y2
    obtain ⟨j, hj, rfl, own, hb⟩ := hrel
    have hbw := Lib.hid (hb2h.out.trans (hb.out.mono hb2h.out.size))
    obtain ⟨y0, y1, y2⟩ := hX.out _ hbw.out
    by_cases hjq : j < q
    · obtain ⟨bP, oP, x, rfl, hbP, hxj, fP⟩ := (hPh.out.below hb.out).num hjq
      obtain ⟨i, rfl, hij⟩ := plZ_all hmm.out hxj
      obtain ⟨l, hl, hp⟩ := plainI_at hij
      have hlti : i < m := by have := (List.getElem?_eq_some_iff.1 hl).1; have := hmm.out; omega
      obtain ⟨l', hl', b, o, pA, pn, pc, kA, kn, kc, rfl, hbl, _, _, c0, c1, c2', c3, c4, c5', c6⟩ := (hR.out.below hbw.out).lnk hlti
      rw [hl] at hl'; cases hl'
      have hsn := edgesTo_snoc hij hl
      have hel := edgesTo_len N j (by have := hqH.out; have := hpI.out; omega)
      have hjI : (j : Int) < (q : Int) := by omega
      have hiI : (i : Int) < (m : Int) := by omega
      have hbnr : bn < wr.heap.size := by have := hbw.out.size; omega
      obtain ⟨la, lb, ln, ld, lo, op, cl⟩ := l
      simp only at c0 c1 c2' c3 c4
      have hsnH := Lib.hid hsn
      have helH := Lib.hid hel
      clear hsn hel hij hl hp hxj
      go_wp2_with fail
      go_upto_region 8 with fail
      refine wp_region_ghost (fun fl x w => GO wr 38 #[.int .i64 0, .int .i64 0, .int .i64 0, .bool false, .int .i64 0, .slice none 0 0, .slice none 0 0] #[.int .i64 la, .int .i64 lb, .int .i64 ln, .bool ld, .int .i64 lo, .slice pA pn pc, .slice kA kn kc] (fl 8) (fl 9) (x 8) w) (by kernel_rfl) (by kernel_rfl) (by kernel_rfl) (by kernel_rfl) (by kernel_rfl) ?_ ?_
      · intro x
        exact GO.start rfl rfl
      intro base O hbase hO
      have kx1 : Hid (∀ xs, evX base O xs (.tmp 1) = .pointer (some ⟨bn, 0, none⟩)) := fun xs => by rw [hbase, hO]; rfl
      have kx4 : Hid (∀ xs, evX base O xs (.tmp 4) = .slice (some ⟨bP, oP, none⟩) q c2) := fun xs => by rw [hbase, hO]; rfl
      have kx7 : Hid (∀ xs, evX base O xs (.tmp 7) = .int .i64 (j : Int)) := fun xs => by rw [hbase, hO]; rfl
      have kx8 : Hid (∀ xs, evX base O xs (.tmp 8) = xs 8) := fun xs => by rw [hO]; rfl
      have kx30 : Hid (∀ xs, evX base O xs (.tmp 30) = xs 0) := fun xs => by rw [hO]; rfl
      have kx31 : Hid (∀ xs, evX base O xs (.tmp 31) = xs 1) := fun xs => by rw [hO]; rfl
      have kx32 : Hid (∀ xs, evX base O xs (.tmp 32) = xs 2) := fun xs => by rw [hO]; rfl
      have kx33 : Hid (∀ xs, evX base O xs (.tmp 33) = xs 3) := fun xs => by rw [hO]; rfl
      have kx34 : Hid (∀ xs, evX base O xs (.tmp 34) = xs 4) := fun xs => by rw [hO]; rfl
      have kx35 : Hid (∀ xs, evX base O xs (.tmp 35) = xs 5) := fun xs => by rw [hO]; rfl
      have kx36 : Hid (∀ xs, evX base O xs (.tmp 36) = xs 6) := fun xs => by rw [hO]; rfl
      have kx37 : Hid (∀ xs, evX base O xs (.tmp 37) = xs 7) := fun xs => by rw [hO]; rfl
      clear hbase hO
      apply gh_det (n := 0)
      · intro fl xs w ev hG hD hl hdone hev K hK
        have e1 := (hev (.tmp 1)).trans (kx1.out xs)
        rw [if_pos (wantedX_none rfl)]
        have ef : ∀ f, ev (.func f) = .func (.func f) #[] #[] := fun f => (hev _).trans rfl
        clear hev hD
        go_simp
        exact hK _ _ rfl hG
      apply gh_det (n := 1)
      · intro fl xs w ev hG hD hl hdone hev K hK
        have e30 := (hev (.tmp 30)).trans (kx30.out xs)
        have d0 := hD.at_ 0 rfl rfl
        replace e30 := e30.trans d0
        rw [if_pos (wantedX_none rfl)]
        have ef : ∀ f, ev (.func f) = .func (.func f) #[] #[] := fun f => (hev _).trans rfl
        clear hev hD
        have hbw := hG.1
        have m0 := (hbw.cell (p := ⟨bn, _, none⟩) hbnr).trans y2
        go_simp
        exact hK _ _ rfl hG
      apply gh_det (n := 2)
      · intro fl xs w ev hG hD hl hdone hev K hK
        have e4 := (hev (.tmp 4)).trans (kx4.out xs)
        rw [if_pos (wantedX_none rfl)]
        have ef : ∀ f, ev (.func f) = .func (.func f) #[] #[] := fun f => (hev _).trans rfl
        clear hev hD
        go_simp
        exact hK _ _ rfl hG
      apply gh_det (n := 3)
      · intro fl xs w ev hG hD hl hdone hev K hK
        have e7 := (hev (.tmp 7)).trans (kx7.out xs)
        rw [if_pos (wantedX_none rfl)]
        have ef : ∀ f, ev (.func f) = .func (.func f) #[] #[] := fun f => (hev _).trans rfl
        clear hev hD
        go_simp
        exact hK _ _ rfl hG
      apply gh_det (n := 4)
      · intro fl xs w ev hG hD hl hdone hev K hK
        have e32 := (hev (.tmp 32)).trans (kx32.out xs)
        have d2 := hD.at_ 2 rfl rfl
        replace e32 := e32.trans d2
        have e33 := (hev (.tmp 33)).trans (kx33.out xs)
        have d3 := hD.at_ 3 rfl rfl
        replace e33 := e33.trans d3
        rw [if_pos (wantedX_none rfl)]
        have ef : ∀ f, ev (.func f) = .func (.func f) #[] #[] := fun f => (hev _).trans rfl
        clear hev hD
        go_simp
        exact hK _ _ rfl hG
      apply gh_det (n := 5)
      · intro fl xs w ev hG hD hl hdone hev K hK
        have e34 := (hev (.tmp 34)).trans (kx34.out xs)
        have d4 := hD.at_ 4 rfl rfl
        replace e34 := e34.trans d4
        rw [if_pos (wantedX_none rfl)]
        have ef : ∀ f, ev (.func f) = .func (.func f) #[] #[] := fun f => (hev _).trans rfl
        clear hev hD
        have hbw := hG.1
        have m0 := (hbw.cell (p := ⟨bP, _, none⟩) hbP).trans fP
        go_simp
        exact hK _ _ rfl hG
      apply gh_det (n := 6)
      · intro fl xs w ev hG hD hl hdone hev K hK
        have e31 := (hev (.tmp 31)).trans (kx31.out xs)
        have d1 := hD.at_ 1 rfl rfl
        replace e31 := e31.trans d1
        have e35 := (hev (.tmp 35)).trans (kx35.out xs)
        have d5 := hD.at_ 5 rfl rfl
        replace e35 := e35.trans d5
        rw [if_pos (wantedX_none rfl)]
        have ef : ∀ f, ev (.func f) = .func (.func f) #[] #[] := fun f => (hev _).trans rfl
        clear hev hD
        go_simp
        exact hK _ _ rfl hG
      apply gh_det (n := 7)
      · intro fl xs w ev hG hD hl hdone hev K hK
        have e36 := (hev (.tmp 36)).trans (kx36.out xs)
        have d6 := hD.at_ 6 rfl rfl
        replace e36 := e36.trans d6
        rw [if_pos (wantedX_none rfl)]
        have ef : ∀ f, ev (.func f) = .func (.func f) #[] #[] := fun f => (hev _).trans rfl
        clear hev hD
        have hbw := hG.1
        have m0 := (hbw.cell (p := ⟨b, _, none⟩) hbl).trans c0
        have m1 := (hbw.cell (p := ⟨b, _, none⟩) hbl).trans c1
        have m2 := (hbw.cell (p := ⟨b, _, none⟩) hbl).trans c2'
        have m3 := (hbw.cell (p := ⟨b, _, none⟩) hbl).trans c3
        have m4 := (hbw.cell (p := ⟨b, _, none⟩) hbl).trans c4
        have m5 := (hbw.cell (p := ⟨b, _, none⟩) hbl).trans c5'
        have m6 := (hbw.cell (p := ⟨b, _, none⟩) hbl).trans c6
        go_simp
        exact hK _ _ rfl hG
      refine gh_any (n := 8) (fun _ => True) ?_ ?_
      · intro fl xs w ev hG hD hl hdone hev K hK
        rw [if_pos (wantedX_none rfl)]
        have ef : ∀ f, ev (.func f) = .func (.func f) #[] #[] := fun f => (hev _).trans rfl
        clear hev hD
        go_simp
        exact hK _ _ trivial (hG.alloc hl)
      refine gh_any (n := 9) (fun _ => True) ?_ ?_
      · intro fl xs w ev hG hD hl hdone hev K hK
        have e8 := (hev (.tmp 8)).trans (kx8.out xs)
        have e37 := (hev (.tmp 37)).trans (kx37.out xs)
        have d7 := hD.at_ 7 rfl rfl
        replace e37 := e37.trans d7
        rw [if_pos (wantedX_none rfl)]
        have ef : ∀ f, ev (.func f) = .func (.func f) #[] #[] := fun f => (hev _).trans rfl
        clear hev hD
        obtain ⟨g, eg, hg, hgc⟩ := hG.2.2 (done_of hdone 8 rfl)
        have hl17 := hl
        rw [show fl 9 = false from hl, if_neg (by simp)] at hgc
        obtain ⟨⟨f0, f1, f2, f3, f4, f5, f6⟩, hnew⟩ := setl7 (.int .i64 la) (.int .i64 lb) (.int .i64 ln) (.bool ld) (.int .i64 lo) (.slice pA pn pc) (.slice kA kn kc) hgc
        have hst := hG.store (done_of hdone 8 rfl) eg (((((((((Below.refl _ _).setCell hg _).setCell hg _).setCell hg _).setCell hg _).setCell hg _).setCell hg _).setCell hg _)) hnew
        rw [eg] at e8
        have q0 : w.cell? ⟨g, 0, none⟩ = some (.int .i64 0) := by rw [cell_of_row _ _ _ _ _ _ hgc]; rfl
        have q1 : w.cell? ⟨g, 1, none⟩ = some (.int .i64 0) := by rw [cell_of_row _ _ _ _ _ _ hgc]; rfl
        have q2 : w.cell? ⟨g, 2, none⟩ = some (.int .i64 0) := by rw [cell_of_row _ _ _ _ _ _ hgc]; rfl
        have q3 : w.cell? ⟨g, 3, none⟩ = some (.bool false) := by rw [cell_of_row _ _ _ _ _ _ hgc]; rfl
        have q4 : w.cell? ⟨g, 4, none⟩ = some (.int .i64 0) := by rw [cell_of_row _ _ _ _ _ _ hgc]; rfl
        have q5 : w.cell? ⟨g, 5, none⟩ = some (.slice none 0 0) := by rw [cell_of_row _ _ _ _ _ _ hgc]; rfl
        have q6 : w.cell? ⟨g, 6, none⟩ = some (.slice none 0 0) := by rw [cell_of_row _ _ _ _ _ _ hgc]; rfl
        go_simp
        exact hK _ _ trivial hst
      clear kx1 kx4 kx7 kx8 kx30 kx31 kx32 kx33 kx34 kx35 kx36 kx37
      intro xs w9 hG hI
      clear hI
      obtain ⟨hb9, _, hgf⟩ := hG
      obtain ⟨bl, eg, hg0, hgc⟩ := hgf rfl
      rw [if_pos rfl] at hgc
      have d0 : w9.cell? ⟨bl, 0, none⟩ = some (.int .i64 la) := by rw [cell_of_row _ _ _ _ _ _ hgc]; rfl
      have d1 : w9.cell? ⟨bl, 1, none⟩ = some (.int .i64 lb) := by rw [cell_of_row _ _ _ _ _ _ hgc]; rfl
      have d2 : w9.cell? ⟨bl, 2, none⟩ = some (.int .i64 ln) := by rw [cell_of_row _ _ _ _ _ _ hgc]; rfl
      simp only [List.append_eq, List.cons_append, List.nil_append, setAll, List.setIfInBounds_toArray, List.set_cons_zero, List.set_cons_succ]
      rw [eg]
      clear hgf hgc eg y0 y1 y2 fP c0 c1 c2' c3 c4 c5' c6
      have hbx := hb.out.trans (hb9.mono hb.out.size)
      obtain ⟨g, cc, w10, hrun, own10, hb10⟩ := pushE (la, lb, ln) (own_up own.out hb9) (by have := helH.out; omega) hbx hbx.size
      have hsn' : edgesTo N j ++ [((la, lb, ln) : Ed)] = edgesTo N (j + 1) := hsnH.out.symm
      rw [hsn'] at own10
      rw [helH.out] at hrun own10
      simp only at hrun
      have own10 := Lib.hid own10
      have hb10 := Lib.hid hb10
      clear hsn' hb9 hbx own hb
      go_wp2_with (at_builtin; refine wpList_append_run ?a1 (.tmp 38) (.tmp 46) 83 ?a2 ?a3 ?a4 hrun ?_)
      case a1 => rfl
      case a2 => rfl
      try (case a3 => rfl)
      try (case a4 => rfl)
      go_roundw
      case rel => exact ⟨j + 1, by omega, by go_num, own10, hb10⟩
      case measure => simp [intOf]; omega
    · obtain rfl : j = q := by omega
      have own' := own.out
      rw [edgesTo_all (by have := hqH.out; have := hpI.out; omega)] at own'
      obtain ⟨Ae, ce, rfl, hRe, _, _⟩ := Rd.of_own (enc := tripE) (fun _ => rfl) rfl own'
      have hchk := plainE_chk hN.out
      rw [hnn.out] at hchk
      have hAll := Lib.hid (rAll_ok (c := ce) n (clD N) hRe (by have := plainE_len N; have := hmm.out; omega) hchk (fun i hi => by have := clD_is hN.out (s := i) (by rw [hnn.out]; exact hi); rwa [hnn.out] at this))
      have hbO := Lib.hid (hup.out _ hbw.out)
      obtain ⟨wo, hwo⟩ : ∃ q, q = wr := ⟨_, rfl⟩
      subst hwo
      clear own own' hRe hchk hb
      go_wp2_with fail
      refine hAll.out.mono ?_; rintro e w4 ⟨A4, c4, L, rfl, hR4, hok, hb4⟩
      obtain ⟨D, hRD, hDist⟩ := hok.rows hR4.len
      have hbO4 := Lib.hid (hbO.out.trans (hb4.mono hbO.out.size))
      have hR4h := Lib.hid hR4
      have hRDh := Lib.hid hRD
      have hDD : Hid (rowsTo D n n = rowsTo (clD N) n n) := rowsTo_congr fun s hs => (hDist s hs).uniq (by have := plainE_ok hN.out; rwa [hnn.out] at this) (by have := clD_is hN.out (s := s) (by rw [hnn.out]; exact hs); rwa [hnn.out] at this)
      clear hR4 hok hRD hb4 hAll y0 y1 y2
      go_wp2_with fail
      go_loopw [11, 12] (fun v i wr => ∃ (k : Nat) (cv : List RwV), k ≤ n ∧ i = .int .i64 k ∧ Hid (NsV wr w4.heap.size v (rowsTo D n k) cv) ∧ Hid (Below w4.heap.size w4 wr)) (fun _ i _ => n - (intOf i).toNat)
      case atStart => exact ⟨0, [], Nat.zero_le _, rfl, NsV.nil, Below.refl _ _⟩
      case round =>
        obtain ⟨k, cv, hk, rfl, hC, hb⟩ := hrel
        by_cases hkn : k < n
        rotate_left
        · obtain rfl : k = n := by omega
          obtain ⟨A', c', rfl, hrow, h1, h2⟩ := hC.out.rows
          rw [rowsTo_len] at hrow h1
          have hrowH := Lib.hid hrow
          have hlenk := rowsTo_len D k k
          clear hrow hC
          rw [hlenk]
          clear hlenk
          go_wp2_with fail
          go_returns
          exact ⟨A', c', rfl, (by rw [← hDD.out]; exact hrowH.out), h1, h2, hbO4.out.trans (hb.out.mono hbO4.out.size)⟩
        obtain ⟨bR, oR, fb, rfl, hbR, hLk, fR⟩ := (hR4h.out.below hb.out).row hkn
        obtain ⟨hfb, hDl⟩ := (hRDh.out.below hb.out) k fb hLk
        have hfbl := (Array.getElem?_eq_some_iff.1 hfb).1
        have hkI : (k : Int) < (n : Int) := by omega
        have hfbH := Lib.hid hfb
        obtain ⟨wk, hwk⟩ : ∃ q, q = wr := ⟨_, rfl⟩
        subst hwk
        have hDlH := Lib.hid hDl
        clear hLk hfb hDl
        go_wp2_with fail
        go_loopw [13, 14] (fun v i wr => ∃ (t : Nat), t ≤ n ∧ i = .int .i64 t ∧ Hid (wr.ownsRow wk.heap.size 67 2 v (nearS (D k) t).length ((nearS (D k) t).flatMap pairE)) ∧ Hid (Below wk.heap.size wk wr)) (fun _ i _ => n - (intOf i).toNat)
        case atStart => exact ⟨0, Nat.zero_le _, rfl, by rw [nearS_zero]; exact World.ownsRow_nil _ _ _ _, Below.refl _ _⟩
        case round =>
          obtain ⟨t, ht, rfl, own, hbk⟩ := hrel
          have fw := (hbk.out.cell (p := ⟨bR, _, none⟩) hbR).trans fR
          by_cases htn : t < n
          · have hDt := lab_get (D := D k) (s := t) (by rw [hDlH.out]; exact htn)
            have hblk := (hbk.out.block fb hfbl).trans hfbH.out
            have fd : wr.cell? ⟨fb, t, none⟩ = some (.int .i64 (lab (D k) t)) := by
              rw [cell_of_row _ _ _ _ _ _ hblk]
              simp [hDt]
            have fdk : wk.cell? ⟨fb, t, none⟩ = some (.int .i64 (lab (D k) t)) := by
              rw [cell_of_row _ _ _ _ _ _ hfbH.out]
              simp [hDt]
            have htI : (t : Int) < (n : Int) := by omega
            obtain ⟨x, hx⟩ : ∃ q, lab (D k) t = q := ⟨_, rfl⟩
            rw [hx] at fd fdk
            have hxH := Lib.hid hx
            have fdk := Lib.hid fdk
            clear hblk hDt hx
            rename_i fdkX
            clear fdkX
            by_cases hxi : x = W.inf
            · have e1 : (x == 4611686018427387904) = true := by rw [hxi]; rfl
              have own2 : Hid (wr.ownsRow wk.heap.size 67 2 u13 (nearS (D k) (t + 1)).length ((nearS (D k) (t + 1)).flatMap pairE)) := by
                have := srtI_skip (d := D k) (t := t) (by rw [hxH.out]; exact hxi)
                show _
                unfold nearS
                rw [this]
                exact own.out
              clear hxi own
              go_wp2_with fail
              go_roundw
              case rel => exact ⟨t + 1, by omega, by go_num, own2, hbk⟩
              case measure => simp [intOf]; omega
            · have e1 : (x == 4611686018427387904) = false := by simp only [beq_eq_false_iff_ne, ne_eq]; exact hxi
              have hxi : Hid (lab (D k) t ≠ W.inf) := by show _ ≠ _; rw [hxH.out]; exact hxi
              rename_i hxiX
              clear hxiX
              obtain ⟨A2, c2, rfl, hr2, hc2, hcm⟩ := Rd.of_own (enc := pairE) pairE_len2 rfl own.out
              obtain ⟨S, hS⟩ : ∃ q, nearS (D k) t = q := ⟨_, rfl⟩
              have hSl0 := nearS_len (D k) t
              rw [hS] at hr2 hc2 hSl0
              rw [hS]
              obtain ⟨q2, hq2⟩ : ∃ q, S.length = q := ⟨_, rfl⟩
              rw [hq2] at hr2 hc2 hSl0
              rw [hq2]
              have hql : Hid ((srtI (itemsTo (D k) t)).length = q2) := by show (nearS (D k) t).length = _; rw [hS, hq2]
              have hSl : S.length + 1 ≤ 1099511627 := by rw [hq2]; omega
              have hSH : Hid (srtI (itemsTo (D k) t) = S) := hS
              have hr2 := Lib.hid hr2
              have hbwj := hbk
              obtain ⟨wj, hwj⟩ : ∃ q, wr = q := ⟨_, rfl⟩
              rw [hwj] at hr2 hbwj fd fw ⊢
              rename_i hr2X
              clear hr2X hwj hS hq2 own hbk fw fd
              have fw := (hbwj.out.cell (p := ⟨bR, _, none⟩) hbR).trans fR
              have fd := (hbwj.out.cell (p := ⟨fb, _, none⟩) hfbl).trans fdk.out
              go_wp2_with fail
              go_loopw [15] (fun jv wr => ∃ (j : Nat), j ≤ q2 ∧ jv = .int .i64 j ∧ Hid (Below wj.heap.size wj wr ∧ ∀ y ∈ (srtI (itemsTo (D k) t)).drop j, lab (D k) t < y.1)) (fun j _ => (intOf j).toNat)
              case atStart => exact ⟨q2, Nat.le_refl _, rfl, Below.refl _ _, fun y hy => by rw [List.drop_of_length_le (by rw [hql.out]; exact Nat.le_refl _)] at hy; cases hy⟩
              case round =>
                clear fw fd
                obtain ⟨j, hj, rfl, hJ⟩ := hrel
                obtain ⟨hbj0, hdr0⟩ := hJ.out
                have hbj := Lib.hid hbj0
                have hdr := Lib.hid hdr0
                have hb0 := hbwj.out.trans (hbj0.mono hbwj.out.size)
                have fw := (hb0.cell (p := ⟨bR, _, none⟩) hbR).trans fR
                have fd := (hb0.cell (p := ⟨fb, _, none⟩) hfbl).trans fdk.out
                have zbR := Nat.lt_of_lt_of_le hbR hb0.size
                have zfb := Nat.lt_of_lt_of_le hfbl hb0.size
                clear hJ hbj0 hdr0 hb0
                by_cases hj0 : j = 0
                · have g0 : decide ((0 : Int) < (j : Int)) = false := decide_eq_false (by omega)
                  have g0n : decide (0 < j) = false := decide_eq_false (by omega)
                  have hex : Hid (∀ y, 0 < j → (srtI (itemsTo (D k) t))[j - 1]? = some y → y.1 ≤ lab (D k) t) := fun y hy => by omega
                  clear hj0
                  go_wp2_with fail
                  go_upto_region 21 with fail
                  refine wp_region_below wr.heap.size (by kernel_rfl) (by kernel_rfl) ?_
                  intro C hC
                  repeat (go_big_quiet_step (first
                    | ((intro _; with_reducible rfl))
                    | (intro hc; have m0 := (hc.cell (p := ⟨bR, _, none⟩) zbR).trans fw; have m1 := (hc.cell (p := ⟨fb, _, none⟩) zfb).trans fd; simp only [m0, m1, Result.andThen]; exact ⟨trivial, rfl⟩)))
                  refine wpQuiet_nil ?_
                  intro w9 hb9
                  clear hC
                  have hbw := Lib.hid (hbj.out.trans (hb9.mono hbj.out.size))
                  clear hb9
                  obtain ⟨W3, hW3⟩ : ∃ q, w9 = q := ⟨_, rfl⟩
                  rw [hW3] at hbw ⊢
                  clear hW3
                  have hb03 := hbwj.out.trans (hbw.out.mono hbwj.out.size)
                  have f3 := (hb03.cell (p := ⟨bR, _, none⟩) hbR).trans fR
                  have fd3 := (hb03.cell (p := ⟨fb, _, none⟩) hfbl).trans fdk.out
                  have zbR := Nat.lt_of_lt_of_le hbR hb03.size
                  have zfb := Nat.lt_of_lt_of_le hfbl hb03.size
                  have r3 := hr2.out.below hbw.out
                  have rA := Lib.hid (r3.take (k := j) hj)
                  have rB := Lib.hid (r3.drop (k := j) hj hc2)
                  have hb03h := Lib.hid hb03
                  have hh := fun W => run_headN (P := Try.prog) (t := 65) (e := 67) (s := 2) Try.underlying65 (by kernel_rfl) (fun W => by simp [go_sem]) A2 q2 c2 j (by omega) .i64 W
                  have hd := fun W => run_cut (P := Try.prog) (t := 65) (e := 67) (s := 2) Try.underlying65 (by kernel_rfl) (fun W => by simp [go_sem]) A2 q2 c2 j hj .i64 W
                  clear r3 hb03
                  go_wp2_with fail
                  go_upto_region 23 with fail
                  refine wp_region_ghost2 (fun fl x' w => GT3 pairE 67 2 W3 (.slice A2 q2 c2) (S.take j) (S.take j ++ [(x, (t : Int))]) (S.take j ++ [(x, (t : Int))] ++ S.drop j) (x, (t : Int)) (fl 0) (fl 4) (fl 15) (fl 19) (fl 20) (fl 14) (fl 3) (fl 18) (x' 0) (x' 4) (x' 15) (x' 19) (x' 14) (x' 20) w ∧ (fl 3 = true → fl 1 = true) ∧ (fl 18 = true → fl 16 = true)) (by kernel_rfl) (by kernel_rfl) (by kernel_rfl) (by kernel_rfl) (by kernel_rfl) ?_ ?_
                  · intro x0 hx0
                    exact ⟨GT3.start rfl rfl rfl rfl rfl rfl (hx0 20 13 rfl), (fun h => by cases h), fun h => by cases h⟩
                  intro base O hbase hO
                  have kx9 : Hid (∀ xs, evX base O xs (.tmp 9) = .slice (some ⟨bR, oR, none⟩) n c4) := fun xs => by rw [hbase, hO]; rfl
                  have kx12 : Hid (∀ xs, evX base O xs (.tmp 12) = .int .i64 (k : Int)) := fun xs => by rw [hbase, hO]; rfl
                  have kx13 : Hid (∀ xs, evX base O xs (.tmp 13) = xs 20) := fun xs => by rw [hO]; rfl
                  have kx14 : Hid (∀ xs, evX base O xs (.tmp 14) = .int .i64 (t : Int)) := fun xs => by rw [hbase, hO]; rfl
                  have kx15 : Hid (∀ xs, evX base O xs (.tmp 15) = .int .i64 (j : Int)) := fun xs => by rw [hbase, hO]; rfl
                  have kx101 : Hid (∀ xs, evX base O xs (.tmp 101) = xs 0) := fun xs => by rw [hO]; rfl
                  have kx102 : Hid (∀ xs, evX base O xs (.tmp 102) = xs 1) := fun xs => by rw [hO]; rfl
                  have kx103 : Hid (∀ xs, evX base O xs (.tmp 103) = xs 2) := fun xs => by rw [hO]; rfl
                  have kx104 : Hid (∀ xs, evX base O xs (.tmp 104) = xs 3) := fun xs => by rw [hO]; rfl
                  have kx105 : Hid (∀ xs, evX base O xs (.tmp 105) = xs 4) := fun xs => by rw [hO]; rfl
                  have kx106 : Hid (∀ xs, evX base O xs (.tmp 106) = xs 5) := fun xs => by rw [hO]; rfl
                  have kx107 : Hid (∀ xs, evX base O xs (.tmp 107) = xs 6) := fun xs => by rw [hO]; rfl
                  have kx108 : Hid (∀ xs, evX base O xs (.tmp 108) = xs 7) := fun xs => by rw [hO]; rfl
                  have kx109 : Hid (∀ xs, evX base O xs (.tmp 109) = xs 8) := fun xs => by rw [hO]; rfl
                  have kx110 : Hid (∀ xs, evX base O xs (.tmp 110) = xs 9) := fun xs => by rw [hO]; rfl
                  have kx111 : Hid (∀ xs, evX base O xs (.tmp 111) = xs 10) := fun xs => by rw [hO]; rfl
                  have kx112 : Hid (∀ xs, evX base O xs (.tmp 112) = xs 11) := fun xs => by rw [hO]; rfl
                  have kx113 : Hid (∀ xs, evX base O xs (.tmp 113) = xs 12) := fun xs => by rw [hO]; rfl
                  have kx114 : Hid (∀ xs, evX base O xs (.tmp 114) = xs 13) := fun xs => by rw [hO]; rfl
                  have kx115 : Hid (∀ xs, evX base O xs (.tmp 115) = xs 14) := fun xs => by rw [hO]; rfl
                  have kx116 : Hid (∀ xs, evX base O xs (.tmp 116) = xs 15) := fun xs => by rw [hO]; rfl
                  have kx117 : Hid (∀ xs, evX base O xs (.tmp 117) = xs 16) := fun xs => by rw [hO]; rfl
                  have kx118 : Hid (∀ xs, evX base O xs (.tmp 118) = xs 17) := fun xs => by rw [hO]; rfl
                  have kx119 : Hid (∀ xs, evX base O xs (.tmp 119) = xs 18) := fun xs => by rw [hO]; rfl
                  have kx120 : Hid (∀ xs, evX base O xs (.tmp 120) = xs 19) := fun xs => by rw [hO]; rfl
                  clear hbase hO
                  refine gh_any (n := 0) (fun _ => True) ?_ ?_
                  · intro fl xs w ev hG hD hl hdone hev K hK
                    rw [if_pos (wantedX_none rfl)]
                    have ef : ∀ f, ev (.func f) = .func (.func f) #[] #[] := fun f => (hev _).trans rfl
                    clear hev hD
                    go_simp
                    exact hK _ _ trivial ⟨hG.1.l0S hl, hG.2⟩
                  apply gh_det (n := 1)
                  · intro fl xs w ev hG hD hl hdone hev K hK
                    have e13 := (hev (.tmp 13)).trans (kx13.out xs)
                    rw [if_pos (wantedX_none rfl)]
                    have ef : ∀ f, ev (.func f) = .func (.func f) #[] #[] := fun f => (hev _).trans rfl
                    clear hev hD
                    have ev0 := hG.1.r1R (bne2 hG.2.1 hl)
                    rw [ev0] at e13
                    go_simp
                    exact hK _ _ rfl ⟨hG.1, fun _ => rfl, hG.2.2⟩
                  apply gh_det (n := 2)
                  · intro fl xs w ev hG hD hl hdone hev K hK
                    have e15 := (hev (.tmp 15)).trans (kx15.out xs)
                    rw [if_pos (wantedX_none rfl)]
                    have ef : ∀ f, ev (.func f) = .func (.func f) #[] #[] := fun f => (hev _).trans rfl
                    clear hev hD
                    go_simp
                    exact hK _ _ rfl hG
                  apply gh_det (n := 3)
                  · intro fl xs w ev hG hD hl hdone hev K hK
                    have e102 := (hev (.tmp 102)).trans (kx102.out xs)
                    have d1 := hD.at_ 1 rfl rfl
                    replace e102 := e102.trans d1
                    have e103 := (hev (.tmp 103)).trans (kx103.out xs)
                    have d2 := hD.at_ 2 rfl rfl
                    replace e103 := e103.trans d2
                    rw [if_pos (wantedX_none rfl)]
                    have ef : ∀ f, ev (.func f) = .func (.func f) #[] #[] := fun f => (hev _).trans rfl
                    clear hev hD
                    go_simp
                    exact hK _ _ rfl ⟨hG.1.r1S, fun _ => done_of hdone 1 rfl, hG.2.2⟩
                  refine gh_any (n := 4) (fun _ => True) ?_ ?_
                  · intro fl xs w ev hG hD hl hdone hev K hK
                    have e101 := (hev (.tmp 101)).trans (kx101.out xs)
                    have e104 := (hev (.tmp 104)).trans (kx104.out xs)
                    have d3 := hD.at_ 3 rfl rfl
                    replace e104 := e104.trans d3
                    rw [if_pos (wantedX_none rfl)]
                    have ef : ∀ f, ev (.func f) = .func (.func f) #[] #[] := fun f => (hev _).trans rfl
                    clear hev hD
                    have own := hG.1.o0 (done_of hdone 0 rfl) hl
                    obtain ⟨v', w1', hrun, own1, hgr, hnew⟩ := app_nears c2 (L := []) own (rA.out.below hG.1.bel) (by simp only [List.length_append, List.length_take, List.length_drop, List.length_cons, List.length_nil]; have := hSl; omega) hG.1.bel.size
                    rw [List.nil_append] at own1
                    exact outcome_append (.tmp 101) (.tmp 104) 65 rfl e101 e104 hrun (hK _ _ trivial ⟨hG.1.a1S hl (done_of hdone 0 rfl) (done_of hdone 3 rfl) own1 hgr hnew, hG.2⟩)
                  apply gh_det (n := 5)
                  · intro fl xs w ev hG hD hl hdone hev K hK
                    have e9 := (hev (.tmp 9)).trans (kx9.out xs)
                    rw [if_pos (wantedX_none rfl)]
                    have ef : ∀ f, ev (.func f) = .func (.func f) #[] #[] := fun f => (hev _).trans rfl
                    clear hev hD
                    go_simp
                    exact hK _ _ rfl hG
                  apply gh_det (n := 6)
                  · intro fl xs w ev hG hD hl hdone hev K hK
                    have e12 := (hev (.tmp 12)).trans (kx12.out xs)
                    rw [if_pos (wantedX_none rfl)]
                    have ef : ∀ f, ev (.func f) = .func (.func f) #[] #[] := fun f => (hev _).trans rfl
                    clear hev hD
                    go_simp
                    exact hK _ _ rfl hG
                  apply gh_det (n := 7)
                  · intro fl xs w ev hG hD hl hdone hev K hK
                    have e106 := (hev (.tmp 106)).trans (kx106.out xs)
                    have d5 := hD.at_ 5 rfl rfl
                    replace e106 := e106.trans d5
                    have e107 := (hev (.tmp 107)).trans (kx107.out xs)
                    have d6 := hD.at_ 6 rfl rfl
                    replace e107 := e107.trans d6
                    rw [if_pos (wantedX_none rfl)]
                    have ef : ∀ f, ev (.func f) = .func (.func f) #[] #[] := fun f => (hev _).trans rfl
                    clear hev hD
                    go_simp
                    exact hK _ _ rfl hG
                  apply gh_det (n := 8)
                  · intro fl xs w ev hG hD hl hdone hev K hK
                    have e108 := (hev (.tmp 108)).trans (kx108.out xs)
                    have d7 := hD.at_ 7 rfl rfl
                    replace e108 := e108.trans d7
                    rw [if_pos (wantedX_none rfl)]
                    have ef : ∀ f, ev (.func f) = .func (.func f) #[] #[] := fun f => (hev _).trans rfl
                    clear hev hD
                    have m0 := (hG.1.bel.cell (p := ⟨bR, _, none⟩) zbR).trans f3
                    go_simp
                    exact hK _ _ rfl hG
                  apply gh_det (n := 9)
                  · intro fl xs w ev hG hD hl hdone hev K hK
                    have e14 := (hev (.tmp 14)).trans (kx14.out xs)
                    rw [if_pos (wantedX_none rfl)]
                    have ef : ∀ f, ev (.func f) = .func (.func f) #[] #[] := fun f => (hev _).trans rfl
                    clear hev hD
                    go_simp
                    exact hK _ _ rfl hG
                  apply gh_det (n := 10)
                  · intro fl xs w ev hG hD hl hdone hev K hK
                    have e109 := (hev (.tmp 109)).trans (kx109.out xs)
                    have d8 := hD.at_ 8 rfl rfl
                    replace e109 := e109.trans d8
                    have e110 := (hev (.tmp 110)).trans (kx110.out xs)
                    have d9 := hD.at_ 9 rfl rfl
                    replace e110 := e110.trans d9
                    rw [if_pos (wantedX_none rfl)]
                    have ef : ∀ f, ev (.func f) = .func (.func f) #[] #[] := fun f => (hev _).trans rfl
                    clear hev hD
                    go_simp
                    exact hK _ _ rfl hG
                  apply gh_det (n := 11)
                  · intro fl xs w ev hG hD hl hdone hev K hK
                    have e111 := (hev (.tmp 111)).trans (kx111.out xs)
                    have d10 := hD.at_ 10 rfl rfl
                    replace e111 := e111.trans d10
                    rw [if_pos (wantedX_none rfl)]
                    have ef : ∀ f, ev (.func f) = .func (.func f) #[] #[] := fun f => (hev _).trans rfl
                    clear hev hD
                    have m0 := (hG.1.bel.cell (p := ⟨fb, _, none⟩) zfb).trans fd3
                    go_simp
                    exact hK _ _ rfl hG
                  apply gh_det (n := 12)
                  · intro fl xs w ev hG hD hl hdone hev K hK
                    have e14 := (hev (.tmp 14)).trans (kx14.out xs)
                    rw [if_pos (wantedX_none rfl)]
                    have ef : ∀ f, ev (.func f) = .func (.func f) #[] #[] := fun f => (hev _).trans rfl
                    clear hev hD
                    go_simp
                    exact hK _ _ rfl hG
                  apply gh_det (n := 13)
                  · intro fl xs w ev hG hD hl hdone hev K hK
                    have e112 := (hev (.tmp 112)).trans (kx112.out xs)
                    have d11 := hD.at_ 11 rfl rfl
                    replace e112 := e112.trans d11
                    have e113 := (hev (.tmp 113)).trans (kx113.out xs)
                    have d12 := hD.at_ 12 rfl rfl
                    replace e113 := e113.trans d12
                    rw [if_pos (wantedX_none rfl)]
                    have ef : ∀ f, ev (.func f) = .func (.func f) #[] #[] := fun f => (hev _).trans rfl
                    clear hev hD
                    go_simp
                    exact hK _ _ rfl hG
                  refine gh_any (n := 14) (fun _ => True) ?_ ?_
                  · intro fl xs w ev hG hD hl hdone hev K hK
                    have e114 := (hev (.tmp 114)).trans (kx114.out xs)
                    have d13 := hD.at_ 13 rfl rfl
                    replace e114 := e114.trans d13
                    rw [if_pos (wantedX_none rfl)]
                    have ef : ∀ f, ev (.func f) = .func (.func f) #[] #[] := fun f => (hev _).trans rfl
                    clear hev hD
                    go_simp
                    exact hK _ _ trivial ⟨hG.1.litS hl pairE_len2, hG.2⟩
                  refine gh_any (n := 15) (fun _ => True) ?_ ?_
                  · intro fl xs w ev hG hD hl hdone hev K hK
                    have e105 := (hev (.tmp 105)).trans (kx105.out xs)
                    have e115 := (hev (.tmp 115)).trans (kx115.out xs)
                    rw [if_pos (wantedX_none rfl)]
                    have ef : ∀ f, ev (.func f) = .func (.func f) #[] #[] := fun f => (hev _).trans rfl
                    clear hev hD
                    have own := hG.1.o1 (done_of hdone 4 rfl) hl
                    obtain ⟨g5, c5, e5, r5, _⟩ := hG.1.ol (done_of hdone 14 rfl) hl
                    rw [e5] at e115
                    obtain ⟨v', w1', hrun, own1, hgr, hnew⟩ := app_nears c5 own r5 (by simp only [List.length_append, List.length_take, List.length_drop, List.length_cons, List.length_nil]; have := hSl; omega) hG.1.bel.size
                    exact outcome_append (.tmp 105) (.tmp 115) 65 rfl e105 e115 hrun (hK _ _ trivial ⟨hG.1.a2S hl (done_of hdone 4 rfl) (done_of hdone 14 rfl) own1 hgr, hG.2⟩)
                  apply gh_det (n := 16)
                  · intro fl xs w ev hG hD hl hdone hev K hK
                    have e13 := (hev (.tmp 13)).trans (kx13.out xs)
                    rw [if_pos (wantedX_none rfl)]
                    have ef : ∀ f, ev (.func f) = .func (.func f) #[] #[] := fun f => (hev _).trans rfl
                    clear hev hD
                    have ev0 := hG.1.r2R (bne2 hG.2.2 hl)
                    rw [ev0] at e13
                    go_simp
                    exact hK _ _ rfl ⟨hG.1, hG.2.1, fun _ => rfl⟩
                  apply gh_det (n := 17)
                  · intro fl xs w ev hG hD hl hdone hev K hK
                    have e15 := (hev (.tmp 15)).trans (kx15.out xs)
                    rw [if_pos (wantedX_none rfl)]
                    have ef : ∀ f, ev (.func f) = .func (.func f) #[] #[] := fun f => (hev _).trans rfl
                    clear hev hD
                    go_simp
                    exact hK _ _ rfl hG
                  apply gh_det (n := 18)
                  · intro fl xs w ev hG hD hl hdone hev K hK
                    have e117 := (hev (.tmp 117)).trans (kx117.out xs)
                    have d16 := hD.at_ 16 rfl rfl
                    replace e117 := e117.trans d16
                    have e118 := (hev (.tmp 118)).trans (kx118.out xs)
                    have d17 := hD.at_ 17 rfl rfl
                    replace e118 := e118.trans d17
                    rw [if_pos (wantedX_none rfl)]
                    have ef : ∀ f, ev (.func f) = .func (.func f) #[] #[] := fun f => (hev _).trans rfl
                    clear hev hD
                    go_simp
                    exact hK _ _ rfl ⟨hG.1.r2S, hG.2.1, fun _ => done_of hdone 16 rfl⟩
                  refine gh_any (n := 19) (fun _ => True) ?_ ?_
                  · intro fl xs w ev hG hD hl hdone hev K hK
                    have e116 := (hev (.tmp 116)).trans (kx116.out xs)
                    have e119 := (hev (.tmp 119)).trans (kx119.out xs)
                    have d18 := hD.at_ 18 rfl rfl
                    replace e119 := e119.trans d18
                    rw [if_pos (wantedX_none rfl)]
                    have ef : ∀ f, ev (.func f) = .func (.func f) #[] #[] := fun f => (hev _).trans rfl
                    clear hev hD
                    have own := hG.1.o2 (done_of hdone 15 rfl) hl
                    obtain ⟨v', w1', hrun, own1, hgr, hnew⟩ := app_nears _ own (rB.out.below hG.1.bel) (by simp only [List.length_append, List.length_take, List.length_drop, List.length_cons, List.length_nil]; have := hSl; omega) hG.1.bel.size
                    exact outcome_append (.tmp 116) (.tmp 119) 65 rfl e116 e119 hrun (hK _ _ trivial ⟨hG.1.a3S hl (done_of hdone 15 rfl) (done_of hdone 18 rfl) own1 hgr, hG.2⟩)
                  refine gh_any (n := 20) (fun _ => True) ?_ ?_
                  · intro fl xs w ev hG hD hl hdone hev K hK
                    have e120 := (hev (.tmp 120)).trans (kx120.out xs)
                    rw [if_pos (wantedX_none rfl)]
                    have ef : ∀ f, ev (.func f) = .func (.func f) #[] #[] := fun f => (hev _).trans rfl
                    clear hev hD
                    have own := hG.1.o3 (done_of hdone 19 rfl)
                    obtain ⟨n7, hn7⟩ : ∃ n7, (S.take j ++ [(x, (t : Int))] ++ S.drop j).length = n7 := ⟨_, rfl⟩
                    rw [hn7] at own
                    obtain ⟨A7, c7, e7, _⟩ := Rd.of_own (enc := pairE) pairE_len2 hn7 own
                    rw [e7] at e120
                    clear own hn7
                    go_simp
                    refine hK _ _ trivial ?_
                    rw [← e7]
                    exact ⟨hG.1.asS (done_of hdone 19 rfl), hG.2⟩
                  clear kx9 kx12 kx13 kx14 kx15 kx101 kx102 kx103 kx104 kx105 kx106 kx107 kx108 kx109 kx110 kx111 kx112 kx113 kx114 kx115 kx116 kx117 kx118 kx119 kx120
                  clear hh hd
                  intro xs w9 hG hI
                  have own9 := hG.1.o3 rfl
                  have e9 := hG.1.sg rfl
                  have hb9 := hG.1.bel
                  clear hG hI
                  rw [← e9] at own9
                  clear e9
                  simp only [List.append_eq, List.cons_append, List.nil_append, setAll, List.setIfInBounds_toArray, List.set_cons_zero, List.set_cons_succ]
                  have hnx := Lib.hid (insN_near hxi.out (hex.out) hdr.out (by have := hql.out; omega))
                  rw [hxH.out] at hnx
                  have hSe := hSH.out
                  have hown := own_base own9 hb03h.out.size
                  have hfin := Lib.hid (hb03h.out.trans (hb9.mono hb03h.out.size))
                  clear own9 hb9
                  have hown2 : Hid (_ = _) := hnx
                  rw [hSe] at hown2
                  obtain ⟨vv, hvv⟩ : ∃ q, xs 20 = q := ⟨_, rfl⟩
                  rw [hvv] at hown
                  rw [hvv]
                  have hown : Hid (w9.ownsRow wk.heap.size 67 2 vv (nearS (D k) (t + 1)).length ((nearS (D k) (t + 1)).flatMap pairE)) := by
                    show _
                    unfold nearS
                    rw [← hown2.out]
                    exact hown
                  clear hvv hown2 hSe
                  go_wp2_with fail
                  go_roundw
                  case rel => exact ⟨t + 1, by omega, by go_num, hown, hfin⟩
                  case measure => simp [intOf]; omega
                · obtain ⟨b2, o2, z1, zv, rfl, hb2s, hz, z0, _⟩ := (hr2.out.below hbj.out).pair (show j - 1 < q2 by omega)
                  have zb2 := hb2s
                  have hz : Hid ((srtI (itemsTo (D k) t))[j - 1]? = some (z1, zv)) := by show _ = _; rw [hSH.out]; exact hz
                  rename_i hzX
                  clear hzX
                  have hwr : IntKind.i64.wrap ((j : Int) - 1) = ((j - 1 : Nat) : Int) := by rw [IntKind.wrap_i64]; omega
                  have g0 : decide ((0 : Int) < (j : Int)) = true := decide_eq_true (by omega)
                  have g0n : decide (0 < j) = true := decide_eq_true (by omega)
                  have hjn : ((j - 1 : Nat) : Int) < (q2 : Int) := by omega
                  clear hb2s
                  by_cases c1 : x < z1
                  · have g1 : decide (x < z1) = true := decide_eq_true c1
                    have hnx : Hid (∀ y ∈ (srtI (itemsTo (D k) t)).drop (j - 1), lab (D k) t < y.1) := fun y hy => by
                      rw [drop_at hz.out, show j - 1 + 1 = j by omega] at hy
                      rcases List.mem_cons.1 hy with rfl | hy
                      · rw [hxH.out]; exact c1
                      · exact hdr.out y hy
                    clear c1
                    go_wp2_with fail
                    go_upto_region 21 with fail
                    refine wp_region_below wr.heap.size (by kernel_rfl) (by kernel_rfl) ?_
                    intro C hC
                    repeat (go_big_quiet_step (first
                      | ((intro _; with_reducible rfl))
                      | (intro hc; have m0 := (hc.cell (p := ⟨bR, _, none⟩) zbR).trans fw; have m1 := (hc.cell (p := ⟨fb, _, none⟩) zfb).trans fd; have m2 := (hc.cell (p := ⟨b2, _, none⟩) zb2).trans z0; simp only [m0, m1, m2, Result.andThen]; exact ⟨trivial, rfl⟩)))
                    refine wpQuiet_nil ?_
                    intro w9 hb9
                    clear hC
                    have hfin : Hid (Below wj.heap.size wj w9 ∧ ∀ y ∈ (srtI (itemsTo (D k) t)).drop (j - 1), lab (D k) t < y.1) := ⟨hbj.out.trans (hb9.mono hbj.out.size), hnx.out⟩
                    clear hb9
                    go_wp2_with fail
                    go_roundw
                    case rel => exact ⟨j - 1, by omega, by go_num, hfin⟩
                    case measure => simp [intOf]; omega
                  · have g1 : decide (x < z1) = false := decide_eq_false c1
                    have hex : Hid (∀ y, 0 < j → (srtI (itemsTo (D k) t))[j - 1]? = some y → y.1 ≤ lab (D k) t) := fun y _ hy => by
                      rw [hz.out] at hy
                      cases hy
                      rw [hxH.out]; show z1 ≤ x; omega
                    clear c1
                    go_wp2_with fail
                    go_upto_region 21 with fail
                    refine wp_region_below wr.heap.size (by kernel_rfl) (by kernel_rfl) ?_
                    intro C hC
                    repeat (go_big_quiet_step (first
                      | ((intro _; with_reducible rfl))
                      | (intro hc; have m0 := (hc.cell (p := ⟨bR, _, none⟩) zbR).trans fw; have m1 := (hc.cell (p := ⟨fb, _, none⟩) zfb).trans fd; have m2 := (hc.cell (p := ⟨b2, _, none⟩) zb2).trans z0; simp only [m0, m1, m2, Result.andThen]; exact ⟨trivial, rfl⟩)))
                    refine wpQuiet_nil ?_
                    intro w9 hb9
                    clear hC
                    have hbw := Lib.hid (hbj.out.trans (hb9.mono hbj.out.size))
                    clear hb9
                    obtain ⟨W3, hW3⟩ : ∃ q, w9 = q := ⟨_, rfl⟩
                    rw [hW3] at hbw ⊢
                    clear hW3
                    have hb03 := hbwj.out.trans (hbw.out.mono hbwj.out.size)
                    have f3 := (hb03.cell (p := ⟨bR, _, none⟩) hbR).trans fR
                    have fd3 := (hb03.cell (p := ⟨fb, _, none⟩) hfbl).trans fdk.out
                    have zbR := Nat.lt_of_lt_of_le hbR hb03.size
                    have zfb := Nat.lt_of_lt_of_le hfbl hb03.size
                    have r3 := hr2.out.below hbw.out
                    have rA := Lib.hid (r3.take (k := j) hj)
                    have rB := Lib.hid (r3.drop (k := j) hj hc2)
                    have hb03h := Lib.hid hb03
                    have hh := fun W => run_headN (P := Try.prog) (t := 65) (e := 67) (s := 2) Try.underlying65 (by kernel_rfl) (fun W => by simp [go_sem]) (some ⟨b2, o2, none⟩) q2 c2 j (by omega) .i64 W
                    have hd := fun W => run_cut (P := Try.prog) (t := 65) (e := 67) (s := 2) Try.underlying65 (by kernel_rfl) (fun W => by simp [go_sem]) (some ⟨b2, o2, none⟩) q2 c2 j hj .i64 W
                    clear r3 hb03
                    go_wp2_with fail
                    go_upto_region 23 with fail
                    refine wp_region_ghost2 (fun fl x' w => GT3 pairE 67 2 W3 (.slice (some ⟨b2, o2, none⟩) q2 c2) (S.take j) (S.take j ++ [(x, (t : Int))]) (S.take j ++ [(x, (t : Int))] ++ S.drop j) (x, (t : Int)) (fl 0) (fl 4) (fl 15) (fl 19) (fl 20) (fl 14) (fl 3) (fl 18) (x' 0) (x' 4) (x' 15) (x' 19) (x' 14) (x' 20) w ∧ (fl 3 = true → fl 1 = true) ∧ (fl 18 = true → fl 16 = true)) (by kernel_rfl) (by kernel_rfl) (by kernel_rfl) (by kernel_rfl) (by kernel_rfl) ?_ ?_
                    · intro x0 hx0
                      exact ⟨GT3.start rfl rfl rfl rfl rfl rfl (hx0 20 13 rfl), (fun h => by cases h), fun h => by cases h⟩
                    intro base O hbase hO
                    have kx9 : Hid (∀ xs, evX base O xs (.tmp 9) = .slice (some ⟨bR, oR, none⟩) n c4) := fun xs => by rw [hbase, hO]; rfl
                    have kx12 : Hid (∀ xs, evX base O xs (.tmp 12) = .int .i64 (k : Int)) := fun xs => by rw [hbase, hO]; rfl
                    have kx13 : Hid (∀ xs, evX base O xs (.tmp 13) = xs 20) := fun xs => by rw [hO]; rfl
                    have kx14 : Hid (∀ xs, evX base O xs (.tmp 14) = .int .i64 (t : Int)) := fun xs => by rw [hbase, hO]; rfl
                    have kx15 : Hid (∀ xs, evX base O xs (.tmp 15) = .int .i64 (j : Int)) := fun xs => by rw [hbase, hO]; rfl
                    have kx101 : Hid (∀ xs, evX base O xs (.tmp 101) = xs 0) := fun xs => by rw [hO]; rfl
                    have kx102 : Hid (∀ xs, evX base O xs (.tmp 102) = xs 1) := fun xs => by rw [hO]; rfl
                    have kx103 : Hid (∀ xs, evX base O xs (.tmp 103) = xs 2) := fun xs => by rw [hO]; rfl
                    have kx104 : Hid (∀ xs, evX base O xs (.tmp 104) = xs 3) := fun xs => by rw [hO]; rfl
                    have kx105 : Hid (∀ xs, evX base O xs (.tmp 105) = xs 4) := fun xs => by rw [hO]; rfl
                    have kx106 : Hid (∀ xs, evX base O xs (.tmp 106) = xs 5) := fun xs => by rw [hO]; rfl
                    have kx107 : Hid (∀ xs, evX base O xs (.tmp 107) = xs 6) := fun xs => by rw [hO]; rfl
                    have kx108 : Hid (∀ xs, evX base O xs (.tmp 108) = xs 7) := fun xs => by rw [hO]; rfl
                    have kx109 : Hid (∀ xs, evX base O xs (.tmp 109) = xs 8) := fun xs => by rw [hO]; rfl
                    have kx110 : Hid (∀ xs, evX base O xs (.tmp 110) = xs 9) := fun xs => by rw [hO]; rfl
                    have kx111 : Hid (∀ xs, evX base O xs (.tmp 111) = xs 10) := fun xs => by rw [hO]; rfl
                    have kx112 : Hid (∀ xs, evX base O xs (.tmp 112) = xs 11) := fun xs => by rw [hO]; rfl
                    have kx113 : Hid (∀ xs, evX base O xs (.tmp 113) = xs 12) := fun xs => by rw [hO]; rfl
                    have kx114 : Hid (∀ xs, evX base O xs (.tmp 114) = xs 13) := fun xs => by rw [hO]; rfl
                    have kx115 : Hid (∀ xs, evX base O xs (.tmp 115) = xs 14) := fun xs => by rw [hO]; rfl
                    have kx116 : Hid (∀ xs, evX base O xs (.tmp 116) = xs 15) := fun xs => by rw [hO]; rfl
                    have kx117 : Hid (∀ xs, evX base O xs (.tmp 117) = xs 16) := fun xs => by rw [hO]; rfl
                    have kx118 : Hid (∀ xs, evX base O xs (.tmp 118) = xs 17) := fun xs => by rw [hO]; rfl
                    have kx119 : Hid (∀ xs, evX base O xs (.tmp 119) = xs 18) := fun xs => by rw [hO]; rfl
                    have kx120 : Hid (∀ xs, evX base O xs (.tmp 120) = xs 19) := fun xs => by rw [hO]; rfl
                    clear hbase hO
                    refine gh_any (n := 0) (fun _ => True) ?_ ?_
                    · intro fl xs w ev hG hD hl hdone hev K hK
                      rw [if_pos (wantedX_none rfl)]
                      have ef : ∀ f, ev (.func f) = .func (.func f) #[] #[] := fun f => (hev _).trans rfl
                      clear hev hD
                      go_simp
                      exact hK _ _ trivial ⟨hG.1.l0S hl, hG.2⟩
                    apply gh_det (n := 1)
                    · intro fl xs w ev hG hD hl hdone hev K hK
                      have e13 := (hev (.tmp 13)).trans (kx13.out xs)
                      rw [if_pos (wantedX_none rfl)]
                      have ef : ∀ f, ev (.func f) = .func (.func f) #[] #[] := fun f => (hev _).trans rfl
                      clear hev hD
                      have ev0 := hG.1.r1R (bne2 hG.2.1 hl)
                      rw [ev0] at e13
                      go_simp
                      exact hK _ _ rfl ⟨hG.1, fun _ => rfl, hG.2.2⟩
                    apply gh_det (n := 2)
                    · intro fl xs w ev hG hD hl hdone hev K hK
                      have e15 := (hev (.tmp 15)).trans (kx15.out xs)
                      rw [if_pos (wantedX_none rfl)]
                      have ef : ∀ f, ev (.func f) = .func (.func f) #[] #[] := fun f => (hev _).trans rfl
                      clear hev hD
                      go_simp
                      exact hK _ _ rfl hG
                    apply gh_det (n := 3)
                    · intro fl xs w ev hG hD hl hdone hev K hK
                      have e102 := (hev (.tmp 102)).trans (kx102.out xs)
                      have d1 := hD.at_ 1 rfl rfl
                      replace e102 := e102.trans d1
                      have e103 := (hev (.tmp 103)).trans (kx103.out xs)
                      have d2 := hD.at_ 2 rfl rfl
                      replace e103 := e103.trans d2
                      rw [if_pos (wantedX_none rfl)]
                      have ef : ∀ f, ev (.func f) = .func (.func f) #[] #[] := fun f => (hev _).trans rfl
                      clear hev hD
                      go_simp
                      exact hK _ _ rfl ⟨hG.1.r1S, fun _ => done_of hdone 1 rfl, hG.2.2⟩
                    refine gh_any (n := 4) (fun _ => True) ?_ ?_
                    · intro fl xs w ev hG hD hl hdone hev K hK
                      have e101 := (hev (.tmp 101)).trans (kx101.out xs)
                      have e104 := (hev (.tmp 104)).trans (kx104.out xs)
                      have d3 := hD.at_ 3 rfl rfl
                      replace e104 := e104.trans d3
                      rw [if_pos (wantedX_none rfl)]
                      have ef : ∀ f, ev (.func f) = .func (.func f) #[] #[] := fun f => (hev _).trans rfl
                      clear hev hD
                      have own := hG.1.o0 (done_of hdone 0 rfl) hl
                      obtain ⟨v', w1', hrun, own1, hgr, hnew⟩ := app_nears c2 (L := []) own (rA.out.below hG.1.bel) (by simp only [List.length_append, List.length_take, List.length_drop, List.length_cons, List.length_nil]; have := hSl; omega) hG.1.bel.size
                      rw [List.nil_append] at own1
                      exact outcome_append (.tmp 101) (.tmp 104) 65 rfl e101 e104 hrun (hK _ _ trivial ⟨hG.1.a1S hl (done_of hdone 0 rfl) (done_of hdone 3 rfl) own1 hgr hnew, hG.2⟩)
                    apply gh_det (n := 5)
                    · intro fl xs w ev hG hD hl hdone hev K hK
                      have e9 := (hev (.tmp 9)).trans (kx9.out xs)
                      rw [if_pos (wantedX_none rfl)]
                      have ef : ∀ f, ev (.func f) = .func (.func f) #[] #[] := fun f => (hev _).trans rfl
                      clear hev hD
                      go_simp
                      exact hK _ _ rfl hG
                    apply gh_det (n := 6)
                    · intro fl xs w ev hG hD hl hdone hev K hK
                      have e12 := (hev (.tmp 12)).trans (kx12.out xs)
                      rw [if_pos (wantedX_none rfl)]
                      have ef : ∀ f, ev (.func f) = .func (.func f) #[] #[] := fun f => (hev _).trans rfl
                      clear hev hD
                      go_simp
                      exact hK _ _ rfl hG
                    apply gh_det (n := 7)
                    · intro fl xs w ev hG hD hl hdone hev K hK
                      have e106 := (hev (.tmp 106)).trans (kx106.out xs)
                      have d5 := hD.at_ 5 rfl rfl
                      replace e106 := e106.trans d5
                      have e107 := (hev (.tmp 107)).trans (kx107.out xs)
                      have d6 := hD.at_ 6 rfl rfl
                      replace e107 := e107.trans d6
                      rw [if_pos (wantedX_none rfl)]
                      have ef : ∀ f, ev (.func f) = .func (.func f) #[] #[] := fun f => (hev _).trans rfl
                      clear hev hD
                      go_simp
                      exact hK _ _ rfl hG
                    apply gh_det (n := 8)
                    · intro fl xs w ev hG hD hl hdone hev K hK
                      have e108 := (hev (.tmp 108)).trans (kx108.out xs)
                      have d7 := hD.at_ 7 rfl rfl
                      replace e108 := e108.trans d7
                      rw [if_pos (wantedX_none rfl)]
                      have ef : ∀ f, ev (.func f) = .func (.func f) #[] #[] := fun f => (hev _).trans rfl
                      clear hev hD
                      have m0 := (hG.1.bel.cell (p := ⟨bR, _, none⟩) zbR).trans f3
                      go_simp
                      exact hK _ _ rfl hG
                    apply gh_det (n := 9)
                    · intro fl xs w ev hG hD hl hdone hev K hK
                      have e14 := (hev (.tmp 14)).trans (kx14.out xs)
                      rw [if_pos (wantedX_none rfl)]
                      have ef : ∀ f, ev (.func f) = .func (.func f) #[] #[] := fun f => (hev _).trans rfl
                      clear hev hD
                      go_simp
                      exact hK _ _ rfl hG
                    apply gh_det (n := 10)
                    · intro fl xs w ev hG hD hl hdone hev K hK
                      have e109 := (hev (.tmp 109)).trans (kx109.out xs)
                      have d8 := hD.at_ 8 rfl rfl
                      replace e109 := e109.trans d8
                      have e110 := (hev (.tmp 110)).trans (kx110.out xs)
                      have d9 := hD.at_ 9 rfl rfl
                      replace e110 := e110.trans d9
                      rw [if_pos (wantedX_none rfl)]
                      have ef : ∀ f, ev (.func f) = .func (.func f) #[] #[] := fun f => (hev _).trans rfl
                      clear hev hD
                      go_simp
                      exact hK _ _ rfl hG
                    apply gh_det (n := 11)
                    · intro fl xs w ev hG hD hl hdone hev K hK
                      have e111 := (hev (.tmp 111)).trans (kx111.out xs)
                      have d10 := hD.at_ 10 rfl rfl
                      replace e111 := e111.trans d10
                      rw [if_pos (wantedX_none rfl)]
                      have ef : ∀ f, ev (.func f) = .func (.func f) #[] #[] := fun f => (hev _).trans rfl
                      clear hev hD
                      have m0 := (hG.1.bel.cell (p := ⟨fb, _, none⟩) zfb).trans fd3
                      go_simp
                      exact hK _ _ rfl hG
                    apply gh_det (n := 12)
                    · intro fl xs w ev hG hD hl hdone hev K hK
                      have e14 := (hev (.tmp 14)).trans (kx14.out xs)
                      rw [if_pos (wantedX_none rfl)]
                      have ef : ∀ f, ev (.func f) = .func (.func f) #[] #[] := fun f => (hev _).trans rfl
                      clear hev hD
                      go_simp
                      exact hK _ _ rfl hG
                    apply gh_det (n := 13)
                    · intro fl xs w ev hG hD hl hdone hev K hK
                      have e112 := (hev (.tmp 112)).trans (kx112.out xs)
                      have d11 := hD.at_ 11 rfl rfl
                      replace e112 := e112.trans d11
                      have e113 := (hev (.tmp 113)).trans (kx113.out xs)
                      have d12 := hD.at_ 12 rfl rfl
                      replace e113 := e113.trans d12
                      rw [if_pos (wantedX_none rfl)]
                      have ef : ∀ f, ev (.func f) = .func (.func f) #[] #[] := fun f => (hev _).trans rfl
                      clear hev hD
                      go_simp
                      exact hK _ _ rfl hG
                    refine gh_any (n := 14) (fun _ => True) ?_ ?_
                    · intro fl xs w ev hG hD hl hdone hev K hK
                      have e114 := (hev (.tmp 114)).trans (kx114.out xs)
                      have d13 := hD.at_ 13 rfl rfl
                      replace e114 := e114.trans d13
                      rw [if_pos (wantedX_none rfl)]
                      have ef : ∀ f, ev (.func f) = .func (.func f) #[] #[] := fun f => (hev _).trans rfl
                      clear hev hD
                      go_simp
                      exact hK _ _ trivial ⟨hG.1.litS hl pairE_len2, hG.2⟩
                    refine gh_any (n := 15) (fun _ => True) ?_ ?_
                    · intro fl xs w ev hG hD hl hdone hev K hK
                      have e105 := (hev (.tmp 105)).trans (kx105.out xs)
                      have e115 := (hev (.tmp 115)).trans (kx115.out xs)
                      rw [if_pos (wantedX_none rfl)]
                      have ef : ∀ f, ev (.func f) = .func (.func f) #[] #[] := fun f => (hev _).trans rfl
                      clear hev hD
                      have own := hG.1.o1 (done_of hdone 4 rfl) hl
                      obtain ⟨g5, c5, e5, r5, _⟩ := hG.1.ol (done_of hdone 14 rfl) hl
                      rw [e5] at e115
                      obtain ⟨v', w1', hrun, own1, hgr, hnew⟩ := app_nears c5 own r5 (by simp only [List.length_append, List.length_take, List.length_drop, List.length_cons, List.length_nil]; have := hSl; omega) hG.1.bel.size
                      exact outcome_append (.tmp 105) (.tmp 115) 65 rfl e105 e115 hrun (hK _ _ trivial ⟨hG.1.a2S hl (done_of hdone 4 rfl) (done_of hdone 14 rfl) own1 hgr, hG.2⟩)
                    apply gh_det (n := 16)
                    · intro fl xs w ev hG hD hl hdone hev K hK
                      have e13 := (hev (.tmp 13)).trans (kx13.out xs)
                      rw [if_pos (wantedX_none rfl)]
                      have ef : ∀ f, ev (.func f) = .func (.func f) #[] #[] := fun f => (hev _).trans rfl
                      clear hev hD
                      have ev0 := hG.1.r2R (bne2 hG.2.2 hl)
                      rw [ev0] at e13
                      go_simp
                      exact hK _ _ rfl ⟨hG.1, hG.2.1, fun _ => rfl⟩
                    apply gh_det (n := 17)
                    · intro fl xs w ev hG hD hl hdone hev K hK
                      have e15 := (hev (.tmp 15)).trans (kx15.out xs)
                      rw [if_pos (wantedX_none rfl)]
                      have ef : ∀ f, ev (.func f) = .func (.func f) #[] #[] := fun f => (hev _).trans rfl
                      clear hev hD
                      go_simp
                      exact hK _ _ rfl hG
                    apply gh_det (n := 18)
                    · intro fl xs w ev hG hD hl hdone hev K hK
                      have e117 := (hev (.tmp 117)).trans (kx117.out xs)
                      have d16 := hD.at_ 16 rfl rfl
                      replace e117 := e117.trans d16
                      have e118 := (hev (.tmp 118)).trans (kx118.out xs)
                      have d17 := hD.at_ 17 rfl rfl
                      replace e118 := e118.trans d17
                      rw [if_pos (wantedX_none rfl)]
                      have ef : ∀ f, ev (.func f) = .func (.func f) #[] #[] := fun f => (hev _).trans rfl
                      clear hev hD
                      go_simp
                      exact hK _ _ rfl ⟨hG.1.r2S, hG.2.1, fun _ => done_of hdone 16 rfl⟩
                    refine gh_any (n := 19) (fun _ => True) ?_ ?_
                    · intro fl xs w ev hG hD hl hdone hev K hK
                      have e116 := (hev (.tmp 116)).trans (kx116.out xs)
                      have e119 := (hev (.tmp 119)).trans (kx119.out xs)
                      have d18 := hD.at_ 18 rfl rfl
                      replace e119 := e119.trans d18
                      rw [if_pos (wantedX_none rfl)]
                      have ef : ∀ f, ev (.func f) = .func (.func f) #[] #[] := fun f => (hev _).trans rfl
                      clear hev hD
                      have own := hG.1.o2 (done_of hdone 15 rfl) hl
                      obtain ⟨v', w1', hrun, own1, hgr, hnew⟩ := app_nears _ own (rB.out.below hG.1.bel) (by simp only [List.length_append, List.length_take, List.length_drop, List.length_cons, List.length_nil]; have := hSl; omega) hG.1.bel.size
                      exact outcome_append (.tmp 116) (.tmp 119) 65 rfl e116 e119 hrun (hK _ _ trivial ⟨hG.1.a3S hl (done_of hdone 15 rfl) (done_of hdone 18 rfl) own1 hgr, hG.2⟩)
                    refine gh_any (n := 20) (fun _ => True) ?_ ?_
                    · intro fl xs w ev hG hD hl hdone hev K hK
                      have e120 := (hev (.tmp 120)).trans (kx120.out xs)
                      rw [if_pos (wantedX_none rfl)]
                      have ef : ∀ f, ev (.func f) = .func (.func f) #[] #[] := fun f => (hev _).trans rfl
                      clear hev hD
                      have own := hG.1.o3 (done_of hdone 19 rfl)
                      obtain ⟨n7, hn7⟩ : ∃ n7, (S.take j ++ [(x, (t : Int))] ++ S.drop j).length = n7 := ⟨_, rfl⟩
                      rw [hn7] at own
                      obtain ⟨A7, c7, e7, _⟩ := Rd.of_own (enc := pairE) pairE_len2 hn7 own
                      rw [e7] at e120
                      clear own hn7
                      go_simp
                      refine hK _ _ trivial ?_
                      rw [← e7]
                      exact ⟨hG.1.asS (done_of hdone 19 rfl), hG.2⟩
                    clear kx9 kx12 kx13 kx14 kx15 kx101 kx102 kx103 kx104 kx105 kx106 kx107 kx108 kx109 kx110 kx111 kx112 kx113 kx114 kx115 kx116 kx117 kx118 kx119 kx120
                    clear hh hd
                    intro xs w9 hG hI
                    have own9 := hG.1.o3 rfl
                    have e9 := hG.1.sg rfl
                    have hb9 := hG.1.bel
                    clear hG hI
                    rw [← e9] at own9
                    clear e9
                    simp only [List.append_eq, List.cons_append, List.nil_append, setAll, List.setIfInBounds_toArray, List.set_cons_zero, List.set_cons_succ]
                    have hnx := Lib.hid (insN_near hxi.out (hex.out) hdr.out (by have := hql.out; omega))
                    rw [hxH.out] at hnx
                    have hSe := hSH.out
                    have hown := own_base own9 hb03h.out.size
                    have hfin := Lib.hid (hb03h.out.trans (hb9.mono hb03h.out.size))
                    clear own9 hb9
                    have hown2 : Hid (_ = _) := hnx
                    rw [hSe] at hown2
                    obtain ⟨vv, hvv⟩ : ∃ q, xs 20 = q := ⟨_, rfl⟩
                    rw [hvv] at hown
                    rw [hvv]
                    have hown : Hid (w9.ownsRow wk.heap.size 67 2 vv (nearS (D k) (t + 1)).length ((nearS (D k) (t + 1)).flatMap pairE)) := by
                      show _
                      unfold nearS
                      rw [← hown2.out]
                      exact hown
                    clear hvv hown2 hSe
                    go_wp2_with fail
                    go_roundw
                    case rel => exact ⟨t + 1, by omega, by go_num, hown, hfin⟩
                    case measure => simp [intOf]; omega
          · obtain rfl : t = n := by omega
            have hownL := Lib.hid (And.intro own.out (nearS_len (D k) t))
            obtain ⟨A11, c11, rfl, _, h1, h2⟩ := Rd.of_own (enc := pairE) pairE_len2 rfl own.out
            have hOwn : OwnN wr wk.heap.size (A11, c11) (nearS (D k) t) := ⟨own.out, h1, h2⟩
            have hbw11 := hb.out.trans (hbk.out.mono hb.out.size)
            obtain ⟨g, cc, w12, hrun, hC12, hb12, _⟩ := (hC.out.up hbk.out).push (nearS (D k) t, (A11, c11)) (hOwn.low hb.out.size) (by rw [rowsTo_len]; omega) hbw11.size
            rw [rowsTo_len, ← rowsTo_snoc] at hC12
            rw [rowsTo_len] at hrun
            simp only [rwE, slV] at hrun
            have hC12h := Lib.hid hC12
            have hb12h := Lib.hid (hbw11.trans hb12)
            obtain ⟨qi, hqi⟩ : ∃ q, (nearS (D k) t).length = q := ⟨_, rfl⟩
            rw [hqi] at hrun
            rw [hqi]
            clear hOwn hbw11 hC12 hb12 hqi hC h1 h2 own hownL
            go_wp2_with (at_builtin; refine wpList_append_run ?d1 (.tmp 121) (.tmp 123) 33 ?d2 ?d3 ?d4 hrun ?_)
            case d1 => rfl
            case d2 => rfl
            try (case d3 => rfl)
            try (case d4 => rfl)
            go_roundw
            case rel => exact ⟨k + 1, _, by omega, by go_num, hC12h, hb12h⟩
            case measure => simp [intOf]; omega
end Go.Proofs.Ytonkkibnigdfbaa
