/-
  Walks: timetablekit.OwnLists of rows of windows, OwnNet (gen12.py).
-/
import Derived.Test.YtonkkibnigdfbaaOwnV
import Derived.BigQuiet
namespace Go.Proofs.Ytonkkibnigdfbaa
open Go.RowKit Go.Shelf B K
set_option linter.unusedVariables false
set_option linter.unusedSimpArgs false
set_option maxHeartbeats 2000000
theorem ownLists_any {N : NetP} {A B : Option Addr} {n c m : Nat} (w : World) (hr : RNet w N A n B m) (hn : n ≤ 1000) (hw : ∀ x ∈ N.cs, x.length ≤ 1000) :
    Calls Try.prog 61 #[.slice A n c] w fun e w' => ∃ (s : SlV) (cv : List RwV), e = .returned (slV s N.cs.length) ∧ CsV w' w.heap.size (slV s N.cs.length) N.cs cv ∧ Below w.heap.size w w' := by
  have hnn : Hid (N.cs.length = n) := hr.nn
  have hwH := Lib.hid hw
  clear hw
  go_enter Try.func61, Try.ntmps61
  go_wp2_with fail
  go_loopw [3, 4] (fun v i wr => ∃ (k : Nat) (cv : List RwV), k ≤ n ∧ i = .int .i64 k ∧ Hid (CsV wr w.heap.size v (N.cs.take k) cv) ∧ Hid (Below w.heap.size w wr)) (fun _ i _ => n - (intOf i).toNat)
  case atStart => exact ⟨0, [], Nat.zero_le _, rfl, by rw [List.take_zero]; exact CsV.nil, Below.refl _ _⟩
  case round =>
    obtain ⟨k, cv, hk, rfl, hc, hb⟩ := hrel
    by_cases hlt : k < n
    · obtain ⟨b, o, sA, sn, sc, l, rfl, hbs, hx, c0, rs, _⟩ := (hr.below hb.out).clo hlt
      have hsl := rs.len
      have hwl := hwH.out l (List.mem_of_getElem? hx)
      have hO := Lib.hid (ownW_any sc rs (by omega))
      have hxH := Lib.hid hx
      have hlk : Hid ((N.cs.take k).length = k) := by show _ = _; rw [List.length_take, hnn.out]; omega
      clear hx rs hsl hwl
      go_wp2_with fail
      refine hO.out.mono ?_; rintro e w3 ⟨⟨qA, qc⟩, rfl, ho, hb3⟩
      have hb13 := hb.out.trans (hb3.mono hb.out.size)
      obtain ⟨g, cc, w4, hrun, hc4, hb4, _⟩ := (hc.out.up hb3).push (l, (qA, qc)) (ho.low hb.out.size) (by rw [hlk.out]; omega) hb13.size
      have hb14 := Lib.hid (hb13.trans hb4)
      rw [hlk.out] at hrun hc4
      rw [← take_at hxH.out] at hc4
      have hc4H := Lib.hid hc4
      clear hc4 hb4 hb13 hb3 ho hO hb hc
      simp only [rwE, slV] at hrun
      simp only [slV]
      go_wp2_with (at_builtin; refine wpList_append_run ?a1 (.tmp 11) (.tmp 17) 22 ?a2 ?a3 ?a4 hrun ?_)
      case a1 => rfl
      case a2 => rfl
      try (case a3 => rfl)
      try (case a4 => rfl)
      go_roundw
      case rel => exact ⟨k + 1, cv ++ [(l, (qA, qc))], by omega, by go_num, hc4H, hb14⟩
      case measure => simp [intOf]; omega
    · obtain rfl : k = n := by omega
      have hc' := hc.out
      rw [List.take_of_length_le (by rw [hnn.out]; exact Nat.le_refl _)] at hc'
      obtain ⟨A', c', rfl, _, _, _⟩ := Rd.of_own rwE_len hc'.len hc'.row
      have hcH := Lib.hid hc'
      clear hc' hc
      go_wp2_with fail
      go_returns
      exact ⟨(A', c'), cv, rfl, hcH.out, hb.out⟩
/-- what the world is while the copy's box is made -/
structure GN1 (w0 : World) (cs : List W.Row) (hz : Int) (f4 f5 f6 f7 : Bool) (x4 x5 x6 : Value) (w : World) : Prop where
  bel : Below w0.heap.size w0 w
  c54 : f5 = true → f4 = true
  c75 : f7 = true → f5 = true
  c76 : f7 = true → f6 = true
  cs : f4 = true → ∃ (s : SlV) (cv : List RwV), x4 = slV s cs.length ∧ CsV w w0.heap.size x4 cs cv
  bd : f5 = true → x5 = .agg #[.int .i64 hz, x4, .slice none 0 0]
  bx : f6 = true → ∃ g, x6 = .pointer (some ⟨g, 0, none⟩) ∧ w0.heap.size ≤ g ∧ w.heap[g]? = some (.cells (if f7 then #[.int .i64 hz, x4, .slice none 0 0] else #[.int .i64 0, .slice none 0 0, .slice none 0 0]) 25 (0, 0))
section
variable {w0 w w' : World} {cs : List W.Row} {cv : List RwV} {hz : Int} {f4 f5 f6 f7 : Bool} {x4 x5 x6 v : Value}
theorem GN1.start (e4 : f4 = false) (e5 : f5 = false) (e6 : f6 = false) (e7 : f7 = false) : GN1 w0 cs hz f4 f5 f6 f7 x4 x5 x6 { w0 with drawn := w0.drawn + 1 } := by
  subst e4 e5 e6 e7
  exact ⟨⟨rfl, rfl, rfl, Nat.le_refl _, fun _ _ => rfl⟩, fun h => (by cases h), fun h => (by cases h), fun h => (by cases h), fun h => (by cases h), fun h => (by cases h), fun h => (by cases h)⟩
theorem GN1.call {s : SlV} (h : GN1 w0 cs hz f4 f5 f6 f7 x4 x5 x6 w) (hl : f4 = false) (hc : CsV w' w.heap.size (slV s cs.length) cs cv) (hb : Below w.heap.size w w') : GN1 w0 cs hz true f5 f6 f7 (slV s cs.length) x5 x6 w' := by
  have e5 : f5 = false := bne2 h.c54 hl
  have e7 : f7 = false := bne2 h.c75 e5
  subst e5 e7
  refine ⟨h.bel.trans (hb.mono h.bel.size), fun _ => rfl, h.c75, h.c76, fun _ => ⟨s, cv, rfl, hc.low h.bel.size⟩, fun h => (by cases h), fun h6 => ?_⟩
  obtain ⟨g, e, hg, hh⟩ := h.bx h6
  exact ⟨g, e, hg, (hb.block g (Array.getElem?_eq_some_iff.1 hh).1).trans hh⟩
theorem GN1.build (h : GN1 w0 cs hz f4 f5 f6 f7 x4 x5 x6 w) (h4 : f4 = true) (hl : f5 = false) : GN1 w0 cs hz f4 true f6 f7 x4 (.agg #[.int .i64 hz, x4, .slice none 0 0]) x6 w := by
  exact ⟨h.bel, fun _ => h4, fun _ => rfl, h.c76, h.cs, fun _ => rfl, h.bx⟩
theorem GN1.alloc (h : GN1 w0 cs hz f4 f5 f6 f7 x4 x5 x6 w) (hl : f6 = false) : GN1 w0 cs hz f4 f5 true f7 x4 x5 (.pointer (some ⟨w.heap.size, 0, none⟩)) (w.alloc (.cells #[.int .i64 0, .slice none 0 0, .slice none 0 0] 25)) := by
  have e7 : f7 = false := bne2 h.c76 hl
  subst e7
  have hb : Below w.heap.size w (w.alloc (.cells #[.int .i64 0, .slice none 0 0, .slice none 0 0] 25)) := (Below.refl _ w).alloc (Nat.le_refl _) _
  refine ⟨h.bel.trans (hb.mono h.bel.size), h.c54, h.c75, fun _ => rfl, fun h4 => ?_, h.bd, fun _ => ⟨_, rfl, h.bel.size, heap_alloc_new w _⟩⟩
  obtain ⟨s, cv, e, hc⟩ := h.cs h4
  exact ⟨s, cv, e, hc.up hb⟩
theorem setN3 {w : World} {g : Nat} {t : TypeId} {z0 z1 z2 : Value} (u0 u1 u2 : Value) (h : w.heap[g]? = some (.cells #[z0, z1, z2] t (0, 0))) :
    (w.frozen? ⟨g, 0, none⟩ = false ∧ w.frozen? ⟨g, 1, none⟩ = false ∧ w.frozen? ⟨g, 2, none⟩ = false) ∧
    (((w.setCell ⟨g, 0, none⟩ u0).setCell ⟨g, 1, none⟩ u1).setCell ⟨g, 2, none⟩ u2).heap[g]? = some (.cells #[u0, u1, u2] t (0, 0)) := by
  have hb := (Array.getElem?_eq_some_iff.1 h).1
  refine ⟨by simp [World.frozen?, h], ?_⟩
  have e : w.heap[g] = .cells #[z0, z1, z2] t (0, 0) := by rw [Array.getElem?_eq_getElem hb] at h; exact Option.some.inj h
  simp [World.setCell, h, hb, Array.getElem_modify, e]
theorem KeepT.set3 {w : World} {g : Nat} {t : TypeId} {z0 z1 z2 : Value} (u0 u1 u2 : Value) {T : List TypeId} (h : w.heap[g]? = some (.cells #[z0, z1, z2] t (0, 0))) (ht : t ∉ T) :
    KeepT w (((w.setCell ⟨g, 0, none⟩ u0).setCell ⟨g, 1, none⟩ u1).setCell ⟨g, 2, none⟩ u2) T := fun k cur e he hc => by
  have hne : g ≠ k := fun hk => by
    subst hk
    rw [h] at hc
    simp only [Option.some.injEq, Obj.cells.injEq] at hc
    exact ht (hc.2.1 ▸ he)
  simp only [World.setCell, Array.getElem?_modify]
  simp only [if_neg hne]
  exact hc
theorem GN1.store {g : Nat} {u : Value} (hu : x4 = u) (h : GN1 w0 cs hz f4 f5 f6 f7 x4 x5 x6 w) (h5 : f5 = true) (h6 : f6 = true) (hx : x6 = .pointer (some ⟨g, 0, none⟩)) (hk : KeepT w w' [36, 70]) (hb : Below w0.heap.size w w') (hg : w'.heap[g]? = some (.cells #[.int .i64 hz, u, .slice none 0 0] 25 (0, 0))) : GN1 w0 cs hz f4 f5 f6 true x4 x5 x6 w' := by
  refine ⟨h.bel.trans hb, h.c54, fun _ => h5, fun _ => h6, fun h4 => ?_, h.bd, fun _ => ?_⟩
  · obtain ⟨s, cv, e, hc⟩ := h.cs h4
    exact ⟨s, cv, e, hc.keepT hk⟩
  · obtain ⟨g', e, hg', _⟩ := h.bx h6
    refine ⟨g', e, hg', ?_⟩
    rw [hx] at e; cases e
    rw [hu]
    exact hg
end
/-- what the world is while a link's rows are copied -/
structure GN6 (w0 : World) (bl : Nat) (op cl : W.Row) (y0 y1 y2 y3 y4 po ko : Value) (f1 f2 f4 f5 f7 f9 : Bool) (x2 x5 : Value) (w : World) : Prop where
  bel : Below bl w0 w
  c21 : f2 = true → f1 = true
  c54 : f5 = true → f4 = true
  c52 : f5 = true → f2 = true
  c72 : f7 = true → f2 = true
  c97 : f9 = true → f7 = true
  c95 : f9 = true → f5 = true
  o2 : f2 = true → ∃ s : SlV, x2 = slV s op.length ∧ OwnR w bl s op
  o5 : f5 = true → ∃ s : SlV, x5 = slV s cl.length ∧ OwnR w bl s cl
  bx : w.heap[bl]? = some (.cells #[y0, y1, y2, y3, y4, if f7 then x2 else po, if f9 then x5 else ko] 38 (0, 0))
section
variable {w0 w w' : World} {bl : Nat} {op cl : W.Row} {y0 y1 y2 y3 y4 po ko x2 x5 : Value} {f1 f2 f4 f5 f7 f9 : Bool}
theorem GN6.start (e1 : f1 = false) (e2 : f2 = false) (e4 : f4 = false) (e5 : f5 = false) (e7 : f7 = false) (e9 : f9 = false) (hh : w0.heap[bl]? = some (.cells #[y0, y1, y2, y3, y4, po, ko] 38 (0, 0))) : GN6 w0 bl op cl y0 y1 y2 y3 y4 po ko f1 f2 f4 f5 f7 f9 x2 x5 { w0 with drawn := w0.drawn + 1 } := by
  subst e1 e2 e4 e5 e7 e9
  exact ⟨⟨rfl, rfl, rfl, Nat.le_refl _, fun _ _ => rfl⟩, fun h => (by cases h), fun h => (by cases h), fun h => (by cases h), fun h => (by cases h), fun h => (by cases h), fun h => (by cases h), fun h => (by cases h), fun h => (by cases h), hh⟩
theorem GN6.l1 (h : GN6 w0 bl op cl y0 y1 y2 y3 y4 po ko f1 f2 f4 f5 f7 f9 x2 x5 w) : GN6 w0 bl op cl y0 y1 y2 y3 y4 po ko true f2 f4 f5 f7 f9 x2 x5 w :=
  ⟨h.bel, fun _ => rfl, h.c54, h.c52, h.c72, h.c97, h.c95, h.o2, h.o5, h.bx⟩
theorem GN6.l4 (h : GN6 w0 bl op cl y0 y1 y2 y3 y4 po ko f1 f2 f4 f5 f7 f9 x2 x5 w) : GN6 w0 bl op cl y0 y1 y2 y3 y4 po ko f1 f2 true f5 f7 f9 x2 x5 w :=
  ⟨h.bel, h.c21, fun _ => rfl, h.c52, h.c72, h.c97, h.c95, h.o2, h.o5, h.bx⟩
theorem GN6.cell5 (h : GN6 w0 bl op cl y0 y1 y2 y3 y4 po ko f1 f2 f4 f5 f7 f9 x2 x5 w) (hl : f1 = false) : w.cell? ⟨bl, 5, none⟩ = some po := by
  have e7 : f7 = false := bne2 h.c72 (bne2 h.c21 hl)
  subst e7
  rw [cell_of_row _ _ _ _ _ _ h.bx]; rfl
theorem GN6.cell6 (h : GN6 w0 bl op cl y0 y1 y2 y3 y4 po ko f1 f2 f4 f5 f7 f9 x2 x5 w) (hl : f4 = false) : w.cell? ⟨bl, 6, none⟩ = some ko := by
  have e9 : f9 = false := bne2 h.c95 (bne2 h.c54 hl)
  subst e9
  rw [cell_of_row _ _ _ _ _ _ h.bx]; rfl
theorem GN6.call2 {s : SlV} (h : GN6 w0 bl op cl y0 y1 y2 y3 y4 po ko f1 f2 f4 f5 f7 f9 x2 x5 w) (h1 : f1 = true) (hl : f2 = false) (ho : OwnR w' w.heap.size s op) (hb : Below w.heap.size w w') : GN6 w0 bl op cl y0 y1 y2 y3 y4 po ko f1 true f4 f5 f7 f9 (slV s op.length) x5 w' := by
  have e5 : f5 = false := bne2 h.c52 hl
  have e7 : f7 = false := bne2 h.c72 hl
  have hlt := (Array.getElem?_eq_some_iff.1 h.bx).1
  subst e5 e7
  exact ⟨h.bel.trans (hb.mono (by omega)), fun _ => h1, h.c54, fun _ => rfl, fun _ => rfl, h.c97, h.c95, fun _ => ⟨s, rfl, ho.low (by omega)⟩, fun h => (by cases h), (hb.block bl hlt).trans h.bx⟩
theorem GN6.call5 {s : SlV} (h : GN6 w0 bl op cl y0 y1 y2 y3 y4 po ko f1 f2 f4 f5 f7 f9 x2 x5 w) (h4 : f4 = true) (h2 : f2 = true) (hl : f5 = false) (ho : OwnR w' w.heap.size s cl) (hb : Below w.heap.size w w') : GN6 w0 bl op cl y0 y1 y2 y3 y4 po ko f1 f2 f4 true f7 f9 x2 (slV s cl.length) w' := by
  have e9 : f9 = false := bne2 h.c95 hl
  have hlt := (Array.getElem?_eq_some_iff.1 h.bx).1
  subst e9
  refine ⟨h.bel.trans (hb.mono (by omega)), h.c21, fun _ => h4, fun _ => h2, h.c72, h.c97, fun _ => rfl, fun h2 => ?_, fun _ => ⟨s, rfl, ho.low (by omega)⟩, (hb.block bl hlt).trans h.bx⟩
  obtain ⟨s', e, ho'⟩ := h.o2 h2
  exact ⟨s', e, ho'.keepT (.of_below hb) (List.mem_singleton.2 rfl)⟩
theorem set7 {w : World} {g : Nat} {t : TypeId} {z0 z1 z2 z3 z4 z5 z6 : Value} (u : Value) (h : w.heap[g]? = some (.cells #[z0, z1, z2, z3, z4, z5, z6] t (0, 0))) :
    w.frozen? ⟨g, 5, none⟩ = false ∧ w.frozen? ⟨g, 6, none⟩ = false ∧ (w.setCell ⟨g, 5, none⟩ u).heap[g]? = some (.cells #[z0, z1, z2, z3, z4, u, z6] t (0, 0)) ∧ (w.setCell ⟨g, 6, none⟩ u).heap[g]? = some (.cells #[z0, z1, z2, z3, z4, z5, u] t (0, 0)) := by
  have hb := (Array.getElem?_eq_some_iff.1 h).1
  refine ⟨by simp [World.frozen?, h], by simp [World.frozen?, h], ?_⟩
  have e : w.heap[g] = .cells #[z0, z1, z2, z3, z4, z5, z6] t (0, 0) := by rw [Array.getElem?_eq_getElem hb] at h; exact Option.some.inj h
  constructor <;> simp [World.setCell, h, hb, Array.getElem_modify, e]
theorem GN6.own (h : GN6 w0 bl op cl y0 y1 y2 y3 y4 po ko f1 f2 f4 f5 f7 f9 x2 x5 w) (i : Nat) (u : Value) : (f2 = true → ∃ s : SlV, x2 = slV s op.length ∧ OwnR (w.setCell ⟨bl, i, none⟩ u) bl s op) ∧ (f5 = true → ∃ s : SlV, x5 = slV s cl.length ∧ OwnR (w.setCell ⟨bl, i, none⟩ u) bl s cl) := by
  have hk : KeepT w (w.setCell ⟨bl, i, none⟩ u) [70] := KeepT.set h.bx (by decide)
  constructor
  · intro h2
    obtain ⟨s, e, ho⟩ := h.o2 h2
    exact ⟨s, e, ho.keepT hk (List.mem_singleton.2 rfl)⟩
  · intro h2
    obtain ⟨s, e, ho⟩ := h.o5 h2
    exact ⟨s, e, ho.keepT hk (List.mem_singleton.2 rfl)⟩
theorem GN6.st7 {u : Value} (hu : x2 = u) (h : GN6 w0 bl op cl y0 y1 y2 y3 y4 po ko f1 f2 f4 f5 f7 f9 x2 x5 w) (h2 : f2 = true) : GN6 w0 bl op cl y0 y1 y2 y3 y4 po ko f1 f2 f4 f5 true f9 x2 x5 (w.setCell ⟨bl, 5, none⟩ u) := by
  subst hu
  exact ⟨h.bel.setCell (Nat.le_refl _) _, h.c21, h.c54, h.c52, fun _ => h2, fun _ => rfl, h.c95, (h.own 5 x2).1, (h.own 5 x2).2, (set7 x2 h.bx).2.2.1⟩
theorem GN6.st9 {u : Value} (hu : x5 = u) (h : GN6 w0 bl op cl y0 y1 y2 y3 y4 po ko f1 f2 f4 f5 f7 f9 x2 x5 w) (h5 : f5 = true) (h7 : f7 = true) : GN6 w0 bl op cl y0 y1 y2 y3 y4 po ko f1 f2 f4 f5 f7 true x2 x5 (w.setCell ⟨bl, 6, none⟩ u) := by
  subst hu
  exact ⟨h.bel.setCell (Nat.le_refl _) _, h.c21, h.c54, h.c52, h.c72, fun _ => h7, fun _ => h5, (h.own 6 x5).1, (h.own 6 x5).2, (set7 x5 h.bx).2.2.2⟩
end
set_option maxRecDepth 100000 in
theorem ownNet_any {N : NetP} {A B : Option Addr} {n c m d : Nat} (hs : Small N) (w : World) (hr : RNet w N A n B m) :
    Calls Try.prog 26 #[.agg #[.int .i64 N.hz, .slice A n c, .slice B m d]] w fun e w' => ∃ (sC sL : SlV) (cv : List RwV) (lv : List LkV), e = .returned (.agg #[.int .i64 N.hz, slV sC N.cs.length, slV sL N.ls.length]) ∧ CsV w' w.heap.size (slV sC N.cs.length) N.cs cv ∧ LsV w' w.heap.size (slV sL N.ls.length) N.ls lv ∧ Below w.heap.size w w' := by
  obtain ⟨hz, hhz⟩ : ∃ q, N.hz = q := ⟨_, rfl⟩
  rw [hhz]
  have hb1 : Below w.heap.size w (w.alloc (.cells #[.int .i64 hz, .slice A n c, .slice B m d] 25)) := (Below.refl _ w).alloc (Nat.le_refl _) _
  obtain ⟨x0, x1, x2⟩ := rowBx3 w 25 (.int .i64 hz) (.slice A n c) (.slice B m d)
  have hbn1 : w.heap.size < (w.alloc (.cells #[.int .i64 hz, .slice A n c, .slice B m d] 25)).heap.size := by simp
  obtain ⟨w1, hw1⟩ : ∃ q, w.alloc (.cells #[.int .i64 hz, .slice A n c, .slice B m d] 25) = q := ⟨_, rfl⟩
  rw [hw1] at hb1 x0 x1 x2 hbn1
  have hup : Hid (∀ w2, Below w1.heap.size w1 w2 → Below w.heap.size w w2) := fun w2 h => hb1.trans (h.mono hb1.size)
  obtain ⟨bn, hbn⟩ : ∃ q, w.heap.size = q := ⟨_, rfl⟩
  rw [hbn] at x0 x1 x2 hbn1
  have hR := Lib.hid (hr.below hb1)
  have hX : Hid (∀ U, Below w1.heap.size w1 U → U.cell? ⟨bn, 0, none⟩ = some (.int .i64 hz) ∧ U.cell? ⟨bn, 1, none⟩ = some (.slice A n c) ∧ U.cell? ⟨bn, 2, none⟩ = some (.slice B m d)) := fun U hU =>
    ⟨(hU.cell (p := ⟨bn, 0, none⟩) hbn1).trans x0, (hU.cell (p := ⟨bn, 1, none⟩) hbn1).trans x1, (hU.cell (p := ⟨bn, 2, none⟩) hbn1).trans x2⟩
  have hhzH := Lib.hid hhz
  have hnn : Hid (N.cs.length = n) := hr.nn
  have hmm : Hid (N.ls.length = m) := hr.mm
  have hn1 : n ≤ 1000 := by have := hs.cn; have := hnn.out; omega
  have hm1 : m ≤ 1000 := by have := hs.ln; have := hmm.out; omega
  have hsH := Lib.hid hs
  clear hb1 hr x0 x1 x2 hhz hs
  have hq1 : Below w1.heap.size w1 (w1.alloc (.cells #[.int .i64 0, .slice none 0 0, .slice none 0 0] 25)) := (Below.refl _ w1).alloc (Nat.le_refl _) _
  have hqn := heap_alloc_new w1 (.cells #[.int .i64 0, .slice none 0 0, .slice none 0 0] 25)
  have hql : w1.heap.size < (w1.alloc (.cells #[.int .i64 0, .slice none 0 0, .slice none 0 0] 25)).heap.size := by simp
  obtain ⟨w2, hw2⟩ : ∃ q, w1.alloc (.cells #[.int .i64 0, .slice none 0 0, .slice none 0 0] 25) = q := ⟨_, rfl⟩
  rw [hw2] at hq1 hqn hql
  obtain ⟨bq, hbq⟩ : ∃ q, w1.heap.size = q := ⟨_, rfl⟩
  rw [hbq] at hqn
  have hq1H := Lib.hid hq1
  have hqnH := Lib.hid hqn
  have hbn2 : bn < w2.heap.size := Nat.lt_of_lt_of_le hbn1 hq1.size
  obtain ⟨y0, y1, y2⟩ := hX.out _ hq1
  have hOL : Hid (∀ U, Below w2.heap.size w2 U → Calls Try.prog 61 #[.slice A n c] U fun e w' => ∃ (s : SlV) (cv : List RwV), e = .returned (slV s N.cs.length) ∧ CsV w' U.heap.size (slV s N.cs.length) N.cs cv ∧ Below U.heap.size U w') := fun U hU =>
    ownLists_any U ((hR.out.below hq1).below hU) hn1 hsH.out.cw
  have hcsn : Hid (N.cs.length = n) := hnn
  have hbq' : Hid (bq < w2.heap.size) := by show _ < _; omega
  have hbqw : Hid (w.heap.size ≤ bq) := by show _ ≤ _; rw [hbn]; omega
  have hbqs : Hid (w1.heap.size = bq) := hbq
  clear hqn hq1
  go_enter Try.func26, Try.ntmps26
  go_upto_region 1 with fail
  clear hw1 hw2 hbn hbq hql
  refine wp_region_ghost (fun fl x w => GN1 w2 N.cs hz (fl 4) (fl 5) (fl 6) (fl 7) (x 4) (x 5) (x 6) w) (by kernel_rfl) (by kernel_rfl) (by kernel_rfl) (by kernel_rfl) (by kernel_rfl) ?_ ?_
  · intro x0
    exact GN1.start rfl rfl rfl rfl
  intro base O hbase hO
  have kx1 : Hid (∀ xs, evX base O xs (.tmp 1) = .pointer (some ⟨bn, 0, none⟩)) := fun xs => by rw [hbase, hO]; rfl
  have kx3 : Hid (∀ xs, evX base O xs (.tmp 3) = xs 6) := fun xs => by rw [hO]; rfl
  have kx6 : Hid (∀ xs, evX base O xs (.tmp 6) = xs 0) := fun xs => by rw [hO]; rfl
  have kx7 : Hid (∀ xs, evX base O xs (.tmp 7) = xs 1) := fun xs => by rw [hO]; rfl
  have kx8 : Hid (∀ xs, evX base O xs (.tmp 8) = xs 2) := fun xs => by rw [hO]; rfl
  have kx9 : Hid (∀ xs, evX base O xs (.tmp 9) = xs 3) := fun xs => by rw [hO]; rfl
  have kx10 : Hid (∀ xs, evX base O xs (.tmp 10) = xs 4) := fun xs => by rw [hO]; rfl
  have kx11 : Hid (∀ xs, evX base O xs (.tmp 11) = xs 5) := fun xs => by rw [hO]; rfl
  clear hbase hO
  apply gh_det (n := 0)
  · intro fl xs w ev hG hD hl hdone hev K hK
    have e1 := (hev (.tmp 1)).trans (kx1.out xs)
    rw [if_pos (wantedX_none rfl)]
    have ef : ∀ f, ev (.func f) = .func (.func f) #[] #[] := fun f => (hev _).trans rfl
    clear hev hD
    go_simp
    exact hK _ _ rfl hG
  apply gh_det (n := 1)
  · intro fl xs w ev hG hD hl hdone hev K hK
    have e6 := (hev (.tmp 6)).trans (kx6.out xs)
    have d0 := hD.at_ 0 rfl rfl
    replace e6 := e6.trans d0
    rw [if_pos (wantedX_none rfl)]
    have ef : ∀ f, ev (.func f) = .func (.func f) #[] #[] := fun f => (hev _).trans rfl
    clear hev hD
    have m0 := (hG.bel.cell (p := ⟨bn, _, none⟩) hbn2).trans y0
    go_simp
    exact hK _ _ rfl hG
  apply gh_det (n := 2)
  · intro fl xs w ev hG hD hl hdone hev K hK
    have e1 := (hev (.tmp 1)).trans (kx1.out xs)
    rw [if_pos (wantedX_none rfl)]
    have ef : ∀ f, ev (.func f) = .func (.func f) #[] #[] := fun f => (hev _).trans rfl
    clear hev hD
    go_simp
    exact hK _ _ rfl hG
  apply gh_det (n := 3)
  · intro fl xs w ev hG hD hl hdone hev K hK
    have e8 := (hev (.tmp 8)).trans (kx8.out xs)
    have d2 := hD.at_ 2 rfl rfl
    replace e8 := e8.trans d2
    rw [if_pos (wantedX_none rfl)]
    have ef : ∀ f, ev (.func f) = .func (.func f) #[] #[] := fun f => (hev _).trans rfl
    clear hev hD
    have m1 := (hG.bel.cell (p := ⟨bn, _, none⟩) hbn2).trans y1
    go_simp
    exact hK _ _ rfl hG
  refine gh_any (n := 4) (fun _ => True) ?_ ?_
  · intro fl xs w ev hG hD hl hdone hev K hK
    have e9 := (hev (.tmp 9)).trans (kx9.out xs)
    have d3 := hD.at_ 3 rfl rfl
    replace e9 := e9.trans d3
    rw [if_pos (wantedX_none rfl)]
    have ef : ∀ f, ev (.func f) = .func (.func f) #[] #[] := fun f => (hev _).trans rfl
    clear hev hD
    have e9' := e9
    go_simp
    refine (hOL.out _ hG.bel).mono ?_; rintro e w' ⟨s, cv, rfl, hc, hb⟩
    exact ⟨_, rfl, hK _ _ trivial (hG.call hl hc hb)⟩
  refine gh_any (n := 5) (fun _ => True) ?_ ?_
  · intro fl xs w ev hG hD hl hdone hev K hK
    have e7 := (hev (.tmp 7)).trans (kx7.out xs)
    have d1 := hD.at_ 1 rfl rfl
    replace e7 := e7.trans d1
    have e10 := (hev (.tmp 10)).trans (kx10.out xs)
    rw [if_pos (wantedX_none rfl)]
    have ef : ∀ f, ev (.func f) = .func (.func f) #[] #[] := fun f => (hev _).trans rfl
    clear hev hD
    have h4 := done_of hdone 4 rfl
    obtain ⟨s, cv, e4, hc⟩ := hG.cs h4
    have hG5 := hG.build h4 hl
    rw [e4] at e10
    simp only [slV] at e10
    have hv : Value.agg #[.int .i64 hz, xs 4, .slice none 0 0] = .agg #[.int .i64 hz, .slice s.1 N.cs.length s.2, .slice none 0 0] := by rw [e4]; rfl
    rw [hv] at hG5
    clear hv
    go_simp
    exact hK _ _ trivial hG5
  refine gh_any (n := 6) (fun _ => True) ?_ ?_
  · intro fl xs w ev hG hD hl hdone hev K hK
    rw [if_pos (wantedX_none rfl)]
    have ef : ∀ f, ev (.func f) = .func (.func f) #[] #[] := fun f => (hev _).trans rfl
    clear hev hD
    go_simp
    exact hK _ _ trivial (hG.alloc hl)
  refine gh_any (n := 7) (fun _ => True) ?_ ?_
  · intro fl xs w ev hG hD hl hdone hev K hK
    have e3 := (hev (.tmp 3)).trans (kx3.out xs)
    have e11 := (hev (.tmp 11)).trans (kx11.out xs)
    rw [if_pos (wantedX_none rfl)]
    have ef : ∀ f, ev (.func f) = .func (.func f) #[] #[] := fun f => (hev _).trans rfl
    clear hev hD
    have h5 := done_of hdone 5 rfl
    have h6 := done_of hdone 6 rfl
    obtain ⟨g, eg, hg, hgc⟩ := hG.bx h6
    rw [show fl 7 = false from hl, if_neg (by simp)] at hgc
    obtain ⟨s, cv, e4, hc⟩ := hG.cs (hG.c54 h5)
    have h5b := hG.bd h5
    obtain ⟨⟨f0, f1, f2⟩, hnew⟩ := setN3 (.int .i64 hz) (.slice s.1 N.cs.length s.2) (.slice none 0 0) hgc
    have hst := GN1.store (u := .slice s.1 N.cs.length s.2) e4 hG h5 h6 eg (KeepT.set3 (.int .i64 hz) (.slice s.1 N.cs.length s.2) (.slice none 0 0) hgc (by decide)) ((((Below.refl _ _).setCell hg _).setCell hg _).setCell hg _) hnew
    have q0 : w.cell? ⟨g, 0, none⟩ = some (.int .i64 0) := by rw [cell_of_row _ _ _ _ _ _ hgc]; rfl
    have q1 : w.cell? ⟨g, 1, none⟩ = some (.slice none 0 0) := by rw [cell_of_row _ _ _ _ _ _ hgc]; rfl
    have q2 : w.cell? ⟨g, 2, none⟩ = some (.slice none 0 0) := by rw [cell_of_row _ _ _ _ _ _ hgc]; rfl
    replace e3 := e3.trans eg
    replace e11 := e11.trans h5b
    rw [e4] at e11
    simp only [slV] at e11
    clear hgc hnew h5b hG e4 eg
    go_simp
    exact hK _ _ trivial hst
  intro xs w4 hG hI
  clear hI
  obtain ⟨hb4, _, _, _, hcs, _, hbx⟩ := hG
  obtain ⟨⟨qA, qc⟩, cv, e4, hCs⟩ := hcs rfl
  obtain ⟨bo, e6, hbo, hbc⟩ := hbx rfl
  rw [if_pos rfl, e4] at hbc
  simp only [slV, hcsn.out] at hbc
  simp only [List.append_eq, List.cons_append, List.nil_append, setAll, List.setIfInBounds_toArray, List.set_cons_zero, List.set_cons_succ]
  rw [e6]
  rw [e4] at hCs
  have hCsH := Lib.hid hCs
  have hbcH := Lib.hid hbc
  have hb14 := Lib.hid (hq1H.out.trans (hb4.mono hq1H.out.size))
  have hbq4 : Hid (w4.heap[bq]? = some (.cells #[.int .i64 0, .slice none 0 0, .slice none 0 0] 25 (0, 0))) := (hb4.block bq hbq'.out).trans hqnH.out
  have hbol : Hid (bo < w4.heap.size) := (Array.getElem?_eq_some_iff.1 hbc).1
  have hboq : Hid (bq < bo) := Nat.lt_of_lt_of_le hbq'.out hbo
  have hbow : Hid (w2.heap.size ≤ bo) := hbo
  have hb24 := Lib.hid hb4
  obtain ⟨z0, z1, z2⟩ := hX.out _ hb14.out
  clear hb4 hcs hbx hbc hCs e4 e6 y0 y1 y2 hOL hbo
  go_wp2_with fail
  go_loopw [4] (fun i wr => ∃ (k : Nat) (sL : SlV) (lv : List LkV), k ≤ m ∧ i = .int .i64 k ∧ Hid (wr.heap[bo]? = some (.cells #[.int .i64 hz, .slice qA n qc, .slice sL.1 k sL.2] 25 (0, 0))) ∧ Hid (CsV wr w2.heap.size (slV (qA, qc) N.cs.length) N.cs cv) ∧ Hid (LsV wr w2.heap.size (slV sL k) (N.ls.take k) lv) ∧ Hid (Below w2.heap.size w2 wr)) (fun i _ => m - (intOf i).toNat)
  case atStart => exact ⟨0, (none, 0), [], Nat.zero_le _, rfl, hbcH, hCsH, by rw [List.take_zero]; exact LsV.nil, hb24⟩
  case round =>
    clear hCsH hbcH z0 z1 z2 hb24 hb14 hbq4
    obtain ⟨k, ⟨sLA, sLc⟩, lv, hk, rfl, hbo, hC, hL, hb⟩ := hrel
    simp only at hbo
    have hbw := Lib.hid (hq1H.out.trans (hb.out.mono hq1H.out.size))
    obtain ⟨z0, z1, z2⟩ := hX.out _ hbw.out
    have hbol := (Array.getElem?_eq_some_iff.1 hbo.out).1
    by_cases hlt : k < m
    · obtain ⟨l, hl, b, o, pA, pn, pc, kA, kn, kc, rfl, hbl, ⟨ro, _⟩, ⟨rk, _⟩, c0, c1, c2, c3, c4, c5, c6⟩ := (hR.out.below hbw.out).lnk hlt
      have hlw := hsH.out.lw l (List.mem_of_getElem? hl)
      have hlH := Lib.hid hl
      have hlk : Hid ((N.ls.take k).length = k) := by show _ = _; rw [List.length_take, hmm.out]; omega
      obtain ⟨l9, hl9⟩ : ∃ q, l = q := ⟨_, rfl⟩
      have hl9H := Lib.hid hl9
      clear hl9
      obtain ⟨la, lb, ln, ld, lo, op, cl⟩ := l
      simp only at c0 c1 c2 c3 c4 ro rk hlw
      have hro := Lib.hid ro
      have hrk := Lib.hid rk
      have hpl := ro.len
      have hkl := rk.len
      have hpn : pn ≤ 1000 := by omega
      have hkn : kn ≤ 1000 := by omega
      have hb9 : Below wr.heap.size wr (wr.alloc (.cells #[.int .i64 la, .int .i64 lb, .int .i64 ln, .bool ld, .int .i64 lo, .slice pA pn pc, .slice kA kn kc] 38)) := (Below.refl _ wr).alloc (Nat.le_refl _) _
      have hn9 := heap_alloc_new wr (.cells #[.int .i64 la, .int .i64 lb, .int .i64 ln, .bool ld, .int .i64 lo, .slice pA pn pc, .slice kA kn kc] 38)
      obtain ⟨w9, hw9⟩ : ∃ q, wr.alloc (.cells #[.int .i64 la, .int .i64 lb, .int .i64 ln, .bool ld, .int .i64 lo, .slice pA pn pc, .slice kA kn kc] 38) = q := ⟨_, rfl⟩
      rw [hw9] at hb9 hn9
      obtain ⟨bl, hbl'⟩ : ∃ q, wr.heap.size = q := ⟨_, rfl⟩
      rw [hbl'] at hn9 hbol hb9
      have hb9H := Lib.hid hb9
      have hn9H := Lib.hid hn9
      have hblH := Lib.hid hbl'
      have hboH := Lib.hid hbol
      clear hb9 hn9 ro rk hpl hkl hl hlw hbol
      go_upto_region 6 with fail
      clear hw9 hbl' hbl
      refine wp_region_ghost (fun fl x w => GN6 w9 bl op cl (.int .i64 la) (.int .i64 lb) (.int .i64 ln) (.bool ld) (.int .i64 lo) (.slice pA pn pc) (.slice kA kn kc) (fl 1) (fl 2) (fl 4) (fl 5) (fl 7) (fl 9) (x 2) (x 5) w) (by kernel_rfl) (by kernel_rfl) (by kernel_rfl) (by kernel_rfl) (by kernel_rfl) ?_ ?_
      · intro x0
        exact GN6.start rfl rfl rfl rfl rfl rfl hn9H.out
      intro base O hbase hO
      have kx5 : Hid (∀ xs, evX base O xs (.tmp 5) = .pointer (some ⟨bl, 0, none⟩)) := fun xs => by rw [hbase, hO]; rfl
      have kx24 : Hid (∀ xs, evX base O xs (.tmp 24) = xs 0) := fun xs => by rw [hO]; rfl
      have kx25 : Hid (∀ xs, evX base O xs (.tmp 25) = xs 1) := fun xs => by rw [hO]; rfl
      have kx26 : Hid (∀ xs, evX base O xs (.tmp 26) = xs 2) := fun xs => by rw [hO]; rfl
      have kx27 : Hid (∀ xs, evX base O xs (.tmp 27) = xs 3) := fun xs => by rw [hO]; rfl
      have kx28 : Hid (∀ xs, evX base O xs (.tmp 28) = xs 4) := fun xs => by rw [hO]; rfl
      have kx29 : Hid (∀ xs, evX base O xs (.tmp 29) = xs 5) := fun xs => by rw [hO]; rfl
      have kx30 : Hid (∀ xs, evX base O xs (.tmp 30) = xs 6) := fun xs => by rw [hO]; rfl
      have kx31 : Hid (∀ xs, evX base O xs (.tmp 31) = xs 8) := fun xs => by rw [hO]; rfl
      clear hbase hO
      apply gh_det (n := 0)
      · intro fl xs w ev hG hD hl hdone hev K hK
        have e5 := (hev (.tmp 5)).trans (kx5.out xs)
        rw [if_pos (wantedX_none rfl)]
        have ef : ∀ f, ev (.func f) = .func (.func f) #[] #[] := fun f => (hev _).trans rfl
        clear hev hD
        go_simp
        exact hK _ _ rfl hG
      apply gh_det (n := 1)
      · intro fl xs w ev hG hD hl hdone hev K hK
        have e24 := (hev (.tmp 24)).trans (kx24.out xs)
        have d0 := hD.at_ 0 rfl rfl
        replace e24 := e24.trans d0
        rw [if_pos (wantedX_none rfl)]
        have ef : ∀ f, ev (.func f) = .func (.func f) #[] #[] := fun f => (hev _).trans rfl
        clear hev hD
        have m5 := hG.cell5 hl
        go_simp
        exact hK _ _ rfl hG.l1
      refine gh_any (n := 2) (fun _ => True) ?_ ?_
      · intro fl xs w ev hG hD hl hdone hev K hK
        have e25 := (hev (.tmp 25)).trans (kx25.out xs)
        have d1 := hD.at_ 1 rfl rfl
        replace e25 := e25.trans d1
        rw [if_pos (wantedX_none rfl)]
        have ef : ∀ f, ev (.func f) = .func (.func f) #[] #[] := fun f => (hev _).trans rfl
        clear hev hD
        go_simp
        refine (ownW_any pc (hro.out.below (hb9H.out.trans hG.bel |> fun h => by rw [hblH.out]; exact h)) (by omega)).mono ?_; rintro e w' ⟨s, rfl, ho, hb⟩
        exact ⟨_, rfl, hK _ _ trivial (hG.call2 (done_of hdone 1 rfl) hl ho hb)⟩
      apply gh_det (n := 3)
      · intro fl xs w ev hG hD hl hdone hev K hK
        have e5 := (hev (.tmp 5)).trans (kx5.out xs)
        rw [if_pos (wantedX_none rfl)]
        have ef : ∀ f, ev (.func f) = .func (.func f) #[] #[] := fun f => (hev _).trans rfl
        clear hev hD
        go_simp
        exact hK _ _ rfl hG
      apply gh_det (n := 4)
      · intro fl xs w ev hG hD hl hdone hev K hK
        have e27 := (hev (.tmp 27)).trans (kx27.out xs)
        have d3 := hD.at_ 3 rfl rfl
        replace e27 := e27.trans d3
        rw [if_pos (wantedX_none rfl)]
        have ef : ∀ f, ev (.func f) = .func (.func f) #[] #[] := fun f => (hev _).trans rfl
        clear hev hD
        have m6 := hG.cell6 hl
        go_simp
        exact hK _ _ rfl hG.l4
      refine gh_any (n := 5) (fun _ => True) ?_ ?_
      · intro fl xs w ev hG hD hl hdone hev K hK
        have e28 := (hev (.tmp 28)).trans (kx28.out xs)
        have d4 := hD.at_ 4 rfl rfl
        replace e28 := e28.trans d4
        rw [if_pos (wantedX_none rfl)]
        have ef : ∀ f, ev (.func f) = .func (.func f) #[] #[] := fun f => (hev _).trans rfl
        clear hev hD
        go_simp
        refine (ownW_any kc (hrk.out.below (hb9H.out.trans hG.bel |> fun h => by rw [hblH.out]; exact h)) (by omega)).mono ?_; rintro e w' ⟨s, rfl, ho, hb⟩
        exact ⟨_, rfl, hK _ _ trivial (hG.call5 (done_of hdone 4 rfl) (done_of hdone 2 rfl) hl ho hb)⟩
      apply gh_det (n := 6)
      · intro fl xs w ev hG hD hl hdone hev K hK
        have e5 := (hev (.tmp 5)).trans (kx5.out xs)
        rw [if_pos (wantedX_none rfl)]
        have ef : ∀ f, ev (.func f) = .func (.func f) #[] #[] := fun f => (hev _).trans rfl
        clear hev hD
        go_simp
        exact hK _ _ rfl hG
      refine gh_any (n := 7) (fun _ => True) ?_ ?_
      · intro fl xs w ev hG hD hl hdone hev K hK
        have e30 := (hev (.tmp 30)).trans (kx30.out xs)
        have d6 := hD.at_ 6 rfl rfl
        replace e30 := e30.trans d6
        have e26 := (hev (.tmp 26)).trans (kx26.out xs)
        rw [if_pos (wantedX_none rfl)]
        have ef : ∀ f, ev (.func f) = .func (.func f) #[] #[] := fun f => (hev _).trans rfl
        clear hev hD
        have h2 := done_of hdone 2 rfl
        obtain ⟨s, es, ho⟩ := hG.o2 h2
        have hst := GN6.st7 (u := .slice s.1 op.length s.2) es hG h2
        obtain ⟨f5, f6, _, _⟩ := set7 (.slice s.1 op.length s.2) hG.bx
        have q5 : ∃ v, w.cell? ⟨bl, 5, none⟩ = some v := ⟨_, by rw [cell_of_row _ _ _ _ _ _ hG.bx]; rfl⟩
        have q6 : ∃ v, w.cell? ⟨bl, 6, none⟩ = some v := ⟨_, by rw [cell_of_row _ _ _ _ _ _ hG.bx]; rfl⟩
        obtain ⟨v5, q5⟩ := q5
        obtain ⟨v6, q6⟩ := q6
        replace e26 := e26.trans es
        simp only [slV] at e26
        clear hG ho es
        go_simp
        exact hK _ _ trivial hst
      apply gh_det (n := 8)
      · intro fl xs w ev hG hD hl hdone hev K hK
        have e5 := (hev (.tmp 5)).trans (kx5.out xs)
        rw [if_pos (wantedX_none rfl)]
        have ef : ∀ f, ev (.func f) = .func (.func f) #[] #[] := fun f => (hev _).trans rfl
        clear hev hD
        go_simp
        exact hK _ _ rfl hG
      refine gh_any (n := 9) (fun _ => True) ?_ ?_
      · intro fl xs w ev hG hD hl hdone hev K hK
        have e31 := (hev (.tmp 31)).trans (kx31.out xs)
        have d8 := hD.at_ 8 rfl rfl
        replace e31 := e31.trans d8
        have e29 := (hev (.tmp 29)).trans (kx29.out xs)
        rw [if_pos (wantedX_none rfl)]
        have ef : ∀ f, ev (.func f) = .func (.func f) #[] #[] := fun f => (hev _).trans rfl
        clear hev hD
        have h2 := done_of hdone 5 rfl
        obtain ⟨s, es, ho⟩ := hG.o5 h2
        have hst := GN6.st9 (u := .slice s.1 cl.length s.2) es hG h2 (done_of hdone 7 rfl)
        obtain ⟨f5, f6, _, _⟩ := set7 (.slice s.1 cl.length s.2) hG.bx
        have q5 : ∃ v, w.cell? ⟨bl, 5, none⟩ = some v := ⟨_, by rw [cell_of_row _ _ _ _ _ _ hG.bx]; rfl⟩
        have q6 : ∃ v, w.cell? ⟨bl, 6, none⟩ = some v := ⟨_, by rw [cell_of_row _ _ _ _ _ _ hG.bx]; rfl⟩
        obtain ⟨v5, q5⟩ := q5
        obtain ⟨v6, q6⟩ := q6
        replace e29 := e29.trans es
        simp only [slV] at e29
        clear hG ho es
        go_simp
        exact hK _ _ trivial hst
      intro xs w10 hG hI
      clear hI
      obtain ⟨hb10, _, _, _, _, _, _, ho2, ho5, hbx⟩ := hG
      obtain ⟨⟨s2A, s2c⟩, e2, o2⟩ := ho2 rfl
      obtain ⟨⟨s5A, s5c⟩, e5, o5⟩ := ho5 rfl
      rw [if_pos rfl, if_pos rfl, e2, e5] at hbx
      simp only [List.append_eq, List.cons_append, List.nil_append, setAll, List.setIfInBounds_toArray, List.set_cons_zero, List.set_cons_succ]
      rw [e2, e5]
      have hbr10 : Below wr.heap.size wr w10 := by rw [hblH.out]; exact hb9H.out.trans hb10
      have q0 : w10.cell? ⟨bl, 0, none⟩ = some (.int .i64 la) := by rw [cell_of_row _ _ _ _ _ _ hbx]; rfl
      have q1 : w10.cell? ⟨bl, 1, none⟩ = some (.int .i64 lb) := by rw [cell_of_row _ _ _ _ _ _ hbx]; rfl
      have q2 : w10.cell? ⟨bl, 2, none⟩ = some (.int .i64 ln) := by rw [cell_of_row _ _ _ _ _ _ hbx]; rfl
      have q3 : w10.cell? ⟨bl, 3, none⟩ = some (.bool ld) := by rw [cell_of_row _ _ _ _ _ _ hbx]; rfl
      have q4 : w10.cell? ⟨bl, 4, none⟩ = some (.int .i64 lo) := by rw [cell_of_row _ _ _ _ _ _ hbx]; rfl
      have q5 : w10.cell? ⟨bl, 5, none⟩ = some (.slice s2A op.length s2c) := by rw [cell_of_row _ _ _ _ _ _ hbx]; rfl
      have q6 : w10.cell? ⟨bl, 6, none⟩ = some (.slice s5A cl.length s5c) := by rw [cell_of_row _ _ _ _ _ _ hbx]; rfl
      have hbw10 := hb.out.trans (hbr10.mono hb.out.size)
      have hbo10 := (hbr10.block bo (by rw [hblH.out]; exact hboH.out)).trans hbo.out
      have p2 : w10.cell? ⟨bo, 2, none⟩ = some (.slice sLA k sLc) := by rw [cell_of_row _ _ _ _ _ _ hbo10]; rfl
      have hb210 : w2.heap.size ≤ bl := by rw [← hblH.out]; exact hb.out.size
      have hLL : LsV w10 w2.heap.size (.slice sLA k sLc) (N.ls.take k) lv := hL.out.up hbr10
      obtain ⟨g, cc, w11, hrun, hL11, hb11, hk11⟩ := hLL.push (⟨la, lb, ln, ld, lo, op, cl⟩, (s2A, s2c), (s5A, s5c)) ⟨o2.low hb210, o5.low hb210⟩ (by rw [hlk.out]; omega) hbw10.size
      rw [hlk.out] at hrun hL11
      simp only [lkE, slV] at hrun
      have htk : N.ls.take k ++ [(⟨la, lb, ln, ld, lo, op, cl⟩ : Lk)] = N.ls.take (k + 1) := (take_at hlH.out).symm
      rw [htk] at hL11
      have hbo11 := hk11 bo _ 25 (by decide) hbo10
      obtain ⟨⟨fz0, fz1, fz2⟩, _⟩ := setN3 (.int .i64 0) (.int .i64 0) (.int .i64 0) hbo11
      have p11 : w11.cell? ⟨bo, 2, none⟩ = some (.slice sLA k sLc) := by rw [cell_of_row _ _ _ _ _ _ hbo11]; rfl
      have hkS : KeepT w11 (w11.setCell ⟨bo, 2, none⟩ (.slice (some ⟨g, 0, none⟩) (k + 1) cc)) [38, 36, 70] := KeepT.set hbo11 (by decide)
      have hC12 := Lib.hid (((hC.out.up hbr10).keepT (hk11.sub (by decide))).keepT (hkS.sub (by decide)))
      have hL12 := Lib.hid (hL11.keepT (hkS.sub (by decide)))
      have hbo12 : Hid ((w11.setCell ⟨bo, 2, none⟩ (.slice (some ⟨g, 0, none⟩) (k + 1) cc)).heap[bo]? = some (.cells #[.int .i64 hz, .slice qA n qc, .slice (some ⟨g, 0, none⟩) (k + 1) cc] 25 (0, 0))) := by
        have hlt' := (Array.getElem?_eq_some_iff.1 hbo11).1
        have e : w11.heap[bo] = .cells #[.int .i64 hz, .slice qA n qc, .slice sLA k sLc] 25 (0, 0) := by rw [Array.getElem?_eq_getElem hlt'] at hbo11; exact Option.some.inj hbo11
        show _ = _
        simp [World.setCell, hlt', Array.getElem_modify, e]
      have hb12 := Lib.hid ((hbw10.trans hb11).setCell (p := ⟨bo, 2, none⟩) hbow.out (.slice (some ⟨g, 0, none⟩) (k + 1) cc))
      clear hbx hb10 ho2 ho5 o2 o5 e2 e5 hbr10 hbw10 hbo10 hb210 hLL hL11 hb11 hk11 htk hbo11 hkS hbo hC hL hb
      go_wp2_with (at_builtin; refine wpList_append_run ?a1 (.tmp 33) (.tmp 35) 23 ?a2 ?a3 ?a4 hrun ?_)
      case a1 => rfl
      case a2 => rfl
      try (case a3 => rfl)
      try (case a4 => rfl)
      go_roundw
      case rel => exact ⟨k + 1, (some ⟨g, 0, none⟩, cc), lv ++ [_], by omega, by go_num, hbo12, hC12, hL12, hb12⟩
      case measure => simp [intOf]; omega
    · obtain rfl : k = m := by omega
      have hbqr := (hb.out.block bq hbq'.out).trans hqnH.out
      have p0 : wr.cell? ⟨bo, 0, none⟩ = some (.int .i64 hz) := by rw [cell_of_row _ _ _ _ _ _ hbo.out]; rfl
      have p1 : wr.cell? ⟨bo, 1, none⟩ = some (.slice qA n qc) := by rw [cell_of_row _ _ _ _ _ _ hbo.out]; rfl
      have p2 : wr.cell? ⟨bo, 2, none⟩ = some (.slice sLA k sLc) := by rw [cell_of_row _ _ _ _ _ _ hbo.out]; rfl
      have b0 : wr.cell? ⟨bq, 0, none⟩ = some (.int .i64 0) := by rw [cell_of_row _ _ _ _ _ _ hbqr]; rfl
      have b1 : wr.cell? ⟨bq, 1, none⟩ = some (.slice none 0 0) := by rw [cell_of_row _ _ _ _ _ _ hbqr]; rfl
      have b2 : wr.cell? ⟨bq, 2, none⟩ = some (.slice none 0 0) := by rw [cell_of_row _ _ _ _ _ _ hbqr]; rfl
      obtain ⟨⟨f0, f1, f2⟩, hnew⟩ := setN3 (.int .i64 hz) (.slice qA n qc) (.slice sLA k sLc) hbqr
      have hkS : KeepT wr (((wr.setCell ⟨bq, 0, none⟩ (.int .i64 hz)).setCell ⟨bq, 1, none⟩ (.slice qA n qc)).setCell ⟨bq, 2, none⟩ (.slice sLA k sLc)) [38, 36, 70] := KeepT.set3 _ _ _ hbqr (by decide)
      have hbqw' : w.heap.size ≤ bq := hbqw.out
      have hbe : Hid (Below w.heap.size w wr) := hup.out _ (hq1H.out.trans (hb.out.mono hq1H.out.size))
      have hLk := hL.out
      rw [List.take_of_length_le (by rw [hmm.out]; exact Nat.le_refl _)] at hLk
      have hLk2 : LsV wr w2.heap.size (slV (sLA, sLc) N.ls.length) N.ls lv := by rw [hmm.out]; exact hLk
      have hw2 : w.heap.size ≤ w2.heap.size := by have := hbq'.out; omega
      have hCF := Lib.hid ((hC.out.keepT (hkS.sub (by decide))).low hw2)
      have hLF := Lib.hid ((hLk2.keepT (hkS.sub (by decide))).low hw2)
      have hBF := Lib.hid (((hbe.out.setCell (p := ⟨bq, 0, none⟩) hbqw' (.int .i64 hz)).setCell (p := ⟨bq, 1, none⟩) hbqw' (.slice qA n qc)).setCell (p := ⟨bq, 2, none⟩) hbqw' (.slice sLA k sLc))
      have r0 : (((wr.setCell ⟨bq, 0, none⟩ (.int .i64 hz)).setCell ⟨bq, 1, none⟩ (.slice qA n qc)).setCell ⟨bq, 2, none⟩ (.slice sLA k sLc)).cell? ⟨bq, 0, none⟩ = some (.int .i64 hz) := by rw [cell_of_row _ _ _ _ _ _ hnew]; rfl
      have r1 : (((wr.setCell ⟨bq, 0, none⟩ (.int .i64 hz)).setCell ⟨bq, 1, none⟩ (.slice qA n qc)).setCell ⟨bq, 2, none⟩ (.slice sLA k sLc)).cell? ⟨bq, 1, none⟩ = some (.slice qA n qc) := by rw [cell_of_row _ _ _ _ _ _ hnew]; rfl
      have r2 : (((wr.setCell ⟨bq, 0, none⟩ (.int .i64 hz)).setCell ⟨bq, 1, none⟩ (.slice qA n qc)).setCell ⟨bq, 2, none⟩ (.slice sLA k sLc)).cell? ⟨bq, 2, none⟩ = some (.slice sLA k sLc) := by rw [cell_of_row _ _ _ _ _ _ hnew]; rfl
      clear hbqr hkS hLk hLk2 hnew hbo hb hbe hC hL
      go_wp2_with fail
      refine bodyPost_ret (by simp [results, Try.results26, go_sem, r0, r1, r2]; try rfl) rfl ?_
      refine ⟨(qA, qc), (sLA, sLc), cv, lv, ?_, hCF.out, hLF.out, hBF.out⟩
      rw [hnn.out, hmm.out]; rfl
end Go.Proofs.Ytonkkibnigdfbaa
