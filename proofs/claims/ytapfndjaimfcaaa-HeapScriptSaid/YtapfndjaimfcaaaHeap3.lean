/-
  Walk: items.Swap.
-/
import Derived.Test.YtapfndjaimfcaaaHeap2
import Derived.Test.YtapfndjaimfcaaaEntry
import Derived.Test.YtapfndjaimfcaaaAnyGhost
namespace Go.Proofs.Ytapfndjaimfcaaa
open Go.RowKit B K
open Go.ChangeMaps (setBlock)
set_option linter.unusedVariables false
set_option linter.unusedSimpArgs false
set_option maxHeartbeats 2000000
/-- the map's block while two of its entries are written -/
def GS (w0 : World) (m : Nat) (B0 B1 B2 : Obj) (l : Nat → Bool) (x : Nat → Value) (w : World) : Prop :=
  But w0 w [m] ∧ (l 28 = false → w.heap[m]? = some B0) ∧ (l 28 = true → l 31 = false → w.heap[m]? = some B1) ∧ (l 31 = true → w.heap[m]? = some B2) ∧ (l 28 = true → l 26 = true) ∧ (l 29 = true → l 28 = true) ∧ (l 31 = true → l 29 = true)
section
variable {w0 w : World} {m : Nat} {B0 B1 B2 : Obj} {l : Nat → Bool} {x : Nat → Value} {v : Value}
theorem GS.start (h26 : l 26 = false) (h28 : l 28 = false) (h29 : l 29 = false) (h31 : l 31 = false) (hB : w0.heap[m]? = some B0) : GS w0 m B0 B1 B2 l x { w0 with drawn := w0.drawn + 1 } :=
  ⟨⟨rfl, rfl, rfl, Nat.le_refl _, fun _ _ _ => rfl⟩, fun _ => hB, fun h => (by rw [h28] at h; cases h), fun h => (by rw [h31] at h; cases h), fun h => (by rw [h28] at h; cases h), fun h => (by rw [h29] at h; cases h), fun h => (by rw [h31] at h; cases h)⟩
theorem GS.not28 (h : GS w0 m B0 B1 B2 l x w) (h26 : l 26 = false) : l 28 = false := by
  cases e : l 28 with
  | false => rfl
  | true => rw [h.2.2.2.2.1 e] at h26; cases h26
theorem GS.not31 (h : GS w0 m B0 B1 B2 l x w) (h29 : l 29 = false) : l 31 = false := by
  cases e : l 31 with
  | false => rfl
  | true => rw [h.2.2.2.2.2.2 e] at h29; cases h29
theorem GS.s26 (h : GS w0 m B0 B1 B2 l x w) : GS w0 m B0 B1 B2 (updB l 26) (upd x 26 v) w := by
  obtain ⟨g1, g2, g3, g4, g5, g6, g7⟩ := h
  exact ⟨g1, g2, g3, g4, fun _ => rfl, g6, g7⟩
theorem GS.s28 (h : GS w0 m B0 B1 B2 l x w) (h28 : l 28 = false) (h26 : l 26 = true) : GS w0 m B0 B1 B2 (updB l 28) (upd x 28 v) (setBlock w m B1) := by
  obtain ⟨g1, g2, g3, g4, g5, g6, g7⟩ := h
  have h29 : l 29 = false := by
    cases e : l 29 with
    | false => rfl
    | true => rw [g6 e] at h28; cases h28
  have h31 : l 31 = false := by
    cases e : l 31 with
    | false => rfl
    | true => rw [g7 e] at h29; cases h29
  refine ⟨g1.trans (but_setB (by simp)), fun h => (by cases h), fun _ _ => heap_setB (g2 h28), fun h => ?_, fun _ => h26, fun _ => rfl, g7⟩
  rw [show updB l 28 31 = l 31 from rfl, h31] at h; cases h
theorem GS.s29 (h : GS w0 m B0 B1 B2 l x w) (h28 : l 28 = true) : GS w0 m B0 B1 B2 (updB l 29) (upd x 29 v) w := by
  obtain ⟨g1, g2, g3, g4, g5, g6, g7⟩ := h
  exact ⟨g1, g2, g3, g4, g5, fun _ => h28, fun _ => rfl⟩
theorem GS.s31 (h : GS w0 m B0 B1 B2 l x w) (h29 : l 29 = true) (h31 : l 31 = false) : GS w0 m B0 B1 B2 (updB l 31) (upd x 31 v) (setBlock w m B2) := by
  obtain ⟨g1, g2, g3, g4, g5, g6, g7⟩ := h
  have h28 := g6 h29
  refine ⟨g1.trans (but_setB (by simp)), fun h => ?_, fun _ h => (by cases h), fun _ => heap_setB (g3 h28 h31), g5, g6, fun _ => h29⟩
  rw [show updB l 31 28 = l 28 from rfl, h28] at h; cases h
end
/-- the row while two of its items are written -/
def GR (w0 : World) (base g c n : Nat) (l : List It) (i j : Nat) (a b : It) (fl : Nat → Bool) (x : Nat → Value) (w : World) : Prop :=
  But w0 w [g] ∧ (fl 25 = false → w.ownsRow base 53 2 (.slice (some ⟨g, 0, none⟩) n c) n (l.flatMap pairE)) ∧ (fl 25 = true → fl 27 = false → w.ownsRow base 53 2 (.slice (some ⟨g, 0, none⟩) n c) n ((l.set i b).flatMap pairE)) ∧
  (fl 27 = true → w.ownsRow base 53 2 (.slice (some ⟨g, 0, none⟩) n c) n ((swp l i j a b).flatMap pairE)) ∧ (fl 25 = true → fl 16 = true ∧ fl 23 = true) ∧ (fl 27 = true → fl 25 = true)
theorem own_at {w : World} {base g c n k : Nat} {l : List It} {x : It} (own : w.ownsRow base 53 2 (.slice (some ⟨g, 0, none⟩) n c) n (l.flatMap pairE)) (hx : l[k]? = some x) :
    w.cell? ⟨g, k * 2, none⟩ = some (.int .i64 x.1) ∧ w.cell? ⟨g, k * 2 + 1, none⟩ = some (.int .i64 x.2) := by
  have hln : l.length = n := by
    have := own.1
    rw [flatMap_len pairE_len2] at this
    omega
  obtain ⟨A3, q3, e3, r3, _, _⟩ := Rd.of_own (enc := pairE) pairE_len2 hln own
  cases e3
  obtain ⟨b3, o3, u1, u2, hA3, _, hu, s1, s2⟩ := r3.pair (k := k) (by have := (List.getElem?_eq_some_iff.1 hx).1; omega)
  cases hA3
  rw [hx] at hu; cases hu
  simp only [Nat.zero_add] at s1 s2
  exact ⟨s1, s2⟩
section
variable {w0 w : World} {base g c n i j : Nat} {l : List It} {a b : It} {fl : Nat → Bool} {x : Nat → Value} {v : Value}
theorem GR.start (h25 : fl 25 = false) (h27 : fl 27 = false) (own : w0.ownsRow base 53 2 (.slice (some ⟨g, 0, none⟩) n c) n (l.flatMap pairE)) : GR w0 base g c n l i j a b fl x { w0 with drawn := w0.drawn + 1 } :=
  ⟨⟨rfl, rfl, rfl, Nat.le_refl _, fun _ _ _ => rfl⟩, fun _ => own, fun h => (by rw [h25] at h; cases h), fun h => (by rw [h27] at h; cases h), fun h => (by rw [h25] at h; cases h), fun h => (by rw [h27] at h; cases h)⟩
theorem GR.not16 (h : GR w0 base g c n l i j a b fl x w) (h16 : fl 16 = false) : fl 25 = false := by
  cases e : fl 25 with
  | false => rfl
  | true => rw [(h.2.2.2.2.1 e).1] at h16; cases h16
theorem GR.not23 (h : GR w0 base g c n l i j a b fl x w) (h16 : fl 23 = false) : fl 25 = false := by
  cases e : fl 25 with
  | false => rfl
  | true => rw [(h.2.2.2.2.1 e).2] at h16; cases h16
theorem GR.get (h : GR w0 base g c n l i j a b fl x w) (h25 : fl 25 = false) {k : Nat} {z1 z2 : Int} (hz : l[k]? = some (z1, z2)) : w.cell? ⟨g, k * 2, none⟩ = some (.int .i64 z1) ∧ w.cell? ⟨g, k * 2 + 1, none⟩ = some (.int .i64 z2) := own_at (h.2.1 h25) hz
theorem GR.get2 (h : GR w0 base g c n l i j a b fl x w) (h25 : fl 25 = true) (h27 : fl 27 = false) (hj : j < l.length) : ∃ z1 z2, w.cell? ⟨g, j * 2, none⟩ = some (.int .i64 z1) ∧ w.cell? ⟨g, j * 2 + 1, none⟩ = some (.int .i64 z2) := by
  have hl : j < (l.set i b).length := by simpa using hj
  exact ⟨_, _, own_at (h.2.2.1 h25 h27) (List.getElem?_eq_getElem hl)⟩
theorem GR.s16 (h : GR w0 base g c n l i j a b fl x w) : GR w0 base g c n l i j a b (updB fl 16) (upd x 16 v) w := by
  obtain ⟨g1, g2, g3, g4, g5, g6⟩ := h
  exact ⟨g1, g2, g3, g4, fun h => ⟨rfl, (g5 h).2⟩, g6⟩
theorem GR.s23 (h : GR w0 base g c n l i j a b fl x w) : GR w0 base g c n l i j a b (updB fl 23) (upd x 23 v) w := by
  obtain ⟨g1, g2, g3, g4, g5, g6⟩ := h
  exact ⟨g1, g2, g3, g4, fun h => ⟨(g5 h).1, rfl⟩, g6⟩
theorem GR.s25 (h : GR w0 base g c n l i j a b fl x w) (hi : i < l.length) (h25 : fl 25 = false) (h16 : fl 16 = true) (h23 : fl 23 = true) :
    GR w0 base g c n l i j a b (updB fl 25) (upd x 25 v) ((w.setCell ⟨g, i * 2, none⟩ (.int .i64 b.1)).setCell ⟨g, i * 2 + 1, none⟩ (.int .i64 b.2)) := by
  obtain ⟨g1, g2, g3, g4, g5, g6⟩ := h
  have own2 := (((g2 h25).stored (i * 2) (.int .i64 b.1)).1.stored (i * 2 + 1) (.int .i64 b.2)).1
  rw [flat_set_pair _ _ _ _ hi] at own2
  have h27 : fl 27 = false := by
    cases e : fl 27 with
    | false => rfl
    | true => rw [g6 e] at h25; cases h25
  refine ⟨(g1.trans (But.of_set _ _ _ (by simp))).trans (But.of_set _ _ _ (by simp)), fun h => (by cases h), fun _ _ => own2, fun h => ?_, fun _ => ⟨h16, h23⟩, fun _ => rfl⟩
  rw [show updB fl 25 27 = fl 27 from rfl, h27] at h; cases h
theorem GR.s27 (h : GR w0 base g c n l i j a b fl x w) (hj : j < l.length) (h25 : fl 25 = true) (h27 : fl 27 = false) :
    GR w0 base g c n l i j a b (updB fl 27) (upd x 27 v) ((w.setCell ⟨g, j * 2, none⟩ (.int .i64 a.1)).setCell ⟨g, j * 2 + 1, none⟩ (.int .i64 a.2)) := by
  obtain ⟨g1, g2, g3, g4, g5, g6⟩ := h
  have own2 := (((g3 h25 h27).stored (j * 2) (.int .i64 a.1)).1.stored (j * 2 + 1) (.int .i64 a.2)).1
  rw [flat_set_pair _ _ _ _ (by simpa using hj)] at own2
  refine ⟨(g1.trans (But.of_set _ _ _ (by simp))).trans (But.of_set _ _ _ (by simp)), fun h => ?_, fun _ h => (by cases h), fun _ => own2, g5, fun _ => h25⟩
  rw [show updB fl 27 25 = fl 25 from rfl, h25] at h; cases h
end
set_option maxRecDepth 100000 in
theorem iSwap_any {w : World} {base h m : Nat} {sv : Value} {l : List It} (H : HW w base h m sv l) {i j : Nat} {x y : It} (hx : l[i]? = some x) (hy : l[j]? = some y) :
    Calls Try.prog 118 #[.pointer (some ⟨h, 0, none⟩), .int .i64 i, .int .i64 j] w fun e w' => e = .returned (.tuple #[]) ∧ HW w' base h m sv (swp l i j x y) ∧ But w w' (hbs h m sv) := by
  obtain ⟨x1, x2⟩ := x
  obtain ⟨y1, y2⟩ := y
  obtain ⟨g, c, rfl, hgl, hc, hc2, h1, h2⟩ := H.item hx
  obtain ⟨g', c', e, _, _, _, k1, k2⟩ := H.item hy
  cases e
  have c0 := H.c0
  have c1 := H.c1
  have hlt := H.hlt
  have hll := H.len
  have hgh := (H.hg rfl).1
  have hgm := (H.hg rfl).2
  have hi := (List.getElem?_eq_some_iff.1 hx).1
  have hj := (List.getElem?_eq_some_iff.1 hy).1
  have hi1 : (i : Int) < (l.length : Int) := by omega
  have hj1 : (j : Int) < (l.length : Int) := by omega
  have hi0 : (0 : Int) ≤ (i : Int) := by omega
  have hj0 : (0 : Int) ≤ (j : Int) := by omega
  have own0 := Lib.hid H.own
  obtain ⟨n, hn⟩ : ∃ n, l.length = n := ⟨_, rfl⟩
  rw [hn] at c0 hi1 hj1 own0
  -- behind both regions, whatever the first leaves
  have hafter : Hid (∀ W4 : World, But w W4 [g] → W4.ownsRow base 53 2 (.slice (some ⟨g, 0, none⟩) n c) n ((swp l i j (x1, x2) (y1, y2)).flatMap pairE) →
      ∃ B0 B1 B2 v0 st0 v1 st1, W4.heap[m]? = some B0 ∧ W4.cell? ⟨g, i * 2 + 1, none⟩ = some (.int .i64 y2) ∧ W4.cell? ⟨g, j * 2 + 1, none⟩ = some (.int .i64 x2) ∧
        (∀ W : World, W.heap[m]? = some B0 → (Instr.mapEntry 51 (.map (some m)) (.int .i64 y2)).run Try.prog W = .ok (.tuple #[v0, .int .i64 ((st0 : Nat) : Int)]) W) ∧
        (∀ W : World, W.heap[m]? = some B0 → (Instr.entryStore 51 (.map (some m)) (.int .i64 ((st0 : Nat) : Int)) (.int .i64 i)).run Try.prog W = .ok () (setBlock W m B1)) ∧
        (∀ W : World, W.heap[m]? = some B1 → (Instr.mapEntry 51 (.map (some m)) (.int .i64 x2)).run Try.prog W = .ok (.tuple #[v1, .int .i64 ((st1 : Nat) : Int)]) W) ∧
        (∀ W : World, W.heap[m]? = some B1 → (Instr.entryStore 51 (.map (some m)) (.int .i64 ((st1 : Nat) : Int)) (.int .i64 j)).run Try.prog W = .ok () (setBlock W m B2)) ∧
        (∀ w' : World, But W4 w' [m] → w'.heap[m]? = some B2 → HW w' base h m (.slice (some ⟨g, 0, none⟩) n c) (swp l i j (x1, x2) (y1, y2)) ∧ But w w' (hbs h m (.slice (some ⟨g, 0, none⟩) n c)))) := by
    intro W4 hbut4 own4
    have hlen : (swp l i j (x1, x2) (y1, y2)).length = n := by rw [swp_len, hn]
    have at' := swp_at hx hy
    have vi : (swp l i j (x1, x2) (y1, y2))[i]? = some (y1, y2) := by
      rw [at']
      by_cases e : i = j
      · subst e; rw [if_pos rfl, ← hx, hy]
      · rw [if_neg e, if_pos rfl]
    have vj : (swp l i j (x1, x2) (y1, y2))[j]? = some (x1, x2) := by rw [at', if_pos rfl]
    obtain ⟨f, hf, hM⟩ := H.map
    have hf4 := hf.keep (hbut4.keep m H.mlt (by simp; exact Ne.symm hgm))
    have hwx := H.wf _ (List.mem_of_getElem? hx)
    have hwy := H.wf _ (List.mem_of_getElem? hy)
    have hwi : (Lit.int .i64 (i : Int)).wf = true := wf64 (by omega) (by omega)
    have hwj : (Lit.int .i64 (j : Int)).wf = true := wf64 (by omega) (by omega)
    obtain ⟨B0, B1, v0, st0, hB0, n1, n2, hM1⟩ := hf4.entry Try.underlying51 Try.underlying3 Try.underlying3 hwy hwi (hM.there hy) (by omega)
    have hM1' := hM1 (setBlock W4 m B1) (heap_setB hB0)
    obtain ⟨B1', B2, v1, st1, hB1, n3, n4, hM2⟩ := hM1'.entry Try.underlying51 Try.underlying3 Try.underlying3 hwx hwj (by
      unfold updI; split
      · rfl
      · exact hM.there hx) (by omega)
    have e1 : B1' = B1 := by rw [heap_setB hB0] at hB1; cases hB1; rfl
    subst e1
    have hlt4 : h < W4.heap.size := Nat.lt_of_lt_of_le hlt hbut4.size
    have hgl4 : g < W4.heap.size := Nat.lt_of_lt_of_le hgl hbut4.size
    refine ⟨B0, B1', B2, v0, st0, v1, st1, hB0, (own_at own4 vi).2, (own_at own4 vj).2, n1, n2, n3, n4, fun w' hb hB => ⟨⟨((hb.keep h hlt4 (by simp; exact H.hm)).trans (hbut4.keep h hlt (by simp; exact Ne.symm hgh))).trans (by rw [← hn]; exact H.blk), ?_,
      ⟨_, by rw [hlen, ← hn]; exact hM2 w' hB, hM.swp hx hy⟩, H.hb, H.mb, fun z hz => H.wf z ((swp_perm hx hy).mem_iff.1 hz), by rw [hlen, ← hn]; exact H.len⟩, ?_⟩⟩
    · rw [hlen]
      exact own_keep own4 fun g2 hg2 => by cases hg2; exact hb.keep g hgl4 (by simp; exact hgm)
    · exact (hbut4.mono (by intro a ha; simp at ha; subst ha; simp [hbs, Value.ownBlock])).trans (hb.mono (by intro a ha; simp at ha; subst ha; simp [hbs]))
  have Hm := H.hm
  rw [hn]
  clear H hn h1 h2 k1 k2
  go_enter Try.func118, Try.ntmps118
  go_upto_region 0 with fail
  refine wp_region_ghost (GR w base g c n l i j (x1, x2) (y1, y2)) (by kernel_rfl) (by kernel_rfl) (by kernel_rfl) (by kernel_rfl) (by kernel_rfl) ?_ ?_
  · intro x0
    exact GR.start rfl rfl own0.out
  intro base O hbase hO
  have kx0 : Hid (∀ xs, evX base O xs (.tmp 0) = .pointer (some ⟨h, 0, none⟩)) := fun xs => by rw [hbase, hO]; rfl
  have kx1 : Hid (∀ xs, evX base O xs (.tmp 1) = .int .i64 (i : Int)) := fun xs => by rw [hbase, hO]; rfl
  have kx2 : Hid (∀ xs, evX base O xs (.tmp 2) = .int .i64 (j : Int)) := fun xs => by rw [hbase, hO]; rfl
  have kx6 : Hid (∀ xs, evX base O xs (.tmp 6) = xs 0) := fun xs => by rw [hO]; rfl
  have kx7 : Hid (∀ xs, evX base O xs (.tmp 7) = xs 1) := fun xs => by rw [hO]; rfl
  have kx8 : Hid (∀ xs, evX base O xs (.tmp 8) = xs 2) := fun xs => by rw [hO]; rfl
  have kx9 : Hid (∀ xs, evX base O xs (.tmp 9) = xs 3) := fun xs => by rw [hO]; rfl
  have kx10 : Hid (∀ xs, evX base O xs (.tmp 10) = xs 4) := fun xs => by rw [hO]; rfl
  have kx11 : Hid (∀ xs, evX base O xs (.tmp 11) = xs 5) := fun xs => by rw [hO]; rfl
  have kx12 : Hid (∀ xs, evX base O xs (.tmp 12) = xs 6) := fun xs => by rw [hO]; rfl
  have kx13 : Hid (∀ xs, evX base O xs (.tmp 13) = xs 7) := fun xs => by rw [hO]; rfl
  have kx14 : Hid (∀ xs, evX base O xs (.tmp 14) = xs 8) := fun xs => by rw [hO]; rfl
  have kx15 : Hid (∀ xs, evX base O xs (.tmp 15) = xs 9) := fun xs => by rw [hO]; rfl
  have kx16 : Hid (∀ xs, evX base O xs (.tmp 16) = xs 10) := fun xs => by rw [hO]; rfl
  have kx17 : Hid (∀ xs, evX base O xs (.tmp 17) = xs 11) := fun xs => by rw [hO]; rfl
  have kx18 : Hid (∀ xs, evX base O xs (.tmp 18) = xs 12) := fun xs => by rw [hO]; rfl
  have kx19 : Hid (∀ xs, evX base O xs (.tmp 19) = xs 13) := fun xs => by rw [hO]; rfl
  have kx20 : Hid (∀ xs, evX base O xs (.tmp 20) = xs 14) := fun xs => by rw [hO]; rfl
  have kx21 : Hid (∀ xs, evX base O xs (.tmp 21) = xs 15) := fun xs => by rw [hO]; rfl
  have kx22 : Hid (∀ xs, evX base O xs (.tmp 22) = xs 16) := fun xs => by rw [hO]; rfl
  have kx23 : Hid (∀ xs, evX base O xs (.tmp 23) = xs 17) := fun xs => by rw [hO]; rfl
  have kx24 : Hid (∀ xs, evX base O xs (.tmp 24) = xs 18) := fun xs => by rw [hO]; rfl
  have kx25 : Hid (∀ xs, evX base O xs (.tmp 25) = xs 19) := fun xs => by rw [hO]; rfl
  have kx26 : Hid (∀ xs, evX base O xs (.tmp 26) = xs 20) := fun xs => by rw [hO]; rfl
  have kx27 : Hid (∀ xs, evX base O xs (.tmp 27) = xs 21) := fun xs => by rw [hO]; rfl
  have kx28 : Hid (∀ xs, evX base O xs (.tmp 28) = xs 22) := fun xs => by rw [hO]; rfl
  have kx29 : Hid (∀ xs, evX base O xs (.tmp 29) = xs 23) := fun xs => by rw [hO]; rfl
  have kx30 : Hid (∀ xs, evX base O xs (.tmp 30) = xs 24) := fun xs => by rw [hO]; rfl
  have kx31 : Hid (∀ xs, evX base O xs (.tmp 31) = xs 26) := fun xs => by rw [hO]; rfl
  clear hbase hO
  apply gh_det (n := 0)
  · intro fl xs w ev hG hD hl hdone hev K hK
    have e0 := (hev (.tmp 0)).trans (kx0.out xs)
    rw [if_pos (wantedX_none rfl)]
    have ef : ∀ f, ev (.func f) = .func (.func f) #[] #[] := fun f => (hev _).trans rfl
    clear hev hD
    go_simp
    exact hK _ _ rfl hG
  apply gh_det (n := 1)
  · intro fl xs w ev hG hD hl hdone hev K hK
    have e6 := (hev (.tmp 6)).trans (kx6.out xs)
    have d0 := hD.at_ 0 rfl rfl
    replace e6 := e6.trans d0
    rw [if_pos (wantedX_none rfl)]
    have ef : ∀ f, ev (.func f) = .func (.func f) #[] #[] := fun f => (hev _).trans rfl
    clear hev hD
    go_simp
    exact hK _ _ rfl hG
  apply gh_det (n := 2)
  · intro fl xs w ev hG hD hl hdone hev K hK
    have e7 := (hev (.tmp 7)).trans (kx7.out xs)
    have d1 := hD.at_ 1 rfl rfl
    replace e7 := e7.trans d1
    rw [if_pos (wantedX_none rfl)]
    have ef : ∀ f, ev (.func f) = .func (.func f) #[] #[] := fun f => (hev _).trans rfl
    clear hev hD
    go_simp
    exact hK _ _ rfl hG
  apply gh_det (n := 3)
  · intro fl xs w ev hG hD hl hdone hev K hK
    have e8 := (hev (.tmp 8)).trans (kx8.out xs)
    have d2 := hD.at_ 2 rfl rfl
    replace e8 := e8.trans d2
    rw [if_pos (wantedX_none rfl)]
    have ef : ∀ f, ev (.func f) = .func (.func f) #[] #[] := fun f => (hev _).trans rfl
    clear hev hD
    have m0 := (hG.1.cell (p := ⟨_, _, none⟩) hlt (by simp; exact Ne.symm hgh)).trans c0
    go_simp
    exact hK _ _ rfl hG
  apply gh_det (n := 4)
  · intro fl xs w ev hG hD hl hdone hev K hK
    have e1 := (hev (.tmp 1)).trans (kx1.out xs)
    rw [if_pos (wantedX_none rfl)]
    have ef : ∀ f, ev (.func f) = .func (.func f) #[] #[] := fun f => (hev _).trans rfl
    clear hev hD
    go_simp
    exact hK _ _ rfl hG
  apply gh_det (n := 5)
  · intro fl xs w ev hG hD hl hdone hev K hK
    have e0 := (hev (.tmp 0)).trans (kx0.out xs)
    rw [if_pos (wantedX_none rfl)]
    have ef : ∀ f, ev (.func f) = .func (.func f) #[] #[] := fun f => (hev _).trans rfl
    clear hev hD
    go_simp
    exact hK _ _ rfl hG
  apply gh_det (n := 6)
  · intro fl xs w ev hG hD hl hdone hev K hK
    have e11 := (hev (.tmp 11)).trans (kx11.out xs)
    have d5 := hD.at_ 5 rfl rfl
    replace e11 := e11.trans d5
    rw [if_pos (wantedX_none rfl)]
    have ef : ∀ f, ev (.func f) = .func (.func f) #[] #[] := fun f => (hev _).trans rfl
    clear hev hD
    go_simp
    exact hK _ _ rfl hG
  apply gh_det (n := 7)
  · intro fl xs w ev hG hD hl hdone hev K hK
    have e12 := (hev (.tmp 12)).trans (kx12.out xs)
    have d6 := hD.at_ 6 rfl rfl
    replace e12 := e12.trans d6
    rw [if_pos (wantedX_none rfl)]
    have ef : ∀ f, ev (.func f) = .func (.func f) #[] #[] := fun f => (hev _).trans rfl
    clear hev hD
    go_simp
    exact hK _ _ rfl hG
  apply gh_det (n := 8)
  · intro fl xs w ev hG hD hl hdone hev K hK
    have e13 := (hev (.tmp 13)).trans (kx13.out xs)
    have d7 := hD.at_ 7 rfl rfl
    replace e13 := e13.trans d7
    rw [if_pos (wantedX_none rfl)]
    have ef : ∀ f, ev (.func f) = .func (.func f) #[] #[] := fun f => (hev _).trans rfl
    clear hev hD
    have m0 := (hG.1.cell (p := ⟨_, _, none⟩) hlt (by simp; exact Ne.symm hgh)).trans c0
    go_simp
    exact hK _ _ rfl hG
  apply gh_det (n := 9)
  · intro fl xs w ev hG hD hl hdone hev K hK
    have e2 := (hev (.tmp 2)).trans (kx2.out xs)
    rw [if_pos (wantedX_none rfl)]
    have ef : ∀ f, ev (.func f) = .func (.func f) #[] #[] := fun f => (hev _).trans rfl
    clear hev hD
    go_simp
    exact hK _ _ rfl hG
  apply gh_det (n := 10)
  · intro fl xs w ev hG hD hl hdone hev K hK
    have e0 := (hev (.tmp 0)).trans (kx0.out xs)
    rw [if_pos (wantedX_none rfl)]
    have ef : ∀ f, ev (.func f) = .func (.func f) #[] #[] := fun f => (hev _).trans rfl
    clear hev hD
    go_simp
    exact hK _ _ rfl hG
  apply gh_det (n := 11)
  · intro fl xs w ev hG hD hl hdone hev K hK
    have e16 := (hev (.tmp 16)).trans (kx16.out xs)
    have d10 := hD.at_ 10 rfl rfl
    replace e16 := e16.trans d10
    rw [if_pos (wantedX_none rfl)]
    have ef : ∀ f, ev (.func f) = .func (.func f) #[] #[] := fun f => (hev _).trans rfl
    clear hev hD
    go_simp
    exact hK _ _ rfl hG
  apply gh_det (n := 12)
  · intro fl xs w ev hG hD hl hdone hev K hK
    have e17 := (hev (.tmp 17)).trans (kx17.out xs)
    have d11 := hD.at_ 11 rfl rfl
    replace e17 := e17.trans d11
    rw [if_pos (wantedX_none rfl)]
    have ef : ∀ f, ev (.func f) = .func (.func f) #[] #[] := fun f => (hev _).trans rfl
    clear hev hD
    go_simp
    exact hK _ _ rfl hG
  apply gh_det (n := 13)
  · intro fl xs w ev hG hD hl hdone hev K hK
    have e18 := (hev (.tmp 18)).trans (kx18.out xs)
    have d12 := hD.at_ 12 rfl rfl
    replace e18 := e18.trans d12
    rw [if_pos (wantedX_none rfl)]
    have ef : ∀ f, ev (.func f) = .func (.func f) #[] #[] := fun f => (hev _).trans rfl
    clear hev hD
    have m0 := (hG.1.cell (p := ⟨_, _, none⟩) hlt (by simp; exact Ne.symm hgh)).trans c0
    go_simp
    exact hK _ _ rfl hG
  apply gh_det (n := 14)
  · intro fl xs w ev hG hD hl hdone hev K hK
    have e2 := (hev (.tmp 2)).trans (kx2.out xs)
    rw [if_pos (wantedX_none rfl)]
    have ef : ∀ f, ev (.func f) = .func (.func f) #[] #[] := fun f => (hev _).trans rfl
    clear hev hD
    go_simp
    exact hK _ _ rfl hG
  apply gh_det (n := 15)
  · intro fl xs w ev hG hD hl hdone hev K hK
    have e19 := (hev (.tmp 19)).trans (kx19.out xs)
    have d13 := hD.at_ 13 rfl rfl
    replace e19 := e19.trans d13
    have e20 := (hev (.tmp 20)).trans (kx20.out xs)
    have d14 := hD.at_ 14 rfl rfl
    replace e20 := e20.trans d14
    rw [if_pos (wantedX_none rfl)]
    have ef : ∀ f, ev (.func f) = .func (.func f) #[] #[] := fun f => (hev _).trans rfl
    clear hev hD
    go_simp
    exact hK _ _ rfl hG
  apply gh_det (n := 16)
  · intro fl xs w ev hG hD hl hdone hev K hK
    have e21 := (hev (.tmp 21)).trans (kx21.out xs)
    have d15 := hD.at_ 15 rfl rfl
    replace e21 := e21.trans d15
    rw [if_pos (wantedX_none rfl)]
    have ef : ∀ f, ev (.func f) = .func (.func f) #[] #[] := fun f => (hev _).trans rfl
    clear hev hD
    obtain ⟨q1, q2⟩ := hG.get (hG.not16 hl) hy
    go_simp
    exact hK _ _ rfl hG.s16
  apply gh_det (n := 17)
  · intro fl xs w ev hG hD hl hdone hev K hK
    have e0 := (hev (.tmp 0)).trans (kx0.out xs)
    rw [if_pos (wantedX_none rfl)]
    have ef : ∀ f, ev (.func f) = .func (.func f) #[] #[] := fun f => (hev _).trans rfl
    clear hev hD
    go_simp
    exact hK _ _ rfl hG
  apply gh_det (n := 18)
  · intro fl xs w ev hG hD hl hdone hev K hK
    have e23 := (hev (.tmp 23)).trans (kx23.out xs)
    have d17 := hD.at_ 17 rfl rfl
    replace e23 := e23.trans d17
    rw [if_pos (wantedX_none rfl)]
    have ef : ∀ f, ev (.func f) = .func (.func f) #[] #[] := fun f => (hev _).trans rfl
    clear hev hD
    go_simp
    exact hK _ _ rfl hG
  apply gh_det (n := 19)
  · intro fl xs w ev hG hD hl hdone hev K hK
    have e24 := (hev (.tmp 24)).trans (kx24.out xs)
    have d18 := hD.at_ 18 rfl rfl
    replace e24 := e24.trans d18
    rw [if_pos (wantedX_none rfl)]
    have ef : ∀ f, ev (.func f) = .func (.func f) #[] #[] := fun f => (hev _).trans rfl
    clear hev hD
    go_simp
    exact hK _ _ rfl hG
  apply gh_det (n := 20)
  · intro fl xs w ev hG hD hl hdone hev K hK
    have e25 := (hev (.tmp 25)).trans (kx25.out xs)
    have d19 := hD.at_ 19 rfl rfl
    replace e25 := e25.trans d19
    rw [if_pos (wantedX_none rfl)]
    have ef : ∀ f, ev (.func f) = .func (.func f) #[] #[] := fun f => (hev _).trans rfl
    clear hev hD
    have m0 := (hG.1.cell (p := ⟨_, _, none⟩) hlt (by simp; exact Ne.symm hgh)).trans c0
    go_simp
    exact hK _ _ rfl hG
  apply gh_det (n := 21)
  · intro fl xs w ev hG hD hl hdone hev K hK
    have e1 := (hev (.tmp 1)).trans (kx1.out xs)
    rw [if_pos (wantedX_none rfl)]
    have ef : ∀ f, ev (.func f) = .func (.func f) #[] #[] := fun f => (hev _).trans rfl
    clear hev hD
    go_simp
    exact hK _ _ rfl hG
  apply gh_det (n := 22)
  · intro fl xs w ev hG hD hl hdone hev K hK
    have e26 := (hev (.tmp 26)).trans (kx26.out xs)
    have d20 := hD.at_ 20 rfl rfl
    replace e26 := e26.trans d20
    have e27 := (hev (.tmp 27)).trans (kx27.out xs)
    have d21 := hD.at_ 21 rfl rfl
    replace e27 := e27.trans d21
    rw [if_pos (wantedX_none rfl)]
    have ef : ∀ f, ev (.func f) = .func (.func f) #[] #[] := fun f => (hev _).trans rfl
    clear hev hD
    go_simp
    exact hK _ _ rfl hG
  apply gh_det (n := 23)
  · intro fl xs w ev hG hD hl hdone hev K hK
    have e28 := (hev (.tmp 28)).trans (kx28.out xs)
    have d22 := hD.at_ 22 rfl rfl
    replace e28 := e28.trans d22
    rw [if_pos (wantedX_none rfl)]
    have ef : ∀ f, ev (.func f) = .func (.func f) #[] #[] := fun f => (hev _).trans rfl
    clear hev hD
    obtain ⟨q1, q2⟩ := hG.get (hG.not23 hl) hx
    go_simp
    exact hK _ _ rfl hG.s23
  apply gh_det (n := 24)
  · intro fl xs w ev hG hD hl hdone hev K hK
    have e9 := (hev (.tmp 9)).trans (kx9.out xs)
    have d3 := hD.at_ 3 rfl rfl
    replace e9 := e9.trans d3
    have e10 := (hev (.tmp 10)).trans (kx10.out xs)
    have d4 := hD.at_ 4 rfl rfl
    replace e10 := e10.trans d4
    rw [if_pos (wantedX_none rfl)]
    have ef : ∀ f, ev (.func f) = .func (.func f) #[] #[] := fun f => (hev _).trans rfl
    clear hev hD
    go_simp
    exact hK _ _ rfl hG
  refine gh_any (n := 25) (fun _ => True) ?_ ?_
  · intro fl xs w ev hG hD hl hdone hev K hK
    have e30 := (hev (.tmp 30)).trans (kx30.out xs)
    have d24 := hD.at_ 24 rfl rfl
    replace e30 := e30.trans d24
    have e22 := (hev (.tmp 22)).trans (kx22.out xs)
    have d16 := hD.at_ 16 rfl rfl
    replace e22 := e22.trans d16
    rw [if_pos (wantedX_none rfl)]
    have ef : ∀ f, ev (.func f) = .func (.func f) #[] #[] := fun f => (hev _).trans rfl
    clear hev hD
    obtain ⟨q1, q2⟩ := hG.get hl hx
    have f1 := (hG.2.1 hl).frozenAt (i * 2)
    have f2 := (hG.2.1 hl).frozenAt (i * 2 + 1)
    have hgo := GR.s25 (v := undef) hG hi hl (done_of hdone 16 rfl) (done_of hdone 23 rfl)
    go_simp
    exact hK _ _ trivial hgo
  apply gh_det (n := 26)
  · intro fl xs w ev hG hD hl hdone hev K hK
    have e14 := (hev (.tmp 14)).trans (kx14.out xs)
    have d8 := hD.at_ 8 rfl rfl
    replace e14 := e14.trans d8
    have e15 := (hev (.tmp 15)).trans (kx15.out xs)
    have d9 := hD.at_ 9 rfl rfl
    replace e15 := e15.trans d9
    rw [if_pos (wantedX_none rfl)]
    have ef : ∀ f, ev (.func f) = .func (.func f) #[] #[] := fun f => (hev _).trans rfl
    clear hev hD
    go_simp
    exact hK _ _ rfl hG
  refine gh_any (n := 27) (fun _ => True) ?_ ?_
  · intro fl xs w ev hG hD hl hdone hev K hK
    have e31 := (hev (.tmp 31)).trans (kx31.out xs)
    have d26 := hD.at_ 26 rfl rfl
    replace e31 := e31.trans d26
    have e29 := (hev (.tmp 29)).trans (kx29.out xs)
    have d23 := hD.at_ 23 rfl rfl
    replace e29 := e29.trans d23
    rw [if_pos (wantedX_none rfl)]
    have ef : ∀ f, ev (.func f) = .func (.func f) #[] #[] := fun f => (hev _).trans rfl
    clear hev hD
    have h25 := done_of hdone 25 rfl
    obtain ⟨a1, a2, q1, q2⟩ := hG.get2 h25 hl hj
    have f1 := (hG.2.2.1 h25 hl).frozenAt (j * 2)
    have f2 := (hG.2.2.1 h25 hl).frozenAt (j * 2 + 1)
    have hgo := GR.s27 (v := undef) hG hj h25 hl
    go_simp
    exact hK _ _ trivial hgo
  intro xs0 W4 hG hI
  clear hI
  have hbut4 := hG.1
  obtain ⟨B0, B1, B2, v0, st0, v1, st1, hB0, k1, k2, n1, n2, n3, n4, hfin⟩ := hafter.out W4 hbut4 (hG.2.2.2.1 rfl)
  have hfin := Lib.hid hfin
  rename_i hfin0; clear hfin0 hafter hG
  have hlt4 : h < W4.heap.size := Nat.lt_of_lt_of_le hlt hbut4.size
  have hgl4 : g < W4.heap.size := Nat.lt_of_lt_of_le hgl hbut4.size
  have d0 := (hbut4.cell (p := ⟨h, 0, none⟩) hlt (by simp; exact Ne.symm hgh)).trans c0
  have d1 := (hbut4.cell (p := ⟨h, 1, none⟩) hlt (by simp; exact Ne.symm hgh)).trans c1
  simp only [List.append_eq, List.cons_append, List.nil_append, setAll, List.setIfInBounds_toArray, List.set_cons_zero, List.set_cons_succ]
  go_upto_region 1 with fail
  refine wp_region_ghost (GS W4 m B0 B1 B2) (by kernel_rfl) (by kernel_rfl) (by kernel_rfl) (by kernel_rfl) (by kernel_rfl) ?_ ?_
  · intro x0
    exact GS.start rfl rfl rfl rfl hB0
  intro base O hbase hO
  have kx0 : Hid (∀ xs, evX base O xs (.tmp 0) = .pointer (some ⟨h, 0, none⟩)) := fun xs => by rw [hbase, hO]; rfl
  have kx1 : Hid (∀ xs, evX base O xs (.tmp 1) = .int .i64 (i : Int)) := fun xs => by rw [hbase, hO]; rfl
  have kx2 : Hid (∀ xs, evX base O xs (.tmp 2) = .int .i64 (j : Int)) := fun xs => by rw [hbase, hO]; rfl
  have kx32 : Hid (∀ xs, evX base O xs (.tmp 32) = xs 0) := fun xs => by rw [hO]; rfl
  have kx33 : Hid (∀ xs, evX base O xs (.tmp 33) = xs 1) := fun xs => by rw [hO]; rfl
  have kx34 : Hid (∀ xs, evX base O xs (.tmp 34) = xs 2) := fun xs => by rw [hO]; rfl
  have kx35 : Hid (∀ xs, evX base O xs (.tmp 35) = xs 3) := fun xs => by rw [hO]; rfl
  have kx36 : Hid (∀ xs, evX base O xs (.tmp 36) = xs 4) := fun xs => by rw [hO]; rfl
  have kx37 : Hid (∀ xs, evX base O xs (.tmp 37) = xs 5) := fun xs => by rw [hO]; rfl
  have kx38 : Hid (∀ xs, evX base O xs (.tmp 38) = xs 6) := fun xs => by rw [hO]; rfl
  have kx39 : Hid (∀ xs, evX base O xs (.tmp 39) = xs 7) := fun xs => by rw [hO]; rfl
  have kx40 : Hid (∀ xs, evX base O xs (.tmp 40) = xs 8) := fun xs => by rw [hO]; rfl
  have kx41 : Hid (∀ xs, evX base O xs (.tmp 41) = xs 9) := fun xs => by rw [hO]; rfl
  have kx42 : Hid (∀ xs, evX base O xs (.tmp 42) = xs 10) := fun xs => by rw [hO]; rfl
  have kx43 : Hid (∀ xs, evX base O xs (.tmp 43) = xs 11) := fun xs => by rw [hO]; rfl
  have kx44 : Hid (∀ xs, evX base O xs (.tmp 44) = xs 12) := fun xs => by rw [hO]; rfl
  have kx45 : Hid (∀ xs, evX base O xs (.tmp 45) = xs 13) := fun xs => by rw [hO]; rfl
  have kx46 : Hid (∀ xs, evX base O xs (.tmp 46) = xs 14) := fun xs => by rw [hO]; rfl
  have kx47 : Hid (∀ xs, evX base O xs (.tmp 47) = xs 15) := fun xs => by rw [hO]; rfl
  have kx48 : Hid (∀ xs, evX base O xs (.tmp 48) = xs 16) := fun xs => by rw [hO]; rfl
  have kx49 : Hid (∀ xs, evX base O xs (.tmp 49) = xs 17) := fun xs => by rw [hO]; rfl
  have kx50 : Hid (∀ xs, evX base O xs (.tmp 50) = xs 18) := fun xs => by rw [hO]; rfl
  have kx51 : Hid (∀ xs, evX base O xs (.tmp 51) = xs 19) := fun xs => by rw [hO]; rfl
  have kx52 : Hid (∀ xs, evX base O xs (.tmp 52) = xs 20) := fun xs => by rw [hO]; rfl
  have kx53 : Hid (∀ xs, evX base O xs (.tmp 53) = xs 21) := fun xs => by rw [hO]; rfl
  have kx54 : Hid (∀ xs, evX base O xs (.tmp 54) = xs 22) := fun xs => by rw [hO]; rfl
  have kx55 : Hid (∀ xs, evX base O xs (.tmp 55) = xs 23) := fun xs => by rw [hO]; rfl
  have kx56 : Hid (∀ xs, evX base O xs (.tmp 56) = xs 24) := fun xs => by rw [hO]; rfl
  have kx57 : Hid (∀ xs, evX base O xs (.tmp 57) = xs 25) := fun xs => by rw [hO]; rfl
  have kx58 : Hid (∀ xs, evX base O xs (.tmp 58) = xs 26) := fun xs => by rw [hO]; rfl
  have kx59 : Hid (∀ xs, evX base O xs (.tmp 59) = xs 27) := fun xs => by rw [hO]; rfl
  have kx60 : Hid (∀ xs, evX base O xs (.tmp 60) = xs 29) := fun xs => by rw [hO]; rfl
  have kx61 : Hid (∀ xs, evX base O xs (.tmp 61) = xs 30) := fun xs => by rw [hO]; rfl
  clear hbase hO
  apply gh_det (n := 0)
  · intro fl xs w ev hG hD hl hdone hev K hK
    have e0 := (hev (.tmp 0)).trans (kx0.out xs)
    rw [if_pos (wantedX_none rfl)]
    have ef : ∀ f, ev (.func f) = .func (.func f) #[] #[] := fun f => (hev _).trans rfl
    clear hev hD
    go_simp
    exact hK _ _ rfl hG
  apply gh_det (n := 1)
  · intro fl xs w ev hG hD hl hdone hev K hK
    have e32 := (hev (.tmp 32)).trans (kx32.out xs)
    have d0 := hD.at_ 0 rfl rfl
    replace e32 := e32.trans d0
    rw [if_pos (wantedX_none rfl)]
    have ef : ∀ f, ev (.func f) = .func (.func f) #[] #[] := fun f => (hev _).trans rfl
    clear hev hD
    go_simp
    exact hK _ _ rfl hG
  apply gh_det (n := 2)
  · intro fl xs w ev hG hD hl hdone hev K hK
    have e33 := (hev (.tmp 33)).trans (kx33.out xs)
    have d1 := hD.at_ 1 rfl rfl
    replace e33 := e33.trans d1
    rw [if_pos (wantedX_none rfl)]
    have ef : ∀ f, ev (.func f) = .func (.func f) #[] #[] := fun f => (hev _).trans rfl
    clear hev hD
    go_simp
    exact hK _ _ rfl hG
  apply gh_det (n := 3)
  · intro fl xs w ev hG hD hl hdone hev K hK
    have e34 := (hev (.tmp 34)).trans (kx34.out xs)
    have d2 := hD.at_ 2 rfl rfl
    replace e34 := e34.trans d2
    rw [if_pos (wantedX_none rfl)]
    have ef : ∀ f, ev (.func f) = .func (.func f) #[] #[] := fun f => (hev _).trans rfl
    clear hev hD
    have m0 := (hG.1.cell (p := ⟨_, _, none⟩) hlt4 (by simp [Hm])).trans d1
    go_simp
    exact hK _ _ rfl hG
  apply gh_det (n := 4)
  · intro fl xs w ev hG hD hl hdone hev K hK
    have e0 := (hev (.tmp 0)).trans (kx0.out xs)
    rw [if_pos (wantedX_none rfl)]
    have ef : ∀ f, ev (.func f) = .func (.func f) #[] #[] := fun f => (hev _).trans rfl
    clear hev hD
    go_simp
    exact hK _ _ rfl hG
  apply gh_det (n := 5)
  · intro fl xs w ev hG hD hl hdone hev K hK
    have e36 := (hev (.tmp 36)).trans (kx36.out xs)
    have d4 := hD.at_ 4 rfl rfl
    replace e36 := e36.trans d4
    rw [if_pos (wantedX_none rfl)]
    have ef : ∀ f, ev (.func f) = .func (.func f) #[] #[] := fun f => (hev _).trans rfl
    clear hev hD
    go_simp
    exact hK _ _ rfl hG
  apply gh_det (n := 6)
  · intro fl xs w ev hG hD hl hdone hev K hK
    have e37 := (hev (.tmp 37)).trans (kx37.out xs)
    have d5 := hD.at_ 5 rfl rfl
    replace e37 := e37.trans d5
    rw [if_pos (wantedX_none rfl)]
    have ef : ∀ f, ev (.func f) = .func (.func f) #[] #[] := fun f => (hev _).trans rfl
    clear hev hD
    go_simp
    exact hK _ _ rfl hG
  apply gh_det (n := 7)
  · intro fl xs w ev hG hD hl hdone hev K hK
    have e38 := (hev (.tmp 38)).trans (kx38.out xs)
    have d6 := hD.at_ 6 rfl rfl
    replace e38 := e38.trans d6
    rw [if_pos (wantedX_none rfl)]
    have ef : ∀ f, ev (.func f) = .func (.func f) #[] #[] := fun f => (hev _).trans rfl
    clear hev hD
    have m0 := (hG.1.cell (p := ⟨_, _, none⟩) hlt4 (by simp [Hm])).trans d0
    go_simp
    exact hK _ _ rfl hG
  apply gh_det (n := 8)
  · intro fl xs w ev hG hD hl hdone hev K hK
    have e1 := (hev (.tmp 1)).trans (kx1.out xs)
    rw [if_pos (wantedX_none rfl)]
    have ef : ∀ f, ev (.func f) = .func (.func f) #[] #[] := fun f => (hev _).trans rfl
    clear hev hD
    go_simp
    exact hK _ _ rfl hG
  apply gh_det (n := 9)
  · intro fl xs w ev hG hD hl hdone hev K hK
    have e39 := (hev (.tmp 39)).trans (kx39.out xs)
    have d7 := hD.at_ 7 rfl rfl
    replace e39 := e39.trans d7
    have e40 := (hev (.tmp 40)).trans (kx40.out xs)
    have d8 := hD.at_ 8 rfl rfl
    replace e40 := e40.trans d8
    rw [if_pos (wantedX_none rfl)]
    have ef : ∀ f, ev (.func f) = .func (.func f) #[] #[] := fun f => (hev _).trans rfl
    clear hev hD
    go_simp
    exact hK _ _ rfl hG
  apply gh_det (n := 10)
  · intro fl xs w ev hG hD hl hdone hev K hK
    have e41 := (hev (.tmp 41)).trans (kx41.out xs)
    have d9 := hD.at_ 9 rfl rfl
    replace e41 := e41.trans d9
    rw [if_pos (wantedX_none rfl)]
    have ef : ∀ f, ev (.func f) = .func (.func f) #[] #[] := fun f => (hev _).trans rfl
    clear hev hD
    go_simp
    exact hK _ _ rfl hG
  apply gh_det (n := 11)
  · intro fl xs w ev hG hD hl hdone hev K hK
    have e42 := (hev (.tmp 42)).trans (kx42.out xs)
    have d10 := hD.at_ 10 rfl rfl
    replace e42 := e42.trans d10
    rw [if_pos (wantedX_none rfl)]
    have ef : ∀ f, ev (.func f) = .func (.func f) #[] #[] := fun f => (hev _).trans rfl
    clear hev hD
    have m0 := (hG.1.cell (p := ⟨_, _, none⟩) hgl4 (by simp [hgm])).trans k1
    go_simp
    exact hK _ _ rfl hG
  apply gh_det (n := 12)
  · intro fl xs w ev hG hD hl hdone hev K hK
    have e0 := (hev (.tmp 0)).trans (kx0.out xs)
    rw [if_pos (wantedX_none rfl)]
    have ef : ∀ f, ev (.func f) = .func (.func f) #[] #[] := fun f => (hev _).trans rfl
    clear hev hD
    go_simp
    exact hK _ _ rfl hG
  apply gh_det (n := 13)
  · intro fl xs w ev hG hD hl hdone hev K hK
    have e44 := (hev (.tmp 44)).trans (kx44.out xs)
    have d12 := hD.at_ 12 rfl rfl
    replace e44 := e44.trans d12
    rw [if_pos (wantedX_none rfl)]
    have ef : ∀ f, ev (.func f) = .func (.func f) #[] #[] := fun f => (hev _).trans rfl
    clear hev hD
    go_simp
    exact hK _ _ rfl hG
  apply gh_det (n := 14)
  · intro fl xs w ev hG hD hl hdone hev K hK
    have e45 := (hev (.tmp 45)).trans (kx45.out xs)
    have d13 := hD.at_ 13 rfl rfl
    replace e45 := e45.trans d13
    rw [if_pos (wantedX_none rfl)]
    have ef : ∀ f, ev (.func f) = .func (.func f) #[] #[] := fun f => (hev _).trans rfl
    clear hev hD
    go_simp
    exact hK _ _ rfl hG
  apply gh_det (n := 15)
  · intro fl xs w ev hG hD hl hdone hev K hK
    have e46 := (hev (.tmp 46)).trans (kx46.out xs)
    have d14 := hD.at_ 14 rfl rfl
    replace e46 := e46.trans d14
    rw [if_pos (wantedX_none rfl)]
    have ef : ∀ f, ev (.func f) = .func (.func f) #[] #[] := fun f => (hev _).trans rfl
    clear hev hD
    have m0 := (hG.1.cell (p := ⟨_, _, none⟩) hlt4 (by simp [Hm])).trans d1
    go_simp
    exact hK _ _ rfl hG
  apply gh_det (n := 16)
  · intro fl xs w ev hG hD hl hdone hev K hK
    have e0 := (hev (.tmp 0)).trans (kx0.out xs)
    rw [if_pos (wantedX_none rfl)]
    have ef : ∀ f, ev (.func f) = .func (.func f) #[] #[] := fun f => (hev _).trans rfl
    clear hev hD
    go_simp
    exact hK _ _ rfl hG
  apply gh_det (n := 17)
  · intro fl xs w ev hG hD hl hdone hev K hK
    have e48 := (hev (.tmp 48)).trans (kx48.out xs)
    have d16 := hD.at_ 16 rfl rfl
    replace e48 := e48.trans d16
    rw [if_pos (wantedX_none rfl)]
    have ef : ∀ f, ev (.func f) = .func (.func f) #[] #[] := fun f => (hev _).trans rfl
    clear hev hD
    go_simp
    exact hK _ _ rfl hG
  apply gh_det (n := 18)
  · intro fl xs w ev hG hD hl hdone hev K hK
    have e49 := (hev (.tmp 49)).trans (kx49.out xs)
    have d17 := hD.at_ 17 rfl rfl
    replace e49 := e49.trans d17
    rw [if_pos (wantedX_none rfl)]
    have ef : ∀ f, ev (.func f) = .func (.func f) #[] #[] := fun f => (hev _).trans rfl
    clear hev hD
    go_simp
    exact hK _ _ rfl hG
  apply gh_det (n := 19)
  · intro fl xs w ev hG hD hl hdone hev K hK
    have e50 := (hev (.tmp 50)).trans (kx50.out xs)
    have d18 := hD.at_ 18 rfl rfl
    replace e50 := e50.trans d18
    rw [if_pos (wantedX_none rfl)]
    have ef : ∀ f, ev (.func f) = .func (.func f) #[] #[] := fun f => (hev _).trans rfl
    clear hev hD
    have m0 := (hG.1.cell (p := ⟨_, _, none⟩) hlt4 (by simp [Hm])).trans d0
    go_simp
    exact hK _ _ rfl hG
  apply gh_det (n := 20)
  · intro fl xs w ev hG hD hl hdone hev K hK
    have e2 := (hev (.tmp 2)).trans (kx2.out xs)
    rw [if_pos (wantedX_none rfl)]
    have ef : ∀ f, ev (.func f) = .func (.func f) #[] #[] := fun f => (hev _).trans rfl
    clear hev hD
    go_simp
    exact hK _ _ rfl hG
  apply gh_det (n := 21)
  · intro fl xs w ev hG hD hl hdone hev K hK
    have e51 := (hev (.tmp 51)).trans (kx51.out xs)
    have d19 := hD.at_ 19 rfl rfl
    replace e51 := e51.trans d19
    have e52 := (hev (.tmp 52)).trans (kx52.out xs)
    have d20 := hD.at_ 20 rfl rfl
    replace e52 := e52.trans d20
    rw [if_pos (wantedX_none rfl)]
    have ef : ∀ f, ev (.func f) = .func (.func f) #[] #[] := fun f => (hev _).trans rfl
    clear hev hD
    go_simp
    exact hK _ _ rfl hG
  apply gh_det (n := 22)
  · intro fl xs w ev hG hD hl hdone hev K hK
    have e53 := (hev (.tmp 53)).trans (kx53.out xs)
    have d21 := hD.at_ 21 rfl rfl
    replace e53 := e53.trans d21
    rw [if_pos (wantedX_none rfl)]
    have ef : ∀ f, ev (.func f) = .func (.func f) #[] #[] := fun f => (hev _).trans rfl
    clear hev hD
    go_simp
    exact hK _ _ rfl hG
  apply gh_det (n := 23)
  · intro fl xs w ev hG hD hl hdone hev K hK
    have e54 := (hev (.tmp 54)).trans (kx54.out xs)
    have d22 := hD.at_ 22 rfl rfl
    replace e54 := e54.trans d22
    rw [if_pos (wantedX_none rfl)]
    have ef : ∀ f, ev (.func f) = .func (.func f) #[] #[] := fun f => (hev _).trans rfl
    clear hev hD
    have m0 := (hG.1.cell (p := ⟨_, _, none⟩) hgl4 (by simp [hgm])).trans k2
    go_simp
    exact hK _ _ rfl hG
  apply gh_det (n := 24)
  · intro fl xs w ev hG hD hl hdone hev K hK
    have e1 := (hev (.tmp 1)).trans (kx1.out xs)
    rw [if_pos (wantedX_none rfl)]
    have ef : ∀ f, ev (.func f) = .func (.func f) #[] #[] := fun f => (hev _).trans rfl
    clear hev hD
    go_simp
    exact hK _ _ rfl hG
  apply gh_det (n := 25)
  · intro fl xs w ev hG hD hl hdone hev K hK
    have e2 := (hev (.tmp 2)).trans (kx2.out xs)
    rw [if_pos (wantedX_none rfl)]
    have ef : ∀ f, ev (.func f) = .func (.func f) #[] #[] := fun f => (hev _).trans rfl
    clear hev hD
    go_simp
    exact hK _ _ rfl hG
  apply gh_det (n := 26)
  · intro fl xs w ev hG hD hl hdone hev K hK
    have e35 := (hev (.tmp 35)).trans (kx35.out xs)
    have d3 := hD.at_ 3 rfl rfl
    replace e35 := e35.trans d3
    have e43 := (hev (.tmp 43)).trans (kx43.out xs)
    have d11 := hD.at_ 11 rfl rfl
    replace e43 := e43.trans d11
    rw [if_pos (wantedX_none rfl)]
    have ef : ∀ f, ev (.func f) = .func (.func f) #[] #[] := fun f => (hev _).trans rfl
    clear hev hD
    have hs := n1 w (hG.2.1 (hG.not28 hl))
    go_simp
    exact hK _ _ rfl hG.s26
  apply gh_det (n := 27)
  · intro fl xs w ev hG hD hl hdone hev K hK
    have e58 := (hev (.tmp 58)).trans (kx58.out xs)
    have d26 := hD.at_ 26 rfl rfl
    replace e58 := e58.trans d26
    rw [if_pos (wantedX_none rfl)]
    have ef : ∀ f, ev (.func f) = .func (.func f) #[] #[] := fun f => (hev _).trans rfl
    clear hev hD
    go_simp
    exact hK _ _ rfl hG
  refine gh_any (n := 28) (fun _ => True) ?_ ?_
  · intro fl xs w ev hG hD hl hdone hev K hK
    have e35 := (hev (.tmp 35)).trans (kx35.out xs)
    have d3 := hD.at_ 3 rfl rfl
    replace e35 := e35.trans d3
    have e59 := (hev (.tmp 59)).trans (kx59.out xs)
    have d27 := hD.at_ 27 rfl rfl
    replace e59 := e59.trans d27
    have e56 := (hev (.tmp 56)).trans (kx56.out xs)
    have d24 := hD.at_ 24 rfl rfl
    replace e56 := e56.trans d24
    rw [if_pos (wantedX_none rfl)]
    have ef : ∀ f, ev (.func f) = .func (.func f) #[] #[] := fun f => (hev _).trans rfl
    clear hev hD
    have hs := n2 w (hG.2.1 hl)
    go_simp
    exact hK _ _ trivial (hG.s28 hl (done_of hdone 26 rfl))
  apply gh_det (n := 29)
  · intro fl xs w ev hG hD hl hdone hev K hK
    have e47 := (hev (.tmp 47)).trans (kx47.out xs)
    have d15 := hD.at_ 15 rfl rfl
    replace e47 := e47.trans d15
    have e55 := (hev (.tmp 55)).trans (kx55.out xs)
    have d23 := hD.at_ 23 rfl rfl
    replace e55 := e55.trans d23
    rw [if_pos (wantedX_none rfl)]
    have ef : ∀ f, ev (.func f) = .func (.func f) #[] #[] := fun f => (hev _).trans rfl
    clear hev hD
    have hs := n3 w (hG.2.2.1 (done_of hdone 28 rfl) (hG.not31 hl))
    go_simp
    exact hK _ _ rfl (hG.s29 (done_of hdone 28 rfl))
  apply gh_det (n := 30)
  · intro fl xs w ev hG hD hl hdone hev K hK
    have e60 := (hev (.tmp 60)).trans (kx60.out xs)
    have d29 := hD.at_ 29 rfl rfl
    replace e60 := e60.trans d29
    rw [if_pos (wantedX_none rfl)]
    have ef : ∀ f, ev (.func f) = .func (.func f) #[] #[] := fun f => (hev _).trans rfl
    clear hev hD
    go_simp
    exact hK _ _ rfl hG
  refine gh_any (n := 31) (fun _ => True) ?_ ?_
  · intro fl xs w ev hG hD hl hdone hev K hK
    have e47 := (hev (.tmp 47)).trans (kx47.out xs)
    have d15 := hD.at_ 15 rfl rfl
    replace e47 := e47.trans d15
    have e61 := (hev (.tmp 61)).trans (kx61.out xs)
    have d30 := hD.at_ 30 rfl rfl
    replace e61 := e61.trans d30
    have e57 := (hev (.tmp 57)).trans (kx57.out xs)
    have d25 := hD.at_ 25 rfl rfl
    replace e57 := e57.trans d25
    rw [if_pos (wantedX_none rfl)]
    have ef : ∀ f, ev (.func f) = .func (.func f) #[] #[] := fun f => (hev _).trans rfl
    clear hev hD
    have h29 := done_of hdone 29 rfl
    have hs := n4 w (hG.2.2.1 (hG.2.2.2.2.2.1 h29) hl)
    go_simp
    exact hK _ _ trivial (hG.s31 h29 hl)
  intro xs w' hG hI
  clear hI
  have hfin := hfin.out w' hG.1 (hG.2.2.2.1 rfl)
  go_wp2_with fail
  go_returns
  exact ⟨rfl, hfin.1, hfin.2⟩
end Go.Proofs.Ytapfndjaimfcaaa
