/-
  Walks: items.Push, items.Pop.
-/
import Derived.Test.YtapfndjaimfcaaaHeap3
import Derived.Test.YtapfndjaimfcaaaMem3
import Derived.Test.YtapfndjaimfcaaaHead
import Derived.Test.YtapfndjaimfcaaaBox
namespace Go.Proofs.Ytapfndjaimfcaaa
open Go.RowKit B K
open Go.ChangeMaps (setBlock)
set_option linter.unusedVariables false
set_option linter.unusedSimpArgs false
set_option maxHeartbeats 2000000
theorem infoItem : (Try.prog.info? 53).map (fun i => (i.zero, i.size, i.bytes)) = some (some (.agg #[.int .i64 0, .int .i64 0]), 2, 16) := by kernel_rfl
theorem rd_one {w : World} {k : Nat} {a b : Int} (h : w.heap[k]? = some (.cells #[.int .i64 a, .int .i64 b] 53 (0, 0))) : Rd w 2 pairE (some ⟨k, 0, none⟩) 1 [(a, b)] :=
  ⟨rfl, fun _ => ⟨k, 0, rfl, (Array.getElem?_eq_some_iff.1 h).1, fun i x hx j u hu => by
    have hi : i = 0 := by
      have := (List.getElem?_eq_some_iff.1 hx).1
      simpa using this
    subst hi
    simp at hx
    subst hx
    rw [cell_of_row _ _ _ _ _ _ h, Nat.zero_mul, Nat.add_zero, Nat.zero_add]
    simpa [pairE] using hu⟩⟩
/-- the heap's blocks while an item is appended to its row -/
def GP (w0 : World) (base h m : Nat) (sv : Value) (l : List It) (kx ix : Int) (fl : Nat → Bool) (xs : Nat → Value) (w : World) : Prop :=
  But w0 w (hbs h m sv) ∧ w.heap[m]? = w0.heap[m]? ∧ (fl 10 = true → fl 4 = true ∧ fl 7 = true) ∧ (fl 7 = true → fl 6 = true) ∧
  (fl 6 = true → ∃ k, xs 6 = .slice (some ⟨k, 0, none⟩) 1 1 ∧ w0.heap.size ≤ k ∧ (fl 7 = false → w.heap[k]? = some (.cells #[.int .i64 kx, .int .i64 ix] 53 (0, 0)))) ∧
  (fl 7 = false → w.ownsRow base 53 2 sv l.length (l.flatMap pairE)) ∧
  (fl 7 = true → w.ownsRow base 53 2 (xs 7) (l ++ [(kx, ix)]).length ((l ++ [(kx, ix)]).flatMap pairE) ∧ ((xs 7).ownBlock = sv.ownBlock ∨ ∀ k, (xs 7).ownBlock = some k → w0.heap.size ≤ k)) ∧
  (fl 10 = false → w.heap[h]? = some (.cells #[sv, .map (some m)] 87 (0, 0))) ∧
  (fl 10 = true → w.heap[h]? = some (.cells #[xs 7, .map (some m)] 87 (0, 0)))
section
variable {w0 w w1 : World} {base h m : Nat} {sv v v' : Value} {l : List It} {kx ix : Int} {fl : Nat → Bool} {xs : Nat → Value}
theorem GP.start (h4 : fl 4 = false) (h6 : fl 6 = false) (h7 : fl 7 = false) (h10 : fl 10 = false) (hm : hbs h m sv = hbs h m sv) (hH : w0.heap[h]? = some (.cells #[sv, .map (some m)] 87 (0, 0)))
    (own : w0.ownsRow base 53 2 sv l.length (l.flatMap pairE)) : GP w0 base h m sv l kx ix fl xs { w0 with drawn := w0.drawn + 1 } :=
  ⟨⟨rfl, rfl, rfl, Nat.le_refl _, fun _ _ _ => rfl⟩, rfl, fun h => (by rw [h10] at h; cases h), fun h => (by rw [h7] at h; cases h), fun h => (by rw [h6] at h; cases h), fun _ => own, fun h => (by rw [h7] at h; cases h), fun _ => hH, fun h => (by rw [h10] at h; cases h)⟩
theorem GP.not10 (H : GP w0 base h m sv l kx ix fl xs w) (h4 : fl 4 = false) : fl 10 = false := by
  cases e : fl 10 with
  | false => rfl
  | true => rw [(H.2.2.1 e).1] at h4; cases h4
theorem GP.atH (H : GP w0 base h m sv l kx ix fl xs w) (h10 : fl 10 = false) : w.cell? ⟨h, 0, none⟩ = some sv := by rw [cell_of_row _ _ _ _ _ _ (H.2.2.2.2.2.2.2.1 h10)]; rfl
theorem GP.cellsH (H : GP w0 base h m sv l kx ix fl xs w) (h10 : fl 10 = false) : w.cell? ⟨h, 0, none⟩ = some sv ∧ w.cell? ⟨h, 1, none⟩ = some (.map (some m)) :=
  ⟨H.atH h10, by rw [cell_of_row _ _ _ _ _ _ (H.2.2.2.2.2.2.2.1 h10)]; rfl⟩
theorem GP.frozenH (H : GP w0 base h m sv l kx ix fl xs w) (h10 : fl 10 = false) : w.frozen? ⟨h, 0, none⟩ = false := by simp [World.frozen?, H.2.2.2.2.2.2.2.1 h10]
theorem GP.own (H : GP w0 base h m sv l kx ix fl xs w) (h7 : fl 7 = false) : w.ownsRow base 53 2 sv l.length (l.flatMap pairE) := H.2.2.2.2.2.1 h7
theorem GP.lit (H : GP w0 base h m sv l kx ix fl xs w) (h6 : fl 6 = true) : ∃ k, xs 6 = .slice (some ⟨k, 0, none⟩) 1 1 ∧ w0.heap.size ≤ k ∧ (fl 7 = false → w.heap[k]? = some (.cells #[.int .i64 kx, .int .i64 ix] 53 (0, 0))) := H.2.2.2.2.1 h6
theorem GP.s4 (H : GP w0 base h m sv l kx ix fl xs w) : GP w0 base h m sv l kx ix (updB fl 4) (upd xs 4 v) w := by
  obtain ⟨g1, g2, g3, g4, g5, g6, g7, g8, g9⟩ := H
  exact ⟨g1, g2, fun h => ⟨rfl, (g3 h).2⟩, g4, g5, g6, g7, g8, g9⟩
theorem GP.s6 (H : GP w0 base h m sv l kx ix fl xs w) (h6 : fl 6 = false) (hm : m < w0.heap.size) : GP w0 base h m sv l kx ix (updB fl 6) (upd xs 6 (.slice (some ⟨w.heap.size, 0, none⟩) 1 1)) (w.alloc (.cells #[.int .i64 kx, .int .i64 ix] 53)) := by
  obtain ⟨g1, g2, g3, g4, g5, g6, g7, g8, g9⟩ := H
  have h7 : fl 7 = false := by
    cases e : fl 7 with
    | false => rfl
    | true => rw [g4 e] at h6; cases h6
  have h10 : fl 10 = false := by
    cases e : fl 10 with
    | false => rfl
    | true => rw [(g3 e).2] at h7; cases h7
  have hb : Below w.heap.size w (w.alloc (.cells #[.int .i64 kx, .int .i64 ix] 53)) := (Below.refl _ w).alloc (Nat.le_refl _) _
  have hh := (Array.getElem?_eq_some_iff.1 (g8 h10)).1
  exact ⟨g1.trans (But.of_below hb _), (hb.block m (Nat.lt_of_lt_of_le hm g1.size)).trans g2, fun h => (by rw [show updB fl 6 10 = fl 10 from rfl, h10] at h; cases h), fun h => rfl, fun _ => ⟨w.heap.size, rfl, g1.size, fun _ => heap_alloc_new w _⟩, fun _ => (g6 h7).alloc _, fun h => (by rw [show updB fl 6 7 = fl 7 from rfl, h7] at h; cases h),
    fun _ => (hb.block h hh).trans (g8 h10), fun h => (by rw [show updB fl 6 10 = fl 10 from rfl, h10] at h; cases h)⟩
theorem GP.s7 (H : GP w0 base h m sv l kx ix fl xs w) (h7 : fl 7 = false) (h6 : fl 6 = true) (hgr : w.grownBy w1 sv.ownBlock) (own : w1.ownsRow base 53 2 v' (l.length + 1) ((l ++ [(kx, ix)]).flatMap pairE))
    (hnew : v'.ownBlock = sv.ownBlock ∨ v'.ownBlock = some w.heap.size) (hm : m < w0.heap.size) (hh : h < w0.heap.size) (hgh : sv.ownBlock ≠ some h) (hgm : sv.ownBlock ≠ some m) : GP w0 base h m sv l kx ix (updB fl 7) (upd xs 7 v') w1 := by
  obtain ⟨g1, g2, g3, g4, g5, g6, g7, g8, g9⟩ := H
  have h10 : fl 10 = false := by
    cases e : fl 10 with
    | false => rfl
    | true => rw [(g3 e).2] at h7; cases h7
  have hb : But w w1 (hbs h m sv) := ⟨hgr.os, hgr.tape, hgr.output, hgr.size, fun i hi hx => hgr.block i hi (fun e => hx (by simp [hbs, ← e]))⟩
  have k5 := g5 h6
  obtain ⟨k, e1, e2, e3⟩ := k5
  refine ⟨g1.trans hb, (hgr.block m (Nat.lt_of_lt_of_le hm g1.size) (fun e => hgm e.symm)).trans g2, fun h => (by rw [show updB fl 7 10 = fl 10 from rfl, h10] at h; cases h), fun _ => h6, fun _ => ⟨k, e1, e2, fun h => (by cases h)⟩, fun h => (by cases h), fun _ => ⟨?_, ?_⟩,
    fun _ => (hgr.block h (Nat.lt_of_lt_of_le hh g1.size) (fun e => hgh e.symm)).trans (g8 h10), fun h => (by rw [show updB fl 7 10 = fl 10 from rfl, h10] at h; cases h)⟩
  · rw [List.length_append]
    exact own
  · rcases hnew with e | e
    · exact .inl e
    · exact .inr fun k hk => by
        have hk : v'.ownBlock = some k := hk
        rw [e] at hk; cases hk; exact g1.size
theorem GP.s10 (H : GP w0 base h m sv l kx ix fl xs w) (h10 : fl 10 = false) (h4 : fl 4 = true) (h7 : fl 7 = true) (hgh : sv.ownBlock ≠ some h) (hh0 : h < w0.heap.size) (hhm : h ≠ m) : GP w0 base h m sv l kx ix (updB fl 10) (upd xs 10 v) (w.setCell ⟨h, 0, none⟩ (xs 7)) := by
  obtain ⟨g1, g2, g3, g4, g5, g6, g7, g8, g9⟩ := H
  have hh := g8 h10
  have hset : ∀ j, j ≠ h → (w.setCell ⟨h, 0, none⟩ (xs 7)).heap[j]? = w.heap[j]? := fun j hj => Below.heap_setCell _ _ _ _ hj
  refine ⟨g1.trans (But.of_set _ _ _ (by simp [hbs])), (hset m (Ne.symm hhm)).trans g2, fun _ => ⟨h4, h7⟩, g4, fun h6 => ?_, fun h => (by rw [show updB fl 10 7 = fl 7 from rfl, h7] at h; cases h), fun _ => ?_, fun h => (by cases h), fun _ => ?_⟩
  · obtain ⟨k, e1, e2, e3⟩ := g5 h6
    exact ⟨k, e1, e2, fun h => (by rw [show updB fl 10 7 = fl 7 from rfl, h7] at h; cases h)⟩
  · obtain ⟨o1, o2⟩ := g7 h7
    refine ⟨own_keep o1 fun k hk => hset k (fun e => ?_), o2⟩
    subst e
    rcases o2 with e | e
    · exact hgh (by rw [← e]; exact hk)
    · have := e k hk; omega
  · have hb := (Array.getElem?_eq_some_iff.1 hh).1
    have e : w.heap[h] = .cells #[sv, .map (some m)] 87 (0, 0) := by rw [Array.getElem?_eq_getElem hb] at hh; exact Option.some.inj hh
    show (w.setCell ⟨h, 0, none⟩ (xs 7)).heap[h]? = some (.cells #[xs 7, .map (some m)] 87 (0, 0))
    simp [World.setCell, hh, hb, Array.getElem_modify, e]
end
theorem assert_item (kx ix : Int) : ∀ W : World, (Instr.typeAssert (.iface 53 (.agg #[.int .i64 kx, .int .i64 ix])) 20 53 false).run Try.prog W = .ok (.agg #[.int .i64 kx, .int .i64 ix]) W := fun _ => by kernel_rfl
set_option maxRecDepth 100000 in
theorem iPush_any {w : World} {base h m : Nat} {sv : Value} {l : List It} {kx ix : Int} (H : HW w base h m sv l) (hbase : base ≤ w.heap.size) (hwf : (Lit.int .i64 ix).wf = true) (hnew : ∀ x ∈ l, x.2 ≠ ix) (hroom : l.length + 1 ≤ 1099511627776) :
    Calls Try.prog 117 #[.pointer (some ⟨h, 0, none⟩), .iface 53 (.agg #[.int .i64 kx, .int .i64 ix])] w fun e w' => e = .returned (.tuple #[]) ∧ (∃ sv', HW w' base h m sv' (l ++ [(kx, ix)]) ∧ ∀ g, sv'.ownBlock = some g → g ∈ hbs h m sv ∨ w.heap.size ≤ g) ∧ But w w' (hbs h m sv) := by
  have hta := assert_item kx ix
  have hb1 : Below w.heap.size w (w.alloc (.cells #[.int .i64 kx, .int .i64 ix] 53)) := (Below.refl _ w).alloc (Nat.le_refl _) _
  have H1 := H.below hb1
  have bx := Bx2.new w 53 kx ix
  have hbkn : w.heap.size ∉ hbs h m sv := fun hx => Nat.lt_irrefl _ (H.lt _ hx)
  obtain ⟨W1, hW1⟩ : ∃ q, w.alloc (.cells #[.int .i64 kx, .int .i64 ix] 53) = q := ⟨_, rfl⟩
  have hsz1 : w.heap.size ≤ W1.heap.size := by rw [← hW1]; exact hb1.size
  rw [hW1] at hb1 H1 bx
  obtain ⟨bk, hbke⟩ : ∃ q, w.heap.size = q := ⟨_, rfl⟩
  rw [hbke] at bx hbkn
  have bx0 := bx.c0
  have bx1 := bx.c1
  obtain ⟨A, c, hsv, hr, hc, hc2⟩ := Rd.of_own (enc := pairE) pairE_len2 rfl H1.own
  have d0 := H1.c0
  have d1 := H1.c1
  have hgh : sv.ownBlock ≠ some h := fun e => (H1.hg e).1 rfl
  have hgm : sv.ownBlock ≠ some m := fun e => (H1.hg e).2 rfl
  obtain ⟨f, hf, hM⟩ := H1.map
  have hf0 : f ix = none := hM.gone.2 hnew
  have hst : ∀ q, ∃ w', (Instr.mapUpdate 51 (.map (some m)) (.int .i64 ix) (.int .i64 l.length)).run Try.prog (W1.drewN q) = .ok () w' ∧ MapI Try.prog 3 3 w' m (updI f ix l.length) (l.length + 1) ∧ (W1.drewN q).mapTurned w' m := fun q => by
    have := MapI.store (w := W1.drewN q) (h := hf) Try.underlying51 Try.underlying3 Try.underlying3 (by omega) hwf (wf64 (a := (l.length : Int)) (by omega) (by omega))
    rwa [hf0] at this
  obtain ⟨W2, hrun2, hf2, hturn⟩ := hst 1
  have hbut2 : But W1 W2 [m] := by
    have h0 : But W1 (W1.drewN 1) [m] := ⟨rfl, rfl, rfl, Nat.le_refl _, fun _ _ _ => rfl⟩
    exact h0.trans (But.of_grown hturn.grown (by simp))
  have hH2 : W2.heap[h]? = some (.cells #[sv, .map (some m)] 87 (0, 0)) := (hbut2.keep h H1.hlt (by simp; exact H1.hm)).trans H1.blk
  have own2 : Hid (W2.ownsRow base 53 2 sv l.length (l.flatMap pairE)) := own_keep H1.own fun g hg => hbut2.keep g (own_lt H1.own hg).1 (by simp; exact (H1.hg hg).2)
  have hmlt : m < W2.heap.size := Nat.lt_of_lt_of_le H1.mlt hbut2.size
  have hhlt : h < W2.heap.size := Nat.lt_of_lt_of_le H1.hlt hbut2.size
  have hhm := H1.hm
  have hbk : bk < W2.heap.size := Nat.lt_of_lt_of_le bx.lt hbut2.size
  have hbkm : bk ∉ [m] := by simp; intro e; exact hbkn (by simp [hbs, e])
  have q0 := (hbut2.cell (p := ⟨bk, 0, none⟩) bx.lt hbkm).trans bx0
  have q1 := (hbut2.cell (p := ⟨bk, 1, none⟩) bx.lt hbkm).trans bx1
  have hbase2 : base ≤ W2.heap.size := Nat.le_trans (Nat.le_trans hbase hsz1) hbut2.size
  have hwb : But w W2 (hbs h m sv) := (But.of_below hb1 _).trans (hbut2.mono (by intro a ha; simp at ha; subst ha; simp [hbs]))
  have hfin : Hid (∀ (v' : Value) (w' : World), But W2 w' (hbs h m sv) → w'.heap[m]? = W2.heap[m]? → w'.heap[h]? = some (.cells #[v', .map (some m)] 87 (0, 0)) → w'.ownsRow base 53 2 v' (l ++ [(kx, ix)]).length ((l ++ [(kx, ix)]).flatMap pairE) →
      (v'.ownBlock = sv.ownBlock ∨ ∀ k, v'.ownBlock = some k → W2.heap.size ≤ k) → (∃ sv', HW w' base h m sv' (l ++ [(kx, ix)]) ∧ ∀ g, sv'.ownBlock = some g → g ∈ hbs h m sv ∨ w.heap.size ≤ g) ∧ But w w' (hbs h m sv)) := fun v' w' hb hmm hhh ho hv => by
    refine ⟨⟨v', ⟨hhh, ho, ⟨_, ?_, hM.push hf0⟩, H.hb, H.mb, ?_, by rw [List.length_append]; exact hroom⟩, fun g hg => ?_⟩, hwb.trans hb⟩
    · rw [List.length_append]
      exact hf2.keep hmm
    · intro x hx
      rcases List.mem_append.1 hx with hx | hx
      · exact H.wf x hx
      · simp at hx; subst hx; exact hwf
    · rcases hv with e | e
      · exact .inl (by rw [e] at hg; simp [hbs, hg])
      · have h1 := e g hg
        have h2 := hwb.size
        exact .inr (Nat.le_trans h2 h1)
  subst hsv
  obtain ⟨n, hn⟩ : ∃ n, l.length = n := ⟨_, rfl⟩
  have hn0 := hn
  rw [hn] at d0 hrun2 hfin hH2 own2 hgh hgm hbkn
  rw [hn]
  clear hst hM hf hf2 hturn hwb H H1 hr hc hc2 hb1 hsz1 bx hf0 hnew hwf f
  go_enter Try.func117, Try.ntmps117
  go_upto_region 1 with fail
  refine wp_tail0 11 (by kernel_rfl) (by kernel_rfl) ?_
  simp only [List.take_succ_cons, List.take_zero, List.drop_succ_cons, List.drop_zero]
  repeat still_step
  try refine wpStill_nil ?_
  go_upto_region 2 with fail
  refine wp_region_ghost (GP W2 base h m (.slice A n c) l kx ix) (by kernel_rfl) (by kernel_rfl) (by kernel_rfl) (by kernel_rfl) (by kernel_rfl) ?_ ?_
  · intro x0
    exact GP.start rfl rfl rfl rfl rfl hH2 (by rw [hn0]; exact own2.out)
  intro base O hbase hO
  have kx0 : Hid (∀ xs, evX base O xs (.tmp 0) = .pointer (some ⟨h, 0, none⟩)) := fun xs => by rw [hbase, hO]; rfl
  have kx4 : Hid (∀ xs, evX base O xs (.tmp 4) = .pointer (some ⟨bk, 0, none⟩)) := fun xs => by rw [hbase, hO]; rfl
  have kx18 : Hid (∀ xs, evX base O xs (.tmp 18) = xs 0) := fun xs => by rw [hO]; rfl
  have kx19 : Hid (∀ xs, evX base O xs (.tmp 19) = xs 1) := fun xs => by rw [hO]; rfl
  have kx20 : Hid (∀ xs, evX base O xs (.tmp 20) = xs 2) := fun xs => by rw [hO]; rfl
  have kx21 : Hid (∀ xs, evX base O xs (.tmp 21) = xs 3) := fun xs => by rw [hO]; rfl
  have kx22 : Hid (∀ xs, evX base O xs (.tmp 22) = xs 4) := fun xs => by rw [hO]; rfl
  have kx23 : Hid (∀ xs, evX base O xs (.tmp 23) = xs 5) := fun xs => by rw [hO]; rfl
  have kx24 : Hid (∀ xs, evX base O xs (.tmp 24) = xs 6) := fun xs => by rw [hO]; rfl
  have kx25 : Hid (∀ xs, evX base O xs (.tmp 25) = xs 7) := fun xs => by rw [hO]; rfl
  have kx26 : Hid (∀ xs, evX base O xs (.tmp 26) = xs 8) := fun xs => by rw [hO]; rfl
  have kx27 : Hid (∀ xs, evX base O xs (.tmp 27) = xs 9) := fun xs => by rw [hO]; rfl
  clear hbase hO
  apply gh_det (n := 0)
  · intro fl xs w ev hG hD hl hdone hev K hK
    have e0 := (hev (.tmp 0)).trans (kx0.out xs)
    rw [if_pos (wantedX_none rfl)]
    have ef : ∀ f, ev (.func f) = .func (.func f) #[] #[] := fun f => (hev _).trans rfl
    clear hev hD
    go_simp
    exact hK _ _ rfl hG
  apply gh_det (n := 1)
  · intro fl xs w ev hG hD hl hdone hev K hK
    have e0 := (hev (.tmp 0)).trans (kx0.out xs)
    rw [if_pos (wantedX_none rfl)]
    have ef : ∀ f, ev (.func f) = .func (.func f) #[] #[] := fun f => (hev _).trans rfl
    clear hev hD
    go_simp
    exact hK _ _ rfl hG
  apply gh_det (n := 2)
  · intro fl xs w ev hG hD hl hdone hev K hK
    have e19 := (hev (.tmp 19)).trans (kx19.out xs)
    have d1 := hD.at_ 1 rfl rfl
    replace e19 := e19.trans d1
    rw [if_pos (wantedX_none rfl)]
    have ef : ∀ f, ev (.func f) = .func (.func f) #[] #[] := fun f => (hev _).trans rfl
    clear hev hD
    go_simp
    exact hK _ _ rfl hG
  apply gh_det (n := 3)
  · intro fl xs w ev hG hD hl hdone hev K hK
    have e20 := (hev (.tmp 20)).trans (kx20.out xs)
    have d2 := hD.at_ 2 rfl rfl
    replace e20 := e20.trans d2
    rw [if_pos (wantedX_none rfl)]
    have ef : ∀ f, ev (.func f) = .func (.func f) #[] #[] := fun f => (hev _).trans rfl
    clear hev hD
    go_simp
    exact hK _ _ rfl hG
  apply gh_det (n := 4)
  · intro fl xs w ev hG hD hl hdone hev K hK
    have e21 := (hev (.tmp 21)).trans (kx21.out xs)
    have d3 := hD.at_ 3 rfl rfl
    replace e21 := e21.trans d3
    rw [if_pos (wantedX_none rfl)]
    have ef : ∀ f, ev (.func f) = .func (.func f) #[] #[] := fun f => (hev _).trans rfl
    clear hev hD
    have m0 := hG.atH (hG.not10 hl)
    go_simp
    exact hK _ _ rfl hG.s4
  apply gh_det (n := 5)
  · intro fl xs w ev hG hD hl hdone hev K hK
    have e4 := (hev (.tmp 4)).trans (kx4.out xs)
    rw [if_pos (wantedX_none rfl)]
    have ef : ∀ f, ev (.func f) = .func (.func f) #[] #[] := fun f => (hev _).trans rfl
    clear hev hD
    have m1 := (hG.1.cell (p := ⟨bk, _, none⟩) hbk hbkn).trans q0
    have m2 := (hG.1.cell (p := ⟨bk, _, none⟩) hbk hbkn).trans q1
    go_simp
    exact hK _ _ rfl hG
  refine gh_any (n := 6) (fun _ => True) ?_ ?_
  · intro fl xs w ev hG hD hl hdone hev K hK
    have e23 := (hev (.tmp 23)).trans (kx23.out xs)
    have d5 := hD.at_ 5 rfl rfl
    replace e23 := e23.trans d5
    rw [if_pos (wantedX_none rfl)]
    have ef : ∀ f, ev (.func f) = .func (.func f) #[] #[] := fun f => (hev _).trans rfl
    clear hev hD
    go_simp
    exact hK _ _ trivial (hG.s6 hl hmlt)
  refine gh_any (n := 7) (fun _ => True) ?_ ?_
  · intro fl xs w ev hG hD hl hdone hev K hK
    have e22 := (hev (.tmp 22)).trans (kx22.out xs)
    have d4 := hD.at_ 4 rfl rfl
    replace e22 := e22.trans d4
    have e24 := (hev (.tmp 24)).trans (kx24.out xs)
    rw [if_pos (wantedX_none rfl)]
    have ef : ∀ f, ev (.func f) = .func (.func f) #[] #[] := fun f => (hev _).trans rfl
    clear hev hD
    obtain ⟨k, ek, hk, hkb⟩ := hG.lit (done_of hdone 6 rfl)
    have own := hG.own hl
    rw [ek] at e24
    obtain ⟨v', w1, hrun, own1, hgr, hnew⟩ := own_append (enc := pairE) Try.underlying48 infoItem rfl (by decide) pairE_len2 pairE_one 1 own (rd_one (hkb hl)) (by omega) (by decide) (Nat.le_trans hbase2 hG.1.size)
    exact outcome_append (.tmp 22) (.tmp 24) 48 rfl e22 e24 hrun (hK _ _ trivial (hG.s7 hl (done_of hdone 6 rfl) hgr own1 hnew hmlt hhlt hgh hgm))
  apply gh_det (n := 8)
  · intro fl xs w ev hG hD hl hdone hev K hK
    have e18 := (hev (.tmp 18)).trans (kx18.out xs)
    have d0 := hD.at_ 0 rfl rfl
    replace e18 := e18.trans d0
    rw [if_pos (wantedX_none rfl)]
    have ef : ∀ f, ev (.func f) = .func (.func f) #[] #[] := fun f => (hev _).trans rfl
    clear hev hD
    go_simp
    exact hK _ _ rfl hG
  apply gh_det (n := 9)
  · intro fl xs w ev hG hD hl hdone hev K hK
    have e26 := (hev (.tmp 26)).trans (kx26.out xs)
    have d8 := hD.at_ 8 rfl rfl
    replace e26 := e26.trans d8
    rw [if_pos (wantedX_none rfl)]
    have ef : ∀ f, ev (.func f) = .func (.func f) #[] #[] := fun f => (hev _).trans rfl
    clear hev hD
    go_simp
    exact hK _ _ rfl hG
  refine gh_any (n := 10) (fun _ => True) ?_ ?_
  · intro fl xs w ev hG hD hl hdone hev K hK
    have e27 := (hev (.tmp 27)).trans (kx27.out xs)
    have d9 := hD.at_ 9 rfl rfl
    replace e27 := e27.trans d9
    have e25 := (hev (.tmp 25)).trans (kx25.out xs)
    rw [if_pos (wantedX_none rfl)]
    have ef : ∀ f, ev (.func f) = .func (.func f) #[] #[] := fun f => (hev _).trans rfl
    clear hev hD
    have h4 := done_of hdone 4 rfl
    have h7 := done_of hdone 7 rfl
    obtain ⟨c00, c01⟩ := hG.cellsH hl
    have f0 := hG.frozenH hl
    have hgo := GP.s10 (v := undef) hG hl h4 h7 hgh hhlt hhm
    obtain ⟨A7, c7, e7, _⟩ := Rd.of_own (enc := pairE) pairE_len2 rfl (hG.2.2.2.2.2.2.1 h7).1
    generalize (l ++ [(kx, ix)]).length = n7 at e7
    rw [e7] at hgo e25
    go_simp
    exact hK _ _ trivial hgo
  intro xs w' hG hI
  clear hI
  obtain ⟨g1, g2, g3, g4, g5, g6, g7, g8, g9⟩ := hG
  have hfin := hfin.out (xs 7) w' g1 g2 (g9 rfl) (g7 rfl).1 (g7 rfl).2
  clear g1 g2 g3 g4 g5 g6 g7 g8 g9
  simp only [List.append_eq, List.cons_append, List.nil_append, setAll, List.setIfInBounds_toArray, List.set_cons_zero, List.set_cons_succ]
  go_wp2_with fail
  go_returns
  exact ⟨rfl, hfin.1, hfin.2⟩
end Go.Proofs.Ytapfndjaimfcaaa
