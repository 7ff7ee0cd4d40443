/-
  Texts of one chain, merged.
-/
import Derived.Test.YtapfndjaimfcaaaWkC
import Derived.Test.YtapfndjaimfcaaaMem3
import Derived.Test.YtapfndjaimfcaaaAnyGhost2
namespace Go.Proofs.Ytapfndjaimfcaaa
open Go.RowKit Go.Shelf B K
set_option linter.unusedVariables false
set_option linter.unusedSimpArgs false
set_option maxHeartbeats 2000000
def stepP (d : List Int) (t : Nat) (e : Ed) : Bool := decide (e.2.1 = (t : Int)) && (decide (d[e.1.toNat]?.getD 0 ≠ 4611686018427387904) && decide (d[e.1.toNat]?.getD 0 + e.2.2 = d[t]?.getD 0))
/-- a way back from t to s, edge by edge -/
inductive WayTo (l : List Ed) (d : List Int) (s : Nat) : Nat → List Int → Prop
  | nil : WayTo l d s s []
  | cons {t t' : Nat} {k : Nat} {e : Ed} {ks : List Int} : t ≠ s → idx (stepP d t) l = (k : Int) → l[k]? = some e → e.1 = (t' : Int) → WayTo l d s t' ks → WayTo l d s t ((k : Int) :: ks)
theorem WayTo.uniq {l : List Ed} {d : List Int} {s t : Nat} {ks ks' : List Int} (h : WayTo l d s t ks) (h' : WayTo l d s t ks') : ks = ks' := by
  induction h generalizing ks' with
  | nil =>
    cases h' with
    | nil => rfl
    | cons hne _ _ _ _ => exact absurd rfl hne
  | cons hne hi hx he _ ih =>
    cases h' with
    | nil => exact absurd rfl hne
    | cons _ hi' hx' he' h2 =>
      rw [hi] at hi'
      have := Int.ofNat.inj hi'
      subst this
      rw [hx] at hx'; cases hx'
      rw [he] at he'
      have := Int.ofNat.inj he'
      subst this
      rw [ih h2]
theorem idx_of {α : Type} {p : α → Bool} {l : List α} {e : α} (he : e ∈ l) (hp : p e = true) : ∃ (k : Nat) (x : α), idx p l = (k : Int) ∧ l[k]? = some x ∧ p x = true := by
  have hany : l.any p = true := List.any_eq_true.2 ⟨e, he, hp⟩
  have hlt : l.findIdx p < l.length := List.findIdx_lt_length.2 ⟨e, he, hp⟩
  refine ⟨l.findIdx p, l[l.findIdx p], by unfold idx; rw [if_pos hany], List.getElem?_eq_getElem hlt, List.findIdx_getElem⟩
/-- one step back -/
theorem IsDist.back {n : Nat} {l : List Ed} {s : Nat} {d : List Int} (h : IsDist n l s d) (hl : EdsOk n l) {t : Nat} {v : Int} (hv : d[t]? = some v) (hvt : v ≤ 1099511627776) (hts : t ≠ s) :
    ∃ (k t' : Nat) (e : Ed) (v' : Int), idx (stepP d t) l = (k : Int) ∧ l[k]? = some e ∧ e.1 = (t' : Int) ∧ e.2.1 = (t : Int) ∧ d[t']? = some v' ∧ v' + e.2.2 = v ∧ 0 ≤ v' ∧ v' < v := by
  obtain ⟨e, he, e2, p, u, e1, hp, hs⟩ := h.sup t v hts hv hvt
  have hb := hl e he
  have hu : u ≠ 4611686018427387904 := by omega
  have hst : stepP d t e = true := by
    unfold stepP
    rw [e1, Int.toNat_natCast, hp, hv]
    simp [e2, hu, hs]
  obtain ⟨k, x, hk, hx, hpx⟩ := idx_of he hst
  have hbx := hl x (List.mem_of_getElem? hx)
  obtain ⟨t', ht'⟩ : ∃ t' : Nat, x.1 = (t' : Int) := ⟨x.1.toNat, by omega⟩
  have htn : t' < n := by omega
  obtain ⟨v', hv'⟩ : ∃ v', d[t']? = some v' := ⟨d[t']'(by rw [h.len]; exact htn), List.getElem?_eq_getElem _⟩
  unfold stepP at hpx
  rw [ht', Int.toNat_natCast, hv', hv] at hpx
  simp at hpx
  obtain ⟨q1, q2, q3⟩ := hpx
  have hr := h.rng t' v' hv'
  exact ⟨k, t', x, v', hk, hx, ht', q1, hv', q3, by omega, by omega⟩
set_option maxRecDepth 100000 in
theorem way1_any (n t a tb db fb : Nat) (x2 x3 : Int) (d : List Int) (w : World) (hT : w.cell? ⟨tb, 0, none⟩ = some (.int .i64 t)) (hD : w.cell? ⟨db, 0, none⟩ = some (.slice (some ⟨fb, 0, none⟩) n n)) (ht : tb < w.heap.size) (hd : db < w.heap.size)
    (hf : w.heap[fb]? = some (.cells (d.map (Value.int .i64)).toArray 2 (0, 0))) (hlen : d.length = n) (han : a < n) (htn : t < n) (hn : n ≤ 256) (hrng : ∀ v, d[a]? = some v → v = 4611686018427387904 ∨ (0 ≤ v ∧ v ≤ 1099511627776)) (h3 : 1 ≤ x3 ∧ x3 ≤ 1099511627776) :
    Calls Try.prog 49 #[.agg #[.int .i64 a, .int .i64 x2, .int .i64 x3], .pointer (some ⟨tb, 0, none⟩), .pointer (some ⟨db, 0, none⟩)] w fun e w' => e = .returned (.bool (stepP d t ((a : Int), x2, x3))) ∧ Below w.heap.size w w' := by
  have hb1 : Below w.heap.size w (w.alloc (.cells #[.int .i64 a, .int .i64 x2, .int .i64 x3] 32)) := (Below.refl _ w).alloc (Nat.le_refl _) _
  have bx := Bx3.new w 32 a x2 x3
  obtain ⟨W1, hW1⟩ : ∃ q, w.alloc (.cells #[.int .i64 a, .int .i64 x2, .int .i64 x3] 32) = q := ⟨_, rfl⟩
  obtain ⟨bk, hbk⟩ : ∃ q, w.heap.size = q := ⟨_, rfl⟩
  have hT1 := (hb1.cell (p := ⟨tb, 0, none⟩) ht).trans hT
  have hD1 := (hb1.cell (p := ⟨db, 0, none⟩) hd).trans hD
  have hf1 := (hb1.block fb (Array.getElem?_eq_some_iff.1 hf).1).trans hf
  have ht1 := Nat.lt_of_lt_of_le ht hb1.size
  have hd1 := Nat.lt_of_lt_of_le hd hb1.size
  rw [hW1] at bx hb1 hT1 hD1 hf1 ht1 hd1
  rw [hbk] at bx
  have hfl := (Array.getElem?_eq_some_iff.1 hf1).1
  obtain ⟨u, hu⟩ : ∃ v, d[a]? = some v := ⟨d[a]'(by rw [hlen]; exact han), List.getElem?_eq_getElem _⟩
  obtain ⟨ut, hut⟩ : ∃ v, d[t]? = some v := ⟨d[t]'(by rw [hlen]; exact htn), List.getElem?_eq_getElem _⟩
  have hra := hrng u hu
  have hca : W1.cell? ⟨fb, a, none⟩ = some (.int .i64 u) := by rw [cell_of_row _ _ _ _ _ _ hf1]; simp [hu]
  have hct : W1.cell? ⟨fb, t, none⟩ = some (.int .i64 ut) := by rw [cell_of_row _ _ _ _ _ _ hf1]; simp [hut]
  have hbl := bx.lt
  have b0 := bx.c0
  have b1 := bx.c1
  have b2 := bx.c2
  have hres : stepP d t ((a : Int), x2, x3) = (decide (x2 = (t : Int)) && (decide (u ≠ 4611686018427387904) && decide (u + x3 = ut))) := by
    unfold stepP
    simp only [Int.toNat_natCast, hu, hut, Option.getD_some]
  have han2 : (a : Int) < (n : Int) := by omega
  have htn2 : (t : Int) < (n : Int) := by omega
  rw [hres]
  have hb1h := Lib.hid hb1
  clear hres hf hf1 hu hut hrng hlen hT hD bx hd ht hb1
  by_cases c1 : x2 = (t : Int)
  · have e1 : (x2 == (t : Int)) = true := by simpa using c1
    rw [decide_eq_true c1]
    clear c1
    by_cases c2 : u = 4611686018427387904
    · have e2 : (u != 4611686018427387904) = false := by simpa using c2
      rw [decide_eq_false (fun h => h c2)]
      clear c2
      go_enter Try.func49, Try.ntmps49
      go_upto_region 1 with fail
      refine wp_region_below W1.heap.size (by kernel_rfl) (by kernel_rfl) ?_
      intro C hC
      repeat (go_big_quiet_step (first
        | ((intro _; with_reducible rfl))
        | (intro hc; have m0 := (hc.cell (p := ⟨bk, _, none⟩) hbl).trans b0; have m1 := (hc.cell (p := ⟨bk, _, none⟩) hbl).trans b1; have m2 := (hc.cell (p := ⟨bk, _, none⟩) hbl).trans b2; have m3 := (hc.cell (p := ⟨tb, _, none⟩) ht1).trans hT1; have m4 := (hc.cell (p := ⟨db, _, none⟩) hd1).trans hD1; have m5 := (hc.cell (p := ⟨fb, _, none⟩) hfl).trans hca; have m6 := (hc.cell (p := ⟨fb, _, none⟩) hfl).trans hct; simp only [m0, m1, m2, m3, m4, m5, m6, Result.andThen]; exact ⟨trivial, rfl⟩)))
      refine wpQuiet_nil ?_
      intro w4 hb4
      clear hC
      go_wp2_with fail
      go_returns
      exact ⟨rfl, hb1h.out.trans (hb4.mono hb1h.out.size)⟩
    · have e2 : (u != 4611686018427387904) = true := by simpa using c2
      have hwr : IntKind.i64.wrap (u + x3) = u + x3 := by rw [IntKind.wrap_i64]; omega
      rw [decide_eq_true c2]
      clear c2
      by_cases c3 : u + x3 = ut
      · have e3 : (u + x3 == ut) = true := by simpa using c3
        rw [decide_eq_true c3]
        clear c3
        go_enter Try.func49, Try.ntmps49
        go_upto_region 1 with fail
        refine wp_region_below W1.heap.size (by kernel_rfl) (by kernel_rfl) ?_
        intro C hC
        repeat (go_big_quiet_step (first
          | ((intro _; with_reducible rfl))
          | (intro hc; have m0 := (hc.cell (p := ⟨bk, _, none⟩) hbl).trans b0; have m1 := (hc.cell (p := ⟨bk, _, none⟩) hbl).trans b1; have m2 := (hc.cell (p := ⟨bk, _, none⟩) hbl).trans b2; have m3 := (hc.cell (p := ⟨tb, _, none⟩) ht1).trans hT1; have m4 := (hc.cell (p := ⟨db, _, none⟩) hd1).trans hD1; have m5 := (hc.cell (p := ⟨fb, _, none⟩) hfl).trans hca; have m6 := (hc.cell (p := ⟨fb, _, none⟩) hfl).trans hct; simp only [m0, m1, m2, m3, m4, m5, m6, Result.andThen]; exact ⟨trivial, rfl⟩)))
        refine wpQuiet_nil ?_
        intro w4 hb4
        clear hC
        go_wp2_with fail
        go_returns
        exact ⟨rfl, hb1h.out.trans (hb4.mono hb1h.out.size)⟩
      · have e3 : (u + x3 == ut) = false := by simpa using c3
        rw [decide_eq_false c3]
        clear c3
        go_enter Try.func49, Try.ntmps49
        go_upto_region 1 with fail
        refine wp_region_below W1.heap.size (by kernel_rfl) (by kernel_rfl) ?_
        intro C hC
        repeat (go_big_quiet_step (first
          | ((intro _; with_reducible rfl))
          | (intro hc; have m0 := (hc.cell (p := ⟨bk, _, none⟩) hbl).trans b0; have m1 := (hc.cell (p := ⟨bk, _, none⟩) hbl).trans b1; have m2 := (hc.cell (p := ⟨bk, _, none⟩) hbl).trans b2; have m3 := (hc.cell (p := ⟨tb, _, none⟩) ht1).trans hT1; have m4 := (hc.cell (p := ⟨db, _, none⟩) hd1).trans hD1; have m5 := (hc.cell (p := ⟨fb, _, none⟩) hfl).trans hca; have m6 := (hc.cell (p := ⟨fb, _, none⟩) hfl).trans hct; simp only [m0, m1, m2, m3, m4, m5, m6, Result.andThen]; exact ⟨trivial, rfl⟩)))
        refine wpQuiet_nil ?_
        intro w4 hb4
        clear hC
        go_wp2_with fail
        go_returns
        exact ⟨rfl, hb1h.out.trans (hb4.mono hb1h.out.size)⟩
  · have e1 : (x2 == (t : Int)) = false := by simpa using c1
    rw [decide_eq_false c1]
    clear c1
    go_enter Try.func49, Try.ntmps49
    go_upto_region 1 with fail
    refine wp_region_below W1.heap.size (by kernel_rfl) (by kernel_rfl) ?_
    intro C hC
    repeat (go_big_quiet_step (first
      | ((intro _; with_reducible rfl))
      | (intro hc; have m0 := (hc.cell (p := ⟨bk, _, none⟩) hbl).trans b0; have m1 := (hc.cell (p := ⟨bk, _, none⟩) hbl).trans b1; have m2 := (hc.cell (p := ⟨bk, _, none⟩) hbl).trans b2; have m3 := (hc.cell (p := ⟨tb, _, none⟩) ht1).trans hT1; have m4 := (hc.cell (p := ⟨db, _, none⟩) hd1).trans hD1; have m5 := (hc.cell (p := ⟨fb, _, none⟩) hfl).trans hca; have m6 := (hc.cell (p := ⟨fb, _, none⟩) hfl).trans hct; simp only [m0, m1, m2, m3, m4, m5, m6, Result.andThen]; exact ⟨trivial, rfl⟩)))
    refine wpQuiet_nil ?_
    intro w4 hb4
    clear hC
    go_wp2_with fail
    go_returns
    exact ⟨rfl, hb1h.out.trans (hb4.mono hb1h.out.size)⟩
end Go.Proofs.Ytapfndjaimfcaaa
namespace Go.Proofs.Ytapfndjaimfcaaa
open Go.RowKit Go.Shelf B K
set_option linter.unusedVariables false
set_option linter.unusedSimpArgs false
theorem infoInt : (Try.prog.info? 3).map (fun i => (i.zero, i.size, i.bytes)) = some (some (.int .i64 0), 1, 8) := by kernel_rfl
theorem numE_len (x : Int) : (numE .i64 x).length = 1 := rfl
theorem numE_one (x : Int) : ∀ u ∈ numE .i64 x, u.oneCell' = true := fun u hu => by simp [numE] at hu; subst hu; rfl
theorem rd_int1 {w : World} {k : Nat} {a : Int} (h : w.heap[k]? = some (.cells #[.int .i64 a] 3 (0, 0))) : Rd w 1 (numE .i64) (some ⟨k, 0, none⟩) 1 [a] :=
  ⟨rfl, fun _ => ⟨k, 0, rfl, (Array.getElem?_eq_some_iff.1 h).1, fun i x hx j u hu => by
    have hi : i = 0 := by
      have := (List.getElem?_eq_some_iff.1 hx).1
      simpa using this
    subst hi
    simp at hx
    subst hx
    rw [cell_of_row _ _ _ _ _ _ h, Nat.zero_mul, Nat.add_zero, Nat.zero_add]
    simpa [numE] using hu⟩⟩
def GW (w0 : World) (base tb : Nat) (v0 : Value) (O : List Int) (i t t' : Int) (fl : Nat → Bool) (xs : Nat → Value) (w : World) : Prop :=
  But w0 w (tb :: v0.ownBlock.toList) ∧ (fl 9 = true → fl 3 = true) ∧ (fl 3 = true → fl 0 = true ∧ fl 2 = true) ∧
  (fl 2 = true → ∃ k, xs 2 = .slice (some ⟨k, 0, none⟩) 1 1 ∧ w0.heap.size ≤ k ∧ (fl 3 = false → w.heap[k]? = some (.cells #[.int .i64 i] 3 (0, 0)))) ∧
  (fl 3 = false → w.ownsRow base 3 1 v0 O.length (O.flatMap (numE .i64))) ∧
  (fl 3 = true → w.ownsRow base 3 1 (xs 3) (O ++ [i]).length ((O ++ [i]).flatMap (numE .i64)) ∧ ((xs 3).ownBlock = v0.ownBlock ∨ ∀ k, (xs 3).ownBlock = some k → w0.heap.size ≤ k)) ∧
  (fl 10 = false → w.heap[tb]? = some (.cells #[.int .i64 t] 3 (0, 0))) ∧ (fl 10 = true → w.heap[tb]? = some (.cells #[.int .i64 t'] 3 (0, 0))) ∧
  (fl 9 = false → xs 9 = v0) ∧ (fl 9 = true → xs 9 = xs 3)
section
variable {w0 w w1 : World} {base tb : Nat} {v0 x v' : Value} {O : List Int} {i t t' : Int} {fl : Nat → Bool} {xs : Nat → Value}
theorem GW.start (h2 : fl 2 = false) (h3 : fl 3 = false) (h9 : fl 9 = false) (h10 : fl 10 = false) (hx : xs 9 = v0) (own : w0.ownsRow base 3 1 v0 O.length (O.flatMap (numE .i64))) (hT : w0.heap[tb]? = some (.cells #[.int .i64 t] 3 (0, 0))) :
    GW w0 base tb v0 O i t t' fl xs { w0 with drawn := w0.drawn + 1 } :=
  ⟨⟨rfl, rfl, rfl, Nat.le_refl _, fun _ _ _ => rfl⟩, fun h => (by rw [h9] at h; cases h), fun h => (by rw [h3] at h; cases h), fun h => (by rw [h2] at h; cases h), fun _ => own, fun h => (by rw [h3] at h; cases h), fun _ => hT, fun h => (by rw [h10] at h; cases h), fun _ => hx, fun h => (by rw [h9] at h; cases h)⟩
theorem GW.not3 (H : GW w0 base tb v0 O i t t' fl xs w) (h0 : fl 0 = false) : fl 3 = false := by
  cases e : fl 3 with
  | false => rfl
  | true => rw [(H.2.2.1 e).1] at h0; cases h0
theorem GW.not9 (H : GW w0 base tb v0 O i t t' fl xs w) (h3 : fl 3 = false) : fl 9 = false := by
  cases e : fl 9 with
  | false => rfl
  | true => rw [H.2.1 e] at h3; cases h3
theorem GW.rd0 (H : GW w0 base tb v0 O i t t' fl xs w) (h0 : fl 0 = false) : xs 9 = v0 := H.2.2.2.2.2.2.2.2.1 (H.not9 (H.not3 h0))
theorem GW.s0 (H : GW w0 base tb v0 O i t t' fl xs w) : GW w0 base tb v0 O i t t' (updB fl 0) (upd xs 0 x) w :=
  ⟨H.1, H.2.1, fun h => ⟨rfl, (H.2.2.1 h).2⟩, H.2.2.2⟩
theorem GW.s2 (H : GW w0 base tb v0 O i t t' fl xs w) (h2 : fl 2 = false) : GW w0 base tb v0 O i t t' (updB fl 2) (upd xs 2 (.slice (some ⟨w.heap.size, 0, none⟩) 1 1)) (w.alloc (.cells #[.int .i64 i] 3)) := by
  obtain ⟨g1, g2, g3, g4, g5, g6, g7, g8, g9, g10⟩ := H
  have h3 : fl 3 = false := by
    cases e : fl 3 with
    | false => rfl
    | true => rw [(g3 e).2] at h2; cases h2
  have hb : Below w.heap.size w (w.alloc (.cells #[.int .i64 i] 3)) := (Below.refl _ w).alloc (Nat.le_refl _) _
  refine ⟨g1.trans (But.of_below hb _), g2, fun h => ⟨(g3 h).1, rfl⟩, fun _ => ⟨w.heap.size, rfl, g1.size, fun _ => alloc_one _ _ _⟩, fun h => (g5 h).alloc _, fun h => (by rw [show updB fl 2 3 = fl 3 from rfl, h3] at h; cases h), fun h => ?_, fun h => ?_, g9, g10⟩
  · have := g7 h
    exact (hb.block tb (Array.getElem?_eq_some_iff.1 this).1).trans this
  · have := g8 h
    exact (hb.block tb (Array.getElem?_eq_some_iff.1 this).1).trans this
theorem GW.s3 (H : GW w0 base tb v0 O i t t' fl xs w) (h3 : fl 3 = false) (h0 : fl 0 = true) (h2 : fl 2 = true) (hgr : w.grownBy w1 v0.ownBlock) (own : w1.ownsRow base 3 1 v' (O.length + 1) ((O ++ [i]).flatMap (numE .i64)))
    (hnew : v'.ownBlock = v0.ownBlock ∨ v'.ownBlock = some w.heap.size) (htb : v0.ownBlock ≠ some tb) : GW w0 base tb v0 O i t t' (updB fl 3) (upd xs 3 v') w1 := by
  obtain ⟨g1, g2, g3, g4, g5, g6, g7, g8, g9, g10⟩ := H
  have h9 : fl 9 = false := by
    cases e : fl 9 with
    | false => rfl
    | true => rw [g2 e] at h3; cases h3
  have hb : But w w1 (tb :: v0.ownBlock.toList) := ⟨hgr.os, hgr.tape, hgr.output, hgr.size, fun j hj hx => hgr.block j hj (fun e => hx (by simp [← e]))⟩
  obtain ⟨k, e1, e2, e3⟩ := g4 h2
  refine ⟨g1.trans hb, fun _ => rfl, fun _ => ⟨h0, h2⟩, fun _ => ⟨k, e1, e2, fun h => (by cases h)⟩, fun h => (by cases h), fun _ => ⟨?_, ?_⟩, fun h => ?_, fun h => ?_, g9, fun h => (by rw [show updB fl 3 9 = fl 9 from rfl, h9] at h; cases h)⟩
  · rw [List.length_append]; exact own
  · rcases hnew with e | e
    · exact .inl e
    · exact .inr fun k hk => by
        have hk : v'.ownBlock = some k := hk
        rw [e] at hk; cases hk; exact g1.size
  · have := g7 h
    exact (hgr.block tb (Array.getElem?_eq_some_iff.1 this).1 (fun e => htb e.symm)).trans this
  · have := g8 h
    exact (hgr.block tb (Array.getElem?_eq_some_iff.1 this).1 (fun e => htb e.symm)).trans this
theorem GW.s9 (H : GW w0 base tb v0 O i t t' fl xs w) (h3 : fl 3 = true) : GW w0 base tb v0 O i t t' (updB fl 9) (upd xs 9 (xs 3)) w := by
  obtain ⟨g1, g2, g3, g4, g5, g6, g7, g8, g9, g10⟩ := H
  exact ⟨g1, fun _ => h3, g3, g4, g5, g6, g7, g8, fun h => (by cases h), fun _ => rfl⟩
theorem GW.s10 (H : GW w0 base tb v0 O i t t' fl xs w) (h10 : fl 10 = false) (htb : v0.ownBlock ≠ some tb) (hlt : tb < w0.heap.size) : GW w0 base tb v0 O i t t' (updB fl 10) (upd xs 10 x) (w.setCell ⟨tb, 0, none⟩ (.int .i64 t')) := by
  obtain ⟨g1, g2, g3, g4, g5, g6, g7, g8, g9, g10⟩ := H
  have hset : ∀ j, j ≠ tb → (w.setCell ⟨tb, 0, none⟩ (.int .i64 t')).heap[j]? = w.heap[j]? := fun j hj => Below.heap_setCell _ _ _ _ hj
  refine ⟨g1.trans (But.of_set _ _ _ (by simp)), g2, g3, fun h => ?_, fun h => own_keep (g5 h) fun k hk => hset k (fun e => htb (by rw [← e]; exact hk)), fun h => ⟨own_keep (g6 h).1 fun k hk => hset k (fun e => ?_), (g6 h).2⟩, fun h => (by cases h), fun _ => one_setCell (g7 h10), g9, g10⟩
  · obtain ⟨k, e1, e2, e3⟩ := g4 h
    exact ⟨k, e1, e2, fun h => (hset k (by omega)).trans (e3 h)⟩
  · subst e
    rcases (g6 h).2 with e | e
    · exact htb (by rw [← e]; exact hk)
    · have := e k hk; omega
end
end Go.Proofs.Ytapfndjaimfcaaa
namespace Go.Proofs.Ytapfndjaimfcaaa
open Go.RowKit Go.Shelf B K
set_option linter.unusedVariables false
set_option linter.unusedSimpArgs false
set_option maxHeartbeats 2000000
section
variable {A : Option Addr} {m c : Nat} {l : List Ed} {w : World}
theorem Way_bad (n s t : Int) (hr : Rd w 3 tripE A m l) (hm : m ≤ 1099511627776) (hc : chkE n l ≠ 0) :
    Calls Try.prog 18 #[.int .i64 n, .slice A m c, .int .i64 s, .int .i64 t] w fun e w' => e = .returned (.tuple #[.slice none 0 0, .int .i64 (chkE n l)]) ∧ Below w.heap.size w w' := by
  have hb0 : Below w.heap.size w (w.alloc (.cells #[.int .i64 t] 3)) := (Below.refl _ w).alloc (Nat.le_refl _) _
  have hC := Lib.hid (From_bad (c := c) n s (hr.below hb0) hm hc)
  obtain ⟨q, hq⟩ : ∃ q, chkE n l = q := ⟨_, rfl⟩
  rw [hq] at hC hc ⊢
  have hd : (q == 0) = false := by simpa using hc
  clear hr hq
  go_enter Try.func18, Try.ntmps18
  go_wp2_with (go_at_call 17; refine hC.out.mono ?_; rintro e w1 ⟨rfl, hb⟩)
  go_returns
  exact ⟨rfl, (hb0.trans (hb.mono hb0.size)).alloc (hb0.trans (hb.mono hb0.size)).size _⟩
theorem Way_args (n s t : Int) (hr : Rd w 3 tripE A m l) (hm : m ≤ 1099511627776) (hc : chkE n l = 0) (hs : s < 0 ∨ n ≤ s) :
    Calls Try.prog 18 #[.int .i64 n, .slice A m c, .int .i64 s, .int .i64 t] w fun e w' => e = .returned (.tuple #[.slice none 0 0, .int .i64 2]) ∧ Below w.heap.size w w' := by
  have hb0 : Below w.heap.size w (w.alloc (.cells #[.int .i64 t] 3)) := (Below.refl _ w).alloc (Nat.le_refl _) _
  have hC := Lib.hid (From_arg (c := c) n s (hr.below hb0) hm hc hs)
  clear hr hc
  go_enter Try.func18, Try.ntmps18
  go_wp2_with (go_at_call 17; refine hC.out.mono ?_; rintro e w1 ⟨rfl, hb⟩)
  go_returns
  exact ⟨rfl, (hb0.trans (hb.mono hb0.size)).alloc (hb0.trans (hb.mono hb0.size)).size _⟩
theorem Way_argt (n s : Nat) (t : Int) (hr : Rd w 3 tripE A m l) (hm : m ≤ 1099511627776) (hc : chkE n l = 0) (hs : s < n) (ht : t < 0 ∨ (n : Int) ≤ t) :
    Calls Try.prog 18 #[.int .i64 n, .slice A m c, .int .i64 s, .int .i64 t] w fun e w' => e = .returned (.tuple #[.slice none 0 0, .int .i64 2]) ∧ Below w.heap.size w w' := by
  have hb0 : Below w.heap.size w (w.alloc (.cells #[.int .i64 t] 3)) := (Below.refl _ w).alloc (Nat.le_refl _) _
  have hC := Lib.hid (From_ok (c := c) n s (hr.below hb0) hm hc hs)
  have hT := alloc_one w (.int .i64 t) 3
  have htl : w.heap.size < (w.alloc (.cells #[.int .i64 t] 3)).heap.size := by simp
  obtain ⟨W1, hW1⟩ : ∃ q, w.alloc (.cells #[.int .i64 t] 3) = q := ⟨_, rfl⟩
  obtain ⟨tb, htb⟩ : ∃ q, w.heap.size = q := ⟨_, rfl⟩
  rw [hW1] at hb0 hC hT htl
  rw [htb] at hT htl
  clear hr hc
  have hfin : Hid (∀ w1, Below W1.heap.size W1 w1 → ∀ v : Value, (w1.alloc (.cells #[v] 27)).cell? ⟨tb, 0, none⟩ = some (.int .i64 t) ∧ Below w.heap.size w (w1.alloc (.cells #[v] 27))) := fun w1 hb v => by
    have hb1 := hb0.trans (hb.mono hb0.size)
    have ha : Below w1.heap.size w1 (w1.alloc (.cells #[v] 27)) := (Below.refl _ w1).alloc (Nat.le_refl _) _
    exact ⟨cell_of_one ((ha.block tb (Nat.lt_of_lt_of_le htl hb.size)).trans ((hb.block tb htl).trans hT)), hb1.trans (ha.mono hb1.size)⟩
  clear hT htl hb0
  go_enter Try.func18, Try.ntmps18
  go_wp2_with fail
  refine hC.out.mono ?_; rintro e w1 ⟨fb, d, rfl, hD, hfb, hf, hb⟩
  obtain ⟨q1, q2⟩ := hfin.out w1 hb (.slice (some ⟨fb, 0, none⟩) n n)
  have hq2 := Lib.hid q2
  clear q2 hb hf hfb hD hC hfin
  by_cases h0 : t < 0
  · have hd0 : decide (t < 0) = true := decide_eq_true h0
    go_wp2_with fail
    go_returns
    exact ⟨rfl, hq2.out⟩
  · have hd0 : decide (t < 0) = false := decide_eq_false h0
    have hd1 : decide ((n : Int) ≤ t) = true := decide_eq_true (by omega)
    go_wp2_with fail
    go_returns
    exact ⟨rfl, hq2.out⟩
/-- what Way hands back, where all may be -/
def WayR (l : List Ed) (d : List Int) (s t : Nat) (w w' : World) (e : Ending) : Prop :=
  Below w.heap.size w w' ∧ ((d[t]? = some 4611686018427387904 ∧ e = .returned (.tuple #[.slice none 0 0, .int .i64 5])) ∨
  (d[t]? ≠ some 4611686018427387904 ∧ ∃ A c OL, WayTo l d s t OL ∧ e = .returned (.tuple #[.slice A OL.length c, .int .i64 0]) ∧ OL.length ≤ 1099511627776 ∧ Rd w' 1 (numE .i64) A OL.length OL.reverse))
set_option maxRecDepth 100000 in
theorem Way_ok (n s t : Nat) (hr : Rd w 3 tripE A m l) (hm : m ≤ 1099511627776) (hc : chkE n l = 0) (hs : s < n) (ht : t < n) :
    Calls Try.prog 18 #[.int .i64 n, .slice A m c, .int .i64 s, .int .i64 t] w fun e w' => ∃ d, IsDist n l s d ∧ WayR l d s t w w' e := by
  have hb0 : Below w.heap.size w (w.alloc (.cells #[.int .i64 t] 3)) := (Below.refl _ w).alloc (Nat.le_refl _) _
  have hC := Lib.hid (From_ok (c := c) n s (hr.below hb0) hm hc hs)
  obtain ⟨hll, _, hn⟩ := chk_len hc
  have hE := eds_ok hc
  have hn' : n ≤ 256 := by omega
  have hml := hr.len
  have hT := alloc_one w (.int .i64 t) 3
  have htl : w.heap.size < (w.alloc (.cells #[.int .i64 t] 3)).heap.size := by simp
  obtain ⟨W1, hW1⟩ : ∃ q, w.alloc (.cells #[.int .i64 t] 3) = q := ⟨_, rfl⟩
  obtain ⟨tb, htb⟩ : ∃ q, w.heap.size = q := ⟨_, rfl⟩
  rw [hW1] at hb0 hC hT htl
  rw [htb] at hT htl
  have htbe := Lib.hid htb
  clear hc
  have ht2 : decide ((n : Int) ≤ (t : Int)) = false := decide_eq_false (by omega)
  have ht3 : decide ((t : Int) < 0) = false := decide_eq_false (by omega)
  have ht4 : (t : Int) < (n : Int) := by omega
  have hnt : ¬ n ≤ t := by omega
  go_enter Try.func18, Try.ntmps18
  go_wp2_with fail
  refine hC.out.mono ?_; rintro e w1 ⟨fb, d, rfl, hD, hfb, hf, hb⟩
  have hfl := (Array.getElem?_eq_some_iff.1 hf).1
  obtain ⟨vt, hvt⟩ : ∃ v, d[t]? = some v := ⟨d[t]'(by rw [hD.len]; exact ht), List.getElem?_eq_getElem _⟩
  have ha : Below w1.heap.size w1 (w1.alloc (.cells #[.slice (some ⟨fb, 0, none⟩) n n] 27)) := (Below.refl _ w1).alloc (Nat.le_refl _) _
  have hnD := alloc_one w1 (.slice (some ⟨fb, 0, none⟩) n n) 27
  have hbw1 := hb0.trans (hb.mono hb0.size)
  have hbw := hbw1.trans (ha.mono hbw1.size)
  have hT2 := (ha.block tb (Nat.lt_of_lt_of_le htl hb.size)).trans ((hb.block tb htl).trans hT)
  have hf2 := (ha.block fb hfl).trans hf
  have hdl : w1.heap.size < (w1.alloc (.cells #[.slice (some ⟨fb, 0, none⟩) n n] 27)).heap.size := by simp
  have htf : tb < fb := Nat.lt_of_lt_of_le htl hfb
  have htl2 : tb < w1.heap.size := Nat.lt_of_lt_of_le htl hb.size
  obtain ⟨W2, hW2⟩ : ∃ q, w1.alloc (.cells #[.slice (some ⟨fb, 0, none⟩) n n] 27) = q := ⟨_, rfl⟩
  obtain ⟨db, hdb⟩ : ∃ q, w1.heap.size = q := ⟨_, rfl⟩
  rw [hW2] at hnD hbw hT2 hf2 hdl
  rw [hdb] at hnD hdl htl2 hfl
  have cT := cell_of_one hT2
  have cD := cell_of_one hnD
  have cv : W2.cell? ⟨fb, t, none⟩ = some (.int .i64 vt) := by rw [cell_of_row _ _ _ _ _ _ hf2]; simp [hvt]
  have hrng := hD.rng t vt hvt
  clear hC hb ha hb0 hT htl hf hbw1 hfb htb
  have hrh := Lib.hid hr
  have hvth := Lib.hid hvt
  have hDh := Lib.hid hD
  have hbwh := Lib.hid hbw
  have hEh := Lib.hid hE
  have hf2h := Lib.hid hf2
  have hT2h := Lib.hid hT2
  have hnDh := Lib.hid hnD
  clear hr hvt hD hbw hE hf2 hT2 hnD
  by_cases hinf : vt = 4611686018427387904
  · have hq : (vt == 4611686018427387904) = true := by simpa using hinf
    go_wp2_with fail
    go_returns
    exact ⟨d, hDh.out, hbwh.out, .inl ⟨by rw [hvth.out, hinf], rfl⟩⟩
  · have hq : (vt == 4611686018427387904) = false := by simpa using hinf
    have hvr : 0 ≤ vt ∧ vt ≤ 1099511627776 := by omega
    have hOut : d[t]? ≠ some 4611686018427387904 := fun h => hinf (by rw [hvth.out] at h; exact Option.some.inj h)
    have hOh := Lib.hid hOut
    clear hOut hinf hrng
    have hinv : Hid (∃ (OL : List Int) (t1 : Nat) (v1 : Int), W2.ownsRow W2.heap.size 3 1 (.slice none 0 0) OL.length (OL.flatMap (numE .i64)) ∧ W2.heap[tb]? = some (.cells #[.int .i64 t1] 3 (0, 0)) ∧ t1 < n ∧ d[t1]? = some v1 ∧ 0 ≤ v1 ∧ v1 ≤ 1099511627776 ∧ vt.toNat = v1.toNat ∧ OL.length + v1.toNat ≤ 1099511627776 ∧ (∀ ks, WayTo l d s t1 ks → WayTo l d s t (OL ++ ks)) ∧ But W2 W2 [tb]) :=
      ⟨[], t, vt, World.ownsRow_nil _ _ _ _, hT2h.out, ht, hvth.out, hvr.1, hvr.2, rfl, by simp; omega, fun ks h => h, But.refl _ _⟩
    go_wp2_with fail
    clear cT cv cD
    go_loopg [12] vt.toNat (fun g v wr => ∃ (OL : List Int) (t1 : Nat) (v1 : Int), wr.ownsRow W2.heap.size 3 1 v OL.length (OL.flatMap (numE .i64)) ∧ wr.heap[tb]? = some (.cells #[.int .i64 t1] 3 (0, 0)) ∧ t1 < n ∧ d[t1]? = some v1 ∧ 0 ≤ v1 ∧ v1 ≤ 1099511627776 ∧ g = v1.toNat ∧ OL.length + v1.toNat ≤ 1099511627776 ∧ (∀ ks, WayTo l d s t1 ks → WayTo l d s t (OL ++ ks)) ∧ But W2 wr [tb])
    case atStart => exact hinv.out
    case round =>
      clear hinv
      obtain ⟨OL, t1, v1, own, hTr, ht1, hv1, hv10, hv1t, rfl, hlen, hway, hbr⟩ := hrel
      have cT := cell_of_one hTr
      by_cases hts : t1 = s
      · subst hts
        have hne : ((t1 : Int) != (t1 : Int)) = false := by simp
        have hbl : OL.length ≤ 1099511627776 := by omega
        obtain ⟨AO, cO, rfl, r1, r2, r3⟩ := Rd.of_own (enc := numE .i64) numE_len rfl own
        have hV := Lib.hid (rev_own own rfl hbl)
        have hw := hway [] .nil
        rw [List.append_nil] at hw
        have hwh := Lib.hid hw
        have hbrh := Lib.hid hbr
        clear hw hway hbr own hTr r1 hlen hv1
        go_wp2_with (go_at_call 50; refine hV.out.mono ?_; rintro e w9 ⟨rfl, hR, hb9⟩)
        go_returns
        have hbw2 := hbwh.out
        have hb3 : Below w.heap.size W2 wr := hbrh.out.below hbw2.size (by have := htbe.out; simp; omega)
        have hb4 := hbw2.trans hb3
        exact ⟨d, hDh.out, hb4.trans (hb9.mono hbw2.size), .inr ⟨hOh.out, AO, cO, OL, hwh.out, rfl, hbl, hR⟩⟩
      · have hne : ((t1 : Int) != (s : Int)) = true := by simp; omega
        obtain ⟨k, t2, e, v2, hidx, hx, he1, he2, hv2, hsum, hv20, hv2lt⟩ := hDh.out.back hEh.out hv1 hv1t hts
        have hkm : k < m := by rw [← hml]; exact (List.getElem?_eq_some_iff.1 hx).1
        obtain ⟨b, o, x1, x2, x3, rfl, hbs, hx', h1, _, _⟩ := hrh.out.trip hkm
        rw [hx'] at hx
        cases hx
        simp only at he1 he2 hsum
        subst he1
        have hbw2 := hbwh.out
        have hbr2 : Below w.heap.size W2 wr := hbr.below hbw2.size (by have := htbe.out; simp; omega)
        have hbwr := hbw2.trans hbr2
        have hdlr := Nat.lt_of_lt_of_le hdl hbr.size
        have hDr := (hbr.keep db hdl (by simp; omega)).trans hnDh.out
        have hFr := (hbr.keep fb (by omega) (by simp; omega)).trans hf2h.out
        have hI := Lib.hid (idxE_any 49 #[.pointer (some ⟨tb, 0, none⟩), .pointer (some ⟨db, 0, none⟩)] (enters_of Try.func49 (by kernel_rfl) rfl) (stepP d t1) (some ⟨b, o, none⟩) m c l wr (hrh.out.below hbwr) (by omega) (fun W x hxm hW => by
          obtain ⟨y1, y2, y3⟩ := x
          have hy := hEh.out _ hxm
          simp only at hy
          obtain ⟨a, rfl⟩ : ∃ a : Nat, y1 = a := ⟨y1.toNat, by omega⟩
          exact way1_any n t1 a tb db fb y2 y3 d W ((hW.cell (p := ⟨tb, 0, none⟩) (Array.getElem?_eq_some_iff.1 hTr).1).trans cT) ((hW.cell (p := ⟨db, 0, none⟩) hdlr).trans (cell_of_one hDr)) (Nat.lt_of_lt_of_le (Array.getElem?_eq_some_iff.1 hTr).1 hW.size) (Nat.lt_of_lt_of_le hdlr hW.size)
            ((hW.block fb (Array.getElem?_eq_some_iff.1 hFr).1).trans hFr) hDh.out.len (by omega) ht1 hn' (fun v hv => hDh.out.rng a v hv) ⟨by omega, by omega⟩))
        rw [hidx] at hI
        have hownh := Lib.hid own
        have hTrh := Lib.hid hTr
        have hbrh := Lib.hid hbr
        have hbwrh := Lib.hid hbwr
        have hwayh := Lib.hid hway
        obtain ⟨A0, c0, rfl, _, _, _⟩ := Rd.of_own (enc := numE .i64) numE_len rfl own
        have hxh := Lib.hid hx'
        have hidxh := Lib.hid hidx
        have hv2h := Lib.hid hv2
        have hlenh := Lib.hid hlen
        have hh1 := Lib.hid h1
        clear own hTr hbr hbwr hway hx' hidx hv1 hlen h1 hDr hFr hdlr hbw2 hbr2 he2 hv2
        have hkm2 : (k : Int) < (m : Int) := by omega
        go_upto_region 11 with (go_at_call 48; refine hI.out.mono ?_; rintro e w3 ⟨rfl, hb3⟩)
        have ownh := Lib.hid (own_up hownh.out hb3)
        have hTl := (Array.getElem?_eq_some_iff.1 hTrh.out).1
        have hTh := (hb3.block tb hTl).trans hTrh.out
        have hbase3 := (Array.getElem?_eq_some_iff.1 hTh).1
        have hbase2 : W2.heap.size ≤ w3.heap.size := Nat.le_trans hbrh.out.size hb3.size
        have hb23 := Lib.hid ((hbrh.out).trans (But.of_below hb3 _))
        have h1 := ((hbwrh.out.trans (hb3.mono hbwrh.out.size)).cell (p := ⟨b, o + k * 3, none⟩) hbs).trans hh1.out
        have htbl : tb < W2.heap.size := by omega
        have htb : (Value.slice A0 OL.length c0).ownBlock ≠ some tb := fun e => by have := (ownh.out.lt tb e).1; omega
        have hbn : b ∉ tb :: (Value.slice A0 OL.length c0).ownBlock.toList := by
          rw [List.mem_cons, Option.mem_toList]
          rintro (e | e)
          · have := htbe.out; omega
          · have := (ownh.out.lt b e).1
            have := htbe.out
            omega
        have hbs3 : b < w3.heap.size := by have := htbe.out; omega
        have hOl : Hid (OL.length + 1 ≤ 1099511627776) := by
          have := hlenh.out
          show OL.length + 1 ≤ 1099511627776
          omega
        clear hb3 hI hTrh cT hTl
        refine wp_region_ghost2 (GW w3 W2.heap.size tb (.slice A0 OL.length c0) OL (k : Int) (t1 : Int) (t2 : Int)) (by kernel_rfl) (by kernel_rfl) (by kernel_rfl) (by kernel_rfl) (by kernel_rfl) ?_ ?_
        · intro x0 hx0
          exact GW.start rfl rfl rfl rfl (hx0 9 12 rfl) ownh.out hTh
        intro base O hbase hO
        have kx1 : Hid (∀ xs, evX base O xs (.tmp 1) = .slice (some ⟨b, o, none⟩) m c) := fun xs => by rw [hbase, hO]; rfl
        have kx7 : Hid (∀ xs, evX base O xs (.tmp 7) = .pointer (some ⟨tb, 0, none⟩)) := fun xs => by rw [hbase, hO]; rfl
        have kx12 : Hid (∀ xs, evX base O xs (.tmp 12) = xs 9) := fun xs => by rw [hO]; rfl
        have kx13 : Hid (∀ xs, evX base O xs (.tmp 13) = .int .i64 (k : Int)) := fun xs => by rw [hbase, hO]; rfl
        have kx45 : Hid (∀ xs, evX base O xs (.tmp 45) = xs 0) := fun xs => by rw [hO]; rfl
        have kx46 : Hid (∀ xs, evX base O xs (.tmp 46) = xs 1) := fun xs => by rw [hO]; rfl
        have kx47 : Hid (∀ xs, evX base O xs (.tmp 47) = xs 2) := fun xs => by rw [hO]; rfl
        have kx48 : Hid (∀ xs, evX base O xs (.tmp 48) = xs 3) := fun xs => by rw [hO]; rfl
        have kx49 : Hid (∀ xs, evX base O xs (.tmp 49) = xs 4) := fun xs => by rw [hO]; rfl
        have kx50 : Hid (∀ xs, evX base O xs (.tmp 50) = xs 5) := fun xs => by rw [hO]; rfl
        have kx51 : Hid (∀ xs, evX base O xs (.tmp 51) = xs 6) := fun xs => by rw [hO]; rfl
        have kx52 : Hid (∀ xs, evX base O xs (.tmp 52) = xs 7) := fun xs => by rw [hO]; rfl
        have kx53 : Hid (∀ xs, evX base O xs (.tmp 53) = xs 8) := fun xs => by rw [hO]; rfl
        clear hbase hO
        apply gh_det (n := 0)
        · intro fl xs w ev hG hD hl hdone hev K hK
          have e12 := (hev (.tmp 12)).trans (kx12.out xs)
          rw [if_pos (wantedX_none rfl)]
          have ef : ∀ f, ev (.func f) = .func (.func f) #[] #[] := fun f => (hev _).trans rfl
          clear hev hD
          rw [hG.rd0 hl] at e12
          go_simp
          exact hK _ _ rfl hG.s0
        apply gh_det (n := 1)
        · intro fl xs w ev hG hD hl hdone hev K hK
          have e13 := (hev (.tmp 13)).trans (kx13.out xs)
          rw [if_pos (wantedX_none rfl)]
          have ef : ∀ f, ev (.func f) = .func (.func f) #[] #[] := fun f => (hev _).trans rfl
          clear hev hD
          go_simp
          exact hK _ _ rfl hG
        refine gh_any (n := 2) (fun _ => True) ?_ ?_
        · intro fl xs w ev hG hD hl hdone hev K hK
          have e46 := (hev (.tmp 46)).trans (kx46.out xs)
          have d1 := hD.at_ 1 rfl rfl
          replace e46 := e46.trans d1
          rw [if_pos (wantedX_none rfl)]
          have ef : ∀ f, ev (.func f) = .func (.func f) #[] #[] := fun f => (hev _).trans rfl
          clear hev hD
          go_simp
          exact hK _ _ trivial (hG.s2 hl)
        refine gh_any (n := 3) (fun _ => True) ?_ ?_
        · intro fl xs w ev hG hD hl hdone hev K hK
          have e45 := (hev (.tmp 45)).trans (kx45.out xs)
          have d0 := hD.at_ 0 rfl rfl
          replace e45 := e45.trans d0
          have e47 := (hev (.tmp 47)).trans (kx47.out xs)
          rw [if_pos (wantedX_none rfl)]
          have ef : ∀ f, ev (.func f) = .func (.func f) #[] #[] := fun f => (hev _).trans rfl
          clear hev hD
          obtain ⟨k1, ek, hk1, hkb⟩ := hG.2.2.2.1 (done_of hdone 2 rfl)
          have own := hG.2.2.2.2.1 hl
          rw [ek] at e47
          obtain ⟨v', w1, hrun, own1, hgr, hnew⟩ := own_append (enc := numE .i64) Try.underlying33 infoInt rfl (by decide) numE_len numE_one 1 own (rd_int1 (hkb hl)) (by have := hOl.out; omega) (by decide) (Nat.le_trans hbase2 hG.1.size)
          exact outcome_append (.tmp 45) (.tmp 47) 33 rfl e45 e47 hrun (hK _ _ trivial (hG.s3 hl (done_of hdone 0 rfl) (done_of hdone 2 rfl) hgr own1 hnew htb))
        apply gh_det (n := 4)
        · intro fl xs w ev hG hD hl hdone hev K hK
          have e1 := (hev (.tmp 1)).trans (kx1.out xs)
          rw [if_pos (wantedX_none rfl)]
          have ef : ∀ f, ev (.func f) = .func (.func f) #[] #[] := fun f => (hev _).trans rfl
          clear hev hD
          go_simp
          exact hK _ _ rfl hG
        apply gh_det (n := 5)
        · intro fl xs w ev hG hD hl hdone hev K hK
          have e13 := (hev (.tmp 13)).trans (kx13.out xs)
          rw [if_pos (wantedX_none rfl)]
          have ef : ∀ f, ev (.func f) = .func (.func f) #[] #[] := fun f => (hev _).trans rfl
          clear hev hD
          go_simp
          exact hK _ _ rfl hG
        apply gh_det (n := 6)
        · intro fl xs w ev hG hD hl hdone hev K hK
          have e49 := (hev (.tmp 49)).trans (kx49.out xs)
          have d4 := hD.at_ 4 rfl rfl
          replace e49 := e49.trans d4
          have e50 := (hev (.tmp 50)).trans (kx50.out xs)
          have d5 := hD.at_ 5 rfl rfl
          replace e50 := e50.trans d5
          rw [if_pos (wantedX_none rfl)]
          have ef : ∀ f, ev (.func f) = .func (.func f) #[] #[] := fun f => (hev _).trans rfl
          clear hev hD
          go_simp
          exact hK _ _ rfl hG
        apply gh_det (n := 7)
        · intro fl xs w ev hG hD hl hdone hev K hK
          have e51 := (hev (.tmp 51)).trans (kx51.out xs)
          have d6 := hD.at_ 6 rfl rfl
          replace e51 := e51.trans d6
          rw [if_pos (wantedX_none rfl)]
          have ef : ∀ f, ev (.func f) = .func (.func f) #[] #[] := fun f => (hev _).trans rfl
          clear hev hD
          go_simp
          exact hK _ _ rfl hG
        apply gh_det (n := 8)
        · intro fl xs w ev hG hD hl hdone hev K hK
          have e52 := (hev (.tmp 52)).trans (kx52.out xs)
          have d7 := hD.at_ 7 rfl rfl
          replace e52 := e52.trans d7
          rw [if_pos (wantedX_none rfl)]
          have ef : ∀ f, ev (.func f) = .func (.func f) #[] #[] := fun f => (hev _).trans rfl
          clear hev hD
          have m0 := (hG.1.cell (p := ⟨b, o + k * 3, none⟩) hbs3 hbn).trans h1
          go_simp
          exact hK _ _ rfl hG
        refine gh_any (n := 9) (fun _ => True) ?_ ?_
        · intro fl xs w ev hG hD hl hdone hev K hK
          have e48 := (hev (.tmp 48)).trans (kx48.out xs)
          rw [if_pos (wantedX_none rfl)]
          have ef : ∀ f, ev (.func f) = .func (.func f) #[] #[] := fun f => (hev _).trans rfl
          clear hev hD
          obtain ⟨A7, c7, e7, _⟩ := Rd.of_own (enc := numE .i64) numE_len rfl (hG.2.2.2.2.2.1 (done_of hdone 3 rfl)).1
          have hgo := hG.s9 (done_of hdone 3 rfl)
          generalize (OL ++ [(k : Int)]).length = n7 at e7
          rw [e7] at hgo e48
          go_simp
          exact hK _ _ trivial hgo
        refine gh_any (n := 10) (fun _ => True) ?_ ?_
        · intro fl xs w ev hG hD hl hdone hev K hK
          have e7 := (hev (.tmp 7)).trans (kx7.out xs)
          have e53 := (hev (.tmp 53)).trans (kx53.out xs)
          have d8 := hD.at_ 8 rfl rfl
          replace e53 := e53.trans d8
          rw [if_pos (wantedX_none rfl)]
          have ef : ∀ f, ev (.func f) = .func (.func f) #[] #[] := fun f => (hev _).trans rfl
          clear hev hD
          have c00 := cell_of_one (hG.2.2.2.2.2.2.1 hl)
          have f0 := free_of_one (hG.2.2.2.2.2.2.1 hl)
          have hgo := hG.s10 (x := undef) hl htb hbase3
          go_simp
          exact hK _ _ trivial hgo
        intro xs w' hG hI
        clear hI
        obtain ⟨g1, g2, g3, g4, g5, g6, g7, g8, g9, g10⟩ := hG
        have hx9 := g10 rfl
        have hfin : Hid (w'.ownsRow W2.heap.size 3 1 (xs 9) (OL ++ [(k : Int)]).length ((OL ++ [(k : Int)]).flatMap (numE .i64)) ∧ w'.heap[tb]? = some (.cells #[.int .i64 t2] 3 (0, 0)) ∧ But W2 w' [tb] ∧ (OL ++ [(k : Int)]).length + v2.toNat ≤ 1099511627776 ∧ ∀ ks, WayTo l d s t2 ks → WayTo l d s t ((OL ++ [(k : Int)]) ++ ks)) := by
          refine ⟨by rw [hx9]; exact (g6 rfl).1, g8 rfl, hb23.out.trans' g1 fun y hy => ?_, by have := hlenh.out; simp; omega, fun ks h => ?_⟩
          · rw [List.mem_cons, Option.mem_toList] at hy
            rcases hy with rfl | hy
            · exact .inl (by simp)
            · exact .inr (ownh.out.lt y hy).1
          · rw [List.append_assoc]
            exact hwayh.out _ (.cons hts hidxh.out hxh.out rfl h)
        clear g1 g2 g3 g4 g5 g6 g7 g8 g9 g10 hx9 h1
        simp only [List.append_eq, List.cons_append, List.nil_append, setAll, List.setIfInBounds_toArray, List.set_cons_zero, List.set_cons_succ]
        have ht2n : t2 < n := by rw [← hDh.out.len]; exact (List.getElem?_eq_some_iff.1 hv2h.out).1
        go_wp2_with fail
        go_roundg v2.toNat
        case measure => omega
        case rel => exact ⟨OL ++ [(k : Int)], t2, v2, hfin.out.1, hfin.out.2.1, ht2n, hv2h.out, hv20, by omega, rfl, hfin.out.2.2.2.1, hfin.out.2.2.2.2, hfin.out.2.2.1⟩
end
end Go.Proofs.Ytapfndjaimfcaaa
namespace Go.Proofs.Ytapfndjaimfcaaa
open Go.RowKit Go.Shelf B K
set_option linter.unusedVariables false
set_option linter.unusedSimpArgs false
set_option maxHeartbeats 2000000
theorem below_drewQ {w wr : World} (h : Below w.heap.size w wr) (n : Nat) : Below w.heap.size w (wr.drewN n) := ⟨h.os, h.tape, h.output, h.size, h.block⟩
theorem B.Rd.num {w : World} {n k : Nat} {A : Option Addr} {l : List Int} (h : Rd w 1 (numE .i64) A n l) (hk : k < n) : ∃ b o x, A = some ⟨b, o, none⟩ ∧ b < w.heap.size ∧ l[k]? = some x ∧ w.cell? ⟨b, o + k, none⟩ = some (.int .i64 x) := by
  obtain ⟨b, o, rfl, hb, hc⟩ := h.cells (by omega)
  have hl : k < l.length := by rw [h.len]; exact hk
  have hx : l[k]? = some l[k] := List.getElem?_eq_getElem hl
  have := hc k _ hx 0 _ rfl
  rw [Nat.mul_one, Nat.add_zero] at this
  exact ⟨b, o, l[k], rfl, hb, hx, this⟩
theorem sameN_any (A : Option Addr) (n c : Nat) (l : List Int) (A' : Option Addr) (n' c' : Nat) (l' : List Int) (w : World) (hr : Rd w 1 (numE .i64) A n l) (hr' : Rd w 1 (numE .i64) A' n' l') (hn : n ≤ 1099511627776) (hn' : n' ≤ 1099511627776) :
    Calls Try.prog 20 #[.slice A n c, .slice A' n' c'] w fun e w' => e = .returned (.bool (decide (l = l'))) ∧ Below w.heap.size w w' := by
  go_enter Try.func20, Try.ntmps20
  by_cases hnn : n = n'
  · subst hnn
    go_wp2
    go_loopw [5] (fun i wr => ∃ (k : Nat), k ≤ n ∧ i = .int .i64 k ∧ Below w.heap.size w wr ∧ Hid (l.take k = l'.take k)) (fun i _ => n - (intOf i).toNat)
    case atStart => exact ⟨0, Nat.zero_le _, rfl, Below.refl _ _, rfl⟩
    case round =>
      obtain ⟨k, hk, rfl, hb, heq⟩ := hrel
      by_cases hlt : k < n
      · obtain ⟨b, o, x1, rfl, hbs, hl, h1⟩ := (hr.below hb).num hlt
        obtain ⟨b', o', y1, rfl, hbs', hl', g1⟩ := (hr'.below hb).num hlt
        have hl := Lib.hid hl
        have hl' := Lib.hid hl'
        rename_i hx1 hx2; clear hx1 hx2
        have hlt2 : (k : Int) < (n : Int) := by omega
        by_cases e1 : x1 = y1
        · subst e1
          go_wp2
          go_quiet (fail)
          go_wp2
          go_roundw
          case rel => exact ⟨k + 1, by omega, by go_num, below_drewQ hb _, by show _ = _; rw [take_at hl.out, take_at hl'.out, heq.out]⟩
          case measure => simp [intOf]; omega
        · have hn : (x1 == y1) = false := by simp [e1]
          have hll : Hid (l ≠ l') := by
            intro e
            apply e1
            have := hl.out; rw [e, hl'.out] at this
            exact (Option.some.inj this).symm
          clear e1
          go_wp2
          go_quiet (fail)
          go_wp2
          go_returns
          exact ⟨ret_bool (by symm; rw [decide_eq_false_iff_not]; exact hll.out), below_drewQ hb _⟩
      · go_wp2
        go_returns
        refine ⟨ret_bool ?_, hb⟩
        have h1 := heq.out
        rw [List.take_of_length_le (by rw [hr.len]; omega), List.take_of_length_le (by rw [hr'.len]; omega)] at h1
        rw [h1]; simp
  · have hll : Hid (l ≠ l') := by
      intro e
      apply hnn
      rw [← hr.len, ← hr'.len, e]
    go_wp2
    go_returns
    exact ⟨ret_bool (by symm; rw [decide_eq_false_iff_not]; exact hll.out), Below.refl _ _⟩
theorem sameL_any (A : Option Addr) (n c : Nat) (l : List Int) (A' : Option Addr) (n' c' : Nat) (l' : List Int) (w : World) (hr : Rd w 1 (numE .i64) A n l) (hr' : Rd w 1 (numE .i64) A' n' l') (hn : n ≤ 1099511627776) (hn' : n' ≤ 1099511627776) :
    Calls Try.prog 23 #[.slice A n c, .slice A' n' c'] w fun e w' => e = .returned (.bool (decide (l = l'))) ∧ Below w.heap.size w w' := by
  go_enter Try.func23, Try.ntmps23
  by_cases hnn : n = n'
  · subst hnn
    go_wp2
    go_loopw [5] (fun i wr => ∃ (k : Nat), k ≤ n ∧ i = .int .i64 k ∧ Below w.heap.size w wr ∧ Hid (l.take k = l'.take k)) (fun i _ => n - (intOf i).toNat)
    case atStart => exact ⟨0, Nat.zero_le _, rfl, Below.refl _ _, rfl⟩
    case round =>
      obtain ⟨k, hk, rfl, hb, heq⟩ := hrel
      by_cases hlt : k < n
      · obtain ⟨b, o, x1, rfl, hbs, hl, h1⟩ := (hr.below hb).num hlt
        obtain ⟨b', o', y1, rfl, hbs', hl', g1⟩ := (hr'.below hb).num hlt
        have hl := Lib.hid hl
        have hl' := Lib.hid hl'
        rename_i hx1 hx2; clear hx1 hx2
        have hlt2 : (k : Int) < (n : Int) := by omega
        by_cases e1 : x1 = y1
        · subst e1
          go_wp2
          go_quiet (fail)
          go_wp2
          go_roundw
          case rel => exact ⟨k + 1, by omega, by go_num, below_drewQ hb _, by show _ = _; rw [take_at hl.out, take_at hl'.out, heq.out]⟩
          case measure => simp [intOf]; omega
        · have hn : (x1 == y1) = false := by simp [e1]
          have hll : Hid (l ≠ l') := by
            intro e
            apply e1
            have := hl.out; rw [e, hl'.out] at this
            exact (Option.some.inj this).symm
          clear e1
          go_wp2
          go_quiet (fail)
          go_wp2
          go_returns
          exact ⟨ret_bool (by symm; rw [decide_eq_false_iff_not]; exact hll.out), below_drewQ hb _⟩
      · go_wp2
        go_returns
        refine ⟨ret_bool ?_, hb⟩
        have h1 := heq.out
        rw [List.take_of_length_le (by rw [hr.len]; omega), List.take_of_length_le (by rw [hr'.len]; omega)] at h1
        rw [h1]; simp
  · have hll : Hid (l ≠ l') := by
      intro e
      apply hnn
      rw [← hr.len, ← hr'.len, e]
    go_wp2
    go_returns
    exact ⟨ret_bool (by symm; rw [decide_eq_false_iff_not]; exact hll.out), Below.refl _ _⟩
end Go.Proofs.Ytapfndjaimfcaaa
namespace Go.Proofs.Ytapfndjaimfcaaa
open Go.RowKit Go.Shelf B K
set_option linter.unusedVariables false
set_option linter.unusedSimpArgs false
set_option maxHeartbeats 1000000
def isDistB (n : Nat) (l : List Ed) (s : Nat) (d : List Int) : Bool :=
  decide (d.length = n) && (decide (d[s]? = some 0) && (d.all (fun v => decide (v = 4611686018427387904 ∨ (0 ≤ v ∧ v ≤ 1099511627776))) &&
  (l.all (fun e => decide (1099511627776 < (d[e.1.toNat]?.getD 0) + e.2.2) || decide ((d[e.2.1.toNat]?.getD 0) ≤ (d[e.1.toNat]?.getD 0) + e.2.2)) &&
  (List.range n).all (fun i => decide (i = s) || (decide (1099511627776 < d[i]?.getD 0) || l.any (fun e => decide (e.2.1 = (i : Int)) && (decide (0 ≤ e.1 ∧ e.1 < (n : Int)) && decide (d[e.1.toNat]?.getD 0 + e.2.2 = d[i]?.getD 0))))))))
theorem isDistB_ok {n : Nat} {l : List Ed} {s : Nat} {d : List Int} (h : isDistB n l s d = true) : IsDist n l s d := by
  unfold isDistB at h
  simp only [Bool.and_eq_true, decide_eq_true_eq, List.all_eq_true, Bool.or_eq_true, List.any_eq_true, List.mem_range] at h
  obtain ⟨h1, h2, h3, h4, h5⟩ := h
  refine ⟨h1, h2, fun i v hv => h3 v (List.mem_of_getElem? hv), fun e he a b u v ea eb hu hv ht => ?_, fun i v hi hv hvt => ?_⟩
  · have := h4 e he
    rw [ea, eb, Int.toNat_natCast, Int.toNat_natCast, hu, hv] at this
    simp only [Option.getD_some] at this
    omega
  · have hin : i < n := by rw [← h1]; exact (List.getElem?_eq_some_iff.1 hv).1
    rcases h5 i hin with h6 | h6 | ⟨e, he, h7, h8, h9⟩
    · exact absurd h6 hi
    · rw [hv] at h6
      simp only [Option.getD_some] at h6
      omega
    · obtain ⟨p, hp⟩ : ∃ p : Nat, e.1 = (p : Int) := ⟨e.1.toNat, by omega⟩
      have hpn : p < n := by omega
      obtain ⟨u, hu⟩ : ∃ u, d[p]? = some u := ⟨d[p]'(by rw [h1]; exact hpn), List.getElem?_eq_getElem _⟩
      rw [hp, Int.toNat_natCast, hu, hv] at h9
      exact ⟨e, he, h7, p, u, hp, hu, h9⟩
/-- the example's edges -/
abbrev exL : List Ed := [(0, 1, 5), (1, 2, 2), (0, 2, 7)]
theorem ex_chk : chkE 3 exL = 0 := by decide
theorem ex_d0 {d : List Int} (h : IsDist 3 exL 0 d) : d = [0, 5, 7] := h.uniq (eds_ok ex_chk) (isDistB_ok (by decide))
theorem ex_d1 {d : List Int} (h : IsDist 3 exL 1 d) : d = [4611686018427387904, 0, 2] := h.uniq (eds_ok ex_chk) (isDistB_ok (by decide))
theorem ex_d2 {d : List Int} (h : IsDist 3 exL 2 d) : d = [4611686018427387904, 4611686018427387904, 0] := h.uniq (eds_ok ex_chk) (isDistB_ok (by decide))
theorem ex_way {ks : List Int} (h : WayTo exL [0, 5, 7] 0 2 ks) : ks = [1, 0] :=
  h.uniq (.cons (t' := 1) (k := 1) (e := (1, 2, 2)) (by decide) (by decide) rfl rfl (.cons (t' := 0) (k := 0) (e := (0, 1, 5)) (by decide) (by decide) rfl rfl .nil))
theorem rd_lit {α : Type} {enc : α → List Value} {size : Nat} {w : World} {k n : Nat} {cs : Array Value} {t : TypeId} {l : List α} (hs : ∀ x, (enc x).length = size) (h : w.heap[k]? = some (.cells cs t (0, 0))) (hn : l.length = n) (e : cs.toList = l.flatMap enc) : Rd w size enc (some ⟨k, 0, none⟩) n l :=
  ⟨hn, fun _ => ⟨k, 0, rfl, (Array.getElem?_eq_some_iff.1 h).1, fun i x hx j u hu => by
    rw [cell_of_row _ _ _ _ _ _ h, Nat.zero_add, ← Array.getElem?_toList, e]
    exact flatMap_at hs l _ _ hx _ _ hu⟩⟩
theorem ex13_any (w : World) : Calls Try.prog 21 #[] w fun e w' => e = .returned (.slice (some ⟨w.heap.size, 0, none⟩) 3 3) ∧ Rd w' 3 tripE (some ⟨w.heap.size, 0, none⟩) 3 exL ∧ Below w.heap.size w w' := by
  have hn := heap_alloc_new w (.cells #[.int .i64 0, .int .i64 1, .int .i64 5, .int .i64 1, .int .i64 2, .int .i64 2, .int .i64 0, .int .i64 2, .int .i64 7] 32)
  have hb : Below w.heap.size w (w.alloc (.cells #[.int .i64 0, .int .i64 1, .int .i64 5, .int .i64 1, .int .i64 2, .int .i64 2, .int .i64 0, .int .i64 2, .int .i64 7] 32)) := (Below.refl _ w).alloc (Nat.le_refl _) _
  go_enter Try.func21, Try.ntmps21
  go_wp2_with fail
  go_returns
  exact ⟨rfl, rd_lit tripE_len hn rfl rfl, hb⟩
set_option maxRecDepth 100000 in
theorem lives13_any (w : World) : Calls Try.prog 14 #[] w fun e w' => e = .returned (.bool true) ∧ Below w.heap.size w w' := by
  go_enter Try.func14, Try.ntmps14
  go_wp2_with fail
  refine (ex13_any _).mono ?_; rintro e w1 ⟨rfl, r1, hb1⟩
  go_wp2_with fail
  refine (From_ok (c := 3) 3 0 r1 (by decide) ex_chk (by decide)).mono ?_; rintro e w2 ⟨fb, d, rfl, hD, hfb, hf, hb2⟩
  have hd := ex_d0 hD
  subst hd
  have rD := rd_ints hf rfl
  have hbw2 := hb1.trans (hb2.mono hb1.size)
  clear r1 hb1 hb2 hD hf hfb
  go_wp2_with fail
  refine (ex13_any _).mono ?_; rintro e w3 ⟨rfl, r3, hb3⟩
  have rD3 := rD.below hb3
  have hbw3 := hbw2.trans (hb3.mono hbw2.size)
  clear rD hbw2 hb3
  go_wp2_with fail
  refine (Way_ok (c := 3) 3 0 2 r3 (by decide) ex_chk (by decide) (by decide)).mono ?_; rintro e w4 ⟨d, hD, hb4, hW⟩
  have hd := ex_d0 hD
  subst hd
  have rD4 := rD3.below hb4
  have hbw4 := hbw3.trans (hb4.mono hbw3.size)
  clear rD3 hbw3 hb4 hD r3
  rcases hW with ⟨h1, _⟩ | ⟨_, A, c, O, hO, rfl, _, rW⟩
  · exact absurd h1 (by decide)
  have hO2 := ex_way hO
  subst hO2
  clear hO
  have ha5 := (Below.refl _ w4).alloc (Nat.le_refl w4.heap.size) (.cells #[.int .i64 0, .int .i64 5, .int .i64 7] 2)
  have hn5 := heap_alloc_new w4 (.cells #[.int .i64 0, .int .i64 5, .int .i64 7] 2)
  have hS1 := Lib.hid (sameL_any (some ⟨fb, 0, none⟩) 3 3 [0, 5, 7] (some ⟨w4.heap.size, 0, none⟩) 3 3 [0, 5, 7] _ (rD4.below ha5) (rd_lit (enc := numE .i64) numE_len hn5 rfl rfl) (by decide) (by decide))
  rw [decide_eq_true rfl] at hS1
  have hbw5 := hbw4.trans (ha5.mono hbw4.size)
  have rW5 := rW.below ha5
  simp only [List.length_cons, List.length_nil, Nat.zero_add, Nat.reduceAdd]
  clear rD4 hbw4 ha5 hn5 rW
  go_wp2_with fail
  refine hS1.out.mono ?_; rintro e w6 ⟨rfl, hb6⟩
  have rW6 := rW5.below hb6
  have hbw6 := hbw5.trans (hb6.mono hbw5.size)
  have ha7 := (Below.refl _ w6).alloc (Nat.le_refl w6.heap.size) (.cells #[.int .i64 0, .int .i64 1] 3)
  have hn7 := heap_alloc_new w6 (.cells #[.int .i64 0, .int .i64 1] 3)
  have hS2 := Lib.hid (sameN_any A 2 c [0, 1] (some ⟨w6.heap.size, 0, none⟩) 2 2 [0, 1] _ (rW6.below ha7) (rd_lit (enc := numE .i64) numE_len hn7 rfl rfl) (by decide) (by decide))
  rw [decide_eq_true rfl] at hS2
  have hbw7 := Lib.hid (hbw6.trans (ha7.mono hbw6.size))
  clear hS1 rW5 hbw5 hb6 rW6 hbw6 ha7 hn7
  go_wp2_with fail
  refine hS2.out.mono ?_; rintro e w8 ⟨rfl, hb8⟩
  go_wp2_with fail
  go_returns
  exact ⟨rfl, hbw7.out.trans (hb8.mono hbw7.out.size)⟩
end Go.Proofs.Ytapfndjaimfcaaa
