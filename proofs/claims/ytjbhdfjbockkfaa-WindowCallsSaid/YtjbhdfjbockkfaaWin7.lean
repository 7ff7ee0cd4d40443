/-
  Walks: the iterator of window.Union; window.Union.
-/
import Derived.Test.YtjbhdfjbockkfaaWin6
import Derived.Stop.RegionWithIn
import Derived.Sort.AtCallIn
namespace Go.Proofs.Ytjbhdfjbockkfaa
open Go.RowKit B Go.Shelf
attribute [local go_sem] Oper.semAt_some
set_option maxHeartbeats 1000000
theorem unionc_iter (Pa Pb : Nat) (A : Option Addr) (n c : Nat) (la : W.Row) (A' : Option Addr) (n' c' : Nat) (lb : W.Row) (w : World)
    (ha : w.cell? ⟨Pa, 0, none⟩ = some (.slice A n c)) (hb : w.cell? ⟨Pb, 0, none⟩ = some (.slice A' n' c')) (hPa : Pa < w.heap.size) (hPb : Pb < w.heap.size)
    (ra : Rd w 2 pairE A n la) (rb : Rd w 2 pairE A' n' lb) (hn : n ≤ 549755813888) (hn' : n' ≤ 549755813888) :
    Iter Try.prog 37 #[.pointer (some ⟨Pa, 0, none⟩), .pointer (some ⟨Pb, 0, none⟩)] winV (W.mergeL la lb) (fun k => k < w.heap.size) (fun _ => False) w := by
  intro l J Jx V hV h0 hst hstx hround
  have ha := (hV.cell (p := ⟨Pa, 0, none⟩) hPa).trans ha
  have hb := (hV.cell (p := ⟨Pb, 0, none⟩) hPb).trans hb
  have ra := ra.below hV
  have rb := rb.below hV
  have hround := Lib.hid hround
  have hst := Lib.hid hst
  have hstx := Lib.hid hstx
  have hVs := hV.size
  refine callsIn_of_wp_marks Try.func37 rfl trivial ?_ rfl
  simp only [Try.ntmps37, List.size_toArray, List.length_cons, List.length_nil, Nat.reduceAdd, Nat.reduceSub, Array.replicate_succ, Array.replicate_zero, List.push_toArray, List.append_toArray, List.nil_append, List.cons_append]
  have hPa' : Pa < V.heap.size := by omega
  have hPb' : Pb < V.heap.size := by omega
  gi_wp2
  have hVy : Below V.heap.size V (V.alloc (.cells #[.func (.yield l) #[] #[]] 54)).drew := ((Below.refl _ _).alloc (Nat.le_refl _) _).drew
  have hbY := (hVy.cell (p := ⟨Pb, 0, none⟩) hPb').trans hb
  have haY := (hVy.cell (p := ⟨Pa, 0, none⟩) hPa').trans ha
  gi_region_with (first
    | (refine ⟨trivial, rfl, ?_⟩; gi_at_call_has 39 (Value.slice A n c); refine ((callsIn_wide (n := 0)).2 (winsc_any A n c la _ (ra.below hVy) hn)).mono ?_; rintro e w1 ⟨va, rfl, owna, hb1⟩; obtain ⟨A1, c1, rfl, r1, g1, g1'⟩ := Rd.of_own pairE_len ra.len owna; have hbY1 := (hb1.cell (p := ⟨Pb, 0, none⟩) (by simp; omega)).trans hbY)
    | (refine ⟨trivial, rfl, ?_⟩; gi_at_call_has 39 (Value.slice A' n' c'); refine ((callsIn_wide (n := 0)).2 (winsc_any A' n' c' lb _ ((rb.below hVy).below hb1) hn')).mono ?_; rintro e w2 ⟨vb, rfl, ownb, hb2⟩; obtain ⟨A2, c2, rfl, r2, g2, g2'⟩ := Rd.of_own pairE_len rb.len ownb)
    | (refine ⟨trivial, rfl, ?_⟩; gi_at_call 38; refine ((callsIn_wide (n := 0)).2 (merged_any _ _ _ _ _ _ _ rfl _)).mono ?_; rintro e w3 ⟨rfl, rfl⟩))
  all_goals
    gi_wp2
    refine wpIn_world fun w3 hw3 => ?_
    obtain ⟨R, hR⟩ : ∃ R : Nat → Prop, R = fun k => V.heap.size ≤ k ∧ k < w3.heap.size := ⟨_, rfl⟩
    have hRi : ∀ k, R k ↔ V.heap.size ≤ k ∧ k < w3.heap.size := fun k => by rw [hR]
    have hs1 : V.heap.size + 1 ≤ w1.heap.size := by have := hb1.size; simpa using this
    have hs2 := hb2.size
    have hs3 : w3.heap.size = w2.heap.size + 3 := by rw [hw3]; simp
    have q1 : w3.heap[w2.heap.size]? = some (.cells #[.slice A1 n c1] 59 (0, 0)) := by rw [hw3]; exact (Below.heap_alloc _ _ _ (by simp; omega)).trans ((Below.heap_alloc _ _ _ (by simp)).trans (heap_alloc_new _ _))
    have q2 : w3.heap[w2.heap.size + 1]? = some (.cells #[.slice A2 n' c2] 59 (0, 0)) := by rw [hw3]; exact (Below.heap_alloc _ _ _ (by simp)).trans (by have := heap_alloc_new (w2.alloc (.cells #[.slice A1 n c1] 59)) (.cells #[.slice A2 n' c2] 59); rwa [World.size_alloc] at this)
    have q3 : w3.heap[w2.heap.size + 2]? = some (.cells #[.func (.func 40) #[] #[]] 61 (0, 0)) := by rw [hw3]; have := heap_alloc_new ((w2.alloc (.cells #[.slice A1 n c1] 59)).alloc (.cells #[.slice A2 n' c2] 59)) (.cells #[.func (.func 40) #[] #[]] 61); rwa [World.size_alloc, World.size_alloc] at this
    have hb23 : Below w2.heap.size w2 w3 := by rw [hw3]; exact (((Below.refl _ _).alloc (Nat.le_refl _) _).alloc (by simp) _).alloc (by simp; omega) _
    have hV3 : Below V.heap.size V w3 := hVy.trans ((hb1.mono (by simp)).trans ((hb2.mono (by omega)).trans (hb23.mono (by omega))))
    have qy : w3.heap[V.heap.size]? = some (.cells #[.func (.yield l) #[] #[]] 54 (0, 0)) :=
      (hb23.block _ (by omega)).trans ((hb2.block _ (by omega)).trans ((hb1.block _ (by simp)).trans (heap_alloc_new V _)))
    have r1' := (r1.below hb2).below hb23
    have r2' := r2.below hb23
    have hm : MSt R w3.heap.size w2.heap.size (w2.heap.size + 1) (w2.heap.size + 2) w3 A1 n c1 la A2 n' c2 lb := ⟨q1, q2, q3, r1', r2', ⟨g1, g1'⟩, ⟨g2, g2'⟩,
      fun a e => by subst e; have := owna.lt a.block rfl; simp at this; refine ⟨(hRi _).2 ⟨by omega, by omega⟩, by omega, by omega, by omega⟩,
      fun a e => by subst e; have := ownb.lt a.block rfl; refine ⟨(hRi _).2 ⟨by omega, by omega⟩, by omega, by omega, by omega⟩⟩
    clear hw3 owna ownb r1 r2 r1' r2' hb1 hb2 hb23 hbY hbY1 haY hVy g1 g1' g2 g2'
    have hgrow : ∀ (S S' : Nat → Prop) (U U' : World), Step S S' U U' → Step (fun k => S k ∨ R k) (fun k => S' k ∨ R k) U U' := fun S S' U U' hs =>
      ⟨hs.turn.mono fun k _ h => .inl h, fun k h => h.imp (hs.sub k) id, fun k h => h.elim (fun h => (hs.new k h).imp .inl id) fun h => .inl (.inr h)⟩
    refine wpIn_rangeFunc_iter (gf := 49) rfl (enters_of Try.func49 (by kernel_rfl) rfl)
      (merged_iter R w2.heap.size (w2.heap.size + 1) (w2.heap.size + 2) A1 n c1 la A2 n' c2 lb w3 hm ((hRi _).2 ⟨by omega, by omega⟩) (by omega) (by omega) (by omega) (by omega))
      (Below.refl _ _) (fun k h => ((hRi k).1 h).2) (fun k h => by omega)
      (fun pre S U => J pre (fun k => S k ∨ R k) U ∧ U.heap[V.heap.size]? = some (.cells #[.func (.yield l) #[] #[]] 54 (0, 0)) ∧ ¬ S V.heap.size)
      (fun c pre S U => c = .ret ∧ Jx pre (fun k => S k ∨ R k) U) ?hI ?hIx ?h0 ?body ?done ?stop
    case hI =>
      rintro pre S S' U U' ⟨hj, hy, hn⟩ hs
      have hlt := (Array.getElem?_eq_some_iff.1 hy).1
      refine ⟨hst.out _ _ _ _ _ hj (hgrow _ _ _ _ hs), (hs.turn.block _ hlt hn).trans hy, fun h => ?_⟩
      rcases hs.new _ h with h | h
      · exact hn h
      · omega
    case hIx =>
      rintro c pre S S' U U' ⟨rfl, hj⟩ hs
      exact ⟨rfl, hstx.out _ _ _ _ _ hj (hgrow _ _ _ _ hs)⟩
    case h0 =>
      refine ⟨hst.out _ _ _ _ _ h0 ⟨Below.toTurn hV3 (fun k h1 h2 => by omega), fun _ h => h.elim, fun k h => ?_⟩, qy, fun h => by omega⟩
      right
      rcases h with h | h
      · omega
      · exact (hRi k).1 h
    case body =>
      rintro L pre ⟨p, q⟩ S U hpre ⟨hj, hy, hn⟩ hU hSlt
      dsimp only [winV]
      gi_wp2
      refine ⟨(Turn.refl _ U).alloc _, fun U2 hT hsz => ?_⟩
      have hst2 : Step S S U U2 := (Step.same ((Turn.refl S U).alloc (.cells #[.int .i64 p, .int .i64 q] 58))).trans (.same hT)
      have hj2 := hst.out _ _ _ _ _ hj (hgrow _ _ _ _ hst2)
      have hy2 := (hst2.turn.block _ (Array.getElem?_eq_some_iff.1 hy).1 hn).trans hy
      have hnS : ¬ S U.heap.size := fun h => by have := hSlt _ h; omega
      have hw0 : U2.heap[U.heap.size]? = some (.cells #[.int .i64 p, .int .i64 q] 58 (0, 0)) := (hT.block _ (by simp) hnS).trans (heap_alloc_new U _)
      have c0 := cell_of_one hy2
      have c1' := cell_of_row U2 _ 0 _ _ _ hw0
      have c2' := cell_of_row U2 _ 1 _ _ _ hw0
      simp only [List.getElem?_toArray, List.getElem?_cons_zero, List.getElem?_cons_succ] at c1' c2'
      obtain ⟨fn, tmps, assign, body, hyl, hRo⟩ := hround.out _ _ _ U2 hj2 hpre
      have hRo := Lib.hid hRo
      dsimp only [winV] at hyl
      clear hT hw0 hj hy
      gi_wp2
      refine ⟨rfl, ?_⟩
      refine RoundIn.mono (F := Fence.wide.inRound L) hRo.out ?_
      rintro e U' (⟨rfl, hj', hT⟩ | ⟨rfl, hj', hT⟩)
      · have hy' := (hT.block _ (Array.getElem?_eq_some_iff.1 hy2).1 (fun h => h.2 (.inr ((hRi _).2 ⟨Nat.le_refl _, by omega⟩)))).trans hy2
        have hT' : Turn (fun k => ¬ R k ∧ ¬ S k) U2 U' := hT.mono fun k _ h => ⟨fun hr => h.2 (.inr hr), fun hs => h.2 (.inl hs)⟩
        have hfin : Hid ((J (pre ++ [(p, q)]) (fun k => S k ∨ R k) U' ∧ U'.heap[V.heap.size]? = some (.cells #[.func (.yield l) #[] #[]] 54 (0, 0)) ∧ ¬ S V.heap.size) ∧ Turn (fun k => ¬ R k ∧ ¬ S k) U2 U') := ⟨⟨hj', hy', hn⟩, hT'⟩
        clear hT hT' hy' hj' c0 c1' c2' hyl
        gi_wp2
        exact hfin.out
      · have hT' : Turn (fun k => ¬ R k ∧ ¬ S k) U2 U' := hT.mono fun k _ h => ⟨fun hr => h.2 (.inr hr), fun hs => h.2 (.inl hs)⟩
        have hfin : Hid (Jx (pre ++ [(p, q)]) (fun k => S k ∨ R k) U' ∧ Turn (fun k => ¬ R k ∧ ¬ S k) U2 U') := ⟨hj', hT'⟩
        clear hT hT' hj' c0 c1' c2' hyl
        gi_wp2
        exact ⟨⟨rfl, hfin.out.1⟩, hfin.out.2⟩
    case done =>
      rintro D S U hSD hD ⟨hj, hy, hn⟩ hDd
      have hfin := hst.out _ _ _ _ _ hj (.same ((Turn.refl (fun k => S k ∨ R k) U).putObj (r := D) (fun _ => .inl hSD) (.deferred none)))
      gi_wp2
      refine ⟨by simp, .inl ⟨_, _, rfl, run_takeDeferred hDd, ?_⟩⟩
      exact ⟨_, results_none rfl _ _ _, ⟨_, rfl⟩, _, .inl hfin⟩
    case stop =>
      rintro D S c pre U hSD hD hpre ⟨rfl, hj⟩ hDd
      have hfin := hstx.out _ _ _ _ _ hj (.same ((Turn.refl (fun k => S k ∨ R k) U).putObj (r := D) (fun _ => .inl hSD) (.deferred none)))
      gi_wp2
      refine ⟨by simp, .inl ⟨_, _, rfl, run_takeDeferred hDd, ?_⟩⟩
      exact ⟨_, results_none rfl _ _ _, ⟨_, rfl⟩, _, .inr ⟨pre, hpre, hfin⟩⟩
theorem union_any (A : Option Addr) (n c : Nat) (la : W.Row) (A' : Option Addr) (n' c' : Nat) (lb : W.Row) (w : World) (ra : Rd w 2 pairE A n la) (rb : Rd w 2 pairE A' n' lb) (hn : n ≤ 549755813888) (hn' : n' ≤ 549755813888) :
    Calls Try.prog 17 #[.slice A n c, .slice A' n' c'] w fun e w' => RetRow1 w (W.unionM la lb) e w' := by
  obtain ⟨u, hu⟩ : ∃ u, W.unionM la lb = u := ⟨_, rfl⟩
  rw [hu]
  have hu := Lib.hid hu
  rename_i hu0; clear hu0
  go_enter Try.func17, Try.ntmps17
  go_wp2_with fail
  refine (good_any A n c la _ (ra.below (((Below.refl _ _).alloc (Nat.le_refl _) _).alloc (by simp) _)) (by omega)).mono ?_; rintro e w1 ⟨rfl, hb1⟩
  have hbw : Below w.heap.size w w1 := (((Below.refl _ w).alloc (Nat.le_refl _) _).alloc (by simp) _).trans (hb1.mono (by simp; omega))
  have hs1 : w.heap.size + 2 ≤ w1.heap.size := by have := hb1.size; simpa using this
  have ca : w1.cell? ⟨w.heap.size, 0, none⟩ = some (.slice A n c) := (hb1.cell (p := ⟨w.heap.size, 0, none⟩) (by simp; omega)).trans (by simp [go_sem])
  have cb : w1.cell? ⟨w.heap.size + 1, 0, none⟩ = some (.slice A' n' c') := (hb1.cell (p := ⟨w.heap.size + 1, 0, none⟩) (by simp)).trans (by simp [go_sem])
  cases hga : W.good la
  · obtain rfl : u = [] := by have := hu.out; unfold W.unionM at this; rw [hga] at this; exact this.symm
    go_wp2_with fail
    go_returns
    exact .mk none 0 rfl Rd.nil (Nat.le_refl _) (by omega) hbw
  · have hga' := Lib.hid hga
    go_wp2_with fail
    refine (good_any A' n' c' lb _ (rb.below hbw) (by omega)).mono ?_; rintro e w2 ⟨rfl, hb2⟩
    have hbw2 := hbw.trans (hb2.mono (by omega))
    have hs2 := hb2.size
    have ca2 := (hb2.cell (p := ⟨w.heap.size, 0, none⟩) (by simp; omega)).trans ca
    have cb2 := (hb2.cell (p := ⟨w.heap.size + 1, 0, none⟩) (by simp; omega)).trans cb
    cases hgb : W.good lb
    · obtain rfl : u = [] := by have := hu.out; unfold W.unionM at this; rw [hgb, Bool.and_false] at this; exact this.symm
      go_wp2_with fail
      go_returns
      exact .mk none 0 rfl Rd.nil (Nat.le_refl _) (by omega) hbw2
    · obtain rfl : u = W.joinL (W.mergeL la lb) := by have := hu.out; unfold W.unionM at this; rw [hga'.out, hgb] at this; exact this.symm
      have hlen : (W.mergeL la lb).length = n + n' := by
        rw [(W.merge_facts _ la lb 0 rfl (W.srt_of_good la (-1) (by omega) hga'.out) (W.srt_of_good lb (-1) (by omega) hgb)).2.2.2, ra.len, rb.len]
      have hlen := Lib.hid hlen
      rename_i hl0; clear hl0
      go_wp2_with fail
      refine (joined_any 37 _ (enters_of Try.func37 (by kernel_rfl) rfl) (W.mergeL la lb) (by rw [hlen.out]; omega) _
        (unionc_iter w.heap.size (w.heap.size + 1) A n c la A' n' c' lb _ ca2 cb2 (by omega) (by omega) (ra.below hbw2) (rb.below hbw2) hn hn')).mono ?_
      rintro e w3 ⟨A3, c3, rfl, r1, r2, r3, r4⟩
      go_wp2_with fail
      go_returns
      exact .mk A3 c3 rfl r1 r2 r3 (hbw2.trans (r4.mono (by omega)))
end Go.Proofs.Ytjbhdfjbockkfaa
