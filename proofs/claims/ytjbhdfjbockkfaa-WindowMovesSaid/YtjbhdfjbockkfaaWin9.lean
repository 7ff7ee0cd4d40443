/-
  Rows that are handed back are new: their block lies above what was there. (joined, Wins once more, with that.)
-/
import Derived.Test.YtjbhdfjbockkfaaWin4
namespace Go.Proofs.Ytjbhdfjbockkfaa
open Go.RowKit B Go.Shelf
set_option linter.unusedVariables false
set_option linter.unusedSimpArgs false
namespace B
def RetNew1 (w : World) (l : List (Int × Int)) (e : Ending) (w' : World) : Prop :=
  ∃ A c, e = .returned (.slice A l.length c) ∧ Rd w' 2 pairE A l.length l ∧ l.length ≤ c ∧ c ≤ 9223372036854775807 ∧ Below w.heap.size w w' ∧ ∀ a, A = some a → w.heap.size ≤ a.block
def RetNew2 (w : World) (l : List (Int × Int)) (x : Int) (e : Ending) (w' : World) : Prop :=
  ∃ A c, e = .returned (.tuple #[.slice A l.length c, .int .i64 x]) ∧ Rd w' 2 pairE A l.length l ∧ l.length ≤ c ∧ c ≤ 9223372036854775807 ∧ Below w.heap.size w w' ∧ ∀ a, A = some a → w.heap.size ≤ a.block
theorem RetNew1.mk {w w' : World} {l : List (Int × Int)} {e : Ending} (A : Option Addr) (c : Nat) (h : e = .returned (.slice A l.length c)) (r : Rd w' 2 pairE A l.length l) (hc : l.length ≤ c) (hc2 : c ≤ 9223372036854775807) (hb : Below w.heap.size w w')
    (hn : ∀ a, A = some a → w.heap.size ≤ a.block) : RetNew1 w l e w' := ⟨A, c, h, r, hc, hc2, hb, hn⟩
theorem RetNew2.mk {w w' : World} {l : List (Int × Int)} {x : Int} {e : Ending} (A : Option Addr) (c : Nat) (h : e = .returned (.tuple #[.slice A l.length c, .int .i64 x])) (r : Rd w' 2 pairE A l.length l) (hc : l.length ≤ c) (hc2 : c ≤ 9223372036854775807) (hb : Below w.heap.size w w')
    (hn : ∀ a, A = some a → w.heap.size ≤ a.block) : RetNew2 w l x e w' := ⟨A, c, h, r, hc, hc2, hb, hn⟩
end B
set_option maxHeartbeats 1000000
section
attribute [local go_sem] Oper.semAt_some
theorem joined_new (gf : Nat) (lb : Array Value) (eg : ∀ args w, (callFunc gf args).run Try.prog w = .ok (.enter gf args) w) (l : W.Row) (hl : l.length ≤ 1099511627776) (w : World)
    (hit : Iter Try.prog gf lb winV l (fun k => k < w.heap.size) (fun _ => False) w) :
    Calls Try.prog 35 #[.func (.func gf) #[] lb] w fun e w' => RetNew1 w (W.joinL l) e w' := by
  refine (callsIn_wide (n := 0)).1 (callsIn_of_wp_marks Try.func35 rfl trivial ?_ rfl)
  simp only [Try.ntmps35, List.size_toArray, List.length_cons, List.length_nil, Nat.reduceAdd, Nat.reduceSub, Array.replicate_succ, Array.replicate_zero, List.push_toArray, List.append_toArray, List.nil_append, List.cons_append]
  gi_wp2
  refine wpIn_rangeFunc_iter rfl eg hit ((Below.refl _ _).alloc (Nat.le_refl _) _) (fun k h => by simp; omega) (fun _ h => h.elim) (JInv w w.heap.size) (fun _ _ _ _ => False) (fun _ _ _ _ _ h hs => h.step hs) (fun _ _ _ _ _ _ h _ => h)
    ⟨.slice none 0 0, alloc_one _ _ _, World.ownsRow_nil _ _ _ _, fun h => h, fun _ h => (by cases h), fun _ h => h.elim, (Below.refl _ _).alloc (Nat.le_refl _) _, fun _ => rfl⟩ ?body ?done ?stop
  case body =>
    rintro L pre ⟨p, q⟩ S V hpre hJ hN hSlt
    dsimp only [winV]
    gi_wp2
    refine ⟨(Turn.refl _ V).alloc _, fun V2 hT hsz => ?_⟩
    have hT2 : Step S S V V2 := (Step.same ((Turn.refl S V).alloc (.cells #[.int .i64 p, .int .i64 q] 29))).trans (.same hT)
    have hJ2 := hJ.step hT2
    obtain ⟨v, g1, g2, g3, g4, g5, g6, g7⟩ := hJ2
    have hc1 := cell_of_one g1
    have hf1 := free_of_one g1
    have hnS : ¬ S V.heap.size := fun h => by have := hSlt _ h; omega
    have hw0 : V2.heap[V.heap.size]? = some (.cells #[.int .i64 p, .int .i64 q] 29 (0, 0)) := (hT.block _ (by simp) hnS).trans (heap_alloc_new V _)
    have hc2 := cell_of_row V2 _ 0 _ _ _ hw0
    have hc3 := cell_of_row V2 _ 1 _ _ _ hw0
    simp only [List.getElem?_toArray, List.getElem?_cons_zero, List.getElem?_cons_succ] at hc2 hc3
    rcases List.eq_nil_or_concat (W.joinL pre) with hnil | ⟨i, ⟨a, b⟩, hcat⟩
    · obtain rfl := g7 hnil
      · gi_wp2
        refine quiet_round (by kernel_rfl) (by kernel_rfl) (by kernel_rfl) (fun _ _ h => h) ?_
        repeat (go_big_quiet_step (fail))
        refine wpQuiet_nil ?_
        rintro _ ⟨nq, rfl⟩
        have hSlt2 : ∀ k, S k → k < V2.heap.size := fun k hk => by have := hSlt k hk; have := hT2.turn.size; omega
        obtain ⟨g, c, w1, hrun, own1, hgr, hg⟩ := append_one (enc := pairE) Try.underlying22 Try.infoWin rfl (by decide) pairE_len (fun x u hu => by simp [pairE] at hu; rcases hu with rfl | rfl <;> rfl)
          (V2.drewN nq) (w.heap.size + 1) (.slice none 0 0) [] (p, q) (World.ownsRow_nil _ _ _ _) (by simp) (by decide) (by have := (Array.getElem?_eq_some_iff.1 g1).1; simp; omega)
        have hpush := JInv.push (n := 0) (xs := []) g1 (World.ownsRow_nil _ _ _ _) g3 g4 g5 g6 hSlt2 (by rw [W.joinL_snoc, hnil]; rfl : W.joinL (pre ++ [(p, q)]) = [] ++ [(p, q)]) own1 hgr (by simpa using hg)
        simp only [pairE, List.length_nil, Nat.zero_add, World.heap_drewN] at hrun hpush
        obtain ⟨hd0, hpush1, hpush2⟩ := hpush
        have hd1 := cell_of_one hd0
        have hd2 := free_of_one hd0
        gi_wp2_with (gi_at_builtin; refine wpListIn_append_run rfl _ _ _ rfl rfl rfl hrun ?_)
        exact ⟨hpush1, hpush2⟩
    · rw [List.concat_eq_append] at hcat
      have hSlt2 : ∀ k, S k → k < V2.heap.size := fun k hk => by have := hSlt k hk; have := hT2.turn.size; omega
      have hKl : (W.joinL pre).length = i.length + 1 := by rw [hcat]; simp
      have hKb : i.length + 2 ≤ 1099511627776 := by have := W.joinL_len pre; have := hpre.length_le; simp at this; omega
      rw [hKl] at g2
      obtain ⟨g0, cap, rfl⟩ := ownsRow_succ g2
      have e1 := g2.cellAt (i.length * 2) (by omega)
      have e2 := g2.cellAt (i.length * 2 + 1) (by omega)
      rw [hcat, flatMap_at pairE_len (i ++ [(a, b)]) i.length (a, b) (by simp) 1 _ rfl] at e2
      have e3 := flatMap_at pairE_len (i ++ [(a, b)]) i.length (a, b) (by simp) 0 _ rfl
      rw [Nat.add_zero] at e3
      rw [hcat, e3] at e1
      clear e3
      have e4 := g2.frozenAt (i.length * 2 + 1)
      obtain ⟨K, hK⟩ : ∃ K, i.length = K := ⟨_, rfl⟩
      rw [hK] at g1 g2 hc1 e1 e2 e4 hKb
      by_cases hin : p ≤ b
      · gi_wp2
        refine quiet_round (by kernel_rfl) (by kernel_rfl) (by kernel_rfl) (fun _ _ h => h) ?_
        repeat (go_big_quiet_step (fail))
        refine wpQuiet_nil ?_
        rintro _ ⟨nq, rfl⟩
        gi_wp2
        have hput := fun u hu nq => JInv.put (x := (p, q)) (u := u) (nq := nq) (i := i) (by rw [hK]; exact g1) (by rw [hK]; exact g2) g3 (by rw [hK]; exact g4) g5 g6 hcat hu
        rw [hK] at hput
        have hput2 := Lib.hid hput
        have hjn : Hid (W.joinL (pre ++ [(p, q)]) = i ++ [(a, max b q)]) := by show _ = _; rw [W.joinL_snoc, hcat]; exact W.joinStep_in _ _ _ hin
        clear hput g4 g7 hcat hKl
        have hKK : (K : Int) < (K : Int) + 1 := by omega
        refine tail_roundN 12 (by kernel_rfl) (by kernel_rfl) (by kernel_rfl) (fun _ _ h => h) ?_
        simp only [List.take_succ_cons, List.take_zero, List.drop_succ_cons, List.drop_zero]
        repeat still_step
        try refine wpStill_nil ?_
        go_wp2
        all_goals first
          | exact hput2.out b (by rw [hjn.out, show max b q = b by omega]) _
          | exact hput2.out q (by rw [hjn.out, show max b q = q by omega]) _
      · have hpb : b < p := by omega
        clear hin
        have hKK : (K : Int) < (K : Int) + 1 := by omega
        gi_wp2
        refine quiet_round (by kernel_rfl) (by kernel_rfl) (by kernel_rfl) (fun _ _ h => h) ?_
        repeat (go_big_quiet_step (fail))
        refine wpQuiet_nil ?_
        rintro _ ⟨nq, rfl⟩
        obtain ⟨g, c, w1, hrun, own1, hgr, hg⟩ := append_one (enc := pairE) Try.underlying22 Try.infoWin rfl (by decide) pairE_len (fun x u hu => by simp [pairE] at hu; rcases hu with rfl | rfl <;> rfl)
          (V2.drewN nq) (w.heap.size + 1) (.slice (some ⟨g0, 0, none⟩) (K + 1) cap) (i ++ [(a, b)]) (p, q) (by rw [← hcat, hKl, hK]; exact g2) (by simp [hK]; omega) (by decide) (by have := (Array.getElem?_eq_some_iff.1 g1).1; simp; omega)
        have hpush := JInv.push g1 g2 g3 (by rw [← hK]; exact g4) g5 g6 hSlt2 (by rw [W.joinL_snoc, hcat]; exact W.joinStep_out _ _ _ hpb : W.joinL (pre ++ [(p, q)]) = (i ++ [(a, b)]) ++ [(p, q)]) own1 hgr (by simpa using hg)
        have hil : (i ++ [(a, b)]).length = K + 1 := by simp [hK]
        simp only [pairE, hil, World.heap_drewN] at hrun hpush
        obtain ⟨hd0, hpush1, hpush2⟩ := hpush
        have hd1 := cell_of_one hd0
        have hd2 := free_of_one hd0
        clear g4 g7 hcat hKl hil hK
        gi_wp2_with (gi_at_builtin; refine wpListIn_append_run rfl _ _ _ rfl rfl rfl hrun ?_)
        exact ⟨hpush1, hpush2⟩
  case done =>
    rintro D S V hSD hD ⟨v, g1, g2, g3, g4, g5, g6, g7⟩ hDd
    obtain ⟨A, c, rfl, r1, r2, r3⟩ := Rd.of_own pairE_len rfl g2
    have hc1 := cell_of_one g1
    have hf1 := free_of_one g1
    have hnD : D ≠ w.heap.size := fun e => g3 (e ▸ hSD)
    have hlt := (Array.getElem?_eq_some_iff.1 g1).1
    have hDl := (Array.getElem?_eq_some_iff.1 hDd).1
    clear g4 g5 g7
    gi_wp2
    obtain ⟨U1, hU1⟩ : ∃ U1, V.setCell ⟨w.heap.size, 0, none⟩ (.slice A (List.length (W.joinL l)) c) = U1 := ⟨_, rfl⟩
    rw [hU1]
    have hDd1 : U1.heap[D]? = some (.deferred (some [])) := by rw [← hU1]; exact (Below.heap_setCell _ _ _ _ hnD).trans hDd
    have hb1 : U1.heap[w.heap.size]? = some (.cells #[.slice A (List.length (W.joinL l)) c] 22 (0, 0)) := by rw [← hU1]; exact one_setCell g1
    have ho1 : U1.ownsRow (w.heap.size + 1) 29 2 (.slice A (List.length (W.joinL l)) c) (List.length (W.joinL l)) ((W.joinL l).flatMap pairE) := by rw [← hU1]; exact ownsRow_setCell_below g2 (by simp) _
    have hT1 : Below w.heap.size w U1 := by rw [← hU1]; exact g6.setCell (by simp) _
    obtain ⟨U2, hU2⟩ : ∃ U2, U1.putObj D (.deferred none) = U2 := ⟨_, rfl⟩
    have hb2 : U2.heap[w.heap.size]? = some (.cells #[.slice A (List.length (W.joinL l)) c] 22 (0, 0)) := by rw [← hU2]; exact (World.putObj_heap_other (Ne.symm hnD)).trans hb1
    have ho2 : U2.ownsRow (w.heap.size + 1) 29 2 (.slice A (List.length (W.joinL l)) c) (List.length (W.joinL l)) ((W.joinL l).flatMap pairE) := by
      rw [← hU2]; exact ownsRow_putObj ho1 _ hDd1 rfl
    have hT2 : Below w.heap.size w U2 := by
      rw [← hU2]
      exact hT1.grown (grownBy_putObj' U1 D _) hT1.size (fun k e => by cases e; simp at hD; omega)
    have hc2 := cell_of_one hb2
    obtain ⟨A', c', he, r1', _, _⟩ := Rd.of_own pairE_len rfl ho2
    cases he
    refine ⟨by simp, .inl ⟨_, _, rfl, run_takeDeferred hDd1, ?_⟩⟩
    rw [hU2]
    exact ⟨_, by simp [results, Try.results35, go_sem, hc2], .mk A c rfl r1' r2 r3 hT2 (fun a ha => by have := (ho2.lt a.block (by rw [ha]; rfl)).1; omega)⟩
  case stop => exact fun _ _ _ _ _ _ _ _ h _ => h.elim
end
theorem wins_new (f v n h : Int) (w : World) :
    Calls Try.prog 15 #[.agg #[.int .i64 f, .int .i64 v, .int .i64 n], .int .i64 h] w fun e w' => RetNew2 w (winsM f v n h).1 (winsM f v n h).2 e w' := by
  obtain ⟨r, hr⟩ : ∃ r, winsM f v n h = r := ⟨_, rfl⟩
  rw [hr]
  have hr := Lib.hid hr
  rename_i hr0; clear hr0
  go_enter Try.func15, Try.ntmps15
  go_wp2_with fail
  refine (check_any f v n _).mono ?_; rintro e w1 ⟨rfl, hb1⟩
  have hbw : Below w.heap.size w w1 := ((Below.refl _ w).alloc (Nat.le_refl _) _).trans (hb1.mono (by simp))
  have hsz1 : w.heap.size < w1.heap.size := by have := hb1.size; simp at this; omega
  by_cases h1 : W.chkT f v n = 0
  · have hh1 := Lib.hid h1
    go_wp2_with fail
    refine (tcheck_any h _).mono ?_; rintro e w2 ⟨rfl, rfl⟩
    by_cases h2 : W.chk h = 0
    · have hh2 := Lib.hid h2
      have c1 : w1.cell? ⟨w.heap.size, 0, none⟩ = some (.int .i64 f) := (hb1.cell (p := ⟨w.heap.size, 0, none⟩) (by simp)).trans (by simp [go_sem])
      have c2 : w1.cell? ⟨w.heap.size, 1, none⟩ = some (.int .i64 v) := (hb1.cell (p := ⟨w.heap.size, 1, none⟩) (by simp)).trans (by simp [go_sem])
      have c3 : w1.cell? ⟨w.heap.size, 2, none⟩ = some (.int .i64 n) := (hb1.cell (p := ⟨w.heap.size, 2, none⟩) (by simp)).trans (by simp [go_sem])
      go_wp2_with fail
      refine (count_any f v h _).mono ?_; rintro e w2 ⟨rfl, rfl⟩
      obtain ⟨hf0, hv0, hn0⟩ := chkT_zero hh1.out
      by_cases h3 : 256 < W.count f v h
      · obtain rfl : r = ([], 3) := by have := hr.out; unfold winsM at this; rw [if_neg (by simp [hh1.out]), if_neg (by simp [hh2.out]), if_pos h3] at this; exact this.symm
        go_wp2_with fail
        go_ret2
        exact .mk none 0 rfl Rd.nil (Nat.le_refl _) (by omega) hbw (fun a ha => by cases ha)
      · obtain ⟨m, hm⟩ : ∃ m : Nat, W.count f v h = m := ⟨(W.count f v h).toNat, by rw [Int.toNat_of_nonneg (count_nonneg _ _ _)]⟩
        obtain rfl : r = (W.joinL (eachL f v n m), 0) := by
          have := hr.out; unfold winsM at this; rw [if_neg (by simp [hh1.out]), if_neg (by simp [hh2.out]), if_neg h3, hm] at this; exact this.symm
        rw [hm] at h3 ⊢
        have hm3 : m ≤ 256 := by omega
        clear hm
        go_wp2_with fail
        refine (each_any f v n m _).mono ?_; rintro e w2 ⟨rfl, rfl⟩
        go_wp2_with fail
        refine (joined_new 48 _ (enters_of Try.func48 (by kernel_rfl) rfl) (eachL f v n m) (by rw [eachL_len]; omega) _ (each_iter f v n m (w1.heap.size + 1) w1.heap.size _ _ hm3 hf0 hv0 hn0 (by simp) (by simp; omega) (by simp; omega) (by simp [go_sem]) (by simp [go_sem]) (by simp [go_sem]) (by simp [go_sem]))).mono ?_
        rintro e w2 ⟨A, c, rfl, r1, r2, r3, r4, r5⟩
        go_wp2_with fail
        go_ret2
        exact .mk A c rfl r1 r2 r3 (hbw.trans ((((Below.refl _ w1).alloc (Nat.le_refl _) _).alloc (by simp) _).mono (by omega) |>.trans (r4.mono (by simp; omega)))) (fun a ha => by have := r5 a ha; simp at this; omega)
    · obtain rfl : r = ([], W.chk h) := by have := hr.out; unfold winsM at this; rw [if_neg (by simp [hh1.out]), if_pos h2] at this; exact this.symm
      have hne : (W.chk h != 0) = true := by simp [h2]
      go_wp2_with fail
      go_ret2
      exact .mk none 0 rfl Rd.nil (Nat.le_refl _) (by omega) hbw (fun a ha => by cases ha)
  · obtain rfl : r = ([], W.chkT f v n) := by have := hr.out; unfold winsM at this; rw [if_pos h1] at this; exact this.symm
    have hne : (W.chkT f v n != 0) = true := by simp [h1]
    go_wp2_with fail
    go_ret2
    exact .mk none 0 rfl Rd.nil (Nat.le_refl _) (by omega) hbw (fun a ha => by cases ha)
end Go.Proofs.Ytjbhdfjbockkfaa
