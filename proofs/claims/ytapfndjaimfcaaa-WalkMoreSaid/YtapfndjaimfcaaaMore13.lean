/-
  Walk: timetablelaw13.WalkMore (gen10.py).
-/
import Derived.Test.YtapfndjaimfcaaaMoreG
import Derived.Test.YtapfndjaimfcaaaHead
namespace Go.Proofs.Ytapfndjaimfcaaa
open Go.RowKit Go.Shelf B K
set_option linter.unusedVariables false
set_option linter.unusedSimpArgs false
set_option maxHeartbeats 8000000
set_option maxRecDepth 100000 in
theorem lawMore_any (n : Int) (A : Option Addr) (m c : Nat) (l : List Ed) (p1 p2 p3 by_ : Int) (w : World) (hr : Rd w 3 tripE A m l) (hcap : m ≤ c) (b3 : -9223372036854775808 ≤ by_ ∧ by_ ≤ 9223372036854775807) :
    Calls Try.prog 7 #[.int .i64 n, .slice A m c, .agg #[.int .i64 p1, .int .i64 p2, .int .i64 p3], .int .i64 by_] w fun e w' => e = .returned (.bool true) ∧ Below w.heap.size w w' := by
  have hb0 := (Below.refl _ w).alloc (Nat.le_refl w.heap.size) (.cells #[.int .i64 p1, .int .i64 p2, .int .i64 p3] 32)
  have bx := Bx3.new w 32 p1 p2 p3
  obtain ⟨W0, hW0⟩ : ∃ q, w.alloc (.cells #[.int .i64 p1, .int .i64 p2, .int .i64 p3] 32) = q := ⟨_, rfl⟩
  obtain ⟨ob, hob⟩ : ∃ q, w.heap.size = q := ⟨_, rfl⟩
  rw [hW0] at hb0 bx
  rw [hob] at bx
  have r0 := Lib.hid (hr.below hb0)
  have bx0 := Lib.hid bx
  have hb0h := Lib.hid hb0
  have hlm := Lib.hid hr.len
  clear hr hb0 bx
  go_enter Try.func7, Try.ntmps7
  go_wp2_with fail
  refine (lives13_any _).mono ?_; rintro e w1 ⟨rfl, hb1⟩
  have r1 := Lib.hid (r0.out.below hb1)
  have bx1 := Lib.hid (bx0.out.below hb1)
  have hbw1 := Lib.hid (hb0h.out.trans (hb1.mono hb0h.out.size))
  clear hb1 r0 bx0 hb0h
  by_cases h1 : 60 < m
  · have hd1 : decide ((60 : Int) < (m : Int)) = true := decide_eq_true (by omega)
    go_wp2_with fail
    go_returns
    exact ⟨rfl, hbw1.out⟩
  have hd1 : decide ((60 : Int) < (m : Int)) = false := decide_eq_false (by omega)
  by_cases h2 : n < 1
  · have hd2 : decide (n < 1) = true := decide_eq_true h2
    go_wp2_with fail
    go_returns
    exact ⟨rfl, hbw1.out⟩
  have hd2 : decide (n < 1) = false := decide_eq_false h2
  by_cases h3 : 30 < n
  · have hd3 : decide (30 < n) = true := decide_eq_true h3
    go_wp2_with fail
    go_returns
    exact ⟨rfl, hbw1.out⟩
  have hd3 : decide (30 < n) = false := decide_eq_false h3
  obtain ⟨N, rfl⟩ : ∃ N : Nat, n = N := ⟨n.toNat, by omega⟩
  have hC := Lib.hid (chk_any N A m c l w1 r1.out (by omega))
  by_cases hc : chkE (N : Int) l = 0
  rotate_left
  · obtain ⟨q, hq⟩ : ∃ q, chkE (N : Int) l = q := ⟨_, rfl⟩
    rw [hq] at hC hc
    have hd : (q != 0) = true := by simpa using hc
    clear hq
    go_wp2_with (go_at_call 15; refine hC.out.mono ?_; rintro e w2 ⟨rfl, hb2⟩)
    go_returns
    exact ⟨rfl, hbw1.out.trans (hb2.mono hbw1.out.size)⟩
  rw [hc] at hC
  have hch := Lib.hid hc
  have hE := Lib.hid (eds_ok hc)
  clear hc
  have hN1 : 1 ≤ N := by omega
  have hN30 : N ≤ 30 := by omega
  go_wp2_with (go_at_call 15; with_reducible refine hC.out.mono ?_; rintro e w2 ⟨rfl, hb2⟩; have bx2 := bx1.out.below hb2; have o0 := bx2.c0; have o1c := bx2.c1; have o2c := bx2.c2)
  have hC2 := Lib.hid (chk_any N (some ⟨w2.heap.size, 0, none⟩) 1 1 [(p1, p2, p3)] (w2.alloc (.cells #[.int .i64 p1, .int .i64 p2, .int .i64 p3] 32)) (rd_trip (heap_alloc_new w2 _)) (by decide))
  have ha3 : Below w2.heap.size w2 (w2.alloc (.cells #[.int .i64 p1, .int .i64 p2, .int .i64 p3] 32)) := (Below.refl _ w2).alloc (Nat.le_refl _) _
  have hb23 := hb2.trans (ha3.mono hb2.size)
  by_cases hc2 : chkE (N : Int) [(p1, p2, p3)] = 0
  rotate_left
  · obtain ⟨q, hq⟩ : ∃ q, chkE (N : Int) [(p1, p2, p3)] = q := ⟨_, rfl⟩
    rw [hq] at hC2 hc2
    have hd : (q != 0) = true := by simpa using hc2
    clear hq
    refine hC2.out.mono ?_; rintro e w4 ⟨rfl, hb4⟩
    have hb24 := hb23.trans (hb4.mono hb23.size)
    go_wp2_with fail
    go_returns
    exact ⟨rfl, hbw1.out.trans (hb24.mono hbw1.out.size)⟩
  rw [hc2] at hC2
  have hOne := Lib.hid (eds_ok hc2)
  refine hC2.out.mono ?_; rintro e w4 ⟨rfl, hb4⟩
  have hb24 := hb23.trans (hb4.mono hb23.size)
  have hbw4 := Lib.hid (hbw1.out.trans (hb24.mono hbw1.out.size))
  have r4 := Lib.hid (r1.out.below hb24)
  have bx4 := Lib.hid (bx1.out.below hb24)
  clear hC hC2 hb2 ha3 hb23 hb24 hb4 bx2 o0 o1c o2c hc2 r1 bx1 hbw1
  have hA4 := Lib.hid (All_ok (c := c) N r4.out (by omega) hch.out)
  go_wp2_with fail
  refine hA4.out.mono ?_; rintro e w5 ⟨Aa, ca, La, rfl, hRa, hLa, hb5⟩
  obtain ⟨Da, hDa, hIa⟩ := hLa.rows hRa.len
  have hRa5 := Lib.hid hRa
  have hDa5 := Lib.hid hDa
  have hIah := Lib.hid hIa
  have r5 := Lib.hid (r4.out.below hb5)
  have bx5 := Lib.hid (bx4.out.below hb5)
  have hbw5 := Lib.hid (hbw4.out.trans (hb5.mono hbw4.out.size))
  have o0 := bx5.out.c0
  have o1c := bx5.out.c1
  have o2c := bx5.out.c2
  have zob := bx5.out.lt
  have hck : Hid (chkE (N : Int) (l ++ [(p1, p2, p3)]) = 0) := chk_of (eds_append hE.out hOne.out) (by rw [List.length_append, hlm.out]; simp; omega) (by omega)
  clear hA4 hRa hLa hDa hIa hb5 r4 bx4 hbw4
  go_upto_region 6 with fail
  refine wp_region_ghost (fun fl x w => GA w5 N (l) ([(p1, p2, p3)]) (fl 2) (fl 4) (fl 5) (fl 6) (fl 7) (fl 8) (fl 10) (x 2) (x 4) (x 5) (x 6) (x 7) (x 8) (x 10) w) (by kernel_rfl) (by kernel_rfl) (by kernel_rfl) (by kernel_rfl) (by kernel_rfl) ?_ ?_
  · intro x0
    exact GA.start rfl rfl rfl rfl rfl rfl (fun h => by cases h)
  intro base O hbase hO
  have kx0 : Hid (∀ xs, evX base O xs (.tmp 0) = .int .i64 (N : Int)) := fun xs => by rw [hbase, hO]; rfl
  have kx1 : Hid (∀ xs, evX base O xs (.tmp 1) = .slice A m c) := fun xs => by rw [hbase, hO]; rfl
  have kx6 : Hid (∀ xs, evX base O xs (.tmp 6) = .pointer (some ⟨ob, 0, none⟩)) := fun xs => by rw [hbase, hO]; rfl
  have kx53 : Hid (∀ xs, evX base O xs (.tmp 53) = xs 7) := fun xs => by rw [hO]; rfl
  have kx54 : Hid (∀ xs, evX base O xs (.tmp 54) = xs 0) := fun xs => by rw [hO]; rfl
  have kx55 : Hid (∀ xs, evX base O xs (.tmp 55) = xs 1) := fun xs => by rw [hO]; rfl
  have kx56 : Hid (∀ xs, evX base O xs (.tmp 56) = xs 2) := fun xs => by rw [hO]; rfl
  have kx57 : Hid (∀ xs, evX base O xs (.tmp 57) = xs 3) := fun xs => by rw [hO]; rfl
  have kx58 : Hid (∀ xs, evX base O xs (.tmp 58) = xs 4) := fun xs => by rw [hO]; rfl
  have kx59 : Hid (∀ xs, evX base O xs (.tmp 59) = xs 5) := fun xs => by rw [hO]; rfl
  have kx60 : Hid (∀ xs, evX base O xs (.tmp 60) = xs 6) := fun xs => by rw [hO]; rfl
  have kx61 : Hid (∀ xs, evX base O xs (.tmp 61) = xs 8) := fun xs => by rw [hO]; rfl
  have kx62 : Hid (∀ xs, evX base O xs (.tmp 62) = xs 9) := fun xs => by rw [hO]; rfl
  clear hbase hO
  apply gh_det (n := 0)
  · intro fl xs w ev hG hD hl hdone hev K hK
    have e0 := (hev (.tmp 0)).trans (kx0.out xs)
    rw [if_pos (wantedX_none rfl)]
    have ef : ∀ f, ev (.func f) = .func (.func f) #[] #[] := fun f => (hev _).trans rfl
    clear hev hD
    go_simp
    exact hK _ _ rfl hG
  apply gh_det (n := 1)
  · intro fl xs w ev hG hD hl hdone hev K hK
    have e1 := (hev (.tmp 1)).trans (kx1.out xs)
    rw [if_pos (wantedX_none rfl)]
    have ef : ∀ f, ev (.func f) = .func (.func f) #[] #[] := fun f => (hev _).trans rfl
    clear hev hD
    go_simp
    exact hK _ _ rfl hG
  refine gh_any (n := 2) (fun _ => True) ?_ ?_
  · intro fl xs w ev hG hD hl hdone hev K hK
    have e55 := (hev (.tmp 55)).trans (kx55.out xs)
    have d1 := hD.at_ 1 rfl rfl
    replace e55 := e55.trans d1
    rw [if_pos (wantedX_none rfl)]
    have ef : ∀ f, ev (.func f) = .func (.func f) #[] #[] := fun f => (hev _).trans rfl
    clear hev hD
    go_simp
    refine (ownE_any A m c l _ (r5.out.below hG.bel) (by omega)).mono ?_; rintro e w' ⟨v, rfl, own, hb1⟩
    rw [← r5.out.len] at own
    exact ⟨_, rfl, hK _ _ trivial (hG.ownS hl own hb1)⟩
  apply gh_det (n := 3)
  · intro fl xs w ev hG hD hl hdone hev K hK
    have e6 := (hev (.tmp 6)).trans (kx6.out xs)
    rw [if_pos (wantedX_none rfl)]
    have ef : ∀ f, ev (.func f) = .func (.func f) #[] #[] := fun f => (hev _).trans rfl
    clear hev hD
    have m0 := (hG.bel.cell (p := ⟨ob, 0, none⟩) zob).trans o0
    have m1 := (hG.bel.cell (p := ⟨ob, 1, none⟩) zob).trans o1c
    have m2 := (hG.bel.cell (p := ⟨ob, 2, none⟩) zob).trans o2c
    go_simp
    exact hK _ _ rfl hG
  refine gh_any (n := 4) (fun _ => True) ?_ ?_
  · intro fl xs w ev hG hD hl hdone hev K hK
    have e57 := (hev (.tmp 57)).trans (kx57.out xs)
    have d3 := hD.at_ 3 rfl rfl
    replace e57 := e57.trans d3
    rw [if_pos (wantedX_none rfl)]
    have ef : ∀ f, ev (.func f) = .func (.func f) #[] #[] := fun f => (hev _).trans rfl
    clear hev hD
    go_simp
    exact hK _ _ trivial (hG.litS hl)
  refine gh_any (n := 5) (fun _ => True) ?_ ?_
  · intro fl xs w ev hG hD hl hdone hev K hK
    have e56 := (hev (.tmp 56)).trans (kx56.out xs)
    have e58 := (hev (.tmp 58)).trans (kx58.out xs)
    rw [if_pos (wantedX_none rfl)]
    have ef : ∀ f, ev (.func f) = .func (.func f) #[] #[] := fun f => (hev _).trans rfl
    clear hev hD
    have own := hG.own (done_of hdone 2 rfl) hl
    obtain ⟨A5, m5, c5, e5, r5⟩ := hG.lit (done_of hdone 4 rfl) hl
    rw [e5] at e58
    obtain rfl := r5.len
    obtain ⟨v', w1', hrun, own1, hgr, hnew⟩ := own_append (enc := tripE) Try.underlying22 infoEdge rfl (by decide) tripE_len tripE_one c5 own r5 (by simp only [List.length_drop, List.length_take, List.length_cons, List.length_nil]; have := hlm.out; omega) (by decide) hG.bel.size
    rw [← List.length_append] at own1
    exact outcome_append (.tmp 56) (.tmp 58) 22 rfl e56 e58 hrun (hK _ _ trivial (hG.appS hl (done_of hdone 2 rfl) (done_of hdone 4 rfl) own1 ((Below.refl _ w).grown hgr hG.bel.size fun g hg => (own.lt g hg).1)))
  refine gh_any (n := 6) (fun _ => True) ?_ ?_
  · intro fl xs w ev hG hD hl hdone hev K hK
    have e54 := (hev (.tmp 54)).trans (kx54.out xs)
    have d0 := hD.at_ 0 rfl rfl
    replace e54 := e54.trans d0
    have e59 := (hev (.tmp 59)).trans (kx59.out xs)
    rw [if_pos (wantedX_none rfl)]
    have ef : ∀ f, ev (.func f) = .func (.func f) #[] #[] := fun f => (hev _).trans rfl
    clear hev hD
    have own := hG.app (done_of hdone 5 rfl) hl
    obtain ⟨n7, hn7⟩ : ∃ n7, (l ++ [(p1, p2, p3)]).length = n7 := ⟨_, rfl⟩
    rw [hn7] at own
    obtain ⟨A7, c7, e7, r7, _⟩ := Rd.of_own tripE_len hn7 own
    rw [e7] at e59
    have hm7 : n7 ≤ 1099511627776 := by rw [← hn7]; simp only [List.length_append, List.length_drop, List.length_take, List.length_cons, List.length_nil]; have := hlm.out; omega
    have hA7 := Lib.hid (All_ok (c := c7) N r7 hm7 hck.out)
    clear hn7 own e7 r7 hm7
    go_simp
    refine hA7.out.mono ?_; rintro e w' ⟨A8, c8, L8, rfl, hR8, hL8, hb8⟩
    exact ⟨_, rfl, hK _ _ trivial (hG.allS hl (done_of hdone 5 rfl) hR8 hL8 hb8)⟩
  refine gh_any (n := 7) (fun _ => True) ?_ ?_
  · intro fl xs w ev hG hD hl hdone hev K hK
    have e60 := (hev (.tmp 60)).trans (kx60.out xs)
    rw [if_pos (wantedX_none rfl)]
    have ef : ∀ f, ev (.func f) = .func (.func f) #[] #[] := fun f => (hev _).trans rfl
    clear hev hD
    go_simp
    exact hK _ _ trivial (hG.mvS (done_of hdone 6 rfl))
  refine gh_any (n := 8) (fun _ => True) ?_ ?_
  · intro fl xs w ev hG hD hl hdone hev K hK
    have e53 := (hev (.tmp 53)).trans (kx53.out xs)
    rw [if_pos (wantedX_none rfl)]
    have ef : ∀ f, ev (.func f) = .func (.func f) #[] #[] := fun f => (hev _).trans rfl
    clear hev hD
    obtain ⟨A7, c7, e7, hG7⟩ := hG.tup (done_of hdone 7 rfl)
    rw [e7] at e53
    go_simp
    exact hK _ _ trivial hG7
  apply gh_det (n := 9)
  · intro fl xs w ev hG hD hl hdone hev K hK
    have e53 := (hev (.tmp 53)).trans (kx53.out xs)
    rw [if_pos (wantedX_none rfl)]
    have ef : ∀ f, ev (.func f) = .func (.func f) #[] #[] := fun f => (hev _).trans rfl
    clear hev hD
    obtain ⟨A7, c7, e7, hG7⟩ := hG.tup (done_of hdone 7 rfl)
    rw [e7] at e53
    go_simp
    exact hK _ _ rfl hG
  refine gh_any (n := 10) (fun _ => True) ?_ ?_
  · intro fl xs w ev hG hD hl hdone hev K hK
    have e61 := (hev (.tmp 61)).trans (kx61.out xs)
    rw [if_pos (wantedX_none rfl)]
    have ef : ∀ f, ev (.func f) = .func (.func f) #[] #[] := fun f => (hev _).trans rfl
    clear hev hD
    obtain ⟨A7, c7, e7, hG7⟩ := hG.asS (done_of hdone 8 rfl)
    rw [e7] at e61
    go_simp
    exact hK _ _ trivial hG7
  apply gh_det (n := 11)
  · intro fl xs w ev hG hD hl hdone hev K hK
    have e62 := (hev (.tmp 62)).trans (kx62.out xs)
    have d9 := hD.at_ 9 rfl rfl
    replace e62 := e62.trans d9
    rw [if_pos (wantedX_none rfl)]
    have ef : ∀ f, ev (.func f) = .func (.func f) #[] #[] := fun f => (hev _).trans rfl
    clear hev hD
    go_simp
    exact hK _ _ rfl hG
  clear kx0 kx1 kx6 kx53 kx54 kx55 kx56 kx57 kx58 kx59 kx60 kx61 kx62
  intro xs w9 hG hI
  have hz := hI 11 _ rfl
  obtain ⟨A9, c9, L9, e9, hR9, hL9, hb9⟩ := hG.fin rfl
  clear hG hI
  simp only [List.append_eq, List.cons_append, List.nil_append, setAll, List.setIfInBounds_toArray, List.set_cons_zero, List.set_cons_succ]
  rw [hz, e9]
  clear hz e9
  obtain ⟨Db, hDb, hIb⟩ := hL9.rows hR9.len
  obtain ⟨Ab, hAb⟩ : ∃ q, A9 = q := ⟨_, rfl⟩
  obtain ⟨cb, hcb⟩ : ∃ q, c9 = q := ⟨_, rfl⟩
  obtain ⟨w6, hw6⟩ : ∃ q, w9 = q := ⟨_, rfl⟩
  rw [hAb] at hR9 ⊢
  rw [hcb]
  rw [hw6] at hR9 hDb hb9 ⊢
  have hRb6 := Lib.hid hR9
  have hDb6 := Lib.hid hDb
  have hIbh := Lib.hid hIb
  have hRa6 := Lib.hid (hRa5.out.below hb9)
  have hDa6 := Lib.hid (hDa5.out.below hb9)
  have r6 := Lib.hid (r5.out.below hb9)
  have bx6 := Lib.hid (bx5.out.below hb9)
  have hbw6 := Lib.hid (hbw5.out.trans (hb9.mono hbw5.out.size))
  clear hR9 hDb hIb hL9 hb9 hAb hcb hw6 hRa5 hDa5 r5 bx5 hbw5 o0 o1c o2c zob hck
  have hP := Lib.hid (pick_any by_ ((m : Int) + 1) w6 (by omega) b3)
  go_wp2_with fail
  refine hP.out.mono ?_; rintro e w7 ⟨k, rfl, hk, hb7⟩
  have hk : k ≤ m := by omega
  have hRb7 := Lib.hid (hRb6.out.below hb7)
  have hDb7 := Lib.hid (hDb6.out.below hb7)
  have hRa7 := Lib.hid (hRa6.out.below hb7)
  have hDa7 := Lib.hid (hDa6.out.below hb7)
  have r7 := Lib.hid (r6.out.below hb7)
  have bx7 := Lib.hid (bx6.out.below hb7)
  have hbw7 := Lib.hid (hbw6.out.trans (hb7.mono hbw6.out.size))
  have rA := Lib.hid (r7.out.drop (k := k) hk hcap)
  have rB := Lib.hid (r7.out.take (k := k) hk)
  clear hP hb7 hRb6 hDb6 hRa6 hDa6 r6 bx6 hbw6 b3
  have hh : ∀ W, (Instr.slice 22 (.slice A m c) none (some (.int .i64 (k : Int))) none).run Try.prog W = .ok (.slice A k c) W := fun W => by
    have := run_head (P := Try.prog) (t := 22) (e := 32) (s := 3) Try.underlying22 (by kernel_rfl) (fun W => by simp [go_sem]) A m c k (by omega) .i64 W
    rwa [cutA_zero] at this
  have hd := fun W => run_cut (P := Try.prog) (t := 22) (e := 32) (s := 3) Try.underlying22 (by kernel_rfl) (fun W => by simp [go_sem]) A m c k hk .i64 W
  have hET := Lib.hid (fun e he => hE.out e ((mem_turn k e).2 he) : EdsOk N (l.drop k ++ l.take k))
  have hck : Hid (chkE (N : Int) (l.drop k ++ l.take k) = 0) := chk_of hET.out (by rw [List.length_append, List.length_drop, List.length_take, hlm.out]; omega) (by omega)
  go_upto_region 8 with fail
  refine wp_region_ghost (fun fl x w => GA w7 N (l.drop k) (l.take k) (fl 4) true (fl 8) (fl 9) (fl 10) (fl 11) (fl 13) (x 4) (.slice A k c) (x 8) (x 9) (x 10) (x 11) (x 13) w) (by kernel_rfl) (by kernel_rfl) (by kernel_rfl) (by kernel_rfl) (by kernel_rfl) ?_ ?_
  · intro x0
    exact GA.start rfl rfl rfl rfl rfl rfl (fun _ => ⟨_, _, _, rfl, rB.out⟩)
  intro base O hbase hO
  have kx0 : Hid (∀ xs, evX base O xs (.tmp 0) = .int .i64 (N : Int)) := fun xs => by rw [hbase, hO]; rfl
  have kx1 : Hid (∀ xs, evX base O xs (.tmp 1) = .slice A m c) := fun xs => by rw [hbase, hO]; rfl
  have kx3 : Hid (∀ xs, evX base O xs (.tmp 3) = .int .i64 (k : Int)) := fun xs => by rw [hbase, hO]; rfl
  have kx68 : Hid (∀ xs, evX base O xs (.tmp 68) = xs 10) := fun xs => by rw [hO]; rfl
  have kx69 : Hid (∀ xs, evX base O xs (.tmp 69) = xs 0) := fun xs => by rw [hO]; rfl
  have kx70 : Hid (∀ xs, evX base O xs (.tmp 70) = xs 1) := fun xs => by rw [hO]; rfl
  have kx71 : Hid (∀ xs, evX base O xs (.tmp 71) = xs 2) := fun xs => by rw [hO]; rfl
  have kx72 : Hid (∀ xs, evX base O xs (.tmp 72) = xs 3) := fun xs => by rw [hO]; rfl
  have kx73 : Hid (∀ xs, evX base O xs (.tmp 73) = xs 4) := fun xs => by rw [hO]; rfl
  have kx74 : Hid (∀ xs, evX base O xs (.tmp 74) = xs 5) := fun xs => by rw [hO]; rfl
  have kx75 : Hid (∀ xs, evX base O xs (.tmp 75) = xs 6) := fun xs => by rw [hO]; rfl
  have kx76 : Hid (∀ xs, evX base O xs (.tmp 76) = xs 7) := fun xs => by rw [hO]; rfl
  have kx77 : Hid (∀ xs, evX base O xs (.tmp 77) = xs 8) := fun xs => by rw [hO]; rfl
  have kx78 : Hid (∀ xs, evX base O xs (.tmp 78) = xs 9) := fun xs => by rw [hO]; rfl
  have kx79 : Hid (∀ xs, evX base O xs (.tmp 79) = xs 11) := fun xs => by rw [hO]; rfl
  have kx80 : Hid (∀ xs, evX base O xs (.tmp 80) = xs 12) := fun xs => by rw [hO]; rfl
  clear hbase hO
  apply gh_det (n := 0)
  · intro fl xs w ev hG hD hl hdone hev K hK
    have e0 := (hev (.tmp 0)).trans (kx0.out xs)
    rw [if_pos (wantedX_none rfl)]
    have ef : ∀ f, ev (.func f) = .func (.func f) #[] #[] := fun f => (hev _).trans rfl
    clear hev hD
    go_simp
    exact hK _ _ rfl hG
  apply gh_det (n := 1)
  · intro fl xs w ev hG hD hl hdone hev K hK
    have e1 := (hev (.tmp 1)).trans (kx1.out xs)
    rw [if_pos (wantedX_none rfl)]
    have ef : ∀ f, ev (.func f) = .func (.func f) #[] #[] := fun f => (hev _).trans rfl
    clear hev hD
    go_simp
    exact hK _ _ rfl hG
  apply gh_det (n := 2)
  · intro fl xs w ev hG hD hl hdone hev K hK
    have e3 := (hev (.tmp 3)).trans (kx3.out xs)
    rw [if_pos (wantedX_none rfl)]
    have ef : ∀ f, ev (.func f) = .func (.func f) #[] #[] := fun f => (hev _).trans rfl
    clear hev hD
    go_simp
    exact hK _ _ rfl hG
  apply gh_det (n := 3)
  · intro fl xs w ev hG hD hl hdone hev K hK
    have e70 := (hev (.tmp 70)).trans (kx70.out xs)
    have d1 := hD.at_ 1 rfl rfl
    replace e70 := e70.trans d1
    have e71 := (hev (.tmp 71)).trans (kx71.out xs)
    have d2 := hD.at_ 2 rfl rfl
    replace e71 := e71.trans d2
    rw [if_pos (wantedX_none rfl)]
    have ef : ∀ f, ev (.func f) = .func (.func f) #[] #[] := fun f => (hev _).trans rfl
    clear hev hD
    go_simp
    exact hK _ _ rfl hG
  refine gh_any (n := 4) (fun _ => True) ?_ ?_
  · intro fl xs w ev hG hD hl hdone hev K hK
    have e72 := (hev (.tmp 72)).trans (kx72.out xs)
    have d3 := hD.at_ 3 rfl rfl
    replace e72 := e72.trans d3
    rw [if_pos (wantedX_none rfl)]
    have ef : ∀ f, ev (.func f) = .func (.func f) #[] #[] := fun f => (hev _).trans rfl
    clear hev hD
    go_simp
    refine (ownE_any (cutA A c k 3) (m - k) (c - k) (l.drop k) _ (rA.out.below hG.bel) (by omega)).mono ?_; rintro e w' ⟨v, rfl, own, hb1⟩
    rw [← rA.out.len] at own
    exact ⟨_, rfl, hK _ _ trivial (hG.ownS hl own hb1)⟩
  apply gh_det (n := 5)
  · intro fl xs w ev hG hD hl hdone hev K hK
    have e1 := (hev (.tmp 1)).trans (kx1.out xs)
    rw [if_pos (wantedX_none rfl)]
    have ef : ∀ f, ev (.func f) = .func (.func f) #[] #[] := fun f => (hev _).trans rfl
    clear hev hD
    go_simp
    exact hK _ _ rfl hG
  apply gh_det (n := 6)
  · intro fl xs w ev hG hD hl hdone hev K hK
    have e3 := (hev (.tmp 3)).trans (kx3.out xs)
    rw [if_pos (wantedX_none rfl)]
    have ef : ∀ f, ev (.func f) = .func (.func f) #[] #[] := fun f => (hev _).trans rfl
    clear hev hD
    go_simp
    exact hK _ _ rfl hG
  apply gh_det (n := 7)
  · intro fl xs w ev hG hD hl hdone hev K hK
    have e74 := (hev (.tmp 74)).trans (kx74.out xs)
    have d5 := hD.at_ 5 rfl rfl
    replace e74 := e74.trans d5
    have e75 := (hev (.tmp 75)).trans (kx75.out xs)
    have d6 := hD.at_ 6 rfl rfl
    replace e75 := e75.trans d6
    rw [if_pos (wantedX_none rfl)]
    have ef : ∀ f, ev (.func f) = .func (.func f) #[] #[] := fun f => (hev _).trans rfl
    clear hev hD
    go_simp
    exact hK _ _ rfl hG
  refine gh_any (n := 8) (fun _ => True) ?_ ?_
  · intro fl xs w ev hG hD hl hdone hev K hK
    have e73 := (hev (.tmp 73)).trans (kx73.out xs)
    have e76 := (hev (.tmp 76)).trans (kx76.out xs)
    have d7 := hD.at_ 7 rfl rfl
    replace e76 := e76.trans d7
    rw [if_pos (wantedX_none rfl)]
    have ef : ∀ f, ev (.func f) = .func (.func f) #[] #[] := fun f => (hev _).trans rfl
    clear hev hD
    have own := hG.own (done_of hdone 4 rfl) hl
    obtain ⟨A5, m5, c5, e5, r5⟩ := hG.lit rfl hl
    have e5b := e76.symm.trans (e76.trans e5)
    obtain rfl := r5.len
    replace e76 := e76.trans e5
    obtain ⟨v', w1', hrun, own1, hgr, hnew⟩ := own_append (enc := tripE) Try.underlying22 infoEdge rfl (by decide) tripE_len tripE_one c5 own r5 (by simp only [List.length_drop, List.length_take, List.length_cons, List.length_nil]; have := hlm.out; omega) (by decide) hG.bel.size
    rw [← List.length_append] at own1
    exact outcome_append (.tmp 73) (.tmp 76) 22 rfl e73 e76 hrun (hK _ _ trivial (hG.appS hl (done_of hdone 4 rfl) rfl own1 ((Below.refl _ w).grown hgr hG.bel.size fun g hg => (own.lt g hg).1)))
  refine gh_any (n := 9) (fun _ => True) ?_ ?_
  · intro fl xs w ev hG hD hl hdone hev K hK
    have e69 := (hev (.tmp 69)).trans (kx69.out xs)
    have d0 := hD.at_ 0 rfl rfl
    replace e69 := e69.trans d0
    have e77 := (hev (.tmp 77)).trans (kx77.out xs)
    rw [if_pos (wantedX_none rfl)]
    have ef : ∀ f, ev (.func f) = .func (.func f) #[] #[] := fun f => (hev _).trans rfl
    clear hev hD
    have own := hG.app (done_of hdone 8 rfl) hl
    obtain ⟨n7, hn7⟩ : ∃ n7, (l.drop k ++ l.take k).length = n7 := ⟨_, rfl⟩
    rw [hn7] at own
    obtain ⟨A7, c7, e7, r7, _⟩ := Rd.of_own tripE_len hn7 own
    rw [e7] at e77
    have hm7 : n7 ≤ 1099511627776 := by rw [← hn7]; simp only [List.length_append, List.length_drop, List.length_take, List.length_cons, List.length_nil]; have := hlm.out; omega
    have hA7 := Lib.hid (All_ok (c := c7) N r7 hm7 hck.out)
    clear hn7 own e7 r7 hm7
    go_simp
    refine hA7.out.mono ?_; rintro e w' ⟨A8, c8, L8, rfl, hR8, hL8, hb8⟩
    exact ⟨_, rfl, hK _ _ trivial (hG.allS hl (done_of hdone 8 rfl) hR8 hL8 hb8)⟩
  refine gh_any (n := 10) (fun _ => True) ?_ ?_
  · intro fl xs w ev hG hD hl hdone hev K hK
    have e78 := (hev (.tmp 78)).trans (kx78.out xs)
    rw [if_pos (wantedX_none rfl)]
    have ef : ∀ f, ev (.func f) = .func (.func f) #[] #[] := fun f => (hev _).trans rfl
    clear hev hD
    go_simp
    exact hK _ _ trivial (hG.mvS (done_of hdone 9 rfl))
  refine gh_any (n := 11) (fun _ => True) ?_ ?_
  · intro fl xs w ev hG hD hl hdone hev K hK
    have e68 := (hev (.tmp 68)).trans (kx68.out xs)
    rw [if_pos (wantedX_none rfl)]
    have ef : ∀ f, ev (.func f) = .func (.func f) #[] #[] := fun f => (hev _).trans rfl
    clear hev hD
    obtain ⟨A7, c7, e7, hG7⟩ := hG.tup (done_of hdone 10 rfl)
    rw [e7] at e68
    go_simp
    exact hK _ _ trivial hG7
  apply gh_det (n := 12)
  · intro fl xs w ev hG hD hl hdone hev K hK
    have e68 := (hev (.tmp 68)).trans (kx68.out xs)
    rw [if_pos (wantedX_none rfl)]
    have ef : ∀ f, ev (.func f) = .func (.func f) #[] #[] := fun f => (hev _).trans rfl
    clear hev hD
    obtain ⟨A7, c7, e7, hG7⟩ := hG.tup (done_of hdone 10 rfl)
    rw [e7] at e68
    go_simp
    exact hK _ _ rfl hG
  refine gh_any (n := 13) (fun _ => True) ?_ ?_
  · intro fl xs w ev hG hD hl hdone hev K hK
    have e79 := (hev (.tmp 79)).trans (kx79.out xs)
    rw [if_pos (wantedX_none rfl)]
    have ef : ∀ f, ev (.func f) = .func (.func f) #[] #[] := fun f => (hev _).trans rfl
    clear hev hD
    obtain ⟨A7, c7, e7, hG7⟩ := hG.asS (done_of hdone 11 rfl)
    rw [e7] at e79
    go_simp
    exact hK _ _ trivial hG7
  apply gh_det (n := 14)
  · intro fl xs w ev hG hD hl hdone hev K hK
    have e80 := (hev (.tmp 80)).trans (kx80.out xs)
    have d12 := hD.at_ 12 rfl rfl
    replace e80 := e80.trans d12
    rw [if_pos (wantedX_none rfl)]
    have ef : ∀ f, ev (.func f) = .func (.func f) #[] #[] := fun f => (hev _).trans rfl
    clear hev hD
    go_simp
    exact hK _ _ rfl hG
  clear kx0 kx1 kx3 kx68 kx69 kx70 kx71 kx72 kx73 kx74 kx75 kx76 kx77 kx78 kx79 kx80
  intro xs w9 hG hI
  have hz := hI 14 _ rfl
  obtain ⟨A9, c9, L9, e9, hR9, hL9, hb9⟩ := hG.fin rfl
  clear hG hI
  simp only [List.append_eq, List.cons_append, List.nil_append, setAll, List.setIfInBounds_toArray, List.set_cons_zero, List.set_cons_succ]
  rw [hz, e9]
  clear hz e9
  clear hh hd hck
  obtain ⟨Dc, hDc, hIc⟩ := hL9.rows hR9.len
  have hac : ∀ i, i < N → Dc i = Da i := fun i hi => (hIc i hi).uniq hET.out ((hIah.out i hi).mem (mem_turn k))
  have hDc : RowsD w9 N Da L9 := fun i fb hx => by
    have hi : i < N := by rw [← hR9.len]; exact (List.getElem?_eq_some_iff.1 hx).1
    rw [← hac i hi]; exact hDc i fb hx
  obtain ⟨Ac, hAc⟩ : ∃ q, A9 = q := ⟨_, rfl⟩
  obtain ⟨cc, hcc⟩ : ∃ q, c9 = q := ⟨_, rfl⟩
  obtain ⟨wo, hwo⟩ : ∃ q, w9 = q := ⟨_, rfl⟩
  rw [hAc] at hR9 ⊢
  rw [hcc]
  rw [hwo] at hR9 hDc hb9 ⊢
  have hRc8 := Lib.hid hR9
  have hDc8 := Lib.hid hDc
  have hRb8 := Lib.hid (hRb7.out.below hb9)
  have hDb8 := Lib.hid (hDb7.out.below hb9)
  have hRa8 := Lib.hid (hRa7.out.below hb9)
  have hDa8 := Lib.hid (hDa7.out.below hb9)
  have r8 := Lib.hid (r7.out.below hb9)
  have bx8 := Lib.hid (bx7.out.below hb9)
  have hbw8 := Lib.hid (hbw7.out.trans (hb9.mono hbw7.out.size))
  clear hR9 hDc hIc hL9 hb9 hAc hcc hwo hac hRb7 hDb7 hRa7 hDa7 r7 bx7 hbw7 rA rB hET
  have hO := Lib.hid (ownE_any A m c l wo r8.out (by omega))
  go_wp2_with fail
  refine hO.out.mono ?_; rintro e wp ⟨v, rfl, own, hbp⟩
  rw [← hlm.out] at own
  obtain ⟨A2, c2, rfl, _, _, _⟩ := Rd.of_own (enc := tripE) tripE_len rfl own
  have ownh := Lib.hid own
  have hbph := Lib.hid hbp
  clear own hbp hO
  have hll : l.length = m := hlm.out
  rw [hll] at ownh
  obtain ⟨hbm, hbme⟩ : ∃ q, (.slice A2 l.length c2 : Value) = q := ⟨_, rfl⟩
  rw [hll] at hbme ⊢
  rw [hbme] at ownh
  go_wp2_with fail
  rw [← hll] at ownh
  clear hll
  go_loopw [15, 16] (fun v i wr => ∃ (k : Nat), k ≤ m ∧ i = .int .i64 k ∧ Hid (wr.ownsRow wo.heap.size 32 3 v (l ++ (l.take k).map revE).length ((l ++ (l.take k).map revE).flatMap tripE) ∧ Below wo.heap.size wo wr)) (fun _ i _ => m - (intOf i).toNat)
  case atStart => exact ⟨0, Nat.zero_le _, rfl, by rw [List.take_zero, List.map_nil, List.append_nil]; exact ownh.out, hbph.out⟩
  case round =>
    clear ownh hbph
    obtain ⟨k, hk, rfl, hH⟩ := hrel
    obtain ⟨own, hbr⟩ := hH.out
    clear hH
    by_cases hlt : k < m
    · obtain ⟨b, o, x1, x2, x3, rfl, hbs, hx, p1', p2', p3'⟩ := r8.out.trip hlt
      have q1 := (hbr.cell (p := ⟨b, o + k * 3, none⟩) hbs).trans p1'
      have q2 := (hbr.cell (p := ⟨b, o + k * 3 + 1, none⟩) hbs).trans p2'
      have q3 := (hbr.cell (p := ⟨b, o + k * 3 + 2, none⟩) hbs).trans p3'
      have hkm : (k : Int) < (m : Int) := by omega
      have ownh := Lib.hid own
      have hbrh := Lib.hid hbr
      have hxh := Lib.hid hx
      have hbase : wo.heap.size ≤ wr.heap.size := hbr.size
      have hlen : Hid ((l ++ (l.take k).map revE).length + 1 ≤ 1099511627776) := by
        have := hlm.out
        show (l ++ (l.take k).map revE).length + 1 ≤ 1099511627776
        simp; omega
      clear own hbr hx p1' p2' p3'
      go_wp2_with fail
      go_upto_region 13 with fail
      refine wp_region_ghost2 (fun fl x w => GB wr wo.heap.size u15 (l ++ (l.take k).map revE) (x2, x1, x3) (fl 0) (fl 17) (fl 18) (fl 19) (x 17) (x 18) (x 19) w) (by kernel_rfl) (by kernel_rfl) (by kernel_rfl) (by kernel_rfl) (by kernel_rfl) ?_ ?_
      · intro x0 hx0
        exact GB.start rfl rfl rfl (hx0 19 15 rfl) ownh.out
      intro base O hbase hO
      have kx1 : Hid (∀ xs, evX base O xs (.tmp 1) = .slice (some ⟨b, o, none⟩) m c) := fun xs => by rw [hbase, hO]; rfl
      have kx15 : Hid (∀ xs, evX base O xs (.tmp 15) = xs 19) := fun xs => by rw [hO]; rfl
      have kx16 : Hid (∀ xs, evX base O xs (.tmp 16) = .int .i64 (k : Int)) := fun xs => by rw [hbase, hO]; rfl
      have kx89 : Hid (∀ xs, evX base O xs (.tmp 89) = xs 0) := fun xs => by rw [hO]; rfl
      have kx90 : Hid (∀ xs, evX base O xs (.tmp 90) = xs 1) := fun xs => by rw [hO]; rfl
      have kx91 : Hid (∀ xs, evX base O xs (.tmp 91) = xs 2) := fun xs => by rw [hO]; rfl
      have kx92 : Hid (∀ xs, evX base O xs (.tmp 92) = xs 3) := fun xs => by rw [hO]; rfl
      have kx93 : Hid (∀ xs, evX base O xs (.tmp 93) = xs 4) := fun xs => by rw [hO]; rfl
      have kx94 : Hid (∀ xs, evX base O xs (.tmp 94) = xs 5) := fun xs => by rw [hO]; rfl
      have kx95 : Hid (∀ xs, evX base O xs (.tmp 95) = xs 6) := fun xs => by rw [hO]; rfl
      have kx96 : Hid (∀ xs, evX base O xs (.tmp 96) = xs 7) := fun xs => by rw [hO]; rfl
      have kx97 : Hid (∀ xs, evX base O xs (.tmp 97) = xs 8) := fun xs => by rw [hO]; rfl
      have kx98 : Hid (∀ xs, evX base O xs (.tmp 98) = xs 9) := fun xs => by rw [hO]; rfl
      have kx99 : Hid (∀ xs, evX base O xs (.tmp 99) = xs 10) := fun xs => by rw [hO]; rfl
      have kx100 : Hid (∀ xs, evX base O xs (.tmp 100) = xs 11) := fun xs => by rw [hO]; rfl
      have kx101 : Hid (∀ xs, evX base O xs (.tmp 101) = xs 12) := fun xs => by rw [hO]; rfl
      have kx102 : Hid (∀ xs, evX base O xs (.tmp 102) = xs 13) := fun xs => by rw [hO]; rfl
      have kx103 : Hid (∀ xs, evX base O xs (.tmp 103) = xs 14) := fun xs => by rw [hO]; rfl
      have kx104 : Hid (∀ xs, evX base O xs (.tmp 104) = xs 15) := fun xs => by rw [hO]; rfl
      have kx105 : Hid (∀ xs, evX base O xs (.tmp 105) = xs 16) := fun xs => by rw [hO]; rfl
      have kx106 : Hid (∀ xs, evX base O xs (.tmp 106) = xs 17) := fun xs => by rw [hO]; rfl
      have kx107 : Hid (∀ xs, evX base O xs (.tmp 107) = xs 18) := fun xs => by rw [hO]; rfl
      clear hbase hO
      apply gh_det (n := 0)
      · intro fl xs w ev hG hD hl hdone hev K hK
        have e15 := (hev (.tmp 15)).trans (kx15.out xs)
        rw [if_pos (wantedX_none rfl)]
        have ef : ∀ f, ev (.func f) = .func (.func f) #[] #[] := fun f => (hev _).trans rfl
        clear hev hD
        obtain ⟨ev0, hG0⟩ := hG.rdS hl
        rw [ev0] at e15
        go_simp
        exact hK _ _ rfl hG0
      apply gh_det (n := 1)
      · intro fl xs w ev hG hD hl hdone hev K hK
        have e1 := (hev (.tmp 1)).trans (kx1.out xs)
        rw [if_pos (wantedX_none rfl)]
        have ef : ∀ f, ev (.func f) = .func (.func f) #[] #[] := fun f => (hev _).trans rfl
        clear hev hD
        go_simp
        exact hK _ _ rfl hG
      apply gh_det (n := 2)
      · intro fl xs w ev hG hD hl hdone hev K hK
        have e16 := (hev (.tmp 16)).trans (kx16.out xs)
        rw [if_pos (wantedX_none rfl)]
        have ef : ∀ f, ev (.func f) = .func (.func f) #[] #[] := fun f => (hev _).trans rfl
        clear hev hD
        go_simp
        exact hK _ _ rfl hG
      apply gh_det (n := 3)
      · intro fl xs w ev hG hD hl hdone hev K hK
        have e90 := (hev (.tmp 90)).trans (kx90.out xs)
        have d1 := hD.at_ 1 rfl rfl
        replace e90 := e90.trans d1
        have e91 := (hev (.tmp 91)).trans (kx91.out xs)
        have d2 := hD.at_ 2 rfl rfl
        replace e91 := e91.trans d2
        rw [if_pos (wantedX_none rfl)]
        have ef : ∀ f, ev (.func f) = .func (.func f) #[] #[] := fun f => (hev _).trans rfl
        clear hev hD
        go_simp
        exact hK _ _ rfl hG
      apply gh_det (n := 4)
      · intro fl xs w ev hG hD hl hdone hev K hK
        have e92 := (hev (.tmp 92)).trans (kx92.out xs)
        have d3 := hD.at_ 3 rfl rfl
        replace e92 := e92.trans d3
        rw [if_pos (wantedX_none rfl)]
        have ef : ∀ f, ev (.func f) = .func (.func f) #[] #[] := fun f => (hev _).trans rfl
        clear hev hD
        go_simp
        exact hK _ _ rfl hG
      apply gh_det (n := 5)
      · intro fl xs w ev hG hD hl hdone hev K hK
        have e93 := (hev (.tmp 93)).trans (kx93.out xs)
        have d4 := hD.at_ 4 rfl rfl
        replace e93 := e93.trans d4
        rw [if_pos (wantedX_none rfl)]
        have ef : ∀ f, ev (.func f) = .func (.func f) #[] #[] := fun f => (hev _).trans rfl
        clear hev hD
        have m0 := (hG.bel.cell (p := ⟨b, o + k * 3 + 1, none⟩) (Nat.lt_of_lt_of_le hbs (Nat.le_refl _))).trans q2
        go_simp
        exact hK _ _ rfl hG
      apply gh_det (n := 6)
      · intro fl xs w ev hG hD hl hdone hev K hK
        have e1 := (hev (.tmp 1)).trans (kx1.out xs)
        rw [if_pos (wantedX_none rfl)]
        have ef : ∀ f, ev (.func f) = .func (.func f) #[] #[] := fun f => (hev _).trans rfl
        clear hev hD
        go_simp
        exact hK _ _ rfl hG
      apply gh_det (n := 7)
      · intro fl xs w ev hG hD hl hdone hev K hK
        have e16 := (hev (.tmp 16)).trans (kx16.out xs)
        rw [if_pos (wantedX_none rfl)]
        have ef : ∀ f, ev (.func f) = .func (.func f) #[] #[] := fun f => (hev _).trans rfl
        clear hev hD
        go_simp
        exact hK _ _ rfl hG
      apply gh_det (n := 8)
      · intro fl xs w ev hG hD hl hdone hev K hK
        have e95 := (hev (.tmp 95)).trans (kx95.out xs)
        have d6 := hD.at_ 6 rfl rfl
        replace e95 := e95.trans d6
        have e96 := (hev (.tmp 96)).trans (kx96.out xs)
        have d7 := hD.at_ 7 rfl rfl
        replace e96 := e96.trans d7
        rw [if_pos (wantedX_none rfl)]
        have ef : ∀ f, ev (.func f) = .func (.func f) #[] #[] := fun f => (hev _).trans rfl
        clear hev hD
        go_simp
        exact hK _ _ rfl hG
      apply gh_det (n := 9)
      · intro fl xs w ev hG hD hl hdone hev K hK
        have e97 := (hev (.tmp 97)).trans (kx97.out xs)
        have d8 := hD.at_ 8 rfl rfl
        replace e97 := e97.trans d8
        rw [if_pos (wantedX_none rfl)]
        have ef : ∀ f, ev (.func f) = .func (.func f) #[] #[] := fun f => (hev _).trans rfl
        clear hev hD
        go_simp
        exact hK _ _ rfl hG
      apply gh_det (n := 10)
      · intro fl xs w ev hG hD hl hdone hev K hK
        have e98 := (hev (.tmp 98)).trans (kx98.out xs)
        have d9 := hD.at_ 9 rfl rfl
        replace e98 := e98.trans d9
        rw [if_pos (wantedX_none rfl)]
        have ef : ∀ f, ev (.func f) = .func (.func f) #[] #[] := fun f => (hev _).trans rfl
        clear hev hD
        have m0 := (hG.bel.cell (p := ⟨b, o + k * 3, none⟩) (Nat.lt_of_lt_of_le hbs (Nat.le_refl _))).trans q1
        go_simp
        exact hK _ _ rfl hG
      apply gh_det (n := 11)
      · intro fl xs w ev hG hD hl hdone hev K hK
        have e1 := (hev (.tmp 1)).trans (kx1.out xs)
        rw [if_pos (wantedX_none rfl)]
        have ef : ∀ f, ev (.func f) = .func (.func f) #[] #[] := fun f => (hev _).trans rfl
        clear hev hD
        go_simp
        exact hK _ _ rfl hG
      apply gh_det (n := 12)
      · intro fl xs w ev hG hD hl hdone hev K hK
        have e16 := (hev (.tmp 16)).trans (kx16.out xs)
        rw [if_pos (wantedX_none rfl)]
        have ef : ∀ f, ev (.func f) = .func (.func f) #[] #[] := fun f => (hev _).trans rfl
        clear hev hD
        go_simp
        exact hK _ _ rfl hG
      apply gh_det (n := 13)
      · intro fl xs w ev hG hD hl hdone hev K hK
        have e100 := (hev (.tmp 100)).trans (kx100.out xs)
        have d11 := hD.at_ 11 rfl rfl
        replace e100 := e100.trans d11
        have e101 := (hev (.tmp 101)).trans (kx101.out xs)
        have d12 := hD.at_ 12 rfl rfl
        replace e101 := e101.trans d12
        rw [if_pos (wantedX_none rfl)]
        have ef : ∀ f, ev (.func f) = .func (.func f) #[] #[] := fun f => (hev _).trans rfl
        clear hev hD
        go_simp
        exact hK _ _ rfl hG
      apply gh_det (n := 14)
      · intro fl xs w ev hG hD hl hdone hev K hK
        have e102 := (hev (.tmp 102)).trans (kx102.out xs)
        have d13 := hD.at_ 13 rfl rfl
        replace e102 := e102.trans d13
        rw [if_pos (wantedX_none rfl)]
        have ef : ∀ f, ev (.func f) = .func (.func f) #[] #[] := fun f => (hev _).trans rfl
        clear hev hD
        go_simp
        exact hK _ _ rfl hG
      apply gh_det (n := 15)
      · intro fl xs w ev hG hD hl hdone hev K hK
        have e103 := (hev (.tmp 103)).trans (kx103.out xs)
        have d14 := hD.at_ 14 rfl rfl
        replace e103 := e103.trans d14
        rw [if_pos (wantedX_none rfl)]
        have ef : ∀ f, ev (.func f) = .func (.func f) #[] #[] := fun f => (hev _).trans rfl
        clear hev hD
        have m0 := (hG.bel.cell (p := ⟨b, o + k * 3 + 2, none⟩) (Nat.lt_of_lt_of_le hbs (Nat.le_refl _))).trans q3
        go_simp
        exact hK _ _ rfl hG
      apply gh_det (n := 16)
      · intro fl xs w ev hG hD hl hdone hev K hK
        have e94 := (hev (.tmp 94)).trans (kx94.out xs)
        have d5 := hD.at_ 5 rfl rfl
        replace e94 := e94.trans d5
        have e99 := (hev (.tmp 99)).trans (kx99.out xs)
        have d10 := hD.at_ 10 rfl rfl
        replace e99 := e99.trans d10
        have e104 := (hev (.tmp 104)).trans (kx104.out xs)
        have d15 := hD.at_ 15 rfl rfl
        replace e104 := e104.trans d15
        rw [if_pos (wantedX_none rfl)]
        have ef : ∀ f, ev (.func f) = .func (.func f) #[] #[] := fun f => (hev _).trans rfl
        clear hev hD
        go_simp
        exact hK _ _ rfl hG
      refine gh_any (n := 17) (fun _ => True) ?_ ?_
      · intro fl xs w ev hG hD hl hdone hev K hK
        have e105 := (hev (.tmp 105)).trans (kx105.out xs)
        have d16 := hD.at_ 16 rfl rfl
        replace e105 := e105.trans d16
        rw [if_pos (wantedX_none rfl)]
        have ef : ∀ f, ev (.func f) = .func (.func f) #[] #[] := fun f => (hev _).trans rfl
        clear hev hD
        go_simp
        exact hK _ _ trivial (hG.litS hl hbase)
      refine gh_any (n := 18) (fun _ => True) ?_ ?_
      · intro fl xs w ev hG hD hl hdone hev K hK
        have e89 := (hev (.tmp 89)).trans (kx89.out xs)
        have d0 := hD.at_ 0 rfl rfl
        replace e89 := e89.trans d0
        have e106 := (hev (.tmp 106)).trans (kx106.out xs)
        rw [if_pos (wantedX_none rfl)]
        have ef : ∀ f, ev (.func f) = .func (.func f) #[] #[] := fun f => (hev _).trans rfl
        clear hev hD
        obtain ⟨k5, c5, e5, r5⟩ := hG.lit (done_of hdone 17 rfl) hl
        have own := hG.own hl
        rw [e5] at e106
        obtain ⟨v', w1', hrun, own1, hgr, hnew⟩ := own_append (enc := tripE) Try.underlying22 infoEdge rfl (by decide) tripE_len tripE_one c5 own r5 hlen.out (by decide) (Nat.le_trans hbase hG.bel.size)
        rw [show (l ++ (l.take k).map revE).length + 1 = ((l ++ (l.take k).map revE) ++ [(x2, x1, x3)]).length from by simp [Nat.add_assoc]] at own1
        exact outcome_append (.tmp 89) (.tmp 106) 22 rfl e89 e106 hrun (hK _ _ trivial (hG.appS hl (done_of hdone 0 rfl) (done_of hdone 17 rfl) own1 ((Below.refl _ w).grown hgr (Nat.le_trans hbase hG.bel.size) fun g hg => (own.lt g hg).1)))
      refine gh_any (n := 19) (fun _ => True) ?_ ?_
      · intro fl xs w ev hG hD hl hdone hev K hK
        have e107 := (hev (.tmp 107)).trans (kx107.out xs)
        rw [if_pos (wantedX_none rfl)]
        have ef : ∀ f, ev (.func f) = .func (.func f) #[] #[] := fun f => (hev _).trans rfl
        clear hev hD
        have own := hG.app (done_of hdone 18 rfl)
        obtain ⟨A7, c7, e7, _⟩ := Rd.of_own tripE_len rfl own
        have hG0 := hG.asS (done_of hdone 18 rfl)
        generalize ((l ++ (l.take k).map revE) ++ [(x2, x1, x3)]).length = n7 at e7
        rw [e7] at e107
        go_simp
        refine hK _ _ trivial ?_
        rw [← e7]
        exact hG0
      intro xs w9 hG hI
      have own := hG.app rfl
      have e9 := hG.asg rfl
      have hb9 := hG.bel
      clear hG hI
      have hfin : Hid (w9.ownsRow wo.heap.size 32 3 (xs 19) (l ++ (l.take (k + 1)).map revE).length ((l ++ (l.take (k + 1)).map revE).flatMap tripE) ∧ Below wo.heap.size wo w9) := by
        have e : l ++ (l.take (k + 1)).map revE = (l ++ (l.take k).map revE) ++ [(x2, x1, x3)] := by rw [take_at hxh.out, List.map_append, List.append_assoc]; rfl
        rw [e9, e]
        exact ⟨own, hbrh.out.trans hb9⟩
      clear own e9 hb9
      simp only [List.append_eq, List.cons_append, List.nil_append, setAll, List.setIfInBounds_toArray, List.set_cons_zero, List.set_cons_succ]
      go_wp2_with fail
      go_roundw
      case rel => exact ⟨k + 1, by omega, by go_num, hfin.out⟩
      case measure => simp [intOf]; omega
    · obtain rfl : k = m := by omega
      rw [List.take_of_length_le (by rw [hlm.out]; exact Nat.le_refl _)] at own
      have own : wr.ownsRow wo.heap.size 32 3 u15 (bothE l).length ((bothE l).flatMap tripE) := own
      obtain ⟨nb, hnb⟩ : ∃ nb, (bothE l).length = nb := ⟨_, rfl⟩
      have hnb2 : nb ≤ 120 := by rw [← hnb]; unfold bothE; have := hlm.out; simp; omega
      rw [hnb] at own
      obtain ⟨A3, c3, rfl, r3, _, _⟩ := Rd.of_own (enc := tripE) tripE_len hnb own
      have hEB := Lib.hid (eds_both hE.out)
      have hck : chkE (N : Int) (bothE l) = 0 := chk_of hEB.out (by omega) (by omega)
      have hA5 := Lib.hid (All_ok (c := c3) N r3 (by omega) hck)
      have hkm : decide ((k : Int) < (k : Int)) = false := decide_eq_false (by omega)
      have hbrh := Lib.hid hbr
      clear own hnb r3 hck hbr
      go_wp2_with fail
      refine hA5.out.mono ?_; rintro e w9 ⟨Ad, cd, Ld, rfl, hRd, hLd, hb9⟩
      obtain ⟨Dd, hDd, hId⟩ := hLd.rows hRd.len
      have hbo := hbrh.out.trans (hb9.mono hbrh.out.size)
      have hRd9 := Lib.hid hRd
      have hDd9 := Lib.hid hDd
      have hIdh := Lib.hid hId
      have hRa9 := Lib.hid (hRa8.out.below hbo)
      have hDa9 := Lib.hid (hDa8.out.below hbo)
      have hRb9 := Lib.hid (hRb8.out.below hbo)
      have hDb9 := Lib.hid (hDb8.out.below hbo)
      have hS := Lib.hid (lists_any Aa Ac N ca cc La L9 Da w9 hRa9.out (hRc8.out.below hbo) hDa9.out (hDc8.out.below hbo) (by omega))
      have bx9 := Lib.hid (bx8.out.below hbo)
      have hbw9 := Lib.hid (hbw8.out.trans (hbo.mono hbw8.out.size))
      clear hA5 hRd hLd hDd hId hb9 hbo hRa8 hDa8 hRb8 hDb8 hRc8 hDc8 bx8 hbw8 hbrh r8
      have hNN : ((N : Int) != (N : Int)) = false := by simp
      go_wp2_with fail
      refine hS.out.mono ?_; rintro e w10 ⟨rfl, hb10⟩
      have hRd10 := Lib.hid (hRd9.out.below hb10)
      have hDd10 := Lib.hid (hDd9.out.below hb10)
      have hRa10 := Lib.hid (hRa9.out.below hb10)
      have hDa10 := Lib.hid (hDa9.out.below hb10)
      have hRb10 := Lib.hid (hRb9.out.below hb10)
      have hDb10 := Lib.hid (hDb9.out.below hb10)
      have bx10 := Lib.hid (bx9.out.below hb10)
      have hbw10 := Lib.hid (hbw9.out.trans (hb10.mono hbw9.out.size))
      clear hS hb10 hRd9 hDd9 hRa9 hDa9 hRb9 hDb9 bx9 hbw9
      obtain ⟨ba, sa, _, _, rfl, _⟩ := rows_at hRa10.out hDa10.out hN1 hN1
      obtain ⟨bb, sb, _, _, rfl, _⟩ := rows_at hRb10.out hDb10.out hN1 hN1
      obtain ⟨bd, sd, _, _, rfl, _⟩ := rows_at hRd10.out hDd10.out hN1 hN1
      go_wp2_with fail
      go_loopw [19] (fun i wr => ∃ (i1 : Nat), i1 ≤ N ∧ i = .int .i64 i1 ∧ Hid (Below w10.heap.size w10 wr)) (fun i _ => N - (intOf i).toNat)
      case atStart => exact ⟨0, Nat.zero_le _, rfl, Below.refl _ _⟩
      case round =>
        obtain ⟨i, hi, rfl, hbi⟩ := hrel
        by_cases hiN : i < N
        · have hiN2 : (i : Int) < (N : Int) := by omega
          go_wp2_with fail
          go_loopw [20] (fun j wr => ∃ (j1 : Nat), j1 ≤ N ∧ j = .int .i64 j1 ∧ Hid (Below w10.heap.size w10 wr)) (fun j _ => N - (intOf j).toNat)
          case atStart => exact ⟨0, Nat.zero_le _, rfl, hbi.out⟩
          case round =>
            clear hbi
            obtain ⟨j, hj, rfl, hbj⟩ := hrel
            by_cases hjN : j < N
            · have hjN2 : (j : Int) < (N : Int) := by omega
              obtain ⟨_, _, fa, va, ea, zba, zfa, ca1, hva, vac⟩ := rows_at (hRa10.out.below hbj.out) (hDa10.out.below hbj.out) hiN hjN
              cases ea
              obtain ⟨_, _, fb, vb, eb, zbb, zfb, cb1, hvb, vbc⟩ := rows_at (hRb10.out.below hbj.out) (hDb10.out.below hbj.out) hiN hjN
              cases eb
              obtain ⟨_, _, fd, vd, ed, zbd, zfd, cd1, hvd, vdc⟩ := rows_at (hRd10.out.below hbj.out) (hDd10.out.below hbj.out) hiN hjN
              cases ed
              obtain ⟨_, _, fe, ve, ee, _, zfe, ce1, hve, vec⟩ := rows_at (hRd10.out.below hbj.out) (hDd10.out.below hbj.out) hjN hiN
              cases ee
              have t1 := (hIah.out i hiN).more hE.out (hIbh.out i hiN) (fun e he => List.mem_append_left _ he) hva hvb
              have t2 := (hIah.out i hiN).more hE.out (hIdh.out i hiN) (fun e he => List.mem_append_left _ he) hva hvd
              have t3 : vd = ve := sym_eq hEB.out both_rev hIdh.out hvd hve hiN hjN
              have g1 : decide (va < vb) = false := decide_eq_false (by omega)
              have g2 : decide (va < vd) = false := decide_eq_false (by omega)
              have g3 : (vd != ve) = false := by simp [t3]
              clear t1 t2 t3 hva hvb hvd hve
              go_wp2_with fail
              go_upto_region 23 with fail
              refine wp_region_below wr.heap.size (by kernel_rfl) (by kernel_rfl) ?_
              intro C hC
              repeat (go_big_quiet_step (first
                | ((intro _; with_reducible rfl))
                | (intro hc; have m0 := (hc.cell (p := ⟨bb, sb + i, none⟩) zbb).trans cb1; have m1 := (hc.cell (p := ⟨fb, j, none⟩) zfb).trans vbc; have m2 := (hc.cell (p := ⟨ba, sa + i, none⟩) zba).trans ca1; have m3 := (hc.cell (p := ⟨fa, j, none⟩) zfa).trans vac; have m4 := (hc.cell (p := ⟨bd, sd + i, none⟩) zbd).trans cd1; have m5 := (hc.cell (p := ⟨fd, j, none⟩) zfd).trans vdc; have m6 := (hc.cell (p := ⟨bd, sd + j, none⟩) zbd).trans ce1; have m7 := (hc.cell (p := ⟨fe, i, none⟩) zfe).trans vec; simp only [m0, m1, m2, m3, m4, m5, m6, m7, Result.andThen]; exact ⟨trivial, rfl⟩)))
              refine wpQuiet_nil ?_
              intro w9 hb9
              clear hC
              have hfin := Lib.hid (hbj.out.trans (hb9.mono hbj.out.size))
              clear hb9
              go_wp2_with fail
              go_roundw
              case rel => exact ⟨j + 1, by omega, by go_num, hfin.out⟩
              case measure => simp [intOf]; omega
            · obtain rfl : j = N := by omega
              have hjN2 : decide ((j : Int) < (j : Int)) = false := decide_eq_false (by omega)
              go_wp2_with fail
              go_roundw
              case rel => exact ⟨i + 1, by omega, by go_num, hbj.out⟩
              case measure => simp [intOf]; omega
        · obtain rfl : i = N := by omega
          have hiN2 : decide ((i : Int) < (i : Int)) = false := decide_eq_false (by omega)
          obtain ⟨hO1, hO2, hO3, hO4, hO5, hO6, hO7⟩ := hOne.out (p1, p2, p3) (by simp)
          simp only at hO1 hO2 hO3 hO4 hO5 hO6 hO7
          obtain ⟨i1, rfl⟩ : ∃ i1 : Nat, p1 = i1 := ⟨p1.toNat, by omega⟩
          obtain ⟨i2, rfl⟩ : ∃ i2 : Nat, p2 = i2 := ⟨p2.toNat, by omega⟩
          have hi1 : i1 < i := by omega
          have hi2 : i2 < i := by omega
          obtain ⟨_, _, fb, vb, eb, zbb, zfb, cb1, hvb, vbc⟩ := rows_at (hRb10.out.below hbi.out) (hDb10.out.below hbi.out) hi1 hi2
          cases eb
          have bxr := bx10.out.below hbi.out
          have o0 := bxr.c0
          have o1c := bxr.c1
          have o2c := bxr.c2
          have zob := bxr.lt
          have hle := (hIbh.out i1 hi1).rel ((i1 : Int), (i2 : Int), p3) (by simp) i1 i2 0 vb rfl rfl (hIbh.out i1 hi1).s0 hvb (by simp only; omega)
          simp only at hle
          have g1 : decide (vb ≤ p3) = true := decide_eq_true (by omega)
          clear bxr hle hvb
          go_wp2_with fail
          go_upto_region 25 with fail
          refine wp_region_below wr.heap.size (by kernel_rfl) (by kernel_rfl) ?_
          intro C hC
          repeat (go_big_quiet_step (first
            | ((intro _; with_reducible rfl))
            | (intro hc; have m0 := (hc.cell (p := ⟨ob, 0, none⟩) zob).trans o0; have m1 := (hc.cell (p := ⟨ob, 1, none⟩) zob).trans o1c; have m2 := (hc.cell (p := ⟨ob, 2, none⟩) zob).trans o2c; have m3 := (hc.cell (p := ⟨bb, sb + i1, none⟩) zbb).trans cb1; have m4 := (hc.cell (p := ⟨fb, i2, none⟩) zfb).trans vbc; simp only [m0, m1, m2, m3, m4, Result.andThen]; exact ⟨trivial, rfl⟩)))
          refine wpQuiet_nil ?_
          intro w9 hb9
          clear hC
          have hfin := Lib.hid (hbw10.out.trans ((hbi.out.trans (hb9.mono hbi.out.size)).mono hbw10.out.size))
          clear hb9
          go_wp2_with fail
          go_returns
          exact ⟨rfl, hfin.out⟩
end Go.Proofs.Ytapfndjaimfcaaa
