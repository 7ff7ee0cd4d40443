/-
  Walks: the reference's pairs, Of, triples (gen17.py).
-/
import Derived.Test.YtibeoiphjkgekaaGreatRef22A
import Derived.Test.YtibeoiphjkgekaaGreatGrow
namespace Go.Proofs.YtibeoiphjkgekaaGreat
open Go.RowKit B K Go.Shelf
set_option linter.unusedVariables false
set_option linter.unusedSimpArgs false
set_option maxHeartbeats 4000000
set_option maxRecDepth 100000 in
theorem rpairs_any (A : Option Addr) (n c : Nat) (l : List P3) (w0 : World) (hr : Rd w0 3 tripE A n l) (hn : n ≤ 1099511627) : Calls Tryz.prog 40 #[.slice A n c] w0 fun e w0' => RetR 2 pairE w0 (l.map Prod.snd) e w0' := by
  have hrh := Lib.hid hr
  have hll := Lib.hid hr.len
  clear hr
  go_enter Tryz.func40, Tryz.ntmps40
  go_wp2_with fail
  go_loopw [3, 4] (fun v i wr => ∃ (k : Nat), k ≤ n ∧ i = .int .i64 k ∧ Hid (∃ La, La = (l.take k).map Prod.snd ∧ wr.ownsRow w0.heap.size 24 2 v La.length (La.flatMap pairE) ∧ Below w0.heap.size w0 wr)) (fun _ i _ => n - (intOf i).toNat)
  case atStart => exact ⟨0, Nat.zero_le _, rfl, [], rfl, World.ownsRow_nil _ _ _ _, Below.refl _ _⟩
  case round =>
    obtain ⟨k, hk, rfl, hH⟩ := hrel
    obtain ⟨La, hLa, own, hbr⟩ := hH.out
    clear hH
    by_cases hlt : k < n
    · obtain ⟨b, o, x1, x2, x3, rfl, hbs, hx, p1, p2, p3⟩ := hrh.out.trip hlt
      have q2 := (hbr.cell (p := ⟨b, o + k * 3 + 1, none⟩) hbs).trans p2
      have q3 := (hbr.cell (p := ⟨b, o + k * 3 + 2, none⟩) hbs).trans p3
      have hkn : (k : Int) < (n : Int) := by omega
      have ownh := Lib.hid own
      have hbrh := Lib.hid hbr
      have hbase : w0.heap.size ≤ wr.heap.size := hbr.size
      have hlen : Hid (La.length + 1 ≤ 1099511627776) := by
        show La.length + 1 ≤ 1099511627776
        have := hll.out
        rw [hLa]; simp; omega
      have hLn : Hid (La ++ [(x2, x3)] = (l.take (k + 1)).map Prod.snd) := by
        show _ = _
        rw [take_at hx, List.map_append, hLa]; rfl
      clear own hbr hx p1 p2 p3 hLa
      go_wp2_with fail
      go_upto_region 5 with fail
      refine wp_region_ghost2 (fun fl x w => GB1 pairE 24 2 wr w0.heap.size u3 La (x2, x3) (fl 0) (fl 12) (fl 13) (fl 14) (x 12) (x 13) (x 14) w) (by kernel_rfl) (by kernel_rfl) (by kernel_rfl) (by kernel_rfl) (by kernel_rfl) ?_ ?_
      · intro x0 hx0
        exact GB1.start rfl rfl rfl (hx0 14 3 rfl) ownh.out
      intro base O hbase hO
      have kx0 : Hid (∀ xs, evX base O xs (.tmp 0) = .slice (some ⟨b, o, none⟩) n c) := fun xs => by rw [hbase, hO]; rfl
      have kx3 : Hid (∀ xs, evX base O xs (.tmp 3) = xs 14) := fun xs => by rw [hO]; rfl
      have kx4 : Hid (∀ xs, evX base O xs (.tmp 4) = .int .i64 (k : Int)) := fun xs => by rw [hbase, hO]; rfl
      have kx11 : Hid (∀ xs, evX base O xs (.tmp 11) = xs 0) := fun xs => by rw [hO]; rfl
      have kx12 : Hid (∀ xs, evX base O xs (.tmp 12) = xs 1) := fun xs => by rw [hO]; rfl
      have kx13 : Hid (∀ xs, evX base O xs (.tmp 13) = xs 2) := fun xs => by rw [hO]; rfl
      have kx14 : Hid (∀ xs, evX base O xs (.tmp 14) = xs 3) := fun xs => by rw [hO]; rfl
      have kx15 : Hid (∀ xs, evX base O xs (.tmp 15) = xs 4) := fun xs => by rw [hO]; rfl
      have kx16 : Hid (∀ xs, evX base O xs (.tmp 16) = xs 5) := fun xs => by rw [hO]; rfl
      have kx17 : Hid (∀ xs, evX base O xs (.tmp 17) = xs 6) := fun xs => by rw [hO]; rfl
      have kx18 : Hid (∀ xs, evX base O xs (.tmp 18) = xs 7) := fun xs => by rw [hO]; rfl
      have kx19 : Hid (∀ xs, evX base O xs (.tmp 19) = xs 8) := fun xs => by rw [hO]; rfl
      have kx20 : Hid (∀ xs, evX base O xs (.tmp 20) = xs 9) := fun xs => by rw [hO]; rfl
      have kx21 : Hid (∀ xs, evX base O xs (.tmp 21) = xs 10) := fun xs => by rw [hO]; rfl
      have kx22 : Hid (∀ xs, evX base O xs (.tmp 22) = xs 11) := fun xs => by rw [hO]; rfl
      have kx23 : Hid (∀ xs, evX base O xs (.tmp 23) = xs 12) := fun xs => by rw [hO]; rfl
      have kx24 : Hid (∀ xs, evX base O xs (.tmp 24) = xs 13) := fun xs => by rw [hO]; rfl
      clear hbase hO
      apply gh_det (n := 0)
      · intro fl xs w ev hG hD hl hdone hev K hK
        have e3 := (hev (.tmp 3)).trans (kx3.out xs)
        rw [if_pos (wantedX_none rfl)]
        have ef : ∀ f, ev (.func f) = .func (.func f) #[] #[] := fun f => (hev _).trans rfl
        clear hev hD
        obtain ⟨ev0, hG0⟩ := hG.rdS hl
        rw [ev0] at e3
        go_simp
        exact hK _ _ rfl hG0
      apply gh_det (n := 1)
      · intro fl xs w ev hG hD hl hdone hev K hK
        have e0 := (hev (.tmp 0)).trans (kx0.out xs)
        rw [if_pos (wantedX_none rfl)]
        have ef : ∀ f, ev (.func f) = .func (.func f) #[] #[] := fun f => (hev _).trans rfl
        clear hev hD
        go_simp
        exact hK _ _ rfl hG
      apply gh_det (n := 2)
      · intro fl xs w ev hG hD hl hdone hev K hK
        have e4 := (hev (.tmp 4)).trans (kx4.out xs)
        rw [if_pos (wantedX_none rfl)]
        have ef : ∀ f, ev (.func f) = .func (.func f) #[] #[] := fun f => (hev _).trans rfl
        clear hev hD
        go_simp
        exact hK _ _ rfl hG
      apply gh_det (n := 3)
      · intro fl xs w ev hG hD hl hdone hev K hK
        have e12 := (hev (.tmp 12)).trans (kx12.out xs)
        have d1 := hD.at_ 1 rfl rfl
        replace e12 := e12.trans d1
        have e13 := (hev (.tmp 13)).trans (kx13.out xs)
        have d2 := hD.at_ 2 rfl rfl
        replace e13 := e13.trans d2
        rw [if_pos (wantedX_none rfl)]
        have ef : ∀ f, ev (.func f) = .func (.func f) #[] #[] := fun f => (hev _).trans rfl
        clear hev hD
        go_simp
        exact hK _ _ rfl hG
      apply gh_det (n := 4)
      · intro fl xs w ev hG hD hl hdone hev K hK
        have e14 := (hev (.tmp 14)).trans (kx14.out xs)
        have d3 := hD.at_ 3 rfl rfl
        replace e14 := e14.trans d3
        rw [if_pos (wantedX_none rfl)]
        have ef : ∀ f, ev (.func f) = .func (.func f) #[] #[] := fun f => (hev _).trans rfl
        clear hev hD
        go_simp
        exact hK _ _ rfl hG
      apply gh_det (n := 5)
      · intro fl xs w ev hG hD hl hdone hev K hK
        have e15 := (hev (.tmp 15)).trans (kx15.out xs)
        have d4 := hD.at_ 4 rfl rfl
        replace e15 := e15.trans d4
        rw [if_pos (wantedX_none rfl)]
        have ef : ∀ f, ev (.func f) = .func (.func f) #[] #[] := fun f => (hev _).trans rfl
        clear hev hD
        have mm := (hG.bel.cell (p := ⟨b, o + k * 3 + 1, none⟩) hbs).trans q2
        go_simp
        exact hK _ _ rfl hG
      apply gh_det (n := 6)
      · intro fl xs w ev hG hD hl hdone hev K hK
        have e0 := (hev (.tmp 0)).trans (kx0.out xs)
        rw [if_pos (wantedX_none rfl)]
        have ef : ∀ f, ev (.func f) = .func (.func f) #[] #[] := fun f => (hev _).trans rfl
        clear hev hD
        go_simp
        exact hK _ _ rfl hG
      apply gh_det (n := 7)
      · intro fl xs w ev hG hD hl hdone hev K hK
        have e4 := (hev (.tmp 4)).trans (kx4.out xs)
        rw [if_pos (wantedX_none rfl)]
        have ef : ∀ f, ev (.func f) = .func (.func f) #[] #[] := fun f => (hev _).trans rfl
        clear hev hD
        go_simp
        exact hK _ _ rfl hG
      apply gh_det (n := 8)
      · intro fl xs w ev hG hD hl hdone hev K hK
        have e17 := (hev (.tmp 17)).trans (kx17.out xs)
        have d6 := hD.at_ 6 rfl rfl
        replace e17 := e17.trans d6
        have e18 := (hev (.tmp 18)).trans (kx18.out xs)
        have d7 := hD.at_ 7 rfl rfl
        replace e18 := e18.trans d7
        rw [if_pos (wantedX_none rfl)]
        have ef : ∀ f, ev (.func f) = .func (.func f) #[] #[] := fun f => (hev _).trans rfl
        clear hev hD
        go_simp
        exact hK _ _ rfl hG
      apply gh_det (n := 9)
      · intro fl xs w ev hG hD hl hdone hev K hK
        have e19 := (hev (.tmp 19)).trans (kx19.out xs)
        have d8 := hD.at_ 8 rfl rfl
        replace e19 := e19.trans d8
        rw [if_pos (wantedX_none rfl)]
        have ef : ∀ f, ev (.func f) = .func (.func f) #[] #[] := fun f => (hev _).trans rfl
        clear hev hD
        go_simp
        exact hK _ _ rfl hG
      apply gh_det (n := 10)
      · intro fl xs w ev hG hD hl hdone hev K hK
        have e20 := (hev (.tmp 20)).trans (kx20.out xs)
        have d9 := hD.at_ 9 rfl rfl
        replace e20 := e20.trans d9
        rw [if_pos (wantedX_none rfl)]
        have ef : ∀ f, ev (.func f) = .func (.func f) #[] #[] := fun f => (hev _).trans rfl
        clear hev hD
        have mm := (hG.bel.cell (p := ⟨b, o + k * 3 + 2, none⟩) hbs).trans q3
        go_simp
        exact hK _ _ rfl hG
      apply gh_det (n := 11)
      · intro fl xs w ev hG hD hl hdone hev K hK
        have e16 := (hev (.tmp 16)).trans (kx16.out xs)
        have d5 := hD.at_ 5 rfl rfl
        replace e16 := e16.trans d5
        have e21 := (hev (.tmp 21)).trans (kx21.out xs)
        have d10 := hD.at_ 10 rfl rfl
        replace e21 := e21.trans d10
        rw [if_pos (wantedX_none rfl)]
        have ef : ∀ f, ev (.func f) = .func (.func f) #[] #[] := fun f => (hev _).trans rfl
        clear hev hD
        go_simp
        exact hK _ _ rfl hG
      refine gh_any (n := 12) (fun _ => True) ?_ ?_
      · intro fl xs w ev hG hD hl hdone hev K hK
        have e22 := (hev (.tmp 22)).trans (kx22.out xs)
        have d11 := hD.at_ 11 rfl rfl
        replace e22 := e22.trans d11
        rw [if_pos (wantedX_none rfl)]
        have ef : ∀ f, ev (.func f) = .func (.func f) #[] #[] := fun f => (hev _).trans rfl
        clear hev hD
        go_simp
        exact hK _ _ trivial (hG.litS hl hbase pairE_len2)
      refine gh_any (n := 13) (fun _ => True) ?_ ?_
      · intro fl xs w ev hG hD hl hdone hev K hK
        have e11 := (hev (.tmp 11)).trans (kx11.out xs)
        have d0 := hD.at_ 0 rfl rfl
        replace e11 := e11.trans d0
        have e23 := (hev (.tmp 23)).trans (kx23.out xs)
        rw [if_pos (wantedX_none rfl)]
        have ef : ∀ f, ev (.func f) = .func (.func f) #[] #[] := fun f => (hev _).trans rfl
        clear hev hD
        obtain ⟨k5, c5, e5, r5⟩ := hG.lit (done_of hdone 12 rfl) hl
        have own := hG.own hl
        rw [e5] at e23
        obtain ⟨v', w1', hrun, own1, hgr, hnew⟩ := own_append (enc := pairE) Tryz.underlying22 infoAPair rfl (by decide) pairE_len2 pairE_one c5 own r5 hlen.out (by decide) (Nat.le_trans hbase hG.bel.size)
        rw [show La.length + 1 = (La ++ [(x2, x3)]).length from by simp] at own1
        exact outcome_append (.tmp 11) (.tmp 23) 22 rfl e11 e23 hrun (hK _ _ trivial (hG.appS hl (done_of hdone 0 rfl) (done_of hdone 12 rfl) own1 ((Below.refl _ w).grown hgr (Nat.le_trans hbase hG.bel.size) fun g hg => (own.lt g hg).1)))
      refine gh_any (n := 14) (fun _ => True) ?_ ?_
      · intro fl xs w ev hG hD hl hdone hev K hK
        have e24 := (hev (.tmp 24)).trans (kx24.out xs)
        rw [if_pos (wantedX_none rfl)]
        have ef : ∀ f, ev (.func f) = .func (.func f) #[] #[] := fun f => (hev _).trans rfl
        clear hev hD
        have own := hG.app (done_of hdone 13 rfl)
        obtain ⟨A7, c7, e7, _⟩ := Rd.of_own pairE_len2 rfl own
        have hG0 := hG.asS (done_of hdone 13 rfl)
        generalize (La ++ [(x2, x3)]).length = n7 at e7
        rw [e7] at e24
        go_simp
        refine hK _ _ trivial ?_
        rw [← e7]
        exact hG0
      clear kx0 kx3 kx4 kx11 kx12 kx13 kx14 kx15 kx16 kx17 kx18 kx19 kx20 kx21 kx22 kx23 kx24
      intro xs w9 hG hI
      have own9 := hG.app rfl
      have e9 := hG.asg rfl
      have hb9 := hG.bel
      clear hG hI
      rw [← e9] at own9
      clear e9
      simp only [List.append_eq, List.cons_append, List.nil_append, setAll, List.setIfInBounds_toArray, List.set_cons_zero, List.set_cons_succ]
      have hfin := Lib.hid (And.intro own9 (hbrh.out.trans hb9))
      clear own9 hb9
      go_wp2_with fail
      go_roundw
      case rel => exact ⟨k + 1, by omega, by go_num, _, hLn.out, hfin.out.1, hfin.out.2⟩
      case measure => simp [intOf]; omega
    · obtain rfl : k = n := by omega
      have hkn : decide ((k : Int) < (k : Int)) = false := decide_eq_false (by omega)
      rw [List.take_of_length_le (by rw [hll.out]; exact Nat.le_refl _)] at hLa
      obtain ⟨A', c', rfl, r1, r2, r3⟩ := Rd.of_own pairE_len2 rfl own
      have r1h := Lib.hid r1
      have hbrh := Lib.hid hbr
      have hLah := Lib.hid hLa
      clear own r1 hbr hLa
      go_wp2_with fail
      go_returns
      rw [← hLah.out]
      exact .mk A' c' rfl r1h.out r2 r3 hbrh.out
set_option maxRecDepth 100000 in
theorem rOf_any (A : Option Addr) (n c : Nat) (l : List P2) (d : Int) (w0 : World) (hr : Rd w0 2 pairE A n l) (hn : n ≤ 1099511627) : Calls Tryz.prog 32 #[.int .i64 d, .slice A n c] w0 fun e w0' => RetR 3 tripE w0 (ofF d l) e w0' := by
  have hrh := Lib.hid hr
  have hll := Lib.hid hr.len
  clear hr
  go_enter Tryz.func32, Tryz.ntmps32
  go_wp2_with fail
  go_loopw [5, 6] (fun v i wr => ∃ (k : Nat), k ≤ n ∧ i = .int .i64 k ∧ Hid (∃ La, La = ofF d (l.take k) ∧ wr.ownsRow w0.heap.size 27 3 v La.length (La.flatMap tripE) ∧ Below w0.heap.size w0 wr)) (fun _ i _ => n - (intOf i).toNat)
  case atStart => exact ⟨0, Nat.zero_le _, rfl, [], rfl, World.ownsRow_nil _ _ _ _, Below.refl _ _⟩
  case round =>
    obtain ⟨k, hk, rfl, hH⟩ := hrel
    obtain ⟨La, hLa, own, hbr⟩ := hH.out
    clear hH
    by_cases hlt : k < n
    · obtain ⟨b, o, x1, x2, rfl, hbs, hx, p1, p2⟩ := hrh.out.pair hlt
      have q1 := (hbr.cell (p := ⟨b, o + k * 2, none⟩) hbs).trans p1
      have q2 := (hbr.cell (p := ⟨b, o + k * 2 + 1, none⟩) hbs).trans p2
      have hkn : (k : Int) < (n : Int) := by omega
      have ownh := Lib.hid own
      have hbrh := Lib.hid hbr
      have hbase : w0.heap.size ≤ wr.heap.size := hbr.size
      have hlen : Hid (La.length + 1 ≤ 1099511627776) := by
        show La.length + 1 ≤ 1099511627776
        have := hll.out
        rw [hLa]; unfold ofF; simp; omega
      have hLn : Hid (La ++ [(d, x1, x2)] = ofF d (l.take (k + 1))) := by
        show _ = _
        unfold ofF at hLa ⊢
        rw [take_at hx, List.map_append, hLa]; rfl
      clear own hbr hx p1 p2 hLa
      go_wp2_with fail
      go_upto_region 5 with fail
      refine wp_region_ghost2 (fun fl x w => GB1 tripE 27 3 wr w0.heap.size u5 La (d, x1, x2) (fl 0) (fl 13) (fl 14) (fl 15) (x 13) (x 14) (x 15) w) (by kernel_rfl) (by kernel_rfl) (by kernel_rfl) (by kernel_rfl) (by kernel_rfl) ?_ ?_
      · intro x0 hx0
        exact GB1.start rfl rfl rfl (hx0 15 5 rfl) ownh.out
      intro base O hbase hO
      have kx0 : Hid (∀ xs, evX base O xs (.tmp 0) = .int .i64 d) := fun xs => by rw [hbase, hO]; rfl
      have kx1 : Hid (∀ xs, evX base O xs (.tmp 1) = .slice (some ⟨b, o, none⟩) n c) := fun xs => by rw [hbase, hO]; rfl
      have kx5 : Hid (∀ xs, evX base O xs (.tmp 5) = xs 15) := fun xs => by rw [hO]; rfl
      have kx6 : Hid (∀ xs, evX base O xs (.tmp 6) = .int .i64 (k : Int)) := fun xs => by rw [hbase, hO]; rfl
      have kx13 : Hid (∀ xs, evX base O xs (.tmp 13) = xs 0) := fun xs => by rw [hO]; rfl
      have kx14 : Hid (∀ xs, evX base O xs (.tmp 14) = xs 1) := fun xs => by rw [hO]; rfl
      have kx15 : Hid (∀ xs, evX base O xs (.tmp 15) = xs 2) := fun xs => by rw [hO]; rfl
      have kx16 : Hid (∀ xs, evX base O xs (.tmp 16) = xs 3) := fun xs => by rw [hO]; rfl
      have kx17 : Hid (∀ xs, evX base O xs (.tmp 17) = xs 4) := fun xs => by rw [hO]; rfl
      have kx18 : Hid (∀ xs, evX base O xs (.tmp 18) = xs 5) := fun xs => by rw [hO]; rfl
      have kx19 : Hid (∀ xs, evX base O xs (.tmp 19) = xs 6) := fun xs => by rw [hO]; rfl
      have kx20 : Hid (∀ xs, evX base O xs (.tmp 20) = xs 7) := fun xs => by rw [hO]; rfl
      have kx21 : Hid (∀ xs, evX base O xs (.tmp 21) = xs 8) := fun xs => by rw [hO]; rfl
      have kx22 : Hid (∀ xs, evX base O xs (.tmp 22) = xs 9) := fun xs => by rw [hO]; rfl
      have kx23 : Hid (∀ xs, evX base O xs (.tmp 23) = xs 10) := fun xs => by rw [hO]; rfl
      have kx24 : Hid (∀ xs, evX base O xs (.tmp 24) = xs 11) := fun xs => by rw [hO]; rfl
      have kx25 : Hid (∀ xs, evX base O xs (.tmp 25) = xs 12) := fun xs => by rw [hO]; rfl
      have kx26 : Hid (∀ xs, evX base O xs (.tmp 26) = xs 13) := fun xs => by rw [hO]; rfl
      have kx27 : Hid (∀ xs, evX base O xs (.tmp 27) = xs 14) := fun xs => by rw [hO]; rfl
      clear hbase hO
      apply gh_det (n := 0)
      · intro fl xs w ev hG hD hl hdone hev K hK
        have e5 := (hev (.tmp 5)).trans (kx5.out xs)
        rw [if_pos (wantedX_none rfl)]
        have ef : ∀ f, ev (.func f) = .func (.func f) #[] #[] := fun f => (hev _).trans rfl
        clear hev hD
        obtain ⟨ev0, hG0⟩ := hG.rdS hl
        rw [ev0] at e5
        go_simp
        exact hK _ _ rfl hG0
      apply gh_det (n := 1)
      · intro fl xs w ev hG hD hl hdone hev K hK
        have e0 := (hev (.tmp 0)).trans (kx0.out xs)
        rw [if_pos (wantedX_none rfl)]
        have ef : ∀ f, ev (.func f) = .func (.func f) #[] #[] := fun f => (hev _).trans rfl
        clear hev hD
        go_simp
        exact hK _ _ rfl hG
      apply gh_det (n := 2)
      · intro fl xs w ev hG hD hl hdone hev K hK
        have e1 := (hev (.tmp 1)).trans (kx1.out xs)
        rw [if_pos (wantedX_none rfl)]
        have ef : ∀ f, ev (.func f) = .func (.func f) #[] #[] := fun f => (hev _).trans rfl
        clear hev hD
        go_simp
        exact hK _ _ rfl hG
      apply gh_det (n := 3)
      · intro fl xs w ev hG hD hl hdone hev K hK
        have e6 := (hev (.tmp 6)).trans (kx6.out xs)
        rw [if_pos (wantedX_none rfl)]
        have ef : ∀ f, ev (.func f) = .func (.func f) #[] #[] := fun f => (hev _).trans rfl
        clear hev hD
        go_simp
        exact hK _ _ rfl hG
      apply gh_det (n := 4)
      · intro fl xs w ev hG hD hl hdone hev K hK
        have e15 := (hev (.tmp 15)).trans (kx15.out xs)
        have d2 := hD.at_ 2 rfl rfl
        replace e15 := e15.trans d2
        have e16 := (hev (.tmp 16)).trans (kx16.out xs)
        have d3 := hD.at_ 3 rfl rfl
        replace e16 := e16.trans d3
        rw [if_pos (wantedX_none rfl)]
        have ef : ∀ f, ev (.func f) = .func (.func f) #[] #[] := fun f => (hev _).trans rfl
        clear hev hD
        go_simp
        exact hK _ _ rfl hG
      apply gh_det (n := 5)
      · intro fl xs w ev hG hD hl hdone hev K hK
        have e17 := (hev (.tmp 17)).trans (kx17.out xs)
        have d4 := hD.at_ 4 rfl rfl
        replace e17 := e17.trans d4
        rw [if_pos (wantedX_none rfl)]
        have ef : ∀ f, ev (.func f) = .func (.func f) #[] #[] := fun f => (hev _).trans rfl
        clear hev hD
        go_simp
        exact hK _ _ rfl hG
      apply gh_det (n := 6)
      · intro fl xs w ev hG hD hl hdone hev K hK
        have e18 := (hev (.tmp 18)).trans (kx18.out xs)
        have d5 := hD.at_ 5 rfl rfl
        replace e18 := e18.trans d5
        rw [if_pos (wantedX_none rfl)]
        have ef : ∀ f, ev (.func f) = .func (.func f) #[] #[] := fun f => (hev _).trans rfl
        clear hev hD
        have mm := (hG.bel.cell (p := ⟨b, o + k * 2, none⟩) hbs).trans q1
        go_simp
        exact hK _ _ rfl hG
      apply gh_det (n := 7)
      · intro fl xs w ev hG hD hl hdone hev K hK
        have e1 := (hev (.tmp 1)).trans (kx1.out xs)
        rw [if_pos (wantedX_none rfl)]
        have ef : ∀ f, ev (.func f) = .func (.func f) #[] #[] := fun f => (hev _).trans rfl
        clear hev hD
        go_simp
        exact hK _ _ rfl hG
      apply gh_det (n := 8)
      · intro fl xs w ev hG hD hl hdone hev K hK
        have e6 := (hev (.tmp 6)).trans (kx6.out xs)
        rw [if_pos (wantedX_none rfl)]
        have ef : ∀ f, ev (.func f) = .func (.func f) #[] #[] := fun f => (hev _).trans rfl
        clear hev hD
        go_simp
        exact hK _ _ rfl hG
      apply gh_det (n := 9)
      · intro fl xs w ev hG hD hl hdone hev K hK
        have e20 := (hev (.tmp 20)).trans (kx20.out xs)
        have d7 := hD.at_ 7 rfl rfl
        replace e20 := e20.trans d7
        have e21 := (hev (.tmp 21)).trans (kx21.out xs)
        have d8 := hD.at_ 8 rfl rfl
        replace e21 := e21.trans d8
        rw [if_pos (wantedX_none rfl)]
        have ef : ∀ f, ev (.func f) = .func (.func f) #[] #[] := fun f => (hev _).trans rfl
        clear hev hD
        go_simp
        exact hK _ _ rfl hG
      apply gh_det (n := 10)
      · intro fl xs w ev hG hD hl hdone hev K hK
        have e22 := (hev (.tmp 22)).trans (kx22.out xs)
        have d9 := hD.at_ 9 rfl rfl
        replace e22 := e22.trans d9
        rw [if_pos (wantedX_none rfl)]
        have ef : ∀ f, ev (.func f) = .func (.func f) #[] #[] := fun f => (hev _).trans rfl
        clear hev hD
        go_simp
        exact hK _ _ rfl hG
      apply gh_det (n := 11)
      · intro fl xs w ev hG hD hl hdone hev K hK
        have e23 := (hev (.tmp 23)).trans (kx23.out xs)
        have d10 := hD.at_ 10 rfl rfl
        replace e23 := e23.trans d10
        rw [if_pos (wantedX_none rfl)]
        have ef : ∀ f, ev (.func f) = .func (.func f) #[] #[] := fun f => (hev _).trans rfl
        clear hev hD
        have mm := (hG.bel.cell (p := ⟨b, o + k * 2 + 1, none⟩) hbs).trans q2
        go_simp
        exact hK _ _ rfl hG
      apply gh_det (n := 12)
      · intro fl xs w ev hG hD hl hdone hev K hK
        have e14 := (hev (.tmp 14)).trans (kx14.out xs)
        have d1 := hD.at_ 1 rfl rfl
        replace e14 := e14.trans d1
        have e19 := (hev (.tmp 19)).trans (kx19.out xs)
        have d6 := hD.at_ 6 rfl rfl
        replace e19 := e19.trans d6
        have e24 := (hev (.tmp 24)).trans (kx24.out xs)
        have d11 := hD.at_ 11 rfl rfl
        replace e24 := e24.trans d11
        rw [if_pos (wantedX_none rfl)]
        have ef : ∀ f, ev (.func f) = .func (.func f) #[] #[] := fun f => (hev _).trans rfl
        clear hev hD
        go_simp
        exact hK _ _ rfl hG
      refine gh_any (n := 13) (fun _ => True) ?_ ?_
      · intro fl xs w ev hG hD hl hdone hev K hK
        have e25 := (hev (.tmp 25)).trans (kx25.out xs)
        have d12 := hD.at_ 12 rfl rfl
        replace e25 := e25.trans d12
        rw [if_pos (wantedX_none rfl)]
        have ef : ∀ f, ev (.func f) = .func (.func f) #[] #[] := fun f => (hev _).trans rfl
        clear hev hD
        go_simp
        exact hK _ _ trivial (hG.litS hl hbase tripE_len)
      refine gh_any (n := 14) (fun _ => True) ?_ ?_
      · intro fl xs w ev hG hD hl hdone hev K hK
        have e13 := (hev (.tmp 13)).trans (kx13.out xs)
        have d0 := hD.at_ 0 rfl rfl
        replace e13 := e13.trans d0
        have e26 := (hev (.tmp 26)).trans (kx26.out xs)
        rw [if_pos (wantedX_none rfl)]
        have ef : ∀ f, ev (.func f) = .func (.func f) #[] #[] := fun f => (hev _).trans rfl
        clear hev hD
        obtain ⟨k5, c5, e5, r5⟩ := hG.lit (done_of hdone 13 rfl) hl
        have own := hG.own hl
        rw [e5] at e26
        obtain ⟨v', w1', hrun, own1, hgr, hnew⟩ := own_append (enc := tripE) Tryz.underlying25 infoATri rfl (by decide) tripE_len tripE_one c5 own r5 hlen.out (by decide) (Nat.le_trans hbase hG.bel.size)
        rw [show La.length + 1 = (La ++ [(d, x1, x2)]).length from by simp] at own1
        exact outcome_append (.tmp 13) (.tmp 26) 25 rfl e13 e26 hrun (hK _ _ trivial (hG.appS hl (done_of hdone 0 rfl) (done_of hdone 13 rfl) own1 ((Below.refl _ w).grown hgr (Nat.le_trans hbase hG.bel.size) fun g hg => (own.lt g hg).1)))
      refine gh_any (n := 15) (fun _ => True) ?_ ?_
      · intro fl xs w ev hG hD hl hdone hev K hK
        have e27 := (hev (.tmp 27)).trans (kx27.out xs)
        rw [if_pos (wantedX_none rfl)]
        have ef : ∀ f, ev (.func f) = .func (.func f) #[] #[] := fun f => (hev _).trans rfl
        clear hev hD
        have own := hG.app (done_of hdone 14 rfl)
        obtain ⟨A7, c7, e7, _⟩ := Rd.of_own tripE_len rfl own
        have hG0 := hG.asS (done_of hdone 14 rfl)
        generalize (La ++ [(d, x1, x2)]).length = n7 at e7
        rw [e7] at e27
        go_simp
        refine hK _ _ trivial ?_
        rw [← e7]
        exact hG0
      clear kx0 kx1 kx5 kx6 kx13 kx14 kx15 kx16 kx17 kx18 kx19 kx20 kx21 kx22 kx23 kx24 kx25 kx26 kx27
      intro xs w9 hG hI
      have own9 := hG.app rfl
      have e9 := hG.asg rfl
      have hb9 := hG.bel
      clear hG hI
      rw [← e9] at own9
      clear e9
      simp only [List.append_eq, List.cons_append, List.nil_append, setAll, List.setIfInBounds_toArray, List.set_cons_zero, List.set_cons_succ]
      have hfin := Lib.hid (And.intro own9 (hbrh.out.trans hb9))
      clear own9 hb9
      go_wp2_with fail
      go_roundw
      case rel => exact ⟨k + 1, by omega, by go_num, _, hLn.out, hfin.out.1, hfin.out.2⟩
      case measure => simp [intOf]; omega
    · obtain rfl : k = n := by omega
      have hkn : decide ((k : Int) < (k : Int)) = false := decide_eq_false (by omega)
      rw [List.take_of_length_le (by rw [hll.out]; exact Nat.le_refl _)] at hLa
      obtain ⟨A', c', rfl, r1, r2, r3⟩ := Rd.of_own tripE_len rfl own
      have r1h := Lib.hid r1
      have hbrh := Lib.hid hbr
      have hLah := Lib.hid hLa
      clear own r1 hbr hLa
      go_wp2_with fail
      go_returns
      rw [← hLah.out]
      exact .mk A' c' rfl r1h.out r2 r3 hbrh.out
theorem rtrips_any (A : Option Addr) (n c : Nat) (l : List P2) (w0 : World) (hr : Rd w0 2 pairE A n l) (hn : n ≤ 1099511627) : Calls Tryz.prog 39 #[.slice A n c] w0 fun e w0' => RetR 3 tripE w0 (ofF 0 l) e w0' := by
  have hO := Lib.hid (rOf_any A n c l 0 w0 hr hn)
  clear hr
  go_enter Tryz.func39, Tryz.ntmps39
  go_wp2_with fail
  refine hO.out.mono ?_; rintro e w2 ⟨A', c', rfl, r1, r2, r3, hb⟩
  have r1h := Lib.hid r1
  clear r1
  go_wp2_with fail
  go_returns
  exact .mk A' c' rfl r1h.out r2 r3 hb
end Go.Proofs.YtibeoiphjkgekaaGreat
