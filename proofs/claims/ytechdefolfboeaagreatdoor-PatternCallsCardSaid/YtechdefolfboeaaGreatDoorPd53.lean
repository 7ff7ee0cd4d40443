/- timetablelaw20.PatternCalls answers true for every input, and every argument reads afterwards as it read before. Condition: the two package-level variables of Go's library that the row lists hold what the program's text lays (the card ties that). -/
import Derived.Test.YtechdefolfboeaaGreatDoorCards
import Derived.Test.YtechdefolfboeaaGreatDoorTie
import Derived.Test.YtechdefolfboeaaGreatDoorPd52
namespace Go.Proofs.YtechdefolfboeaaGreatDoor.patternCallsProof
open Go Go.ChangeShapes Go.WideShapes Go.ChangeAt Go.RowKit B
set_option linter.unusedVariables false
set_option maxRecDepth 100000
theorem pt_ (os : Os) (started : os.Started) (H : Type) (enc : TypeId × Value → H) :
    ReturnsInHanded {} Tryz.checked os 12 .any (fun w args => (Rows.patternCallsSpec.pre enc Tryz.prog Tryz.f12 [] false w args ∧ laidMetH Tryz.prog gU_ w) ∧ sizedMet enc Tryz.prog Tryz.f12 (OpenSpec.ofChange Rows.patternCallsSpec) false w args)
      (Rows.patternCallsSpec.post enc Tryz.prog Tryz.f12 false true false false) := by
  refine returnsInHanded_of_change_and (C := Tryz.checked) (X := fun w _ => laidMetH Tryz.prog gU_ w) (fun _ _ _ hh h => h.of_heap hh) own started (by kernel_rfl) Tryz.func12
    (ChangeSpec.witness_shaped (enc := enc) (C := Tryz.checked) (os := os) (X := fun w _ => laidMetH Tryz.prog gU_ w) false (World.doorLaid Tryz.prog 33 os) #[.agg #[.int .i64 0, .slice none 0 0, .slice none 0 0, .slice none 0 0, .slice none 0 0, .slice none 0 0, .slice none 0 0, .slice none 0 0, .slice none 0 0, .slice none 0 0, .slice none 0 0, .slice none 0 0], .slice none 0 0, .slice none 0 0, .int .i64 0, .int .i64 0, .int .i64 0] 8 rfl (World.shaped_of_RefB (by kernel_rfl) (by kernel_rfl)) (by kernel_rfl) (by kernel_rfl) (by kernel_rfl) (nw_ os _)) ?_
  intro W base args ds gs before hval0 hW _ _ hL _
  have hval : ∀ (j : Nat) t v, Tryz.f12.params[j]? = some t → args[j]? = some v → Value.okWide Tryz.prog W .any base t v := hval0
  have hW' := hW
  obtain ⟨p, q, hA0, hV, rfl, hfz, hnd⟩ := hW
  have hA : DataW.TrodAll enc Tryz.prog W 0 (fun _ => true) true Tryz.f12.params.toList args.toList ds p := hA0
  rw [Tryz.params12] at hA hval
  obtain ⟨v0, vs0, d0, ds0, p0, q0, hargs, rfl, rfl, h0, r0⟩ := trodAll_cons hA
  obtain ⟨v1, vs1, d1, ds1, p1, q1, rfl, rfl, rfl, h1, r1⟩ := trodAll_cons r0
  obtain ⟨v2, vs2, d2, ds2, p2, q2, rfl, rfl, rfl, h2, r2⟩ := trodAll_cons r1
  obtain ⟨v3, vs3, d3, ds3, p3, q3, rfl, rfl, rfl, h3, r3⟩ := trodAll_cons r2
  obtain ⟨v4, vs4, d4, ds4, p4, q4, rfl, rfl, rfl, h4, r4⟩ := trodAll_cons r3
  obtain ⟨v5, vs5, d5, ds5, p5, q5, rfl, rfl, rfl, h5, r5⟩ := trodAll_cons r4
  obtain ⟨rfl, rfl, rfl⟩ := trodAll_nil r5
  obtain rfl : args = #[v0, v1, v2, v3, v4, v5] := by cases args; simp_all
  obtain ⟨rfl, rfl⟩ := trodVars_none hV
  have k0 := h0
  have lt0 : ∀ x ∈ p0, x.block < W.heap.size := by obtain ⟨m, hm⟩ := k0; exact DataW.trod_lt m _ _ _ hm
  obtain ⟨M0, V0, rfl, e0, w0⟩ := k1_ (hval 0 31 v0 rfl rfl) h0
  have k1 := h1
  have lt1 : ∀ x ∈ p1, x.block < W.heap.size := by obtain ⟨m, hm⟩ := k1; exact DataW.trod_lt m _ _ _ hm
  obtain ⟨A1, n1, c1, l1, rfl, e1, f1, g1, w1⟩ := mE_ (hval 1 32 v1 rfl rfl) h1
  have k2 := h2
  have lt2 : ∀ x ∈ p2, x.block < W.heap.size := by obtain ⟨m, hm⟩ := k2; exact DataW.trod_lt m _ _ _ hm
  obtain ⟨A2, n2, c2, l2, rfl, e2, f2, g2, w2⟩ := mD_ (hval 2 63 v2 rfl rfl) h2
  have k3 := h3
  have lt3 : ∀ x ∈ p3, x.block < W.heap.size := by obtain ⟨m, hm⟩ := k3; exact DataW.trod_lt m _ _ _ hm
  obtain ⟨a3, rfl, _, _, w3⟩ := open_int Tryz.underlying3 (hval 3 3 v3 rfl rfl) h3
  have b3 := dA_ w3
  have k4 := h4
  have lt4 : ∀ x ∈ p4, x.block < W.heap.size := by obtain ⟨m, hm⟩ := k4; exact DataW.trod_lt m _ _ _ hm
  obtain ⟨a4, rfl, _, _, w4⟩ := open_int Tryz.underlying2 (hval 4 2 v4 rfl rfl) h4
  have b4 := dA_ w4
  have k5 := h5
  have lt5 : ∀ x ∈ p5, x.block < W.heap.size := by obtain ⟨m, hm⟩ := k5; exact DataW.trod_lt m _ _ _ hm
  obtain ⟨a5, rfl, _, _, w5⟩ := open_int Tryz.underlying3 (hval 5 3 v5 rfl rfl) h5
  have b5 := dA_ w5
  have hsp := lA_ hL
  clear hA0 hval0 hL
  refine (jx_ M0 V0 A1 n1 c1 l1 A2 n2 c2 l2 a3 a4 a5 W hsp e0 w0 e1 e2).mono fun e W' ⟨he, bel⟩ => ?_
  subst he
  exact ⟨_, rfl, _, _, _, [], _, [], hW', trodAll_mk1 (shut_bool Tryz.underlying4 _), (trodAll_cons_mk (Below.trod en_ (by kernel_rfl) (of_decide_eq_true (by kernel_rfl)) k0 bel lt0) (trodAll_cons_mk (Below.trod en_ (by kernel_rfl) (of_decide_eq_true (by kernel_rfl)) k1 bel lt1) (trodAll_cons_mk (Below.trod en_ (by kernel_rfl) (of_decide_eq_true (by kernel_rfl)) k2 bel lt2) (trodAll_cons_mk (Below.trod en_ (by kernel_rfl) (of_decide_eq_true (by kernel_rfl)) k3 bel lt3) (trodAll_cons_mk (Below.trod en_ (by kernel_rfl) (of_decide_eq_true (by kernel_rfl)) k4 bel lt4) (trodAll_cons_mk (Below.trod en_ (by kernel_rfl) (of_decide_eq_true (by kernel_rfl)) k5 bel lt5) trodAll_mk0)))))), rfl, bel.frame _, fun h => by cases h⟩
set_option maxHeartbeats 16000000 in
theorem closed : joinedFacts Tryz.prog 12 Tryz.f12 Rows.patternCallsSpec Rows.patternCallsRow = true := by
  unfold joinedFacts
  repeat (refine pi_ ?_ ?_; rotate_left; as_aux_lemma => kernel_rfl)
  as_aux_lemma => kernel_rfl
theorem over : Rows.PatternCallsSaid :=
  OpenClaim.holds_of_wide 12 Tryz.f12 rfl rfl rfl rfl rfl rfl rfl ⟨rfl, rfl, rfl, rfl, rfl⟩ rfl rfl rfl rfl rfl (by kernel_rfl) Tryz.func12 closed
    (of_decide_eq_true (by kernel_rfl)) (by unfold Func.isWrapper; rw [if_neg (of_decide_eq_false (by kernel_rfl))]; exact ⟨rfl, rfl⟩)
    (fun os started H enc _ => pt_ os started H enc)
theorem wants (j : Nat) (t : TypeId) (ht : Tryz.f12.params[j]? = some t) : Tryz.prog.wantsStandIn t = false := by
  rw [Tryz.params12] at ht
  match j, ht with
  | 0, ht =>
    obtain rfl : 31 = t := by simpa using ht
    exact (show Tryz.prog.wantsStandIn 31 = false by kernel_rfl)
  | 1, ht =>
    obtain rfl : 32 = t := by simpa using ht
    exact (show Tryz.prog.wantsStandIn 32 = false by kernel_rfl)
  | 2, ht =>
    obtain rfl : 63 = t := by simpa using ht
    exact (show Tryz.prog.wantsStandIn 63 = false by kernel_rfl)
  | 3, ht =>
    obtain rfl : 3 = t := by simpa using ht
    exact (show Tryz.prog.wantsStandIn 3 = false by kernel_rfl)
  | 4, ht =>
    obtain rfl : 2 = t := by simpa using ht
    exact (show Tryz.prog.wantsStandIn 2 = false by kernel_rfl)
  | 5, ht =>
    obtain rfl : 3 = t := by simpa using ht
    exact (show Tryz.prog.wantsStandIn 3 = false by kernel_rfl)
  | j + 6, ht => simp at ht
end Go.Proofs.YtechdefolfboeaaGreatDoor.patternCallsProof
namespace Go.Proofs.YtechdefolfboeaaGreatDoor
open Go
set_option maxRecDepth 100000
theorem patternCallsCard_holds : Rows.PatternCallsCardSaid :=
  Claim7.holds_tied_plain_at .later [] [.listed, .data] true (true, "7569926c1cfb2272c56ec4f02052a37d0a6030a90264692b0abf0a966db7bd9e") false
    patternCallsProof.over (fun _ h => by cases h) (by as_aux_lemma => kernel_rfl) (fun _ h => by cases h) patternCalls_row_tie rfl ⟨rfl, rfl⟩ (by as_aux_lemma => kernel_rfl) rfl
    (fun f fn hf hfn => by
      obtain rfl : f = 12 := Option.some.inj ((show Tryz.prog.funcNamed "timetable/timetablelaw20.PatternCalls" = some 12 by as_aux_lemma => kernel_rfl).symm.trans hf) |>.symm
      obtain rfl : fn = Tryz.f12 := (Option.some.inj (Tryz.func12.symm.trans hfn)).symm
      exact ⟨by as_aux_lemma => kernel_rfl, fun j t ht => patternCallsProof.wants j t ht⟩)
    (by as_aux_lemma => kernel_rfl)
#print axioms patternCallsCard_holds
end Go.Proofs.YtechdefolfboeaaGreatDoor

