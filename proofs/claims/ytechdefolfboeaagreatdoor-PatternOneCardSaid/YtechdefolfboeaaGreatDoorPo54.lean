/- timetablelaw20.PatternOne answers true for every input, and every argument reads afterwards as it read before. Condition: the two package-level variables of Go's library that the row lists hold what the program's text lays (the card ties that). -/
import Derived.Test.YtechdefolfboeaaGreatDoorCards
import Derived.Test.YtechdefolfboeaaGreatDoorTie
import Derived.Test.YtechdefolfboeaaGreatDoorPo53
namespace Go.Proofs.YtechdefolfboeaaGreatDoor.patternOneProof
open Go Go.ChangeShapes Go.WideShapes Go.ChangeAt Go.RowKit B
set_option linter.unusedVariables false
set_option maxRecDepth 100000
theorem lifted (os : Os) (started : os.Started) (H : Type) (enc : TypeId × Value → H) :
    ReturnsInHanded {} Tryz.checked os 8 .any (fun w args => (Rows.patternOneSpec.pre enc Tryz.prog Tryz.f8 [] false w args ∧ laidMetH Tryz.prog laid2 w) ∧ sizedMet enc Tryz.prog Tryz.f8 (OpenSpec.ofChange Rows.patternOneSpec) false w args)
      (Rows.patternOneSpec.post enc Tryz.prog Tryz.f8 false true false false) := by
  refine returnsInHanded_of_change_and (C := Tryz.checked) (X := fun w _ => laidMetH Tryz.prog laid2 w) (fun _ _ _ hh h => h.of_heap hh) own started (by kernel_rfl) Tryz.func8
    (ChangeSpec.witness_shaped (enc := enc) (C := Tryz.checked) (os := os) (X := fun w _ => laidMetH Tryz.prog laid2 w) false (World.doorLaid Tryz.prog 33 os) #[.agg #[.int .i64 0, .slice none 0 0, .slice none 0 0, .slice none 0 0, .slice none 0 0, .slice none 0 0, .slice none 0 0, .slice none 0 0, .slice none 0 0, .slice none 0 0, .slice none 0 0, .slice none 0 0], .agg #[.int .i64 0, .int .i64 0, .slice none 0 0, .slice none 0 0], .slice none 0 0] 8 rfl (World.shaped_of_RefB (by kernel_rfl) (by kernel_rfl)) (by kernel_rfl) (by kernel_rfl) (by kernel_rfl) (door_met os _)) ?_
  intro W base args ds gs before hval0 hW _ _ hL _
  have hval : ∀ (j : Nat) t v, Tryz.f8.params[j]? = some t → args[j]? = some v → Value.okWide Tryz.prog W .any base t v := hval0
  have hW' := hW
  obtain ⟨p, q, hA0, hV, rfl, hfz, hnd⟩ := hW
  have hA : DataW.TrodAll enc Tryz.prog W 0 (fun _ => true) true Tryz.f8.params.toList args.toList ds p := hA0
  rw [Tryz.params8] at hA hval
  obtain ⟨v0, vs0, d0, ds0, p0, q0, hargs, rfl, rfl, h0, r0⟩ := trodAll_cons hA
  obtain ⟨v1, vs1, d1, ds1, p1, q1, rfl, rfl, rfl, h1, r1⟩ := trodAll_cons r0
  obtain ⟨v2, vs2, d2, ds2, p2, q2, rfl, rfl, rfl, h2, r2⟩ := trodAll_cons r1
  obtain ⟨rfl, rfl, rfl⟩ := trodAll_nil r2
  obtain rfl : args = #[v0, v1, v2] := by cases args; simp_all
  obtain ⟨rfl, rfl⟩ := trodVars_none hV
  have k0 := h0
  have lt0 : ∀ x ∈ p0, x.block < W.heap.size := by obtain ⟨m, hm⟩ := k0; exact DataW.trod_lt m _ _ _ hm
  obtain ⟨M0, V0, rfl, e0, w0⟩ := open_world (hval 0 31 v0 rfl rfl) h0
  have k1 := h1
  have lt1 : ∀ x ∈ p1, x.block < W.heap.size := by obtain ⟨m, hm⟩ := k1; exact DataW.trod_lt m _ _ _ hm
  obtain ⟨t1, no1, A1, n1, c1, A1', n1', c1', ar1, de1, rfl, e1, f1, g1⟩ := open_run (hval 1 47 v1 rfl rfl) h1
  have k2 := h2
  have lt2 : ∀ x ∈ p2, x.block < W.heap.size := by obtain ⟨m, hm⟩ := k2; exact DataW.trod_lt m _ _ _ hm
  obtain ⟨A2, n2, c2, l2, rfl, e2, f2, g2, w2⟩ := open_nums Tryz.underlying45 Tryz.underlying2 (by kernel_rfl) (hval 2 45 v2 rfl rfl) h2
  have hsp := sp_of_laid hL
  clear hA0 hval0 hL
  refine (one_any M0 V0 t1 no1 A1 n1 c1 A1' n1' c1' ar1 de1 A2 n2 c2 l2 W hsp e0 w0 e1 g1.1 f1 g1.2 e2).mono fun e W' ⟨he, bel⟩ => ?_
  subst he
  exact ⟨_, rfl, _, _, _, [], _, [], hW', trodAll_mk1 (shut_bool Tryz.underlying4 _), (trodAll_cons_mk (Below.trod laidOut (by kernel_rfl) (of_decide_eq_true (by kernel_rfl)) k0 bel lt0) (trodAll_cons_mk (Below.trod laidOut (by kernel_rfl) (of_decide_eq_true (by kernel_rfl)) k1 bel lt1) (trodAll_cons_mk (Below.trod laidOut (by kernel_rfl) (of_decide_eq_true (by kernel_rfl)) k2 bel lt2) trodAll_mk0))), rfl, bel.frame _, fun h => by cases h⟩
set_option maxHeartbeats 16000000 in
theorem closed : joinedFacts Tryz.prog 8 Tryz.f8 Rows.patternOneSpec Rows.patternOneRow = true := by
  unfold joinedFacts
  repeat (refine and_of ?_ ?_; rotate_left; as_aux_lemma => kernel_rfl)
  as_aux_lemma => kernel_rfl
theorem over : Rows.PatternOneSaid :=
  OpenClaim.holds_of_wide 8 Tryz.f8 rfl rfl rfl rfl rfl rfl rfl ⟨rfl, rfl, rfl, rfl, rfl⟩ rfl rfl rfl rfl rfl (by kernel_rfl) Tryz.func8 closed
    (of_decide_eq_true (by kernel_rfl)) (by unfold Func.isWrapper; rw [if_neg (of_decide_eq_false (by kernel_rfl))]; exact ⟨rfl, rfl⟩)
    (fun os started H enc _ => lifted os started H enc)
theorem wants (j : Nat) (t : TypeId) (ht : Tryz.f8.params[j]? = some t) : Tryz.prog.wantsStandIn t = false := by
  rw [Tryz.params8] at ht
  match j, ht with
  | 0, ht =>
    obtain rfl : 31 = t := by simpa using ht
    exact (show Tryz.prog.wantsStandIn 31 = false by kernel_rfl)
  | 1, ht =>
    obtain rfl : 47 = t := by simpa using ht
    exact (show Tryz.prog.wantsStandIn 47 = false by kernel_rfl)
  | 2, ht =>
    obtain rfl : 45 = t := by simpa using ht
    exact (show Tryz.prog.wantsStandIn 45 = false by kernel_rfl)
  | j + 3, ht => simp at ht
end Go.Proofs.YtechdefolfboeaaGreatDoor.patternOneProof
namespace Go.Proofs.YtechdefolfboeaaGreatDoor
open Go
set_option maxRecDepth 100000
theorem patternOneCard_holds : Rows.PatternOneCardSaid :=
  Claim7.holds_tied_plain_at .later [] [.listed, .data] true (true, "7569926c1cfb2272c56ec4f02052a37d0a6030a90264692b0abf0a966db7bd9e") false
    patternOneProof.over (fun _ h => by cases h) (by as_aux_lemma => kernel_rfl) (fun _ h => by cases h) patternOne_row_tie rfl ⟨rfl, rfl⟩ (by as_aux_lemma => kernel_rfl) rfl
    (fun f fn hf hfn => by
      obtain rfl : f = 8 := Option.some.inj ((show Tryz.prog.funcNamed "timetable/timetablelaw20.PatternOne" = some 8 by as_aux_lemma => kernel_rfl).symm.trans hf) |>.symm
      obtain rfl : fn = Tryz.f8 := (Option.some.inj (Tryz.func8.symm.trans hfn)).symm
      exact ⟨by as_aux_lemma => kernel_rfl, fun j t ht => patternOneProof.wants j t ht⟩)
    (by as_aux_lemma => kernel_rfl)
#print axioms patternOneCard_holds
end Go.Proofs.YtechdefolfboeaaGreatDoor

