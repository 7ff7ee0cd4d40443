/-
  timetablelaw20.PatternNames answers true for every input, and every argument reads afterwards as it read before. Condition: the two package-level variables of Go's library that the row lists hold what the program's text lays (the card ties that).
-/
import Derived.Test.YtechdefolfboeaaGreatDoorCards
import Derived.Test.YtechdefolfboeaaGreatDoorTie
import Derived.Test.YtechdefolfboeaaGreatDoorNr2
namespace Go.Proofs.YtechdefolfboeaaGreatDoor.patternNamesProof
open Go Go.ChangeShapes Go.WideShapes Go.ChangeAt Go.RowKit B
set_option linter.unusedVariables false
set_option maxRecDepth 100000
theorem lifted (os : Os) (started : os.Started) (H : Type) (enc : TypeId × Value → H) :
    ReturnsInHanded {} Tryz.checked os 11 .any (fun w args => (Rows.patternNamesSpec.pre enc Tryz.prog Tryz.f11 [] false w args ∧ laidMetH Tryz.prog laid2 w) ∧ sizedMet enc Tryz.prog Tryz.f11 (OpenSpec.ofChange Rows.patternNamesSpec) false w args)
      (Rows.patternNamesSpec.post enc Tryz.prog Tryz.f11 false true false false) := by
  refine returnsInHanded_of_change_and (C := Tryz.checked) (X := fun w _ => laidMetH Tryz.prog laid2 w) (fun _ _ _ hh h => h.of_heap hh) own started (by kernel_rfl) Tryz.func11
    (ChangeSpec.witness_shaped (enc := enc) (C := Tryz.checked) (os := os) (X := fun w _ => laidMetH Tryz.prog laid2 w) false (World.doorLaid Tryz.prog 33 os) #[] 8 rfl (World.shaped_of_RefB (by kernel_rfl) (by kernel_rfl)) (by kernel_rfl) (by kernel_rfl) (by kernel_rfl) (door_met os _)) ?_
  intro W base args ds gs before hval0 hW _ _ hL _
  have hval : ∀ (j : Nat) t v, Tryz.f11.params[j]? = some t → args[j]? = some v → Value.okWide Tryz.prog W .any base t v := hval0
  have hW' := hW
  obtain ⟨p, q, hA0, hV, rfl, hfz, hnd⟩ := hW
  have hA : DataW.TrodAll enc Tryz.prog W 0 (fun _ => true) true Tryz.f11.params.toList args.toList ds p := hA0
  rw [Tryz.params11] at hA hval
  obtain ⟨hargs, rfl, rfl⟩ := trodAll_nil hA
  obtain rfl : args = #[] := by cases args; simp_all
  obtain ⟨rfl, rfl⟩ := trodVars_none hV
  have hsp := sp_of_laid hL
  clear hA0 hval0 hL
  refine (names20_any  W hsp ).mono fun e W' ⟨he, bel⟩ => ?_
  subst he
  exact ⟨_, rfl, _, _, _, [], _, [], hW', trodAll_mk1 (shut_bool Tryz.underlying4 _), trodAll_mk0, rfl, bel.frame _, fun h => by cases h⟩
set_option maxHeartbeats 16000000 in
theorem closed : joinedFacts Tryz.prog 11 Tryz.f11 Rows.patternNamesSpec Rows.patternNamesRow = true := by
  unfold joinedFacts
  repeat (refine and_of ?_ ?_; rotate_left; as_aux_lemma => kernel_rfl)
  as_aux_lemma => kernel_rfl
theorem over : Rows.PatternNamesSaid :=
  OpenClaim.holds_of_wide 11 Tryz.f11 rfl rfl rfl rfl rfl rfl rfl ⟨rfl, rfl, rfl, rfl, rfl⟩ rfl rfl rfl rfl rfl (by kernel_rfl) Tryz.func11 closed
    (of_decide_eq_true (by kernel_rfl)) (by unfold Func.isWrapper; rw [if_neg (of_decide_eq_false (by kernel_rfl))]; exact ⟨rfl, rfl⟩)
    (fun os started H enc _ => lifted os started H enc)
theorem wants (j : Nat) (t : TypeId) (ht : Tryz.f11.params[j]? = some t) : Tryz.prog.wantsStandIn t = false := by
  rw [Tryz.params11] at ht
  simp at ht
end Go.Proofs.YtechdefolfboeaaGreatDoor.patternNamesProof
namespace Go.Proofs.YtechdefolfboeaaGreatDoor
open Go
set_option maxRecDepth 100000
theorem patternNamesCard_holds : Rows.PatternNamesCardSaid :=
  Claim7.holds_tied_plain_at .later [] [.listed, .data] true (true, "7569926c1cfb2272c56ec4f02052a37d0a6030a90264692b0abf0a966db7bd9e") false
    patternNamesProof.over (fun _ h => by cases h) (by kernel_rfl) (fun _ h => by cases h) patternNames_row_tie rfl ⟨rfl, rfl⟩ (by kernel_rfl) rfl
    (fun f fn hf hfn => by
      obtain rfl : f = 11 := Option.some.inj ((show Tryz.prog.funcNamed "timetable/timetablelaw20.PatternNames" = some 11 by kernel_rfl).symm.trans hf) |>.symm
      obtain rfl : fn = Tryz.f11 := (Option.some.inj (Tryz.func11.symm.trans hfn)).symm
      exact ⟨by kernel_rfl, fun j t ht => patternNamesProof.wants j t ht⟩)
    (by kernel_rfl)
#print axioms patternNamesCard_holds
end Go.Proofs.YtechdefolfboeaaGreatDoor

