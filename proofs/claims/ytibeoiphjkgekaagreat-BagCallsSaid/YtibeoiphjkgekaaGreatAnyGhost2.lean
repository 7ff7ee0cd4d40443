/-
  The law with a ghost, where the region also writes a slot that it reads: the start says what the slots hold.
-/
import Derived.Test.YtibeoiphjkgekaaGreatAnyGhost
namespace Go.Proofs.YtibeoiphjkgekaaGreat
namespace B
open Go.RowKit
set_option linter.unusedVariables false
section
variable {P : Program} {G : (Nat → Bool) → (Nat → Value) → World → Prop}
theorem wp_region_ghost2 (G : (Nat → Bool) → (Nat → Value) → World → Prop) {id : Nat} {ops : List Oper} {a : Act} {w : World} {Q : Exit → Act → World → Prop} (hm : P.follows .mixedOrders = true)
    (hE : edgesC ops.toArray = true) (hD : dstsB ops = true) (hn : dstsIn a.tmps.size ops = true) (hg : guardsB a.tmps.size ops = true) (h0 : ∀ x, (∀ (i d : Nat), (ops[i]?).bind (·.dst) = some d → x i = a.tmps.getD d undef) → G (fun i => decide (ops.length ≤ i)) x { w with drawn := w.drawn + 1 })
    (h : ∀ base O, base = a → O = ops → OpsOkG G P base O (fun x w' => Q .normal { tmps := setAll x 0 ops a.tmps, defers := a.defers } w') 0 [] ops) : (Code.region id ops.toArray true).wp P Q a w := by
  refine wp_region_any hm ?_
  obtain ⟨Jf, _, e2, e3⟩ := opsOkG_all ops 0 [] (fun i J h => by cases h) (h a ops rfl rfl)
  have hA : ({ tmps := setAll (fun i => match (ops[i]?).bind (·.dst) with | some d => a.tmps.getD d undef | none => undef) 0 ops a.tmps, defers := a.defers } : Act) = a := by
    rw [setAll_own ops 0 a.tmps a.tmps]
    intro i o d ho hd
    simp [ho, hd]
  have key := anyGhost (P := P) (G := G) (Q := Q) (a := a) hE hD hn hg Jf (fun k o ho => by simpa using e2 k o ho) (fun x w' hG hx => e3 x w' hG fun i hi => hx i (by omega))
    ops.toArray.size (Array.replicate ops.toArray.size false) (fun i => match (ops[i]?).bind (·.dst) with | some d => a.tmps.getD d undef | none => undef) { w with drawn := w.drawn + 1 } (by simp) ?_ ?_ ?_
  · rw [hA] at key; exact key
  · have e : (fun i => (Array.replicate ops.toArray.size false).getD i true) = fun i => decide (ops.length ≤ i) := by
      funext i
      unfold Array.getD
      split
      · rename_i h1
        have h1 : i < ops.length := by simpa using h1
        rw [decide_eq_false (by omega)]; simp
      · rename_i h1
        have h1 : ¬ i < ops.length := by simpa using h1
        rw [decide_eq_true (by omega)]
    rw [e]; exact h0 _ fun i d hd => by simp only [hd]
  · intro i hi hl
    have e : (Array.replicate ops.toArray.size false).getD i true = false := by
      unfold Array.getD
      rw [dif_pos (by simpa using hi)]
      simp
    rw [e] at hl; cases hl
  · exact Nat.le_trans (List.length_filter_le _ _) (by simp)
end
end B
end Go.Proofs.YtibeoiphjkgekaaGreat
