/-
  Regions that draw their order, inside a round of a range over a function: the plain laws carried over.
-/
import Derived.RangeFuncNested
import Derived.OrdersIn
import Derived.StillTailTactics
import Derived.BigQuiet
import Derived.Deep.QuietTactic
import Derived.Deep.Draws
namespace Go.Proofs.Ytapfndjaimfcaaa
namespace B
def noDefer (ops : Array Oper) : Bool := ops.all fun o => match o.op with | .defer _ => false | _ => true
theorem noDefer_at {ops : Array Oper} (h : noDefer ops = true) {i : Nat} {o : Oper} (ho : ops[i]? = some o) : ∀ c, o.op ≠ .defer c := by
  intro c hc
  obtain ⟨hlt, rfl⟩ := Array.getElem?_eq_some_iff.1 ho
  have := (Array.all_eq_true.1 h) i hlt
  rw [hc] at this; cases this
section
variable {P : Program} {r : Option Nat} {l : Nat} {Q : Exit → Act → World → Prop}
/-- the wide fence, in a round or outside -/
abbrev wideR (r : Option Nat) : Fence := { Fence.wide with round := r }
theorem wpIn_of_wp {o : Oper} {a : Act} {w : World} {K : Act → World → Prop} (hd : ∀ c, o.op ≠ .defer c) (h : o.wp P a w K Q) : o.wpIn (wideR r) 0 P a w K Q := by
  refine ⟨fun _ _ => trivial, ?_⟩
  rw [Oper.semAt_eq _ _ _ hd]
  unfold Oper.wp at h
  generalize (execOp a.eval o).run P w = r at *
  cases r with
  | ok n w' =>
    cases n <;> simp only [Oper.upon] at h <;> simp only [Oper.uponIn]
    case value v => exact h
    case skip => exact h
    case defer d => exact h
    case enter f args => exact ⟨fun h => by simp [Fence.wide] at h, (callsIn_wide (n := 0)).2 h⟩
    case row row args =>
      refine ⟨fun h => by simp [Fence.wide] at h, fun c cs _ => ?_⟩
      obtain ⟨v, w'', hr, hs⟩ := h c cs
      exact ⟨v, w'', hr, stepsIn_wide.2 hs⟩
  | halt x w' =>
    cases x <;> simp only [Oper.upon] at h <;> simp only [Oper.uponIn] <;> exact h
theorem wpAnyIn_of_wpAny {md : Region.Mode} {ops : Array Oper} (hnd : noDefer ops = true) (hQ : ∀ a w, ¬ Q .outgrown a w) : ∀ (fuel : Nat) (listed : Array Bool) (a : Act) (w : World),
    wpAny P md ops Q fuel listed a w → wpAnyIn (wideR r) 0 P md ops Q fuel listed a w
  | 0, _, _, _, h => h
  | fuel + 1, listed, a, w, h => by
    refine ⟨h.1, fun i hi => ?_⟩
    have h2 := h.2 i hi
    unfold wpOp at h2
    unfold wpOpIn
    split
    · rename_i ho; simp only [ho] at h2; exact wpAnyIn_of_wpAny hnd hQ fuel _ _ _ h2
    · rename_i o ho
      simp only [ho] at h2
      split
      · rename_i hw
        simp only [hw, if_true] at h2
        rcases h2 with h2 | ⟨_, a0, w0, h2⟩
        · exact wpIn_of_wp (noDefer_at hnd ho) (Oper.wp_mono (fun a w h => wpAnyIn_of_wpAny hnd hQ fuel _ _ _ h) h2)
        · exact (hQ _ _ h2).elim
      · rename_i hw; simp only [hw] at h2; exact ⟨fun _ _ => trivial, wpAnyIn_of_wpAny hnd hQ fuel _ _ _ h2⟩
/-- a region in a round, out of the plain law's premise: quiet -/
theorem quiet_any {id : Nat} {a : Act} {w : World} {ol : List Oper} (hm : P.follows .mixedOrders = true) (hB : Region.lexB .any ol.toArray = true) (hnd : noDefer ol.toArray = true) (hQ : ∀ a w, ¬ Q .outgrown a w)
    (h : wpQuiet P ol.toArray (fun w' => ∃ n, w' = w.drewN n) (fun a' => ∀ w', (∃ n, w' = w.drewN n) → Q .normal a' w') ol a) : (Code.region id ol.toArray true).wpIn (wideR r) 0 P Q a w := by
  simp only [Region.lexB, Bool.and_eq_true] at hB
  refine wpIn_region_any hm (wpAnyIn_of_wpAny hnd hQ _ _ _ _ ?_)
  refine wpAny_of_quiet (C := fun w' => ∃ n, w' = w.drewN n) (Q := fun a' => ∀ w', (∃ n, w' = w.drewN n) → Q .normal a' w') (fun _ w' hw' h => h w' hw') _ _ _ _ ⟨1, rfl⟩ ?_
  have := wpAnyQ_lex (C := fun w' => ∃ n, w' = w.drewN n) (md := .any) hB.1 ol 0 (Array.replicate ol.toArray.size false) a (by simp) (by simpa using hB.2) h
  simpa using this
/-- .. reads ahead of a tail that is walked in order -/
theorem tail_any {id : Nat} {a : Act} {w : World} {ol : List Oper} (n : Nat) (hm : P.follows .mixedOrders = true) (hB : Region.lexTailB .any ol.toArray n = true) (hnd : noDefer ol.toArray = true) (hQ : ∀ a w, ¬ Q .outgrown a w)
    (h : wpStill P ol.toArray w.drew (fun a' => wpList P ol.toArray Q (ol.drop n) a' w.drew) (ol.take n) a) : (Code.region id ol.toArray true).wpIn (wideR r) 0 P Q a w := by
  simp only [Region.lexTailB, Bool.and_eq_true, decide_eq_true_eq] at hB
  obtain ⟨⟨⟨⟨hsel, hn⟩, hs⟩, hc⟩, hlex⟩ := hB
  have hn' : n < ol.length := by simpa using hn
  have htl : (ol.take n).length = n := by simp; omega
  have hdl : (ol.drop n).length = ol.toArray.size - n := by simp
  have inv0 : HeadInv .any ol.toArray n (Array.replicate ol.toArray.size false) :=
    ⟨by simp, fun j oj _ hl => (by rw [getD_replicate_false] at hl; cases hl), fun t _ ht => getD_in (by simpa using ht) (getD_replicate_false _ _)⟩
  have H := wpAnyL_lex (md := .any) (g := ol.toArray.size - n) hsel hs hc hn (ol.take n) 0 _ a (fun j hj => by
    have hj' : j < n := by rw [htl] at hj; exact hj
    simp [hj']) (by simpa using htl) inv0 (by rw [htl]; exact hlex) h
  refine wpIn_region_any hm (wpAnyIn_of_wpAny hnd hQ _ _ _ _ ?_)
  have := wpAny_of_head (Q' := Q) (g := ol.toArray.size - n) (fun listed a' hL => by
    have := wpAny_of_seq (md := .any) (Q' := Q) (ol.drop n) n listed a' w.drew (fun j => by simp [List.getElem?_drop]) (by rw [hdl]; exact hL.1) hL.2
    rwa [hdl] at this) _ _ _ H
  rw [htl, show n + (ol.toArray.size - n) = ol.toArray.size by omega] at this
  exact this
theorem quiet_round {id : Nat} {a : Act} {w : World} {ol : List Oper} (hm : P.follows .mixedOrders = true) (hB : Region.lexB .any ol.toArray = true) (hnd : noDefer ol.toArray = true) (hQ : ∀ a w, ¬ Q .outgrown a w)
    (h : wpQuiet P ol.toArray (fun w' => ∃ n, w' = w.drewN n) (fun a' => ∀ w', (∃ n, w' = w.drewN n) → Q .normal a' w') ol a) : (Code.region id ol.toArray true).wpIn (Fence.wide.inRound l) 0 P Q a w :=
  quiet_any (r := some l) hm hB hnd hQ h
theorem quiet_wide {id : Nat} {a : Act} {w : World} {ol : List Oper} (hm : P.follows .mixedOrders = true) (hB : Region.lexB .any ol.toArray = true) (hnd : noDefer ol.toArray = true) (hQ : ∀ a w, ¬ Q .outgrown a w)
    (h : wpQuiet P ol.toArray (fun w' => ∃ n, w' = w.drewN n) (fun a' => ∀ w', (∃ n, w' = w.drewN n) → Q .normal a' w') ol a) : (Code.region id ol.toArray true).wpIn Fence.wide 0 P Q a w :=
  quiet_any (r := none) hm hB hnd hQ h
theorem tail_round {id : Nat} {a : Act} {w : World} {ol : List Oper} (n : Nat) (hm : P.follows .mixedOrders = true) (hB : Region.lexTailB .any ol.toArray n = true) (hnd : noDefer ol.toArray = true) (hQ : ∀ a w, ¬ Q .outgrown a w)
    (h : wpStill P ol.toArray w.drew (fun a' => wpList P ol.toArray Q (ol.drop n) a' w.drew) (ol.take n) a) : (Code.region id ol.toArray true).wpIn (Fence.wide.inRound l) 0 P Q a w :=
  tail_any (r := some l) n hm hB hnd hQ h
theorem tail_wide {id : Nat} {a : Act} {w : World} {ol : List Oper} (n : Nat) (hm : P.follows .mixedOrders = true) (hB : Region.lexTailB .any ol.toArray n = true) (hnd : noDefer ol.toArray = true) (hQ : ∀ a w, ¬ Q .outgrown a w)
    (h : wpStill P ol.toArray w.drew (fun a' => wpList P ol.toArray Q (ol.drop n) a' w.drew) (ol.take n) a) : (Code.region id ol.toArray true).wpIn Fence.wide 0 P Q a w :=
  tail_any (r := none) n hm hB hnd hQ h
theorem tail_roundN {id : Nat} {a : Act} {w : World} {ol : List Oper} (n : Nat) {k : Nat} (hm : P.follows .mixedOrders = true) (hB : Region.lexTailB .any ol.toArray n = true) (hnd : noDefer ol.toArray = true) (hQ : ∀ a w, ¬ Q .outgrown a w)
    (h : wpStill P ol.toArray (w.drewN (k + 1)) (fun a' => wpList P ol.toArray Q (ol.drop n) a' (w.drewN (k + 1))) (ol.take n) a) : (Code.region id ol.toArray true).wpIn (Fence.wide.inRound l) 0 P Q a (w.drewN k) :=
  tail_round n hm hB hnd hQ h
end
end B
end Go.Proofs.Ytapfndjaimfcaaa
