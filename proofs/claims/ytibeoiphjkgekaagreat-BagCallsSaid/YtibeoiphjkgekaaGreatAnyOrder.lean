/-
  A region that draws its order and holds calls whose results are known by what they are good for alone: one obligation for each operation, from what it waits for.
-/
import Derived.BigQuiet
import Derived.Test.YtibeoiphjkgekaaGreatBase
namespace Go.Proofs.YtibeoiphjkgekaaGreat
namespace B
open Go.RowKit
set_option linter.unusedVariables false
/-- how a world may have turned -/
structure Rel (R : World → World → Prop) : Prop where
  refl : ∀ w, R w w
  trans : ∀ a b c, R a b → R b c → R a c
  draw : ∀ w : World, R w { w with drawn := w.drawn + 1 }
theorem relBelow : Rel fun w w' => Below w.heap.size w w' := ⟨fun w => Below.refl _ w, fun _ _ _ h k => h.trans (k.mono h.size), fun _ => ⟨rfl, rfl, rfl, Nat.le_refl _, fun _ _ => rfl⟩⟩
section
variable {P : Program} {R : World → World → Prop}
/-- what is known of slots that an operation waits for -/
def Deps (I : List (Value → World → Prop)) (es : List Edge) (x : Nat → Value) (w : World) : Prop := ∀ e ∈ es, Region.binds .any e = true → ∀ J, I[e.on]? = some J → J (x e.on) w
def upd (x : Nat → Value) (i : Nat) (v : Value) : Nat → Value := fun k => if k = i then v else x k
/-- one operation, wherever it comes up: what it waits for is known; it leaves J -/
def Duty (R : World → World → Prop) (P : Program) (ops : Array Oper) (A : (Nat → Value) → Act) (w0 : World) (Q : Exit → Act → World → Prop) (o : Oper) (D : (Nat → Value) → World → Prop) (J : Value → World → Prop) : Prop :=
  ∀ x w, R w0 w → D x w → ∀ K : Act → World → Prop, (∀ v w', R w w' → J v w' → K ((A x).put o.dst v) w') →
    if Region.wanted o (yielded ops (A x).tmps) then o.wp P (A x) w K Q else K ((A x).put o.dst undef) w
/-- all operations, in the text's order -/
def OpsOk (R : World → World → Prop) (P : Program) (ops : Array Oper) (A : (Nat → Value) → Act) (w0 : World) (Q : Exit → Act → World → Prop) : List (Value → World → Prop) → List Oper → Prop
  | I, [] => ∀ x w, R w0 w → (∀ (i : Nat) (J : Value → World → Prop), I[i]? = some J → J (x i) w) → Q .normal (A x) w
  | I, o :: rest => ∃ J : Value → World → Prop, (∀ v w w', R w w' → J v w → J v w') ∧ Duty R P ops A w0 Q o (Deps I o.after.toList) J ∧ OpsOk R P ops A w0 Q (I ++ [J]) rest
theorem opsOk_all {ops : Array Oper} {A : (Nat → Value) → Act} {w0 : World} {Q : Exit → Act → World → Prop} : ∀ (l : List Oper) (I : List (Value → World → Prop)),
    (∀ (j : Nat) (J : Value → World → Prop), I[j]? = some J → ∀ v w w', R w w' → J v w → J v w') → OpsOk R P ops A w0 Q I l →
    ∃ I', (∃ r, I' = I ++ r) ∧ I'.length = I.length + l.length ∧ (∀ (j : Nat) (J : Value → World → Prop), I'[j]? = some J → ∀ v w w', R w w' → J v w → J v w') ∧
      (∀ (k : Nat) (o : Oper), l[k]? = some o → ∃ J, I'[I.length + k]? = some J ∧ Duty R P ops A w0 Q o (Deps (I'.take (I.length + k)) o.after.toList) J) ∧
      (∀ x w, R w0 w → (∀ (i : Nat) (J : Value → World → Prop), I'[i]? = some J → J (x i) w) → Q .normal (A x) w) := by
  intro l
  induction l with
  | nil => intro I hI h; exact ⟨I, ⟨[], by simp⟩, by simp, hI, fun k o ho => by simp at ho, h⟩
  | cons o r ih =>
    intro I hI h
    obtain ⟨J, hJ, hd, h⟩ := h
    obtain ⟨I', ⟨s, hs⟩, h2, h3, h4, h5⟩ := ih (I ++ [J]) (fun j K hK => by
      rw [List.getElem?_append] at hK
      split at hK
      · exact hI j K hK
      · rename_i hj
        have : j - I.length = 0 ∨ 1 ≤ j - I.length := by omega
        rcases this with e | e
        · rw [e] at hK; simp at hK; subst hK; exact hJ
        · rw [List.getElem?_eq_none (by simpa using e)] at hK; cases hK) h
    refine ⟨I', ⟨[J] ++ s, by rw [hs, List.append_assoc]⟩, by simp at h2; simp; omega, h3, fun k o' ho => ?_, h5⟩
    cases k with
    | zero =>
      simp at ho
      subst ho
      have e1 : I'[I.length]? = some J := by rw [hs, List.append_assoc, List.getElem?_append_right (Nat.le_refl _)]; simp
      have e2 : I'.take I.length = I := by rw [hs, List.append_assoc, List.take_left]
      exact ⟨J, e1, by simpa [e2] using hd⟩
    | succ k =>
      obtain ⟨J', e1, e2⟩ := h4 k o' (by simpa using ho)
      simp only [List.length_append, List.length_cons, List.length_nil, Nat.zero_add] at e1 e2
      have e : I.length + (k + 1) = I.length + 1 + k := by omega
      exact ⟨J', by rw [e]; exact e1, by rw [e]; exact e2⟩
def edgesB (ops : Array Oper) : Bool := ops.toList.zipIdx.all fun p => p.1.after.toList.all fun e => decide (e.on < p.2)
theorem edgesB_at {ops : Array Oper} (h : edgesB ops = true) {i : Nat} {o : Oper} (ho : ops[i]? = some o) : ∀ e ∈ o.after.toList, e.on < i := by
  intro e he
  unfold edgesB at h
  rw [List.all_eq_true] at h
  have h1 := h (o, i) (by rw [List.mem_zipIdx_iff_getElem?]; simpa using ho)
  rw [List.all_eq_true] at h1
  simpa using h1 e he
def unlisted (ops : Array Oper) (listed : Array Bool) : List Nat := (List.range ops.size).filter fun i => !listed.getD i true
theorem unlisted_set {ops : Array Oper} {listed : Array Bool} {i : Nat} (hi : i < ops.size) (hu : listed.getD i true = false) : (unlisted ops (listed.setIfInBounds i true)).length < (unlisted ops listed).length := by
  have hsub : (unlisted ops (listed.setIfInBounds i true)).Sublist (unlisted ops listed) := by
    have e : unlisted ops (listed.setIfInBounds i true) = (unlisted ops listed).filter fun k => !(listed.setIfInBounds i true).getD k true := by
      unfold unlisted
      rw [List.filter_filter]
      refine List.filter_congr fun k _ => ?_
      by_cases e : i = k
      · subst e; simp [hu]
      · rw [getD_set_ne true e]; simp
    rw [e]
    exact List.filter_sublist
  refine Nat.lt_of_le_of_ne hsub.length_le fun e => ?_
  have e2 := hsub.eq_of_length e
  have m : i ∈ unlisted ops listed := by unfold unlisted; rw [List.mem_filter, List.mem_range]; exact ⟨hi, by simp [hu]⟩
  rw [← e2] at m
  unfold unlisted at m
  rw [List.mem_filter] at m
  have hs : i < listed.size := by
    rcases Nat.lt_or_ge i listed.size with h | h
    · exact h
    · simp [Array.getElem?_eq_none h] at hu
  simp [hs] at m
theorem anyInv (hR : Rel R) {ops : Array Oper} {A : (Nat → Value) → Act} {w0 : World} {Q : Exit → Act → World → Prop} (hE : edgesB ops = true)
    (hput : ∀ (i : Nat) (o : Oper), ops[i]? = some o → ∀ x v, (A x).put o.dst v = A (upd x i v)) (I : List (Value → World → Prop)) (hl : I.length = ops.size)
    (hst : ∀ (j : Nat) (J : Value → World → Prop), I[j]? = some J → ∀ v w w', R w w' → J v w → J v w')
    (hop : ∀ (k : Nat) (o : Oper), ops[k]? = some o → ∃ J, I[k]? = some J ∧ Duty R P ops A w0 Q o (Deps (I.take k) o.after.toList) J)
    (hQ : ∀ x w, R w0 w → (∀ (i : Nat) (J : Value → World → Prop), I[i]? = some J → J (x i) w) → Q .normal (A x) w) : ∀ (fuel : Nat) (listed : Array Bool) (x : Nat → Value) (w : World), listed.size = ops.size → R w0 w →
      (∀ (i : Nat) (J : Value → World → Prop), I[i]? = some J → listed.getD i true = true → J (x i) w) → (unlisted ops listed).length ≤ fuel → wpAny P .any ops Q fuel listed (A x) w := by
  have stuck : ∀ (listed : Array Bool), listed.size = ops.size → Region.ready .any ops listed = [] → ∀ i, i < ops.size → listed.getD i true = true := by
    intro listed hs hr i
    induction i using Nat.strongRecOn with
    | _ i ih =>
      intro hi
      cases hg : listed.getD i true with
      | true => rfl
      | false =>
        exfalso
        have ho : ops[i]? = some ops[i] := Array.getElem?_eq_getElem hi
        have : i ∈ Region.ready .any ops listed := mem_ready.2 ⟨hg, _, ho, fun e he hb => by
          have h1 := edgesB_at hE ho e (by simpa using he)
          have h2 := ih e.on h1 (by omega)
          have h3 : e.on < listed.size := by omega
          simp [h3] at h2 ⊢
          exact h2⟩
        rw [hr] at this
        cases this
  intro fuel
  induction fuel with
  | zero =>
    intro listed x w hs hb hI hu
    have hn : unlisted ops listed = [] := List.eq_nil_of_length_eq_zero (by omega)
    have hall : ∀ i, i < ops.size → listed.getD i true = true := by
      intro i hi
      cases hg : listed.getD i true with
      | true => rfl
      | false =>
        have : i ∈ unlisted ops listed := by unfold unlisted; rw [List.mem_filter, List.mem_range]; exact ⟨hi, by simp [hg]⟩
        rw [hn] at this; cases this
    refine ⟨?_, hQ x w hb fun i J hJ => hI i J hJ (hall i ?_)⟩
    · cases hr : Region.ready .any ops listed with
      | nil => rfl
      | cons j js =>
        obtain ⟨h1, o, h2, _⟩ := mem_ready.1 (show j ∈ Region.ready .any ops listed by rw [hr]; exact List.mem_cons_self)
        rw [hall j (Array.getElem?_eq_some_iff.1 h2).1] at h1
        cases h1
    · rw [← hl]; exact (List.getElem?_eq_some_iff.1 hJ).1
  | succ fuel ih =>
    intro listed x w hs hb hI hu
    refine ⟨fun hr => hQ x w hb fun i J hJ => hI i J hJ (stuck listed hs hr i (by rw [← hl]; exact (List.getElem?_eq_some_iff.1 hJ).1)), fun i hi => ?_⟩
    obtain ⟨hun, o, ho, hdeps⟩ := mem_ready.1 hi
    have hilt := (Array.getElem?_eq_some_iff.1 ho).1
    obtain ⟨J, hJ, hd⟩ := hop i o ho
    have hD : Deps (I.take i) o.after.toList x w := by
      intro e he hbd J' hJ'
      have hlt := edgesB_at hE ho e he
      rw [List.getElem?_take, if_pos hlt] at hJ'
      refine hI e.on J' hJ' ?_
      have h2 := hdeps e (by simpa using he) hbd
      have h3 : e.on < listed.size := by omega
      simp [h3] at h2 ⊢
      exact h2
    unfold wpOp
    simp only [ho]
    have hgo : ∀ v w', R w w' → J v w' → wpAny P .any ops Q fuel (listed.setIfInBounds i true) ((A x).put o.dst v) w' := by
      intro v w' hb' hJv
      rw [hput i o ho]
      refine ih (listed.setIfInBounds i true) (upd x i v) w' (by simpa using hs) (hR.trans _ _ _ hb hb') (fun j K hK hlj => ?_) (by have := unlisted_set hilt hun; omega)
      by_cases e : i = j
      · subst e
        rw [hJ] at hK; cases hK
        simpa [upd] using hJv
      · rw [getD_set_ne true e] at hlj
        have := hst j K hK _ _ _ hb' (hI j K hK hlj)
        simpa [upd, Ne.symm e] using this
    have h3 := hd x w hb hD _ hgo
    split
    · rename_i hw; rw [if_pos hw] at h3; exact .inl h3
    · rename_i hw; rw [if_neg hw] at h3; exact h3
theorem wp_region_inv (hR : Rel R) {id : Nat} {ops : List Oper} {a : Act} {w : World} {Q : Exit → Act → World → Prop} (A : (Nat → Value) → Act) (x0 : Nat → Value) (hA : A x0 = a) (hm : P.follows .mixedOrders = true)
    (hE : edgesB ops.toArray = true) (hput : ∀ (i : Nat) (o : Oper), ops[i]? = some o → ∀ x v, (A x).put o.dst v = A (upd x i v)) (h : OpsOk R P ops.toArray A w Q [] ops) : (Code.region id ops.toArray true).wp P Q a w := by
  subst hA
  refine wp_region_any hm ?_
  obtain ⟨I, _, h2, h3, h4, h5⟩ := opsOk_all ops [] (fun j J hJ => by simp at hJ) h
  refine anyInv hR (w0 := w) hE (fun i o ho => hput i o (by simpa using ho)) I (by simpa using h2) h3 (fun k o ho => by simpa using h4 k o (by simpa using ho)) h5 _ _ _ _ (by simp) (hR.draw w) ?_ ?_
  · intro i J hJ hl
    have hi := (List.getElem?_eq_some_iff.1 hJ).1
    have hi' : i < ops.toArray.size := by simp at h2 ⊢; omega
    have e : (Array.replicate ops.toArray.size false).getD i true = false := by
      unfold Array.getD
      rw [dif_pos (by simpa using hi')]
      simp
    rw [e] at hl
    cases hl
  · refine Nat.le_trans (List.length_filter_le _ _) (by simp)
/-- the frame with what the operations have left -/
def setAll (x : Nat → Value) : Nat → List Oper → Array Value → Array Value
  | _, [], t => t
  | i, o :: r, t => setAll x (i + 1) r (match o.dst with | some d => t.setIfInBounds d (x i) | none => t)
def dstsB : List Oper → Bool
  | [] => true
  | o :: r => (match o.dst with | some d => r.all fun p => p.dst != some d | none => true) && dstsB r
theorem setAll_set {x : Nat → Value} {d : Nat} {v : Value} : ∀ (l : List Oper) (i : Nat) (t : Array Value), (∀ p ∈ l, p.dst ≠ some d) → (setAll x i l t).setIfInBounds d v = setAll x i l (t.setIfInBounds d v)
  | [], _, _, _ => rfl
  | o :: r, i, t, h => by
    unfold setAll
    rw [setAll_set r (i + 1) _ fun p hp => h p (List.mem_cons_of_mem _ hp)]
    cases hd : o.dst with
    | none => rfl
    | some e =>
      have : e ≠ d := fun h' => h o List.mem_cons_self (by rw [hd, h'])
      simp only
      rw [Array.setIfInBounds_comm _ _ this]
theorem setAll_upd {x : Nat → Value} {v : Value} {i : Nat} : ∀ (l : List Oper) (k : Nat) (t : Array Value), (∀ j, k ≤ j → j < k + l.length → j ≠ i) → setAll (upd x i v) k l t = setAll x k l t
  | [], _, _, _ => rfl
  | o :: r, k, t, h => by
    unfold setAll
    have e : upd x i v k = x k := if_neg (h k (Nat.le_refl _) (by simp))
    rw [e]
    exact setAll_upd r (k + 1) _ fun j h1 h2 => h j (by omega) (by simp at h2 ⊢; omega)
theorem setAll_put {x : Nat → Value} {v : Value} {o : Oper} : ∀ (l : List Oper) (k i : Nat) (t : Array Value), dstsB l = true → l[i]? = some o →
    (match o.dst with | some d => (setAll x k l t).setIfInBounds d v | none => setAll x k l t) = setAll (upd x (k + i) v) k l t
  | [], _, i, _, _, ho => by simp at ho
  | p :: r, k, i, t, hd, ho => by
    unfold dstsB at hd
    rw [Bool.and_eq_true] at hd
    cases i with
    | zero =>
      simp at ho
      subst ho
      unfold setAll
      rw [setAll_upd r (k + 1) _ fun j h1 h2 => by omega]
      cases hp : p.dst with
      | none => rfl
      | some d =>
        simp only
        rw [setAll_set r _ _ fun q hq => by
          have h1 := hd.1
          rw [hp] at h1
          have := (List.all_eq_true.1 h1) q hq
          simpa using this]
        simp [upd]
    | succ i =>
      have h2 := setAll_put (x := x) (v := v) r (k + 1) i (match p.dst with | some d => t.setIfInBounds d (x k) | none => t) hd.2 (by simpa using ho)
      unfold setAll
      rw [h2, show k + 1 + i = k + (i + 1) by omega]
      have e : upd x (k + (i + 1)) v k = x k := if_neg (by omega)
      rw [e]
theorem setAll_own : ∀ (l : List Oper) (k : Nat) (t t0 : Array Value) (x : Nat → Value), (∀ i o d, l[i]? = some o → o.dst = some d → x (k + i) = t.getD d undef) → setAll x k l t = t
  | [], _, _, _, _, _ => rfl
  | o :: r, k, t, t0, x, h => by
    unfold setAll
    have e : (match o.dst with | some d => t.setIfInBounds d (x k) | none => t) = t := by
      cases hd : o.dst with
      | none => rfl
      | some d =>
        simp only
        have := h 0 o d rfl hd
        rw [Nat.add_zero] at this
        rw [this]
        refine Array.ext_getElem? fun i => ?_
        rw [Array.getElem?_setIfInBounds]
        split
        · rename_i hdi
          subst hdi
          by_cases hs : d < t.size
          · rw [if_pos hs]; simp [Array.getD, hs]
          · rw [if_neg hs, Array.getElem?_eq_none (Nat.le_of_not_lt hs)]
        · rfl
    rw [e]
    exact setAll_own r (k + 1) t t0 x fun i p d hp hd => by have := h (i + 1) p d (by simpa using hp) hd; rwa [show k + (i + 1) = k + 1 + i by omega] at this
theorem wp_region_inv2 (hR : Rel R) {id : Nat} {ops : List Oper} {a : Act} {w : World} {Q : Exit → Act → World → Prop} (hm : P.follows .mixedOrders = true)
    (hE : edgesB ops.toArray = true) (hD : dstsB ops = true) (arr : (Nat → Value) → Array Value) (hlit : ∀ x, setAll x 0 ops a.tmps = arr x)
    (h : OpsOk R P ops.toArray (fun x => { tmps := arr x, defers := a.defers }) w Q [] ops) : (Code.region id ops.toArray true).wp P Q a w := by
  have hA : (fun x => ({ tmps := arr x, defers := a.defers } : Act)) = fun x => { tmps := setAll x 0 ops a.tmps, defers := a.defers } := by funext x; rw [hlit]
  rw [hA] at h
  refine wp_region_inv hR _ (fun i => match (ops[i]?).bind (·.dst) with | some d => a.tmps.getD d undef | none => undef) ?_ hm hE ?_ h
  · show ({ tmps := _, defers := _ } : Act) = a
    rw [setAll_own ops 0 a.tmps a.tmps]
    intro i o d ho hd
    simp [ho, hd]
  · intro i o ho x v
    have := setAll_put (x := x) (v := v) ops 0 i a.tmps hD ho
    rw [Nat.zero_add] at this
    show Act.put _ o.dst v = ({ tmps := setAll (upd x i v) 0 ops a.tmps, defers := a.defers } : Act)
    rw [← this]
    unfold Act.put
    cases o.dst <;> rfl
theorem Deps.at_ {I : List (Value → World → Prop)} {es : List Edge} {x : Nat → Value} {w : World} (h : Deps I es x w) (k : Nat) {J : Value → World → Prop} (he : (es.any fun e => e.on == k && Region.binds .any e) = true) (hJ : I[k]? = some J) : J (x k) w := by
  obtain ⟨e, hm, h2⟩ := List.any_eq_true.1 he
  rw [Bool.and_eq_true] at h2
  obtain ⟨h3, h4⟩ := h2
  have h3 : e.on = k := by simpa using h3
  subst h3
  exact h e hm h4 J hJ
/-- which operation writes a slot -/
def dstIx (d : Nat) : Nat → List Oper → Option Nat
  | _, [] => none
  | i, o :: r => if o.dst = some d then some i else dstIx d (i + 1) r
theorem setAll_size {x : Nat → Value} : ∀ (l : List Oper) (i : Nat) (t : Array Value), (setAll x i l t).size = t.size
  | [], _, _ => rfl
  | o :: r, i, t => by
    unfold setAll
    rw [setAll_size r]
    cases o.dst <;> simp
def dstsIn (n : Nat) (l : List Oper) : Bool := l.all fun o => match o.dst with | some d => decide (d < n) | none => true
theorem setAll_getD {x : Nat → Value} {d : Nat} : ∀ (l : List Oper) (i : Nat) (t : Array Value), dstsB l = true → dstsIn t.size l = true →
    (setAll x i l t).getD d undef = match dstIx d i l with | some k => x k | none => t.getD d undef
  | [], _, _, _, _ => rfl
  | o :: r, i, t, h, hn => by
    unfold dstsB at h
    unfold dstsIn at hn
    rw [Bool.and_eq_true] at h
    rw [List.all_cons, Bool.and_eq_true] at hn
    unfold setAll dstIx
    by_cases e : o.dst = some d
    · rw [if_pos e]
      simp only [e]
      have h1 := h.1
      rw [e] at h1
      rw [← setAll_set r _ _ fun p hp => by have := List.all_eq_true.1 h1 p hp; simpa using this]
      have h2 := hn.1
      rw [e] at h2
      have h2 : d < t.size := of_decide_eq_true h2
      have h3 : d < ((setAll x (i + 1) r t).setIfInBounds d (x i)).size := by rw [Array.size_setIfInBounds, setAll_size]; exact h2
      unfold Array.getD
      rw [dif_pos h3]
      simp
    · rw [if_neg e]
      have h4 : dstsIn (match o.dst with | some d => t.setIfInBounds d (x i) | none => t).size r = true := by
        have : (match o.dst with | some d => t.setIfInBounds d (x i) | none => t).size = t.size := by cases o.dst <;> simp
        rw [this]; exact hn.2
      rw [setAll_getD r (i + 1) _ h.2 h4]
      cases dstIx d (i + 1) r with
      | some k => rfl
      | none =>
        simp only
        cases ho : o.dst with
        | none => rfl
        | some d' =>
          have hne : d' ≠ d := fun h' => e (by rw [ho, h'])
          simp only [Array.getD_eq_getD_getElem?]
          rw [Array.getElem?_setIfInBounds_ne hne]
/-- what an operand reads as, of what the operations have left -/
def evX (base : Act) (ops : List Oper) (x : Nat → Value) : Operand → Value
  | .tmp d => match dstIx d 0 ops with | some k => x k | none => base.tmps.getD d undef
  | t => base.eval t
def wantedX (o : Oper) (x : Nat → Value) : Bool := Region.wanted o fun j => match x j with | .bool b => some b | _ => none
def guardsB (n : Nat) (ops : List Oper) : Bool := ops.all fun o => match o.guard with | none => true | some (g, _) => (match (ops[g]?).bind (·.dst) with | some d => decide (d < n) && (dstIx d 0 ops == some g) | none => false)
/-- what one operation's run comes to -/
def Outcome (P : Program) (K : Value → World → Prop) : Result Next → Prop
  | .ok (.value v) w' => K v w'
  | .ok .skip w' => K undef w'
  | .ok (.enter f args) w' => Calls P f args w' fun e w'' => ∃ v, e = .returned v ∧ K v w''
  | _ => False
theorem Outcome.wp {P : Program} {o : Oper} {a : Act} {w : World} {K : Act → World → Prop} {Q : Exit → Act → World → Prop} (h : Outcome P (fun v w' => K (a.put o.dst v) w') ((execOp a.eval o).run P w)) : o.wp P a w K Q := by
  unfold Oper.wp
  generalize (execOp a.eval o).run P w = r at *
  cases r with
  | ok n w' =>
    cases n <;> simp only [Outcome] at h <;> simp only [Oper.upon]
    case value => exact h
    case skip => exact h
    case enter => exact h.mono fun e w'' ⟨v, he, hk⟩ => by subst he; exact hk
  | halt x w' => simp only [Outcome] at h
def Duty3 (R : World → World → Prop) (P : Program) (w0 : World) (base : Act) (ops : List Oper) (o : Oper) (D : (Nat → Value) → World → Prop) (J : Value → World → Prop) : Prop :=
  ∀ (x : Nat → Value) (w : World) (ev : Operand → Value), R w0 w → D x w → (∀ t, ev t = evX base ops x t) → ∀ K : Value → World → Prop, (∀ v w', R w w' → J v w' → K v w') →
    if wantedX o x then Outcome P K ((execOp ev o).run P w) else K undef w
def OpsOk3 (R : World → World → Prop) (P : Program) (w0 : World) (base : Act) (ops : List Oper) (F : (Nat → Value) → World → Prop) : List (Value → World → Prop) → List Oper → Prop
  | I, [] => ∀ x w, R w0 w → (∀ (i : Nat) (J : Value → World → Prop), I[i]? = some J → J (x i) w) → F x w
  | I, o :: rest => ∃ J : Value → World → Prop, (∀ v w w', R w w' → J v w → J v w') ∧ Duty3 R P w0 base ops o (Deps I o.after.toList) J ∧ OpsOk3 R P w0 base ops F (I ++ [J]) rest
theorem opsOk_of3 {w0 : World} {base : Act} {ops : List Oper} {Q : Exit → Act → World → Prop} (hD : dstsB ops = true) (hn : dstsIn base.tmps.size ops = true) (hg : guardsB base.tmps.size ops = true) : ∀ (l : List Oper) (I : List (Value → World → Prop)), (∀ o ∈ l, o ∈ ops) →
    OpsOk3 R P w0 base ops (fun x w => Q .normal { tmps := setAll x 0 ops base.tmps, defers := base.defers } w) I l → OpsOk R P ops.toArray (fun x => { tmps := setAll x 0 ops base.tmps, defers := base.defers }) w0 Q I l
  | [], I, _, h => h
  | o :: r, I, hl, ⟨J, h1, h2, h3⟩ => by
    refine ⟨J, h1, ?_, opsOk_of3 hD hn hg r _ (fun p hp => hl p (List.mem_cons_of_mem _ hp)) h3⟩
    intro x w hb hd K hK
    have hev : ∀ t, Act.eval { tmps := setAll x 0 ops base.tmps, defers := base.defers } t = evX base ops x t := by
      intro t
      cases t with
      | tmp d => exact setAll_getD ops 0 base.tmps hD hn
      | _ => rfl
    have hw : Region.wanted o (yielded ops.toArray (setAll x 0 ops base.tmps)) = wantedX o x := by
      unfold wantedX Region.wanted
      cases hgo : o.guard with
      | none => rfl
      | some q =>
        obtain ⟨g, b⟩ := q
        have h4 := List.all_eq_true.1 hg o (hl o List.mem_cons_self)
        rw [hgo] at h4
        simp only at h4 ⊢
        congr 1
        unfold yielded
        rw [List.getElem?_toArray]
        cases hdd : (ops[g]?).bind (·.dst) with
        | none => rw [hdd] at h4; cases h4
        | some d =>
          rw [hdd] at h4
          simp only [Bool.and_eq_true, decide_eq_true_eq, beq_iff_eq] at h4
          have h5 := setAll_getD (x := x) (d := d) ops 0 base.tmps hD hn
          rw [h4.2] at h5
          simp only at h5
          have h6 : d < (setAll x 0 ops base.tmps).size := by rw [setAll_size]; exact h4.1
          unfold Array.getD at h5
          rw [dif_pos h6] at h5
          simp only [Option.bind_some]
          have h7 : (setAll x 0 ops base.tmps)[d] = x g := h5
          rw [Array.getElem?_eq_getElem h6, h7]
          cases x g <;> rfl
    show if Region.wanted o (yielded ops.toArray (setAll x 0 ops base.tmps)) = true then _ else _
    rw [hw]
    have h4 := h2 x w _ hb hd hev (fun v w' => K (Act.put { tmps := setAll x 0 ops base.tmps, defers := base.defers } o.dst v) w') hK
    split
    · rename_i hw'
      rw [if_pos hw'] at h4
      exact Outcome.wp h4
    · rename_i hw'
      rw [if_neg hw'] at h4
      exact h4
/-- what is known, by number, the newest first -/
def look {α : Type} (k : Nat) : List (Nat × α) → Option α
  | [] => none
  | (i, J) :: r => if i = k then some J else look k r
def Deps4 (I : List (Nat × (Value → World → Prop))) (es : List Edge) (x : Nat → Value) (w : World) : Prop := ∀ e ∈ es, Region.binds .any e = true → ∀ J, look e.on I = some J → J (x e.on) w
def OpsOk4 (R : World → World → Prop) (P : Program) (w0 : World) (base : Act) (ops : List Oper) (F : (Nat → Value) → World → Prop) : Nat → List (Nat × (Value → World → Prop)) → List Oper → Prop
  | _, I, [] => ∀ x w, R w0 w → (∀ (i : Nat) (J : Value → World → Prop), look i I = some J → J (x i) w) → F x w
  | n, I, o :: rest => ∃ J : Value → World → Prop, (∀ v w w', R w w' → J v w → J v w') ∧ Duty3 R P w0 base ops o (Deps4 I o.after.toList) J ∧ OpsOk4 R P w0 base ops F (n + 1) ((n, J) :: I) rest
theorem opsOk3_of4 {w0 : World} {base : Act} {ops : List Oper} {F : (Nat → Value) → World → Prop} : ∀ (l : List Oper) (n : Nat) (I : List (Nat × (Value → World → Prop))) (I3 : List (Value → World → Prop)), I3.length = n → (∀ k, look k I = I3[k]?) →
    OpsOk4 R P w0 base ops F n I l → OpsOk3 R P w0 base ops F I3 l
  | [], _, I, I3, _, h, h4 => fun x w hb hI => h4 x w hb fun i J hJ => hI i J (by rw [← h]; exact hJ)
  | o :: r, n, I, I3, hn, h, ⟨J, h1, h2, h3⟩ => by
    refine ⟨J, h1, ?_, opsOk3_of4 r (n + 1) ((n, J) :: I) (I3 ++ [J]) (by simp [hn]) (fun k => ?_) h3⟩
    · intro x w ev hb hD
      exact h2 x w ev hb fun e he hbd J' hJ' => hD e he hbd J' (by rw [← h]; exact hJ')
    · unfold look
      by_cases e : n = k
      · rw [if_pos e, ← e, ← hn, List.getElem?_append_right (Nat.le_refl _)]; simp
      · rw [if_neg e, h k, List.getElem?_append]
        split
        · rfl
        · rename_i hk
          have h5 : k - I3.length ≠ 0 := by omega
          rw [List.getElem?_eq_none (by omega), List.getElem?_eq_none (by simp; omega)]
theorem Deps4.at_ {I : List (Nat × (Value → World → Prop))} {es : List Edge} {x : Nat → Value} {w : World} (h : Deps4 I es x w) (k : Nat) {J : Value → World → Prop} (he : (es.any fun e => e.on == k && Region.binds .any e) = true) (hJ : look k I = some J) : J (x k) w := by
  obtain ⟨e, hm, h2⟩ := List.any_eq_true.1 he
  rw [Bool.and_eq_true] at h2
  obtain ⟨h3, h4⟩ := h2
  have h3 : e.on = k := by simpa using h3
  subst h3
  exact h e hm h4 J hJ
theorem wp_region_inv3R (hR : Rel R) {id : Nat} {ops : List Oper} {a : Act} {w : World} {Q : Exit → Act → World → Prop} (hm : P.follows .mixedOrders = true)
    (hE : edgesB ops.toArray = true) (hD : dstsB ops = true) (hn : dstsIn a.tmps.size ops = true) (hg : guardsB a.tmps.size ops = true)
    (h : ∀ base O, base = a → O = ops → OpsOk4 R P w base O (fun x w' => Q .normal { tmps := setAll x 0 ops a.tmps, defers := a.defers } w') 0 [] ops) : (Code.region id ops.toArray true).wp P Q a w :=
  wp_region_inv2 hR hm hE hD (fun x => setAll x 0 ops a.tmps) (fun _ => rfl) (opsOk_of3 hD hn hg ops [] (fun _ h => h) (opsOk3_of4 ops 0 [] [] rfl (fun _ => rfl) (h a ops rfl rfl)))
theorem wp_region_inv3 {id : Nat} {ops : List Oper} {a : Act} {w : World} {Q : Exit → Act → World → Prop} (hm : P.follows .mixedOrders = true)
    (hE : edgesB ops.toArray = true) (hD : dstsB ops = true) (hn : dstsIn a.tmps.size ops = true) (hg : guardsB a.tmps.size ops = true)
    (h : ∀ base O, base = a → O = ops → OpsOk4 (fun w w' => Below w.heap.size w w') P w base O (fun x w' => Q .normal { tmps := setAll x 0 ops a.tmps, defers := a.defers } w') 0 [] ops) : (Code.region id ops.toArray true).wp P Q a w :=
  wp_region_inv3R relBelow hm hE hD hn hg h
section
variable {w0 : World} {base : Act} {ops : List Oper} {F : (Nat → Value) → World → Prop} {n : Nat} {I : List (Nat × (Value → World → Prop))} {o : Oper} {rest : List Oper}
theorem ok_det (c : Value) (h : Duty3 R P w0 base ops o (Deps4 I o.after.toList) (fun v _ => v = c)) (h2 : OpsOk4 R P w0 base ops F (n + 1) ((n, fun v _ => v = c) :: I) rest) : OpsOk4 R P w0 base ops F n I (o :: rest) :=
  ⟨_, fun _ _ _ _ h => h, h, h2⟩
theorem ok_any (J : Value → World → Prop) (hs : ∀ v w w', R w w' → J v w → J v w') (h : Duty3 R P w0 base ops o (Deps4 I o.after.toList) J) (h2 : OpsOk4 R P w0 base ops F (n + 1) ((n, J) :: I) rest) : OpsOk4 R P w0 base ops F n I (o :: rest) :=
  ⟨J, hs, h, h2⟩
/-- the operation is wanted -/
theorem wantedX_none {x : Nat → Value} (h : o.guard = none) : wantedX o x = true := by unfold wantedX Region.wanted; rw [h]
theorem wantedX_yes {x : Nat → Value} (g : Nat) (b : Bool) (h : o.guard = some (g, b)) (hx : x g = .bool b) : wantedX o x = true := by unfold wantedX Region.wanted; rw [h]; simp [hx]
theorem wantedX_no {x : Nat → Value} (g : Nat) (b : Bool) (h : o.guard = some (g, !b)) (hx : x g = .bool b) : wantedX o x = false := by unfold wantedX Region.wanted; rw [h]; simp [hx]
end
end
end B
end Go.Proofs.YtibeoiphjkgekaaGreat
