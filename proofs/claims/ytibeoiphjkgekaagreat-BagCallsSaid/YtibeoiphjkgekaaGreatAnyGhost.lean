/-
  A region that draws its order and turns its own memory more than once: one duty an operation, with a ghost that says, of the operations done so far and of what they left, what the world is.
-/
import Derived.Test.YtibeoiphjkgekaaGreatAnyOrder
namespace Go.Proofs.YtibeoiphjkgekaaGreat
namespace B
open Go.RowKit
set_option linter.unusedVariables false
section
variable {P : Program} {G : (Nat → Bool) → (Nat → Value) → World → Prop}
def updB (l : Nat → Bool) (i : Nat) : Nat → Bool := fun k => if k = i then true else l k
def DutyG (G : (Nat → Bool) → (Nat → Value) → World → Prop) (P : Program) (base : Act) (ops : List Oper) (n : Nat) (o : Oper) (D : (Nat → Value) → Prop) (J : Value → Prop) : Prop :=
  ∀ (l : Nat → Bool) (x : Nat → Value) (w : World) (ev : Operand → Value), G l x w → D x → l n = false → (∀ e ∈ o.after.toList, Region.binds .any e = true → l e.on = true) → (∀ t, ev t = evX base ops x t) →
    ∀ K : Value → World → Prop, (∀ v w', J v → G (updB l n) (upd x n v) w' → K v w') → if wantedX o x then Outcome P K ((execOp ev o).run P w) else K undef w
def DepsG (I : List (Nat × (Value → Prop))) (es : List Edge) (x : Nat → Value) : Prop := ∀ e ∈ es, Region.binds .any e = true → ∀ J, look e.on I = some J → J (x e.on)
def OpsOkG (G : (Nat → Bool) → (Nat → Value) → World → Prop) (P : Program) (base : Act) (ops : List Oper) (F : (Nat → Value) → World → Prop) : Nat → List (Nat × (Value → Prop)) → List Oper → Prop
  | _, I, [] => ∀ x w, G (fun _ => true) x w → (∀ (i : Nat) (J : Value → Prop), look i I = some J → J (x i)) → F x w
  | n, I, o :: rest => ∃ J : Value → Prop, DutyG G P base ops n o (DepsG I o.after.toList) J ∧ OpsOkG G P base ops F (n + 1) ((n, J) :: I) rest
theorem opsOkG_all {base : Act} {ops : List Oper} {F : (Nat → Value) → World → Prop} : ∀ (l : List Oper) (n : Nat) (I : List (Nat × (Value → Prop))), (∀ i J, look i I = some J → i < n) → OpsOkG G P base ops F n I l →
    ∃ Jf : Nat → Value → Prop, (∀ i J, look i I = some J → Jf i = J) ∧ (∀ (k : Nat) (o : Oper), l[k]? = some o → DutyG G P base ops (n + k) o (fun x => ∀ e ∈ o.after.toList, Region.binds .any e = true → e.on < n + k → Jf e.on (x e.on)) (Jf (n + k))) ∧
      (∀ x w, G (fun _ => true) x w → (∀ i, i < n + l.length → Jf i (x i)) → F x w)
  | [], n, I, hI, h => ⟨fun i => (look i I).getD fun _ => True, fun i J hJ => by show (look i I).getD _ = J; rw [hJ]; rfl, fun k o ho => by simp at ho, fun x w hG hx => h x w hG fun i J hJ => by
      have := hx i (by have := hI i J hJ; simp; omega)
      simp only [hJ, Option.getD_some] at this; exact this⟩
  | o :: r, n, I, hI, ⟨J, h1, h2⟩ => by
    have hne : ∀ i J', look i I = some J' → look i ((n, J) :: I) = some J' := fun i J' h => by
      have := hI i J' h
      unfold look; rw [if_neg (by omega)]; exact h
    obtain ⟨Jf, e1, e2, e3⟩ := opsOkG_all r (n + 1) ((n, J) :: I) (fun i J' hJ' => by
      unfold look at hJ'
      split at hJ'
      · omega
      · have := hI i J' hJ'; omega) h2
    have en : Jf n = J := e1 n J (by unfold look; rw [if_pos rfl])
    refine ⟨Jf, fun i J' hJ' => e1 i J' (hne i J' hJ'), fun k o' ho => ?_, fun x w hG hx => e3 x w hG fun i hi => hx i (by simp at hi ⊢; omega)⟩
    cases k with
    | zero =>
      simp at ho
      subst ho
      rw [Nat.add_zero, en]
      intro l x w ev hG hD
      exact h1 l x w ev hG fun e he hb J' hJ' => by
        have := hD e he hb (hI _ _ hJ')
        rw [e1 _ _ (hne _ _ hJ')] at this; exact this
    | succ k =>
      have := e2 k o' (by simpa using ho)
      rw [show n + 1 + k = n + (k + 1) by omega] at this
      exact this
/-- no operation waits for one behind it -/
def edgesC (ops : Array Oper) : Bool := ops.toList.zipIdx.all fun p => p.1.after.toList.all fun e => !Region.binds .any e || decide (e.on < p.2)
theorem edgesC_at {ops : Array Oper} (h : edgesC ops = true) {i : Nat} {o : Oper} (ho : ops[i]? = some o) : ∀ e ∈ o.after.toList, Region.binds .any e = true → e.on < i := by
  intro e he hb
  unfold edgesC at h
  rw [List.all_eq_true] at h
  have h1 := h (o, i) (by rw [List.mem_zipIdx_iff_getElem?]; simpa using ho)
  rw [List.all_eq_true] at h1
  have h2 := h1 e he
  rw [hb] at h2
  simpa using h2
theorem anyGhost {ops : List Oper} {a : Act} {Q : Exit → Act → World → Prop} (hE : edgesC ops.toArray = true) (hD : dstsB ops = true) (hn : dstsIn a.tmps.size ops = true) (hg : guardsB a.tmps.size ops = true) (Jf : Nat → Value → Prop)
    (hop : ∀ (k : Nat) (o : Oper), ops[k]? = some o → DutyG G P a ops k o (fun x => ∀ e ∈ o.after.toList, Region.binds .any e = true → e.on < k → Jf e.on (x e.on)) (Jf k))
    (hQ : ∀ x w, G (fun _ => true) x w → (∀ i, i < ops.length → Jf i (x i)) → Q .normal { tmps := setAll x 0 ops a.tmps, defers := a.defers } w) : ∀ (fuel : Nat) (listed : Array Bool) (x : Nat → Value) (w : World), listed.size = ops.length → G (fun i => listed.getD i true) x w →
      (∀ i, i < ops.length → listed.getD i true = true → Jf i (x i)) → (unlisted ops.toArray listed).length ≤ fuel → wpAny P .any ops.toArray Q fuel listed { tmps := setAll x 0 ops a.tmps, defers := a.defers } w := by
  have stuck : ∀ (listed : Array Bool), listed.size = ops.length → Region.ready .any ops.toArray listed = [] → ∀ i, i < ops.length → listed.getD i true = true := by
    intro listed hs hr i
    induction i using Nat.strongRecOn with
    | _ i ih =>
      intro hi
      cases hg : listed.getD i true with
      | true => rfl
      | false =>
        exfalso
        have ho : ops.toArray[i]? = some ops[i] := by simp [hi]
        have : i ∈ Region.ready .any ops.toArray listed := mem_ready.2 ⟨hg, _, ho, fun e he hb => by
          have h1 := edgesC_at hE ho e (by simpa using he) hb
          have h2 := ih e.on h1 (by omega)
          have h3 : e.on < listed.size := by omega
          simp [h3] at h2 ⊢
          exact h2⟩
        rw [hr] at this
        cases this
  have full : ∀ (listed : Array Bool), listed.size = ops.length → (∀ i, i < ops.length → listed.getD i true = true) → (fun i => listed.getD i true) = fun _ => true := by
    intro listed hs h
    funext i
    by_cases hi : i < ops.length
    · exact h i hi
    · unfold Array.getD; rw [dif_neg (by omega)]
  intro fuel
  induction fuel with
  | zero =>
    intro listed x w hs hG hI hu
    have hnil : unlisted ops.toArray listed = [] := List.eq_nil_of_length_eq_zero (by omega)
    have hall : ∀ i, i < ops.length → listed.getD i true = true := by
      intro i hi
      cases hg : listed.getD i true with
      | true => rfl
      | false =>
        have : i ∈ unlisted ops.toArray listed := by unfold unlisted; rw [List.mem_filter, List.mem_range]; exact ⟨by simpa using hi, by simp [hg]⟩
        rw [hnil] at this; cases this
    rw [full listed hs hall] at hG
    refine ⟨?_, hQ x w hG fun i hi => hI i hi (hall i hi)⟩
    cases hr : Region.ready .any ops.toArray listed with
    | nil => rfl
    | cons j js =>
      obtain ⟨h1, o, h2, _⟩ := mem_ready.1 (show j ∈ Region.ready .any ops.toArray listed by rw [hr]; exact List.mem_cons_self)
      rw [hall j (by simpa using (Array.getElem?_eq_some_iff.1 h2).1)] at h1
      cases h1
  | succ fuel ih =>
    intro listed x w hs hG hI hu
    refine ⟨fun hr => by have hall := stuck listed hs hr; rw [full listed hs hall] at hG; exact hQ x w hG fun i hi => hI i hi (hall i hi), fun i hi => ?_⟩
    obtain ⟨hun, o, ho, hdeps⟩ := mem_ready.1 hi
    have hilt : i < ops.length := by simpa using (Array.getElem?_eq_some_iff.1 ho).1
    have ho' : ops[i]? = some o := by simpa using ho
    have hdl : ∀ e ∈ o.after.toList, Region.binds .any e = true → listed.getD e.on true = true := by
      intro e he hbd
      have hlt := edgesC_at hE ho e he hbd
      have h2 := hdeps e (by simpa using he) hbd
      have h3 : e.on < listed.size := by omega
      simp [h3] at h2 ⊢
      exact h2
    unfold wpOp
    simp only [ho]
    have hgo : ∀ v w', Jf i v → G (updB (fun i => listed.getD i true) i) (upd x i v) w' → wpAny P .any ops.toArray Q fuel (listed.setIfInBounds i true) (Act.put { tmps := setAll x 0 ops a.tmps, defers := a.defers } o.dst v) w' := by
      intro v w' hJv hG'
      have hput : Act.put { tmps := setAll x 0 ops a.tmps, defers := a.defers } o.dst v = ({ tmps := setAll (upd x i v) 0 ops a.tmps, defers := a.defers } : Act) := by
        have := setAll_put (x := x) (v := v) ops 0 i a.tmps hD ho'
        rw [Nat.zero_add] at this
        rw [← this]
        unfold Act.put
        cases o.dst <;> rfl
      rw [hput]
      have hl : (fun j => (listed.setIfInBounds i true).getD j true) = updB (fun i => listed.getD i true) i := by
        funext j
        unfold updB
        by_cases e : j = i
        · subst e
          rw [if_pos rfl]
          unfold Array.getD
          split
          · simp
          · rfl
        · rw [if_neg e, getD_set_ne true (fun h => e h.symm)]
      refine ih (listed.setIfInBounds i true) (upd x i v) w' (by simpa using hs) (by rw [hl]; exact hG') (fun j hj hlj => ?_) (by have := unlisted_set (ops := ops.toArray) (by simpa using hilt) hun; omega)
      by_cases e : j = i
      · subst e; simpa [upd] using hJv
      · rw [getD_set_ne true (fun h => e h.symm)] at hlj
        simpa [upd, e] using hI j hj hlj
    have hev : ∀ t, Act.eval { tmps := setAll x 0 ops a.tmps, defers := a.defers } t = evX a ops x t := by
      intro t
      cases t with
      | tmp d => exact setAll_getD ops 0 a.tmps hD hn
      | _ => rfl
    have hw : Region.wanted o (yielded ops.toArray (setAll x 0 ops a.tmps)) = wantedX o x := by
      unfold wantedX Region.wanted
      cases hgo : o.guard with
      | none => rfl
      | some q =>
        obtain ⟨g, b⟩ := q
        have h4 := List.all_eq_true.1 hg o (List.mem_of_getElem? ho')
        rw [hgo] at h4
        simp only at h4 ⊢
        congr 1
        unfold yielded
        rw [List.getElem?_toArray]
        cases hdd : (ops[g]?).bind (·.dst) with
        | none => rw [hdd] at h4; cases h4
        | some d =>
          rw [hdd] at h4
          simp only [Bool.and_eq_true, decide_eq_true_eq, beq_iff_eq] at h4
          have h5 := setAll_getD (x := x) (d := d) ops 0 a.tmps hD hn
          rw [h4.2] at h5
          simp only at h5
          have h6 : d < (setAll x 0 ops a.tmps).size := by rw [setAll_size]; exact h4.1
          unfold Array.getD at h5
          rw [dif_pos h6] at h5
          simp only [Option.bind_some]
          have h7 : (setAll x 0 ops a.tmps)[d] = x g := h5
          rw [Array.getElem?_eq_getElem h6, h7]
          cases x g <;> rfl
    have h3 := hop i o ho' (fun i => listed.getD i true) x w _ hG (fun e he hb hlt => hI e.on (by omega) (hdl e he hb)) hun hdl hev _ hgo
    show (if Region.wanted o (yielded ops.toArray (setAll x 0 ops a.tmps)) = true then _ else _)
    rw [hw]
    split
    · rename_i hw'; rw [if_pos hw'] at h3; exact .inl (Outcome.wp h3)
    · rename_i hw'; rw [if_neg hw'] at h3; exact h3
theorem wp_region_ghost (G : (Nat → Bool) → (Nat → Value) → World → Prop) {id : Nat} {ops : List Oper} {a : Act} {w : World} {Q : Exit → Act → World → Prop} (hm : P.follows .mixedOrders = true)
    (hE : edgesC ops.toArray = true) (hD : dstsB ops = true) (hn : dstsIn a.tmps.size ops = true) (hg : guardsB a.tmps.size ops = true) (h0 : ∀ x, G (fun i => decide (ops.length ≤ i)) x { w with drawn := w.drawn + 1 })
    (h : ∀ base O, base = a → O = ops → OpsOkG G P base O (fun x w' => Q .normal { tmps := setAll x 0 ops a.tmps, defers := a.defers } w') 0 [] ops) : (Code.region id ops.toArray true).wp P Q a w := by
  refine wp_region_any hm ?_
  obtain ⟨Jf, _, e2, e3⟩ := opsOkG_all ops 0 [] (fun i J h => by cases h) (h a ops rfl rfl)
  have hA : ({ tmps := setAll (fun i => match (ops[i]?).bind (·.dst) with | some d => a.tmps.getD d undef | none => undef) 0 ops a.tmps, defers := a.defers } : Act) = a := by
    rw [setAll_own ops 0 a.tmps a.tmps]
    intro i o d ho hd
    simp [ho, hd]
  have key := anyGhost (P := P) (G := G) (Q := Q) (a := a) hE hD hn hg Jf (fun k o ho => by simpa using e2 k o ho) (fun x w' hG hx => e3 x w' hG fun i hi => hx i (by omega))
    ops.toArray.size (Array.replicate ops.toArray.size false) (fun i => match (ops[i]?).bind (·.dst) with | some d => a.tmps.getD d undef | none => undef) { w with drawn := w.drawn + 1 } (by simp) ?_ ?_ ?_
  · rw [hA] at key; exact key
  · have e : (fun i => (Array.replicate ops.toArray.size false).getD i true) = fun i => decide (ops.length ≤ i) := by
      funext i
      unfold Array.getD
      split
      · rename_i h1
        have h1 : i < ops.length := by simpa using h1
        rw [decide_eq_false (by omega)]; simp
      · rename_i h1
        have h1 : ¬ i < ops.length := by simpa using h1
        rw [decide_eq_true (by omega)]
    rw [e]; exact h0 _
  · intro i hi hl
    have e : (Array.replicate ops.toArray.size false).getD i true = false := by
      unfold Array.getD
      rw [dif_pos (by simpa using hi)]
      simp
    rw [e] at hl; cases hl
  · exact Nat.le_trans (List.length_filter_le _ _) (by simp)
section
variable {base : Act} {ops : List Oper} {F : (Nat → Value) → World → Prop} {n : Nat} {I : List (Nat × (Value → Prop))} {o : Oper} {rest : List Oper}
theorem gh_det (c : Value) (h : DutyG G P base ops n o (DepsG I o.after.toList) (fun v => v = c)) (h2 : OpsOkG G P base ops F (n + 1) ((n, fun v => v = c) :: I) rest) : OpsOkG G P base ops F n I (o :: rest) := ⟨_, h, h2⟩
theorem gh_any (J : Value → Prop) (h : DutyG G P base ops n o (DepsG I o.after.toList) J) (h2 : OpsOkG G P base ops F (n + 1) ((n, J) :: I) rest) : OpsOkG G P base ops F n I (o :: rest) := ⟨J, h, h2⟩
theorem DepsG.at_ {es : List Edge} {x : Nat → Value} (h : DepsG I es x) (k : Nat) {J : Value → Prop} (he : (es.any fun e => e.on == k && Region.binds .any e) = true) (hJ : look k I = some J) : J (x k) := by
  obtain ⟨e, hm, h2⟩ := List.any_eq_true.1 he
  rw [Bool.and_eq_true] at h2
  obtain ⟨h3, h4⟩ := h2
  have h3 : e.on = k := by simpa using h3
  subst h3
  exact h e hm h4 J hJ
theorem done_of {es : List Edge} {l : Nat → Bool} (h : ∀ e ∈ es, Region.binds .any e = true → l e.on = true) (k : Nat) (he : (es.any fun e => e.on == k && Region.binds .any e) = true) : l k = true := by
  obtain ⟨e, hm, h2⟩ := List.any_eq_true.1 he
  rw [Bool.and_eq_true] at h2
  obtain ⟨h3, h4⟩ := h2
  have h3 : e.on = k := by simpa using h3
  subst h3
  exact h e hm h4
/-- append in a duty -/
theorem outcome_append {P : Program} {o : Oper} {ev : Operand → Value} {w : World} {K : Value → World → Prop} (s x : Operand) (t : TypeId) (hop : o.op = Op.call { callee := Callee.builtin Builtin.append, args := #[s, x], argTypes := #[t, t] }) {v u v' : Value} {w' : World}
    (hs : ev s = v) (hx : ev x = u) (hrun : (Builtin.append_ #[t, t] o.type #[v, u]).run P w = .ok v' w') (hK : K v' w') : Outcome P K ((execOp ev o).run P w) := by
  unfold execOp
  simp only [hop, resolve, invoke, builtin, Sem.run_bind, Sem.run_pure, Result.andThen_ok, List.map_toArray, List.map_cons, List.map_nil, hs, hx, hrun]
  exact hK
end
end
end B
end Go.Proofs.YtibeoiphjkgekaaGreat
