/-
  A drawn region whose first operations come up in whatever order, and whose last ones wait for all of them and come one behind the other.
-/
import Derived.StillTailTactics
import Derived.Test.YtibeoiphjkgekaaGreatAnyOrder
namespace Go.Proofs.YtibeoiphjkgekaaGreat
namespace B
open Go.RowKit
set_option linter.unusedVariables false
section
variable {P : Program} {R : World → World → Prop}
/-- does operation k wait for operation i? -/
def waitsB (ops : Array Oper) (k i : Nat) : Bool := ((ops[k]?).map fun o => o.after.toList.any fun e => e.on == i && Region.binds .any e).getD false
theorem waitsB_at {ops : Array Oper} {k i : Nat} (h : waitsB ops k i = true) {o : Oper} (ho : ops[k]? = some o) : ∃ e ∈ o.after, Region.binds .any e = true ∧ e.on = i := by
  unfold waitsB at h
  rw [ho] at h
  simp only [Option.map_some, Option.getD_some] at h
  obtain ⟨e, he, h3⟩ := List.any_eq_true.1 h
  rw [Bool.and_eq_true] at h3
  exact ⟨e, by simpa using he, h3.2, by simpa using h3.1⟩
/-- the operations from number n on wait for all ahead of them, and come one behind the other -/
def tailB (ops : Array Oper) (n : Nat) : Bool :=
  decide (n < ops.size) && (List.range n).all (fun m => (List.range (n - m)).any fun j => waitsB ops (m + 1 + j) m) && (List.range (ops.size - n - 1)).all (fun k => (List.range (k + 1)).any fun j => waitsB ops (n + 1 + k) (n + j)) &&
    Region.seqB .any ops (ops.size - n) n (Array.replicate n true ++ Array.replicate (ops.size - n) false)
theorem tailB_lt {ops : Array Oper} {n : Nat} (h : tailB ops n = true) : n < ops.size := by
  unfold tailB at h
  simp only [Bool.and_eq_true] at h
  simpa using h.1.1.1
/-- a tail's operation is not ready while a head's is not there -/
theorem tailB_wait {ops : Array Oper} {n : Nat} (h : tailB ops n = true) {listed : Array Bool} (hs : listed.size = ops.size) (htail : ∀ i, n ≤ i → i < ops.size → listed.getD i true = false)
    (hcl : ∀ (j : Nat) (o : Oper), ops[j]? = some o → listed.getD j true = true → ∀ e ∈ o.after, Region.binds .any e = true → listed.getD e.on false = true)
    {k : Nat} (hk : n ≤ k) (hk2 : k < ops.size) (hr : k ∈ Region.ready .any ops listed) : ∀ m, m < n → listed.getD m true = true := by
  have h' := h
  unfold tailB at h
  simp only [Bool.and_eq_true] at h
  obtain ⟨⟨⟨h0, h1⟩, h2⟩, _⟩ := h
  obtain ⟨hun, o, ho, hdeps⟩ := mem_ready.1 hr
  have hkn : k = n := by
    rcases Nat.lt_or_ge n k with hlt | hge
    · exfalso
      have h3 := List.all_eq_true.1 h2 (k - n - 1) (by rw [List.mem_range]; omega)
      obtain ⟨j, hj, h4⟩ := List.any_eq_true.1 h3
      rw [List.mem_range] at hj
      rw [show n + 1 + (k - n - 1) = k by omega] at h4
      obtain ⟨e, he, hbd, hon⟩ := waitsB_at h4 ho
      have h5 := hdeps e he hbd
      rw [hon] at h5
      have h6 := htail (n + j) (by omega) (by omega)
      have h7 : n + j < listed.size := by omega
      simp [h7] at h5 h6
      rw [h5] at h6; cases h6
    · omega
  subst hkn
  have key : ∀ d m, k - m = d → m < k → listed.getD m true = true := by
    intro d
    induction d using Nat.strongRecOn with
    | _ d ih =>
      intro m hd hm
      have h3 := List.all_eq_true.1 h1 m (by rw [List.mem_range]; exact hm)
      obtain ⟨j, hj, h4⟩ := List.any_eq_true.1 h3
      rw [List.mem_range] at hj
      have h7 : m < listed.size := by omega
      by_cases hjk : m + 1 + j = k
      · rw [hjk] at h4
        obtain ⟨e, he, hbd, hon⟩ := waitsB_at h4 ho
        have h5 := hdeps e he hbd
        rw [hon] at h5
        simp [h7] at h5 ⊢
        exact h5
      · have h8 := ih (k - (m + 1 + j)) (by omega) (m + 1 + j) rfl (by omega)
        have ho2 : ops[m + 1 + j]? = some ops[m + 1 + j] := Array.getElem?_eq_getElem (by omega)
        obtain ⟨e, he, hbd, hon⟩ := waitsB_at h4 ho2
        have h5 := hcl _ _ ho2 h8 e he hbd
        rw [hon] at h5
        simp [h7] at h5 ⊢
        exact h5
  exact fun m hm => key _ m rfl hm
def unl (n : Nat) (listed : Array Bool) : List Nat := (List.range n).filter fun i => !listed.getD i true
theorem unl_set {n : Nat} {listed : Array Bool} {i : Nat} (hi : i < n) (hs : i < listed.size) (hu : listed.getD i true = false) : (unl n (listed.setIfInBounds i true)).length + 1 = (unl n listed).length := by
  have hnd : (unl n listed).Nodup := List.nodup_range.filter _
  have hmem : i ∈ unl n listed := by unfold unl; rw [List.mem_filter, List.mem_range]; exact ⟨hi, by simp [hu]⟩
  have e : unl n (listed.setIfInBounds i true) = (unl n listed).erase i := by
    rw [hnd.erase_eq_filter]
    unfold unl
    rw [List.filter_filter]
    refine List.filter_congr fun k _ => ?_
    by_cases e : i = k
    · subst e; simp [hs]
    · rw [getD_set_ne true e]; simp [Ne.symm e]
  rw [e, List.length_erase_of_mem hmem]
  have := List.length_pos_of_mem hmem
  omega
theorem anyInvT (hR : Rel R) {ops : Array Oper} {A : (Nat → Value) → Act} {w0 : World} {Q : Exit → Act → World → Prop} {n : Nat} (hE : edgesB ops = true) (hT : tailB ops n = true)
    (hput : ∀ (i : Nat) (o : Oper), i < n → ops[i]? = some o → ∀ x v, (A x).put o.dst v = A (upd x i v)) (I : List (Value → World → Prop)) (hl : I.length = n)
    (hst : ∀ (j : Nat) (J : Value → World → Prop), I[j]? = some J → ∀ v w w', R w w' → J v w → J v w')
    (hop : ∀ (k : Nat) (o : Oper), k < n → ops[k]? = some o → ∃ J, I[k]? = some J ∧ Duty R P ops A w0 Q o (Deps (I.take k) o.after.toList) J)
    (hQ : ∀ x w, R w0 w → (∀ (i : Nat) (J : Value → World → Prop), I[i]? = some J → J (x i) w) → wpList P ops Q (ops.toList.drop n) (A x) w) : ∀ (fuel : Nat) (listed : Array Bool) (x : Nat → Value) (w : World), listed.size = ops.size → R w0 w →
      (∀ (i : Nat) (J : Value → World → Prop), I[i]? = some J → listed.getD i true = true → J (x i) w) → (∀ i, n ≤ i → i < ops.size → listed.getD i true = false) → (∀ (j : Nat) (o : Oper), ops[j]? = some o → listed.getD j true = true → ∀ e ∈ o.after, Region.binds .any e = true → listed.getD e.on false = true) → (unl n listed).length + (ops.size - n) = fuel → wpAny P .any ops Q fuel listed (A x) w := by
  have hle : n ≤ ops.size := Nat.le_of_lt (tailB_lt hT)
  have hall : ∀ (listed : Array Bool), listed.size = ops.size → (unl n listed) = [] → ∀ i, i < n → listed.getD i true = true := by
    intro listed hs h i hi
    cases hg : listed.getD i true with
    | true => rfl
    | false =>
      have : i ∈ unl n listed := by unfold unl; rw [List.mem_filter, List.mem_range]; exact ⟨hi, by simp [hg]⟩
      rw [h] at this; cases this
  intro fuel
  induction fuel using Nat.strongRecOn with
  | _ fuel ih =>
  intro listed x w hs hb hI htail hcl hu
  by_cases h0 : unl n listed = []
  · have hlist : listed = Array.replicate n true ++ Array.replicate (ops.size - n) false := by
      refine Array.ext_getElem? fun i => ?_
      rw [Array.getElem?_append]
      simp only [Array.size_replicate]
      split
      · rename_i hi
        have h1 := hall listed hs h0 i hi
        have h2 : i < listed.size := by omega
        rw [Array.getElem?_eq_getElem h2, Array.getElem?_replicate, if_pos hi]
        simp [h2] at h1
        rw [h1]
      · rename_i hi
        rw [Array.getElem?_replicate]
        split
        · rename_i h3
          have h2 : i < listed.size := by omega
          have h1 := htail i (by omega) (by omega)
          rw [Array.getElem?_eq_getElem h2]
          simp [h2] at h1
          rw [h1]
        · rw [Array.getElem?_eq_none (by omega)]
    have hseq : Region.seqB .any ops (ops.size - n) n listed = true := by
      rw [hlist]
      unfold tailB at hT
      simp only [Bool.and_eq_true] at hT
      exact hT.2
    have hlen : (ops.toList.drop n).length = ops.size - n := by simp
    rw [h0, List.length_nil, Nat.zero_add] at hu
    subst hu
    rw [← hlen]
    refine wpAny_of_seq (md := .any) (ops.toList.drop n) n listed (A x) w (fun j => by simp [List.getElem?_drop]) (by rw [hlen]; exact hseq) ?_
    exact hQ x w hb fun i J hJ => hI i J hJ (hall listed hs h0 i (by rw [← hl]; exact (List.getElem?_eq_some_iff.1 hJ).1))
  · have hpos : 0 < (unl n listed).length := List.length_pos_iff.2 h0
    obtain ⟨f, rfl⟩ : ∃ f, fuel = f + 1 := ⟨fuel - 1, by omega⟩
    -- some head is ready
    have hready : ∃ i, i ∈ Region.ready .any ops listed := by
      obtain ⟨m, hm⟩ : ∃ m, m ∈ unl n listed := List.exists_mem_of_length_pos hpos
      have key : ∀ k, k < n → listed.getD k true = false → ∃ i, i ∈ Region.ready .any ops listed := by
        intro k
        induction k using Nat.strongRecOn with
        | _ k ihk =>
          intro hk hg
          have ho : ops[k]? = some ops[k] := Array.getElem?_eq_getElem (by omega)
          by_cases hd : ∀ e ∈ ops[k].after, Region.binds .any e = true → listed.getD e.on false = true
          · exact ⟨k, mem_ready.2 ⟨hg, _, ho, hd⟩⟩
          · simp only [Classical.not_forall] at hd
            obtain ⟨e, he, hbd, hne⟩ := hd
            have hlt := edgesB_at hE ho e (by simpa using he)
            refine ihk e.on hlt (by omega) ?_
            have h3 : e.on < listed.size := by omega
            simp [h3] at hne ⊢
            exact hne
      unfold unl at hm
      rw [List.mem_filter, List.mem_range] at hm
      exact key m hm.1 (by simpa using hm.2)
    obtain ⟨i0, hi0⟩ := hready
    refine ⟨fun hr => (by rw [hr] at hi0; cases hi0), fun i hi => ?_⟩
    obtain ⟨hun, o, ho, hdeps⟩ := mem_ready.1 hi
    have hilt := (Array.getElem?_eq_some_iff.1 ho).1
    have hin : i < n := by
      rcases Nat.lt_or_ge i n with h | h
      · exact h
      · exfalso
        obtain ⟨m, hm⟩ : ∃ m, m ∈ unl n listed := List.exists_mem_of_length_pos hpos
        unfold unl at hm
        rw [List.mem_filter, List.mem_range] at hm
        have h2 := tailB_wait hT hs htail hcl h hilt hi m hm.1
        have h3 := hm.2
        rw [h2] at h3; simp at h3
    obtain ⟨J, hJ, hd⟩ := hop i o hin ho
    have hD : Deps (I.take i) o.after.toList x w := by
      intro e he hbd J' hJ'
      have hlt := edgesB_at hE ho e he
      rw [List.getElem?_take, if_pos hlt] at hJ'
      refine hI e.on J' hJ' ?_
      have h2 := hdeps e (by simpa using he) hbd
      have h3 : e.on < listed.size := by omega
      simp [h3] at h2 ⊢
      exact h2
    unfold wpOp
    simp only [ho]
    have hgo : ∀ v w', R w w' → J v w' → wpAny P .any ops Q f (listed.setIfInBounds i true) ((A x).put o.dst v) w' := by
      intro v w' hb' hJv
      rw [hput i o hin ho]
      have hcnt := unl_set hin (by omega) hun
      refine ih f (by omega) (listed.setIfInBounds i true) (upd x i v) w' (by simpa using hs) (hR.trans _ _ _ hb hb') (fun j K hK hlj => ?_) (fun k hk hk2 => ?_) (fun j oj hoj hlj e he hbd => ?_) (by omega)
      · by_cases e : i = j
        · subst e
          rw [hJ] at hK; cases hK
          simpa [upd] using hJv
        · rw [getD_set_ne true e] at hlj
          have := hst j K hK _ _ _ hb' (hI j K hK hlj)
          simpa [upd, Ne.symm e] using this
      · rw [getD_set_ne true (by omega)]
        exact htail k hk hk2
      · have hold : listed.getD e.on false = true := by
          by_cases e2 : i = j
          · subst e2
            rw [ho] at hoj; cases hoj
            exact hdeps e he hbd
          · rw [getD_set_ne true e2] at hlj
            exact hcl j oj hoj hlj e he hbd
        by_cases e3 : i = e.on
        · rw [← e3]
          have h4 : i < listed.size := by omega
          simp [h4]
        · rw [getD_set_ne false e3]; exact hold
    have h3 := hd x w hb hD _ hgo
    split
    · rename_i hw; rw [if_pos hw] at h3; exact .inl h3
    · rename_i hw; rw [if_neg hw] at h3; exact h3
/-- all operations, in the text's order -/
def OpsOkF (F : (Nat → Value) → World → Prop) (R : World → World → Prop) (P : Program) (ops : Array Oper) (A : (Nat → Value) → Act) (w0 : World) (Q : Exit → Act → World → Prop) : List (Value → World → Prop) → List Oper → Prop
  | I, [] => ∀ x w, R w0 w → (∀ (i : Nat) (J : Value → World → Prop), I[i]? = some J → J (x i) w) → F x w
  | I, o :: rest => ∃ J : Value → World → Prop, (∀ v w w', R w w' → J v w → J v w') ∧ Duty R P ops A w0 Q o (Deps I o.after.toList) J ∧ OpsOkF F R P ops A w0 Q (I ++ [J]) rest
theorem opsOkF_all {F : (Nat → Value) → World → Prop} {ops : Array Oper} {A : (Nat → Value) → Act} {w0 : World} {Q : Exit → Act → World → Prop} : ∀ (l : List Oper) (I : List (Value → World → Prop)),
    (∀ (j : Nat) (J : Value → World → Prop), I[j]? = some J → ∀ v w w', R w w' → J v w → J v w') → OpsOkF F R P ops A w0 Q I l →
    ∃ I', (∃ r, I' = I ++ r) ∧ I'.length = I.length + l.length ∧ (∀ (j : Nat) (J : Value → World → Prop), I'[j]? = some J → ∀ v w w', R w w' → J v w → J v w') ∧
      (∀ (k : Nat) (o : Oper), l[k]? = some o → ∃ J, I'[I.length + k]? = some J ∧ Duty R P ops A w0 Q o (Deps (I'.take (I.length + k)) o.after.toList) J) ∧
      (∀ x w, R w0 w → (∀ (i : Nat) (J : Value → World → Prop), I'[i]? = some J → J (x i) w) → F x w) := by
  intro l
  induction l with
  | nil => intro I hI h; exact ⟨I, ⟨[], by simp⟩, by simp, hI, fun k o ho => by simp at ho, h⟩
  | cons o r ih =>
    intro I hI h
    obtain ⟨J, hJ, hd, h⟩ := h
    obtain ⟨I', ⟨s, hs⟩, h2, h3, h4, h5⟩ := ih (I ++ [J]) (fun j K hK => by
      rw [List.getElem?_append] at hK
      split at hK
      · exact hI j K hK
      · rename_i hj
        have : j - I.length = 0 ∨ 1 ≤ j - I.length := by omega
        rcases this with e | e
        · rw [e] at hK; simp at hK; subst hK; exact hJ
        · rw [List.getElem?_eq_none (by simpa using e)] at hK; cases hK) h
    refine ⟨I', ⟨[J] ++ s, by rw [hs, List.append_assoc]⟩, by simp at h2; simp; omega, h3, fun k o' ho => ?_, h5⟩
    cases k with
    | zero =>
      simp at ho
      subst ho
      have e1 : I'[I.length]? = some J := by rw [hs, List.append_assoc, List.getElem?_append_right (Nat.le_refl _)]; simp
      have e2 : I'.take I.length = I := by rw [hs, List.append_assoc, List.take_left]
      exact ⟨J, e1, by simpa [e2] using hd⟩
    | succ k =>
      obtain ⟨J', e1, e2⟩ := h4 k o' (by simpa using ho)
      simp only [List.length_append, List.length_cons, List.length_nil, Nat.zero_add] at e1 e2
      have e : I.length + (k + 1) = I.length + 1 + k := by omega
      exact ⟨J', by rw [e]; exact e1, by rw [e]; exact e2⟩
theorem opsOk_of3T {F : (Nat → Value) → World → Prop} {full : List Oper} {w0 : World} {base : Act} {ops : List Oper} {Q : Exit → Act → World → Prop} (hD : dstsB ops = true) (hn : dstsIn base.tmps.size ops = true) (hg : guardsB base.tmps.size ops = true) (hf : ∀ (g : Nat) (o : Oper), ops[g]? = some o → full[g]? = some o) : ∀ (l : List Oper) (I : List (Value → World → Prop)), (∀ o ∈ l, o ∈ ops) →
    OpsOk3 R P w0 base ops F I l → OpsOkF F R P full.toArray (fun x => { tmps := setAll x 0 ops base.tmps, defers := base.defers }) w0 Q I l
  | [], I, _, h => h
  | o :: r, I, hl, ⟨J, h1, h2, h3⟩ => by
    refine ⟨J, h1, ?_, opsOk_of3T hD hn hg hf r _ (fun p hp => hl p (List.mem_cons_of_mem _ hp)) h3⟩
    intro x w hb hd K hK
    have hev : ∀ t, Act.eval { tmps := setAll x 0 ops base.tmps, defers := base.defers } t = evX base ops x t := by
      intro t
      cases t with
      | tmp d => exact setAll_getD ops 0 base.tmps hD hn
      | _ => rfl
    have hw : Region.wanted o (yielded full.toArray (setAll x 0 ops base.tmps)) = wantedX o x := by
      unfold wantedX Region.wanted
      cases hgo : o.guard with
      | none => rfl
      | some q =>
        obtain ⟨g, b⟩ := q
        have h4 := List.all_eq_true.1 hg o (hl o List.mem_cons_self)
        rw [hgo] at h4
        simp only at h4 ⊢
        congr 1
        unfold yielded
        rw [List.getElem?_toArray]
        have hfg : (full[g]?).bind (·.dst) = (ops[g]?).bind (·.dst) := by
          cases hog : ops[g]? with
          | none => rw [hog] at h4; cases h4
          | some og => rw [hf g og hog]
        rw [hfg]
        cases hdd : (ops[g]?).bind (·.dst) with
        | none => rw [hdd] at h4; cases h4
        | some d =>
          rw [hdd] at h4
          simp only [Bool.and_eq_true, decide_eq_true_eq, beq_iff_eq] at h4
          have h5 := setAll_getD (x := x) (d := d) ops 0 base.tmps hD hn
          rw [h4.2] at h5
          simp only at h5
          have h6 : d < (setAll x 0 ops base.tmps).size := by rw [setAll_size]; exact h4.1
          unfold Array.getD at h5
          rw [dif_pos h6] at h5
          simp only [Option.bind_some]
          have h7 : (setAll x 0 ops base.tmps)[d] = x g := h5
          rw [Array.getElem?_eq_getElem h6, h7]
          cases x g <;> rfl
    show if Region.wanted o (yielded full.toArray (setAll x 0 ops base.tmps)) = true then _ else _
    rw [hw]
    have h4 := h2 x w _ hb hd hev (fun v w' => K (Act.put { tmps := setAll x 0 ops base.tmps, defers := base.defers } o.dst v) w') hK
    split
    · rename_i hw'
      rw [if_pos hw'] at h4
      exact Outcome.wp h4
    · rename_i hw'
      rw [if_neg hw'] at h4
      exact h4
theorem wp_region_invT (hR : Rel R) (n : Nat) {id : Nat} {ops : List Oper} {a : Act} {w : World} {Q : Exit → Act → World → Prop} (hm : P.follows .mixedOrders = true)
    (hE : edgesB ops.toArray = true) (hT : tailB ops.toArray n = true) (hD : dstsB (ops.take n) = true) (hn : dstsIn a.tmps.size (ops.take n) = true) (hg : guardsB a.tmps.size (ops.take n) = true)
    (h : ∀ base O, base = a → O = ops.take n → OpsOk4 R P w base O (fun x w' => wpList P ops.toArray Q (ops.drop n) { tmps := setAll x 0 (ops.take n) a.tmps, defers := a.defers } w') 0 [] (ops.take n)) : (Code.region id ops.toArray true).wp P Q a w := by
  have hle : n ≤ ops.length := by
    have := tailB_lt hT
    simp at this; omega
  have hlen : (ops.take n).length = n := by rw [List.length_take]; omega
  have hget : ∀ (g : Nat) (o : Oper), (ops.take n)[g]? = some o → ops[g]? = some o := by
    intro g o ho
    rw [List.getElem?_take] at ho
    split at ho
    · exact ho
    · cases ho
  have h3 := opsOk_of3T (full := ops) (Q := Q) hD hn hg hget (ops.take n) [] (fun _ h => h) (opsOk3_of4 (ops.take n) 0 [] [] rfl (fun _ => rfl) (h a (ops.take n) rfl rfl))
  obtain ⟨I, _, h4, h5, h6, h7⟩   := opsOkF_all (ops.take n) [] (fun j J hJ => by simp at hJ) h3
  have hA : (fun x => ({ tmps := setAll x 0 (ops.take n) a.tmps, defers := a.defers } : Act)) (fun i => match ((ops.take n)[i]?).bind (·.dst) with | some d => a.tmps.getD d undef | none => undef) = a := by
    show ({ tmps := _, defers := _ } : Act) = a
    rw [setAll_own (ops.take n) 0 a.tmps a.tmps]
    intro i o d ho hd
    simp [ho, hd]
  refine wp_region_any hm ?_
  have key := anyInvT (Q := Q) hR (w0 := w) (A := fun x => { tmps := setAll x 0 (ops.take n) a.tmps, defers := a.defers }) hE hT (fun i o hi ho x v => by
      have ho' : (ops.take n)[i]? = some o := by rw [List.getElem?_take, if_pos hi]; simpa using ho
      have := setAll_put (x := x) (v := v) (ops.take n) 0 i a.tmps hD ho'
      rw [Nat.zero_add] at this
      show Act.put _ o.dst v = ({ tmps := setAll (upd x i v) 0 (ops.take n) a.tmps, defers := a.defers } : Act)
      rw [← this]
      unfold Act.put
      cases o.dst <;> rfl) I (by rw [h4, hlen]; simp) h5 (fun k o hk ho => by
      have ho' : (ops.take n)[k]? = some o := by rw [List.getElem?_take, if_pos hk]; simpa using ho
      obtain ⟨J, e1, e2⟩ := h6 k o ho'
      simp only [List.length_nil, Nat.zero_add] at e1 e2
      exact ⟨J, e1, e2⟩) (fun x w' hb hI => by simpa using h7 x w' hb hI)
    ops.toArray.size (Array.replicate ops.toArray.size false) (fun i => match ((ops.take n)[i]?).bind (·.dst) with | some d => a.tmps.getD d undef | none => undef) { w with drawn := w.drawn + 1 } (by simp) (hR.draw w) ?_ ?_ ?_ ?_
  · simp only at hA; rwa [hA] at key
  · intro i J hJ hl
    have hi := (List.getElem?_eq_some_iff.1 hJ).1
    have hi' : i < ops.toArray.size := by rw [h4, hlen] at hi; simp at hi ⊢; omega
    have e : (Array.replicate ops.toArray.size false).getD i true = false := by
      unfold Array.getD
      rw [dif_pos (by simpa using hi')]
      simp
    rw [e] at hl
    cases hl
  · intro i _ hi
    unfold Array.getD
    rw [dif_pos (by simpa using hi)]
    simp
  · intro j o hoj hlj
    have hj := (Array.getElem?_eq_some_iff.1 hoj).1
    unfold Array.getD at hlj
    rw [dif_pos (by simpa using hj)] at hlj
    simp at hlj
  · have : unl n (Array.replicate ops.toArray.size false) = List.range n := by
      unfold unl
      rw [List.filter_eq_self]
      intro i hi
      rw [List.mem_range] at hi
      unfold Array.getD
      rw [dif_pos (by simp; omega)]
      simp
    rw [this, List.length_range]
    simp; omega
end
end B
end Go.Proofs.YtibeoiphjkgekaaGreat
