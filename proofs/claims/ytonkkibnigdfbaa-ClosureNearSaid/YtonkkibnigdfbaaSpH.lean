/-
  Texts of one chain, merged.
-/
import Derived.Test.YtonkkibnigdfbaaSpB
import Derived.WideKeyEntry
import Derived.Test.YtonkkibnigdfbaaProg
import Derived.WalkLawsBesides
import Derived.Handy
import Derived.Deep.Cut
import Derived.Shelf.Abstract
namespace Go.Proofs.Ytonkkibnigdfbaa
open B
abbrev It := Int × Int
def ltI (a b : It) : Bool := decide (a.1 < b.1) || (decide (a.1 = b.1) && decide (a.2 < b.2))
theorem ltI_iff {a b : It} : ltI a b = true ↔ a.1 < b.1 ∨ (a.1 = b.1 ∧ a.2 < b.2) := by simp [ltI]
theorem ltI_no {a b : It} : ltI a b = false ↔ ¬ (a.1 < b.1 ∨ (a.1 = b.1 ∧ a.2 < b.2)) := by rw [← ltI_iff]; simp
theorem ltI_asy {a b : It} (h : ltI a b = true) : ltI b a = false := by rw [ltI_iff] at h; rw [ltI_no]; omega
theorem ltI_irr (a : It) : ltI a a = false := by rw [ltI_no]; omega
theorem ltI_tr {a b c : It} (h : ltI a b = false) (k : ltI b c = false) : ltI a c = false := by rw [ltI_no] at *; omega
theorem ltI_lt {a b c : It} (h : ltI a b = false) (k : ltI c b = true) : ltI a c = false := by rw [ltI_iff] at k; rw [ltI_no] at *; omega
theorem ltI_tr' {a b c : It} (h : ltI a b = true) (k : ltI b c = true) : ltI a c = true := by rw [ltI_iff] at *; omega
def par (c : Nat) : Nat := (c - 1) / 2
theorem par_lt {c : Nat} (h : 0 < c) : par c < c := by unfold par; omega
/-- two places turned about -/
def swp (l : List It) (i j : Nat) (a b : It) : List It := (l.set i b).set j a
theorem swp_len (l : List It) (i j : Nat) (a b : It) : (swp l i j a b).length = l.length := by simp [swp]
theorem swp_at {l : List It} {i j : Nat} {a b : It} (ha : l[i]? = some a) (hb : l[j]? = some b) (k : Nat) : (swp l i j a b)[k]? = if k = j then some a else if k = i then some b else l[k]? := by
  have hi := (List.getElem?_eq_some_iff.1 ha).1
  have hj := (List.getElem?_eq_some_iff.1 hb).1
  unfold swp
  rw [List.getElem?_set, List.getElem?_set]
  simp only [List.length_set]
  by_cases h1 : j = k
  · subst h1; simp [hj]
  · by_cases h2 : i = k
    · subst h2; simp [hi, h1, Ne.symm h1]
    · simp [h1, h2, Ne.symm h1, Ne.symm h2]
theorem swp_perm {l : List It} {i j : Nat} {a b : It} (ha : l[i]? = some a) (hb : l[j]? = some b) : (swp l i j a b).Perm l := by
  obtain ⟨hi, ea⟩ := List.getElem?_eq_some_iff.1 ha
  obtain ⟨hj, eb⟩ := List.getElem?_eq_some_iff.1 hb
  have := (Array.swap_perm (xs := l.toArray) (i := i) (j := j) (by simpa using hi) (by simpa using hj)).toList
  simpa [swp, Array.swap_def, ea, eb] using this
def IsHeap (l : List It) (n : Nat) : Prop := ∀ c x p, 0 < c → c < n → l[c]? = some x → l[par c]? = some p → ltI x p = false
/-- a heap but at j and its father -/
def UpInv (l : List It) (j : Nat) : Prop :=
  (∀ c x p, 0 < c → c ≠ j → l[c]? = some x → l[par c]? = some p → ltI x p = false) ∧ (∀ c x p, 0 < c → par c = j → 0 < j → l[c]? = some x → l[par j]? = some p → ltI x p = false)
/-- a heap but at i and its children -/
def DnInv (l : List It) (n i : Nat) : Prop :=
  (∀ c x p, 0 < c → c < n → par c ≠ i → l[c]? = some x → l[par c]? = some p → ltI x p = false) ∧ (∀ c x p, 0 < c → c < n → par c = i → 0 < i → l[c]? = some x → l[par i]? = some p → ltI x p = false)
theorem up_zero {l : List It} (h : UpInv l 0) : IsHeap l l.length := fun c x p hc _ hx hp => h.1 c x p hc (by omega) hx hp
theorem up_stop {l : List It} {j : Nat} (h : UpInv l j) (hs : ∀ x p, l[j]? = some x → l[par j]? = some p → ltI x p = false) : IsHeap l l.length := fun c x p hc _ hx hp => by
  by_cases e : c = j
  · subst e; exact hs x p hx hp
  · exact h.1 c x p hc e hx hp
theorem up_step {l : List It} {j : Nat} {x p : It} (h : UpInv l j) (hj : 0 < j) (hx : l[j]? = some x) (hp : l[par j]? = some p) (hlt : ltI x p = true) : UpInv (swp l (par j) j p x) (par j) := by
  have hi := par_lt hj
  have at' := swp_at hp hx
  refine ⟨fun c y q hc hne hy hq => ?_, fun c y q hc hpc h0 hy hq => ?_⟩
  · rw [at'] at hy hq
    by_cases e1 : c = j
    · subst e1
      rw [if_pos rfl] at hy
      rw [if_neg (by omega), if_pos rfl] at hq
      cases hy; cases hq
      exact ltI_asy hlt
    · rw [if_neg e1, if_neg hne] at hy
      by_cases e2 : par c = j
      · rw [if_pos e2] at hq; cases hq
        exact h.2 c y p hc e2 hj hy hp
      · rw [if_neg e2] at hq
        by_cases e3 : par c = par j
        · rw [if_pos e3] at hq; cases hq
          exact ltI_lt (h.1 c y p hc e1 hy (by rw [e3]; exact hp)) hlt
        · rw [if_neg e3] at hq
          exact h.1 c y q hc e1 hy hq
  · have hc2 := par_lt hc
    have hp2 := par_lt h0
    rw [at'] at hy hq
    rw [if_neg (by omega), if_neg (by omega)] at hq
    have hpp := h.1 (par j) p q h0 (by omega) hp hq
    by_cases e1 : c = j
    · rw [if_pos e1] at hy; cases hy; exact hpp
    · rw [if_neg e1, if_neg (by omega)] at hy
      exact ltI_tr (h.1 c y p hc e1 hy (by rw [hpc]; exact hp)) hpp
theorem dn_stop {l : List It} {n i : Nat} (h : DnInv l n i) (hs : ∀ c x p, 0 < c → c < n → par c = i → l[c]? = some x → l[i]? = some p → ltI x p = false) : IsHeap l n := fun c x p hc hn hx hp => by
  by_cases e : par c = i
  · exact hs c x p hc hn e hx (by rw [← e]; exact hp)
  · exact h.1 c x p hc hn e hx hp
theorem dn_step {l : List It} {n i j : Nat} {x y : It} (h : DnInv l n i) (hj : 0 < j) (hjn : j < n) (hpj : par j = i) (hx : l[i]? = some x) (hy : l[j]? = some y) (hlt : ltI y x = true)
    (hmin : ∀ c z, 0 < c → c < n → par c = i → l[c]? = some z → ltI z y = false) : DnInv (swp l i j x y) n j := by
  have hi := par_lt hj
  rw [hpj] at hi
  have at' := swp_at hx hy
  refine ⟨fun c u q hc hcn hne hu hq => ?_, fun c u q hc hcn hpc _ hu hq => ?_⟩
  · rw [at'] at hu hq
    have hcl := par_lt hc
    by_cases e1 : c = j
    · subst e1
      rw [if_pos rfl] at hu; cases hu
      rw [if_neg (by omega), if_pos hpj] at hq; cases hq
      exact ltI_asy hlt
    · rw [if_neg e1] at hu
      rw [if_neg hne] at hq
      by_cases e2 : c = i
      · rw [if_pos e2] at hu; cases hu
        subst e2
        rw [if_neg (by omega)] at hq
        exact h.2 j y q hj hjn hpj hc hy hq
      · rw [if_neg e2] at hu
        by_cases e3 : par c = i
        · rw [if_pos e3] at hq; cases hq
          exact hmin c u hc hcn e3 hu
        · rw [if_neg e3] at hq
          exact h.1 c u q hc hcn e3 hu hq
  · have hcl := par_lt hc
    rw [at'] at hu hq
    rw [if_neg (by omega), if_neg (by omega)] at hu
    rw [hpj, if_neg (by omega), if_pos rfl] at hq
    cases hq
    exact h.1 c u y hc hcn (by omega) hu (by rw [hpc]; exact hy)
/-- the first one is least -/
theorem heap_least {l : List It} (h : IsHeap l l.length) {r : It} (hr : l[0]? = some r) : ∀ (c : Nat) (x : It), l[c]? = some x → ltI x r = false := by
  intro c
  induction c using Nat.strongRecOn with
  | ind c ih =>
    intro x hx
    by_cases h0 : c = 0
    · subst h0; rw [hr] at hx; cases hx; exact ltI_irr _
    · have hp := par_lt (Nat.pos_of_ne_zero h0)
      have hcl := (List.getElem?_eq_some_iff.1 hx).1
      have hpp : par c < l.length := by omega
      exact ltI_tr (h c x l[par c] (by omega) hcl hx (List.getElem?_eq_getElem hpp)) (ih (par c) hp _ (List.getElem?_eq_getElem hpp))
/-- the map tells where each number stands -/
def MapOk (f : Int → Option Int) (l : List It) : Prop := (∀ (k : Nat) (x : It), l[k]? = some x → f x.2 = some (k : Int)) ∧ (∀ (a v : Int), f a = some v → ∃ (k : Nat) (x : It), v = (k : Int) ∧ l[k]? = some x ∧ x.2 = a)
theorem MapOk.inj {f : Int → Option Int} {l : List It} (h : MapOk f l) {i j : Nat} {x y : It} (hx : l[i]? = some x) (hy : l[j]? = some y) (e : x.2 = y.2) : i = j := by
  have h1 := h.1 i x hx
  have h2 := h.1 j y hy
  rw [e, h2] at h1
  cases h1; rfl
theorem MapOk.swp {f : Int → Option Int} {l : List It} (h : MapOk f l) {i j : Nat} {a b : It} (ha : l[i]? = some a) (hb : l[j]? = some b) : MapOk (updI (updI f b.2 i) a.2 j) (swp l i j a b) := by
  have at' := swp_at ha hb
  refine ⟨fun k x hx => ?_, fun s v hv => ?_⟩
  · rw [at'] at hx
    unfold updI
    by_cases e1 : k = j
    · rw [if_pos e1] at hx; cases hx; rw [if_pos rfl, e1]
    · rw [if_neg e1] at hx
      by_cases e2 : k = i
      · rw [if_pos e2] at hx; cases hx
        rw [if_neg (fun e => e1 (by rw [e2]; exact (h.inj hb ha e).symm)), if_pos rfl, e2]
      · rw [if_neg e2] at hx
        rw [if_neg (fun e => e2 (h.inj hx ha e)), if_neg (fun e => e1 (h.inj hx hb e))]
        exact h.1 k x hx
  · unfold updI at hv
    by_cases e1 : s = a.2
    · rw [if_pos e1] at hv; cases hv
      exact ⟨j, a, rfl, by rw [at', if_pos rfl], e1.symm⟩
    · rw [if_neg e1] at hv
      by_cases e2 : s = b.2
      · rw [if_pos e2] at hv; cases hv
        refine ⟨i, b, rfl, ?_, e2.symm⟩
        rw [at']
        by_cases e3 : i = j
        · subst e3; rw [ha] at hb; cases hb; exact absurd e2 e1
        · rw [if_neg e3, if_pos rfl]
      · rw [if_neg e2] at hv
        obtain ⟨k, x, rfl, hx, hxs⟩ := h.2 s v hv
        refine ⟨k, x, rfl, ?_, hxs⟩
        rw [at', if_neg (fun e => e2 (by rw [e, hb] at hx; cases hx; exact hxs.symm)), if_neg (fun e => e1 (by rw [e, ha] at hx; cases hx; exact hxs.symm))]
        exact hx
theorem MapOk.there {f : Int → Option Int} {l : List It} (h : MapOk f l) {k : Nat} {x : It} (hx : l[k]? = some x) : (f x.2).isSome = true := by rw [h.1 k x hx]; rfl
theorem MapOk.gone {f : Int → Option Int} {l : List It} (h : MapOk f l) {a : Int} : f a = none ↔ ∀ x ∈ l, x.2 ≠ a := by
  constructor
  · intro hf x hx e
    obtain ⟨k, hk⟩ := List.getElem?_of_mem hx
    rw [← e, h.1 k x hk] at hf; cases hf
  · intro hn
    cases hf : f a with
    | none => rfl
    | some v =>
      obtain ⟨k, x, _, hx, e⟩ := h.2 a v hf
      exact absurd e (hn x (List.mem_of_getElem? hx))
theorem MapOk.push {f : Int → Option Int} {l : List It} (h : MapOk f l) {x : It} (hn : f x.2 = none) : MapOk (updI f x.2 l.length) (l ++ [x]) := by
  refine ⟨fun k y hy => ?_, fun s v hv => ?_⟩
  · by_cases hk : k < l.length
    · rw [List.getElem?_append_left hk] at hy
      have := h.1 k y hy
      unfold updI
      rw [if_neg (fun e => by rw [e, hn] at this; cases this)]
      exact this
    · rw [List.getElem?_append_right (by omega)] at hy
      have : k - l.length = 0 := by
        have := (List.getElem?_eq_some_iff.1 hy).1
        simp at this; omega
      rw [this] at hy
      cases hy
      unfold updI
      rw [if_pos rfl]
      congr 1; omega
  · unfold updI at hv
    by_cases e : s = x.2
    · rw [if_pos e] at hv; cases hv
      exact ⟨l.length, x, rfl, by simp, e.symm⟩
    · rw [if_neg e] at hv
      obtain ⟨k, y, rfl, hy, hs⟩ := h.2 s v hv
      exact ⟨k, y, rfl, by rw [List.getElem?_append_left (List.getElem?_eq_some_iff.1 hy).1]; exact hy, hs⟩
theorem MapOk.pop {f : Int → Option Int} {l : List It} {x : It} (h : MapOk f (l ++ [x])) : MapOk (delI f x.2) l := by
  have hx : (l ++ [x])[l.length]? = some x := by simp
  refine ⟨fun k y hy => ?_, fun s v hv => ?_⟩
  · have hk := (List.getElem?_eq_some_iff.1 hy).1
    have hy' : (l ++ [x])[k]? = some y := by rw [List.getElem?_append_left hk]; exact hy
    unfold delI
    rw [if_neg (fun e => by have := h.inj hy' hx e; omega)]
    exact h.1 k y hy'
  · unfold delI at hv
    by_cases e : s = x.2
    · rw [if_pos e] at hv; cases hv
    · rw [if_neg e] at hv
      obtain ⟨k, y, rfl, hy, hs⟩ := h.2 s v hv
      have hkl : k < l.length := by
        have h1 := (List.getElem?_eq_some_iff.1 hy).1
        simp at h1
        rcases Nat.lt_or_eq_of_le (Nat.lt_succ_iff.1 h1) with h2 | h2
        · exact h2
        · rw [h2, hx] at hy; cases hy; exact absurd hs.symm e
      exact ⟨k, y, rfl, by rw [List.getElem?_append_left hkl] at hy; exact hy, hs⟩
/-- a key made lower at one place -/
theorem MapOk.set {f : Int → Option Int} {l : List It} (h : MapOk f l) {k : Nat} {x : It} (hx : l[k]? = some x) (y : It) (hy : y.2 = x.2) : MapOk f (l.set k y) := by
  have hk := (List.getElem?_eq_some_iff.1 hx).1
  refine ⟨fun j z hz => ?_, fun s v hv => ?_⟩
  · rw [List.getElem?_set] at hz
    by_cases e : k = j
    · subst e; simp [hk] at hz; subst hz; rw [hy]; exact h.1 k x hx
    · rw [if_neg e] at hz; exact h.1 j z hz
  · obtain ⟨j, z, rfl, hz, hs⟩ := h.2 s v hv
    by_cases e : k = j
    · subst e
      rw [hx] at hz; cases hz
      exact ⟨k, y, rfl, by simp [hk], by rw [hy]; exact hs⟩
    · exact ⟨j, z, rfl, by rw [List.getElem?_set, if_neg e]; exact hz, hs⟩
theorem up_push {l : List It} (h : IsHeap l l.length) (x : It) : UpInv (l ++ [x]) l.length := by
  refine ⟨fun c y p hc hne hy hp => ?_, fun c y p hc hpc _ hy _ => ?_⟩
  · have hcl := (List.getElem?_eq_some_iff.1 hy).1
    simp at hcl
    have hl : c < l.length := by omega
    have := par_lt hc
    rw [List.getElem?_append_left hl] at hy
    rw [List.getElem?_append_left (by omega)] at hp
    exact h c y p hc hl hy hp
  · have hcl := (List.getElem?_eq_some_iff.1 hy).1
    simp at hcl
    have := par_lt hc
    omega
theorem up_lower {l : List It} (h : IsHeap l l.length) {k : Nat} {x y : It} (hx : l[k]? = some x) (hlt : ltI y x = true) : UpInv (l.set k y) k := by
  have hk := (List.getElem?_eq_some_iff.1 hx).1
  refine ⟨fun c z p hc hne hz hp => ?_, fun c z p hc hpc h0 hz hp => ?_⟩
  · rw [List.getElem?_set, if_neg (Ne.symm hne)] at hz
    have hcl := (List.getElem?_eq_some_iff.1 hz).1
    rw [List.getElem?_set] at hp
    by_cases e : k = par c
    · rw [if_pos e, if_pos hk] at hp; cases hp
      exact ltI_lt (h c z x hc hcl hz (by rw [← e]; exact hx)) hlt
    · rw [if_neg e] at hp
      exact h c z p hc hcl hz hp
  · have hcp := par_lt hc
    have hkp := par_lt h0
    rw [List.getElem?_set, if_neg (by omega)] at hz
    rw [List.getElem?_set, if_neg (by omega)] at hp
    have hcl := (List.getElem?_eq_some_iff.1 hz).1
    exact ltI_tr (h c z x hc hcl hz (by rw [hpc]; exact hx)) (h k x p h0 hk hx hp)
/-- the children of a place that is made lower are not less -/
theorem low_idle {l : List It} (h : IsHeap l l.length) {k : Nat} {x y : It} (hx : l[k]? = some x) (hlt : ltI y x = true) {c : Nat} {z : It} (hc : 0 < c) (hpc : par c = k) (hz : (l.set k y)[c]? = some z) : ltI z y = false := by
  have hcp := par_lt hc
  rw [List.getElem?_set, if_neg (by omega)] at hz
  exact ltI_lt (h c z x hc (List.getElem?_eq_some_iff.1 hz).1 hz (by rw [hpc]; exact hx)) hlt
/-- the last one on top: a heap but at the top -/
theorem dn_top {l : List It} {n : Nat} (h : IsHeap l l.length) (hn : l.length = n + 1) {a b : It} (ha : l[0]? = some a) (hb : l[n]? = some b) : DnInv (swp l 0 n a b) n 0 := by
  have at' := swp_at ha hb
  refine ⟨fun c x p hc hcn hpc hx hp => ?_, fun c x p hc hcn hpc h0 => by omega⟩
  have hcp := par_lt hc
  rw [at', if_neg (by omega), if_neg (by omega)] at hx
  rw [at', if_neg (by omega), if_neg hpc] at hp
  exact h c x p hc (by omega) hx hp
theorem isHeap_cut {l : List It} {x : It} (h : IsHeap (l ++ [x]) l.length) : IsHeap l l.length := fun c y p hc hcn hy hp => by
  have hcp := par_lt hc
  exact h c y p hc hcn (by rw [List.getElem?_append_left hcn]; exact hy) (by rw [List.getElem?_append_left (by omega)]; exact hp)
theorem isHeap_nil : IsHeap [] 0 := fun c x p _ h => by omega
theorem mapOk_nil : MapOk (fun _ => none) [] := ⟨fun k x h => by simp at h, fun a v h => by cases h⟩
end Go.Proofs.Ytonkkibnigdfbaa
namespace Go.Proofs.Ytonkkibnigdfbaa
namespace B
open Go.RowKit Go.WideElems Go.ChangeShapes Go.WideShapes Go.MapKept Go.ChangeMaps
open Go.Maps (Keyed)
theorem setBlock_self {w : World} {b : Nat} {o : Obj} (hb : w.heap[b]? = some o) : setBlock w b o = w := by
  have e : w.heap.setIfInBounds b o = w.heap := by
    apply Array.ext_getElem?
    intro i
    by_cases hi : i = b
    · subst hi
      rw [Array.getElem?_setIfInBounds_self, hb]
      simp [(Array.getElem?_eq_some_iff.1 hb).1]
    · rw [Array.getElem?_setIfInBounds_ne (Ne.symm hi)]
  unfold setBlock
  rw [e]
section
variable {H : Type} {P : Program} {t k e : TypeId} {R : Value → Option (DataW H × List MemPlace)} {b : Nat} {es : Array MapEntry} {clock : Nat}
theorem entry_fix (K : Keyed P k) (ht : P.underlying t = some (.map k e)) (F : Fit P k R es clock) {key : Value} {kl : Lit} (hkey : keyOf P k key = some kl) (hth : ∃ x ∈ es.toList, x.key = key) :
    ∃ (v0 : Value) (st : Nat), (∀ W : World, W.heap[b]? = some (.map es clock) → (Instr.mapEntry t (.map (some b)) key).run P W = .ok (.tuple #[v0, goInt st]) W) ∧
      ∀ val : Value, ∃ es', ∀ W : World, W.heap[b]? = some (.map es clock) → (Instr.entryStore t (.map (some b)) (goInt st) val).run P W = .ok () (setBlock W b (.map es' clock)) ∧
        (Instr.mapUpdate t (.map (some b)) key val).run P W = .ok () (setBlock W b (.map es' clock)) := by
  obtain ⟨s1, s2, _⟩ := F.stamped
  have hdis : es.toList.Pairwise (fun x y => x.key ≠ y.key) := ((stamped_iff es clock).1 F.stamped).2.2
  obtain ⟨x, hx, hxk⟩ := hth
  obtain ⟨j, hj⟩ := List.getElem?_of_mem hx
  have found : ∀ W : World, (Instr.findKey k key es.toList).run P W = .ok (some (j, x.val)) W := fun W => by
    rcases K.find W hkey es.toList F.keys with ⟨_, h2⟩ | ⟨j', e0, h1, h2, h3⟩
    · exact absurd hxk (h2 x hx)
    · have : j' = j := by
        have hp := List.pairwise_iff_getElem.1 hdis
        obtain ⟨q1, q2⟩ := List.getElem?_eq_some_iff.1 h2
        obtain ⟨q3, q4⟩ := List.getElem?_eq_some_iff.1 hj
        rcases Nat.lt_trichotomy j' j with h | h | h
        · exact absurd (by rw [q2, q4, h3, hxk]) (hp j' j q1 q3 h)
        · exact h
        · exact absurd (by rw [q2, q4, h3, hxk]) (hp j j' q3 q1 h)
      subst this
      rw [hj] at h2; cases h2
      exact h1
  have hj' : es[j]? = some x := by simpa using hj
  have hsame : es.modify j (fun e => { e with key := key }) = es := by
    apply Array.ext'
    rw [Array.toList_modify, modify_eq_set _ _ _ _ hj]
    have : ({ x with key := key } : MapEntry) = x := by rw [← hxk]
    rw [this]
    exact set_self _ _ _ hj
  refine ⟨x.val, x.born, fun W hW => ?_, fun val => ⟨es.modify j (fun e' => { e' with key := key, val := val }), fun W hW => ⟨?_, ?_⟩⟩⟩
  · have := setBlock_self hW
    simp [Instr.mapEntry, run_underlying ht, MapKept.run_getObj_map hW, K.check W false hkey, found, hj', hxk, K.stays W hkey, hsame, MapKept.run_setObj_map _ hW, Result.andThen]
    exact this
  · have hidx : es.findIdx? (fun e => ((e.born : Nat) : Int) == ((x.born : Nat) : Int)) = some j := by
      rw [findIdx_arr]
      exact findIdx_born s2 hj
    have hmod : es.modify j (fun e => { e with val := val }) = es.modify j (fun e' => { e' with key := key, val := val }) := by
      apply Array.ext'
      rw [Array.toList_modify, Array.toList_modify, modify_eq_set _ _ _ _ hj, modify_eq_set _ _ _ _ hj, ← hxk]
    simp [Instr.entryStore, MapKept.run_getObj_map hW, asInt, asIntOf, goInt, hidx, hmod, MapKept.run_setObj_map _ hW, Result.andThen, setBlock]
  · simp [Instr.mapUpdate, run_underlying ht, MapKept.run_getObj_map hW, K.check W false hkey, found, hj', hxk, K.stays W hkey, MapKept.run_setObj_map _ hW, Result.andThen, setBlock]
end
section
variable {P : Program} {k e : TypeId}
theorem heap_setB {W : World} {m : Nat} {o o' : Obj} (h : W.heap[m]? = some o) : (setBlock W m o').heap[m]? = some o' := by
  simp [setBlock, (Array.getElem?_eq_some_iff.1 h).1]
theorem but_setB {W : World} {m : Nat} {o' : Obj} {X : List Nat} (hX : m ∈ X) : But W (setBlock W m o') X :=
  ⟨rfl, rfl, rfl, by simp [setBlock], fun i _ hx => by
    have : i ≠ m := fun e => hx (e ▸ hX)
    simp only [setBlock]
    rw [Array.getElem?_setIfInBounds_ne (Ne.symm this)]⟩
/-- a key that is there: what mapEntry hands back, and what is there behind the store, whatever else the world is -/
theorem MapI.entry {w : World} {m N : Nat} {f : Int → Option Int} (h : MapI P k e w m f N) {t : TypeId} (ht : P.underlying t = some (.map k e)) (hk : P.underlying k = some (.int .i64)) (he : P.underlying e = some (.int .i64))
    {a u : Int} (ha : (Lit.int .i64 a).wf = true) (hu : (Lit.int .i64 u).wf = true) (hf : (f a).isSome = true) (hN : N < 9223372036854775807) :
    ∃ (B0 B1 : Obj) (v0 : Value) (st : Nat), w.heap[m]? = some B0 ∧ (∀ W : World, W.heap[m]? = some B0 → (Instr.mapEntry t (.map (some m)) (.int .i64 a)).run P W = .ok (.tuple #[v0, .int .i64 st]) W) ∧
      (∀ W : World, W.heap[m]? = some B0 → (Instr.entryStore t (.map (some m)) (.int .i64 st) (.int .i64 u)).run P W = .ok () (setBlock W m B1)) ∧ (∀ W : World, W.heap[m]? = some B1 → MapI P k e W m (updI f a u) N) := by
  have hst := h.store ht hk he hN ha hu
  obtain ⟨D, ⟨es, clock, hb, F, hs, hD⟩, hsz, hfs⟩ := h
  have hkey := Maps.keyOf_int_mk hk ha
  have K := Maps.int_keyed hk
  have hth : ∃ x ∈ es.toList, x.key = .int .i64 a := by
    rcases K.find w hkey es.toList F.keys with ⟨_, h2⟩ | ⟨j, e0, _, h2, h3⟩
    · exfalso
      have h0 := (hfs a).1
      rw [hf, hD] at h0
      rw [Maps.has_eq, List.any_eq_true] at h0
      obtain ⟨p, hp, hpk⟩ := h0
      have hmem : ∀ (l : List (Lit × DataW Nat)) (q : Lit × DataW Nat), q ∈ l.foldr DataW.insert [] → q ∈ l := by
        intro l
        induction l with
        | nil => intro q hq; simp at hq
        | cons y r ih =>
          intro q hq
          rw [List.foldr_cons] at hq
          have ins : ∀ (l : List (Lit × DataW Nat)), q ∈ DataW.insert y l → q = y ∨ q ∈ l := by
            intro l
            induction l with
            | nil => intro h; simpa [DataW.insert] using h
            | cons z s ih2 =>
              intro h
              unfold DataW.insert at h
              split at h
              · simpa using h
              · rcases List.mem_cons.1 h with h | h
                · exact .inr (by simp [h])
                · rcases ih2 h with h | h
                  · exact .inl h
                  · exact .inr (by simp [h])
          rcases ins _ hq with h | h
          · simp [h]
          · simp [ih q h]
      obtain ⟨x, hx, rfl⟩ := List.mem_map.1 (hmem _ p hp)
      have hne := h2 x hx
      obtain ⟨y, hy⟩ := F.reads x hx
      obtain ⟨lx, hlx⟩ := F.keys x hx
      have hrg : (rg (H := Nat) P k (plainElem P e) x).1 = lx := by
        rw [rg_of hy]
        obtain ⟨z, _, hz⟩ := rd_val hy
        unfold WideElems.rd at hy
        rw [hlx] at hy
        simp at hy
        obtain ⟨_, _, rfl⟩ := hy
        rfl
      rw [hrg] at hpk
      have : lx = .int .i64 a := by
        apply Classical.byContradiction
        intro hc
        rw [Maps.sameKey_ne hc] at hpk; cases hpk
      rw [this] at hlx
      exact hne (K.inj hlx hkey)
    · exact ⟨e0, List.mem_of_getElem? h2, h3⟩
  obtain ⟨v0, st, h1, h2⟩ := entry_fix (b := m) K ht F hkey hth
  obtain ⟨es', h3⟩ := h2 (.int .i64 u)
  refine ⟨.map es clock, .map es' clock, v0, st, hb, h1, fun W hW => (h3 W hW).1, fun W hW => ?_⟩
  obtain ⟨w', hrun, hM, _⟩ := hst
  rw [(h3 w hb).2] at hrun
  cases hrun
  rw [hf] at hM
  exact MapI.keep hM (hW.trans (heap_setB hb).symm)
end
end B
end Go.Proofs.Ytonkkibnigdfbaa
namespace Go.Proofs.Ytonkkibnigdfbaa
open Go.RowKit B
set_option linter.unusedVariables false
set_option linter.unusedSimpArgs false
set_option maxHeartbeats 400000
namespace K
def cmpI (x y : Int) : Int := if x < y then -1 else if y < x then 1 else 0
def or2 (a b : Int) : Int := if a ≠ 0 then a else b
def ordI (a b : It) : Int := or2 (cmpI a.1 b.1) (cmpI a.2 b.2)
theorem cmpI_lt {x y : Int} : cmpI x y < 0 ↔ x < y := by unfold cmpI; split <;> (try split) <;> omega
theorem cmpI_zero {x y : Int} : cmpI x y = 0 ↔ x = y := by unfold cmpI; split <;> (try split) <;> omega
theorem or2_lt {a b : Int} : or2 a b < 0 ↔ a < 0 ∨ a = 0 ∧ b < 0 := by unfold or2; split <;> omega
theorem ordI_lt (a b : It) : decide (ordI a b < 0) = ltI a b := by
  rw [Bool.eq_iff_iff, decide_eq_true_eq, ltI_iff]
  unfold ordI
  rw [or2_lt, cmpI_lt, cmpI_zero, cmpI_lt]
end K
open K
theorem nanI_any (x : Int) (w : World) : Calls Try.prog 125 #[.int .i64 x] w fun e w' => e = .returned (.bool false) ∧ w = w' := by
  go_enter Try.func125, Try.ntmps125
  go_wp2
  go_returns
  exact ⟨rfl, rfl⟩
theorem nanL_any (x : Int) (w : World) : Calls Try.prog 124 #[.int .i64 x] w fun e w' => e = .returned (.bool false) ∧ w = w' := by
  go_enter Try.func124, Try.ntmps124
  go_wp2
  go_returns
  exact ⟨rfl, rfl⟩
theorem cmpI_any (x y : Int) (w : World) : Calls Try.prog 97 #[.int .i64 x, .int .i64 y] w fun e w' => e = .returned (.int .i64 (cmpI x y)) ∧ w' = w := by
  go_enter Try.func97, Try.ntmps97
  by_cases h1 : x < y
  · go_wp2_with (go_at_call 125; refine (nanI_any _ _).mono ?_; rintro e w' ⟨rfl, rfl⟩)
    go_returns
    exact ⟨ret_int (by unfold K.cmpI; rw [if_pos h1]), rfl⟩
  · by_cases h2 : y < x
    · go_wp2_with (go_at_call 125; refine (nanI_any _ _).mono ?_; rintro e w' ⟨rfl, rfl⟩)
      go_returns
      exact ⟨ret_int (by unfold K.cmpI; rw [if_neg (by omega), if_pos h2]), rfl⟩
    · go_wp2_with (go_at_call 125; refine (nanI_any _ _).mono ?_; rintro e w' ⟨rfl, rfl⟩)
      go_returns
      exact ⟨ret_int (by unfold K.cmpI; rw [if_neg (by omega), if_neg (by omega)]), rfl⟩
theorem cmpL_any (x y : Int) (w : World) : Calls Try.prog 96 #[.int .i64 x, .int .i64 y] w fun e w' => e = .returned (.int .i64 (cmpI x y)) ∧ w' = w := by
  go_enter Try.func96, Try.ntmps96
  by_cases h1 : x < y
  · go_wp2_with (go_at_call 124; refine (nanL_any _ _).mono ?_; rintro e w' ⟨rfl, rfl⟩)
    go_returns
    exact ⟨ret_int (by unfold K.cmpI; rw [if_pos h1]), rfl⟩
  · by_cases h2 : y < x
    · go_wp2_with (go_at_call 124; refine (nanL_any _ _).mono ?_; rintro e w' ⟨rfl, rfl⟩)
      go_returns
      exact ⟨ret_int (by unfold K.cmpI; rw [if_neg (by omega), if_pos h2]), rfl⟩
    · go_wp2_with (go_at_call 124; refine (nanL_any _ _).mono ?_; rintro e w' ⟨rfl, rfl⟩)
      go_returns
      exact ⟨ret_int (by unfold K.cmpI; rw [if_neg (by omega), if_neg (by omega)]), rfl⟩
theorem or_any (a b : Int) (bk : Nat) (w : World) (h0 : w.cell? ⟨bk, 0, none⟩ = some (.int .i64 a)) (h1 : w.cell? ⟨bk, 1, none⟩ = some (.int .i64 b)) :
    Calls Try.prog 95 #[.slice (some ⟨bk, 0, none⟩) 2 2] w fun e w' => e = .returned (.int .i64 (or2 a b)) ∧ w' = w := by
  by_cases ha : a = 0
  · subst ha
    by_cases hb : b = 0
    · subst hb
      go_enter Try.func95, Try.ntmps95
      go_wp2
      refine wp_loop_rounds 3 ?_
      rw [rounds_succ]
      go_wp2
      rw [rounds_succ]
      go_wp2
      rw [rounds_succ]
      go_wp2
      go_returns
      exact ⟨rfl, rfl⟩
    · have hb' : (b != 0) = true := by simp [hb]
      go_enter Try.func95, Try.ntmps95
      go_wp2
      refine wp_loop_rounds 2 ?_
      rw [rounds_succ]
      go_wp2
      rw [rounds_succ]
      go_wp2
      go_returns
      exact ⟨rfl, rfl⟩
  · have ha' : (a != 0) = true := by simp [ha]
    go_enter Try.func95, Try.ntmps95
    go_wp2
    refine wp_loop_rounds 1 ?_
    rw [rounds_succ]
    go_wp2
    go_returns
    exact ⟨ret_int (by unfold or2; rw [if_pos ha]), rfl⟩
set_option maxRecDepth 100000 in
theorem order_any (a b c d : Int) (w : World) : Calls Try.prog 168 #[.agg #[.int .i64 a, .int .i64 b], .agg #[.int .i64 c, .int .i64 d]] w fun e w' => e = .returned (.int .i64 (ordI (a, b) (c, d))) ∧ Grew w w' := by
  go_enter Try.func168, Try.ntmps168
  go_wp2_with fail
  refine wp_tail0 10 (by kernel_rfl) (by kernel_rfl) ?_
  simp only [List.take_succ_cons, List.take_zero, List.drop_succ_cons, List.drop_zero]
  repeat (first | still_step | still_call (cmpI_any _ _ _) | still_call (cmpL_any _ _ _))
  try refine wpStill_nil ?_
  go_wp2_with (go_at_call 95; refine (or_any (K.cmpI a c) (K.cmpI b d) _ _ (by simp [go_sem]) (by simp [go_sem])).mono ?_; rintro e w' ⟨rfl, rfl⟩)
  go_returns
  exact ⟨rfl, ((((Grew.refl w).alloc _).alloc _).alloc _).drewN 1⟩
end Go.Proofs.Ytonkkibnigdfbaa
namespace Go.Proofs.Ytonkkibnigdfbaa
open Go.RowKit B K
set_option linter.unusedVariables false
set_option linter.unusedSimpArgs false
set_option maxHeartbeats 1000000
/-- block h is a heap of the items l, as they stand: their row is sv, their map block m -/
structure HW (w : World) (base h m : Nat) (sv : Value) (l : List It) : Prop where
  blk : w.heap[h]? = some (.cells #[sv, .map (some m)] 146 (0, 0))
  own : w.ownsRow base 120 2 sv l.length (l.flatMap pairE)
  map : ∃ f, MapI Try.prog 3 3 w m f l.length ∧ MapOk f l
  hb : base ≤ h
  mb : base ≤ m
  wf : ∀ x ∈ l, (Lit.int .i64 x.2).wf = true
  len : l.length ≤ 1099511627776
def hbs (h m : Nat) (sv : Value) : List Nat := h :: m :: sv.ownBlock.toList
section
variable {w w' : World} {base h m : Nat} {sv : Value} {l : List It}
theorem HW.hlt (H : HW w base h m sv l) : h < w.heap.size := (Array.getElem?_eq_some_iff.1 H.blk).1
theorem HW.mlt (H : HW w base h m sv l) : m < w.heap.size := by obtain ⟨f, hf, _⟩ := H.map; exact hf.lt
theorem own_lt {e : TypeId} {size n g : Nat} {v : Value} {xs : List Value} (h : w.ownsRow base e size v n xs) (hg : v.ownBlock = some g) : g < w.heap.size ∧ base ≤ g := by
  rcases h.2 with ⟨rfl, _⟩ | ⟨g', cap, cur, rfl, hb, hh, _⟩
  · cases hg
  · cases hg; exact ⟨(Array.getElem?_eq_some_iff.1 hh).1, hb⟩
theorem HW.keep (H : HW w base h m sv l) (hk : ∀ b, b < w.heap.size → b ∈ hbs h m sv → w'.heap[b]? = w.heap[b]?) : HW w' base h m sv l := by
  obtain ⟨f, hf, hm⟩ := H.map
  exact ⟨(hk h H.hlt (by simp [hbs])).trans H.blk, own_keep H.own fun g hg => hk g (own_lt H.own hg).1 (by simp [hbs, hg]), ⟨f, hf.keep (hk m H.mlt (by simp [hbs])), hm⟩, H.hb, H.mb, H.wf, H.len⟩
theorem HW.below (H : HW w base h m sv l) (hb : Below w.heap.size w w') : HW w' base h m sv l := H.keep fun b hlt _ => hb.block b hlt
theorem HW.but {X : List Nat} (H : HW w base h m sv l) (hb : But w w' X) (hX : ∀ x ∈ hbs h m sv, x ∉ X) : HW w' base h m sv l := H.keep fun b hlt hx => hb.keep b hlt (hX b hx)
theorem HW.c0 (H : HW w base h m sv l) : w.cell? ⟨h, 0, none⟩ = some sv := by rw [cell_of_row _ _ _ _ _ _ H.blk]; rfl
theorem HW.c1 (H : HW w base h m sv l) : w.cell? ⟨h, 1, none⟩ = some (.map (some m)) := by rw [cell_of_row _ _ _ _ _ _ H.blk]; rfl
theorem HW.base_le (H : HW w base h m sv l) : ∀ x ∈ hbs h m sv, base ≤ x := by
  intro x hx
  simp only [hbs, List.mem_cons, Option.mem_toList] at hx
  rcases hx with rfl | rfl | hx
  · exact H.hb
  · exact H.mb
  · exact (own_lt H.own hx).2
theorem HW.lt (H : HW w base h m sv l) : ∀ x ∈ hbs h m sv, x < w.heap.size := by
  intro x hx
  simp only [hbs, List.mem_cons, Option.mem_toList] at hx
  rcases hx with rfl | rfl | hx
  · exact H.hlt
  · exact H.mlt
  · exact (own_lt H.own hx).1
theorem HW.hm (H : HW w base h m sv l) : h ≠ m := by
  intro e
  obtain ⟨f, ⟨D, ⟨es, cl, hb, _⟩, _⟩, _⟩ := H.map
  rw [← e, H.blk] at hb; cases hb
theorem HW.hg (H : HW w base h m sv l) {g : Nat} (hg : sv.ownBlock = some g) : g ≠ h ∧ g ≠ m := by
  rcases H.own.2 with ⟨rfl, _⟩ | ⟨g', cap, cur, rfl, hb, hh, _⟩
  · cases hg
  · cases hg
    constructor
    · intro e; subst e
      rw [H.blk] at hh
      simp at hh
    · intro e; subst e
      obtain ⟨f, ⟨D, ⟨es, cl, hb, _⟩, _⟩, _⟩ := H.map
      rw [hb] at hh; cases hh
/-- an item as it lies there -/
theorem HW.item (H : HW w base h m sv l) {i : Nat} {x : It} (hx : l[i]? = some x) : ∃ g c, sv = .slice (some ⟨g, 0, none⟩) l.length c ∧ g < w.heap.size ∧ l.length ≤ c ∧ c ≤ 9223372036854775807 ∧
    w.cell? ⟨g, i * 2, none⟩ = some (.int .i64 x.1) ∧ w.cell? ⟨g, i * 2 + 1, none⟩ = some (.int .i64 x.2) := by
  have hi := (List.getElem?_eq_some_iff.1 hx).1
  have hle := H.own
  obtain ⟨A, c, e, hr, hc, hc2⟩ := Rd.of_own (enc := pairE) pairE_len2 rfl H.own
  obtain ⟨b, o, x1, x2, e2, hbs, hx', h1, h2⟩ := hr.pair hi
  rw [hx] at hx'; cases hx'
  rcases hle.2 with ⟨rfl, h0⟩ | ⟨g', cap, cur, rfl, hb, hh, h6, h7, h8, _⟩
  · omega
  · cases e
    cases e2
    simp only [Nat.zero_add] at h1 h2
    exact ⟨_, _, rfl, hbs, hc, hc2, h1, h2⟩
theorem iLen_any (H : HW w base h m sv l) : Calls Try.prog 163 #[.pointer (some ⟨h, 0, none⟩)] w fun e w' => e = .returned (.int .i64 l.length) ∧ w' = w := by
  obtain ⟨A, c, rfl, hr, hc, hc2⟩ := Rd.of_own (enc := pairE) pairE_len2 rfl H.own
  have c0 := H.c0
  go_enter Try.func163, Try.ntmps163
  go_wp2
  go_returns
  exact ⟨rfl, rfl⟩
set_option maxRecDepth 100000 in
theorem iLess_any (H : HW w base h m sv l) {i j : Nat} {x y : It} (hx : l[i]? = some x) (hy : l[j]? = some y) :
    Calls Try.prog 164 #[.pointer (some ⟨h, 0, none⟩), .int .i64 i, .int .i64 j] w fun e w' => e = .returned (.bool (ltI x y)) ∧ Below w.heap.size w w' := by
  obtain ⟨g, c, rfl, hgl, hc, hc2, h1, h2⟩ := H.item hx
  obtain ⟨g', c', e, _, _, _, k1, k2⟩ := H.item hy
  cases e
  have c0 := H.c0
  have hlt := H.hlt
  have hll := H.len
  have hi := (List.getElem?_eq_some_iff.1 hx).1
  have hj := (List.getElem?_eq_some_iff.1 hy).1
  have hi1 : (i : Int) < (l.length : Int) := by omega
  have hj1 : (j : Int) < (l.length : Int) := by omega
  have hi0 : (0 : Int) ≤ (i : Int) := by omega
  have hj0 : (0 : Int) ≤ (j : Int) := by omega
  obtain ⟨n, hn⟩ : ∃ n, l.length = n := ⟨_, rfl⟩
  have hord := Lib.hid (ordI_lt x y)
  rw [hn] at c0 hi1 hj1
  clear H hn hx hy
  go_enter Try.func164, Try.ntmps164
  go_upto_region 1 with fail
  refine wp_region_below w.heap.size (by kernel_rfl) (by kernel_rfl) ?_
  intro C hC
  repeat (go_big_quiet_step (first
    | ((intro _; with_reducible rfl))
    | (intro hc; have m0 := (hc.cell (p := ⟨h, _, none⟩) hlt).trans c0; have m1 := (hc.cell (p := ⟨g, _, none⟩) hgl).trans h1; have m2 := (hc.cell (p := ⟨g, _, none⟩) hgl).trans h2; have m3 := (hc.cell (p := ⟨g, _, none⟩) hgl).trans k1; have m4 := (hc.cell (p := ⟨g, _, none⟩) hgl).trans k2; simp only [m0, m1, m2, m3, m4, Result.andThen]; exact ⟨trivial, rfl⟩)
    | (intro hc; refine (order_any x.1 x.2 y.1 y.2 _).mono ?_; rintro e w'' ⟨rfl, hg⟩; exact ⟨rfl, hc.trans (hg.below.mono hc.size)⟩)))
  refine wpQuiet_nil ?_
  intro w4 hb4
  clear hC
  go_wp2_with fail
  go_returns
  exact ⟨ret_bool hord.out, hb4⟩
end
end Go.Proofs.Ytonkkibnigdfbaa
namespace Go.Proofs.Ytonkkibnigdfbaa
open Go.RowKit B K
open Go.ChangeMaps (setBlock)
set_option linter.unusedVariables false
set_option linter.unusedSimpArgs false
set_option maxHeartbeats 2000000
/-- the map's block while two of its entries are written -/
def GS (w0 : World) (m : Nat) (B0 B1 B2 : Obj) (l : Nat → Bool) (x : Nat → Value) (w : World) : Prop :=
  But w0 w [m] ∧ (l 28 = false → w.heap[m]? = some B0) ∧ (l 28 = true → l 31 = false → w.heap[m]? = some B1) ∧ (l 31 = true → w.heap[m]? = some B2) ∧ (l 28 = true → l 26 = true) ∧ (l 29 = true → l 28 = true) ∧ (l 31 = true → l 29 = true)
section
variable {w0 w : World} {m : Nat} {B0 B1 B2 : Obj} {l : Nat → Bool} {x : Nat → Value} {v : Value}
theorem GS.start (h26 : l 26 = false) (h28 : l 28 = false) (h29 : l 29 = false) (h31 : l 31 = false) (hB : w0.heap[m]? = some B0) : GS w0 m B0 B1 B2 l x { w0 with drawn := w0.drawn + 1 } :=
  ⟨⟨rfl, rfl, rfl, Nat.le_refl _, fun _ _ _ => rfl⟩, fun _ => hB, fun h => (by rw [h28] at h; cases h), fun h => (by rw [h31] at h; cases h), fun h => (by rw [h28] at h; cases h), fun h => (by rw [h29] at h; cases h), fun h => (by rw [h31] at h; cases h)⟩
theorem GS.not28 (h : GS w0 m B0 B1 B2 l x w) (h26 : l 26 = false) : l 28 = false := by
  cases e : l 28 with
  | false => rfl
  | true => rw [h.2.2.2.2.1 e] at h26; cases h26
theorem GS.not31 (h : GS w0 m B0 B1 B2 l x w) (h29 : l 29 = false) : l 31 = false := by
  cases e : l 31 with
  | false => rfl
  | true => rw [h.2.2.2.2.2.2 e] at h29; cases h29
theorem GS.s26 (h : GS w0 m B0 B1 B2 l x w) : GS w0 m B0 B1 B2 (updB l 26) (upd x 26 v) w := by
  obtain ⟨g1, g2, g3, g4, g5, g6, g7⟩ := h
  exact ⟨g1, g2, g3, g4, fun _ => rfl, g6, g7⟩
theorem GS.s28 (h : GS w0 m B0 B1 B2 l x w) (h28 : l 28 = false) (h26 : l 26 = true) : GS w0 m B0 B1 B2 (updB l 28) (upd x 28 v) (setBlock w m B1) := by
  obtain ⟨g1, g2, g3, g4, g5, g6, g7⟩ := h
  have h29 : l 29 = false := by
    cases e : l 29 with
    | false => rfl
    | true => rw [g6 e] at h28; cases h28
  have h31 : l 31 = false := by
    cases e : l 31 with
    | false => rfl
    | true => rw [g7 e] at h29; cases h29
  refine ⟨g1.trans (but_setB (by simp)), fun h => (by cases h), fun _ _ => heap_setB (g2 h28), fun h => ?_, fun _ => h26, fun _ => rfl, g7⟩
  rw [show updB l 28 31 = l 31 from rfl, h31] at h; cases h
theorem GS.s29 (h : GS w0 m B0 B1 B2 l x w) (h28 : l 28 = true) : GS w0 m B0 B1 B2 (updB l 29) (upd x 29 v) w := by
  obtain ⟨g1, g2, g3, g4, g5, g6, g7⟩ := h
  exact ⟨g1, g2, g3, g4, g5, fun _ => h28, fun _ => rfl⟩
theorem GS.s31 (h : GS w0 m B0 B1 B2 l x w) (h29 : l 29 = true) (h31 : l 31 = false) : GS w0 m B0 B1 B2 (updB l 31) (upd x 31 v) (setBlock w m B2) := by
  obtain ⟨g1, g2, g3, g4, g5, g6, g7⟩ := h
  have h28 := g6 h29
  refine ⟨g1.trans (but_setB (by simp)), fun h => ?_, fun _ h => (by cases h), fun _ => heap_setB (g3 h28 h31), g5, g6, fun _ => h29⟩
  rw [show updB l 31 28 = l 28 from rfl, h28] at h; cases h
end
/-- the row while two of its items are written -/
def GR (w0 : World) (base g c n : Nat) (l : List It) (i j : Nat) (a b : It) (fl : Nat → Bool) (x : Nat → Value) (w : World) : Prop :=
  But w0 w [g] ∧ (fl 25 = false → w.ownsRow base 120 2 (.slice (some ⟨g, 0, none⟩) n c) n (l.flatMap pairE)) ∧ (fl 25 = true → fl 27 = false → w.ownsRow base 120 2 (.slice (some ⟨g, 0, none⟩) n c) n ((l.set i b).flatMap pairE)) ∧
  (fl 27 = true → w.ownsRow base 120 2 (.slice (some ⟨g, 0, none⟩) n c) n ((swp l i j a b).flatMap pairE)) ∧ (fl 25 = true → fl 16 = true ∧ fl 23 = true) ∧ (fl 27 = true → fl 25 = true)
theorem own_at {w : World} {base g c n k : Nat} {l : List It} {x : It} (own : w.ownsRow base 120 2 (.slice (some ⟨g, 0, none⟩) n c) n (l.flatMap pairE)) (hx : l[k]? = some x) :
    w.cell? ⟨g, k * 2, none⟩ = some (.int .i64 x.1) ∧ w.cell? ⟨g, k * 2 + 1, none⟩ = some (.int .i64 x.2) := by
  have hln : l.length = n := by
    have := own.1
    rw [flatMap_len pairE_len2] at this
    omega
  obtain ⟨A3, q3, e3, r3, _, _⟩ := Rd.of_own (enc := pairE) pairE_len2 hln own
  cases e3
  obtain ⟨b3, o3, u1, u2, hA3, _, hu, s1, s2⟩ := r3.pair (k := k) (by have := (List.getElem?_eq_some_iff.1 hx).1; omega)
  cases hA3
  rw [hx] at hu; cases hu
  simp only [Nat.zero_add] at s1 s2
  exact ⟨s1, s2⟩
section
variable {w0 w : World} {base g c n i j : Nat} {l : List It} {a b : It} {fl : Nat → Bool} {x : Nat → Value} {v : Value}
theorem GR.start (h25 : fl 25 = false) (h27 : fl 27 = false) (own : w0.ownsRow base 120 2 (.slice (some ⟨g, 0, none⟩) n c) n (l.flatMap pairE)) : GR w0 base g c n l i j a b fl x { w0 with drawn := w0.drawn + 1 } :=
  ⟨⟨rfl, rfl, rfl, Nat.le_refl _, fun _ _ _ => rfl⟩, fun _ => own, fun h => (by rw [h25] at h; cases h), fun h => (by rw [h27] at h; cases h), fun h => (by rw [h25] at h; cases h), fun h => (by rw [h27] at h; cases h)⟩
theorem GR.not16 (h : GR w0 base g c n l i j a b fl x w) (h16 : fl 16 = false) : fl 25 = false := by
  cases e : fl 25 with
  | false => rfl
  | true => rw [(h.2.2.2.2.1 e).1] at h16; cases h16
theorem GR.not23 (h : GR w0 base g c n l i j a b fl x w) (h16 : fl 23 = false) : fl 25 = false := by
  cases e : fl 25 with
  | false => rfl
  | true => rw [(h.2.2.2.2.1 e).2] at h16; cases h16
theorem GR.get (h : GR w0 base g c n l i j a b fl x w) (h25 : fl 25 = false) {k : Nat} {z1 z2 : Int} (hz : l[k]? = some (z1, z2)) : w.cell? ⟨g, k * 2, none⟩ = some (.int .i64 z1) ∧ w.cell? ⟨g, k * 2 + 1, none⟩ = some (.int .i64 z2) := own_at (h.2.1 h25) hz
theorem GR.get2 (h : GR w0 base g c n l i j a b fl x w) (h25 : fl 25 = true) (h27 : fl 27 = false) (hj : j < l.length) : ∃ z1 z2, w.cell? ⟨g, j * 2, none⟩ = some (.int .i64 z1) ∧ w.cell? ⟨g, j * 2 + 1, none⟩ = some (.int .i64 z2) := by
  have hl : j < (l.set i b).length := by simpa using hj
  exact ⟨_, _, own_at (h.2.2.1 h25 h27) (List.getElem?_eq_getElem hl)⟩
theorem GR.s16 (h : GR w0 base g c n l i j a b fl x w) : GR w0 base g c n l i j a b (updB fl 16) (upd x 16 v) w := by
  obtain ⟨g1, g2, g3, g4, g5, g6⟩ := h
  exact ⟨g1, g2, g3, g4, fun h => ⟨rfl, (g5 h).2⟩, g6⟩
theorem GR.s23 (h : GR w0 base g c n l i j a b fl x w) : GR w0 base g c n l i j a b (updB fl 23) (upd x 23 v) w := by
  obtain ⟨g1, g2, g3, g4, g5, g6⟩ := h
  exact ⟨g1, g2, g3, g4, fun h => ⟨(g5 h).1, rfl⟩, g6⟩
theorem GR.s25 (h : GR w0 base g c n l i j a b fl x w) (hi : i < l.length) (h25 : fl 25 = false) (h16 : fl 16 = true) (h23 : fl 23 = true) :
    GR w0 base g c n l i j a b (updB fl 25) (upd x 25 v) ((w.setCell ⟨g, i * 2, none⟩ (.int .i64 b.1)).setCell ⟨g, i * 2 + 1, none⟩ (.int .i64 b.2)) := by
  obtain ⟨g1, g2, g3, g4, g5, g6⟩ := h
  have own2 := (((g2 h25).stored (i * 2) (.int .i64 b.1)).1.stored (i * 2 + 1) (.int .i64 b.2)).1
  rw [flat_set_pair _ _ _ _ hi] at own2
  have h27 : fl 27 = false := by
    cases e : fl 27 with
    | false => rfl
    | true => rw [g6 e] at h25; cases h25
  refine ⟨(g1.trans (But.of_set _ _ _ (by simp))).trans (But.of_set _ _ _ (by simp)), fun h => (by cases h), fun _ _ => own2, fun h => ?_, fun _ => ⟨h16, h23⟩, fun _ => rfl⟩
  rw [show updB fl 25 27 = fl 27 from rfl, h27] at h; cases h
theorem GR.s27 (h : GR w0 base g c n l i j a b fl x w) (hj : j < l.length) (h25 : fl 25 = true) (h27 : fl 27 = false) :
    GR w0 base g c n l i j a b (updB fl 27) (upd x 27 v) ((w.setCell ⟨g, j * 2, none⟩ (.int .i64 a.1)).setCell ⟨g, j * 2 + 1, none⟩ (.int .i64 a.2)) := by
  obtain ⟨g1, g2, g3, g4, g5, g6⟩ := h
  have own2 := (((g3 h25 h27).stored (j * 2) (.int .i64 a.1)).1.stored (j * 2 + 1) (.int .i64 a.2)).1
  rw [flat_set_pair _ _ _ _ (by simpa using hj)] at own2
  refine ⟨(g1.trans (But.of_set _ _ _ (by simp))).trans (But.of_set _ _ _ (by simp)), fun h => ?_, fun _ h => (by cases h), fun _ => own2, g5, fun _ => h25⟩
  rw [show updB fl 27 25 = fl 25 from rfl, h25] at h; cases h
end
set_option maxRecDepth 100000 in
theorem iSwap_any {w : World} {base h m : Nat} {sv : Value} {l : List It} (H : HW w base h m sv l) {i j : Nat} {x y : It} (hx : l[i]? = some x) (hy : l[j]? = some y) :
    Calls Try.prog 167 #[.pointer (some ⟨h, 0, none⟩), .int .i64 i, .int .i64 j] w fun e w' => e = .returned (.tuple #[]) ∧ HW w' base h m sv (swp l i j x y) ∧ But w w' (hbs h m sv) := by
  obtain ⟨x1, x2⟩ := x
  obtain ⟨y1, y2⟩ := y
  obtain ⟨g, c, rfl, hgl, hc, hc2, h1, h2⟩ := H.item hx
  obtain ⟨g', c', e, _, _, _, k1, k2⟩ := H.item hy
  cases e
  have c0 := H.c0
  have c1 := H.c1
  have hlt := H.hlt
  have hll := H.len
  have hgh := (H.hg rfl).1
  have hgm := (H.hg rfl).2
  have hi := (List.getElem?_eq_some_iff.1 hx).1
  have hj := (List.getElem?_eq_some_iff.1 hy).1
  have hi1 : (i : Int) < (l.length : Int) := by omega
  have hj1 : (j : Int) < (l.length : Int) := by omega
  have hi0 : (0 : Int) ≤ (i : Int) := by omega
  have hj0 : (0 : Int) ≤ (j : Int) := by omega
  have own0 := Lib.hid H.own
  obtain ⟨n, hn⟩ : ∃ n, l.length = n := ⟨_, rfl⟩
  rw [hn] at c0 hi1 hj1 own0
  -- behind both regions, whatever the first leaves
  have hafter : Hid (∀ W4 : World, But w W4 [g] → W4.ownsRow base 120 2 (.slice (some ⟨g, 0, none⟩) n c) n ((swp l i j (x1, x2) (y1, y2)).flatMap pairE) →
      ∃ B0 B1 B2 v0 st0 v1 st1, W4.heap[m]? = some B0 ∧ W4.cell? ⟨g, i * 2 + 1, none⟩ = some (.int .i64 y2) ∧ W4.cell? ⟨g, j * 2 + 1, none⟩ = some (.int .i64 x2) ∧
        (∀ W : World, W.heap[m]? = some B0 → (Instr.mapEntry 77 (.map (some m)) (.int .i64 y2)).run Try.prog W = .ok (.tuple #[v0, .int .i64 ((st0 : Nat) : Int)]) W) ∧
        (∀ W : World, W.heap[m]? = some B0 → (Instr.entryStore 77 (.map (some m)) (.int .i64 ((st0 : Nat) : Int)) (.int .i64 i)).run Try.prog W = .ok () (setBlock W m B1)) ∧
        (∀ W : World, W.heap[m]? = some B1 → (Instr.mapEntry 77 (.map (some m)) (.int .i64 x2)).run Try.prog W = .ok (.tuple #[v1, .int .i64 ((st1 : Nat) : Int)]) W) ∧
        (∀ W : World, W.heap[m]? = some B1 → (Instr.entryStore 77 (.map (some m)) (.int .i64 ((st1 : Nat) : Int)) (.int .i64 j)).run Try.prog W = .ok () (setBlock W m B2)) ∧
        (∀ w' : World, But W4 w' [m] → w'.heap[m]? = some B2 → HW w' base h m (.slice (some ⟨g, 0, none⟩) n c) (swp l i j (x1, x2) (y1, y2)) ∧ But w w' (hbs h m (.slice (some ⟨g, 0, none⟩) n c)))) := by
    intro W4 hbut4 own4
    have hlen : (swp l i j (x1, x2) (y1, y2)).length = n := by rw [swp_len, hn]
    have at' := swp_at hx hy
    have vi : (swp l i j (x1, x2) (y1, y2))[i]? = some (y1, y2) := by
      rw [at']
      by_cases e : i = j
      · subst e; rw [if_pos rfl, ← hx, hy]
      · rw [if_neg e, if_pos rfl]
    have vj : (swp l i j (x1, x2) (y1, y2))[j]? = some (x1, x2) := by rw [at', if_pos rfl]
    obtain ⟨f, hf, hM⟩ := H.map
    have hf4 := hf.keep (hbut4.keep m H.mlt (by simp; exact Ne.symm hgm))
    have hwx := H.wf _ (List.mem_of_getElem? hx)
    have hwy := H.wf _ (List.mem_of_getElem? hy)
    have hwi : (Lit.int .i64 (i : Int)).wf = true := wf64 (by omega) (by omega)
    have hwj : (Lit.int .i64 (j : Int)).wf = true := wf64 (by omega) (by omega)
    obtain ⟨B0, B1, v0, st0, hB0, n1, n2, hM1⟩ := hf4.entry Try.underlying77 Try.underlying3 Try.underlying3 hwy hwi (hM.there hy) (by omega)
    have hM1' := hM1 (setBlock W4 m B1) (heap_setB hB0)
    obtain ⟨B1', B2, v1, st1, hB1, n3, n4, hM2⟩ := hM1'.entry Try.underlying77 Try.underlying3 Try.underlying3 hwx hwj (by
      unfold updI; split
      · rfl
      · exact hM.there hx) (by omega)
    have e1 : B1' = B1 := by rw [heap_setB hB0] at hB1; cases hB1; rfl
    subst e1
    have hlt4 : h < W4.heap.size := Nat.lt_of_lt_of_le hlt hbut4.size
    have hgl4 : g < W4.heap.size := Nat.lt_of_lt_of_le hgl hbut4.size
    refine ⟨B0, B1', B2, v0, st0, v1, st1, hB0, (own_at own4 vi).2, (own_at own4 vj).2, n1, n2, n3, n4, fun w' hb hB => ⟨⟨((hb.keep h hlt4 (by simp; exact H.hm)).trans (hbut4.keep h hlt (by simp; exact Ne.symm hgh))).trans (by rw [← hn]; exact H.blk), ?_,
      ⟨_, by rw [hlen, ← hn]; exact hM2 w' hB, hM.swp hx hy⟩, H.hb, H.mb, fun z hz => H.wf z ((swp_perm hx hy).mem_iff.1 hz), by rw [hlen, ← hn]; exact H.len⟩, ?_⟩⟩
    · rw [hlen]
      exact own_keep own4 fun g2 hg2 => by cases hg2; exact hb.keep g hgl4 (by simp; exact hgm)
    · exact (hbut4.mono (by intro a ha; simp at ha; subst ha; simp [hbs, Value.ownBlock])).trans (hb.mono (by intro a ha; simp at ha; subst ha; simp [hbs]))
  have Hm := H.hm
  rw [hn]
  clear H hn h1 h2 k1 k2
  go_enter Try.func167, Try.ntmps167
  go_upto_region 0 with fail
  refine wp_region_ghost (GR w base g c n l i j (x1, x2) (y1, y2)) (by kernel_rfl) (by kernel_rfl) (by kernel_rfl) (by kernel_rfl) (by kernel_rfl) ?_ ?_
  · intro x0
    exact GR.start rfl rfl own0.out
  intro base O hbase hO
  have kx0 : Hid (∀ xs, evX base O xs (.tmp 0) = .pointer (some ⟨h, 0, none⟩)) := fun xs => by rw [hbase, hO]; rfl
  have kx1 : Hid (∀ xs, evX base O xs (.tmp 1) = .int .i64 (i : Int)) := fun xs => by rw [hbase, hO]; rfl
  have kx2 : Hid (∀ xs, evX base O xs (.tmp 2) = .int .i64 (j : Int)) := fun xs => by rw [hbase, hO]; rfl
  have kx6 : Hid (∀ xs, evX base O xs (.tmp 6) = xs 0) := fun xs => by rw [hO]; rfl
  have kx7 : Hid (∀ xs, evX base O xs (.tmp 7) = xs 1) := fun xs => by rw [hO]; rfl
  have kx8 : Hid (∀ xs, evX base O xs (.tmp 8) = xs 2) := fun xs => by rw [hO]; rfl
  have kx9 : Hid (∀ xs, evX base O xs (.tmp 9) = xs 3) := fun xs => by rw [hO]; rfl
  have kx10 : Hid (∀ xs, evX base O xs (.tmp 10) = xs 4) := fun xs => by rw [hO]; rfl
  have kx11 : Hid (∀ xs, evX base O xs (.tmp 11) = xs 5) := fun xs => by rw [hO]; rfl
  have kx12 : Hid (∀ xs, evX base O xs (.tmp 12) = xs 6) := fun xs => by rw [hO]; rfl
  have kx13 : Hid (∀ xs, evX base O xs (.tmp 13) = xs 7) := fun xs => by rw [hO]; rfl
  have kx14 : Hid (∀ xs, evX base O xs (.tmp 14) = xs 8) := fun xs => by rw [hO]; rfl
  have kx15 : Hid (∀ xs, evX base O xs (.tmp 15) = xs 9) := fun xs => by rw [hO]; rfl
  have kx16 : Hid (∀ xs, evX base O xs (.tmp 16) = xs 10) := fun xs => by rw [hO]; rfl
  have kx17 : Hid (∀ xs, evX base O xs (.tmp 17) = xs 11) := fun xs => by rw [hO]; rfl
  have kx18 : Hid (∀ xs, evX base O xs (.tmp 18) = xs 12) := fun xs => by rw [hO]; rfl
  have kx19 : Hid (∀ xs, evX base O xs (.tmp 19) = xs 13) := fun xs => by rw [hO]; rfl
  have kx20 : Hid (∀ xs, evX base O xs (.tmp 20) = xs 14) := fun xs => by rw [hO]; rfl
  have kx21 : Hid (∀ xs, evX base O xs (.tmp 21) = xs 15) := fun xs => by rw [hO]; rfl
  have kx22 : Hid (∀ xs, evX base O xs (.tmp 22) = xs 16) := fun xs => by rw [hO]; rfl
  have kx23 : Hid (∀ xs, evX base O xs (.tmp 23) = xs 17) := fun xs => by rw [hO]; rfl
  have kx24 : Hid (∀ xs, evX base O xs (.tmp 24) = xs 18) := fun xs => by rw [hO]; rfl
  have kx25 : Hid (∀ xs, evX base O xs (.tmp 25) = xs 19) := fun xs => by rw [hO]; rfl
  have kx26 : Hid (∀ xs, evX base O xs (.tmp 26) = xs 20) := fun xs => by rw [hO]; rfl
  have kx27 : Hid (∀ xs, evX base O xs (.tmp 27) = xs 21) := fun xs => by rw [hO]; rfl
  have kx28 : Hid (∀ xs, evX base O xs (.tmp 28) = xs 22) := fun xs => by rw [hO]; rfl
  have kx29 : Hid (∀ xs, evX base O xs (.tmp 29) = xs 23) := fun xs => by rw [hO]; rfl
  have kx30 : Hid (∀ xs, evX base O xs (.tmp 30) = xs 24) := fun xs => by rw [hO]; rfl
  have kx31 : Hid (∀ xs, evX base O xs (.tmp 31) = xs 26) := fun xs => by rw [hO]; rfl
  clear hbase hO
  apply gh_det (n := 0)
  · intro fl xs w ev hG hD hl hdone hev K hK
    have e0 := (hev (.tmp 0)).trans (kx0.out xs)
    rw [if_pos (wantedX_none rfl)]
    have ef : ∀ f, ev (.func f) = .func (.func f) #[] #[] := fun f => (hev _).trans rfl
    clear hev hD
    go_simp
    exact hK _ _ rfl hG
  apply gh_det (n := 1)
  · intro fl xs w ev hG hD hl hdone hev K hK
    have e6 := (hev (.tmp 6)).trans (kx6.out xs)
    have d0 := hD.at_ 0 rfl rfl
    replace e6 := e6.trans d0
    rw [if_pos (wantedX_none rfl)]
    have ef : ∀ f, ev (.func f) = .func (.func f) #[] #[] := fun f => (hev _).trans rfl
    clear hev hD
    go_simp
    exact hK _ _ rfl hG
  apply gh_det (n := 2)
  · intro fl xs w ev hG hD hl hdone hev K hK
    have e7 := (hev (.tmp 7)).trans (kx7.out xs)
    have d1 := hD.at_ 1 rfl rfl
    replace e7 := e7.trans d1
    rw [if_pos (wantedX_none rfl)]
    have ef : ∀ f, ev (.func f) = .func (.func f) #[] #[] := fun f => (hev _).trans rfl
    clear hev hD
    go_simp
    exact hK _ _ rfl hG
  apply gh_det (n := 3)
  · intro fl xs w ev hG hD hl hdone hev K hK
    have e8 := (hev (.tmp 8)).trans (kx8.out xs)
    have d2 := hD.at_ 2 rfl rfl
    replace e8 := e8.trans d2
    rw [if_pos (wantedX_none rfl)]
    have ef : ∀ f, ev (.func f) = .func (.func f) #[] #[] := fun f => (hev _).trans rfl
    clear hev hD
    have m0 := (hG.1.cell (p := ⟨_, _, none⟩) hlt (by simp; exact Ne.symm hgh)).trans c0
    go_simp
    exact hK _ _ rfl hG
  apply gh_det (n := 4)
  · intro fl xs w ev hG hD hl hdone hev K hK
    have e1 := (hev (.tmp 1)).trans (kx1.out xs)
    rw [if_pos (wantedX_none rfl)]
    have ef : ∀ f, ev (.func f) = .func (.func f) #[] #[] := fun f => (hev _).trans rfl
    clear hev hD
    go_simp
    exact hK _ _ rfl hG
  apply gh_det (n := 5)
  · intro fl xs w ev hG hD hl hdone hev K hK
    have e0 := (hev (.tmp 0)).trans (kx0.out xs)
    rw [if_pos (wantedX_none rfl)]
    have ef : ∀ f, ev (.func f) = .func (.func f) #[] #[] := fun f => (hev _).trans rfl
    clear hev hD
    go_simp
    exact hK _ _ rfl hG
  apply gh_det (n := 6)
  · intro fl xs w ev hG hD hl hdone hev K hK
    have e11 := (hev (.tmp 11)).trans (kx11.out xs)
    have d5 := hD.at_ 5 rfl rfl
    replace e11 := e11.trans d5
    rw [if_pos (wantedX_none rfl)]
    have ef : ∀ f, ev (.func f) = .func (.func f) #[] #[] := fun f => (hev _).trans rfl
    clear hev hD
    go_simp
    exact hK _ _ rfl hG
  apply gh_det (n := 7)
  · intro fl xs w ev hG hD hl hdone hev K hK
    have e12 := (hev (.tmp 12)).trans (kx12.out xs)
    have d6 := hD.at_ 6 rfl rfl
    replace e12 := e12.trans d6
    rw [if_pos (wantedX_none rfl)]
    have ef : ∀ f, ev (.func f) = .func (.func f) #[] #[] := fun f => (hev _).trans rfl
    clear hev hD
    go_simp
    exact hK _ _ rfl hG
  apply gh_det (n := 8)
  · intro fl xs w ev hG hD hl hdone hev K hK
    have e13 := (hev (.tmp 13)).trans (kx13.out xs)
    have d7 := hD.at_ 7 rfl rfl
    replace e13 := e13.trans d7
    rw [if_pos (wantedX_none rfl)]
    have ef : ∀ f, ev (.func f) = .func (.func f) #[] #[] := fun f => (hev _).trans rfl
    clear hev hD
    have m0 := (hG.1.cell (p := ⟨_, _, none⟩) hlt (by simp; exact Ne.symm hgh)).trans c0
    go_simp
    exact hK _ _ rfl hG
  apply gh_det (n := 9)
  · intro fl xs w ev hG hD hl hdone hev K hK
    have e2 := (hev (.tmp 2)).trans (kx2.out xs)
    rw [if_pos (wantedX_none rfl)]
    have ef : ∀ f, ev (.func f) = .func (.func f) #[] #[] := fun f => (hev _).trans rfl
    clear hev hD
    go_simp
    exact hK _ _ rfl hG
  apply gh_det (n := 10)
  · intro fl xs w ev hG hD hl hdone hev K hK
    have e0 := (hev (.tmp 0)).trans (kx0.out xs)
    rw [if_pos (wantedX_none rfl)]
    have ef : ∀ f, ev (.func f) = .func (.func f) #[] #[] := fun f => (hev _).trans rfl
    clear hev hD
    go_simp
    exact hK _ _ rfl hG
  apply gh_det (n := 11)
  · intro fl xs w ev hG hD hl hdone hev K hK
    have e16 := (hev (.tmp 16)).trans (kx16.out xs)
    have d10 := hD.at_ 10 rfl rfl
    replace e16 := e16.trans d10
    rw [if_pos (wantedX_none rfl)]
    have ef : ∀ f, ev (.func f) = .func (.func f) #[] #[] := fun f => (hev _).trans rfl
    clear hev hD
    go_simp
    exact hK _ _ rfl hG
  apply gh_det (n := 12)
  · intro fl xs w ev hG hD hl hdone hev K hK
    have e17 := (hev (.tmp 17)).trans (kx17.out xs)
    have d11 := hD.at_ 11 rfl rfl
    replace e17 := e17.trans d11
    rw [if_pos (wantedX_none rfl)]
    have ef : ∀ f, ev (.func f) = .func (.func f) #[] #[] := fun f => (hev _).trans rfl
    clear hev hD
    go_simp
    exact hK _ _ rfl hG
  apply gh_det (n := 13)
  · intro fl xs w ev hG hD hl hdone hev K hK
    have e18 := (hev (.tmp 18)).trans (kx18.out xs)
    have d12 := hD.at_ 12 rfl rfl
    replace e18 := e18.trans d12
    rw [if_pos (wantedX_none rfl)]
    have ef : ∀ f, ev (.func f) = .func (.func f) #[] #[] := fun f => (hev _).trans rfl
    clear hev hD
    have m0 := (hG.1.cell (p := ⟨_, _, none⟩) hlt (by simp; exact Ne.symm hgh)).trans c0
    go_simp
    exact hK _ _ rfl hG
  apply gh_det (n := 14)
  · intro fl xs w ev hG hD hl hdone hev K hK
    have e2 := (hev (.tmp 2)).trans (kx2.out xs)
    rw [if_pos (wantedX_none rfl)]
    have ef : ∀ f, ev (.func f) = .func (.func f) #[] #[] := fun f => (hev _).trans rfl
    clear hev hD
    go_simp
    exact hK _ _ rfl hG
  apply gh_det (n := 15)
  · intro fl xs w ev hG hD hl hdone hev K hK
    have e19 := (hev (.tmp 19)).trans (kx19.out xs)
    have d13 := hD.at_ 13 rfl rfl
    replace e19 := e19.trans d13
    have e20 := (hev (.tmp 20)).trans (kx20.out xs)
    have d14 := hD.at_ 14 rfl rfl
    replace e20 := e20.trans d14
    rw [if_pos (wantedX_none rfl)]
    have ef : ∀ f, ev (.func f) = .func (.func f) #[] #[] := fun f => (hev _).trans rfl
    clear hev hD
    go_simp
    exact hK _ _ rfl hG
  apply gh_det (n := 16)
  · intro fl xs w ev hG hD hl hdone hev K hK
    have e21 := (hev (.tmp 21)).trans (kx21.out xs)
    have d15 := hD.at_ 15 rfl rfl
    replace e21 := e21.trans d15
    rw [if_pos (wantedX_none rfl)]
    have ef : ∀ f, ev (.func f) = .func (.func f) #[] #[] := fun f => (hev _).trans rfl
    clear hev hD
    obtain ⟨q1, q2⟩ := hG.get (hG.not16 hl) hy
    go_simp
    exact hK _ _ rfl hG.s16
  apply gh_det (n := 17)
  · intro fl xs w ev hG hD hl hdone hev K hK
    have e0 := (hev (.tmp 0)).trans (kx0.out xs)
    rw [if_pos (wantedX_none rfl)]
    have ef : ∀ f, ev (.func f) = .func (.func f) #[] #[] := fun f => (hev _).trans rfl
    clear hev hD
    go_simp
    exact hK _ _ rfl hG
  apply gh_det (n := 18)
  · intro fl xs w ev hG hD hl hdone hev K hK
    have e23 := (hev (.tmp 23)).trans (kx23.out xs)
    have d17 := hD.at_ 17 rfl rfl
    replace e23 := e23.trans d17
    rw [if_pos (wantedX_none rfl)]
    have ef : ∀ f, ev (.func f) = .func (.func f) #[] #[] := fun f => (hev _).trans rfl
    clear hev hD
    go_simp
    exact hK _ _ rfl hG
  apply gh_det (n := 19)
  · intro fl xs w ev hG hD hl hdone hev K hK
    have e24 := (hev (.tmp 24)).trans (kx24.out xs)
    have d18 := hD.at_ 18 rfl rfl
    replace e24 := e24.trans d18
    rw [if_pos (wantedX_none rfl)]
    have ef : ∀ f, ev (.func f) = .func (.func f) #[] #[] := fun f => (hev _).trans rfl
    clear hev hD
    go_simp
    exact hK _ _ rfl hG
  apply gh_det (n := 20)
  · intro fl xs w ev hG hD hl hdone hev K hK
    have e25 := (hev (.tmp 25)).trans (kx25.out xs)
    have d19 := hD.at_ 19 rfl rfl
    replace e25 := e25.trans d19
    rw [if_pos (wantedX_none rfl)]
    have ef : ∀ f, ev (.func f) = .func (.func f) #[] #[] := fun f => (hev _).trans rfl
    clear hev hD
    have m0 := (hG.1.cell (p := ⟨_, _, none⟩) hlt (by simp; exact Ne.symm hgh)).trans c0
    go_simp
    exact hK _ _ rfl hG
  apply gh_det (n := 21)
  · intro fl xs w ev hG hD hl hdone hev K hK
    have e1 := (hev (.tmp 1)).trans (kx1.out xs)
    rw [if_pos (wantedX_none rfl)]
    have ef : ∀ f, ev (.func f) = .func (.func f) #[] #[] := fun f => (hev _).trans rfl
    clear hev hD
    go_simp
    exact hK _ _ rfl hG
  apply gh_det (n := 22)
  · intro fl xs w ev hG hD hl hdone hev K hK
    have e26 := (hev (.tmp 26)).trans (kx26.out xs)
    have d20 := hD.at_ 20 rfl rfl
    replace e26 := e26.trans d20
    have e27 := (hev (.tmp 27)).trans (kx27.out xs)
    have d21 := hD.at_ 21 rfl rfl
    replace e27 := e27.trans d21
    rw [if_pos (wantedX_none rfl)]
    have ef : ∀ f, ev (.func f) = .func (.func f) #[] #[] := fun f => (hev _).trans rfl
    clear hev hD
    go_simp
    exact hK _ _ rfl hG
  apply gh_det (n := 23)
  · intro fl xs w ev hG hD hl hdone hev K hK
    have e28 := (hev (.tmp 28)).trans (kx28.out xs)
    have d22 := hD.at_ 22 rfl rfl
    replace e28 := e28.trans d22
    rw [if_pos (wantedX_none rfl)]
    have ef : ∀ f, ev (.func f) = .func (.func f) #[] #[] := fun f => (hev _).trans rfl
    clear hev hD
    obtain ⟨q1, q2⟩ := hG.get (hG.not23 hl) hx
    go_simp
    exact hK _ _ rfl hG.s23
  apply gh_det (n := 24)
  · intro fl xs w ev hG hD hl hdone hev K hK
    have e9 := (hev (.tmp 9)).trans (kx9.out xs)
    have d3 := hD.at_ 3 rfl rfl
    replace e9 := e9.trans d3
    have e10 := (hev (.tmp 10)).trans (kx10.out xs)
    have d4 := hD.at_ 4 rfl rfl
    replace e10 := e10.trans d4
    rw [if_pos (wantedX_none rfl)]
    have ef : ∀ f, ev (.func f) = .func (.func f) #[] #[] := fun f => (hev _).trans rfl
    clear hev hD
    go_simp
    exact hK _ _ rfl hG
  refine gh_any (n := 25) (fun _ => True) ?_ ?_
  · intro fl xs w ev hG hD hl hdone hev K hK
    have e30 := (hev (.tmp 30)).trans (kx30.out xs)
    have d24 := hD.at_ 24 rfl rfl
    replace e30 := e30.trans d24
    have e22 := (hev (.tmp 22)).trans (kx22.out xs)
    have d16 := hD.at_ 16 rfl rfl
    replace e22 := e22.trans d16
    rw [if_pos (wantedX_none rfl)]
    have ef : ∀ f, ev (.func f) = .func (.func f) #[] #[] := fun f => (hev _).trans rfl
    clear hev hD
    obtain ⟨q1, q2⟩ := hG.get hl hx
    have f1 := (hG.2.1 hl).frozenAt (i * 2)
    have f2 := (hG.2.1 hl).frozenAt (i * 2 + 1)
    have hgo := GR.s25 (v := undef) hG hi hl (done_of hdone 16 rfl) (done_of hdone 23 rfl)
    go_simp
    exact hK _ _ trivial hgo
  apply gh_det (n := 26)
  · intro fl xs w ev hG hD hl hdone hev K hK
    have e14 := (hev (.tmp 14)).trans (kx14.out xs)
    have d8 := hD.at_ 8 rfl rfl
    replace e14 := e14.trans d8
    have e15 := (hev (.tmp 15)).trans (kx15.out xs)
    have d9 := hD.at_ 9 rfl rfl
    replace e15 := e15.trans d9
    rw [if_pos (wantedX_none rfl)]
    have ef : ∀ f, ev (.func f) = .func (.func f) #[] #[] := fun f => (hev _).trans rfl
    clear hev hD
    go_simp
    exact hK _ _ rfl hG
  refine gh_any (n := 27) (fun _ => True) ?_ ?_
  · intro fl xs w ev hG hD hl hdone hev K hK
    have e31 := (hev (.tmp 31)).trans (kx31.out xs)
    have d26 := hD.at_ 26 rfl rfl
    replace e31 := e31.trans d26
    have e29 := (hev (.tmp 29)).trans (kx29.out xs)
    have d23 := hD.at_ 23 rfl rfl
    replace e29 := e29.trans d23
    rw [if_pos (wantedX_none rfl)]
    have ef : ∀ f, ev (.func f) = .func (.func f) #[] #[] := fun f => (hev _).trans rfl
    clear hev hD
    have h25 := done_of hdone 25 rfl
    obtain ⟨a1, a2, q1, q2⟩ := hG.get2 h25 hl hj
    have f1 := (hG.2.2.1 h25 hl).frozenAt (j * 2)
    have f2 := (hG.2.2.1 h25 hl).frozenAt (j * 2 + 1)
    have hgo := GR.s27 (v := undef) hG hj h25 hl
    go_simp
    exact hK _ _ trivial hgo
  intro xs0 W4 hG hI
  clear hI
  have hbut4 := hG.1
  obtain ⟨B0, B1, B2, v0, st0, v1, st1, hB0, k1, k2, n1, n2, n3, n4, hfin⟩ := hafter.out W4 hbut4 (hG.2.2.2.1 rfl)
  have hfin := Lib.hid hfin
  rename_i hfin0; clear hfin0 hafter hG
  have hlt4 : h < W4.heap.size := Nat.lt_of_lt_of_le hlt hbut4.size
  have hgl4 : g < W4.heap.size := Nat.lt_of_lt_of_le hgl hbut4.size
  have d0 := (hbut4.cell (p := ⟨h, 0, none⟩) hlt (by simp; exact Ne.symm hgh)).trans c0
  have d1 := (hbut4.cell (p := ⟨h, 1, none⟩) hlt (by simp; exact Ne.symm hgh)).trans c1
  simp only [List.append_eq, List.cons_append, List.nil_append, setAll, List.setIfInBounds_toArray, List.set_cons_zero, List.set_cons_succ]
  go_upto_region 1 with fail
  refine wp_region_ghost (GS W4 m B0 B1 B2) (by kernel_rfl) (by kernel_rfl) (by kernel_rfl) (by kernel_rfl) (by kernel_rfl) ?_ ?_
  · intro x0
    exact GS.start rfl rfl rfl rfl hB0
  intro base O hbase hO
  have kx0 : Hid (∀ xs, evX base O xs (.tmp 0) = .pointer (some ⟨h, 0, none⟩)) := fun xs => by rw [hbase, hO]; rfl
  have kx1 : Hid (∀ xs, evX base O xs (.tmp 1) = .int .i64 (i : Int)) := fun xs => by rw [hbase, hO]; rfl
  have kx2 : Hid (∀ xs, evX base O xs (.tmp 2) = .int .i64 (j : Int)) := fun xs => by rw [hbase, hO]; rfl
  have kx32 : Hid (∀ xs, evX base O xs (.tmp 32) = xs 0) := fun xs => by rw [hO]; rfl
  have kx33 : Hid (∀ xs, evX base O xs (.tmp 33) = xs 1) := fun xs => by rw [hO]; rfl
  have kx34 : Hid (∀ xs, evX base O xs (.tmp 34) = xs 2) := fun xs => by rw [hO]; rfl
  have kx35 : Hid (∀ xs, evX base O xs (.tmp 35) = xs 3) := fun xs => by rw [hO]; rfl
  have kx36 : Hid (∀ xs, evX base O xs (.tmp 36) = xs 4) := fun xs => by rw [hO]; rfl
  have kx37 : Hid (∀ xs, evX base O xs (.tmp 37) = xs 5) := fun xs => by rw [hO]; rfl
  have kx38 : Hid (∀ xs, evX base O xs (.tmp 38) = xs 6) := fun xs => by rw [hO]; rfl
  have kx39 : Hid (∀ xs, evX base O xs (.tmp 39) = xs 7) := fun xs => by rw [hO]; rfl
  have kx40 : Hid (∀ xs, evX base O xs (.tmp 40) = xs 8) := fun xs => by rw [hO]; rfl
  have kx41 : Hid (∀ xs, evX base O xs (.tmp 41) = xs 9) := fun xs => by rw [hO]; rfl
  have kx42 : Hid (∀ xs, evX base O xs (.tmp 42) = xs 10) := fun xs => by rw [hO]; rfl
  have kx43 : Hid (∀ xs, evX base O xs (.tmp 43) = xs 11) := fun xs => by rw [hO]; rfl
  have kx44 : Hid (∀ xs, evX base O xs (.tmp 44) = xs 12) := fun xs => by rw [hO]; rfl
  have kx45 : Hid (∀ xs, evX base O xs (.tmp 45) = xs 13) := fun xs => by rw [hO]; rfl
  have kx46 : Hid (∀ xs, evX base O xs (.tmp 46) = xs 14) := fun xs => by rw [hO]; rfl
  have kx47 : Hid (∀ xs, evX base O xs (.tmp 47) = xs 15) := fun xs => by rw [hO]; rfl
  have kx48 : Hid (∀ xs, evX base O xs (.tmp 48) = xs 16) := fun xs => by rw [hO]; rfl
  have kx49 : Hid (∀ xs, evX base O xs (.tmp 49) = xs 17) := fun xs => by rw [hO]; rfl
  have kx50 : Hid (∀ xs, evX base O xs (.tmp 50) = xs 18) := fun xs => by rw [hO]; rfl
  have kx51 : Hid (∀ xs, evX base O xs (.tmp 51) = xs 19) := fun xs => by rw [hO]; rfl
  have kx52 : Hid (∀ xs, evX base O xs (.tmp 52) = xs 20) := fun xs => by rw [hO]; rfl
  have kx53 : Hid (∀ xs, evX base O xs (.tmp 53) = xs 21) := fun xs => by rw [hO]; rfl
  have kx54 : Hid (∀ xs, evX base O xs (.tmp 54) = xs 22) := fun xs => by rw [hO]; rfl
  have kx55 : Hid (∀ xs, evX base O xs (.tmp 55) = xs 23) := fun xs => by rw [hO]; rfl
  have kx56 : Hid (∀ xs, evX base O xs (.tmp 56) = xs 24) := fun xs => by rw [hO]; rfl
  have kx57 : Hid (∀ xs, evX base O xs (.tmp 57) = xs 25) := fun xs => by rw [hO]; rfl
  have kx58 : Hid (∀ xs, evX base O xs (.tmp 58) = xs 26) := fun xs => by rw [hO]; rfl
  have kx59 : Hid (∀ xs, evX base O xs (.tmp 59) = xs 27) := fun xs => by rw [hO]; rfl
  have kx60 : Hid (∀ xs, evX base O xs (.tmp 60) = xs 29) := fun xs => by rw [hO]; rfl
  have kx61 : Hid (∀ xs, evX base O xs (.tmp 61) = xs 30) := fun xs => by rw [hO]; rfl
  clear hbase hO
  apply gh_det (n := 0)
  · intro fl xs w ev hG hD hl hdone hev K hK
    have e0 := (hev (.tmp 0)).trans (kx0.out xs)
    rw [if_pos (wantedX_none rfl)]
    have ef : ∀ f, ev (.func f) = .func (.func f) #[] #[] := fun f => (hev _).trans rfl
    clear hev hD
    go_simp
    exact hK _ _ rfl hG
  apply gh_det (n := 1)
  · intro fl xs w ev hG hD hl hdone hev K hK
    have e32 := (hev (.tmp 32)).trans (kx32.out xs)
    have d0 := hD.at_ 0 rfl rfl
    replace e32 := e32.trans d0
    rw [if_pos (wantedX_none rfl)]
    have ef : ∀ f, ev (.func f) = .func (.func f) #[] #[] := fun f => (hev _).trans rfl
    clear hev hD
    go_simp
    exact hK _ _ rfl hG
  apply gh_det (n := 2)
  · intro fl xs w ev hG hD hl hdone hev K hK
    have e33 := (hev (.tmp 33)).trans (kx33.out xs)
    have d1 := hD.at_ 1 rfl rfl
    replace e33 := e33.trans d1
    rw [if_pos (wantedX_none rfl)]
    have ef : ∀ f, ev (.func f) = .func (.func f) #[] #[] := fun f => (hev _).trans rfl
    clear hev hD
    go_simp
    exact hK _ _ rfl hG
  apply gh_det (n := 3)
  · intro fl xs w ev hG hD hl hdone hev K hK
    have e34 := (hev (.tmp 34)).trans (kx34.out xs)
    have d2 := hD.at_ 2 rfl rfl
    replace e34 := e34.trans d2
    rw [if_pos (wantedX_none rfl)]
    have ef : ∀ f, ev (.func f) = .func (.func f) #[] #[] := fun f => (hev _).trans rfl
    clear hev hD
    have m0 := (hG.1.cell (p := ⟨_, _, none⟩) hlt4 (by simp [Hm])).trans d1
    go_simp
    exact hK _ _ rfl hG
  apply gh_det (n := 4)
  · intro fl xs w ev hG hD hl hdone hev K hK
    have e0 := (hev (.tmp 0)).trans (kx0.out xs)
    rw [if_pos (wantedX_none rfl)]
    have ef : ∀ f, ev (.func f) = .func (.func f) #[] #[] := fun f => (hev _).trans rfl
    clear hev hD
    go_simp
    exact hK _ _ rfl hG
  apply gh_det (n := 5)
  · intro fl xs w ev hG hD hl hdone hev K hK
    have e36 := (hev (.tmp 36)).trans (kx36.out xs)
    have d4 := hD.at_ 4 rfl rfl
    replace e36 := e36.trans d4
    rw [if_pos (wantedX_none rfl)]
    have ef : ∀ f, ev (.func f) = .func (.func f) #[] #[] := fun f => (hev _).trans rfl
    clear hev hD
    go_simp
    exact hK _ _ rfl hG
  apply gh_det (n := 6)
  · intro fl xs w ev hG hD hl hdone hev K hK
    have e37 := (hev (.tmp 37)).trans (kx37.out xs)
    have d5 := hD.at_ 5 rfl rfl
    replace e37 := e37.trans d5
    rw [if_pos (wantedX_none rfl)]
    have ef : ∀ f, ev (.func f) = .func (.func f) #[] #[] := fun f => (hev _).trans rfl
    clear hev hD
    go_simp
    exact hK _ _ rfl hG
  apply gh_det (n := 7)
  · intro fl xs w ev hG hD hl hdone hev K hK
    have e38 := (hev (.tmp 38)).trans (kx38.out xs)
    have d6 := hD.at_ 6 rfl rfl
    replace e38 := e38.trans d6
    rw [if_pos (wantedX_none rfl)]
    have ef : ∀ f, ev (.func f) = .func (.func f) #[] #[] := fun f => (hev _).trans rfl
    clear hev hD
    have m0 := (hG.1.cell (p := ⟨_, _, none⟩) hlt4 (by simp [Hm])).trans d0
    go_simp
    exact hK _ _ rfl hG
  apply gh_det (n := 8)
  · intro fl xs w ev hG hD hl hdone hev K hK
    have e1 := (hev (.tmp 1)).trans (kx1.out xs)
    rw [if_pos (wantedX_none rfl)]
    have ef : ∀ f, ev (.func f) = .func (.func f) #[] #[] := fun f => (hev _).trans rfl
    clear hev hD
    go_simp
    exact hK _ _ rfl hG
  apply gh_det (n := 9)
  · intro fl xs w ev hG hD hl hdone hev K hK
    have e39 := (hev (.tmp 39)).trans (kx39.out xs)
    have d7 := hD.at_ 7 rfl rfl
    replace e39 := e39.trans d7
    have e40 := (hev (.tmp 40)).trans (kx40.out xs)
    have d8 := hD.at_ 8 rfl rfl
    replace e40 := e40.trans d8
    rw [if_pos (wantedX_none rfl)]
    have ef : ∀ f, ev (.func f) = .func (.func f) #[] #[] := fun f => (hev _).trans rfl
    clear hev hD
    go_simp
    exact hK _ _ rfl hG
  apply gh_det (n := 10)
  · intro fl xs w ev hG hD hl hdone hev K hK
    have e41 := (hev (.tmp 41)).trans (kx41.out xs)
    have d9 := hD.at_ 9 rfl rfl
    replace e41 := e41.trans d9
    rw [if_pos (wantedX_none rfl)]
    have ef : ∀ f, ev (.func f) = .func (.func f) #[] #[] := fun f => (hev _).trans rfl
    clear hev hD
    go_simp
    exact hK _ _ rfl hG
  apply gh_det (n := 11)
  · intro fl xs w ev hG hD hl hdone hev K hK
    have e42 := (hev (.tmp 42)).trans (kx42.out xs)
    have d10 := hD.at_ 10 rfl rfl
    replace e42 := e42.trans d10
    rw [if_pos (wantedX_none rfl)]
    have ef : ∀ f, ev (.func f) = .func (.func f) #[] #[] := fun f => (hev _).trans rfl
    clear hev hD
    have m0 := (hG.1.cell (p := ⟨_, _, none⟩) hgl4 (by simp [hgm])).trans k1
    go_simp
    exact hK _ _ rfl hG
  apply gh_det (n := 12)
  · intro fl xs w ev hG hD hl hdone hev K hK
    have e0 := (hev (.tmp 0)).trans (kx0.out xs)
    rw [if_pos (wantedX_none rfl)]
    have ef : ∀ f, ev (.func f) = .func (.func f) #[] #[] := fun f => (hev _).trans rfl
    clear hev hD
    go_simp
    exact hK _ _ rfl hG
  apply gh_det (n := 13)
  · intro fl xs w ev hG hD hl hdone hev K hK
    have e44 := (hev (.tmp 44)).trans (kx44.out xs)
    have d12 := hD.at_ 12 rfl rfl
    replace e44 := e44.trans d12
    rw [if_pos (wantedX_none rfl)]
    have ef : ∀ f, ev (.func f) = .func (.func f) #[] #[] := fun f => (hev _).trans rfl
    clear hev hD
    go_simp
    exact hK _ _ rfl hG
  apply gh_det (n := 14)
  · intro fl xs w ev hG hD hl hdone hev K hK
    have e45 := (hev (.tmp 45)).trans (kx45.out xs)
    have d13 := hD.at_ 13 rfl rfl
    replace e45 := e45.trans d13
    rw [if_pos (wantedX_none rfl)]
    have ef : ∀ f, ev (.func f) = .func (.func f) #[] #[] := fun f => (hev _).trans rfl
    clear hev hD
    go_simp
    exact hK _ _ rfl hG
  apply gh_det (n := 15)
  · intro fl xs w ev hG hD hl hdone hev K hK
    have e46 := (hev (.tmp 46)).trans (kx46.out xs)
    have d14 := hD.at_ 14 rfl rfl
    replace e46 := e46.trans d14
    rw [if_pos (wantedX_none rfl)]
    have ef : ∀ f, ev (.func f) = .func (.func f) #[] #[] := fun f => (hev _).trans rfl
    clear hev hD
    have m0 := (hG.1.cell (p := ⟨_, _, none⟩) hlt4 (by simp [Hm])).trans d1
    go_simp
    exact hK _ _ rfl hG
  apply gh_det (n := 16)
  · intro fl xs w ev hG hD hl hdone hev K hK
    have e0 := (hev (.tmp 0)).trans (kx0.out xs)
    rw [if_pos (wantedX_none rfl)]
    have ef : ∀ f, ev (.func f) = .func (.func f) #[] #[] := fun f => (hev _).trans rfl
    clear hev hD
    go_simp
    exact hK _ _ rfl hG
  apply gh_det (n := 17)
  · intro fl xs w ev hG hD hl hdone hev K hK
    have e48 := (hev (.tmp 48)).trans (kx48.out xs)
    have d16 := hD.at_ 16 rfl rfl
    replace e48 := e48.trans d16
    rw [if_pos (wantedX_none rfl)]
    have ef : ∀ f, ev (.func f) = .func (.func f) #[] #[] := fun f => (hev _).trans rfl
    clear hev hD
    go_simp
    exact hK _ _ rfl hG
  apply gh_det (n := 18)
  · intro fl xs w ev hG hD hl hdone hev K hK
    have e49 := (hev (.tmp 49)).trans (kx49.out xs)
    have d17 := hD.at_ 17 rfl rfl
    replace e49 := e49.trans d17
    rw [if_pos (wantedX_none rfl)]
    have ef : ∀ f, ev (.func f) = .func (.func f) #[] #[] := fun f => (hev _).trans rfl
    clear hev hD
    go_simp
    exact hK _ _ rfl hG
  apply gh_det (n := 19)
  · intro fl xs w ev hG hD hl hdone hev K hK
    have e50 := (hev (.tmp 50)).trans (kx50.out xs)
    have d18 := hD.at_ 18 rfl rfl
    replace e50 := e50.trans d18
    rw [if_pos (wantedX_none rfl)]
    have ef : ∀ f, ev (.func f) = .func (.func f) #[] #[] := fun f => (hev _).trans rfl
    clear hev hD
    have m0 := (hG.1.cell (p := ⟨_, _, none⟩) hlt4 (by simp [Hm])).trans d0
    go_simp
    exact hK _ _ rfl hG
  apply gh_det (n := 20)
  · intro fl xs w ev hG hD hl hdone hev K hK
    have e2 := (hev (.tmp 2)).trans (kx2.out xs)
    rw [if_pos (wantedX_none rfl)]
    have ef : ∀ f, ev (.func f) = .func (.func f) #[] #[] := fun f => (hev _).trans rfl
    clear hev hD
    go_simp
    exact hK _ _ rfl hG
  apply gh_det (n := 21)
  · intro fl xs w ev hG hD hl hdone hev K hK
    have e51 := (hev (.tmp 51)).trans (kx51.out xs)
    have d19 := hD.at_ 19 rfl rfl
    replace e51 := e51.trans d19
    have e52 := (hev (.tmp 52)).trans (kx52.out xs)
    have d20 := hD.at_ 20 rfl rfl
    replace e52 := e52.trans d20
    rw [if_pos (wantedX_none rfl)]
    have ef : ∀ f, ev (.func f) = .func (.func f) #[] #[] := fun f => (hev _).trans rfl
    clear hev hD
    go_simp
    exact hK _ _ rfl hG
  apply gh_det (n := 22)
  · intro fl xs w ev hG hD hl hdone hev K hK
    have e53 := (hev (.tmp 53)).trans (kx53.out xs)
    have d21 := hD.at_ 21 rfl rfl
    replace e53 := e53.trans d21
    rw [if_pos (wantedX_none rfl)]
    have ef : ∀ f, ev (.func f) = .func (.func f) #[] #[] := fun f => (hev _).trans rfl
    clear hev hD
    go_simp
    exact hK _ _ rfl hG
  apply gh_det (n := 23)
  · intro fl xs w ev hG hD hl hdone hev K hK
    have e54 := (hev (.tmp 54)).trans (kx54.out xs)
    have d22 := hD.at_ 22 rfl rfl
    replace e54 := e54.trans d22
    rw [if_pos (wantedX_none rfl)]
    have ef : ∀ f, ev (.func f) = .func (.func f) #[] #[] := fun f => (hev _).trans rfl
    clear hev hD
    have m0 := (hG.1.cell (p := ⟨_, _, none⟩) hgl4 (by simp [hgm])).trans k2
    go_simp
    exact hK _ _ rfl hG
  apply gh_det (n := 24)
  · intro fl xs w ev hG hD hl hdone hev K hK
    have e1 := (hev (.tmp 1)).trans (kx1.out xs)
    rw [if_pos (wantedX_none rfl)]
    have ef : ∀ f, ev (.func f) = .func (.func f) #[] #[] := fun f => (hev _).trans rfl
    clear hev hD
    go_simp
    exact hK _ _ rfl hG
  apply gh_det (n := 25)
  · intro fl xs w ev hG hD hl hdone hev K hK
    have e2 := (hev (.tmp 2)).trans (kx2.out xs)
    rw [if_pos (wantedX_none rfl)]
    have ef : ∀ f, ev (.func f) = .func (.func f) #[] #[] := fun f => (hev _).trans rfl
    clear hev hD
    go_simp
    exact hK _ _ rfl hG
  apply gh_det (n := 26)
  · intro fl xs w ev hG hD hl hdone hev K hK
    have e35 := (hev (.tmp 35)).trans (kx35.out xs)
    have d3 := hD.at_ 3 rfl rfl
    replace e35 := e35.trans d3
    have e43 := (hev (.tmp 43)).trans (kx43.out xs)
    have d11 := hD.at_ 11 rfl rfl
    replace e43 := e43.trans d11
    rw [if_pos (wantedX_none rfl)]
    have ef : ∀ f, ev (.func f) = .func (.func f) #[] #[] := fun f => (hev _).trans rfl
    clear hev hD
    have hs := n1 w (hG.2.1 (hG.not28 hl))
    go_simp
    exact hK _ _ rfl hG.s26
  apply gh_det (n := 27)
  · intro fl xs w ev hG hD hl hdone hev K hK
    have e58 := (hev (.tmp 58)).trans (kx58.out xs)
    have d26 := hD.at_ 26 rfl rfl
    replace e58 := e58.trans d26
    rw [if_pos (wantedX_none rfl)]
    have ef : ∀ f, ev (.func f) = .func (.func f) #[] #[] := fun f => (hev _).trans rfl
    clear hev hD
    go_simp
    exact hK _ _ rfl hG
  refine gh_any (n := 28) (fun _ => True) ?_ ?_
  · intro fl xs w ev hG hD hl hdone hev K hK
    have e35 := (hev (.tmp 35)).trans (kx35.out xs)
    have d3 := hD.at_ 3 rfl rfl
    replace e35 := e35.trans d3
    have e59 := (hev (.tmp 59)).trans (kx59.out xs)
    have d27 := hD.at_ 27 rfl rfl
    replace e59 := e59.trans d27
    have e56 := (hev (.tmp 56)).trans (kx56.out xs)
    have d24 := hD.at_ 24 rfl rfl
    replace e56 := e56.trans d24
    rw [if_pos (wantedX_none rfl)]
    have ef : ∀ f, ev (.func f) = .func (.func f) #[] #[] := fun f => (hev _).trans rfl
    clear hev hD
    have hs := n2 w (hG.2.1 hl)
    go_simp
    exact hK _ _ trivial (hG.s28 hl (done_of hdone 26 rfl))
  apply gh_det (n := 29)
  · intro fl xs w ev hG hD hl hdone hev K hK
    have e47 := (hev (.tmp 47)).trans (kx47.out xs)
    have d15 := hD.at_ 15 rfl rfl
    replace e47 := e47.trans d15
    have e55 := (hev (.tmp 55)).trans (kx55.out xs)
    have d23 := hD.at_ 23 rfl rfl
    replace e55 := e55.trans d23
    rw [if_pos (wantedX_none rfl)]
    have ef : ∀ f, ev (.func f) = .func (.func f) #[] #[] := fun f => (hev _).trans rfl
    clear hev hD
    have hs := n3 w (hG.2.2.1 (done_of hdone 28 rfl) (hG.not31 hl))
    go_simp
    exact hK _ _ rfl (hG.s29 (done_of hdone 28 rfl))
  apply gh_det (n := 30)
  · intro fl xs w ev hG hD hl hdone hev K hK
    have e60 := (hev (.tmp 60)).trans (kx60.out xs)
    have d29 := hD.at_ 29 rfl rfl
    replace e60 := e60.trans d29
    rw [if_pos (wantedX_none rfl)]
    have ef : ∀ f, ev (.func f) = .func (.func f) #[] #[] := fun f => (hev _).trans rfl
    clear hev hD
    go_simp
    exact hK _ _ rfl hG
  refine gh_any (n := 31) (fun _ => True) ?_ ?_
  · intro fl xs w ev hG hD hl hdone hev K hK
    have e47 := (hev (.tmp 47)).trans (kx47.out xs)
    have d15 := hD.at_ 15 rfl rfl
    replace e47 := e47.trans d15
    have e61 := (hev (.tmp 61)).trans (kx61.out xs)
    have d30 := hD.at_ 30 rfl rfl
    replace e61 := e61.trans d30
    have e57 := (hev (.tmp 57)).trans (kx57.out xs)
    have d25 := hD.at_ 25 rfl rfl
    replace e57 := e57.trans d25
    rw [if_pos (wantedX_none rfl)]
    have ef : ∀ f, ev (.func f) = .func (.func f) #[] #[] := fun f => (hev _).trans rfl
    clear hev hD
    have h29 := done_of hdone 29 rfl
    have hs := n4 w (hG.2.2.1 (hG.2.2.2.2.2.1 h29) hl)
    go_simp
    exact hK _ _ trivial (hG.s31 h29 hl)
  intro xs w' hG hI
  clear hI
  have hfin := hfin.out w' hG.1 (hG.2.2.2.1 rfl)
  go_wp2_with fail
  go_returns
  exact ⟨rfl, hfin.1, hfin.2⟩
end Go.Proofs.Ytonkkibnigdfbaa
namespace Go.Proofs.Ytonkkibnigdfbaa
open Go.RowKit Go.Shelf B K
set_option linter.unusedVariables false
set_option linter.unusedSimpArgs false
set_option maxHeartbeats 2000000
section
variable {w : World} {base h m : Nat} {sv : Value} {l : List It}
theorem less_at (H : HW w base h m sv l) {i j : Nat} {x y : It} (hx : l[i]? = some x) (hy : l[j]? = some y) : Hid (Calls Try.prog 164 #[.pointer (some ⟨h, 0, none⟩), .int .i64 i, .int .i64 j] w fun e w' => e = .returned (.bool (ltI x y)) ∧ Below w.heap.size w w') := iLess_any H hx hy
set_option maxRecDepth 100000 in
theorem up_any (H : HW w base h m sv l) (j : Nat) (hj : j < l.length) (hu : UpInv l j) :
    Calls Try.prog 126 #[.iface 149 (.pointer (some ⟨h, 0, none⟩)), .int .i64 j] w fun e w' => e = .returned (.tuple #[]) ∧ (∃ l', HW w' base h m sv l' ∧ l'.Perm l ∧ IsHeap l' l'.length) ∧ But w w' (hbs h m sv) := by
  have mL : ∀ w, Sem.run Try.prog (method (Try.prog.types.size + 100) 149 (.pointer (some ⟨h, 0, none⟩)) "Less") w = .ok (164, .pointer (some ⟨h, 0, none⟩)) w := fun _ => by kernel_rfl
  have mS : ∀ w, Sem.run Try.prog (method (Try.prog.types.size + 100) 149 (.pointer (some ⟨h, 0, none⟩)) "Swap") w = .ok (167, .pointer (some ⟨h, 0, none⟩)) w := fun _ => by kernel_rfl
  have eL := enters_of Try.func164 (by kernel_rfl) rfl
  have eS := enters_of Try.func167 (by kernel_rfl) rfl
  have hll := H.len
  go_enter Try.func126, Try.ntmps126
  go_wp2_with fail
  go_loopw [1] (fun vj wr => ∃ (j : Nat) (l' : List It), vj = .int .i64 j ∧ j < l.length ∧ HW wr base h m sv l' ∧ Hid (UpInv l' j) ∧ Hid (l'.Perm l) ∧ But w wr (hbs h m sv)) (fun vj _ => (intOf vj).toNat)
  case atStart => exact ⟨j, l, rfl, hj, H, hu, List.Perm.refl _, But.refl _ _⟩
  case round =>
    obtain ⟨j, l', rfl, hj, H', hu, hp, hb⟩ := hrel
    have hlen := hp.out.length_eq
    by_cases h0 : j = 0
    · subst h0
      go_wp2_with fail
      go_returns
      exact ⟨rfl, ⟨l', H', hp.out, up_zero hu.out⟩, hb⟩
    · obtain ⟨k, rfl⟩ : ∃ k, j = k + 1 := ⟨j - 1, by omega⟩
      have hx : l'[k + 1]? = some l'[k + 1] := List.getElem?_eq_getElem (by omega)
      have hpl : par (k + 1) < l'.length := by have := par_lt (c := k + 1) (by omega); omega
      have hy : l'[par (k + 1)]? = some l'[par (k + 1)] := List.getElem?_eq_getElem hpl
      obtain ⟨x, ex⟩ : ∃ x, l'[k + 1] = x := ⟨_, rfl⟩
      obtain ⟨y, ey⟩ : ∃ y, l'[par (k + 1)] = y := ⟨_, rfl⟩
      rw [ex] at hx
      rw [ey] at hy
      have e1 : ((k + 1 : Nat) : Int) = (k : Int) + 1 := by omega
      have e2 : ((par (k + 1) : Nat) : Int) = (k : Int) / 2 := by unfold par; simp
      have hless := less_at H' hx hy
      rw [e1, e2] at hless
      have hne : ((k : Int) / 2 == (k : Int) + 1) = false := by simp; omega
      clear ex ey
      cases hv : ltI x y with
      | false =>
        have hfin : Hid (IsHeap l' l'.length) := up_stop hu.out fun a b ha hb2 => by rw [hx] at ha; rw [hy] at hb2; cases ha; cases hb2; exact hv
        rw [hv] at hless
        clear hv hx hy
        go_wp2_with (refine hless.out.mono ?_; rintro e w4 ⟨rfl, hb4⟩)
        go_returns
        exact ⟨rfl, ⟨l', H'.below hb4, hp.out, hfin.out⟩, hb.trans (But.of_below hb4 _)⟩
      | true =>
        have hstep : Hid (UpInv (swp l' (par (k + 1)) (k + 1) y x) (par (k + 1))) := up_step hu.out (by omega) hx hy hv
        have hperm : Hid ((swp l' (par (k + 1)) (k + 1) y x).Perm l) := (swp_perm hy hx).trans hp.out
        have hswap : Hid (∀ W, Below wr.heap.size wr W → Calls Try.prog 167 #[.pointer (some ⟨h, 0, none⟩), .int .i64 ((k : Int) / 2), .int .i64 ((k : Int) + 1)] W fun e w' => e = .returned (.tuple #[]) ∧ HW w' base h m sv (swp l' (par (k + 1)) (k + 1) y x) ∧ But W w' (hbs h m sv)) := fun W hW => by
          have := iSwap_any (H'.below hW) hy hx
          rw [e1, e2] at this
          exact this
        rw [hv] at hless
        clear hv hx hy
        go_wp2_with (first
          | (refine hless.out.mono ?_; rintro e w4 ⟨rfl, hb4⟩)
          | (refine (hswap.out _ hb4).mono ?_; rintro e w5 ⟨rfl, H5, hb5⟩))
        go_roundw
        case rel => exact ⟨par (k + 1), _, by rw [e2], by have := par_lt (c := k + 1) (by omega); omega, H5, hstep, hperm, (hb.trans (But.of_below hb4 _)).trans hb5⟩
        case measure => simp [intOf]; omega
end
end Go.Proofs.Ytonkkibnigdfbaa
namespace Go.Proofs.Ytonkkibnigdfbaa
open Go.RowKit Go.Shelf B K
set_option linter.unusedVariables false
set_option linter.unusedSimpArgs false
set_option maxHeartbeats 1000000
theorem ret_num {a b : Int} (h : a = b) : Value.int .i64 a = Value.int .i64 b := by rw [h]
section
variable {w : World} {base h m : Nat} {sv : Value} {l : List It}
set_option maxRecDepth 100000 in
theorem down_any (H : HW w base h m sv l) (i0 n : Nat) (hn : n ≤ l.length) (hi0 : i0 ≤ l.length) (hd : DnInv l n i0) :
    Calls Try.prog 127 #[.iface 149 (.pointer (some ⟨h, 0, none⟩)), .int .i64 i0, .int .i64 n] w fun e w' => (∃ v : Value, e = .returned v) ∧ (∃ l', HW w' base h m sv l' ∧ l'.Perm l ∧ IsHeap l' n ∧ ∀ k, n ≤ k → l'[k]? = l[k]?) ∧ But w w' (hbs h m sv) := by
  have mL : ∀ w, Sem.run Try.prog (method (Try.prog.types.size + 100) 149 (.pointer (some ⟨h, 0, none⟩)) "Less") w = .ok (164, .pointer (some ⟨h, 0, none⟩)) w := fun _ => by kernel_rfl
  have mS : ∀ w, Sem.run Try.prog (method (Try.prog.types.size + 100) 149 (.pointer (some ⟨h, 0, none⟩)) "Swap") w = .ok (167, .pointer (some ⟨h, 0, none⟩)) w := fun _ => by kernel_rfl
  have eL := enters_of Try.func164 (by kernel_rfl) rfl
  have eS := enters_of Try.func167 (by kernel_rfl) rfl
  have hll := H.len
  go_enter Try.func127, Try.ntmps127
  go_wp2_with fail
  go_loopw [7] (fun vi wr => ∃ (i : Nat) (l' : List It), vi = .int .i64 i ∧ (i = i0 ∨ i < n) ∧ HW wr base h m sv l' ∧ Hid (DnInv l' n i) ∧ Hid (l'.Perm l) ∧ Hid (∀ k, n ≤ k → l'[k]? = l[k]?) ∧ But w wr (hbs h m sv)) (fun vi _ => n - (intOf vi).toNat)
  case atStart => exact ⟨i0, l, rfl, .inl rfl, H, hd, List.Perm.refl _, fun _ _ => rfl, But.refl _ _⟩
  case round =>
    obtain ⟨i, l', rfl, hi, H', hd, hp, hk, hb⟩ := hrel
    have hlen := hp.out.length_eq
    have hib : (i : Int) ≤ 1099511627776 := by omega
    by_cases h1 : 2 * i + 1 < n
    · have hz1 : 2 * (i : Int) + 1 < (n : Int) := by omega
      have hz0 : ¬ 2 * (i : Int) + 1 < 0 := by omega
      have hin : i < n := by omega
      have hx : l'[i]? = some l'[i] := List.getElem?_eq_getElem (by omega)
      obtain ⟨x, ex⟩ : ∃ q, l'[i] = q := ⟨_, rfl⟩
      rw [ex] at hx
      have ha : l'[2 * i + 1]? = some l'[2 * i + 1] := List.getElem?_eq_getElem (by omega)
      obtain ⟨a, ea⟩ : ∃ q, l'[2 * i + 1] = q := ⟨_, rfl⟩
      rw [ea] at ha
      by_cases h2 : 2 * i + 1 + 1 < n
      · have hb' : l'[2 * i + 1 + 1]? = some l'[2 * i + 1 + 1] := List.getElem?_eq_getElem (by omega)
        obtain ⟨b, eb⟩ : ∃ q, l'[2 * i + 1 + 1] = q := ⟨_, rfl⟩
        rw [eb] at hb'
        have hL1 : Hid (∀ W, Below wr.heap.size wr W → Calls Try.prog 164 #[.pointer (some ⟨h, 0, none⟩), .int .i64 (2 * (i : Int) + 1 + 1), .int .i64 (2 * (i : Int) + 1)] W fun e w' => e = .returned (.bool (ltI b a)) ∧ Below W.heap.size W w') := fun W hW => by
          have := iLess_any (H'.below hW) hb' ha
          rwa [show ((2 * i + 1 + 1 : Nat) : Int) = 2 * (i : Int) + 1 + 1 by omega, show ((2 * i + 1 : Nat) : Int) = 2 * (i : Int) + 1 by omega] at this
        have hz2 : 2 * (i : Int) + 1 + 1 < (n : Int) := by omega
        cases hv1 : ltI b a with
        | true =>
          rw [hv1] at hL1
          have hmin : ∀ c z, 0 < c → c < n → par c = i → l'[c]? = some z → ltI z b = false := fun c z hc hcn hpc hz => by
            have : c = 2 * i + 1 ∨ c = 2 * i + 1 + 1 := by unfold par at hpc; omega
            rcases this with rfl | rfl
            · rw [ha] at hz; cases hz; exact ltI_asy hv1
            · rw [hb'] at hz; cases hz; exact ltI_irr _
          clear hv1
          have hL2 : Hid (∀ W, Below wr.heap.size wr W → Calls Try.prog 164 #[.pointer (some ⟨h, 0, none⟩), .int .i64 (2 * (i : Int) + 1 + 1), .int .i64 (i : Int)] W fun e w' => e = .returned (.bool (ltI b x)) ∧ Below W.heap.size W w') := fun W hW => by
            have := iLess_any (H'.below hW) hb' hx
            rwa [show ((2 * i + 1 + 1 : Nat) : Int) = 2 * (i : Int) + 1 + 1 by omega] at this
          cases hv : ltI b x with
          | false =>
            rw [hv] at hL2
            have hfin : Hid (IsHeap l' n) := dn_stop hd.out fun c z p hc hcn hpc hz hp2 => by
              rw [hx] at hp2; cases hp2
              exact ltI_tr (hmin c z hc hcn hpc hz) hv
            clear hv hx
            go_wp2_with (first | (with_reducible refine (hL1.out wr (Below.refl _ wr)).mono ?_; rintro e w4 ⟨rfl, hb4⟩) | (with_reducible refine (hL2.out _ hb4).mono ?_; rintro e w5 ⟨rfl, hb5⟩))
            go_returns
            exact ⟨⟨_, rfl⟩, ⟨l', H'.below (hb4.trans (hb5.mono hb4.size)), hp.out, hfin.out, hk.out⟩, hb.trans (But.of_below (hb4.trans (hb5.mono hb4.size)) _)⟩
          | true =>
            have hstep : Hid (DnInv (swp l' i (2 * i + 1 + 1) x b) n (2 * i + 1 + 1)) := dn_step hd.out (by omega) (by omega) (by unfold par; omega) hx hb' hv (fun c z hc hcn hpc hz => hmin c z hc hcn hpc hz)
            have hperm : Hid ((swp l' i (2 * i + 1 + 1) x b).Perm l) := (swp_perm hx hb').trans hp.out
            have hkeep : Hid (∀ k, n ≤ k → (swp l' i (2 * i + 1 + 1) x b)[k]? = l[k]?) := fun k hnk => by
              rw [swp_at hx hb', if_neg (by omega), if_neg (by omega)]; exact hk.out k hnk
            have hS : Hid (∀ W, Below wr.heap.size wr W → Calls Try.prog 167 #[.pointer (some ⟨h, 0, none⟩), .int .i64 (i : Int), .int .i64 (2 * (i : Int) + 1 + 1)] W fun e w' => e = .returned (.tuple #[]) ∧ HW w' base h m sv (swp l' i (2 * i + 1 + 1) x b) ∧ But W w' (hbs h m sv)) := fun W hW => by
              have := iSwap_any (H'.below hW) hx hb'
              rwa [show ((2 * i + 1 + 1 : Nat) : Int) = 2 * (i : Int) + 1 + 1 by omega] at this
            rw [hv] at hL2
            clear hv hx
            go_wp2_with (first | (with_reducible refine (hL1.out wr (Below.refl _ wr)).mono ?_; rintro e w4 ⟨rfl, hb4⟩) | (with_reducible refine (hL2.out _ hb4).mono ?_; rintro e w5 ⟨rfl, hb5⟩) | (with_reducible refine (hS.out _ (hb4.trans (hb5.mono hb4.size))).mono ?_; rintro e w6 ⟨rfl, H6, hb6⟩))
            go_roundw
            case rel => exact ⟨2 * i + 1 + 1, _, ret_num (by omega), by omega, H6, hstep, hperm, hkeep, (hb.trans (But.of_below (hb4.trans (hb5.mono hb4.size)) _)).trans hb6⟩
            case measure => simp [intOf]; omega
        | false =>
          rw [hv1] at hL1
          have hmin : ∀ c z, 0 < c → c < n → par c = i → l'[c]? = some z → ltI z a = false := fun c z hc hcn hpc hz => by
            have : c = 2 * i + 1 ∨ c = 2 * i + 1 + 1 := by unfold par at hpc; omega
            rcases this with rfl | rfl
            · rw [ha] at hz; cases hz; exact ltI_irr _
            · rw [hb'] at hz; cases hz; exact hv1
          clear hv1
          have hL2 : Hid (∀ W, Below wr.heap.size wr W → Calls Try.prog 164 #[.pointer (some ⟨h, 0, none⟩), .int .i64 (2 * (i : Int) + 1), .int .i64 (i : Int)] W fun e w' => e = .returned (.bool (ltI a x)) ∧ Below W.heap.size W w') := fun W hW => by
            have := iLess_any (H'.below hW) ha hx
            rwa [show ((2 * i + 1 : Nat) : Int) = 2 * (i : Int) + 1 by omega] at this
          cases hv : ltI a x with
          | false =>
            rw [hv] at hL2
            have hfin : Hid (IsHeap l' n) := dn_stop hd.out fun c z p hc hcn hpc hz hp2 => by
              rw [hx] at hp2; cases hp2
              exact ltI_tr (hmin c z hc hcn hpc hz) hv
            clear hv hx
            go_wp2_with (first | (with_reducible refine (hL1.out wr (Below.refl _ wr)).mono ?_; rintro e w4 ⟨rfl, hb4⟩) | (with_reducible refine (hL2.out _ hb4).mono ?_; rintro e w5 ⟨rfl, hb5⟩))
            go_returns
            exact ⟨⟨_, rfl⟩, ⟨l', H'.below (hb4.trans (hb5.mono hb4.size)), hp.out, hfin.out, hk.out⟩, hb.trans (But.of_below (hb4.trans (hb5.mono hb4.size)) _)⟩
          | true =>
            have hstep : Hid (DnInv (swp l' i (2 * i + 1) x a) n (2 * i + 1)) := dn_step hd.out (by omega) (by omega) (by unfold par; omega) hx ha hv (fun c z hc hcn hpc hz => hmin c z hc hcn hpc hz)
            have hperm : Hid ((swp l' i (2 * i + 1) x a).Perm l) := (swp_perm hx ha).trans hp.out
            have hkeep : Hid (∀ k, n ≤ k → (swp l' i (2 * i + 1) x a)[k]? = l[k]?) := fun k hnk => by
              rw [swp_at hx ha, if_neg (by omega), if_neg (by omega)]; exact hk.out k hnk
            have hS : Hid (∀ W, Below wr.heap.size wr W → Calls Try.prog 167 #[.pointer (some ⟨h, 0, none⟩), .int .i64 (i : Int), .int .i64 (2 * (i : Int) + 1)] W fun e w' => e = .returned (.tuple #[]) ∧ HW w' base h m sv (swp l' i (2 * i + 1) x a) ∧ But W w' (hbs h m sv)) := fun W hW => by
              have := iSwap_any (H'.below hW) hx ha
              rwa [show ((2 * i + 1 : Nat) : Int) = 2 * (i : Int) + 1 by omega] at this
            rw [hv] at hL2
            clear hv hx
            go_wp2_with (first | (with_reducible refine (hL1.out wr (Below.refl _ wr)).mono ?_; rintro e w4 ⟨rfl, hb4⟩) | (with_reducible refine (hL2.out _ hb4).mono ?_; rintro e w5 ⟨rfl, hb5⟩) | (with_reducible refine (hS.out _ (hb4.trans (hb5.mono hb4.size))).mono ?_; rintro e w6 ⟨rfl, H6, hb6⟩))
            go_roundw
            case rel => exact ⟨2 * i + 1, _, ret_num (by omega), by omega, H6, hstep, hperm, hkeep, (hb.trans (But.of_below (hb4.trans (hb5.mono hb4.size)) _)).trans hb6⟩
            case measure => simp [intOf]; omega
      · have hz2 : ¬ 2 * (i : Int) + 1 + 1 < (n : Int) := by omega
        have hmin : ∀ c z, 0 < c → c < n → par c = i → l'[c]? = some z → ltI z a = false := fun c z hc hcn hpc hz => by
          have : c = 2 * i + 1 := by unfold par at hpc; omega
          subst this
          rw [ha] at hz; cases hz; exact ltI_irr _
        have hL2 : Hid (∀ W, Below wr.heap.size wr W → Calls Try.prog 164 #[.pointer (some ⟨h, 0, none⟩), .int .i64 (2 * (i : Int) + 1), .int .i64 (i : Int)] W fun e w' => e = .returned (.bool (ltI a x)) ∧ Below W.heap.size W w') := fun W hW => by
          have := iLess_any (H'.below hW) ha hx
          rwa [show ((2 * i + 1 : Nat) : Int) = 2 * (i : Int) + 1 by omega] at this
        cases hv : ltI a x with
        | false =>
          rw [hv] at hL2
          have hfin : Hid (IsHeap l' n) := dn_stop hd.out fun c z p hc hcn hpc hz hp2 => by
            rw [hx] at hp2; cases hp2
            exact ltI_tr (hmin c z hc hcn hpc hz) hv
          clear hv hx
          go_wp2_with (first | (with_reducible refine (hL2.out _ (Below.refl _ wr)).mono ?_; rintro e w5 ⟨rfl, hb5⟩))
          go_returns
          exact ⟨⟨_, rfl⟩, ⟨l', H'.below hb5, hp.out, hfin.out, hk.out⟩, hb.trans (But.of_below hb5 _)⟩
        | true =>
          have hstep : Hid (DnInv (swp l' i (2 * i + 1) x a) n (2 * i + 1)) := dn_step hd.out (by omega) (by omega) (by unfold par; omega) hx ha hv (fun c z hc hcn hpc hz => hmin c z hc hcn hpc hz)
          have hperm : Hid ((swp l' i (2 * i + 1) x a).Perm l) := (swp_perm hx ha).trans hp.out
          have hkeep : Hid (∀ k, n ≤ k → (swp l' i (2 * i + 1) x a)[k]? = l[k]?) := fun k hnk => by
            rw [swp_at hx ha, if_neg (by omega), if_neg (by omega)]; exact hk.out k hnk
          have hS : Hid (∀ W, Below wr.heap.size wr W → Calls Try.prog 167 #[.pointer (some ⟨h, 0, none⟩), .int .i64 (i : Int), .int .i64 (2 * (i : Int) + 1)] W fun e w' => e = .returned (.tuple #[]) ∧ HW w' base h m sv (swp l' i (2 * i + 1) x a) ∧ But W w' (hbs h m sv)) := fun W hW => by
            have := iSwap_any (H'.below hW) hx ha
            rwa [show ((2 * i + 1 : Nat) : Int) = 2 * (i : Int) + 1 by omega] at this
          rw [hv] at hL2
          clear hv hx
          go_wp2_with (first | (with_reducible refine (hL2.out _ (Below.refl _ wr)).mono ?_; rintro e w5 ⟨rfl, hb5⟩) | (with_reducible refine (hS.out _ hb5).mono ?_; rintro e w6 ⟨rfl, H6, hb6⟩))
          go_roundw
          case rel => exact ⟨2 * i + 1, _, ret_num (by omega), by omega, H6, hstep, hperm, hkeep, (hb.trans (But.of_below hb5 _)).trans hb6⟩
          case measure => simp [intOf]; omega
    · have hfin : Hid (IsHeap l' n) := dn_stop hd.out fun c z p hc hcn hpc => by unfold par at hpc; omega
      have hz1 : ¬ 2 * (i : Int) + 1 < (n : Int) := by omega
      go_wp2_with fail
      go_returns
      exact ⟨⟨_, rfl⟩, ⟨l', H', hp.out, hfin.out, hk.out⟩, hb⟩
end
end Go.Proofs.Ytonkkibnigdfbaa
namespace Go.Proofs.Ytonkkibnigdfbaa
open Go.RowKit B K
open Go.ChangeMaps (setBlock)
set_option linter.unusedVariables false
set_option linter.unusedSimpArgs false
set_option maxHeartbeats 2000000
theorem infoItem : (Try.prog.info? 120).map (fun i => (i.zero, i.size, i.bytes)) = some (some (.agg #[.int .i64 0, .int .i64 0]), 2, 16) := by kernel_rfl
theorem rd_one {w : World} {k : Nat} {a b : Int} (h : w.heap[k]? = some (.cells #[.int .i64 a, .int .i64 b] 120 (0, 0))) : Rd w 2 pairE (some ⟨k, 0, none⟩) 1 [(a, b)] :=
  ⟨rfl, fun _ => ⟨k, 0, rfl, (Array.getElem?_eq_some_iff.1 h).1, fun i x hx j u hu => by
    have hi : i = 0 := by
      have := (List.getElem?_eq_some_iff.1 hx).1
      simpa using this
    subst hi
    simp at hx
    subst hx
    rw [cell_of_row _ _ _ _ _ _ h, Nat.zero_mul, Nat.add_zero, Nat.zero_add]
    simpa [pairE] using hu⟩⟩
/-- the heap's blocks while an item is appended to its row -/
def GP (w0 : World) (base h m : Nat) (sv : Value) (l : List It) (kx ix : Int) (fl : Nat → Bool) (xs : Nat → Value) (w : World) : Prop :=
  But w0 w (hbs h m sv) ∧ w.heap[m]? = w0.heap[m]? ∧ (fl 10 = true → fl 4 = true ∧ fl 7 = true) ∧ (fl 7 = true → fl 6 = true) ∧
  (fl 6 = true → ∃ k, xs 6 = .slice (some ⟨k, 0, none⟩) 1 1 ∧ w0.heap.size ≤ k ∧ (fl 7 = false → w.heap[k]? = some (.cells #[.int .i64 kx, .int .i64 ix] 120 (0, 0)))) ∧
  (fl 7 = false → w.ownsRow base 120 2 sv l.length (l.flatMap pairE)) ∧
  (fl 7 = true → w.ownsRow base 120 2 (xs 7) (l ++ [(kx, ix)]).length ((l ++ [(kx, ix)]).flatMap pairE) ∧ ((xs 7).ownBlock = sv.ownBlock ∨ ∀ k, (xs 7).ownBlock = some k → w0.heap.size ≤ k)) ∧
  (fl 10 = false → w.heap[h]? = some (.cells #[sv, .map (some m)] 146 (0, 0))) ∧
  (fl 10 = true → w.heap[h]? = some (.cells #[xs 7, .map (some m)] 146 (0, 0)))
section
variable {w0 w w1 : World} {base h m : Nat} {sv v v' : Value} {l : List It} {kx ix : Int} {fl : Nat → Bool} {xs : Nat → Value}
theorem GP.start (h4 : fl 4 = false) (h6 : fl 6 = false) (h7 : fl 7 = false) (h10 : fl 10 = false) (hm : hbs h m sv = hbs h m sv) (hH : w0.heap[h]? = some (.cells #[sv, .map (some m)] 146 (0, 0)))
    (own : w0.ownsRow base 120 2 sv l.length (l.flatMap pairE)) : GP w0 base h m sv l kx ix fl xs { w0 with drawn := w0.drawn + 1 } :=
  ⟨⟨rfl, rfl, rfl, Nat.le_refl _, fun _ _ _ => rfl⟩, rfl, fun h => (by rw [h10] at h; cases h), fun h => (by rw [h7] at h; cases h), fun h => (by rw [h6] at h; cases h), fun _ => own, fun h => (by rw [h7] at h; cases h), fun _ => hH, fun h => (by rw [h10] at h; cases h)⟩
theorem GP.not10 (H : GP w0 base h m sv l kx ix fl xs w) (h4 : fl 4 = false) : fl 10 = false := by
  cases e : fl 10 with
  | false => rfl
  | true => rw [(H.2.2.1 e).1] at h4; cases h4
theorem GP.atH (H : GP w0 base h m sv l kx ix fl xs w) (h10 : fl 10 = false) : w.cell? ⟨h, 0, none⟩ = some sv := by rw [cell_of_row _ _ _ _ _ _ (H.2.2.2.2.2.2.2.1 h10)]; rfl
theorem GP.cellsH (H : GP w0 base h m sv l kx ix fl xs w) (h10 : fl 10 = false) : w.cell? ⟨h, 0, none⟩ = some sv ∧ w.cell? ⟨h, 1, none⟩ = some (.map (some m)) :=
  ⟨H.atH h10, by rw [cell_of_row _ _ _ _ _ _ (H.2.2.2.2.2.2.2.1 h10)]; rfl⟩
theorem GP.frozenH (H : GP w0 base h m sv l kx ix fl xs w) (h10 : fl 10 = false) : w.frozen? ⟨h, 0, none⟩ = false := by simp [World.frozen?, H.2.2.2.2.2.2.2.1 h10]
theorem GP.own (H : GP w0 base h m sv l kx ix fl xs w) (h7 : fl 7 = false) : w.ownsRow base 120 2 sv l.length (l.flatMap pairE) := H.2.2.2.2.2.1 h7
theorem GP.lit (H : GP w0 base h m sv l kx ix fl xs w) (h6 : fl 6 = true) : ∃ k, xs 6 = .slice (some ⟨k, 0, none⟩) 1 1 ∧ w0.heap.size ≤ k ∧ (fl 7 = false → w.heap[k]? = some (.cells #[.int .i64 kx, .int .i64 ix] 120 (0, 0))) := H.2.2.2.2.1 h6
theorem GP.s4 (H : GP w0 base h m sv l kx ix fl xs w) : GP w0 base h m sv l kx ix (updB fl 4) (upd xs 4 v) w := by
  obtain ⟨g1, g2, g3, g4, g5, g6, g7, g8, g9⟩ := H
  exact ⟨g1, g2, fun h => ⟨rfl, (g3 h).2⟩, g4, g5, g6, g7, g8, g9⟩
theorem GP.s6 (H : GP w0 base h m sv l kx ix fl xs w) (h6 : fl 6 = false) (hm : m < w0.heap.size) : GP w0 base h m sv l kx ix (updB fl 6) (upd xs 6 (.slice (some ⟨w.heap.size, 0, none⟩) 1 1)) (w.alloc (.cells #[.int .i64 kx, .int .i64 ix] 120)) := by
  obtain ⟨g1, g2, g3, g4, g5, g6, g7, g8, g9⟩ := H
  have h7 : fl 7 = false := by
    cases e : fl 7 with
    | false => rfl
    | true => rw [g4 e] at h6; cases h6
  have h10 : fl 10 = false := by
    cases e : fl 10 with
    | false => rfl
    | true => rw [(g3 e).2] at h7; cases h7
  have hb : Below w.heap.size w (w.alloc (.cells #[.int .i64 kx, .int .i64 ix] 120)) := (Below.refl _ w).alloc (Nat.le_refl _) _
  have hh := (Array.getElem?_eq_some_iff.1 (g8 h10)).1
  exact ⟨g1.trans (But.of_below hb _), (hb.block m (Nat.lt_of_lt_of_le hm g1.size)).trans g2, fun h => (by rw [show updB fl 6 10 = fl 10 from rfl, h10] at h; cases h), fun h => rfl, fun _ => ⟨w.heap.size, rfl, g1.size, fun _ => heap_alloc_new w _⟩, fun _ => (g6 h7).alloc _, fun h => (by rw [show updB fl 6 7 = fl 7 from rfl, h7] at h; cases h),
    fun _ => (hb.block h hh).trans (g8 h10), fun h => (by rw [show updB fl 6 10 = fl 10 from rfl, h10] at h; cases h)⟩
theorem GP.s7 (H : GP w0 base h m sv l kx ix fl xs w) (h7 : fl 7 = false) (h6 : fl 6 = true) (hgr : w.grownBy w1 sv.ownBlock) (own : w1.ownsRow base 120 2 v' (l.length + 1) ((l ++ [(kx, ix)]).flatMap pairE))
    (hnew : v'.ownBlock = sv.ownBlock ∨ v'.ownBlock = some w.heap.size) (hm : m < w0.heap.size) (hh : h < w0.heap.size) (hgh : sv.ownBlock ≠ some h) (hgm : sv.ownBlock ≠ some m) : GP w0 base h m sv l kx ix (updB fl 7) (upd xs 7 v') w1 := by
  obtain ⟨g1, g2, g3, g4, g5, g6, g7, g8, g9⟩ := H
  have h10 : fl 10 = false := by
    cases e : fl 10 with
    | false => rfl
    | true => rw [(g3 e).2] at h7; cases h7
  have hb : But w w1 (hbs h m sv) := ⟨hgr.os, hgr.tape, hgr.output, hgr.size, fun i hi hx => hgr.block i hi (fun e => hx (by simp [hbs, ← e]))⟩
  have k5 := g5 h6
  obtain ⟨k, e1, e2, e3⟩ := k5
  refine ⟨g1.trans hb, (hgr.block m (Nat.lt_of_lt_of_le hm g1.size) (fun e => hgm e.symm)).trans g2, fun h => (by rw [show updB fl 7 10 = fl 10 from rfl, h10] at h; cases h), fun _ => h6, fun _ => ⟨k, e1, e2, fun h => (by cases h)⟩, fun h => (by cases h), fun _ => ⟨?_, ?_⟩,
    fun _ => (hgr.block h (Nat.lt_of_lt_of_le hh g1.size) (fun e => hgh e.symm)).trans (g8 h10), fun h => (by rw [show updB fl 7 10 = fl 10 from rfl, h10] at h; cases h)⟩
  · rw [List.length_append]
    exact own
  · rcases hnew with e | e
    · exact .inl e
    · exact .inr fun k hk => by
        have hk : v'.ownBlock = some k := hk
        rw [e] at hk; cases hk; exact g1.size
theorem GP.s10 (H : GP w0 base h m sv l kx ix fl xs w) (h10 : fl 10 = false) (h4 : fl 4 = true) (h7 : fl 7 = true) (hgh : sv.ownBlock ≠ some h) (hh0 : h < w0.heap.size) (hhm : h ≠ m) : GP w0 base h m sv l kx ix (updB fl 10) (upd xs 10 v) (w.setCell ⟨h, 0, none⟩ (xs 7)) := by
  obtain ⟨g1, g2, g3, g4, g5, g6, g7, g8, g9⟩ := H
  have hh := g8 h10
  have hset : ∀ j, j ≠ h → (w.setCell ⟨h, 0, none⟩ (xs 7)).heap[j]? = w.heap[j]? := fun j hj => Below.heap_setCell _ _ _ _ hj
  refine ⟨g1.trans (But.of_set _ _ _ (by simp [hbs])), (hset m (Ne.symm hhm)).trans g2, fun _ => ⟨h4, h7⟩, g4, fun h6 => ?_, fun h => (by rw [show updB fl 10 7 = fl 7 from rfl, h7] at h; cases h), fun _ => ?_, fun h => (by cases h), fun _ => ?_⟩
  · obtain ⟨k, e1, e2, e3⟩ := g5 h6
    exact ⟨k, e1, e2, fun h => (by rw [show updB fl 10 7 = fl 7 from rfl, h7] at h; cases h)⟩
  · obtain ⟨o1, o2⟩ := g7 h7
    refine ⟨own_keep o1 fun k hk => hset k (fun e => ?_), o2⟩
    subst e
    rcases o2 with e | e
    · exact hgh (by rw [← e]; exact hk)
    · have := e k hk; omega
  · have hb := (Array.getElem?_eq_some_iff.1 hh).1
    have e : w.heap[h] = .cells #[sv, .map (some m)] 146 (0, 0) := by rw [Array.getElem?_eq_getElem hb] at hh; exact Option.some.inj hh
    show (w.setCell ⟨h, 0, none⟩ (xs 7)).heap[h]? = some (.cells #[xs 7, .map (some m)] 146 (0, 0))
    simp [World.setCell, hh, hb, Array.getElem_modify, e]
end
theorem assert_item (kx ix : Int) : ∀ W : World, (Instr.typeAssert (.iface 120 (.agg #[.int .i64 kx, .int .i64 ix])) 20 120 false).run Try.prog W = .ok (.agg #[.int .i64 kx, .int .i64 ix]) W := fun _ => by kernel_rfl
set_option maxRecDepth 100000 in
theorem iPush_any {w : World} {base h m : Nat} {sv : Value} {l : List It} {kx ix : Int} (H : HW w base h m sv l) (hbase : base ≤ w.heap.size) (hwf : (Lit.int .i64 ix).wf = true) (hnew : ∀ x ∈ l, x.2 ≠ ix) (hroom : l.length + 1 ≤ 1099511627776) :
    Calls Try.prog 166 #[.pointer (some ⟨h, 0, none⟩), .iface 120 (.agg #[.int .i64 kx, .int .i64 ix])] w fun e w' => e = .returned (.tuple #[]) ∧ (∃ sv', HW w' base h m sv' (l ++ [(kx, ix)]) ∧ ∀ g, sv'.ownBlock = some g → g ∈ hbs h m sv ∨ w.heap.size ≤ g) ∧ But w w' (hbs h m sv) := by
  have hta := assert_item kx ix
  have hb1 : Below w.heap.size w (w.alloc (.cells #[.int .i64 kx, .int .i64 ix] 120)) := (Below.refl _ w).alloc (Nat.le_refl _) _
  have H1 := H.below hb1
  have bx := Bx2.new w 120 kx ix
  have hbkn : w.heap.size ∉ hbs h m sv := fun hx => Nat.lt_irrefl _ (H.lt _ hx)
  obtain ⟨W1, hW1⟩ : ∃ q, w.alloc (.cells #[.int .i64 kx, .int .i64 ix] 120) = q := ⟨_, rfl⟩
  have hsz1 : w.heap.size ≤ W1.heap.size := by rw [← hW1]; exact hb1.size
  rw [hW1] at hb1 H1 bx
  obtain ⟨bk, hbke⟩ : ∃ q, w.heap.size = q := ⟨_, rfl⟩
  rw [hbke] at bx hbkn
  have bx0 := bx.c0
  have bx1 := bx.c1
  obtain ⟨A, c, hsv, hr, hc, hc2⟩ := Rd.of_own (enc := pairE) pairE_len2 rfl H1.own
  have d0 := H1.c0
  have d1 := H1.c1
  have hgh : sv.ownBlock ≠ some h := fun e => (H1.hg e).1 rfl
  have hgm : sv.ownBlock ≠ some m := fun e => (H1.hg e).2 rfl
  obtain ⟨f, hf, hM⟩ := H1.map
  have hf0 : f ix = none := hM.gone.2 hnew
  have hst : ∀ q, ∃ w', (Instr.mapUpdate 77 (.map (some m)) (.int .i64 ix) (.int .i64 l.length)).run Try.prog (W1.drewN q) = .ok () w' ∧ MapI Try.prog 3 3 w' m (updI f ix l.length) (l.length + 1) ∧ (W1.drewN q).mapTurned w' m := fun q => by
    have := MapI.store (w := W1.drewN q) (h := hf) Try.underlying77 Try.underlying3 Try.underlying3 (by omega) hwf (wf64 (a := (l.length : Int)) (by omega) (by omega))
    rwa [hf0] at this
  obtain ⟨W2, hrun2, hf2, hturn⟩ := hst 1
  have hbut2 : But W1 W2 [m] := by
    have h0 : But W1 (W1.drewN 1) [m] := ⟨rfl, rfl, rfl, Nat.le_refl _, fun _ _ _ => rfl⟩
    exact h0.trans (But.of_grown hturn.grown (by simp))
  have hH2 : W2.heap[h]? = some (.cells #[sv, .map (some m)] 146 (0, 0)) := (hbut2.keep h H1.hlt (by simp; exact H1.hm)).trans H1.blk
  have own2 : Hid (W2.ownsRow base 120 2 sv l.length (l.flatMap pairE)) := own_keep H1.own fun g hg => hbut2.keep g (own_lt H1.own hg).1 (by simp; exact (H1.hg hg).2)
  have hmlt : m < W2.heap.size := Nat.lt_of_lt_of_le H1.mlt hbut2.size
  have hhlt : h < W2.heap.size := Nat.lt_of_lt_of_le H1.hlt hbut2.size
  have hhm := H1.hm
  have hbk : bk < W2.heap.size := Nat.lt_of_lt_of_le bx.lt hbut2.size
  have hbkm : bk ∉ [m] := by simp; intro e; exact hbkn (by simp [hbs, e])
  have q0 := (hbut2.cell (p := ⟨bk, 0, none⟩) bx.lt hbkm).trans bx0
  have q1 := (hbut2.cell (p := ⟨bk, 1, none⟩) bx.lt hbkm).trans bx1
  have hbase2 : base ≤ W2.heap.size := Nat.le_trans (Nat.le_trans hbase hsz1) hbut2.size
  have hwb : But w W2 (hbs h m sv) := (But.of_below hb1 _).trans (hbut2.mono (by intro a ha; simp at ha; subst ha; simp [hbs]))
  have hfin : Hid (∀ (v' : Value) (w' : World), But W2 w' (hbs h m sv) → w'.heap[m]? = W2.heap[m]? → w'.heap[h]? = some (.cells #[v', .map (some m)] 146 (0, 0)) → w'.ownsRow base 120 2 v' (l ++ [(kx, ix)]).length ((l ++ [(kx, ix)]).flatMap pairE) →
      (v'.ownBlock = sv.ownBlock ∨ ∀ k, v'.ownBlock = some k → W2.heap.size ≤ k) → (∃ sv', HW w' base h m sv' (l ++ [(kx, ix)]) ∧ ∀ g, sv'.ownBlock = some g → g ∈ hbs h m sv ∨ w.heap.size ≤ g) ∧ But w w' (hbs h m sv)) := fun v' w' hb hmm hhh ho hv => by
    refine ⟨⟨v', ⟨hhh, ho, ⟨_, ?_, hM.push hf0⟩, H.hb, H.mb, ?_, by rw [List.length_append]; exact hroom⟩, fun g hg => ?_⟩, hwb.trans hb⟩
    · rw [List.length_append]
      exact hf2.keep hmm
    · intro x hx
      rcases List.mem_append.1 hx with hx | hx
      · exact H.wf x hx
      · simp at hx; subst hx; exact hwf
    · rcases hv with e | e
      · exact .inl (by rw [e] at hg; simp [hbs, hg])
      · have h1 := e g hg
        have h2 := hwb.size
        exact .inr (Nat.le_trans h2 h1)
  subst hsv
  obtain ⟨n, hn⟩ : ∃ n, l.length = n := ⟨_, rfl⟩
  have hn0 := hn
  rw [hn] at d0 hrun2 hfin hH2 own2 hgh hgm hbkn
  rw [hn]
  clear hst hM hf hf2 hturn hwb H H1 hr hc hc2 hb1 hsz1 bx hf0 hnew hwf f
  go_enter Try.func166, Try.ntmps166
  go_upto_region 1 with fail
  refine wp_tail0 11 (by kernel_rfl) (by kernel_rfl) ?_
  simp only [List.take_succ_cons, List.take_zero, List.drop_succ_cons, List.drop_zero]
  repeat still_step
  try refine wpStill_nil ?_
  go_upto_region 2 with fail
  refine wp_region_ghost (GP W2 base h m (.slice A n c) l kx ix) (by kernel_rfl) (by kernel_rfl) (by kernel_rfl) (by kernel_rfl) (by kernel_rfl) ?_ ?_
  · intro x0
    exact GP.start rfl rfl rfl rfl rfl hH2 (by rw [hn0]; exact own2.out)
  intro base O hbase hO
  have kx0 : Hid (∀ xs, evX base O xs (.tmp 0) = .pointer (some ⟨h, 0, none⟩)) := fun xs => by rw [hbase, hO]; rfl
  have kx4 : Hid (∀ xs, evX base O xs (.tmp 4) = .pointer (some ⟨bk, 0, none⟩)) := fun xs => by rw [hbase, hO]; rfl
  have kx18 : Hid (∀ xs, evX base O xs (.tmp 18) = xs 0) := fun xs => by rw [hO]; rfl
  have kx19 : Hid (∀ xs, evX base O xs (.tmp 19) = xs 1) := fun xs => by rw [hO]; rfl
  have kx20 : Hid (∀ xs, evX base O xs (.tmp 20) = xs 2) := fun xs => by rw [hO]; rfl
  have kx21 : Hid (∀ xs, evX base O xs (.tmp 21) = xs 3) := fun xs => by rw [hO]; rfl
  have kx22 : Hid (∀ xs, evX base O xs (.tmp 22) = xs 4) := fun xs => by rw [hO]; rfl
  have kx23 : Hid (∀ xs, evX base O xs (.tmp 23) = xs 5) := fun xs => by rw [hO]; rfl
  have kx24 : Hid (∀ xs, evX base O xs (.tmp 24) = xs 6) := fun xs => by rw [hO]; rfl
  have kx25 : Hid (∀ xs, evX base O xs (.tmp 25) = xs 7) := fun xs => by rw [hO]; rfl
  have kx26 : Hid (∀ xs, evX base O xs (.tmp 26) = xs 8) := fun xs => by rw [hO]; rfl
  have kx27 : Hid (∀ xs, evX base O xs (.tmp 27) = xs 9) := fun xs => by rw [hO]; rfl
  clear hbase hO
  apply gh_det (n := 0)
  · intro fl xs w ev hG hD hl hdone hev K hK
    have e0 := (hev (.tmp 0)).trans (kx0.out xs)
    rw [if_pos (wantedX_none rfl)]
    have ef : ∀ f, ev (.func f) = .func (.func f) #[] #[] := fun f => (hev _).trans rfl
    clear hev hD
    go_simp
    exact hK _ _ rfl hG
  apply gh_det (n := 1)
  · intro fl xs w ev hG hD hl hdone hev K hK
    have e0 := (hev (.tmp 0)).trans (kx0.out xs)
    rw [if_pos (wantedX_none rfl)]
    have ef : ∀ f, ev (.func f) = .func (.func f) #[] #[] := fun f => (hev _).trans rfl
    clear hev hD
    go_simp
    exact hK _ _ rfl hG
  apply gh_det (n := 2)
  · intro fl xs w ev hG hD hl hdone hev K hK
    have e19 := (hev (.tmp 19)).trans (kx19.out xs)
    have d1 := hD.at_ 1 rfl rfl
    replace e19 := e19.trans d1
    rw [if_pos (wantedX_none rfl)]
    have ef : ∀ f, ev (.func f) = .func (.func f) #[] #[] := fun f => (hev _).trans rfl
    clear hev hD
    go_simp
    exact hK _ _ rfl hG
  apply gh_det (n := 3)
  · intro fl xs w ev hG hD hl hdone hev K hK
    have e20 := (hev (.tmp 20)).trans (kx20.out xs)
    have d2 := hD.at_ 2 rfl rfl
    replace e20 := e20.trans d2
    rw [if_pos (wantedX_none rfl)]
    have ef : ∀ f, ev (.func f) = .func (.func f) #[] #[] := fun f => (hev _).trans rfl
    clear hev hD
    go_simp
    exact hK _ _ rfl hG
  apply gh_det (n := 4)
  · intro fl xs w ev hG hD hl hdone hev K hK
    have e21 := (hev (.tmp 21)).trans (kx21.out xs)
    have d3 := hD.at_ 3 rfl rfl
    replace e21 := e21.trans d3
    rw [if_pos (wantedX_none rfl)]
    have ef : ∀ f, ev (.func f) = .func (.func f) #[] #[] := fun f => (hev _).trans rfl
    clear hev hD
    have m0 := hG.atH (hG.not10 hl)
    go_simp
    exact hK _ _ rfl hG.s4
  apply gh_det (n := 5)
  · intro fl xs w ev hG hD hl hdone hev K hK
    have e4 := (hev (.tmp 4)).trans (kx4.out xs)
    rw [if_pos (wantedX_none rfl)]
    have ef : ∀ f, ev (.func f) = .func (.func f) #[] #[] := fun f => (hev _).trans rfl
    clear hev hD
    have m1 := (hG.1.cell (p := ⟨bk, _, none⟩) hbk hbkn).trans q0
    have m2 := (hG.1.cell (p := ⟨bk, _, none⟩) hbk hbkn).trans q1
    go_simp
    exact hK _ _ rfl hG
  refine gh_any (n := 6) (fun _ => True) ?_ ?_
  · intro fl xs w ev hG hD hl hdone hev K hK
    have e23 := (hev (.tmp 23)).trans (kx23.out xs)
    have d5 := hD.at_ 5 rfl rfl
    replace e23 := e23.trans d5
    rw [if_pos (wantedX_none rfl)]
    have ef : ∀ f, ev (.func f) = .func (.func f) #[] #[] := fun f => (hev _).trans rfl
    clear hev hD
    go_simp
    exact hK _ _ trivial (hG.s6 hl hmlt)
  refine gh_any (n := 7) (fun _ => True) ?_ ?_
  · intro fl xs w ev hG hD hl hdone hev K hK
    have e22 := (hev (.tmp 22)).trans (kx22.out xs)
    have d4 := hD.at_ 4 rfl rfl
    replace e22 := e22.trans d4
    have e24 := (hev (.tmp 24)).trans (kx24.out xs)
    rw [if_pos (wantedX_none rfl)]
    have ef : ∀ f, ev (.func f) = .func (.func f) #[] #[] := fun f => (hev _).trans rfl
    clear hev hD
    obtain ⟨k, ek, hk, hkb⟩ := hG.lit (done_of hdone 6 rfl)
    have own := hG.own hl
    rw [ek] at e24
    obtain ⟨v', w1, hrun, own1, hgr, hnew⟩ := own_append (enc := pairE) Try.underlying142 infoItem rfl (by decide) pairE_len2 pairE_one 1 own (rd_one (hkb hl)) (by omega) (by decide) (Nat.le_trans hbase2 hG.1.size)
    exact outcome_append (.tmp 22) (.tmp 24) 142 rfl e22 e24 hrun (hK _ _ trivial (hG.s7 hl (done_of hdone 6 rfl) hgr own1 hnew hmlt hhlt hgh hgm))
  apply gh_det (n := 8)
  · intro fl xs w ev hG hD hl hdone hev K hK
    have e18 := (hev (.tmp 18)).trans (kx18.out xs)
    have d0 := hD.at_ 0 rfl rfl
    replace e18 := e18.trans d0
    rw [if_pos (wantedX_none rfl)]
    have ef : ∀ f, ev (.func f) = .func (.func f) #[] #[] := fun f => (hev _).trans rfl
    clear hev hD
    go_simp
    exact hK _ _ rfl hG
  apply gh_det (n := 9)
  · intro fl xs w ev hG hD hl hdone hev K hK
    have e26 := (hev (.tmp 26)).trans (kx26.out xs)
    have d8 := hD.at_ 8 rfl rfl
    replace e26 := e26.trans d8
    rw [if_pos (wantedX_none rfl)]
    have ef : ∀ f, ev (.func f) = .func (.func f) #[] #[] := fun f => (hev _).trans rfl
    clear hev hD
    go_simp
    exact hK _ _ rfl hG
  refine gh_any (n := 10) (fun _ => True) ?_ ?_
  · intro fl xs w ev hG hD hl hdone hev K hK
    have e27 := (hev (.tmp 27)).trans (kx27.out xs)
    have d9 := hD.at_ 9 rfl rfl
    replace e27 := e27.trans d9
    have e25 := (hev (.tmp 25)).trans (kx25.out xs)
    rw [if_pos (wantedX_none rfl)]
    have ef : ∀ f, ev (.func f) = .func (.func f) #[] #[] := fun f => (hev _).trans rfl
    clear hev hD
    have h4 := done_of hdone 4 rfl
    have h7 := done_of hdone 7 rfl
    obtain ⟨c00, c01⟩ := hG.cellsH hl
    have f0 := hG.frozenH hl
    have hgo := GP.s10 (v := undef) hG hl h4 h7 hgh hhlt hhm
    obtain ⟨A7, c7, e7, _⟩ := Rd.of_own (enc := pairE) pairE_len2 rfl (hG.2.2.2.2.2.2.1 h7).1
    generalize (l ++ [(kx, ix)]).length = n7 at e7
    rw [e7] at hgo e25
    go_simp
    exact hK _ _ trivial hgo
  intro xs w' hG hI
  clear hI
  obtain ⟨g1, g2, g3, g4, g5, g6, g7, g8, g9⟩ := hG
  have hfin := hfin.out (xs 7) w' g1 g2 (g9 rfl) (g7 rfl).1 (g7 rfl).2
  clear g1 g2 g3 g4 g5 g6 g7 g8 g9
  simp only [List.append_eq, List.cons_append, List.nil_append, setAll, List.setIfInBounds_toArray, List.set_cons_zero, List.set_cons_succ]
  go_wp2_with fail
  go_returns
  exact ⟨rfl, hfin.1, hfin.2⟩
end Go.Proofs.Ytonkkibnigdfbaa
namespace Go.Proofs.Ytonkkibnigdfbaa
open Go.RowKit B K
set_option linter.unusedVariables false
set_option linter.unusedSimpArgs false
set_option maxHeartbeats 2000000
set_option maxRecDepth 100000 in
theorem iPop_any {w : World} {base h m : Nat} {sv : Value} {l : List It} {kx ix : Int} (H : HW w base h m sv (l ++ [(kx, ix)])) :
    Calls Try.prog 165 #[.pointer (some ⟨h, 0, none⟩)] w fun e w' => e = .returned (.iface 120 (.agg #[.int .i64 kx, .int .i64 ix])) ∧ (∃ sv', HW w' base h m sv' l ∧ sv'.ownBlock = sv.ownBlock) ∧ But w w' (hbs h m sv) := by
  have hx : (l ++ [(kx, ix)])[l.length]? = some (kx, ix) := by simp
  obtain ⟨g, c, rfl, hgl, hc, hc2, h1, h2⟩ := H.item hx
  have hlen1 : (l ++ [(kx, ix)]).length = l.length + 1 := by simp
  have hll := H.len
  obtain ⟨n, hn⟩ : ∃ n, l.length = n := ⟨_, rfl⟩
  have H0 := H
  rw [hlen1] at hc hll
  have hb1 : Below w.heap.size w (w.alloc (.cells #[.int .i64 kx, .int .i64 ix] 120)) := (Below.refl _ w).alloc (Nat.le_refl _) _
  have H1 := H.below hb1
  have bx := Bx2.new w 120 kx ix
  have hbkn : w.heap.size ∉ hbs h m (.slice (some ⟨g, 0, none⟩) (l ++ [(kx, ix)]).length c) := fun hx => Nat.lt_irrefl _ (H.lt _ hx)
  obtain ⟨W1, hW1⟩ : ∃ q, w.alloc (.cells #[.int .i64 kx, .int .i64 ix] 120) = q := ⟨_, rfl⟩
  rw [hW1] at hb1 H1 bx
  obtain ⟨bk, hbke⟩ : ∃ q, w.heap.size = q := ⟨_, rfl⟩
  rw [hbke] at bx hbkn
  have c0 := H.c0
  have d0 := H1.c0
  have d1 := H1.c1
  rw [hlen1, hn] at c0 d0
  have hgh := (H.hg rfl).1
  have hgm := (H.hg rfl).2
  -- the row cut
  have hh : ∀ W, (Instr.slice 142 (.slice (some ⟨g, 0, none⟩) (n + 1) c) none (some (.int .i64 (n : Int))) none).run Try.prog W = .ok (.slice (some ⟨g, 0, none⟩) n c) W := fun W => by
    have := run_head (P := Try.prog) (t := 142) (e := 120) (s := 2) Try.underlying142 (by kernel_rfl) (fun W => by simp [go_sem]) (some ⟨g, 0, none⟩) (n + 1) c n (by omega) .i64 W
    rwa [cutA_zero] at this
  have fz : W1.frozen? ⟨h, 0, none⟩ = false := by simp [World.frozen?, H1.blk]
  have hb3 : But W1 (W1.setCell ⟨h, 0, none⟩ (.slice (some ⟨g, 0, none⟩) n c)) [h] := But.of_set _ _ _ (by simp)
  have hblk3 : (W1.setCell ⟨h, 0, none⟩ (.slice (some ⟨g, 0, none⟩) n c)).heap[h]? = some (.cells #[.slice (some ⟨g, 0, none⟩) n c, .map (some m)] 146 (0, 0)) := by
    have hbk := H1.blk
    have hlt := (Array.getElem?_eq_some_iff.1 hbk).1
    have e : W1.heap[h] = .cells #[.slice (some ⟨g, 0, none⟩) (l ++ [(kx, ix)]).length c, .map (some m)] 146 (0, 0) := by rw [Array.getElem?_eq_getElem hlt] at hbk; exact Option.some.inj hbk
    simp [World.setCell, hbk, hlt, Array.getElem_modify, e]
  have own3 : (W1.setCell ⟨h, 0, none⟩ (.slice (some ⟨g, 0, none⟩) n c)).ownsRow base 120 2 (.slice (some ⟨g, 0, none⟩) n c) l.length (l.flatMap pairE) := by
    have h0 := H1.own
    have h1 := own_first (m := l.length) h0 (by simp)
    rw [flat_take pairE_len2] at h1
    simp only [List.take_left] at h1
    rw [hn] at h1 ⊢
    exact own_keep h1 fun g2 hg2 => by cases hg2; exact hb3.keep g (Nat.lt_of_lt_of_le hgl hb1.size) (by simp; exact hgh)
  obtain ⟨f, hf, hM⟩ := H1.map
  have hf3 := hf.keep (hb3.keep m H1.mlt (by simp; exact Ne.symm H1.hm))
  have hwf := H.wf _ (List.mem_of_getElem? hx)
  have hbx3 : ∀ i, i < 2 → (W1.setCell ⟨h, 0, none⟩ (.slice (some ⟨g, 0, none⟩) n c)).cell? ⟨bk, i, none⟩ = W1.cell? ⟨bk, i, none⟩ := fun i _ => hb3.cell (p := ⟨bk, i, none⟩) bx.lt (by simp; intro e; exact hbkn (by simp [hbs, e]))
  have e0 := (hbx3 0 (by omega)).trans bx.c0
  have e1 := (hbx3 1 (by omega)).trans bx.c1
  have e2 := (hb3.cell (p := ⟨h, 1, none⟩) H1.hlt)
  have e3 : (W1.setCell ⟨h, 0, none⟩ (.slice (some ⟨g, 0, none⟩) n c)).cell? ⟨h, 1, none⟩ = some (.map (some m)) := by rw [cell_of_row _ _ _ _ _ _ hblk3]; rfl
  obtain ⟨W3, hW3⟩ : ∃ q, W1.setCell ⟨h, 0, none⟩ (.slice (some ⟨g, 0, none⟩) n c) = q := ⟨_, rfl⟩
  rw [hW3] at hb3 hblk3 own3 hf3 e0 e1 e3
  obtain ⟨W4, hdel, hf4, hturn⟩ := MapI.drop (w := W3.drewN 1) (h := hf3) Try.underlying77 Try.underlying3 hwf 0
  rw [hM.there hx] at hf4
  have hbut4 : But W3 W4 [m] := by
    have h0 : But W3 (W3.drewN 1) [m] := ⟨rfl, rfl, rfl, Nat.le_refl _, fun _ _ _ => rfl⟩
    exact h0.trans (But.of_grown hturn.grown (by simp))
  have hbk3 : bk < W3.heap.size := Nat.lt_of_lt_of_le bx.lt hb3.size
  have hbkm : bk ∉ [m] := by simp; intro e; exact hbkn (by simp [hbs, e])
  have r0 := (hbut4.cell (p := ⟨bk, 0, none⟩) hbk3 hbkm).trans e0
  have r1 := (hbut4.cell (p := ⟨bk, 1, none⟩) hbk3 hbkm).trans e1
  have hfin : Hid ((∃ sv', HW W4 base h m sv' l ∧ sv'.ownBlock = (Value.slice (some ⟨g, 0, none⟩) (n + 1) c).ownBlock) ∧ But w W4 (hbs h m (.slice (some ⟨g, 0, none⟩) (n + 1) c))) := by
    refine ⟨⟨.slice (some ⟨g, 0, none⟩) n c, ⟨(hbut4.keep h (Nat.lt_of_lt_of_le H1.hlt hb3.size) (by simp; exact H1.hm)).trans hblk3, ?_, ⟨_, ?_, hM.pop⟩, H.hb, H.mb, fun x hx => H.wf x (by simp [hx]), by omega⟩, rfl⟩, ?_⟩
    · exact own_keep own3 fun g2 hg2 => by cases hg2; exact hbut4.keep g (Nat.lt_of_lt_of_le (Nat.lt_of_lt_of_le hgl hb1.size) hb3.size) (by simp; exact hgm)
    · rw [hlen1] at hf4
      simpa using hf4
    · exact ((But.of_below hb1 _).trans (hb3.mono (by intro a ha; simp at ha; subst ha; simp [hbs]))).trans (hbut4.mono (by intro a ha; simp at ha; subst ha; simp [hbs]))
  have hz : (n : Int) < ((n + 1 : Nat) : Int) := by omega
  rw [hn] at h1 h2
  rw [hlen1, hn]
  clear H H0 H1 hx hf hf3 hM hwf hturn hf4 own3 hblk3 hb3 hbut4 hbx3 e2 hlen1 bx
  go_enter Try.func165, Try.ntmps165
  go_upto_region 4 with fail
  refine wp_tail0 6 (by kernel_rfl) (by kernel_rfl) ?_
  simp only [List.take_succ_cons, List.take_zero, List.drop_succ_cons, List.drop_zero]
  repeat still_step
  try refine wpStill_nil ?_
  refine wpList_delete_run rfl (.tmp 30) (.tmp 32) 77 3 rfl rfl rfl hdel ?_
  go_wp2_with fail
  go_returns
  exact ⟨rfl, hfin.out.1, hfin.out.2⟩
end Go.Proofs.Ytonkkibnigdfbaa
namespace Go.Proofs.Ytonkkibnigdfbaa
open Go.RowKit Go.Shelf B K
set_option linter.unusedVariables false
set_option linter.unusedSimpArgs false
set_option maxHeartbeats 2000000
/-- the heap is one behind the call; its row may be new -/
def HNext (w w' : World) (base h m : Nat) (sv : Value) (l : List It) : Prop :=
  (∃ sv' l', HW w' base h m sv' l' ∧ IsHeap l' l'.length ∧ l'.Perm l ∧ ∀ g, sv'.ownBlock = some g → g ∈ hbs h m sv ∨ w.heap.size ≤ g) ∧ But w w' (hbs h m sv)
section
variable {w : World} {base h m : Nat} {sv : Value} {l : List It}
theorem mem_own {g : Nat} (hg : sv.ownBlock = some g) : g ∈ hbs h m sv := by simp [hbs, hg]
set_option maxRecDepth 100000 in
theorem down_idle (H : HW w base h m sv l) (k : Nat) (hk : k < l.length) (hi : ∀ c z p, 0 < c → par c = k → l[c]? = some z → l[k]? = some p → ltI z p = false) :
    Calls Try.prog 127 #[.iface 149 (.pointer (some ⟨h, 0, none⟩)), .int .i64 k, .int .i64 l.length] w fun e w' => e = .returned (.bool false) ∧ Below w.heap.size w w' := by
  have mL : ∀ w, Sem.run Try.prog (method (Try.prog.types.size + 100) 149 (.pointer (some ⟨h, 0, none⟩)) "Less") w = .ok (164, .pointer (some ⟨h, 0, none⟩)) w := fun _ => by kernel_rfl
  have eL := enters_of Try.func164 (by kernel_rfl) rfl
  have hll := H.len
  have hkz : (k : Int) ≤ 1099511627776 := by omega
  have hx : l[k]? = some l[k] := List.getElem?_eq_getElem hk
  obtain ⟨x, ex⟩ : ∃ q, l[k] = q := ⟨_, rfl⟩
  rw [ex] at hx
  obtain ⟨n, hn⟩ : ∃ n, l.length = n := ⟨_, rfl⟩
  by_cases h1 : 2 * k + 1 < n
  · have ha : l[2 * k + 1]? = some l[2 * k + 1] := List.getElem?_eq_getElem (by omega)
    obtain ⟨a, ea⟩ : ∃ q, l[2 * k + 1] = q := ⟨_, rfl⟩
    rw [ea] at ha
    have hz1 : 2 * (k : Int) + 1 < (n : Int) := by omega
    have hz0 : ¬ 2 * (k : Int) + 1 < 0 := by omega
    by_cases h2 : 2 * k + 1 + 1 < n
    · have hb : l[2 * k + 1 + 1]? = some l[2 * k + 1 + 1] := List.getElem?_eq_getElem (by omega)
      obtain ⟨b, eb⟩ : ∃ q, l[2 * k + 1 + 1] = q := ⟨_, rfl⟩
      rw [eb] at hb
      have hz2 : 2 * (k : Int) + 1 + 1 < (n : Int) := by omega
      have hL1 : Hid (Calls Try.prog 164 #[.pointer (some ⟨h, 0, none⟩), .int .i64 (2 * (k : Int) + 1 + 1), .int .i64 (2 * (k : Int) + 1)] w fun e w' => e = .returned (.bool (ltI b a)) ∧ Below w.heap.size w w') := by
        have := iLess_any H hb ha
        rwa [show ((2 * k + 1 + 1 : Nat) : Int) = 2 * (k : Int) + 1 + 1 by omega, show ((2 * k + 1 : Nat) : Int) = 2 * (k : Int) + 1 by omega] at this
      cases hv1 : ltI b a with
      | true =>
        have hlt := hi (2 * k + 1 + 1) b x (by omega) (by unfold par; omega) hb hx
        have hL2 : Hid (∀ W, Below w.heap.size w W → Calls Try.prog 164 #[.pointer (some ⟨h, 0, none⟩), .int .i64 (2 * (k : Int) + 1 + 1), .int .i64 (k : Int)] W fun e w' => e = .returned (.bool false) ∧ Below W.heap.size W w') := fun W hW => by
          have := iLess_any (H.below hW) hb hx
          rwa [show ((2 * k + 1 + 1 : Nat) : Int) = 2 * (k : Int) + 1 + 1 by omega, hlt] at this
        rw [hv1] at hL1
        rw [hn]
        clear hv1 hlt hi H hn ha hb hx ea eb ex hk
        go_enter Try.func127, Try.ntmps127
        go_wp2_with fail
        refine wp_loop_rounds 1 ?_
        rw [rounds_succ]
        go_wp2_with (first | (with_reducible refine hL1.out.mono ?_; rintro e w4 ⟨rfl, hb4⟩) | (with_reducible refine (hL2.out _ hb4).mono ?_; rintro e w5 ⟨rfl, hb5⟩))
        go_returns
        exact ⟨rfl, hb4.trans (hb5.mono hb4.size)⟩
      | false =>
        have hlt := hi (2 * k + 1) a x (by omega) (by unfold par; omega) ha hx
        have hL2 : Hid (∀ W, Below w.heap.size w W → Calls Try.prog 164 #[.pointer (some ⟨h, 0, none⟩), .int .i64 (2 * (k : Int) + 1), .int .i64 (k : Int)] W fun e w' => e = .returned (.bool false) ∧ Below W.heap.size W w') := fun W hW => by
          have := iLess_any (H.below hW) ha hx
          rwa [show ((2 * k + 1 : Nat) : Int) = 2 * (k : Int) + 1 by omega, hlt] at this
        rw [hv1] at hL1
        rw [hn]
        clear hv1 hlt hi H hn ha hb hx ea eb ex hk
        go_enter Try.func127, Try.ntmps127
        go_wp2_with fail
        refine wp_loop_rounds 1 ?_
        rw [rounds_succ]
        go_wp2_with (first | (with_reducible refine hL1.out.mono ?_; rintro e w4 ⟨rfl, hb4⟩) | (with_reducible refine (hL2.out _ hb4).mono ?_; rintro e w5 ⟨rfl, hb5⟩))
        go_returns
        exact ⟨rfl, hb4.trans (hb5.mono hb4.size)⟩
    · have hz2 : ¬ 2 * (k : Int) + 1 + 1 < (n : Int) := by omega
      have hlt := hi (2 * k + 1) a x (by omega) (by unfold par; omega) ha hx
      have hL2 : Hid (Calls Try.prog 164 #[.pointer (some ⟨h, 0, none⟩), .int .i64 (2 * (k : Int) + 1), .int .i64 (k : Int)] w fun e w' => e = .returned (.bool false) ∧ Below w.heap.size w w') := by
        have := iLess_any H ha hx
        rwa [show ((2 * k + 1 : Nat) : Int) = 2 * (k : Int) + 1 by omega, hlt] at this
      rw [hn]
      clear hlt hi H hn ha hx ea ex hk
      go_enter Try.func127, Try.ntmps127
      go_wp2_with fail
      refine wp_loop_rounds 1 ?_
      rw [rounds_succ]
      go_wp2_with (with_reducible refine hL2.out.mono ?_; rintro e w4 ⟨rfl, hb4⟩)
      go_returns
      exact ⟨rfl, hb4⟩
  · have hz1 : ¬ 2 * (k : Int) + 1 < (n : Int) := by omega
    rw [hn]
    clear hi H hn hx ex hk
    go_enter Try.func127, Try.ntmps127
    go_wp2_with fail
    refine wp_loop_rounds 1 ?_
    rw [rounds_succ]
    go_wp2_with fail
    go_returns
    exact ⟨rfl, Below.refl _ _⟩
end
end Go.Proofs.Ytonkkibnigdfbaa
namespace Go.Proofs.Ytonkkibnigdfbaa
open Go.RowKit Go.Shelf B K
set_option linter.unusedVariables false
set_option linter.unusedSimpArgs false
set_option maxHeartbeats 2000000
section
variable {w : World} {base h m : Nat} {sv : Value} {l : List It}
set_option maxRecDepth 100000 in
theorem hfix_any (H : HW w base h m sv l) (k : Nat) (hk : k < l.length) (hi : ∀ c z p, 0 < c → par c = k → l[c]? = some z → l[k]? = some p → ltI z p = false) (hu : UpInv l k) :
    Calls Try.prog 106 #[.iface 149 (.pointer (some ⟨h, 0, none⟩)), .int .i64 k] w fun e w' => e = .returned (.tuple #[]) ∧ HNext w w' base h m sv l := by
  have mN : ∀ w, Sem.run Try.prog (method (Try.prog.types.size + 100) 149 (.pointer (some ⟨h, 0, none⟩)) "Len") w = .ok (163, .pointer (some ⟨h, 0, none⟩)) w := fun _ => by kernel_rfl
  have eN := enters_of Try.func163 (by kernel_rfl) rfl
  have hN := Lib.hid (iLen_any H)
  have hD := Lib.hid (down_idle H k hk hi)
  have hU : Hid (∀ W, Below w.heap.size w W → Calls Try.prog 126 #[.iface 149 (.pointer (some ⟨h, 0, none⟩)), .int .i64 k] W fun e w' => e = .returned (.tuple #[]) ∧ (∃ l', HW w' base h m sv l' ∧ l'.Perm l ∧ IsHeap l' l'.length) ∧ But W w' (hbs h m sv)) := fun W hW => up_any (H.below hW) k hk hu
  go_enter Try.func106, Try.ntmps106
  go_wp2_with (first | (refine hN.out.mono ?_; rintro e w' ⟨rfl, rfl⟩) | (go_at_call 127; refine hD.out.mono ?_; rintro e w4 ⟨rfl, hb4⟩) | (go_at_call 126; refine (hU.out _ hb4).mono ?_; rintro e w5 ⟨rfl, ⟨l', H', hp, hh⟩, hb5⟩))
  go_returns
  exact ⟨rfl, ⟨sv, l', H', hh, hp, fun g hg => .inl (mem_own hg)⟩, (But.of_below hb4 _).trans hb5⟩
set_option maxRecDepth 100000 in
theorem hpush_any {kx ix : Int} (H : HW w base h m sv l) (hh : IsHeap l l.length) (hbase : base ≤ w.heap.size) (hwf : (Lit.int .i64 ix).wf = true) (hnew : ∀ x ∈ l, x.2 ≠ ix) (hroom : l.length + 1 ≤ 1099511627776) :
    Calls Try.prog 103 #[.iface 149 (.pointer (some ⟨h, 0, none⟩)), .iface 120 (.agg #[.int .i64 kx, .int .i64 ix])] w fun e w' => e = .returned (.tuple #[]) ∧ HNext w w' base h m sv (l ++ [(kx, ix)]) := by
  have mP : ∀ w, Sem.run Try.prog (method (Try.prog.types.size + 100) 149 (.pointer (some ⟨h, 0, none⟩)) "Push") w = .ok (166, .pointer (some ⟨h, 0, none⟩)) w := fun _ => by kernel_rfl
  have eP := enters_of Try.func166 (by kernel_rfl) rfl
  have mN : ∀ w, Sem.run Try.prog (method (Try.prog.types.size + 100) 149 (.pointer (some ⟨h, 0, none⟩)) "Len") w = .ok (163, .pointer (some ⟨h, 0, none⟩)) w := fun _ => by kernel_rfl
  have eN := enters_of Try.func163 (by kernel_rfl) rfl
  have hP := Lib.hid (iPush_any (kx := kx) H hbase hwf hnew hroom)
  have hN : Hid (∀ {W : World} {sv'}, HW W base h m sv' (l ++ [(kx, ix)]) → Calls Try.prog 163 #[.pointer (some ⟨h, 0, none⟩)] W fun e w' => e = .returned (.int .i64 ((l.length : Int) + 1)) ∧ w' = W) := fun H' => by
    have := iLen_any H'
    rwa [show (((l ++ [(kx, ix)]).length : Nat) : Int) = (l.length : Int) + 1 by simp] at this
  have hU : Hid (∀ {W : World} {sv'}, HW W base h m sv' (l ++ [(kx, ix)]) → Calls Try.prog 126 #[.iface 149 (.pointer (some ⟨h, 0, none⟩)), .int .i64 l.length] W fun e w' => e = .returned (.tuple #[]) ∧ (∃ l', HW w' base h m sv' l' ∧ l'.Perm (l ++ [(kx, ix)]) ∧ IsHeap l' l'.length) ∧ But W w' (hbs h m sv')) := fun H' => up_any H' l.length (by simp) (up_push hh _)
  have hln : (l.length : Int) ≤ 1099511627776 := by omega
  go_enter Try.func103, Try.ntmps103
  go_wp2_with (first | (refine hP.out.mono ?_; rintro e w4 ⟨rfl, ⟨sv', H', hs'⟩, hb4⟩) | (refine (hN.out H').mono ?_; rintro e w' ⟨rfl, rfl⟩) | (go_at_call 126; refine (hU.out H').mono ?_; rintro e w5 ⟨rfl, ⟨l', H5, hp, hh5⟩, hb5⟩))
  go_returns
  refine ⟨rfl, ⟨sv', l', H5, hh5, hp, hs'⟩, hb4.trans' hb5 fun y hy => ?_⟩
  simp only [hbs, List.mem_cons, Option.mem_toList] at hy
  rcases hy with rfl | rfl | hy
  · exact .inl (by simp [hbs])
  · exact .inl (by simp [hbs])
  · exact hs' y hy
set_option maxRecDepth 100000 in
theorem hpop_any {kx ix : Int} (H : HW w base h m sv l) (hh : IsHeap l l.length) (h0 : l[0]? = some (kx, ix)) :
    Calls Try.prog 105 #[.iface 149 (.pointer (some ⟨h, 0, none⟩))] w fun e w' => e = .returned (.iface 120 (.agg #[.int .i64 kx, .int .i64 ix])) ∧ (∃ l0, ((kx, ix) :: l0).Perm l ∧ HNext w w' base h m sv l0) := by
  have mN : ∀ w, Sem.run Try.prog (method (Try.prog.types.size + 100) 149 (.pointer (some ⟨h, 0, none⟩)) "Len") w = .ok (163, .pointer (some ⟨h, 0, none⟩)) w := fun _ => by kernel_rfl
  have eN := enters_of Try.func163 (by kernel_rfl) rfl
  have mS : ∀ w, Sem.run Try.prog (method (Try.prog.types.size + 100) 149 (.pointer (some ⟨h, 0, none⟩)) "Swap") w = .ok (167, .pointer (some ⟨h, 0, none⟩)) w := fun _ => by kernel_rfl
  have eS := enters_of Try.func167 (by kernel_rfl) rfl
  have mO : ∀ w, Sem.run Try.prog (method (Try.prog.types.size + 100) 149 (.pointer (some ⟨h, 0, none⟩)) "Pop") w = .ok (165, .pointer (some ⟨h, 0, none⟩)) w := fun _ => by kernel_rfl
  have eO := enters_of Try.func165 (by kernel_rfl) rfl
  have hlen := (List.getElem?_eq_some_iff.1 h0).1
  obtain ⟨n, hn⟩ : ∃ n, l.length = n + 1 := ⟨l.length - 1, by omega⟩
  have hll := H.len
  have hlast : l[n]? = some l[n] := List.getElem?_eq_getElem (by omega)
  obtain ⟨b, eb⟩ : ∃ q, l[n] = q := ⟨_, rfl⟩
  rw [eb] at hlast
  have hN := Lib.hid (iLen_any H)
  have hS := Lib.hid (iSwap_any H h0 hlast)
  rw [show ((0 : Nat) : Int) = 0 from rfl] at hS
  rw [hn, show ((n + 1 : Nat) : Int) = (n : Int) + 1 by omega] at hN
  have hlen2 : (swp l 0 n (kx, ix) b).length = n + 1 := by rw [swp_len, hn]
  have hD : Hid (∀ {W : World}, HW W base h m sv (swp l 0 n (kx, ix) b) → Calls Try.prog 127 #[.iface 149 (.pointer (some ⟨h, 0, none⟩)), .int .i64 0, .int .i64 n] W fun e w' => (∃ v : Value, e = .returned v) ∧
      (∃ l', HW w' base h m sv (l' ++ [(kx, ix)]) ∧ ((kx, ix) :: l').Perm l ∧ IsHeap l' l'.length) ∧ But W w' (hbs h m sv)) := fun {W} H' => by
    refine (down_any H' 0 n (by omega) (by omega) (dn_top hh hn h0 hlast)).mono ?_
    rintro e w' ⟨hv, ⟨l', H'', hp, hhp, hk⟩, hb⟩
    refine ⟨hv, ?_, hb⟩
    have hl' : l'.length = n + 1 := by rw [hp.length_eq, hlen2]
    have hnn : l'[n]? = some (kx, ix) := by
      rw [hk n (Nat.le_refl _), swp_at h0 hlast, if_pos rfl]
    have e1 : l' = l'.take n ++ [(kx, ix)] := by
      have := take_at hnn
      rw [List.take_of_length_le (by omega)] at this
      exact this
    have hl3 : (l'.take n).length = n := by rw [List.length_take]; omega
    rw [e1] at H'' hhp
    refine ⟨l'.take n, H'', ?_, isHeap_cut (x := (kx, ix)) (by rw [hl3]; exact hhp)⟩
    refine List.Perm.trans ?_ (hp.trans (swp_perm h0 hlast))
    rw [e1, List.take_left' (by rw [List.length_take]; omega)]
    exact (List.perm_append_singleton _ _).symm
  have hln : (n : Int) ≤ 1099511627776 := by omega
  clear eb hlast h0 hlen hn hlen2
  go_enter Try.func105, Try.ntmps105
  go_wp2_with (first | (refine hN.out.mono ?_; rintro e w' ⟨rfl, rfl⟩) | (refine hS.out.mono ?_; rintro e w4 ⟨rfl, H4, hb4⟩) | (go_at_call 127; refine (hD.out H4).mono ?_; rintro e w5 ⟨⟨v5, rfl⟩, ⟨l5, H5, hp5, hh5⟩, hb5⟩) | (refine (iPop_any H5).mono ?_; rintro e w6 ⟨rfl, ⟨sv6, H6, hs6⟩, hb6⟩))
  go_returns
  exact ⟨rfl, l5, hp5, ⟨sv6, l5, H6, hh5, List.Perm.refl _, fun g hg => .inl (mem_own (by rw [← hs6]; exact hg))⟩, (hb4.trans hb5).trans hb6⟩
end
end Go.Proofs.Ytonkkibnigdfbaa
namespace Go.Proofs.Ytonkkibnigdfbaa
open Go.RowKit Go.Shelf B K
set_option linter.unusedVariables false
set_option linter.unusedSimpArgs false
set_option maxHeartbeats 2000000
/-- block h is a heap of the items l, in whatever order; it holds none of the blocks X -/
def HQ (w : World) (base h : Nat) (X : List Nat) (l : List It) : Prop := ∃ m sv l', HW w base h m sv l' ∧ IsHeap l' l'.length ∧ l'.Perm l ∧ ∀ b ∈ X, b ∉ hbs h m sv
def HPost (w w' : World) (base h : Nat) (X : List Nat) (l : List It) : Prop := HQ w' base h X l ∧ Below base w w' ∧ ∀ b ∈ X, b < w.heap.size → w'.heap[b]? = w.heap[b]?
section
variable {w w' : World} {base h m : Nat} {sv : Value} {l l2 : List It} {X : List Nat}
theorem HNext.post (hn : HNext w w' base h m sv l) (hp : l.Perm l2) (hX : ∀ b ∈ X, b ∉ hbs h m sv) (hlt : ∀ b ∈ X, b < w.heap.size) (hbase : base ≤ w.heap.size) (hble : ∀ x ∈ hbs h m sv, base ≤ x) : HPost w w' base h X l2 := by
  obtain ⟨⟨sv', l', H', hh, hp', hs⟩, hb⟩ := hn
  refine ⟨⟨m, sv', l', H', hh, hp'.trans hp, fun b hbX hbm => ?_⟩, hb.below hbase hble, fun b hbX hbl => hb.keep b hbl (hX b hbX)⟩
  simp only [hbs, List.mem_cons, Option.mem_toList] at hbm
  rcases hbm with rfl | rfl | hg
  · exact hX _ hbX (by simp [hbs])
  · exact hX _ hbX (by simp [hbs])
  · rcases hs b hg with h1 | h1
    · exact hX b hbX h1
    · have := hlt b hbX; omega
theorem HQ.below (H : HQ w base h X l) (hb : Below w.heap.size w w') : HQ w' base h X l := by
  obtain ⟨m, sv, l', H, r⟩ := H
  exact ⟨m, sv, l', H.below hb, r⟩
/-- blocks that came later -/
theorem HQ.more (H : HQ w base h X l) {Y : List Nat} (hY : ∀ y ∈ Y, y ∈ X ∨ w.heap.size ≤ y) : HQ w base h Y l := by
  obtain ⟨m, sv, l', H, hh, hp, hX⟩ := H
  exact ⟨m, sv, l', H, hh, hp, fun b hb hm => (hY b hb).elim (fun h => hX b h hm) (fun h => by have := H.lt b hm; omega)⟩
theorem HQ.perm (H : HQ w base h X l) (hp : l.Perm l2) : HQ w base h X l2 := by
  obtain ⟨m, sv, l', H, hh, hp', hX⟩ := H
  exact ⟨m, sv, l', H, hh, hp'.trans hp, hX⟩
theorem HQ.but {Z : List Nat} (H : HQ w base h X l) (hb : But w w' Z) (hZ : ∀ z ∈ Z, z ∈ X) : HQ w' base h X l := by
  obtain ⟨m, sv, l', H, hh, hp, hX⟩ := H
  exact ⟨m, sv, l', H.but hb (fun x hx hz => hX x (hZ x hz) hx), hh, hp, hX⟩
theorem HPost.trans {w1 w2 w3 : World} {l3 : List It} (h1 : HPost w1 w2 base h X l2) (h2 : HPost w2 w3 base h X l3) : HPost w1 w3 base h X l3 :=
  ⟨h2.1, h1.2.1.trans h2.2.1, fun b hb hlt => (h2.2.2 b hb (Nat.lt_of_lt_of_le hlt h1.2.1.size)).trans (h1.2.2 b hb hlt)⟩
theorem HPost.after {w1 w2 w3 : World} (h0 : Below w1.heap.size w1 w2) (h2 : HPost w2 w3 base h X l) (hb : base ≤ w1.heap.size) : HPost w1 w3 base h X l :=
  ⟨h2.1, (h0.mono hb).trans h2.2.1, fun b hX hlt => (h2.2.2 b hX (Nat.lt_of_lt_of_le hlt h0.size)).trans (h0.block b hlt)⟩
theorem HPost.ahead {w1 w2 w3 : World} (h2 : HPost w1 w2 base h X l) (h0 : Below w2.heap.size w2 w3) (hb : base ≤ w1.heap.size) : HPost w1 w3 base h X l :=
  ⟨h2.1.below h0, h2.2.1.trans (h0.mono (Nat.le_trans hb h2.2.1.size)), fun b hX hlt => (h0.block b (Nat.lt_of_lt_of_le hlt h2.2.1.size)).trans (h2.2.2 b hX hlt)⟩
theorem New_any (X : List Nat) (hX : ∀ b ∈ X, b < w.heap.size) (hbase : base ≤ w.heap.size) :
    Calls Try.prog 82 #[] w fun e w' => ∃ h, e = .returned (.pointer (some ⟨h, 0, none⟩)) ∧ w.heap.size ≤ h ∧ HQ w' base h X [] ∧ Below w.heap.size w w' := by
  have hmk : ∀ W : World, (Instr.makeMap 77 none).run Try.prog W = .ok (.map (some W.heap.size)) (W.alloc (.map #[] 0)) := fun W => by kernel_rfl
  go_enter Try.func82, Try.ntmps82
  go_wp2
  go_returns
  have m1 : MapI Try.prog 3 3 (w.alloc (.map #[] 0)) w.heap.size (fun _ => none) 0 := MapI.new w
  have hb2 : Below (w.alloc (.map #[] 0)).heap.size (w.alloc (.map #[] 0)) ((w.alloc (.map #[] 0)).alloc (.cells #[.slice none 0 0, .map (some w.heap.size)] 146)) := (Below.refl _ _).alloc (Nat.le_refl _) _
  have hb1 : Below w.heap.size w (w.alloc (.map #[] 0)) := (Below.refl _ w).alloc (Nat.le_refl _) _
  have hnew := heap_alloc_new (w.alloc (.map #[] 0)) (.cells #[.slice none 0 0, .map (some w.heap.size)] 146)
  rw [show (w.alloc (.map #[] 0)).heap.size = w.heap.size + 1 by simp] at hnew
  refine ⟨w.heap.size + 1, rfl, by omega, ⟨w.heap.size, .slice none 0 0, [], ⟨hnew, World.ownsRow_nil _ _ _ _, ⟨_, m1.below hb2, mapOk_nil⟩, by omega, hbase, fun x hx => (by cases hx), by simp⟩, isHeap_nil, List.Perm.refl _, fun b hb hm => ?_⟩, hb1.trans (hb2.mono hb1.size)⟩
  have := hX b hb
  simp [hbs, Value.ownBlock] at hm
  omega
theorem Len_any (H : HQ w base h X l) : Calls Try.prog 104 #[.pointer (some ⟨h, 0, none⟩)] w fun e w' => e = .returned (.int .i64 l.length) ∧ w' = w := by
  obtain ⟨m, sv, l', H, _, hp, _⟩ := H
  obtain ⟨A, c, rfl, hr, hc, hc2⟩ := Rd.of_own (enc := pairE) pairE_len2 rfl H.own
  have c0 := H.c0
  rw [← hp.length_eq]
  clear hp
  go_enter Try.func104, Try.ntmps104
  go_wp2
  go_returns
  exact ⟨rfl, rfl⟩
theorem Len_nil (w : World) : Calls Try.prog 104 #[.pointer none] w fun e w' => e = .returned (.int .i64 0) ∧ w' = w := by
  go_enter Try.func104, Try.ntmps104
  go_wp2
  go_returns
  exact ⟨rfl, rfl⟩
set_option maxRecDepth 100000 in
theorem Push_there {kx ix : Int} (H : HQ w base h X l) (hwf : (Lit.int .i64 ix).wf = true) (hth : ∃ x ∈ l, x.2 = ix) :
    Calls Try.prog 83 #[.pointer (some ⟨h, 0, none⟩), .agg #[.int .i64 kx, .int .i64 ix]] w fun e w' => e = .returned (.int .i64 6) ∧ Below w.heap.size w w' := by
  obtain ⟨m, sv, l', H, hh, hp, hX⟩ := H
  have hb1 : Below w.heap.size w (w.alloc (.cells #[.int .i64 kx, .int .i64 ix] 120)) := (Below.refl _ w).alloc (Nat.le_refl _) _
  have H1 := H.below hb1
  have bx := Bx2.new w 120 kx ix
  obtain ⟨W1, hW1⟩ : ∃ q, w.alloc (.cells #[.int .i64 kx, .int .i64 ix] 120) = q := ⟨_, rfl⟩
  rw [hW1] at hb1 H1 bx
  obtain ⟨bk, hbke⟩ : ∃ q, w.heap.size = q := ⟨_, rfl⟩
  rw [hbke] at bx
  have bx0 := bx.c0
  have bx1 := bx.c1
  have d1 := H1.c1
  obtain ⟨f, hf, hM⟩ := H1.map
  obtain ⟨x, hx, rfl⟩ := hth
  obtain ⟨k, hk⟩ := List.getElem?_of_mem (hp.mem_iff.2 hx)
  have hlook : Hid (∀ W, Below W1.heap.size W1 W → (Instr.lookup 77 (.map (some m)) (.int .i64 x.2) true).run Try.prog W = .ok (.tuple #[.int .i64 k, .bool true]) W) := fun W hW => by
    have := (MapI.look (hf.below hW) Try.underlying77 Try.underlying3 Try.underlying3 (by kernel_rfl) hwf).1
    rwa [hM.1 k x hk] at this
  have hhl := H1.hlt
  have hbl := bx.lt
  clear H H1 hf hM hp hx hk hX hh bx
  go_enter Try.func83, Try.ntmps83
  go_upto_region 3 with fail
  refine wp_region_below W1.heap.size (by kernel_rfl) (by kernel_rfl) ?_
  intro C hC
  repeat (go_big_quiet_step (first
    | ((intro _; with_reducible rfl))
    | (intro hc; have m0 := (hc.cell (p := ⟨h, _, none⟩) hhl).trans d1; have m1 := (hc.cell (p := ⟨bk, _, none⟩) hbl).trans bx1; have hl := hlook.out _ hc; simp only [m0, m1, hl, Result.andThen]; exact ⟨trivial, rfl⟩)))
  refine wpQuiet_nil ?_
  intro w4 hb4
  clear hC
  go_wp2_with fail
  go_returns
  exact ⟨rfl, hb1.trans (hb4.mono hb1.size)⟩
theorem HNext.after {w1 w2 : World} (h0 : Below w.heap.size w w1) (h1 : HPost w1 w2 base h X l) (hbase : base ≤ w.heap.size) : HPost w w2 base h X l :=
  ⟨h1.1, (h0.mono hbase).trans h1.2.1, fun b hb hlt => (h1.2.2 b hb (Nat.lt_of_lt_of_le hlt h0.size)).trans (h0.block b hlt)⟩
set_option maxRecDepth 100000 in
theorem Push_new {kx ix : Int} (H : HQ w base h X l) (hwf : (Lit.int .i64 ix).wf = true) (hth : ∀ x ∈ l, x.2 ≠ ix) (hbase : base ≤ w.heap.size) (hXl : ∀ b ∈ X, b < w.heap.size) (hroom : l.length + 1 ≤ 1099511627776) :
    Calls Try.prog 83 #[.pointer (some ⟨h, 0, none⟩), .agg #[.int .i64 kx, .int .i64 ix]] w fun e w' => e = .returned (.int .i64 0) ∧ HPost w w' base h X ((kx, ix) :: l) := by
  obtain ⟨m, sv, l', H, hh, hp, hX⟩ := H
  have hb1 : Below w.heap.size w (w.alloc (.cells #[.int .i64 kx, .int .i64 ix] 120)) := (Below.refl _ w).alloc (Nat.le_refl _) _
  have H1 := H.below hb1
  have bx := Bx2.new w 120 kx ix
  obtain ⟨W1, hW1⟩ : ∃ q, w.alloc (.cells #[.int .i64 kx, .int .i64 ix] 120) = q := ⟨_, rfl⟩
  rw [hW1] at hb1 H1 bx
  obtain ⟨bk, hbke⟩ : ∃ q, w.heap.size = q := ⟨_, rfl⟩
  have hsz := hb1.size
  rw [hbke] at bx
  have bx0 := bx.c0
  have bx1 := bx.c1
  have d1 := H1.c1
  obtain ⟨f, hf, hM⟩ := H1.map
  have hf0 : f ix = none := hM.gone.2 fun x hx => hth x (hp.mem_iff.1 hx)
  have hlook : Hid (∀ W, Below W1.heap.size W1 W → (Instr.lookup 77 (.map (some m)) (.int .i64 ix) true).run Try.prog W = .ok (.tuple #[.int .i64 0, .bool false]) W) := fun W hW => by
    have := (MapI.look (hf.below hW) Try.underlying77 Try.underlying3 Try.underlying3 (by kernel_rfl) hwf).1
    rwa [hf0] at this
  have hhl := H1.hlt
  have hbl := bx.lt
  have hP : Hid (∀ W, Below W1.heap.size W1 W → Calls Try.prog 103 #[.iface 149 (.pointer (some ⟨h, 0, none⟩)), .iface 120 (.agg #[.int .i64 kx, .int .i64 ix])] W fun e w' => e = .returned (.tuple #[]) ∧ HPost w w' base h X ((kx, ix) :: l)) := fun W hW => by
    refine (hpush_any (H1.below hW) hh (Nat.le_trans hbase (Nat.le_trans hsz hW.size)) hwf (fun x hx => hth x (hp.mem_iff.1 hx)) (by rw [hp.length_eq]; exact hroom)).mono ?_
    rintro e w' ⟨rfl, hn⟩
    exact ⟨rfl, HNext.after (hb1.trans (hW.mono hsz)) (hn.post ((List.perm_append_singleton _ _).trans (hp.cons _)) hX (fun b hb => Nat.lt_of_lt_of_le (hXl b hb) (Nat.le_trans hsz hW.size)) (Nat.le_trans hbase (Nat.le_trans hsz hW.size)) H1.base_le) hbase⟩
  clear H H1 hf hM hp hX hh bx hf0 hth hsz
  go_enter Try.func83, Try.ntmps83
  go_upto_region 3 with fail
  refine wp_region_below W1.heap.size (by kernel_rfl) (by kernel_rfl) ?_
  intro C hC
  repeat (go_big_quiet_step (first
    | ((intro _; with_reducible rfl))
    | (intro hc; have m0 := (hc.cell (p := ⟨h, _, none⟩) hhl).trans d1; have m1 := (hc.cell (p := ⟨bk, _, none⟩) hbl).trans bx1; have hl := hlook.out _ hc; simp only [m0, m1, hl, Result.andThen]; exact ⟨trivial, rfl⟩)))
  refine wpQuiet_nil ?_
  intro w4 hb4
  clear hC
  have q0 := (hb4.cell (p := ⟨bk, 0, none⟩) hbl).trans bx0
  have q1 := (hb4.cell (p := ⟨bk, 1, none⟩) hbl).trans bx1
  have hbd : Below W1.heap.size W1 (w4.drewN 1) := ⟨hb4.os, hb4.tape, hb4.output, hb4.size, hb4.block⟩
  have hPd := Lib.hid (hP.out _ hbd)
  clear hP hlook
  go_upto_region 6 with fail
  refine wp_tail0 6 (by kernel_rfl) (by kernel_rfl) ?_
  simp only [List.take_succ_cons, List.take_zero, List.drop_succ_cons, List.drop_zero]
  repeat still_step
  try refine wpStill_nil ?_
  go_wp2_with (go_at_call 103; refine hPd.out.mono ?_; rintro e w6 ⟨rfl, hpost⟩)
  go_returns
  exact ⟨rfl, hpost⟩
set_option maxRecDepth 100000 in
theorem Pop_any (H : HQ w base h X l) (hne : l ≠ []) (hbase : base ≤ w.heap.size) (hXl : ∀ b ∈ X, b < w.heap.size) :
    Calls Try.prog 84 #[.pointer (some ⟨h, 0, none⟩)] w fun e w' => ∃ x l0, l.Perm (x :: l0) ∧ (∀ y ∈ l0, ltI y x = false) ∧ e = .returned (.tuple #[.agg #[.int .i64 x.1, .int .i64 x.2], .bool true]) ∧ HPost w w' base h X l0 := by
  have H0 := H
  obtain ⟨m, sv, l', H, hh, hp, hX⟩ := H
  have hpos : 0 < l'.length := by
    rw [hp.length_eq]
    exact List.length_pos_iff.2 hne
  have h0 : l'[0]? = some l'[0] := List.getElem?_eq_getElem hpos
  obtain ⟨⟨kx, ix⟩, ex⟩ : ∃ q, l'[0] = q := ⟨_, rfl⟩
  rw [ex] at h0
  have hb1 : Below w.heap.size w (w.alloc (.cells #[.int .i64 0, .int .i64 0] 120)) := (Below.refl _ w).alloc (Nat.le_refl _) _
  have hnew := heap_alloc_new w (.cells #[.int .i64 0, .int .i64 0] 120)
  have H1 := H.below hb1
  have HL := H0.below hb1
  obtain ⟨W1, hW1⟩ : ∃ q, w.alloc (.cells #[.int .i64 0, .int .i64 0] 120) = q := ⟨_, rfl⟩
  have hbl : w.heap.size < W1.heap.size := by rw [← hW1]; simp
  rw [hW1] at hb1 H1 HL hnew
  have hbkn : w.heap.size ∉ hbs h m sv := fun hx => Nat.lt_irrefl _ (H.lt _ hx)
  have hN := Lib.hid (Len_any HL)
  have hz : ((l.length : Nat) : Int) ≠ 0 := by rw [← hp.length_eq]; omega
  obtain ⟨bk, hbke⟩ : ∃ q, w.heap.size = q := ⟨_, rfl⟩
  have hsz := hb1.size
  rw [hbke] at hnew hbl hbkn
  have hP : Hid (Calls Try.prog 105 #[.iface 149 (.pointer (some ⟨h, 0, none⟩))] W1 fun e w' => e = .returned (.iface 120 (.agg #[.int .i64 kx, .int .i64 ix])) ∧ (∃ l0, l.Perm ((kx, ix) :: l0) ∧ (∀ y ∈ l0, ltI y (kx, ix) = false) ∧ HPost W1 w' base h (bk :: X) l0)) := by
    refine (hpop_any H1 hh h0).mono ?_
    rintro e w' ⟨rfl, l0, hp0, hn⟩
    refine ⟨rfl, l0, (hp0.trans hp).symm, fun y hy => ?_, hn.post (List.Perm.refl _) ?_ ?_ (Nat.le_trans hbase hsz) H1.base_le⟩
    · obtain ⟨k, hk⟩ := List.getElem?_of_mem (hp0.mem_iff.1 (List.mem_cons_of_mem _ hy))
      exact heap_least hh h0 k y hk
    · intro b hb
      rcases List.mem_cons.1 hb with rfl | hb
      · exact hbkn
      · exact hX b hb
    · intro b hb
      rcases List.mem_cons.1 hb with rfl | hb
      · exact hbl
      · exact Nat.lt_of_lt_of_le (hXl b hb) hsz
  have hta := assert_item kx ix
  have hfin : Hid (∀ (w6 : World) (l0 : List It), HPost W1 w6 base h (bk :: X) l0 → (w6.cell? ⟨bk, 0, none⟩ = some (.int .i64 0) ∧ w6.cell? ⟨bk, 1, none⟩ = some (.int .i64 0) ∧ w6.frozen? ⟨bk, 0, none⟩ = false ∧ w6.frozen? ⟨bk, 1, none⟩ = false ∧ (w6.setCell ⟨bk, 0, none⟩ (.int .i64 kx)).cell? ⟨bk, 0, none⟩ = some (.int .i64 kx) ∧
        ((w6.setCell ⟨bk, 0, none⟩ (.int .i64 kx)).setCell ⟨bk, 1, none⟩ (.int .i64 ix)).cell? ⟨bk, 1, none⟩ = some (.int .i64 ix)) ∧
      HPost w ((w6.setCell ⟨bk, 0, none⟩ (.int .i64 kx)).setCell ⟨bk, 1, none⟩ (.int .i64 ix)) base h X l0) := fun w6 l0 hpost => by
    have hk := hpost.2.2 bk (by simp) hbl
    rw [hnew] at hk
    have hbut : But w6 ((w6.setCell ⟨bk, 0, none⟩ (.int .i64 kx)).setCell ⟨bk, 1, none⟩ (.int .i64 ix)) [bk] := (But.of_set _ _ _ (by simp)).trans (But.of_set _ _ _ (by simp))
    refine ⟨⟨by rw [cell_of_row _ _ _ _ _ _ hk]; rfl, by rw [cell_of_row _ _ _ _ _ _ hk]; rfl, by simp [World.frozen?, hk], by simp [World.frozen?, hk], ?_, ?_⟩, ?_, ?_, ?_⟩
    · have hlt := (Array.getElem?_eq_some_iff.1 hk).1
      have e : w6.heap[bk] = .cells #[.int .i64 0, .int .i64 0] 120 (0, 0) := by rw [Array.getElem?_eq_getElem hlt] at hk; exact Option.some.inj hk
      simp [World.cell?, World.setCell, hlt, Array.getElem_modify, e]
    · have hlt := (Array.getElem?_eq_some_iff.1 hk).1
      have e : w6.heap[bk] = .cells #[.int .i64 0, .int .i64 0] 120 (0, 0) := by rw [Array.getElem?_eq_getElem hlt] at hk; exact Option.some.inj hk
      simp [World.cell?, World.setCell, hlt, Array.getElem_modify, e]
    · exact (hpost.1.but hbut (by simp)).more fun y hy => .inl (by simp [hy])
    · exact (hb1.mono hbase).trans (hpost.2.1.trans (hbut.below (Nat.le_trans hbase (Nat.le_trans hsz hpost.2.1.size)) (by simp; omega)))
    · intro b hb hlt
      have hne : b ≠ bk := by omega
      rw [hbut.keep b (Nat.lt_of_lt_of_le hlt (Nat.le_trans hsz hpost.2.1.size)) (by simpa using hne), hpost.2.2 b (by simp [hb]) (Nat.lt_of_lt_of_le hlt hsz), hb1.block b hlt]
  clear H H0 H1 HL hh hp hX hpos h0 ex hbkn hsz hb1 hXl hbase hnew hne
  go_enter Try.func84, Try.ntmps84
  go_wp2_with (first | (go_at_call 104; refine hN.out.mono ?_; rintro e w' ⟨rfl, rfl⟩) | (go_at_call 105; refine hP.out.mono ?_; rintro e w6 ⟨rfl, l0, hp6, hmin, hpost⟩; obtain ⟨⟨q0, q1, q2, q3, q4, q5⟩, hpost⟩ := hfin.out _ _ hpost))
  exact bodyPost_ret (v := .tuple #[.agg #[.int .i64 kx, .int .i64 ix], .bool true]) (by simp [results, Try.results84, go_sem, q4, q5]) rfl ⟨(kx, ix), l0, hp6, hmin, rfl, hpost⟩
theorem Pop_zero {p : Value} (hN : ∀ W, Below w.heap.size w W → Calls Try.prog 104 #[p] W fun e w' => e = .returned (.int .i64 0) ∧ w' = W) :
    Calls Try.prog 84 #[p] w fun e w' => e = .returned (.tuple #[.agg #[.int .i64 0, .int .i64 0], .bool false]) ∧ Below w.heap.size w w' := by
  have hb1 : Below w.heap.size w (w.alloc (.cells #[.int .i64 0, .int .i64 0] 120)) := (Below.refl _ w).alloc (Nat.le_refl _) _
  have hN1 := Lib.hid (hN _ hb1)
  clear hN
  go_enter Try.func84, Try.ntmps84
  go_wp2_with fail
  refine hN1.out.mono ?_; rintro e w' ⟨rfl, rfl⟩
  go_wp2_with fail
  exact bodyPost_ret (v := .tuple #[.agg #[.int .i64 0, .int .i64 0], .bool false]) (by simp [results, Try.results84, go_sem]) rfl ⟨rfl, hb1⟩
end
end Go.Proofs.Ytonkkibnigdfbaa
namespace Go.Proofs.Ytonkkibnigdfbaa
open Go.RowKit Go.Shelf B K
set_option linter.unusedVariables false
set_option linter.unusedSimpArgs false
set_option maxHeartbeats 2000000
theorem flat_set_fst : ∀ (l : List (Int × Int)) (i : Nat) (a x y : Int), l[i]? = some (a, y) → (l.flatMap pairE).set (i * 2) (.int .i64 x) = (l.set i (x, y)).flatMap pairE
  | [], _, _, _, _, h => by simp at h
  | p :: r, 0, a, x, y, h => by simp at h; subst h; rfl
  | p :: r, i + 1, a, x, y, h => by
    have ih := flat_set_fst r i a x y (by simpa using h)
    rw [List.set_cons_succ, List.flatMap_cons, List.flatMap_cons, ← ih]
    have e1 : (i + 1) * 2 = 2 + i * 2 := by omega
    rw [e1, List.set_append_right _ _ (by simp [pairE])]
    congr 2
    simp [pairE]
section
variable {w w' : World} {base h m : Nat} {sv : Value} {l l2 : List It} {X : List Nat}
theorem Lower_nil (w : World) (id key : Int) : Calls Try.prog 85 #[.pointer none, .int .i64 id, .int .i64 key] w fun e w' => e = .returned (.tuple #[.bool false, .int .i64 1]) ∧ w' = w := by
  go_enter Try.func85, Try.ntmps85
  go_wp2
  go_returns
  exact ⟨rfl, rfl⟩
theorem Push_nil (w : World) (id key : Int) : Calls Try.prog 83 #[.pointer none, .agg #[.int .i64 key, .int .i64 id]] w fun e w' => e = .returned (.int .i64 1) ∧ Below w.heap.size w w' := by
  go_enter Try.func83, Try.ntmps83
  go_wp2
  go_returns
  exact ⟨rfl, (Below.refl _ w).alloc (Nat.le_refl _) _⟩
theorem Lower_none (H : HQ w base h X l) {id key : Int} (hwf : (Lit.int .i64 id).wf = true) (hth : ∀ x ∈ l, x.2 ≠ id) :
    Calls Try.prog 85 #[.pointer (some ⟨h, 0, none⟩), .int .i64 id, .int .i64 key] w fun e w' => e = .returned (.tuple #[.bool false, .int .i64 5]) ∧ w' = w := by
  obtain ⟨m, sv, l', H, hh, hp, hX⟩ := H
  have d1 := H.c1
  obtain ⟨f, hf, hM⟩ := H.map
  have hf0 : f id = none := hM.gone.2 fun x hx => hth x (hp.mem_iff.1 hx)
  have hl := (hf.look Try.underlying77 Try.underlying3 Try.underlying3 (by kernel_rfl) hwf).1
  rw [hf0] at hl
  simp only [Option.getD_none, Option.isSome_none] at hl
  clear H hh hp hX hf hM hf0 hth
  go_enter Try.func85, Try.ntmps85
  go_wp2
  go_returns
  exact ⟨rfl, rfl⟩
theorem Lower_high (H : HQ w base h X l) {id key old : Int} (hwf : (Lit.int .i64 id).wf = true) (hth : (old, id) ∈ l) (hk : old ≤ key) :
    Calls Try.prog 85 #[.pointer (some ⟨h, 0, none⟩), .int .i64 id, .int .i64 key] w fun e w' => e = .returned (.tuple #[.bool false, .int .i64 0]) ∧ w' = w := by
  obtain ⟨m, sv, l', H, hh, hp, hX⟩ := H
  have d1 := H.c1
  have d0 := H.c0
  obtain ⟨f, hf, hM⟩ := H.map
  obtain ⟨k, hx⟩ := List.getElem?_of_mem (hp.mem_iff.2 hth)
  have hl := (hf.look Try.underlying77 Try.underlying3 Try.underlying3 (by kernel_rfl) hwf).1
  rw [hM.1 k _ hx] at hl
  simp only [Option.getD_some, Option.isSome_some] at hl
  obtain ⟨g, c, rfl, hgl, hc, hc2, h1, h2⟩ := H.item hx
  have hkl := (List.getElem?_eq_some_iff.1 hx).1
  have hll := H.len
  obtain ⟨n, hn⟩ : ∃ n, l'.length = n := ⟨_, rfl⟩
  rw [hn] at d0
  have hz0 : (0 : Int) ≤ (k : Int) := by omega
  have hz1 : (k : Int) < (n : Int) := by omega
  simp only at h1 h2
  clear H hh hp hX hf hM hth hx hn
  go_enter Try.func85, Try.ntmps85
  go_wp2
  go_returns
  exact ⟨rfl, rfl⟩
set_option maxRecDepth 100000 in
theorem Lower_any (H : HQ w base h X l) {id key old : Int} {l0 : List It} (hwf : (Lit.int .i64 id).wf = true) (hth : l.Perm ((old, id) :: l0)) (hk : key < old) (hbase : base ≤ w.heap.size) (hXl : ∀ b ∈ X, b < w.heap.size) :
    Calls Try.prog 85 #[.pointer (some ⟨h, 0, none⟩), .int .i64 id, .int .i64 key] w fun e w' => e = .returned (.tuple #[.bool true, .int .i64 0]) ∧ HPost w w' base h X ((key, id) :: l0) := by
  obtain ⟨m, sv, l', H, hh, hp, hX⟩ := H
  have d1 := H.c1
  have d0 := H.c0
  obtain ⟨f, hf, hM⟩ := H.map
  have hp2 := hp.trans hth
  obtain ⟨k, hx⟩ := List.getElem?_of_mem (hp2.mem_iff.2 (List.mem_cons_self ..))
  have hl := (hf.look Try.underlying77 Try.underlying3 Try.underlying3 (by kernel_rfl) hwf).1
  rw [hM.1 k _ hx] at hl
  simp only [Option.getD_some, Option.isSome_some] at hl
  obtain ⟨g, c, rfl, hgl, hc, hc2, h1, h2⟩ := H.item hx
  have hgh := (H.hg rfl).1
  have hgm := (H.hg rfl).2
  have hkl := (List.getElem?_eq_some_iff.1 hx).1
  have hll := H.len
  have fz := H.own.frozenAt (k * 2)
  have own1 := (H.own.stored (k * 2) (.int .i64 key)).1
  rw [flat_set_fst l' k old key id hx] at own1
  have hb1 : But w (w.setCell ⟨g, k * 2, none⟩ (.int .i64 key)) [g] := But.of_set _ _ _ (by simp)
  have hlt : ltI (key, id) (old, id) = true := ltI_iff.2 (.inl hk)
  have hperm : (l'.set k (key, id)).Perm ((key, id) :: l0) := by
    have e1 : l' = l'.take k ++ (old, id) :: l'.drop (k + 1) := by
      have e := (List.take_append_drop k l').symm
      rw [drop_at hx] at e
      exact e
    have e2 : l'.set k (key, id) = l'.take k ++ (key, id) :: l'.drop (k + 1) := by
      rw [List.set_eq_take_append_cons_drop, if_pos hkl]
    rw [e2]
    refine List.perm_middle.trans (List.Perm.cons _ ?_)
    rw [e1] at hp2
    exact List.Perm.cons_inv (List.perm_middle.symm.trans hp2)
  have H1 : HW (w.setCell ⟨g, k * 2, none⟩ (.int .i64 key)) base h m (.slice (some ⟨g, 0, none⟩) l'.length c) (l'.set k (key, id)) := by
    refine ⟨(hb1.keep h H.hlt (by simp; exact Ne.symm hgh)).trans H.blk, by rw [List.length_set]; exact own1, ⟨f, ?_, hM.set hx (key, id) rfl⟩, H.hb, H.mb, fun x hx' => ?_, by rw [List.length_set]; exact hll⟩
    · rw [List.length_set]
      exact hf.keep (hb1.keep m H.mlt (by simp; exact Ne.symm hgm))
    · rcases List.mem_or_eq_of_mem_set hx' with hx' | rfl
      · exact H.wf x hx'
      · exact hwf
  have hF : Hid (Calls Try.prog 106 #[.iface 149 (.pointer (some ⟨h, 0, none⟩)), .int .i64 k] (w.setCell ⟨g, k * 2, none⟩ (.int .i64 key)) fun e w' => e = .returned (.tuple #[]) ∧ HPost w w' base h X ((key, id) :: l0)) := by
    refine (hfix_any H1 k (by simpa using hkl) (fun c z p hc hpc hz hpp => ?_) (up_lower hh hx hlt)).mono ?_
    · rw [List.getElem?_set_self hkl] at hpp
      cases hpp
      exact low_idle hh hx hlt hc hpc hz
    · rintro e w' ⟨rfl, hn⟩
      refine ⟨rfl, ?_⟩
      have hn' : HNext w w' base h m (.slice (some ⟨g, 0, none⟩) l'.length c) (l'.set k (key, id)) := ⟨by
        obtain ⟨sv', l5, a1, a2, a3, a4⟩ := hn.1
        exact ⟨sv', l5, a1, a2, a3, fun q hq => (a4 q hq).imp (fun h => h) fun h => by simpa using h⟩, (hb1.mono (by intro a ha; simp at ha; subst ha; simp [hbs, Value.ownBlock])).trans hn.2⟩
      exact hn'.post hperm hX hXl hbase H.base_le
  obtain ⟨n, hn⟩ : ∃ n, l'.length = n := ⟨_, rfl⟩
  rw [hn] at d0
  have hz0 : (0 : Int) ≤ (k : Int) := by omega
  have hz1 : (k : Int) < (n : Int) := by omega
  simp only at h1 h2
  clear H hh hp hX hf hM hth hx hn H1 hp2 hperm own1 hb1 hlt hc hc2
  go_enter Try.func85, Try.ntmps85
  go_wp2_with (go_at_call 106; refine hF.out.mono ?_; rintro e w4 ⟨rfl, hpost⟩)
  go_returns
  exact ⟨rfl, hpost⟩
end
end Go.Proofs.Ytonkkibnigdfbaa
