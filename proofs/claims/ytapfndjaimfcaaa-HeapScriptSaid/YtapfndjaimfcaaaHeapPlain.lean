/-
  Plain law: a row of items, each a key and a number, as a heap; where each number stands.
-/
import Derived.Test.YtapfndjaimfcaaaBase
import Derived.Test.YtapfndjaimfcaaaMapI
namespace Go.Proofs.Ytapfndjaimfcaaa
open B
abbrev It := Int × Int
def ltI (a b : It) : Bool := decide (a.1 < b.1) || (decide (a.1 = b.1) && decide (a.2 < b.2))
theorem ltI_iff {a b : It} : ltI a b = true ↔ a.1 < b.1 ∨ (a.1 = b.1 ∧ a.2 < b.2) := by simp [ltI]
theorem ltI_no {a b : It} : ltI a b = false ↔ ¬ (a.1 < b.1 ∨ (a.1 = b.1 ∧ a.2 < b.2)) := by rw [← ltI_iff]; simp
theorem ltI_asy {a b : It} (h : ltI a b = true) : ltI b a = false := by rw [ltI_iff] at h; rw [ltI_no]; omega
theorem ltI_irr (a : It) : ltI a a = false := by rw [ltI_no]; omega
theorem ltI_tr {a b c : It} (h : ltI a b = false) (k : ltI b c = false) : ltI a c = false := by rw [ltI_no] at *; omega
theorem ltI_lt {a b c : It} (h : ltI a b = false) (k : ltI c b = true) : ltI a c = false := by rw [ltI_iff] at k; rw [ltI_no] at *; omega
theorem ltI_tr' {a b c : It} (h : ltI a b = true) (k : ltI b c = true) : ltI a c = true := by rw [ltI_iff] at *; omega
def par (c : Nat) : Nat := (c - 1) / 2
theorem par_lt {c : Nat} (h : 0 < c) : par c < c := by unfold par; omega
/-- two places turned about -/
def swp (l : List It) (i j : Nat) (a b : It) : List It := (l.set i b).set j a
theorem swp_len (l : List It) (i j : Nat) (a b : It) : (swp l i j a b).length = l.length := by simp [swp]
theorem swp_at {l : List It} {i j : Nat} {a b : It} (ha : l[i]? = some a) (hb : l[j]? = some b) (k : Nat) : (swp l i j a b)[k]? = if k = j then some a else if k = i then some b else l[k]? := by
  have hi := (List.getElem?_eq_some_iff.1 ha).1
  have hj := (List.getElem?_eq_some_iff.1 hb).1
  unfold swp
  rw [List.getElem?_set, List.getElem?_set]
  simp only [List.length_set]
  by_cases h1 : j = k
  · subst h1; simp [hj]
  · by_cases h2 : i = k
    · subst h2; simp [hi, h1, Ne.symm h1]
    · simp [h1, h2, Ne.symm h1, Ne.symm h2]
theorem swp_perm {l : List It} {i j : Nat} {a b : It} (ha : l[i]? = some a) (hb : l[j]? = some b) : (swp l i j a b).Perm l := by
  obtain ⟨hi, ea⟩ := List.getElem?_eq_some_iff.1 ha
  obtain ⟨hj, eb⟩ := List.getElem?_eq_some_iff.1 hb
  have := (Array.swap_perm (xs := l.toArray) (i := i) (j := j) (by simpa using hi) (by simpa using hj)).toList
  simpa [swp, Array.swap_def, ea, eb] using this
def IsHeap (l : List It) (n : Nat) : Prop := ∀ c x p, 0 < c → c < n → l[c]? = some x → l[par c]? = some p → ltI x p = false
/-- a heap but at j and its father -/
def UpInv (l : List It) (j : Nat) : Prop :=
  (∀ c x p, 0 < c → c ≠ j → l[c]? = some x → l[par c]? = some p → ltI x p = false) ∧ (∀ c x p, 0 < c → par c = j → 0 < j → l[c]? = some x → l[par j]? = some p → ltI x p = false)
/-- a heap but at i and its children -/
def DnInv (l : List It) (n i : Nat) : Prop :=
  (∀ c x p, 0 < c → c < n → par c ≠ i → l[c]? = some x → l[par c]? = some p → ltI x p = false) ∧ (∀ c x p, 0 < c → c < n → par c = i → 0 < i → l[c]? = some x → l[par i]? = some p → ltI x p = false)
theorem up_zero {l : List It} (h : UpInv l 0) : IsHeap l l.length := fun c x p hc _ hx hp => h.1 c x p hc (by omega) hx hp
theorem up_stop {l : List It} {j : Nat} (h : UpInv l j) (hs : ∀ x p, l[j]? = some x → l[par j]? = some p → ltI x p = false) : IsHeap l l.length := fun c x p hc _ hx hp => by
  by_cases e : c = j
  · subst e; exact hs x p hx hp
  · exact h.1 c x p hc e hx hp
theorem up_step {l : List It} {j : Nat} {x p : It} (h : UpInv l j) (hj : 0 < j) (hx : l[j]? = some x) (hp : l[par j]? = some p) (hlt : ltI x p = true) : UpInv (swp l (par j) j p x) (par j) := by
  have hi := par_lt hj
  have at' := swp_at hp hx
  refine ⟨fun c y q hc hne hy hq => ?_, fun c y q hc hpc h0 hy hq => ?_⟩
  · rw [at'] at hy hq
    by_cases e1 : c = j
    · subst e1
      rw [if_pos rfl] at hy
      rw [if_neg (by omega), if_pos rfl] at hq
      cases hy; cases hq
      exact ltI_asy hlt
    · rw [if_neg e1, if_neg hne] at hy
      by_cases e2 : par c = j
      · rw [if_pos e2] at hq; cases hq
        exact h.2 c y p hc e2 hj hy hp
      · rw [if_neg e2] at hq
        by_cases e3 : par c = par j
        · rw [if_pos e3] at hq; cases hq
          exact ltI_lt (h.1 c y p hc e1 hy (by rw [e3]; exact hp)) hlt
        · rw [if_neg e3] at hq
          exact h.1 c y q hc e1 hy hq
  · have hc2 := par_lt hc
    have hp2 := par_lt h0
    rw [at'] at hy hq
    rw [if_neg (by omega), if_neg (by omega)] at hq
    have hpp := h.1 (par j) p q h0 (by omega) hp hq
    by_cases e1 : c = j
    · rw [if_pos e1] at hy; cases hy; exact hpp
    · rw [if_neg e1, if_neg (by omega)] at hy
      exact ltI_tr (h.1 c y p hc e1 hy (by rw [hpc]; exact hp)) hpp
theorem dn_stop {l : List It} {n i : Nat} (h : DnInv l n i) (hs : ∀ c x p, 0 < c → c < n → par c = i → l[c]? = some x → l[i]? = some p → ltI x p = false) : IsHeap l n := fun c x p hc hn hx hp => by
  by_cases e : par c = i
  · exact hs c x p hc hn e hx (by rw [← e]; exact hp)
  · exact h.1 c x p hc hn e hx hp
theorem dn_step {l : List It} {n i j : Nat} {x y : It} (h : DnInv l n i) (hj : 0 < j) (hjn : j < n) (hpj : par j = i) (hx : l[i]? = some x) (hy : l[j]? = some y) (hlt : ltI y x = true)
    (hmin : ∀ c z, 0 < c → c < n → par c = i → l[c]? = some z → ltI z y = false) : DnInv (swp l i j x y) n j := by
  have hi := par_lt hj
  rw [hpj] at hi
  have at' := swp_at hx hy
  refine ⟨fun c u q hc hcn hne hu hq => ?_, fun c u q hc hcn hpc _ hu hq => ?_⟩
  · rw [at'] at hu hq
    have hcl := par_lt hc
    by_cases e1 : c = j
    · subst e1
      rw [if_pos rfl] at hu; cases hu
      rw [if_neg (by omega), if_pos hpj] at hq; cases hq
      exact ltI_asy hlt
    · rw [if_neg e1] at hu
      rw [if_neg hne] at hq
      by_cases e2 : c = i
      · rw [if_pos e2] at hu; cases hu
        subst e2
        rw [if_neg (by omega)] at hq
        exact h.2 j y q hj hjn hpj hc hy hq
      · rw [if_neg e2] at hu
        by_cases e3 : par c = i
        · rw [if_pos e3] at hq; cases hq
          exact hmin c u hc hcn e3 hu
        · rw [if_neg e3] at hq
          exact h.1 c u q hc hcn e3 hu hq
  · have hcl := par_lt hc
    rw [at'] at hu hq
    rw [if_neg (by omega), if_neg (by omega)] at hu
    rw [hpj, if_neg (by omega), if_pos rfl] at hq
    cases hq
    exact h.1 c u y hc hcn (by omega) hu (by rw [hpc]; exact hy)
/-- the first one is least -/
theorem heap_least {l : List It} (h : IsHeap l l.length) {r : It} (hr : l[0]? = some r) : ∀ (c : Nat) (x : It), l[c]? = some x → ltI x r = false := by
  intro c
  induction c using Nat.strongRecOn with
  | ind c ih =>
    intro x hx
    by_cases h0 : c = 0
    · subst h0; rw [hr] at hx; cases hx; exact ltI_irr _
    · have hp := par_lt (Nat.pos_of_ne_zero h0)
      have hcl := (List.getElem?_eq_some_iff.1 hx).1
      have hpp : par c < l.length := by omega
      exact ltI_tr (h c x l[par c] (by omega) hcl hx (List.getElem?_eq_getElem hpp)) (ih (par c) hp _ (List.getElem?_eq_getElem hpp))
/-- the map tells where each number stands -/
def MapOk (f : Int → Option Int) (l : List It) : Prop := (∀ (k : Nat) (x : It), l[k]? = some x → f x.2 = some (k : Int)) ∧ (∀ (a v : Int), f a = some v → ∃ (k : Nat) (x : It), v = (k : Int) ∧ l[k]? = some x ∧ x.2 = a)
theorem MapOk.inj {f : Int → Option Int} {l : List It} (h : MapOk f l) {i j : Nat} {x y : It} (hx : l[i]? = some x) (hy : l[j]? = some y) (e : x.2 = y.2) : i = j := by
  have h1 := h.1 i x hx
  have h2 := h.1 j y hy
  rw [e, h2] at h1
  cases h1; rfl
theorem MapOk.swp {f : Int → Option Int} {l : List It} (h : MapOk f l) {i j : Nat} {a b : It} (ha : l[i]? = some a) (hb : l[j]? = some b) : MapOk (updI (updI f b.2 i) a.2 j) (swp l i j a b) := by
  have at' := swp_at ha hb
  refine ⟨fun k x hx => ?_, fun s v hv => ?_⟩
  · rw [at'] at hx
    unfold updI
    by_cases e1 : k = j
    · rw [if_pos e1] at hx; cases hx; rw [if_pos rfl, e1]
    · rw [if_neg e1] at hx
      by_cases e2 : k = i
      · rw [if_pos e2] at hx; cases hx
        rw [if_neg (fun e => e1 (by rw [e2]; exact (h.inj hb ha e).symm)), if_pos rfl, e2]
      · rw [if_neg e2] at hx
        rw [if_neg (fun e => e2 (h.inj hx ha e)), if_neg (fun e => e1 (h.inj hx hb e))]
        exact h.1 k x hx
  · unfold updI at hv
    by_cases e1 : s = a.2
    · rw [if_pos e1] at hv; cases hv
      exact ⟨j, a, rfl, by rw [at', if_pos rfl], e1.symm⟩
    · rw [if_neg e1] at hv
      by_cases e2 : s = b.2
      · rw [if_pos e2] at hv; cases hv
        refine ⟨i, b, rfl, ?_, e2.symm⟩
        rw [at']
        by_cases e3 : i = j
        · subst e3; rw [ha] at hb; cases hb; exact absurd e2 e1
        · rw [if_neg e3, if_pos rfl]
      · rw [if_neg e2] at hv
        obtain ⟨k, x, rfl, hx, hxs⟩ := h.2 s v hv
        refine ⟨k, x, rfl, ?_, hxs⟩
        rw [at', if_neg (fun e => e2 (by rw [e, hb] at hx; cases hx; exact hxs.symm)), if_neg (fun e => e1 (by rw [e, ha] at hx; cases hx; exact hxs.symm))]
        exact hx
theorem MapOk.there {f : Int → Option Int} {l : List It} (h : MapOk f l) {k : Nat} {x : It} (hx : l[k]? = some x) : (f x.2).isSome = true := by rw [h.1 k x hx]; rfl
theorem MapOk.gone {f : Int → Option Int} {l : List It} (h : MapOk f l) {a : Int} : f a = none ↔ ∀ x ∈ l, x.2 ≠ a := by
  constructor
  · intro hf x hx e
    obtain ⟨k, hk⟩ := List.getElem?_of_mem hx
    rw [← e, h.1 k x hk] at hf; cases hf
  · intro hn
    cases hf : f a with
    | none => rfl
    | some v =>
      obtain ⟨k, x, _, hx, e⟩ := h.2 a v hf
      exact absurd e (hn x (List.mem_of_getElem? hx))
theorem MapOk.push {f : Int → Option Int} {l : List It} (h : MapOk f l) {x : It} (hn : f x.2 = none) : MapOk (updI f x.2 l.length) (l ++ [x]) := by
  refine ⟨fun k y hy => ?_, fun s v hv => ?_⟩
  · by_cases hk : k < l.length
    · rw [List.getElem?_append_left hk] at hy
      have := h.1 k y hy
      unfold updI
      rw [if_neg (fun e => by rw [e, hn] at this; cases this)]
      exact this
    · rw [List.getElem?_append_right (by omega)] at hy
      have : k - l.length = 0 := by
        have := (List.getElem?_eq_some_iff.1 hy).1
        simp at this; omega
      rw [this] at hy
      cases hy
      unfold updI
      rw [if_pos rfl]
      congr 1; omega
  · unfold updI at hv
    by_cases e : s = x.2
    · rw [if_pos e] at hv; cases hv
      exact ⟨l.length, x, rfl, by simp, e.symm⟩
    · rw [if_neg e] at hv
      obtain ⟨k, y, rfl, hy, hs⟩ := h.2 s v hv
      exact ⟨k, y, rfl, by rw [List.getElem?_append_left (List.getElem?_eq_some_iff.1 hy).1]; exact hy, hs⟩
theorem MapOk.pop {f : Int → Option Int} {l : List It} {x : It} (h : MapOk f (l ++ [x])) : MapOk (delI f x.2) l := by
  have hx : (l ++ [x])[l.length]? = some x := by simp
  refine ⟨fun k y hy => ?_, fun s v hv => ?_⟩
  · have hk := (List.getElem?_eq_some_iff.1 hy).1
    have hy' : (l ++ [x])[k]? = some y := by rw [List.getElem?_append_left hk]; exact hy
    unfold delI
    rw [if_neg (fun e => by have := h.inj hy' hx e; omega)]
    exact h.1 k y hy'
  · unfold delI at hv
    by_cases e : s = x.2
    · rw [if_pos e] at hv; cases hv
    · rw [if_neg e] at hv
      obtain ⟨k, y, rfl, hy, hs⟩ := h.2 s v hv
      have hkl : k < l.length := by
        have h1 := (List.getElem?_eq_some_iff.1 hy).1
        simp at h1
        rcases Nat.lt_or_eq_of_le (Nat.lt_succ_iff.1 h1) with h2 | h2
        · exact h2
        · rw [h2, hx] at hy; cases hy; exact absurd hs.symm e
      exact ⟨k, y, rfl, by rw [List.getElem?_append_left hkl] at hy; exact hy, hs⟩
/-- a key made lower at one place -/
theorem MapOk.set {f : Int → Option Int} {l : List It} (h : MapOk f l) {k : Nat} {x : It} (hx : l[k]? = some x) (y : It) (hy : y.2 = x.2) : MapOk f (l.set k y) := by
  have hk := (List.getElem?_eq_some_iff.1 hx).1
  refine ⟨fun j z hz => ?_, fun s v hv => ?_⟩
  · rw [List.getElem?_set] at hz
    by_cases e : k = j
    · subst e; simp [hk] at hz; subst hz; rw [hy]; exact h.1 k x hx
    · rw [if_neg e] at hz; exact h.1 j z hz
  · obtain ⟨j, z, rfl, hz, hs⟩ := h.2 s v hv
    by_cases e : k = j
    · subst e
      rw [hx] at hz; cases hz
      exact ⟨k, y, rfl, by simp [hk], by rw [hy]; exact hs⟩
    · exact ⟨j, z, rfl, by rw [List.getElem?_set, if_neg e]; exact hz, hs⟩
theorem up_push {l : List It} (h : IsHeap l l.length) (x : It) : UpInv (l ++ [x]) l.length := by
  refine ⟨fun c y p hc hne hy hp => ?_, fun c y p hc hpc _ hy _ => ?_⟩
  · have hcl := (List.getElem?_eq_some_iff.1 hy).1
    simp at hcl
    have hl : c < l.length := by omega
    have := par_lt hc
    rw [List.getElem?_append_left hl] at hy
    rw [List.getElem?_append_left (by omega)] at hp
    exact h c y p hc hl hy hp
  · have hcl := (List.getElem?_eq_some_iff.1 hy).1
    simp at hcl
    have := par_lt hc
    omega
theorem up_lower {l : List It} (h : IsHeap l l.length) {k : Nat} {x y : It} (hx : l[k]? = some x) (hlt : ltI y x = true) : UpInv (l.set k y) k := by
  have hk := (List.getElem?_eq_some_iff.1 hx).1
  refine ⟨fun c z p hc hne hz hp => ?_, fun c z p hc hpc h0 hz hp => ?_⟩
  · rw [List.getElem?_set, if_neg (Ne.symm hne)] at hz
    have hcl := (List.getElem?_eq_some_iff.1 hz).1
    rw [List.getElem?_set] at hp
    by_cases e : k = par c
    · rw [if_pos e, if_pos hk] at hp; cases hp
      exact ltI_lt (h c z x hc hcl hz (by rw [← e]; exact hx)) hlt
    · rw [if_neg e] at hp
      exact h c z p hc hcl hz hp
  · have hcp := par_lt hc
    have hkp := par_lt h0
    rw [List.getElem?_set, if_neg (by omega)] at hz
    rw [List.getElem?_set, if_neg (by omega)] at hp
    have hcl := (List.getElem?_eq_some_iff.1 hz).1
    exact ltI_tr (h c z x hc hcl hz (by rw [hpc]; exact hx)) (h k x p h0 hk hx hp)
/-- the children of a place that is made lower are not less -/
theorem low_idle {l : List It} (h : IsHeap l l.length) {k : Nat} {x y : It} (hx : l[k]? = some x) (hlt : ltI y x = true) {c : Nat} {z : It} (hc : 0 < c) (hpc : par c = k) (hz : (l.set k y)[c]? = some z) : ltI z y = false := by
  have hcp := par_lt hc
  rw [List.getElem?_set, if_neg (by omega)] at hz
  exact ltI_lt (h c z x hc (List.getElem?_eq_some_iff.1 hz).1 hz (by rw [hpc]; exact hx)) hlt
/-- the last one on top: a heap but at the top -/
theorem dn_top {l : List It} {n : Nat} (h : IsHeap l l.length) (hn : l.length = n + 1) {a b : It} (ha : l[0]? = some a) (hb : l[n]? = some b) : DnInv (swp l 0 n a b) n 0 := by
  have at' := swp_at ha hb
  refine ⟨fun c x p hc hcn hpc hx hp => ?_, fun c x p hc hcn hpc h0 => by omega⟩
  have hcp := par_lt hc
  rw [at', if_neg (by omega), if_neg (by omega)] at hx
  rw [at', if_neg (by omega), if_neg hpc] at hp
  exact h c x p hc (by omega) hx hp
theorem isHeap_cut {l : List It} {x : It} (h : IsHeap (l ++ [x]) l.length) : IsHeap l l.length := fun c y p hc hcn hy hp => by
  have hcp := par_lt hc
  exact h c y p hc hcn (by rw [List.getElem?_append_left hcn]; exact hy) (by rw [List.getElem?_append_left (by omega)]; exact hp)
theorem isHeap_nil : IsHeap [] 0 := fun c x p _ h => by omega
theorem mapOk_nil : MapOk (fun _ => none) [] := ⟨fun k x h => by simp at h, fun a v h => by cases h⟩
end Go.Proofs.Ytapfndjaimfcaaa
