/-
  Plain law of ClosureMore: a plain path more; a stop that is closed once.
-/
import Derived.Test.YtonkkibnigdfbaaClRow
import Derived.Test.YtonkkibnigdfbaaMoreLaw
import Derived.Test.YtonkkibnigdfbaaMoreP
namespace Go.Proofs.Ytonkkibnigdfbaa
open Go.RowKit Go.Shelf B K
set_option linter.unusedVariables false
set_option linter.unusedSimpArgs false
theorem lab_more {n s : Nat} {l l' : List Ed} {d d' : List Int} (hl : EdsOk n l) (h : IsDist n l s d) (h' : IsDist n l' s d') (hs : ∀ e ∈ l, e ∈ l') {i : Nat} (hi : i < n) : lab d' i ≤ lab d i :=
  IsDist.more hl h h' hs (lab_get (by rw [h.len]; exact hi)) (lab_get (by rw [h'.len]; exact hi))
theorem more_far {N : NetP} {l : Lk} (h : OkN N) (h' : OkN (addL N l)) {i k : Nat} (hi : i < N.cs.length) (hk : k < N.cs.length) : farC (addL N l) i k ≤ farC N i k := by
  refine lab_more (plainE_ok h) (clD_is h hi) (clD_is h' hi) (fun e he => ?_) hk
  obtain ⟨x, hx, hp, rfl⟩ := plainE_mem.1 he
  exact plainE_mem.2 ⟨x, List.mem_append_left _ hx, hp, rfl⟩
def shutN (N : NetP) (a : Nat) (x : Int × Int) : NetP := { N with cs := N.cs.set a [x] }
theorem clA_shut {N : NetP} {a : Nat} {x : Int × Int} (ha : a < N.cs.length) (z : Int) : clA (shutN N a x) z = if z.toNat = a then [x] else clA N z := by
  unfold clA shutN
  simp only [List.getElem?_set]
  by_cases hz : a = z.toNat
  · rw [if_pos hz, if_pos (by omega), if_pos hz.symm]; rfl
  · rw [if_neg hz, if_neg (fun e => hz e.symm)]
theorem shut_plain {N : NetP} {a : Nat} {x : Int × Int} (ha : a < N.cs.length) {l : Lk} (hp : plainB (shutN N a x) l = true) : plainB N l = true ∧ l.a.toNat ≠ a ∧ l.b.toNat ≠ a := by
  obtain ⟨p1, p2, p3, p4⟩ := plainB_iff.1 hp
  rw [clA_shut ha] at p3 p4
  by_cases h1 : l.a.toNat = a
  · rw [if_pos h1] at p3; cases p3
  · by_cases h2 : l.b.toNat = a
    · rw [if_pos h2] at p4; cases p4
    · rw [if_neg h1] at p3
      rw [if_neg h2] at p4
      exact ⟨plainB_iff.2 ⟨p1, p2, p3, p4⟩, h1, h2⟩
theorem shut_ok {N : NetP} {a : Nat} {x : Int × Int} (h : OkN N) (hx : W.good [x] = true) : OkN (shutN N a x) := by
  refine ⟨h.hz, by show (N.cs.set a [x]).length ≤ _; rw [List.length_set]; exact h.cn, h.ln, fun l hl => by show okL (N.cs.set a [x]).length l = true; rw [List.length_set]; exact h.lk l hl, fun c hc => ?_⟩
  rcases List.mem_or_eq_of_mem_set hc with hc | rfl
  · exact h.gd c hc
  · exact hx
theorem shut_small {N : NetP} {a : Nat} {x : Int × Int} (h : Small N) : Small (shutN N a x) := by
  refine ⟨by show (N.cs.set a [x]).length ≤ _; rw [List.length_set]; exact h.cn, fun c hc => ?_, h.ln, h.lw⟩
  rcases List.mem_or_eq_of_mem_set hc with hc | rfl
  · exact h.cw c hc
  · simp
theorem shut_far {N : NetP} {a : Nat} {x : Int × Int} (h : OkN N) (h' : OkN (shutN N a x)) (ha : a < N.cs.length) {i k : Nat} (hi : i < N.cs.length) (hk : k < N.cs.length) : farC N i k ≤ farC (shutN N a x) i k := by
  have hl : (shutN N a x).cs.length = N.cs.length := List.length_set
  have h1 := clD_is h' (s := i) (by rw [hl]; exact hi)
  have h0 := plainE_ok h'
  rw [hl] at h1 h0
  refine lab_more h0 h1 (clD_is h hi) (fun e he => ?_) hk
  obtain ⟨y, hy, hp, rfl⟩ := plainE_mem.1 he
  exact plainE_mem.2 ⟨y, hy, (shut_plain ha hp).1, rfl⟩
theorem more_short {N : NetP} {a b : Nat} {long : Int} (h' : OkN (addL N (newLk a b long))) (ha : a < N.cs.length) (hb : b < N.cs.length) (h1 : 1 ≤ long) (h2 : long ≤ 1099511627776) (ca : (clA N (a : Int)).length = 0) (cb : (clA N (b : Int)).length = 0) : farC (addL N (newLk a b long)) a b ≤ long := by
  have hD := clD_is h' (s := a) ha
  have he : ((a : Int), (b : Int), long) ∈ plainE (addL N (newLk a b long)) := plainE_mem.2 ⟨newLk a b long, List.mem_append_right _ (List.mem_singleton.2 rfl), plainB_iff.2 ⟨rfl, rfl, ca, cb⟩, rfl⟩
  have := hD.rel _ he a b 0 _ rfl rfl hD.s0 (lab_get (by rw [hD.len]; exact hb)) (by simp only; omega)
  simp only at this
  show lab _ _ ≤ _
  omega
theorem one_of {α : Type} {L : List α} {x : α} (h : ∀ y ∈ L, y = x) (hm : x ∈ L) (hn : L.Pairwise fun a b => a ≠ b) : L = [x] := by
  cases L with
  | nil => cases hm
  | cons y t =>
    have e := h y (by simp)
    subst e
    cases t with
    | nil => rfl
    | cons z r =>
      have e2 := h z (by simp)
      exact absurd e2.symm ((List.pairwise_cons.1 hn).1 z (by simp))
theorem shut_row {N : NetP} {a : Nat} {x : Int × Int} (h' : OkN (shutN N a x)) (ha : a < N.cs.length) : nearS (clD (shutN N a x) a) N.cs.length = [(0, (a : Int))] := by
  have hl : (shutN N a x).cs.length = N.cs.length := List.length_set
  have hD := clD_is h' (s := a) (by rw [hl]; exact ha)
  rw [hl] at hD
  have hfar : ∀ (k i : Nat) (v : Int), v.toNat ≤ k → i ≠ a → (clD (shutN N a x) a)[i]? = some v → ¬ v ≤ 1099511627776 := by
    intro k
    induction k with
    | zero =>
      intro i v hk hi hv hle
      obtain ⟨e, he, e2, p, u, e1, hp, hsum⟩ := hD.sup i v hi hv hle
      have hlo := (plainE_ok h' e he).2.2.2.2.2.1
      have := hD.rng p u hp
      omega
    | succ j ih =>
      intro i v hk hi hv hle
      obtain ⟨e, he, e2, p, u, e1, hp, hsum⟩ := hD.sup i v hi hv hle
      have hlo := (plainE_ok h' e he).2.2.2.2.2.1
      have := hD.rng p u hp
      obtain ⟨l, hlm, hpl, rfl⟩ := plainE_mem.1 he
      have hna := (shut_plain ha hpl).2.1
      simp only [edgeL] at e1
      exact ih p u (by omega) (by omega) hp (by omega)
  have hmem : ∀ y ∈ itemsTo (clD (shutN N a x) a) N.cs.length, y = (0, (a : Int)) := fun y hy => by
    obtain ⟨s, hs, hne, rfl⟩ := itemsTo_mem.1 hy
    by_cases hsa : s = a
    · subst hsa; rw [lab_at hD.s0]
    · have hg := lab_get (D := clD (shutN N a x) a) (s := s) (by rw [hD.len]; exact hs)
      rcases hD.rng s _ hg with h1 | h1
      · exact absurd h1 hne
      · exact absurd h1.2 (hfar _ s _ (Nat.le_refl _) hsa hg)
  have hin : ((0, (a : Int)) : It) ∈ itemsTo (clD (shutN N a x) a) N.cs.length := itemsTo_mem.2 ⟨a, ha, by rw [lab_at hD.s0]; decide, by rw [lab_at hD.s0]⟩
  have hnd := itemsTo_nd (clD (shutN N a x) a) N.cs.length
  have hone := one_of hmem hin ((List.pairwise_map.1 hnd).imp fun {p q} h e => h (congrArg Prod.snd e))
  unfold nearS
  rw [hone]
  exact (srt_unique (List.Perm.refl _) (List.pairwise_singleton _ _)).symm
/-- one element of a row of one's own written -/
theorem own_set1 {w : World} {base : Nat} {e : TypeId} {A : Option Addr} {n c k : Nat} {xs : List Value} (u : Value) (h : w.ownsRow base e 1 (.slice A n c) n xs) (hk : k < n) :
    ∃ g cur, A = some ⟨g, 0, none⟩ ∧ base ≤ g ∧ w.heap[g]? = some (.cells cur e (0, 0)) ∧ w.frozen? ⟨g, k, none⟩ = false ∧ w.cell? ⟨g, k, none⟩ = xs[k]? ∧ (w.setCell ⟨g, k, none⟩ u).ownsRow base e 1 (.slice A n c) n (xs.set k u) := by
  obtain ⟨hl, h2⟩ := h
  rcases h2 with ⟨_, h0⟩ | ⟨g, cap, cur, hv, hb, hh, hnc, hcm, hcs, htk⟩
  · omega
  · cases hv
    have hlt := (Array.getElem?_eq_some_iff.1 hh).1
    have e' : w.heap[g] = .cells cur e (0, 0) := (Array.getElem?_eq_some_iff.1 hh).2
    refine ⟨g, cur, rfl, hb, hh, by simp [World.frozen?, hh], ?_, by rw [List.length_set]; exact hl, .inr ⟨g, c, cur.setIfInBounds k u, rfl, hb, ?_, hnc, hcm, by simpa using hcs, ?_⟩⟩
    · rw [cell_of_row _ _ _ _ _ _ hh, ← htk, List.getElem?_take, if_pos (by omega), Array.getElem?_toList]
    · simp [World.setCell, hlt, Array.getElem_modify, e']
    · rw [← htk, Array.toList_setIfInBounds, List.take_set]
theorem flat_rwE (cv : List RwV) (k : Nat) (y : RwV) : (cv.flatMap rwE).set k (slV y.2 y.1.length) = (cv.set k y).flatMap rwE := by
  induction cv generalizing k with
  | nil => rfl
  | cons x t ih =>
    cases k with
    | zero => rfl
    | succ j =>
      rw [List.set_cons_succ, List.flatMap_cons, List.flatMap_cons, ← ih j]
      rfl
/-- a row of windows put in another's place -/
theorem CsV.put {w : World} {base k : Nat} {A : Option Addr} {n c : Nat} {cs : List W.Row} {cv : List RwV} (h : CsV w base (.slice A n c) cs cv) (hn : cs.length = n) (y : RwV) (hy : OwnR w base y.2 y.1) (hk : k < n) :
    ∃ g cur, A = some ⟨g, 0, none⟩ ∧ base ≤ g ∧ w.heap[g]? = some (.cells cur 36 (0, 0)) ∧ w.frozen? ⟨g, k, none⟩ = false ∧ (∃ z, w.cell? ⟨g, k, none⟩ = some (slV z.2 z.1.length) ∧ z ∈ cv) ∧ CsV (w.setCell ⟨g, k, none⟩ (slV y.2 y.1.length)) base (.slice A n c) (cs.set k y.1) (cv.set k y) := by
  have hr := h.row
  rw [hn] at hr
  obtain ⟨g, cur, e1, e2, e3, e4, e5, e6⟩ := own_set1 (slV y.2 y.1.length) hr hk
  have hlen := h.len
  have hkc : k < cv.length := by omega
  have hKT : KeepT w (w.setCell ⟨g, k, none⟩ (slV y.2 y.1.length)) [70] := KeepT.set e3 (by decide)
  refine ⟨g, cur, e1, e2, e3, e4, ⟨cv[k], ?_, List.getElem_mem _⟩, by rw [List.map_set, h.fst], ?_, fun x hx => ?_⟩
  · rw [e5]
    have := flatMap_at rwE_len cv k cv[k] (List.getElem?_eq_getElem hkc) 0 _ rfl
    rwa [Nat.mul_one, Nat.add_zero] at this
  · rw [List.length_set, hn, ← flat_rwE]; exact e6
  · rcases List.mem_or_eq_of_mem_set hx with hx | rfl
    · exact (h.inn x hx).keepT hKT (by simp)
    · exact hy.keepT hKT (by simp)
end Go.Proofs.Ytonkkibnigdfbaa
