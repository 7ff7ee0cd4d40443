/-
  Plain law: a trail read forward: from a stop whose label was handed in, link by link.
-/
import Derived.Test.YtonkkibnigdfbaaViaLaw
namespace Go.Proofs.Ytonkkibnigdfbaa
set_option linter.unusedVariables false
set_option linter.unusedSimpArgs false
inductive Fw (N : NetP) (D : List Int) : Nat → List (Int × Int) → Nat → Prop
  | done {u : Nat} : Fw N D u [] u
  | step {u b i s : Nat} {f : Int} {l : Lk} {r : List (Int × Int)} : N.ls[i]? = some l → l.a = (u : Int) → l.b = (b : Int) → 0 ≤ lab D u → lab D u ≤ f → mayL N l f = true → f + l.len = lab D b → f + l.len ≤ N.hz → Fw N D b r s → Fw N D u (((i : Int), f) :: r) s
theorem Fw.snoc {N : NetP} {D : List Int} {u a b i : Nat} {f : Int} {l : Lk} {r : List (Int × Int)} (h : Fw N D u r a) (h1 : N.ls[i]? = some l) (h2 : l.a = (a : Int)) (h3 : l.b = (b : Int)) (h4 : 0 ≤ lab D a) (h5 : lab D a ≤ f) (h6 : mayL N l f = true) (h7 : f + l.len = lab D b) (h8 : f + l.len ≤ N.hz) : Fw N D u (r ++ [((i : Int), f)]) b := by
  induction h with
  | done => exact .step h1 h2 h3 h4 h5 h6 h7 h8 .done
  | step k1 k2 k3 k4 k5 k6 k7 k8 _ ih => exact .step k1 k2 k3 k4 k5 k6 k7 k8 (ih h2 h4 h5)
theorem Tr.lt {N : NetP} {V : List (Int × Int)} {s : Nat} {r : List (Int × Int)} (h : Tr N V s r) : s < V.length := by
  cases h with
  | stop h1 _ => exact (List.getElem?_eq_some_iff.1 h1).1
  | step h1 _ _ => exact (List.getElem?_eq_some_iff.1 h1).1
section
variable {N : NetP} {X D : List Int}
theorem Tr.fw (hN : OkN N) (hS : Spr N X D) (hX : LabsOk N X) {s : Nat} {r : List (Int × Int)} (h : Tr N (viasL N X D) s r) : ∃ u, Fw N D u r.reverse s ∧ lab D u = lab X u := by
  induction h with
  | @stop s x h1 h2 =>
    have hs : s < D.length := by have := (List.getElem?_eq_some_iff.1 h1).1; rwa [viasL_len] at this
    rw [viasL_at N X D hs] at h1
    have hv := Option.some.inj h1
    rcases via_law hN hS hX hs with ⟨_, h3⟩ | ⟨i, l, f, h3, _⟩
    · exact ⟨s, .done, h3⟩
    · rw [hv] at h3
      have := congrArg Prod.fst h3
      simp only at this
      omega
  | @step s i f l r h1 h2 h3 ih =>
    have hs : s < D.length := by have := (List.getElem?_eq_some_iff.1 h1).1; rwa [viasL_len] at this
    rw [viasL_at N X D hs] at h1
    have hv := Option.some.inj h1
    obtain ⟨u, hu, hu2⟩ := ih
    refine ⟨u, ?_, hu2⟩
    rw [List.reverse_cons]
    rcases via_law hN hS hX hs with ⟨h4, _⟩ | ⟨i', l', f', h4, h5, h6, h7, h8, h9, h10, h11, h12, _⟩
    · rw [hv] at h4
      have := congrArg Prod.fst h4
      simp only at this
      omega
    · rw [hv] at h4
      obtain ⟨e1, e2⟩ := Prod.mk.inj h4
      obtain rfl : i = i' := by omega
      subst e2
      rw [h2] at h5; cases h5
      have hla := (okL_iff.1 (hN.lk l (List.mem_of_getElem? h2))).1.1
      exact hu.snoc h2 (by rw [Int.toNat_of_nonneg hla]) h6 h8 h9 h10 h11 h12
theorem filter_lt {α : Type} (p q : α → Bool) (hpq : ∀ x, p x = true → q x = true) : ∀ (l : List α) (x : α), x ∈ l → p x = false → q x = true → (l.filter p).length + 1 ≤ (l.filter q).length
  | y :: l, x, hx, hp, hq => by
    have key : ∀ l : List α, (l.filter p).length ≤ (l.filter q).length := fun l => by
      induction l with
      | nil => simp
      | cons y l ih =>
        simp only [List.filter_cons]
        cases h1 : p y with
        | true => rw [hpq y h1]; simp; exact ih
        | false => cases q y <;> simp <;> omega
    rcases List.mem_cons.1 hx with rfl | hx
    · simp only [List.filter_cons, hp, hq]
      have := key l
      simp
      exact this
    · have := filter_lt p q hpq l x hx hp hq
      simp only [List.filter_cons]
      cases h1 : p y with
      | true => rw [hpq y h1]; simp; omega
      | false => cases q y <;> simp <;> omega
theorem Tr.count (hN : OkN N) (hS : Spr N X D) (hX : LabsOk N X) {s : Nat} {r : List (Int × Int)} (h : Tr N (viasL N X D) s r) : r.length + 1 ≤ ((List.range D.length).filter fun x => decide (lab D x ≤ lab D s)).length := by
  induction h with
  | @stop s x h1 h2 =>
    have hs : s < D.length := by have := (List.getElem?_eq_some_iff.1 h1).1; rwa [viasL_len] at this
    have : s ∈ ((List.range D.length).filter fun x => decide (lab D x ≤ lab D s)) := List.mem_filter.2 ⟨List.mem_range.2 hs, by simp⟩
    exact List.length_pos_of_mem this
  | @step s i f l r h1 h2 h3 ih =>
    have hs : s < D.length := by have := (List.getElem?_eq_some_iff.1 h1).1; rwa [viasL_len] at this
    rw [viasL_at N X D hs] at h1
    have hv := Option.some.inj h1
    rcases via_law hN hS hX hs with ⟨h4, _⟩ | ⟨i', l', f', h4, h5, h6, h7, h8, h9, h10, h11, h12, h13, _⟩
    · rw [hv] at h4
      have := congrArg Prod.fst h4
      simp only at this
      omega
    · rw [hv] at h4
      obtain ⟨e1, e2⟩ := Prod.mk.inj h4
      obtain rfl : i = i' := by omega
      rw [h2] at h5; cases h5
      have := filter_lt (fun x => decide (lab D x ≤ lab D l.a.toNat)) (fun x => decide (lab D x ≤ lab D s)) (fun x hx => by simp only [decide_eq_true_eq] at hx ⊢; omega) (List.range D.length) s (List.mem_range.2 hs) (by simp only [decide_eq_false_iff_not]; omega) (by simp)
      simp only [List.length_cons]
      omega
theorem Tr.short (hN : OkN N) (hS : Spr N X D) (hX : LabsOk N X) {s : Nat} {r : List (Int × Int)} (h : Tr N (viasL N X D) s r) : r.length ≤ D.length := by
  have h1 := h.count hN hS hX
  have h2 := List.length_filter_le (fun x => decide (lab D x ≤ lab D s)) (List.range D.length)
  rw [List.length_range] at h2
  omega
end
end Go.Proofs.Ytonkkibnigdfbaa
