/-
  Plain: how many are nearer; with small lengths all is near; lengths so many times as great.
-/
import Derived.Test.YtapfndjaimfcaaaWkD
namespace Go.Proofs.Ytapfndjaimfcaaa
open K
set_option linter.unusedVariables false
set_option linter.unusedSimpArgs false
theorem chk_of {n : Nat} {l : List Ed} (hl : EdsOk n l) (hm : l.length ≤ 4096) (hn : n ≤ 256) : chkE (n : Int) l = 0 := by
  unfold chkE
  rw [if_neg (by omega), if_neg]
  rintro (h | h | h)
  · omega
  · omega
  · obtain ⟨e, he, hk⟩ := List.any_eq_true.1 h
    have : okE (n : Int) e = true := okE_iff.2 (hl e he)
    rw [this] at hk
    cases hk
def rank (d : List Int) (v : Int) : Nat := d.countP fun u => decide (u < v)
theorem rank_mono {d : List Int} {u v : Int} (h : u ≤ v) : rank d u ≤ rank d v := List.countP_mono_left fun x _ hx => by
  simp only [decide_eq_true_eq] at hx ⊢
  omega
theorem rank_lt {u v : Int} (h : u < v) : ∀ {d : List Int}, u ∈ d → rank d u < rank d v
  | [], hu => by cases hu
  | y :: r, hu => by
    unfold rank
    rw [List.countP_cons, List.countP_cons]
    have hm : r.countP (fun x => decide (x < u)) ≤ r.countP (fun x => decide (x < v)) := rank_mono (d := r) (by omega)
    rcases List.mem_cons.1 hu with rfl | hu
    · rw [if_neg (by simp), if_pos (by simpa using h)]
      omega
    · have ih : r.countP (fun x => decide (x < u)) < r.countP (fun x => decide (x < v)) := rank_lt h hu
      by_cases h1 : y < u
      · rw [if_pos (by simpa using h1), if_pos (by simp; omega)]
        omega
      · rw [if_neg (by simpa using h1)]
        split <;> omega
theorem rank_len {d : List Int} {v : Int} (h : v ∈ d) : rank d v < d.length :=
  Nat.lt_of_lt_of_le (rank_lt (show v < v + 1 by omega) h) List.countP_le_length
/-- with lengths of at most M all is within M for each that is nearer -/
theorem IsDist.small {n : Nat} {l : List Ed} {s : Nat} {d : List Int} {M : Nat} (h : IsDist n l s d) (hl : EdsOk n l) (hM : ∀ e ∈ l, e.2.2 ≤ (M : Int)) : ∀ (k i : Nat) (v : Int), v.toNat ≤ k → d[i]? = some v → v ≤ 1099511627776 → v ≤ (M : Int) * (rank d v : Int)
  | k, i, v, hk, hv, hvt => by
    by_cases hi : i = s
    · subst hi
      rw [h.s0] at hv; cases hv
      exact Int.mul_nonneg (by omega) (by omega)
    · obtain ⟨e, he, e2, p, u, e1, hp, hs⟩ := h.sup i v hi hv hvt
      have hlo := (hl e he).2.2.2.2.2.1
      have hu0 := h.rng p u hp
      have ih := IsDist.small h hl hM (k - 1) p u (by omega) hp (by omega)
      have hr := rank_lt (show u < v by omega) (List.mem_of_getElem? hp)
      have hme := hM e he
      have h1 : (M : Int) * ((rank d u : Int) + 1) ≤ (M : Int) * (rank d v : Int) := Int.mul_le_mul_of_nonneg_left (by omega) (by omega)
      rw [Int.mul_add, Int.mul_one] at h1
      omega
termination_by k => k
decreasing_by omega
theorem IsDist.near {n : Nat} {l : List Ed} {s : Nat} {d : List Int} {M : Nat} (h : IsDist n l s d) (hl : EdsOk n l) (hM : ∀ e ∈ l, e.2.2 ≤ (M : Int)) {i : Nat} {v : Int} (hv : d[i]? = some v) (hvt : v ≤ 1099511627776) : v ≤ (M : Int) * (n : Int) := by
  have h1 := h.small hl hM _ i v (Nat.le_refl _) hv hvt
  have h2 := rank_len (List.mem_of_getElem? hv)
  rw [h.len] at h2
  have h3 : (M : Int) * (rank d v : Int) ≤ (M : Int) * (n : Int) := Int.mul_le_mul_of_nonneg_left (by omega) (by omega)
  omega
def scE (k : Int) (e : Ed) : Ed := (e.1, e.2.1, e.2.2 * k)
def scV (k : Int) (v : Int) : Int := if v = 4611686018427387904 then 4611686018427387904 else v * k
theorem scV_inf (k : Int) : scV k 4611686018427387904 = 4611686018427387904 := if_pos rfl
theorem scV_fin {k v : Int} (h : v ≠ 4611686018427387904) : scV k v = v * k := if_neg h
theorem mul_bound {v k a b : Int} (h0 : 0 ≤ v) (h1 : v ≤ a) (h2 : 0 ≤ k) (h3 : k ≤ b) : 0 ≤ v * k ∧ v * k ≤ a * b := ⟨Int.mul_nonneg h0 h2, Int.mul_le_mul h1 h3 h2 (by omega)⟩
section
variable {n s : Nat} {l : List Ed} {d : List Int} {k : Int}
/-- what is so far is at most 60000 -/
theorem IsDist.sixty (h : IsDist n l s d) (hl : EdsOk n l) (hn : n ≤ 60) (hM : ∀ e ∈ l, e.2.2 ≤ 1000) {i : Nat} {v : Int} (hv : d[i]? = some v) : v = 4611686018427387904 ∨ (0 ≤ v ∧ v ≤ 60000) := by
  rcases h.rng i v hv with h1 | h1
  · exact .inl h1
  · have := h.near (M := 1000) hl (by simpa using hM) hv h1.2
    exact .inr ⟨h1.1, by simp at this; omega⟩
theorem eds_sc (hl : EdsOk n l) (hM : ∀ e ∈ l, e.2.2 ≤ 1000) (hk : 1 ≤ k ∧ k ≤ 100) : EdsOk n (l.map (scE k)) := fun e he => by
  obtain ⟨e0, he0, rfl⟩ := List.mem_map.1 he
  obtain ⟨h1, h2, h3, h4, h5, h6, h7⟩ := hl e0 he0
  have := mul_bound (by omega : 0 ≤ e0.2.2) (hM e0 he0) (by omega : 0 ≤ k) hk.2
  have h8 : 1 * 1 ≤ e0.2.2 * k := Int.mul_le_mul h6 hk.1 (by omega) (by omega)
  exact ⟨h1, h2, h3, h4, h5, by show 1 ≤ e0.2.2 * k; omega, by show e0.2.2 * k ≤ 1099511627776; omega⟩
theorem IsDist.scale (h : IsDist n l s d) (hl : EdsOk n l) (hn : n ≤ 60) (hM : ∀ e ∈ l, e.2.2 ≤ 1000) (hk : 1 ≤ k ∧ k ≤ 100) : IsDist n (l.map (scE k)) s (d.map (scV k)) := by
  have key : ∀ (i : Nat) (v : Int), (d.map (scV k))[i]? = some v → ∃ u, d[i]? = some u ∧ v = scV k u := fun i v hv => by
    rw [List.getElem?_map] at hv
    cases hu : d[i]? with
    | none => rw [hu] at hv; cases hv
    | some u => rw [hu] at hv; exact ⟨u, rfl, (Option.some.inj hv).symm⟩
  refine ⟨by rw [List.length_map]; exact h.len, by rw [List.getElem?_map, h.s0]; simp [scV], fun i v hv => ?_, fun e he a b u v ea eb hu hv ht => ?_, fun i v hi hv hvt => ?_⟩
  · obtain ⟨u, hu, rfl⟩ := key i v hv
    rcases h.sixty hl hn hM hu with rfl | h1
    · exact .inl (scV_inf k)
    · rw [scV_fin (by omega)]
      have := mul_bound h1.1 h1.2 (by omega : 0 ≤ k) hk.2
      exact .inr ⟨this.1, by omega⟩
  · obtain ⟨e0, he0, rfl⟩ := List.mem_map.1 he
    obtain ⟨u0, hu0, rfl⟩ := key a u hu
    obtain ⟨v0, hv0, rfl⟩ := key b v hv
    have hb := hl e0 he0
    have hme := mul_bound (by omega : 0 ≤ e0.2.2) (hM e0 he0) (by omega : 0 ≤ k) hk.2
    have ht : scV k u0 + e0.2.2 * k ≤ 1099511627776 := ht
    show scV k v0 ≤ scV k u0 + e0.2.2 * k
    rcases h.sixty hl hn hM hu0 with rfl | h1
    · rw [scV_inf] at ht; omega
    · have hr := h.rel e0 he0 a b u0 v0 ea eb hu0 hv0 (by have := hM e0 he0; omega)
      have hM0 := hM e0 he0
      rw [scV_fin (by omega), scV_fin (by omega), ← Int.add_mul]
      exact Int.mul_le_mul_of_nonneg_right hr (by omega)
  · obtain ⟨v0, hv0, rfl⟩ := key i v hv
    have hv1 : v0 ≠ 4611686018427387904 := fun e => by subst e; rw [scV_inf] at hvt; omega
    have hv2 := (h.sixty hl hn hM hv0).resolve_left hv1
    obtain ⟨e, he, e2, p, u, e1, hp, hs⟩ := h.sup i v0 hi hv0 (by omega)
    have hlo := (hl e he).2.2.2.2.2.1
    refine ⟨scE k e, List.mem_map.2 ⟨e, he, rfl⟩, e2, p, scV k u, e1, by rw [List.getElem?_map, hp]; rfl, ?_⟩
    show scV k u + e.2.2 * k = scV k v0
    rw [scV_fin (by omega), scV_fin hv1, ← Int.add_mul, hs]
theorem idx_map {α β : Type} (p : β → Bool) (f : α → β) (l : List α) : idx p (l.map f) = idx (fun x => p (f x)) l := by
  unfold idx
  rw [List.any_map, List.findIdx_map]
  rfl
theorem idx_congr {α : Type} {p q : α → Bool} : ∀ {l : List α}, (∀ x ∈ l, p x = q x) → idx p l = idx q l := fun {l} h => by
  have e1 : l.any p = l.any q := by
    rw [Bool.eq_iff_iff, List.any_eq_true, List.any_eq_true]
    exact ⟨fun ⟨x, hx, hp⟩ => ⟨x, hx, by rw [← h x hx]; exact hp⟩, fun ⟨x, hx, hp⟩ => ⟨x, hx, by rw [h x hx]; exact hp⟩⟩
  have e2 : l.findIdx p = l.findIdx q := by
    clear e1
    induction l with
    | nil => rfl
    | cons y r ih =>
      rw [List.findIdx_cons, List.findIdx_cons, h y (List.mem_cons_self ..), ih fun x hx => h x (List.mem_cons_of_mem _ hx)]
  unfold idx
  rw [e1, e2]
theorem idx_spec {α : Type} {p : α → Bool} {l : List α} {k : Nat} {x : α} (h : idx p l = (k : Int)) (hx : l[k]? = some x) : p x = true := by
  unfold idx at h
  split at h
  · rename_i hany
    have hk : l.findIdx p = k := by omega
    subst hk
    obtain ⟨y, hy, hp⟩ := List.any_eq_true.1 hany
    have hlt : l.findIdx p < l.length := List.findIdx_lt_length.2 ⟨y, hy, hp⟩
    rw [List.getElem?_eq_getElem hlt] at hx
    cases hx
    exact List.findIdx_getElem
  · omega
theorem IsDist.get (h : IsDist n l s d) {i : Nat} (hi : i < n) : ∃ v, d[i]? = some v := ⟨d[i]'(by rw [h.len]; exact hi), List.getElem?_eq_getElem _⟩
theorem step_sc (h : IsDist n l s d) (hl : EdsOk n l) (hn : n ≤ 60) (hM : ∀ e ∈ l, e.2.2 ≤ 1000) (hk : 1 ≤ k ∧ k ≤ 100) {t : Nat} {vt : Int} (ht : d[t]? = some vt) (hvt : vt ≠ 4611686018427387904) : ∀ e ∈ l, stepP (d.map (scV k)) t (scE k e) = stepP d t e := fun e he => by
  have hb := hl e he
  obtain ⟨a, ha⟩ : ∃ a : Nat, e.1 = (a : Int) := ⟨e.1.toNat, by omega⟩
  obtain ⟨u, hu⟩ := h.get (i := a) (by omega)
  have e1 : (scE k e).1 = (a : Int) := ha
  unfold stepP
  rw [e1, ha, Int.toNat_natCast, List.getElem?_map, List.getElem?_map, hu, ht]
  simp only [Option.map_some, Option.getD_some]
  congr 1
  rw [Bool.eq_iff_iff]
  simp only [Bool.and_eq_true, decide_eq_true_eq]
  rcases h.sixty hl hn hM hu with rfl | h1
  · rw [scV_inf]
    exact ⟨fun h => absurd rfl h.1, fun h => absurd rfl h.1⟩
  · have hm := mul_bound h1.1 h1.2 (by omega : 0 ≤ k) hk.2
    rw [scV_fin (show u ≠ 4611686018427387904 by omega), scV_fin hvt]
    show (u * k ≠ 4611686018427387904 ∧ u * k + e.2.2 * k = vt * k) ↔ _
    rw [← Int.add_mul]
    exact ⟨fun h => ⟨by omega, Int.eq_of_mul_eq_mul_right (by omega) h.2⟩, fun h => ⟨by omega, by rw [h.2]⟩⟩
theorem WayTo.sc (h : IsDist n l s d) (hl : EdsOk n l) (hn : n ≤ 60) (hM : ∀ e ∈ l, e.2.2 ≤ 1000) (hk : 1 ≤ k ∧ k ≤ 100) {t : Nat} {O : List Int} (hw : WayTo l d s t O) : ∀ {vt : Int}, d[t]? = some vt → vt ≠ 4611686018427387904 → WayTo (l.map (scE k)) (d.map (scV k)) s t O := by
  induction hw with
  | nil => exact fun _ _ => .nil
  | @cons t t' j e ks hts hi hx he _ ih =>
    intro vt hvt hne
    have hp := idx_spec hi hx
    have hb := hl e (List.mem_of_getElem? hx)
    obtain ⟨u, hu⟩ := h.get (i := t') (by omega)
    have hu1 : u ≠ 4611686018427387904 := by
      unfold stepP at hp
      rw [he, Int.toNat_natCast, hu] at hp
      simp at hp
      exact hp.2.1
    refine .cons (e := scE k e) hts ?_ (by rw [List.getElem?_map, hx]; rfl) he (ih hu hu1)
    rw [idx_map, idx_congr (step_sc h hl hn hM hk hvt hne)]
    exact hi
end
end Go.Proofs.Ytapfndjaimfcaaa
