/-
  A row appended to a row of the call's own, whatever its source: nil, empty or not.
-/
import Derived.Test.YtibeoiphjkgekaaGreatMem2
namespace Go.Proofs.YtibeoiphjkgekaaGreat
namespace B
open Go.RowKit
theorem Rd.src {α : Type} {w : World} {size n : Nat} {enc : α → List Value} {A : Option Addr} {l : List α} (h : Rd w size enc A n l) (hes : ∀ x, (enc x).length = size) (hsz : 0 < size) {a : Addr} (hA : A = some a) :
    ∀ j u, (l.flatMap enc)[j]? = some u → w.cell? (a.add j) = some u := by
  intro j u hu
  have hlen : (l.flatMap enc).length = l.length * size := by
    clear h hu
    induction l with
    | nil => simp
    | cons x r ih => rw [List.flatMap_cons, List.length_append, hes, ih, List.length_cons, Nat.succ_mul]; omega
  have hj : j < l.length * size := by
    obtain ⟨hj, _⟩ := List.getElem?_eq_some_iff.1 hu
    omega
  have hl : j / size < l.length := Nat.div_lt_of_lt_mul (by rw [Nat.mul_comm]; exact hj)
  have hn : 0 < n := by have := h.len; have := Nat.zero_le (j / size); rw [← h.len]; exact Nat.lt_of_le_of_lt this hl
  obtain ⟨b, o, e, hb, hc⟩ := h.cells hn
  rw [hA] at e; cases e
  have hmod : j % size < size := Nat.mod_lt _ hsz
  have hx := List.getElem?_eq_getElem hl
  have hy : (enc l[j / size])[j % size]? = some ((enc l[j / size])[j % size]'(by rw [hes]; exact hmod)) := List.getElem?_eq_getElem (by rw [hes]; exact hmod)
  have e1 := flatMap_at hes l _ _ hx _ _ hy
  have hdm : j / size * size + j % size = j := by rw [Nat.mul_comm]; exact Nat.div_add_mod j size
  rw [hdm, hu] at e1
  cases e1
  have := hc _ _ hx _ _ hy
  rw [show o + j / size * size + j % size = o + j by omega] at this
  unfold Addr.add; split
  · rename_i h0; subst h0; simpa using this
  · exact this
theorem run_append_none {P : Program} {t e : TypeId} {i : TypeInfo} {base size : Nat} (ht : P.underlying t = some (.slice e)) (hi : P.info? e = some i) (w : World)
    (v : Value) (n : Nat) (xs : List Value) (hown : w.ownsRow base e size v n xs) (c : Nat) : (Builtin.append_ #[t, t] t #[v, .slice none 0 c]).run P w = .ok v w := by
  rcases hown.2 with ⟨rfl, rfl⟩ | ⟨g, cap, cur, rfl, _, _, hnc, _⟩
  · simp [Builtin.append_, run_underlying ht, sizeOf, typeInfo, hi, Builtin.lenOf, Builtin.firstCells]
  · simp [Builtin.append_, run_underlying ht, sizeOf, typeInfo, hi, Builtin.lenOf, Builtin.firstCells, hnc, storeCells]
/-- the run of append(v, src...) -/
theorem own_append {α : Type} {P : Program} {enc : α → List Value} {t e : TypeId} {z : Value} {size bytes : Nat} (ht : P.underlying t = some (.slice e))
    (hi : (P.info? e).map (fun i => (i.zero, i.size, i.bytes)) = some (some z, size, bytes)) (hzs : z.cells.size = size) (hsz : 0 < size) (hes : ∀ x, (enc x).length = size) (h1 : ∀ x, ∀ u ∈ enc x, u.oneCell' = true)
    {base : Nat} {w : World} {v : Value} {l r : List α} {A : Option Addr} {m : Nat} (c : Nat) (hown : w.ownsRow base e size v l.length (l.flatMap enc)) (hr : Rd w size enc A m r) (hlen : l.length + m ≤ 1099511627776) (hby : bytes ≤ 127) (hB : base ≤ w.heap.size) :
    ∃ v' w1, (Builtin.append_ #[t, t] t #[v, .slice A m c]).run P w = .ok v' w1 ∧ w1.ownsRow base e size v' (l.length + m) ((l ++ r).flatMap enc) ∧ w.grownBy w1 v.ownBlock ∧ (v'.ownBlock = v.ownBlock ∨ v'.ownBlock = some w.heap.size) := by
  obtain ⟨i, hi, hz0, hz1, hz2⟩ := info_parts hi
  have hflat : (r.flatMap enc).length = m * size := by
    rw [← hr.len]
    clear hr hlen
    induction r with
    | nil => simp
    | cons x r ih => rw [List.flatMap_cons, List.length_append, hes, ih, List.length_cons, Nat.succ_mul]; omega
  rcases A with _ | a
  · have hm : m = 0 := by
      rcases Nat.eq_zero_or_pos m with h0 | h0
      · exact h0
      · obtain ⟨b, o, h, _⟩ := hr.cells h0
        cases h
    subst hm
    obtain rfl : r = [] := List.eq_nil_of_length_eq_zero hr.len
    exact ⟨v, w, run_append_none ht hi w v _ _ hown c, by simpa using hown, World.grownBy.refl w _, .inl rfl⟩
  · obtain ⟨v', w', hrun, h2, h3, _, h5⟩ := run_append_own_at (P := P) w base t t e i z size bytes ht hi hz0 hz1 hz2 hzs hsz v l.length _ hown a m c (r.flatMap enc) hflat (hr.src hes hsz rfl)
      (fun u hu => by obtain ⟨x, _, hx⟩ := List.mem_flatMap.1 hu; exact h1 x u hx) (by rw [maxLen_num]; omega) (Nat.le_trans (Nat.mul_le_mul hlen hby) (by decide)) hB
    exact ⟨v', w', hrun, by rw [List.flatMap_append]; exact h2, h3, h5⟩
/-- a row that a literal of no elements makes -/
theorem own_lit0 (w : World) (base : Nat) (e : TypeId) (size : Nat) (hb : base ≤ w.heap.size) : (w.alloc (.cells #[] e)).ownsRow base e size (.slice (some ⟨w.heap.size, 0, none⟩) 0 0) 0 [] :=
  World.ownsRow_made w #[] 0 hb (Nat.zero_le _) (by simp)
end B
end Go.Proofs.YtibeoiphjkgekaaGreat
