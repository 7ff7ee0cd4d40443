/-
  An owned row, sorted by the library: what the sort asks, and what it leaves, in the words of owned rows.
-/
import Derived.Test.YtonkkibnigdfbaaSpS
import Derived.Shelf.GgSortFunc.InsertionK
namespace Go.Proofs.Ytonkkibnigdfbaa
namespace B
open Go.RowKit Go.Sort
theorem flatMap_get {α : Type} [Inhabited α] {enc : α → List Value} {k : Nat} (hk : ∀ x, (enc x).length = k) (k0 : 0 < k) {l : List α} {j : Nat} (hj : j < l.length * k) : (l.flatMap enc)[j]? = some ((enc (l.toArray[j / k]!))[j % k]!) := by
  have hl : j / k < l.length := Nat.div_lt_of_lt_mul (by rw [Nat.mul_comm]; exact hj)
  have hm : j % k < k := Nat.mod_lt _ k0
  have hx : l[j / k]? = some l[j / k] := List.getElem?_eq_getElem hl
  have hy : (enc l[j / k])[j % k]? = some ((enc l[j / k])[j % k]'(by rw [hk]; exact hm)) := List.getElem?_eq_getElem (by rw [hk]; exact hm)
  have := flatMap_at hk l _ _ hx _ _ hy
  rw [show j / k * k + j % k = j by rw [Nat.mul_comm]; exact Nat.div_add_mod j k] at this
  rw [this]
  have e1 : l.toArray[j / k]! = l[j / k] := by rw [getElem!_pos _ _ (by simpa using hl)]; simp
  rw [e1, getElem!_pos _ _ (by rw [hk]; exact hm)]
theorem holdsK_of_own {α : Type} [Inhabited α] {enc : α → List Value} {k : Nat} (hk : ∀ x, (enc x).length = k) (k0 : 0 < k) {w : World} {base : Nat} {e : TypeId} {g c : Nat} {l : List α} (h : w.ownsRow base e k (.slice (some ⟨g, 0, none⟩) l.length c) l.length (l.flatMap enc)) :
    HoldsK enc k w g 0 l.toArray := by
  intro j hj
  rw [size_flatK] at hj
  have hj' : j < l.length * k := by simpa using hj
  rw [get_flatK _ _ _ _ hj, Nat.zero_add]
  refine ⟨?_, h.frozenAt j⟩
  rw [h.cellAt j hj', flatMap_get hk k0 hj']
  rfl
theorem own_sorted {α : Type} [Inhabited α] {enc : α → List Value} {k : Nat} (hk : ∀ x, (enc x).length = k) (k0 : 0 < k) {w : World} {base : Nat} {e : TypeId} {g c n : Nat} {xs : List Value} (h : w.ownsRow base e k (.slice (some ⟨g, 0, none⟩) n c) n xs) (m : Nat) (d : List α) (hd : d.length = n) (os : Array Obj) :
    (sortWorldK enc k w g 0 m d.toArray os).ownsRow base e k (.slice (some ⟨g, 0, none⟩) n c) n (d.flatMap enc) ∧ w.grownBy (sortWorldK enc k w g 0 m d.toArray os) (some g) := by
  have hlt := (h.lt g rfl).2
  have hflat : (d.flatMap enc).length = n * k := by
    rw [← hd]
    clear hd h
    induction d with
    | nil => simp
    | cons x r ih => rw [List.flatMap_cons, List.length_append, hk, ih, List.length_cons, Nat.succ_mul]; omega
  have hsize : (putRowK enc k (Sort.ahead w m) g 0 d.toArray).heap.size = w.heap.size := by
    show (Array.modify w.heap g _).size = _
    simp
  constructor
  · rcases h.2 with ⟨h', _⟩ | ⟨g', cap', cur, h', hb, hg, hnc, hcm, hcs, htake⟩
    · simp at h'
    · simp only [Value.slice.injEq, Option.some.injEq, Addr.mk.injEq, and_true, true_and] at h'
      obtain ⟨rfl, rfl⟩ := h'
      refine ⟨hflat, .inr ⟨g, c, putCells id 0 (flatK enc k d.toArray) cur, rfl, hb, ?_, hnc, hcm, ?_, ?_⟩⟩
      · show (Array.modify w.heap g _ ++ os)[g]? = _
        rw [Array.getElem?_append_left (by simpa using hlt), Array.getElem?_modify, if_pos rfl, hg]
        rfl
      · unfold putCells; simpa using hcs
      · refine List.ext_getElem? fun j => ?_
        rw [List.getElem?_take]
        by_cases hj : j < n * k
        · rw [if_pos hj, flatMap_get hk k0 (by rw [hd]; exact hj)]
          have hjc : j < cur.size := by rw [hcs]; exact Nat.lt_of_lt_of_le hj (Nat.mul_le_mul_right _ hnc)
          unfold putCells
          rw [Array.getElem?_toList, Array.getElem?_mapIdx, Array.getElem?_eq_getElem hjc]
          simp only [Option.map_some]
          rw [if_pos ⟨Nat.zero_le _, by rw [size_flatK]; simpa [hd] using hj⟩, Nat.sub_zero, get_flatK _ _ _ _ (by simpa [hd] using hj)]
          rfl
        · rw [if_neg hj, List.getElem?_eq_none (by rw [hflat]; omega)]
  · refine ⟨rfl, rfl, rfl, ?_, fun i hi hne => ?_⟩
    · show w.heap.size ≤ (Array.modify w.heap g _ ++ os).size
      simp
    · show (Array.modify w.heap g _ ++ os)[i]? = _
      rw [Array.getElem?_append_left (by simpa using hi), Array.getElem?_modify, if_neg (fun e => hne (by rw [e]))]
end B
end Go.Proofs.Ytonkkibnigdfbaa
