/-
  Plain laws: what is told of the least pairs.
-/
import Derived.Test.YtibeoiphjkgekaaGreatBagLen
namespace Go.Proofs.YtibeoiphjkgekaaGreat
namespace K
def inf : Int := 4611686018427387904
def bestStep (n : Int) (b : Int) (p : P2) : Int := if may2 p = true ∧ p.2 ≤ n then min b p.1 else b
def bestF (n : Int) (l : List P2) : Int := l.foldl (bestStep n) inf
theorem bestF_snoc (n : Int) (l : List P2) (p : P2) : bestF n (l ++ [p]) = bestStep n (bestF n l) p := by unfold bestF; rw [List.foldl_append]; rfl
def ofF (d : Int) (l : List P2) : List P3 := l.map fun p => (d, p.1, p.2)
def behindF (t : Int) (l : List P3) : List P2 := (l.filter fun x => may3 x && decide (t ≤ x.1)).map fun x => x.2
theorem behindF_len (t : Int) (l : List P3) : (behindF t l).length ≤ l.length := by unfold behindF; rw [List.length_map]; exact List.length_filter_le _ _
theorem behindF_snoc (t : Int) (l : List P3) (x : P3) : behindF t (l ++ [x]) = behindF t l ++ (if may3 x && decide (t ≤ x.1) then [x.2] else []) := by
  unfold behindF
  rw [List.filter_append, List.map_append]
  congr 1
  by_cases h : (may3 x && decide (t ≤ x.1)) = true
  · rw [if_pos h]; simp [List.filter_cons, h]
  · rw [if_neg h]; simp [List.filter_cons, h]
theorem L2_is (l : List P2) : IsLeast may2 beats2 lt2 l (L2 l) := least_is ords2 l
theorem L3_is (l : List P3) : IsLeast may3 beats3 lt3 l (L3 l) := least_is ords3 l
theorem L2_mem {l : List P2} {x : P2} : x ∈ L2 l ↔ Min may2 beats2 l x := (L2_is l).2 x
theorem L3_mem {l : List P3} {x : P3} : x ∈ L3 l ↔ Min may3 beats3 l x := (L3_is l).2 x
theorem may2_iff {p : P2} : may2 p = true ↔ 0 ≤ p.1 ∧ p.1 ≤ 1099511627776 ∧ 0 ≤ p.2 ∧ p.2 ≤ 16 := by unfold may2; rw [decide_eq_true_eq]
theorem may3_iff {t : P3} : may3 t = true ↔ (0 ≤ t.1 ∧ t.1 ≤ 1099511627776 ∧ t.1 ≤ t.2.1) ∧ may2 t.2 = true := by unfold may3; rw [Bool.and_eq_true, decide_eq_true_eq]
theorem L2_next (l : List P2) (i : Nat) (a b : P2) (ha : (L2 l)[i]? = some a) (hb : (L2 l)[i + 1]? = some b) : a.2 < b.2 ∧ b.1 < a.1 := by
  obtain ⟨h1, ha⟩ := List.getElem?_eq_some_iff.1 ha
  obtain ⟨h2, hb⟩ := List.getElem?_eq_some_iff.1 hb
  have hs := (L2_is l).1
  unfold Srt at hs
  rw [List.pairwise_iff_getElem] at hs
  have h3 := hs i (i + 1) h1 h2 (by omega)
  rw [ha, hb, lt2_iff] at h3
  have ma := L2_mem.1 (ha ▸ List.getElem_mem h1 : a ∈ L2 l)
  have mb := L2_mem.1 (hb ▸ List.getElem_mem h2 : b ∈ L2 l)
  have h4 := mb.2.2 a ma.1 ma.2.1
  have h5 : ¬ (a.1 ≤ b.1 ∧ a.2 ≤ b.2 ∧ (a.1 ≠ b.1 ∨ a.2 ≠ b.2)) := fun h => by rw [beats2_iff.2 h] at h4; cases h4
  omega
theorem bestF_le (n : Int) : ∀ (l : List P2) (b : Int), (∀ p ∈ l, may2 p = true → p.2 ≤ n → l.foldl (bestStep n) b ≤ p.1) ∧ l.foldl (bestStep n) b ≤ b
  | [], b => ⟨fun p hp => by simp at hp, Int.le_refl _⟩
  | q :: r, b => by
    obtain ⟨h1, h2⟩ := bestF_le n r (bestStep n b q)
    rw [List.foldl_cons]
    have h3 : bestStep n b q ≤ b := by unfold bestStep; split <;> omega
    refine ⟨fun p hp hm hn => ?_, by omega⟩
    rcases List.mem_cons.1 hp with e | e
    · subst e
      have : bestStep n b p ≤ p.1 := by unfold bestStep; rw [if_pos ⟨hm, hn⟩]; omega
      omega
    · exact h1 p e hm hn
theorem bestF_at (n : Int) : ∀ (l : List P2) (b : Int), l.foldl (bestStep n) b = b ∨ ∃ p ∈ l, may2 p = true ∧ p.2 ≤ n ∧ l.foldl (bestStep n) b = p.1
  | [], b => .inl rfl
  | q :: r, b => by
    rw [List.foldl_cons]
    rcases bestF_at n r (bestStep n b q) with h | ⟨p, h1, h2, h3, h4⟩
    · rw [h]
      unfold bestStep
      split
      · rename_i hc
        by_cases hbq : b ≤ q.1
        · left; omega
        · right; exact ⟨q, List.mem_cons_self, hc.1, hc.2, by omega⟩
      · exact .inl rfl
    · exact .inr ⟨p, List.mem_cons_of_mem _ h1, h2, h3, h4⟩
theorem best_L2 (n : Int) (l : List P2) : bestF n (L2 l) = bestF n l := by
  unfold bestF
  have a1 := (bestF_le n l inf)
  have a2 := (bestF_le n (L2 l) inf)
  refine Int.le_antisymm ?_ ?_
  · rcases bestF_at n l inf with h | ⟨p, h1, h2, h3, h4⟩
    · rw [h]; exact a2.2
    · rw [h4]
      obtain ⟨q, hq, hle⟩ := min_below ords2 l _ p (Nat.le_refl _) h1 h2
      have hqm := L2_mem.2 hq
      rcases hle with e | e
      · subst e; exact a2.1 q hqm h2 h3
      · rw [beats2_iff] at e
        have := a2.1 q hqm hq.2.1 (by omega)
        omega
  · rcases bestF_at n (L2 l) inf with h | ⟨p, h1, h2, h3, h4⟩
    · rw [h]; exact a1.2
    · rw [h4]; exact a1.1 p (L2_mem.1 h1).1 h2 h3
theorem L2_self (l : List P2) : L2 (L2 l) = L2 l := by
  refine (isLeast_eq ords2 ⟨(L2_is l).1, fun x => ?_⟩ : L2 l = least may2 beats2 lt2 (L2 l)).symm
  constructor
  · intro hx
    have := L2_mem.1 hx
    exact ⟨hx, this.2.1, fun y hy hm => this.2.2 y (L2_mem.1 hy).1 hm⟩
  · exact fun h => h.1
theorem L3_self (l : List P3) : L3 (L3 l) = L3 l := by
  refine (isLeast_eq ords3 ⟨(L3_is l).1, fun x => ?_⟩ : L3 l = least may3 beats3 lt3 (L3 l)).symm
  constructor
  · intro hx
    have := L3_mem.1 hx
    exact ⟨hx, this.2.1, fun y hy hm => this.2.2 y (L3_mem.1 hy).1 hm⟩
  · exact fun h => h.1
theorem L3_of {d : Int} {l : List P2} (hd : 0 ≤ d ∧ d ≤ 1099511627776) (hl : ∀ p ∈ L2 l, d ≤ p.1) : L3 (ofF d (L2 l)) = ofF d (L2 l) := by
  refine (isLeast_eq ords3 ⟨?_, fun x => ?_⟩ : ofF d (L2 l) = least may3 beats3 lt3 (ofF d (L2 l))).symm
  · unfold Srt ofF
    rw [List.pairwise_map]
    refine (L2_is l).1.imp fun {a b} h => ?_
    rw [lt3_iff]
    rw [lt2_iff] at h
    exact .inr ⟨rfl, h⟩
  · constructor
    · intro hx
      refine ⟨hx, ?_, fun y hy _ => ?_⟩
      · unfold ofF at hx
        obtain ⟨p, hp, rfl⟩ := List.mem_map.1 hx
        exact may3_iff.2 ⟨⟨hd.1, hd.2, hl p hp⟩, (L2_mem.1 hp).2.1⟩
      · unfold ofF at hx hy
        obtain ⟨p, hp, rfl⟩ := List.mem_map.1 hx
        obtain ⟨q, hq, rfl⟩ := List.mem_map.1 hy
        refine bfalse beats3_iff fun h => ?_
        have := (L2_mem.1 hp).2.2 q (L2_mem.1 hq).1 (L2_mem.1 hq).2.1
        rw [beats2_iff.2 ⟨h.2.1, h.2.2.1, by simpa using h.2.2.2⟩] at this
        cases this
    · exact fun h => h.1
theorem behind_of {d : Int} {l : List P2} (hd : 0 ≤ d ∧ d ≤ 1099511627776) (hl : ∀ p ∈ L2 l, d ≤ p.1) : behindF d (ofF d (L2 l)) = L2 l := by
  unfold behindF ofF
  rw [List.filter_map, List.map_map, List.filter_eq_self.2]
  · exact List.map_id' _
  · intro p hp
    simp only [Function.comp]
    rw [may3_iff.2 ⟨⟨hd.1, hd.2, hl p hp⟩, (L2_mem.1 hp).2.1⟩]
    simp
theorem behind_of' {d : Int} {l : List P2} : behindF (d + 1) (ofF d l) = [] := by
  unfold behindF ofF
  rw [List.filter_map, List.map_map, List.filter_eq_nil_iff.2]
  · rfl
  · intro p hp
    simp only [Function.comp]
    rw [show decide (d + 1 ≤ d) = false from decide_eq_false (by omega)]
    simp
end K
end Go.Proofs.YtibeoiphjkgekaaGreat
