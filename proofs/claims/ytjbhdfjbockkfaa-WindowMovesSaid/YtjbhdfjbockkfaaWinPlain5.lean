/-
  Plain laws: windows moved by so many ticks.
-/
import Derived.Test.YtjbhdfjbockkfaaWinPlain4
import Derived.Test.YtjbhdfjbockkfaaWinPlain2
namespace Go.Proofs.Ytjbhdfjbockkfaa
open W
def shift (d : Int) (l : Row) : Row := l.map fun p => (p.1 + d, p.2 + d)
theorem shift_cons (d : Int) (p : Int × Int) (l : Row) : shift d (p :: l) = (p.1 + d, p.2 + d) :: shift d l := rfl
theorem shift_append (d : Int) (l r : Row) : shift d (l ++ r) = shift d l ++ shift d r := List.map_append
theorem shift_len (d : Int) (l : Row) : (shift d l).length = l.length := List.length_map _
theorem shift_at (d : Int) (l : Row) (i : Nat) : (shift d l)[i]? = (l[i]?).map fun p => (p.1 + d, p.2 + d) := List.getElem?_map
theorem shift_drop (d : Int) (l : Row) (k : Nat) : (shift d l).drop k = shift d (l.drop k) := (List.map_drop).symm
theorem eachL_shift (f v n d : Int) (m : Nat) : eachL (f + d) v n m = shift d (eachL f v n m) := by
  unfold eachL shift
  rw [List.map_map]
  refine List.map_congr_left fun i _ => ?_
  simp only [Function.comp, Prod.mk.injEq]
  constructor <;> omega
theorem joinStep_shift (d : Int) (acc : Row) (w : Int × Int) : joinStep (shift d acc) (w.1 + d, w.2 + d) = shift d (joinStep acc w) := by
  rcases List.eq_nil_or_concat acc with rfl | ⟨i, ⟨a, b⟩, rfl⟩
  · rfl
  · rw [List.concat_eq_append, shift_append]
    show joinStep (shift d i ++ [(a + d, b + d)]) (w.1 + d, w.2 + d) = _
    by_cases h : w.1 ≤ b
    · rw [joinStep_in i (a, b) w h, joinStep_in (shift d i) (a + d, b + d) (w.1 + d, w.2 + d) (by simp only; omega), shift_append]
      show _ = shift d i ++ [(a + d, max b w.2 + d)]
      simp only [List.append_cancel_left_eq, List.cons.injEq, Prod.mk.injEq, and_true, true_and]
      omega
    · rw [joinStep_out i (a, b) w (by simp only; omega), joinStep_out (shift d i) (a + d, b + d) (w.1 + d, w.2 + d) (by simp only; omega), shift_append, shift_append]
      rfl
theorem joinF_shift (d : Int) : ∀ (l acc : Row), (shift d l).foldl joinStep (shift d acc) = shift d (l.foldl joinStep acc) := by
  intro l
  induction l with
  | nil => intro acc; rfl
  | cons w r ih => intro acc; rw [shift_cons, List.foldl_cons, List.foldl_cons, joinStep_shift, ih]
theorem joinL_shift (d : Int) (l : Row) : joinL (shift d l) = shift d (joinL l) := joinF_shift d l []
theorem count_shift {f v h d : Int} (h0 : 0 ≤ f ∧ f ≤ 549755813888) (h1 : 0 ≤ h ∧ h ≤ 549755813888) (h2 : 0 ≤ d ∧ d ≤ 549755813888) : W.count (f + d) v (h + d) = W.count f v h := by
  unfold W.count
  rw [W.chk_ok (x := f + d) (by omega), W.chk_ok (x := f) (by omega), W.chk_ok (x := h + d) (by omega), W.chk_ok (x := h) (by omega)]
  rw [show h + d - (f + d) = h - f by omega]
  by_cases hle : f ≤ h
  · have : f + d ≤ h + d := by omega
    simp only [hle, this]
  · have : ¬ f + d ≤ h + d := by omega
    simp only [hle, this]
theorem chkT_shift {f v n d : Int} (h0 : 0 ≤ f ∧ f ≤ 549755813888) (h2 : 0 ≤ d ∧ d ≤ 549755813888) : W.chkT (f + d) v n = W.chkT f v n := by
  unfold W.chkT
  rw [W.chk_ok (x := f + d) (by omega), W.chk_ok (x := f) (by omega)]
theorem winsM_shift {f v n h d : Int} (h0 : 0 ≤ f ∧ f ≤ 549755813888) (h1 : 0 ≤ h ∧ h ≤ 549755813888) (h2 : 0 ≤ d ∧ d ≤ 549755813888) :
    winsM (f + d) v n (h + d) = (shift d (winsM f v n h).1, (winsM f v n h).2) := by
  unfold winsM
  rw [chkT_shift h0 h2, count_shift h0 h1 h2, W.chk_ok (x := h + d) (by omega), W.chk_ok (x := h) (by omega), eachL_shift, joinL_shift]
  by_cases c1 : W.chkT f v n ≠ 0
  · rw [if_pos c1, if_pos c1]; rfl
  · rw [if_neg c1, if_neg c1]
    simp only [ne_eq, not_true_eq_false, if_false]
    by_cases c2 : 256 < W.count f v h
    · rw [if_pos c2, if_pos c2]; rfl
    · rw [if_neg c2, if_neg c2]
theorem sumF_shift (d : Int) : ∀ l : Row, sumF (shift d l) = sumF l := by
  intro l
  induction l with
  | nil => rfl
  | cons q r ih => obtain ⟨a, b⟩ := q; rw [shift_cons]; simp only [sumF, ih]; omega
theorem bh_shift (d x : Int) : ∀ l : Row, bh (shift d l) (x + d) = bh l x := by
  intro l
  induction l with
  | nil => rfl
  | cons q r ih =>
    obtain ⟨a, b⟩ := q
    rw [shift_cons]
    unfold bh
    by_cases h : b ≤ x
    · rw [if_pos h, if_pos (by simp only; omega), ih]
    · rw [if_neg h, if_neg (by simp only; omega)]
theorem nextF_shift (d x : Int) (l : Row) : (nextF l x = inf ∧ bh l x = l.length ∧ nextF (shift d l) (x + d) = inf) ∨ ∃ a b, l[bh l x]? = some (a, b) ∧ nextF l x = max x a ∧ nextF (shift d l) (x + d) = max x a + d := by
  unfold nextF
  rw [bh_shift, shift_drop]
  rcases Nat.lt_or_ge (bh l x) l.length with h | h
  · right
    obtain ⟨⟨a, b⟩, hp⟩ : ∃ p, l[bh l x]? = some p := ⟨_, List.getElem?_eq_getElem h⟩
    refine ⟨a, b, hp, ?_, ?_⟩
    all_goals
      rw [show l.drop (bh l x) = (a, b) :: l.drop (bh l x + 1) from by
        obtain ⟨hlt, he⟩ := List.getElem?_eq_some_iff.1 hp
        rw [← he]; exact List.drop_eq_getElem_cons hlt]
    simp only [shift_cons]
    omega
  · left
    rw [List.drop_eq_nil_of_le h]
    have := bh_le l x
    exact ⟨rfl, by omega, rfl⟩
theorem gapF_shift (d n : Int) : ∀ (l : Row) (x : Int), gapF n (x + d) (shift d l) = gapF n x l + d := by
  intro l
  induction l with
  | nil => intro x; rfl
  | cons q r ih =>
    obtain ⟨a, b⟩ := q
    intro x
    rw [shift_cons]
    unfold gapF
    by_cases h : x + n ≤ a
    · rw [if_pos h, if_pos (by simp only; omega)]
    · rw [if_neg h, if_neg (by simp only; omega), ih]
theorem inRow_shift (d : Int) (l : Row) (y : Int) : inRow (shift d l) (y + d) ↔ inRow l y := by
  constructor
  · rintro ⟨i, a, b, h, h1, h2⟩
    rw [shift_at] at h
    obtain ⟨⟨a', b'⟩, h', he⟩ := Option.map_eq_some_iff.1 h
    cases he
    exact ⟨i, a', b', h', by omega, by omega⟩
  · rintro ⟨i, a, b, h, h1, h2⟩
    exact ⟨i, a + d, b + d, by rw [shift_at, h]; rfl, by omega, by omega⟩
/-- what a moved row tells -/
theorem moved {l : Row} {d x n : Int} (hg : W.good l = true) (hg' : W.good (shift d l) = true) (hd : 0 ≤ d ∧ d ≤ 549755813888) (hx : 0 ≤ x ∧ x ≤ 549755813888) (hn : 0 ≤ n ∧ n ≤ 549755813888) :
    W.sum (shift d l) = W.sum l ∧ W.has (shift d l) (x + d) = W.has l x ∧
    ((W.next l x = W.inf ∧ W.next (shift d l) (x + d) = W.inf) ∨ (W.next l x ≤ 2199023255552 ∧ 0 ≤ W.next l x ∧ W.next (shift d l) (x + d) = W.next l x + d)) ∧
    W.gap (shift d l) (x + d) n = W.gap l x n + d ∧ 0 ≤ W.gap l x n ∧ W.gap l x n ≤ 4398046511104 := by
  have a1 : asked l x = true := asked_of hg (by omega)
  have a2 : asked (shift d l) (x + d) = true := asked_of hg' (by omega)
  refine ⟨by rw [W.sum_good hg, W.sum_good hg', sumF_shift], ?_, ?_, ?_⟩
  · rw [Bool.eq_iff_iff, W.has_iff hg (by omega), W.has_iff hg' (by omega), inRow_shift]
  · rw [W.next_eq hg (by omega), W.next_eq hg' (by omega)]
    rcases nextF_shift d x l with ⟨h1, _, h2⟩ | ⟨a, b, h1, h2, h3⟩
    · exact .inl ⟨h1, h2⟩
    · have := W.goodF_bounds l _ hg _ a b h1
      right
      rw [h2, h3]
      omega
  · unfold W.gap
    rw [a1, a2, W.chk_ok (x := n) (by omega)]
    simp only [and_self, if_true]
    by_cases hn0 : n = 0
    · rw [if_pos hn0, if_pos hn0]; omega
    · rw [if_neg hn0, if_neg hn0, bh_shift, shift_drop, gapF_shift]
      have hgs := W.gap_spec hg (x := x) (n := n) (by omega) (by omega)
      unfold W.gap at hgs
      rw [a1, W.chk_ok (x := n) (by omega)] at hgs
      simp only [and_self, if_true, if_neg hn0] at hgs
      obtain ⟨g1, _, _, g2⟩ := hgs
      exact ⟨rfl, by omega, by omega⟩
end Go.Proofs.Ytjbhdfjbockkfaa
