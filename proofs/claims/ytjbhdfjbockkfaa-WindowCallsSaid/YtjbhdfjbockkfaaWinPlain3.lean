/-
  Plain laws of the window layer: two rows merged and joined; a good row is told by its ticks. No program is named here.
-/
import Derived.Test.YtjbhdfjbockkfaaWinPlain2
namespace Go.Proofs.Ytjbhdfjbockkfaa
namespace W
/-- two rows as one -/
def mergeF : Nat → Row → Row → Row
  | 0, _, _ => []
  | _ + 1, [], [] => []
  | k + 1, a :: ra, [] => a :: mergeF k ra []
  | k + 1, [], b :: rb => b :: mergeF k [] rb
  | k + 1, a :: ra, b :: rb => if a.1 ≤ b.1 then a :: mergeF k ra (b :: rb) else b :: mergeF k (a :: ra) rb
def mergeL (a b : Row) : Row := mergeF (a.length + b.length) a b
theorem mergeL_nil : mergeL [] [] = [] := rfl
theorem mergeL_a (a : Int × Int) (ra : Row) : mergeL (a :: ra) [] = a :: mergeL ra [] := rfl
theorem mergeL_b (b : Int × Int) (rb : Row) : mergeL [] (b :: rb) = b :: mergeL [] rb := by
  simp only [mergeL, List.length_nil, Nat.zero_add, List.length_cons]; rfl
theorem mergeL_le (a b : Int × Int) (ra rb : Row) (h : a.1 ≤ b.1) : mergeL (a :: ra) (b :: rb) = a :: mergeL ra (b :: rb) := by
  unfold mergeL
  rw [show (a :: ra).length + (b :: rb).length = (ra.length + (b :: rb).length) + 1 by simp; omega, mergeF, if_pos h]
theorem mergeL_gt (a b : Int × Int) (ra rb : Row) (h : ¬ a.1 ≤ b.1) : mergeL (a :: ra) (b :: rb) = b :: mergeL (a :: ra) rb := by
  unfold mergeL
  rw [show (a :: ra).length + (b :: rb).length = ((a :: ra).length + rb.length) + 1 by simp; omega, mergeF, if_neg h]
def unionM (a b : Row) : Row := if good a && good b then joinL (mergeL a b) else []
/-- each may be, and they stand by their beginnings, from p on -/
def srt : Int → Row → Prop
  | _, [] => True
  | p, (a, b) :: r => p ≤ a ∧ 0 ≤ a ∧ a < b ∧ b ≤ 2199023255552 ∧ srt a r
theorem srt_mono {p q : Int} (h : q ≤ p) : ∀ {l : Row}, srt p l → srt q l
  | [], _ => trivial
  | (_, _) :: _, ⟨h1, h2⟩ => ⟨by omega, h2⟩
theorem srt_of_good : ∀ (l : Row) (p : Int), -1 ≤ p → goodF p l = true → srt (p + 1) l := by
  intro l
  induction l with
  | nil => intro p _ _; trivial
  | cons q r ih =>
    obtain ⟨a, b⟩ := q
    intro p hp h
    obtain ⟨h1, h2, h3, h4⟩ := goodF_cons h
    exact ⟨by omega, by omega, h2, h3, srt_mono (by omega) (ih b (by omega) h4)⟩
theorem inRow_nil (y : Int) : ¬ inRow [] y := by rintro ⟨i, a, b, h, _⟩; simp at h
theorem inRow_cons (q : Int × Int) (r : Row) (y : Int) : inRow (q :: r) y ↔ (q.1 ≤ y ∧ y < q.2) ∨ inRow r y := by
  constructor
  · rintro ⟨i, a, b, h, h1, h2⟩
    cases i with
    | zero => simp at h; subst h; exact .inl ⟨h1, h2⟩
    | succ i => exact .inr ⟨i, a, b, by simpa using h, h1, h2⟩
  · rintro (⟨h1, h2⟩ | ⟨i, a, b, h, h1, h2⟩)
    · exact ⟨0, q.1, q.2, by simp, h1, h2⟩
    · exact ⟨i + 1, a, b, by simpa using h, h1, h2⟩
theorem inRow_append (l r : Row) (y : Int) : inRow (l ++ r) y ↔ inRow l y ∨ inRow r y := by
  induction l with
  | nil => simp [inRow_nil]
  | cons q l ih => rw [List.cons_append, inRow_cons, inRow_cons, ih]; exact or_assoc.symm
theorem merge_facts : ∀ (k : Nat) (a b : Row) (p : Int), a.length + b.length = k → srt p a → srt p b →
    srt p (mergeL a b) ∧ (∀ y, inRow (mergeL a b) y ↔ inRow a y ∨ inRow b y) ∧ sumF (mergeL a b) = sumF a + sumF b ∧ (mergeL a b).length = a.length + b.length := by
  intro k
  induction k with
  | zero =>
    intro a b p h _ _
    obtain rfl := List.eq_nil_of_length_eq_zero (show a.length = 0 by omega)
    obtain rfl := List.eq_nil_of_length_eq_zero (show b.length = 0 by omega)
    exact ⟨trivial, fun y => by simp [mergeL_nil, inRow_nil], rfl, rfl⟩
  | succ k ih =>
    intro a b p h ha hb
    match a, b with
    | [], [] => simp at h
    | (a1, a2) :: ra, [] =>
      obtain ⟨g1, g2, g3, g4, g5⟩ := ha
      obtain ⟨i1, i2, i3, i4⟩ := ih ra [] a1 (by simp at h ⊢; omega) g5 trivial
      rw [mergeL_a]
      exact ⟨⟨g1, g2, g3, g4, i1⟩, fun y => by rw [inRow_cons, inRow_cons, i2 y, or_assoc], by simp only [sumF]; rw [i3]; simp only [sumF]; omega, by simp only [List.length_cons, i4]; omega⟩
    | [], (b1, b2) :: rb =>
      obtain ⟨g1, g2, g3, g4, g5⟩ := hb
      obtain ⟨i1, i2, i3, i4⟩ := ih [] rb b1 (by simp at h ⊢; omega) trivial g5
      rw [mergeL_b]
      exact ⟨⟨g1, g2, g3, g4, i1⟩, fun y => by rw [inRow_cons, inRow_cons, i2 y]; simp [inRow_nil], by simp only [sumF]; rw [i3]; simp only [sumF]; omega, by simp only [List.length_cons, i4]; simp⟩
    | (a1, a2) :: ra, (b1, b2) :: rb =>
      obtain ⟨g1, g2, g3, g4, g5⟩ := ha
      obtain ⟨h1, h2, h3, h4, h5⟩ := hb
      by_cases hle : a1 ≤ b1
      · obtain ⟨i1, i2, i3, i4⟩ := ih ra ((b1, b2) :: rb) a1 (by simp at h ⊢; omega) g5 ⟨hle, h2, h3, h4, h5⟩
        rw [mergeL_le _ _ _ _ hle]
        exact ⟨⟨g1, g2, g3, g4, i1⟩, fun y => by rw [inRow_cons, inRow_cons, i2 y, or_assoc], by simp only [sumF]; rw [i3]; simp only [sumF]; omega, by simp only [List.length_cons, i4]; omega⟩
      · obtain ⟨i1, i2, i3, i4⟩ := ih ((a1, a2) :: ra) rb b1 (by simp at h ⊢; omega) ⟨by omega, g2, g3, g4, g5⟩ h5
        rw [mergeL_gt _ _ _ _ hle]
        exact ⟨⟨h1, h2, h3, h4, i1⟩, fun y => by rw [inRow_cons, inRow_cons (b1, b2), i2 y]; constructor <;> (intro h; rcases h with h | h | h <;> simp [h]), by simp only [sumF]; rw [i3]; simp only [sumF]; omega, by simp only [List.length_cons, i4]; omega⟩
/-- the end of the last window -/
def lastTo (p : Int) : Row → Int
  | [] => p
  | (_, b) :: r => lastTo b r
theorem lastTo_snoc : ∀ (i : Row) (p a b : Int), lastTo p (i ++ [(a, b)]) = b := by
  intro i
  induction i with
  | nil => intro p a b; rfl
  | cons q r ih => obtain ⟨c, d⟩ := q; intro p a b; exact ih d a b
theorem goodF_snoc : ∀ (i : Row) (p a b : Int), goodF p (i ++ [(a, b)]) = true ↔ goodF p i = true ∧ lastTo p i < a ∧ a < b ∧ b ≤ 2199023255552 := by
  intro i
  induction i with
  | nil =>
    intro p a b
    constructor
    · intro h; obtain ⟨h1, h2, h3, _⟩ := goodF_cons h; exact ⟨rfl, h1, h2, h3⟩
    · rintro ⟨_, h1, h2, h3⟩; exact goodF_yes h1 h2 h3
  | cons q r ih =>
    obtain ⟨c, d⟩ := q
    intro p a b
    constructor
    · intro h
      obtain ⟨h1, h2, h3, h4⟩ := goodF_cons h
      obtain ⟨j1, j2⟩ := (ih d a b).1 h4
      exact ⟨by rw [goodF_yes h1 h2 h3]; exact j1, j2⟩
    · rintro ⟨h, j⟩
      obtain ⟨h1, h2, h3, h4⟩ := goodF_cons h
      rw [List.cons_append, goodF_yes h1 h2 h3]
      exact (ih d a b).2 ⟨h4, j⟩
theorem sumF_append (l r : Row) : sumF (l ++ r) = sumF l + sumF r := by
  induction l with
  | nil => simp [sumF]
  | cons q l ih => obtain ⟨a, b⟩ := q; simp only [List.cons_append, sumF, ih]; omega
theorem join_facts : ∀ (l acc : Row) (p : Int), srt p l → good acc = true → (∀ i a b, acc = i ++ [(a, b)] → a ≤ p) →
    good (l.foldl joinStep acc) = true ∧ (∀ y, inRow (l.foldl joinStep acc) y ↔ inRow acc y ∨ inRow l y) ∧ sumF (l.foldl joinStep acc) ≤ sumF acc + sumF l := by
  intro l
  induction l with
  | nil => intro acc p _ hg _; exact ⟨hg, fun y => by simp [inRow_nil], by simp [sumF]⟩
  | cons w r ih =>
    obtain ⟨c, d⟩ := w
    intro acc p ⟨s1, s2, s3, s4, s5⟩ hg hl
    simp only [List.foldl_cons]
    rcases List.eq_nil_or_concat acc with rfl | ⟨i, ⟨a, b⟩, rfl⟩
    · rw [joinStep_nil]
      obtain ⟨i1, i2, i3⟩ := ih [(c, d)] c s5 (by unfold good; rw [goodF_yes (by omega) s3 s4]; rfl) (fun i a b h => by
        have := congrArg List.getLast? h; simp at this; omega)
      exact ⟨i1, fun y => by rw [i2 y, inRow_cons, inRow_cons]; simp [inRow_nil], by simp only [sumF] at i3 ⊢; omega⟩
    · rw [List.concat_eq_append] at hg hl ⊢
      have ha := hl i a b rfl
      obtain ⟨j1, j2, j3, j4⟩ := (goodF_snoc i (-1) a b).1 hg
      by_cases hcb : c ≤ b
      · rw [joinStep_in i (a, b) (c, d) hcb]
        obtain ⟨i1, i2, i3⟩ := ih (i ++ [(a, max b d)]) c s5 ((goodF_snoc i (-1) a _).2 ⟨j1, j2, by omega, by omega⟩) (fun i' a' b' h => by
          have := congrArg List.getLast? h; simp at this; omega)
        refine ⟨i1, fun y => ?_, ?_⟩
        · rw [i2 y, inRow_append, inRow_append, inRow_cons, inRow_cons, inRow_cons]
          simp only [inRow_nil, or_false]
          constructor
          · rintro ((h | ⟨h1, h2⟩) | h)
            · exact .inl (.inl h)
            · by_cases hy : y < b
              · exact .inl (.inr ⟨h1, hy⟩)
              · exact .inr (.inl ⟨by omega, by omega⟩)
            · exact .inr (.inr h)
          · rintro ((h | ⟨h1, h2⟩) | (⟨h1, h2⟩ | h))
            · exact .inl (.inl h)
            · exact .inl (.inr ⟨h1, by omega⟩)
            · exact .inl (.inr ⟨by omega, by omega⟩)
            · exact .inr h
        · rw [sumF_append] at i3 ⊢
          simp only [sumF] at i3 ⊢
          omega
      · rw [joinStep_out i (a, b) (c, d) (by simp only; omega)]
        obtain ⟨i1, i2, i3⟩ := ih (i ++ [(a, b)] ++ [(c, d)]) c s5 ((goodF_snoc _ (-1) c d).2 ⟨hg, by rw [lastTo_snoc]; omega, s3, s4⟩) (fun i' a' b' h => by
          have := congrArg List.getLast? h; simp at this; omega)
        refine ⟨i1, fun y => ?_, ?_⟩
        · rw [i2 y, inRow_append (i ++ [(a, b)]), inRow_cons (c, d) r, inRow_cons (c, d) []]
          simp only [inRow_nil, or_false, or_assoc]
        · rw [sumF_append] at i3
          simp only [sumF] at i3 ⊢
          omega
theorem union_facts {a b : Row} (ha : good a = true) (hb : good b = true) :
    good (unionM a b) = true ∧ (∀ y, inRow (unionM a b) y ↔ inRow a y ∨ inRow b y) ∧ sumF (unionM a b) ≤ sumF a + sumF b := by
  have e : unionM a b = joinL (mergeL a b) := by unfold unionM; rw [ha, hb]; rfl
  rw [e]
  obtain ⟨m1, m2, m3, _⟩ := merge_facts _ a b 0 rfl (srt_of_good a (-1) (by omega) ha) (srt_of_good b (-1) (by omega) hb)
  obtain ⟨j1, j2, j3⟩ := join_facts (mergeL a b) [] 0 m1 rfl (fun i a b h => by simp at h)
  exact ⟨j1, fun y => by unfold joinL; rw [j2 y, m2 y]; simp [inRow_nil], by unfold joinL; simp only [sumF] at j3; omega⟩
/-- A GOOD ROW IS TOLD BY ITS TICKS -/
theorem good_ext : ∀ (l l' : Row) (p p' : Int), goodF p l = true → goodF p' l' = true → (∀ y, inRow l y ↔ inRow l' y) → l = l' := by
  intro l
  induction l with
  | nil =>
    intro l' p p' _ h' hy
    cases l' with
    | nil => rfl
    | cons q r =>
      obtain ⟨a, b⟩ := q
      obtain ⟨_, h2, _, _⟩ := goodF_cons h'
      exact absurd ((hy a).2 ((inRow_cons _ _ _).2 (.inl ⟨Int.le_refl _, h2⟩))) (inRow_nil a)
  | cons q r ih =>
    obtain ⟨a, b⟩ := q
    intro l' p p' h h' hy
    obtain ⟨h1, h2, h3, h4⟩ := goodF_cons h
    cases l' with
    | nil => exact absurd ((hy a).1 ((inRow_cons _ _ _).2 (.inl ⟨Int.le_refl _, h2⟩))) (inRow_nil a)
    | cons q' r' =>
      obtain ⟨a', b'⟩ := q'
      obtain ⟨g1, g2, g3, g4⟩ := goodF_cons h'
      have low : ∀ (r : Row) (b y : Int), goodF b r = true → inRow r y → b < y := by
        rintro r b y hg ⟨i, c, d, hi, h5, _⟩
        have := (goodF_bounds r b hg i c d hi).1; omega
      have e1 : a' ≤ a := by
        rcases (inRow_cons _ _ _).1 ((hy a).1 ((inRow_cons _ _ _).2 (.inl ⟨Int.le_refl _, h2⟩))) with ⟨h5, _⟩ | h5
        · exact h5
        · have := low r' b' a g4 h5; omega
      have e2 : a ≤ a' := by
        rcases (inRow_cons _ _ _).1 ((hy a').2 ((inRow_cons _ _ _).2 (.inl ⟨Int.le_refl _, g2⟩))) with ⟨h5, _⟩ | h5
        · exact h5
        · have := low r b a' h4 h5; omega
      obtain rfl : a = a' := by omega
      have e3 : ¬ b < b' := fun hlt => by
        rcases (inRow_cons _ _ _).1 ((hy b).2 ((inRow_cons _ _ _).2 (.inl ⟨by simp only; omega, hlt⟩))) with ⟨_, h5⟩ | h5
        · simp only at h5; omega
        · have := low r b b h4 h5; omega
      have e4 : ¬ b' < b := fun hlt => by
        rcases (inRow_cons _ _ _).1 ((hy b').1 ((inRow_cons _ _ _).2 (.inl ⟨by simp only; omega, hlt⟩))) with ⟨_, h5⟩ | h5
        · simp only at h5; omega
        · have := low r' b' b' g4 h5; omega
      obtain rfl : b = b' := by omega
      rw [ih r' b b h4 g4 (fun y => ?_)]
      constructor
      · intro h5
        have hb := low r b y h4 h5
        rcases (inRow_cons _ _ _).1 ((hy y).1 ((inRow_cons _ _ _).2 (.inr h5))) with ⟨_, h6⟩ | h6
        · simp only at h6; omega
        · exact h6
      · intro h5
        have hb := low r' b y g4 h5
        rcases (inRow_cons _ _ _).1 ((hy y).2 ((inRow_cons _ _ _).2 (.inr h5))) with ⟨_, h6⟩ | h6
        · simp only at h6; omega
        · exact h6
/-- fewer ticks, no greater sum -/
theorem sum_le : ∀ (k : Nat) (l l' : Row) (p p' : Int), l.length + l'.length ≤ k → goodF p l = true → goodF p' l' = true → (∀ y, inRow l y → inRow l' y) → sumF l ≤ sumF l' := by
  intro k
  induction k with
  | zero =>
    intro l l' p p' h _ _ _
    obtain rfl := List.eq_nil_of_length_eq_zero (show l.length = 0 by omega)
    obtain rfl := List.eq_nil_of_length_eq_zero (show l'.length = 0 by omega)
    exact Int.le_refl _
  | succ k ih =>
    intro l l' p p' hk hl hl' hy
    have nonneg : ∀ (r : Row) (p : Int), goodF p r = true → 0 ≤ sumF r := by
      intro r
      induction r with
      | nil => intro p _; exact Int.le_refl _
      | cons q r ih => obtain ⟨a, b⟩ := q; intro p h; obtain ⟨_, h2, _, h4⟩ := goodF_cons h; have := ih b h4; simp only [sumF]; omega
    have low : ∀ (r : Row) (b y : Int), goodF b r = true → inRow r y → b < y := by
      rintro r b y hg ⟨i, c, d, hi, h5, _⟩
      have := (goodF_bounds r b hg i c d hi).1; omega
    match l with
    | [] => exact nonneg l' p' hl'
    | (a, b) :: r =>
      obtain ⟨h1, h2, h3, h4⟩ := goodF_cons hl
      match l' with
      | [] => exact absurd (hy a ((inRow_cons _ _ _).2 (.inl ⟨Int.le_refl _, h2⟩))) (inRow_nil a)
      | (c, d) :: r' =>
        obtain ⟨g1, g2, g3, g4⟩ := goodF_cons hl'
        by_cases hda : d ≤ a
        · have := ih ((a, b) :: r) r' p d (by simp at hk ⊢; omega) hl g4 (fun y h => by
            have hay : a ≤ y := by
              rcases (inRow_cons _ _ _).1 h with ⟨h5, _⟩ | h5
              · exact h5
              · have := low r b y h4 h5; omega
            rcases (inRow_cons _ _ _).1 (hy y h) with ⟨_, h6⟩ | h6
            · simp only at h6; omega
            · exact h6)
          simp only [sumF] at this ⊢; omega
        · -- a lies in the window c, d; so does all up to b
          have hca : c ≤ a := by
            rcases (inRow_cons _ _ _).1 (hy a ((inRow_cons _ _ _).2 (.inl ⟨Int.le_refl _, h2⟩))) with ⟨h5, _⟩ | h5
            · exact h5
            · have := low r' d a g4 h5; omega
          have hbd : b ≤ d := by
            rcases Int.lt_or_le d b with hlt | hge
            · exfalso
              rcases (inRow_cons _ _ _).1 (hy d ((inRow_cons _ _ _).2 (.inl ⟨by simp only; omega, hlt⟩))) with ⟨_, h5⟩ | h5
              · simp only at h5; omega
              · have := low r' d d g4 h5; omega
            · exact hge
          by_cases hbeq : b = d
          · subst hbeq
            have := ih r r' b b (by simp at hk ⊢; omega) h4 g4 (fun y h => by
              have hb := low r b y h4 h
              rcases (inRow_cons _ _ _).1 (hy y ((inRow_cons _ _ _).2 (.inr h))) with ⟨_, h6⟩ | h6
              · simp only at h6; omega
              · exact h6)
            simp only [sumF]; omega
          · have := ih r ((b, d) :: r') b (b - 1) (by simp at hk ⊢; omega) h4 (by rw [goodF_yes (by omega) (by omega) g3]; exact g4) (fun y h => by
              have hb := low r b y h4 h
              rcases (inRow_cons _ _ _).1 (hy y ((inRow_cons _ _ _).2 (.inr h))) with ⟨_, h6⟩ | h6
              · exact (inRow_cons _ _ _).2 (.inl ⟨by simp only; omega, h6⟩)
              · exact (inRow_cons _ _ _).2 (.inr h6))
            simp only [sumF] at this ⊢; omega
theorem sum_good {l : Row} (h : good l = true) : sum l = sumF l := by unfold sum; rw [h]; rfl
theorem sum_mono {l l' : Row} (h : good l = true) (h' : good l' = true) (hy : ∀ y, inRow l y → inRow l' y) : sum l ≤ sum l' := by
  rw [sum_good h, sum_good h']; exact sum_le _ l l' _ _ (Nat.le_refl _) h h' hy
theorem union_assoc {a b c : Row} (ha : good a = true) (hb : good b = true) (hc : good c = true) : unionM (unionM a b) c = unionM a (unionM b c) := by
  obtain ⟨g1, t1, _⟩ := union_facts ha hb
  obtain ⟨g2, t2, _⟩ := union_facts hb hc
  obtain ⟨g3, t3, _⟩ := union_facts g1 hc
  obtain ⟨g4, t4, _⟩ := union_facts ha g2
  exact good_ext _ _ _ _ g3 g4 (fun y => by rw [t3, t1, t4, t2, or_assoc])
theorem union_comm {a b : Row} (ha : good a = true) (hb : good b = true) : unionM a b = unionM b a := by
  obtain ⟨g1, t1, _⟩ := union_facts ha hb
  obtain ⟨g2, t2, _⟩ := union_facts hb ha
  exact good_ext _ _ _ _ g1 g2 (fun y => by rw [t1, t2, or_comm])
theorem union_of {a b : Row} (ha : good a = true) (hb : good b = true) (h : ∀ y, inRow b y → inRow a y) : unionM a b = a := by
  obtain ⟨g1, t1, _⟩ := union_facts ha hb
  exact good_ext _ _ _ _ g1 ha (fun y => by rw [t1]; exact ⟨fun h' => h'.elim id (h y), .inl⟩)
end W
end Go.Proofs.Ytjbhdfjbockkfaa
