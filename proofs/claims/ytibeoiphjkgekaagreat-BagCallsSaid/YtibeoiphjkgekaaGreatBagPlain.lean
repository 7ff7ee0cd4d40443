/-
  Plain laws: the least of things under a strict order, each once, in order. No program is named here.
-/
import Derived.Lib.Hide
namespace Go.Proofs.YtibeoiphjkgekaaGreat
namespace K
section
variable {α : Type} [DecidableEq α]
/-- an order to be beaten by, and one to be told by -/
structure Ords (beats lt : α → α → Bool) : Prop where
  irr : ∀ a, beats a a = false
  tr : ∀ a b c, beats a b = true → beats b c = true → beats a c = true
  lirr : ∀ a, lt a a = false
  ltr : ∀ a b c, lt a b = true → lt b c = true → lt a c = true
  conn : ∀ a b, lt a b = true ∨ a = b ∨ lt b a = true
variable (may : α → Bool) (beats lt : α → α → Bool)
def Min (l : List α) (x : α) : Prop := x ∈ l ∧ may x = true ∧ ∀ y ∈ l, may y = true → beats y x = false
def Srt (l : List α) : Prop := l.Pairwise fun a b => lt a b = true
def IsLeast (l k : List α) : Prop := Srt lt k ∧ ∀ x, x ∈ k ↔ Min may beats l x
def ins (x : α) : List α → List α
  | [] => [x]
  | y :: r => if lt x y then x :: y :: r else if x = y then y :: r else y :: ins x r
def isort : List α → List α
  | [] => []
  | x :: r => ins lt x (isort r)
def minB (l : List α) (x : α) : Bool := may x && l.all fun y => !(may y && beats y x)
/-- the least of a list -/
def least (l : List α) : List α := isort lt (l.filter (minB may beats l))
/-- what the program goes through -/
def leastF (kept : List α) : List α → List α
  | [] => kept
  | x :: r => if !may x || kept.any (fun o => o == x || beats o x) then leastF kept r else leastF (kept.filter (fun o => !beats x o) ++ [x]) r
variable {may beats lt}
end
section
variable {α : Type} {may : α → Bool} {beats lt : α → α → Bool}
theorem minB_iff {l : List α} {x : α} : x ∈ l.filter (minB may beats l) ↔ Min may beats l x := by
  rw [List.mem_filter]
  unfold minB Min
  simp only [Bool.and_eq_true, List.all_eq_true, Bool.not_eq_true', Bool.and_eq_false_iff]
  constructor
  · rintro ⟨h1, h2, h3⟩
    refine ⟨h1, h2, fun y hy hm => ?_⟩
    rcases h3 y hy with h | h
    · rw [hm] at h; cases h
    · exact h
  · rintro ⟨h1, h2, h3⟩
    refine ⟨h1, h2, fun y hy => ?_⟩
    cases hm : may y with
    | false => exact .inl rfl
    | true => exact .inr (h3 y hy hm)
end
section
variable {α : Type} [DecidableEq α] {may : α → Bool} {beats lt : α → α → Bool}
theorem mem_ins {x y : α} {l : List α} : y ∈ ins lt x l ↔ y = x ∨ y ∈ l := by
  induction l with
  | nil => simp [ins]
  | cons z r ih =>
    unfold ins
    split
    · simp
    · split
      · rename_i h; subst h; simp
      · rw [List.mem_cons, ih, List.mem_cons]
        constructor
        · rintro (h | h | h) <;> simp [h]
        · rintro (h | h | h) <;> simp [h]
theorem srt_ins (O : Ords beats lt) {x : α} : ∀ {l : List α}, Srt lt l → Srt lt (ins lt x l)
  | [], _ => by simp [ins, Srt]
  | z :: r, h => by
    unfold ins
    have h' := h
    unfold Srt at h
    rw [List.pairwise_cons] at h
    split
    · rename_i hx
      unfold Srt
      rw [List.pairwise_cons]
      refine ⟨fun y hy => ?_, h'⟩
      rcases List.mem_cons.1 hy with e | e
      · subst e; exact hx
      · exact O.ltr _ _ _ hx (h.1 y e)
    · split
      · exact h'
      · rename_i h1 h2
        unfold Srt
        rw [List.pairwise_cons]
        refine ⟨fun y hy => ?_, srt_ins O h.2⟩
        rcases mem_ins.1 hy with e | e
        · subst e
          rcases O.conn z y with h | h | h
          · exact h
          · exact absurd h.symm h2
          · exact absurd h h1
        · exact h.1 y e
theorem mem_isort {y : α} {l : List α} : y ∈ isort lt l ↔ y ∈ l := by
  induction l with
  | nil => simp [isort]
  | cons x r ih => rw [isort, mem_ins, ih, List.mem_cons]
theorem srt_isort (O : Ords beats lt) : ∀ l : List α, Srt lt (isort lt l)
  | [] => by simp [isort, Srt]
  | x :: r => srt_ins O (srt_isort O r)
theorem least_is (O : Ords beats lt) (l : List α) : IsLeast may beats lt l (least may beats lt l) :=
  ⟨srt_isort O _, fun x => by unfold least; rw [mem_isort]; exact minB_iff⟩
end
section
variable {α : Type} {may : α → Bool} {beats lt : α → α → Bool}
theorem srt_ext (O : Ords beats lt) : ∀ {k k' : List α}, Srt lt k → Srt lt k' → (∀ x, x ∈ k ↔ x ∈ k') → k = k'
  | [], [], _, _, _ => rfl
  | [], y :: s, _, _, h => absurd ((h y).2 List.mem_cons_self) (by simp)
  | x :: r, [], _, _, h => absurd ((h x).1 List.mem_cons_self) (by simp)
  | x :: r, y :: s, h1, h2, h => by
    unfold Srt at h1 h2
    rw [List.pairwise_cons] at h1 h2
    have e : x = y := by
      rcases List.mem_cons.1 ((h x).1 List.mem_cons_self) with e | e
      · exact e
      · rcases List.mem_cons.1 ((h y).2 List.mem_cons_self) with e' | e'
        · exact e'.symm
        · have := O.ltr _ _ _ (h1.1 y e') (h2.1 x e)
          rw [O.lirr] at this; cases this
    subst e
    have : r = s := srt_ext O h1.2 h2.2 fun z => by
      constructor
      · intro hz
        rcases List.mem_cons.1 ((h z).1 (List.mem_cons_of_mem _ hz)) with e | e
        · subst e; have := h1.1 z hz; rw [O.lirr] at this; cases this
        · exact e
      · intro hz
        rcases List.mem_cons.1 ((h z).2 (List.mem_cons_of_mem _ hz)) with e | e
        · subst e; have := h2.1 z hz; rw [O.lirr] at this; cases this
        · exact e
    rw [this]
end
section
variable {α : Type} [DecidableEq α] {may : α → Bool} {beats lt : α → α → Bool}
theorem isLeast_eq (O : Ords beats lt) {l k : List α} (h : IsLeast may beats lt l k) : k = least may beats lt l :=
  srt_ext O h.1 (least_is O l).1 fun x => (h.2 x).trans ((least_is O l).2 x).symm
end
section
variable {α : Type} {may : α → Bool} {beats lt : α → α → Bool}
theorem min_below (O : Ords beats lt) (l : List α) : ∀ (n : Nat) (x : α), (l.filter fun y => may y && beats y x).length ≤ n → x ∈ l → may x = true → ∃ m, Min may beats l m ∧ (m = x ∨ beats m x = true) := by
  intro n
  induction n with
  | zero =>
    intro x hn hx hm
    refine ⟨x, ⟨hx, hm, fun y hy hmy => ?_⟩, .inl rfl⟩
    have e : l.filter (fun y => may y && beats y x) = [] := List.eq_nil_of_length_eq_zero (by omega)
    rw [List.filter_eq_nil_iff] at e
    have := e y hy
    rw [hmy] at this
    simpa using this
  | succ n ih =>
    intro x hn hx hm
    by_cases h : ∃ y ∈ l, may y = true ∧ beats y x = true
    · obtain ⟨y, hy, hmy, hb⟩ := h
      have hlt : (l.filter fun z => may z && beats z y).length < (l.filter fun z => may z && beats z x).length := by
        have hsub : l.filter (fun z => may z && beats z y) = (l.filter fun z => may z && beats z x).filter fun z => beats z y := by
          rw [List.filter_filter]
          refine List.filter_congr fun z _ => ?_
          cases h1 : may z <;> cases h2 : beats z y <;> simp
          exact O.tr _ _ _ h2 hb
        rw [hsub]
        have hmem : y ∈ l.filter fun z => may z && beats z x := List.mem_filter.2 ⟨hy, by rw [hmy, hb]; rfl⟩
        refine Nat.lt_of_le_of_ne (List.length_filter_le _ _) fun e => ?_
        have := List.length_filter_eq_length_iff.1 e y hmem
        rw [O.irr] at this; cases this
      obtain ⟨m, h1, h2⟩ := ih y (by omega) hy hmy
      refine ⟨m, h1, .inr ?_⟩
      rcases h2 with e | e
      · subst e; exact hb
      · exact O.tr _ _ _ e hb
    · refine ⟨x, ⟨hx, hm, fun y hy hmy => ?_⟩, .inl rfl⟩
      cases hb : beats y x with
      | false => rfl
      | true => exact absurd ⟨y, hy, hmy, hb⟩ h
end
section
variable {α : Type} [DecidableEq α] {may : α → Bool} {beats lt : α → α → Bool}
theorem leastF_step (O : Ords beats lt) : ∀ (r p kept : List α), kept.Nodup → (∀ x, x ∈ kept ↔ Min may beats p x) → (leastF may beats kept r).Nodup ∧ ∀ x, x ∈ leastF may beats kept r ↔ Min may beats (p ++ r) x
  | [], p, kept, hn, h => by unfold leastF; rw [List.append_nil]; exact ⟨hn, h⟩
  | x :: r, p, kept, hn, h => by
    unfold leastF
    have happ : p ++ x :: r = (p ++ [x]) ++ r := by simp
    rw [happ]
    cases hm : may x with
    | false =>
      simp only [Bool.not_false, Bool.true_or, if_true]
      refine leastF_step O r (p ++ [x]) kept hn fun y => (h y).trans ?_
      unfold Min
      constructor
      · rintro ⟨h1, h2, h3⟩
        refine ⟨List.mem_append_left _ h1, h2, fun z hz hmz => ?_⟩
        rcases List.mem_append.1 hz with e | e
        · exact h3 z e hmz
        · simp at e; subst e; rw [hm] at hmz; cases hmz
      · rintro ⟨h1, h2, h3⟩
        refine ⟨?_, h2, fun z hz hmz => h3 z (List.mem_append_left _ hz) hmz⟩
        rcases List.mem_append.1 h1 with e | e
        · exact e
        · simp at e; subst e; rw [hm] at h2; cases h2
    | true =>
      simp only [Bool.not_true, Bool.false_or]
      split
      · rename_i ha
        rw [List.any_eq_true] at ha
        obtain ⟨o, ho, hox⟩ := ha
        obtain ⟨o1, o2, o3⟩ := (h o).1 ho
        refine leastF_step O r (p ++ [x]) kept hn fun y => (h y).trans ?_
        have hcase : o = x ∨ beats o x = true := by simpa using hox
        unfold Min
        constructor
        · rintro ⟨h1, h2, h3⟩
          refine ⟨List.mem_append_left _ h1, h2, fun z hz hmz => ?_⟩
          rcases List.mem_append.1 hz with e | e
          · exact h3 z e hmz
          · simp at e; subst e
            rcases hcase with e | e
            · subst e; exact h3 o o1 o2
            · cases hb : beats z y with
              | false => rfl
              | true => have := h3 o o1 o2; rw [O.tr _ _ _ e hb] at this; cases this
        · rintro ⟨h1, h2, h3⟩
          refine ⟨?_, h2, fun z hz hmz => h3 z (List.mem_append_left _ hz) hmz⟩
          rcases List.mem_append.1 h1 with e | e
          · exact e
          · simp at e; subst e
            rcases hcase with e | e
            · subst e; exact o1
            · have := h3 o (List.mem_append_left _ o1) o2; rw [e] at this; cases this
      · rename_i ha
        have hnot : ∀ o ∈ kept, o ≠ x ∧ beats o x = false := by
          intro o ho
          have : ¬ (o == x || beats o x) = true := fun hh => ha (List.any_eq_true.2 ⟨o, ho, hh⟩)
          simpa using this
        have hfree : ∀ y ∈ p, may y = true → beats y x = false := by
          intro y hy hmy
          obtain ⟨m, hmin, hle⟩ := min_below O p _ y (Nat.le_refl _) hy hmy
          cases hb : beats y x with
          | false => rfl
          | true =>
            have := (hnot m ((h m).2 hmin)).2
            rcases hle with e | e
            · subst e; rw [hb] at this; cases this
            · rw [O.tr _ _ _ e hb] at this; cases this
        refine leastF_step O r (p ++ [x]) _ ?_ fun y => ?_
        · rw [List.nodup_append]
          refine ⟨hn.filter _, by simp, fun a ha b hb e => ?_⟩
          simp at hb
          subst hb
          exact (hnot a ((List.mem_filter.1 ha).1)).1 e
        · rw [List.mem_append, List.mem_filter, h y, List.mem_singleton]
          unfold Min
          constructor
          · rintro (⟨⟨h1, h2, h3⟩, h4⟩ | e)
            · refine ⟨List.mem_append_left _ h1, h2, fun z hz hmz => ?_⟩
              rcases List.mem_append.1 hz with e | e
              · exact h3 z e hmz
              · simp at e; subst e; simpa using h4
            · subst e
              refine ⟨by simp, hm, fun z hz hmz => ?_⟩
              rcases List.mem_append.1 hz with e | e
              · exact hfree z e hmz
              · simp at e; subst e; exact O.irr _
          · rintro ⟨h1, h2, h3⟩
            rcases List.mem_append.1 h1 with e | e
            · exact .inl ⟨⟨e, h2, fun z hz hmz => h3 z (List.mem_append_left _ hz) hmz⟩, by have := h3 x (by simp) hm; simp [this]⟩
            · simp at e; exact .inr e
theorem leastF_is (O : Ords beats lt) (l : List α) : (leastF may beats [] l).Nodup ∧ ∀ x, x ∈ leastF may beats [] l ↔ Min may beats l x := by
  have := leastF_step (may := may) O l [] [] (by simp) (fun x => by simp [Min])
  simpa using this
end
end K
end Go.Proofs.YtibeoiphjkgekaaGreat
