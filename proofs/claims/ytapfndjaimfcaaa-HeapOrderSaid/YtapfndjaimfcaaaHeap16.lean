/-
  Two heaps side by side; items turned about, pushed one by one.
-/
import Derived.Test.YtapfndjaimfcaaaHeap13
namespace Go.Proofs.Ytapfndjaimfcaaa
open Go.RowKit Go.Shelf B K
set_option linter.unusedVariables false
set_option linter.unusedSimpArgs false
/-- two heaps that share no block; neither holds one of X -/
def HQ2 (w : World) (base ha hb : Nat) (X : List Nat) (la lb : List It) : Prop :=
  ∃ ma sa la' mb sb lb', (HW w base ha ma sa la' ∧ IsHeap la' la'.length ∧ la'.Perm la) ∧ (HW w base hb mb sb lb' ∧ IsHeap lb' lb'.length ∧ lb'.Perm lb) ∧ (∀ x ∈ hbs ha ma sa, x ∉ hbs hb mb sb) ∧ ∀ x ∈ X, x ∉ hbs ha ma sa ∧ x ∉ hbs hb mb sb
section
variable {w w' : World} {base ha hb : Nat} {X : List Nat} {la lb : List It}
theorem HQ2.symm (H : HQ2 w base ha hb X la lb) : HQ2 w base hb ha X lb la := by
  obtain ⟨ma, sa, la', mb, sb, lb', h1, h2, h3, h4⟩ := H
  exact ⟨mb, sb, lb', ma, sa, la', h2, h1, fun x hx hy => h3 x hy hx, fun x hx => ⟨(h4 x hx).2, (h4 x hx).1⟩⟩
theorem HQ2.one (H : HQ2 w base ha hb X la lb) : HQ w base ha X la := by
  obtain ⟨ma, sa, la', mb, sb, lb', h1, h2, h3, h4⟩ := H
  exact ⟨ma, sa, la', h1.1, h1.2.1, h1.2.2, fun b hb => (h4 b hb).1⟩
theorem HQ2.ne (H : HQ2 w base ha hb X la lb) : ha ≠ hb := by
  obtain ⟨ma, sa, la', mb, sb, lb', h1, h2, h3, h4⟩ := H
  exact fun e => h3 ha (by simp [hbs]) (by simp [hbs, e])
theorem HQ2.left (H : HQ2 w base ha hb X la lb) (hX : ∀ x ∈ X, x < w.heap.size) : ∃ Y, HQ w base ha Y la ∧ (∀ y ∈ Y, y < w.heap.size) ∧ (∀ x ∈ X, x ∈ Y) ∧ ∀ w' la2, HPost w w' base ha Y la2 → HQ2 w' base ha hb X la2 lb := by
  obtain ⟨ma, sa, la', mb, sb, lb', ⟨h1, h1a, h1b⟩, ⟨h2, h2a, h2b⟩, h3, h4⟩ := H
  refine ⟨X ++ hbs hb mb sb, ⟨ma, sa, la', h1, h1a, h1b, fun b hb hm => ?_⟩, fun y hy => ?_, fun x hx => List.mem_append_left _ hx, fun w' la2 hp => ?_⟩
  · rcases List.mem_append.1 hb with h | h
    · exact (h4 b h).1 hm
    · exact h3 b hm h
  · rcases List.mem_append.1 hy with h | h
    · exact hX y h
    · exact h2.lt y h
  · obtain ⟨⟨m', sv', l', k1, k1a, k1b, k2⟩, _, hk⟩ := hp
    exact ⟨m', sv', l', mb, sb, lb', ⟨k1, k1a, k1b⟩, ⟨h2.keep fun b hb hm => hk b (List.mem_append_right _ hm) hb, h2a, h2b⟩, fun x hx hy => k2 x (List.mem_append_right _ hy) hx,
      fun x hx => ⟨k2 x (List.mem_append_left _ hx), (h4 x hx).2⟩⟩
theorem HQ2.below (H : HQ2 w base ha hb X la lb) (hb' : Below w.heap.size w w') : HQ2 w' base ha hb X la lb := by
  obtain ⟨ma, sa, la', mb, sb, lb', ⟨h1, h1a⟩, ⟨h2, h2a⟩, h3, h4⟩ := H
  exact ⟨ma, sa, la', mb, sb, lb', ⟨h1.below hb', h1a⟩, ⟨h2.below hb', h2a⟩, h3, h4⟩
theorem HQ2.more (H : HQ2 w base ha hb X la lb) {Y : List Nat} (hY : ∀ y ∈ Y, y ∈ X ∨ w.heap.size ≤ y) : HQ2 w base ha hb Y la lb := by
  obtain ⟨ma, sa, la', mb, sb, lb', ⟨h1, h1a⟩, ⟨h2, h2a⟩, h3, h4⟩ := H
  refine ⟨ma, sa, la', mb, sb, lb', ⟨h1, h1a⟩, ⟨h2, h2a⟩, h3, fun y hy => ?_⟩
  rcases hY y hy with h | h
  · exact h4 y h
  · exact ⟨fun hm => by have := h1.lt y hm; omega, fun hm => by have := h2.lt y hm; omega⟩
theorem HQ2.perm (H : HQ2 w base ha hb X la lb) {la2 lb2 : List It} (hp : la.Perm la2) (hq : lb.Perm lb2) : HQ2 w base ha hb X la2 lb2 := by
  obtain ⟨ma, sa, la', mb, sb, lb', ⟨h1, h1a, h1b⟩, ⟨h2, h2a, h2b⟩, h3, h4⟩ := H
  exact ⟨ma, sa, la', mb, sb, lb', ⟨h1, h1a, h1b.trans hp⟩, ⟨h2, h2a, h2b.trans hq⟩, h3, h4⟩
theorem HQ2.but {Z : List Nat} (H : HQ2 w base ha hb X la lb) (hb' : But w w' Z) (hZ : ∀ z ∈ Z, z ∈ X) : HQ2 w' base ha hb X la lb := by
  obtain ⟨ma, sa, la', mb, sb, lb', ⟨h1, h1a⟩, ⟨h2, h2a⟩, h3, h4⟩ := H
  exact ⟨ma, sa, la', mb, sb, lb', ⟨h1.but hb' (fun x hx hz => (h4 x (hZ x hz)).1 hx), h1a⟩, ⟨h2.but hb' (fun x hx hz => (h4 x (hZ x hz)).2 hx), h2a⟩, h3, h4⟩
end
/-- pushed one by one: of two of one number the first stays -/
def pushS (acc : List It) (x : It) : List It := if acc.any (fun y => y.2 == x.2) then acc else x :: acc
def pushL (l : List It) : List It := l.foldl pushS []
theorem pushL_snoc (l : List It) (x : It) : pushL (l ++ [x]) = pushS (pushL l) x := by simp [pushL, List.foldl_append]
theorem pushS_there {acc : List It} {x : It} (h : ∃ y ∈ acc, y.2 = x.2) : pushS acc x = acc := by
  unfold pushS
  rw [if_pos]
  obtain ⟨y, hy, e⟩ := h
  rw [List.any_eq_true]
  exact ⟨y, hy, by simp [e]⟩
theorem pushS_new {acc : List It} {x : It} (h : ∀ y ∈ acc, y.2 ≠ x.2) : pushS acc x = x :: acc := by
  unfold pushS
  rw [if_neg]
  rw [List.any_eq_true]
  rintro ⟨y, hy, e⟩
  exact h y hy (by simpa using e)
theorem pushL_len (l : List It) : (pushL l).length ≤ l.length := by
  have h : ∀ (l acc : List It), (l.foldl pushS acc).length ≤ l.length + acc.length := by
    intro l
    induction l with
    | nil => intro acc; simp
    | cons x r ih =>
      intro acc
      rw [List.foldl_cons]
      have := ih (pushS acc x)
      have h2 : (pushS acc x).length ≤ acc.length + 1 := by unfold pushS; split <;> simp
      simp only [List.length_cons]
      omega
  simpa [pushL] using h l []
theorem pushL_mem {l : List It} : ∀ x ∈ pushL l, x ∈ l := by
  have h : ∀ (l acc : List It), ∀ x ∈ l.foldl pushS acc, x ∈ l ∨ x ∈ acc := by
    intro l
    induction l with
    | nil => intro acc x hx; exact .inr hx
    | cons y r ih =>
      intro acc x hx
      rcases ih _ x hx with h | h
      · exact .inl (by simp [h])
      · unfold pushS at h
        split at h
        · exact .inr h
        · rcases List.mem_cons.1 h with rfl | h
          · exact .inl (by simp)
          · exact .inr h
  intro x hx
  rcases h l [] x hx with h | h
  · exact h
  · cases h
theorem pushL_perm {l : List It} (hn : (l.map Prod.snd).Nodup) : (pushL l).Perm l := by
  have h : ∀ (l acc : List It), ((l ++ acc).map Prod.snd).Nodup → (l.foldl pushS acc).Perm (l ++ acc) := by
    intro l
    induction l with
    | nil => intro acc _; exact List.Perm.refl _
    | cons x r ih =>
      intro acc hn
      rw [List.foldl_cons]
      have hn2 : (x.2 :: (r ++ acc).map Prod.snd).Nodup := hn
      rw [List.nodup_cons] at hn2
      have hx : ∀ y ∈ acc, y.2 ≠ x.2 := fun y hy e => hn2.1 (List.mem_map.2 ⟨y, List.mem_append_right _ hy, e⟩)
      rw [pushS_new hx]
      have hp : (r ++ x :: acc).Perm (x :: (r ++ acc)) := List.perm_middle
      refine (ih (x :: acc) ?_).trans hp
      exact (hp.map Prod.snd).nodup_iff.2 hn
  simpa [pushL] using h l [] (by simpa using hn)
/-- turned about by so many places -/
def rotI (l : List It) (p : Nat) : List It := l.drop p ++ l.take p
theorem rotI_perm (l : List It) (p : Nat) : (rotI l p).Perm l := by
  unfold rotI
  refine List.perm_append_comm.trans ?_
  rw [List.take_append_drop]
theorem rotI_len (l : List It) (p : Nat) : (rotI l p).length = l.length := (rotI_perm l p).length_eq
theorem rotI_at {l : List It} {p k n : Nat} (hn : l.length = n) (hp : p ≤ n) (hk : k < n) : (rotI l p)[k]? = l[(k + p) % n]? := by
  unfold rotI
  by_cases h : k < n - p
  · rw [List.getElem?_append_left (by rw [List.length_drop]; omega), List.getElem?_drop, Nat.mod_eq_of_lt (by omega), Nat.add_comm]
  · rw [List.getElem?_append_right (by rw [List.length_drop]; omega), List.length_drop, List.getElem?_take, if_pos (by omega)]
    have e : (k + p) % n = k + p - n := by
      rw [Nat.mod_eq_sub_mod (by omega), Nat.mod_eq_of_lt (by omega)]
    rw [e]
    congr 1
    omega
/-- the numbers seen in the first so many items -/
def Seen (f : Int → Option Int) (l : List It) : Prop := (∀ x ∈ l, f x.2 = some 1) ∧ (∀ a v, f a = some v → v = 1 ∧ ∃ x ∈ l, x.2 = a) ∧ (l.map Prod.snd).Nodup
theorem seen_nil : Seen (fun _ => none) [] := ⟨fun x h => (by cases h), fun a v h => (by cases h), List.nodup_nil⟩
theorem Seen.push {f : Int → Option Int} {l : List It} (h : Seen f l) {x : It} (hf : f x.2 = none) : Seen (updI f x.2 1) (l ++ [x]) := by
  have hne : ∀ y ∈ l, y.2 ≠ x.2 := fun y hy e => by have := h.1 y hy; rw [e, hf] at this; cases this
  refine ⟨fun y hy => ?_, fun a v ha => ?_, ?_⟩
  · unfold updI
    rcases List.mem_append.1 hy with hy | hy
    · rw [if_neg (hne y hy)]; exact h.1 y hy
    · simp at hy; subst hy; rw [if_pos rfl]
  · unfold updI at ha
    split at ha
    · rename_i e; cases ha; exact ⟨rfl, x, by simp, e.symm⟩
    · obtain ⟨h1, y, hy, e⟩ := h.2.1 a v ha
      exact ⟨h1, y, by simp [hy], e⟩
  · rw [List.map_append, List.nodup_append]
    refine ⟨h.2.2, by simp, fun a ha b hb e => ?_⟩
    simp at hb
    subst hb
    obtain ⟨y, hy, ey⟩ := List.mem_map.1 ha
    exact hne y hy (ey.trans e)
end Go.Proofs.Ytapfndjaimfcaaa
