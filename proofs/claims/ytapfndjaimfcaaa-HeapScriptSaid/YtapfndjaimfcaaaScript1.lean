/-
  A heap and the reference's heap side by side: what each step tells, and what it leaves.
-/
import Derived.Test.YtapfndjaimfcaaaRef12B
import Derived.Test.YtapfndjaimfcaaaScriptPlain
import Derived.Test.YtapfndjaimfcaaaHeap14
namespace Go.Proofs.Ytapfndjaimfcaaa
open Go.RowKit Go.Shelf B K
set_option linter.unusedVariables false
set_option linter.unusedSimpArgs false
set_option maxHeartbeats 1000000
/-- block h is a heap of S1; block hp is the reference's, of S2 -/
def Pr (w : World) (base h hp : Nat) (S1 S2 : List It) : Prop := ∃ X, HQ w base h X S1 ∧ RH w hp X S2 ∧ base ≤ w.heap.size ∧ base ≤ hp
section
variable {w w' : World} {base h hp : Nat} {S S1 S2 S' : List It}
theorem RH.xlt {X : List Nat} (H : RH w hp X S) : ∀ x ∈ X, x < w.heap.size := by
  obtain ⟨A, c, h1, h2, h3, h4, h5, h6, h7⟩ := H
  exact h7
theorem Pr.below (H : Pr w base h hp S1 S2) (hb : Below w.heap.size w w') : Pr w' base h hp S1 S2 := by
  obtain ⟨X, h1, h2, h3, h4⟩ := H
  exact ⟨X, h1.below hb, h2.below hb, Nat.le_trans h3 hb.size, h4⟩
theorem Pr.lt (H : Pr w base h hp S1 S2) : hp < w.heap.size := by
  obtain ⟨X, _, h2, _⟩ := H
  exact h2.lt
theorem Pr.bas (H : Pr w base h hp S1 S2) : base ≤ w.heap.size := by
  obtain ⟨X, _, _, h3, _⟩ := H
  exact h3
theorem Pr.hstep {X : List Nat} (h2 : RH w hp X S2) (h3 : base ≤ w.heap.size) (h4 : base ≤ hp) (hP : HPost w w' base h X S') : Pr w' base h hp S' S2 ∧ Below base w w' :=
  ⟨⟨X, hP.1, h2.keep hP.2.1.size fun b hb => hP.2.2 b hb (h2.xlt b hb), Nat.le_trans h3 hP.2.1.size, h4⟩, hP.2.1⟩
theorem Pr.rstep {X : List Nat} (h1 : HQ w base h X S1) (h3 : base ≤ w.heap.size) (h4 : base ≤ hp) (hP : RPost w w' hp X S') : Pr w' base h hp S1 S' ∧ Below base w w' := by
  obtain ⟨X', k1, k2, k3⟩ := hP
  exact ⟨⟨X', (h1.more k3).but k2 (fun z hz => by simp at hz; subst hz; exact k1.mem), k1, Nat.le_trans h3 k2.size, h4⟩, k2.below h3 (by simpa using h4)⟩
def pushE (S : List It) (x : It) : Int := if S.any (fun y => decide (y.2 = x.2)) = true then 6 else 0
def pushS (S : List It) (x : It) : List It := if S.any (fun y => decide (y.2 = x.2)) = true then S else srtI (x :: S)
theorem any_no {S : List It} {i : Int} (h : ¬ S.any (fun y => decide (y.2 = i)) = true) : ∀ y ∈ S, y.2 ≠ i := fun y hy e => h (List.any_eq_true.2 ⟨y, hy, decide_eq_true e⟩)
theorem any_yes {S : List It} {i : Int} (h : S.any (fun y => decide (y.2 = i)) = true) : ∃ y ∈ S, y.2 = i := by
  obtain ⟨y, hy, e⟩ := List.any_eq_true.1 h
  exact ⟨y, hy, of_decide_eq_true e⟩
theorem pushS_st (h : St S) (x : It) : St (pushS S x) := by
  unfold pushS
  split
  · exact h
  · rename_i hn
    exact h.ins (any_no hn)
theorem pushS_len (S : List It) (x : It) : (pushS S x).length ≤ S.length + 1 := by
  unfold pushS
  split
  · omega
  · rw [srtI_len]; simp
theorem hPush_step (H : Pr w base h hp S S2) (x : It) (hwf : (Lit.int .i64 x.2).wf = true) (hl : S.length + 1 ≤ 1099511627776) : Calls Try.prog 31 #[.pointer (some ⟨h, 0, none⟩), .agg #[.int .i64 x.1, .int .i64 x.2]] w fun e w' => e = .returned (.int .i64 (pushE S x)) ∧ Pr w' base h hp (pushS S x) S2 ∧ Below base w w' := by
  obtain ⟨X, h1, h2, h3, h4⟩ := H
  unfold pushE pushS
  by_cases hc : S.any (fun y => decide (y.2 = x.2)) = true
  · rw [if_pos hc, if_pos hc]
    refine (Push_there (kx := x.1) h1 hwf (any_yes hc)).mono ?_
    rintro e w' ⟨rfl, hb⟩
    exact ⟨rfl, Pr.below ⟨X, h1, h2, h3, h4⟩ hb, hb.mono h3⟩
  · rw [if_neg hc, if_neg hc]
    refine (Push_new (kx := x.1) h1 hwf (any_no hc) h3 h2.xlt hl).mono ?_
    rintro e w' ⟨rfl, hP⟩
    obtain ⟨k1, k2⟩ := Pr.hstep h2 h3 h4 hP
    obtain ⟨X', q1, q2⟩ := k1
    exact ⟨rfl, ⟨X', q1.perm (srtI_perm _).symm, q2⟩, k2⟩
theorem rPush_step (H : Pr w base h hp S1 S) (hs : St S) (x : It) (hl : S.length + 1 ≤ 1099511627776) : Calls Try.prog 39 #[.pointer (some ⟨hp, 0, none⟩), .agg #[.int .i64 x.1, .int .i64 x.2]] w fun e w' => e = .returned (.int .i64 (pushE S x)) ∧ Pr w' base h hp S1 (pushS S x) ∧ Below base w w' := by
  obtain ⟨X, h1, h2, h3, h4⟩ := H
  unfold pushE pushS
  by_cases hc : S.any (fun y => decide (y.2 = x.2)) = true
  · rw [if_pos hc, if_pos hc]
    refine (rPush_there (kx := x.1) h2 (by omega) (any_yes hc)).mono ?_
    rintro e w' ⟨rfl, hb⟩
    exact ⟨rfl, Pr.below ⟨X, h1, h2, h3, h4⟩ hb, hb.mono h3⟩
  · rw [if_neg hc, if_neg hc]
    refine (rPush_new (kx := x.1) h2 hl (any_no hc)).mono ?_
    rintro e w' ⟨rfl, j, j1, j2, j3, hP⟩
    rw [ins_srt hs.srt j1 j2 j3] at hP
    exact ⟨rfl, Pr.rstep h1 h3 h4 hP⟩
def popV : List It → Value
  | [] => .tuple #[.agg #[.int .i64 0, .int .i64 0], .bool false]
  | x :: _ => .tuple #[.agg #[.int .i64 x.1, .int .i64 x.2], .bool true]
theorem hPop_step (H : Pr w base h hp S S2) (hs : St S) : Calls Try.prog 35 #[.pointer (some ⟨h, 0, none⟩)] w fun e w' => e = .returned (popV S) ∧ Pr w' base h hp S.tail S2 ∧ Below base w w' := by
  obtain ⟨X, h1, h2, h3, h4⟩ := H
  cases S with
  | nil =>
    refine (Pop_zero fun W hW => Len_any (h1.below hW)).mono ?_
    rintro e w' ⟨rfl, hb⟩
    exact ⟨rfl, Pr.below ⟨X, h1, h2, h3, h4⟩ hb, hb.mono h3⟩
  | cons x r =>
    refine (Pop_min h1 (List.Perm.refl _) hs.head h3 h2.xlt).mono ?_
    rintro e w' ⟨rfl, hP⟩
    exact ⟨rfl, Pr.hstep h2 h3 h4 hP⟩
theorem rPop_step (H : Pr w base h hp S1 S) : Calls Try.prog 40 #[.pointer (some ⟨hp, 0, none⟩)] w fun e w' => e = .returned (popV S) ∧ Pr w' base h hp S1 S.tail ∧ Below base w w' ∧ But w w' [hp] := by
  obtain ⟨X, h1, h2, h3, h4⟩ := H
  cases S with
  | nil =>
    refine (rPop_nil h2).mono ?_
    rintro e w' ⟨rfl, hb⟩
    exact ⟨rfl, Pr.below ⟨X, h1, h2, h3, h4⟩ hb, hb.mono h3, But.of_below hb _⟩
  | cons x r =>
    obtain ⟨x1, x2⟩ := x
    refine (rPop_cons h2).mono ?_
    rintro e w' ⟨rfl, hP⟩
    obtain ⟨k1, k2⟩ := Pr.rstep h1 h3 h4 hP
    obtain ⟨X', _, k3, _⟩ := hP
    exact ⟨rfl, k1, k2, k3⟩
theorem hTop_step (H : Pr w base h hp S S2) (hs : St S) : Calls Try.prog 37 #[.pointer (some ⟨h, 0, none⟩)] w fun e w' => e = .returned (popV S) ∧ Pr w' base h hp S S2 ∧ Below base w w' := by
  obtain ⟨X, h1, h2, h3, h4⟩ := H
  cases S with
  | nil =>
    refine (Top_zero fun W hW => Len_any (h1.below hW)).mono ?_
    rintro e w' ⟨rfl, hb⟩
    exact ⟨rfl, Pr.below ⟨X, h1, h2, h3, h4⟩ hb, hb.mono h3⟩
  | cons x r =>
    refine (Top_any h1 (List.Perm.refl _) hs.head).mono ?_
    rintro e w' ⟨rfl, hb⟩
    exact ⟨rfl, Pr.below ⟨X, h1, h2, h3, h4⟩ hb, hb.mono h3⟩
theorem rTop_step (H : Pr w base h hp S1 S) : Calls Try.prog 42 #[.pointer (some ⟨hp, 0, none⟩)] w fun e w' => e = .returned (popV S) ∧ Pr w' base h hp S1 S ∧ Below base w w' ∧ But w w' [hp] := by
  obtain ⟨X, h1, h2, h3, h4⟩ := H
  cases S with
  | nil =>
    refine (rTop_nil h2).mono ?_
    rintro e w' ⟨rfl, hb⟩
    exact ⟨rfl, Pr.below ⟨X, h1, h2, h3, h4⟩ hb, hb.mono h3, But.of_below hb _⟩
  | cons x r =>
    obtain ⟨x1, x2⟩ := x
    refine (rTop_cons h2).mono ?_
    rintro e w' ⟨rfl, hb⟩
    exact ⟨rfl, Pr.below ⟨X, h1, h2, h3, h4⟩ hb, hb.mono h3, But.of_below hb _⟩
theorem popV_form (S : List It) : ∃ y1 y2 b, popV S = .tuple #[.agg #[.int .i64 y1, .int .i64 y2], .bool b] := by
  cases S with
  | nil => exact ⟨0, 0, false, rfl⟩
  | cons x r => exact ⟨x.1, x.2, true, rfl⟩
/-- what Lower tells, and leaves -/
inductive LowR (S : List It) (id key : Int) : Bool → Int → List It → Prop
  | none : (∀ x ∈ S, x.2 ≠ id) → LowR S id key false 5 S
  | high {j : Nat} {old : Int} : S[j]? = some (old, id) → idx (fun x : It => decide (x.2 = id)) S = (j : Int) → old ≤ key → LowR S id key false 0 S
  | low {j : Nat} {old : Int} : S[j]? = some (old, id) → idx (fun x : It => decide (x.2 = id)) S = (j : Int) → key < old → LowR S id key true 0 (srtI ((key, id) :: (S.take j ++ S.drop (j + 1))))
theorem low_ex (S : List It) (id key : Int) : ∃ b e S', LowR S id key b e S' := by
  by_cases hc : S.any (fun y => decide (y.2 = id)) = true
  · have hlt : S.findIdx (fun y => decide (y.2 = id)) < S.length := List.findIdx_lt_length.2 (List.any_eq_true.1 hc)
    have hp := List.findIdx_getElem (xs := S) (p := fun y => decide (y.2 = id)) (w := hlt)
    have hi : idx (fun x : It => decide (x.2 = id)) S = ((S.findIdx fun y => decide (y.2 = id) : Nat) : Int) := by unfold idx; rw [if_pos hc]
    have hx : S[S.findIdx fun y => decide (y.2 = id)]? = some ((S[S.findIdx fun y => decide (y.2 = id)]).1, id) := by
      rw [List.getElem?_eq_getElem hlt]
      have := of_decide_eq_true hp
      exact congrArg some (Prod.ext rfl this)
    by_cases hk : (S[S.findIdx fun y => decide (y.2 = id)]).1 ≤ key
    · exact ⟨_, _, _, .high hx hi hk⟩
    · exact ⟨_, _, _, .low hx hi (by omega)⟩
  · exact ⟨_, _, _, .none (any_no hc)⟩
theorem LowR.st {id key e : Int} {b : Bool} (h : LowR S id key b e S') (hs : St S) : St S' ∧ S'.length ≤ S.length := by
  cases h with
  | none _ => exact ⟨hs, Nat.le_refl _⟩
  | high _ _ _ => exact ⟨hs, Nat.le_refl _⟩
  | @low j old hx hi hk =>
    obtain ⟨h1, h2, h3⟩ := hs.rem hx
    refine ⟨h1.ins h3, ?_⟩
    rw [srtI_len, h2.length_eq]
    simp
theorem hLower_step {id key e : Int} {b : Bool} (H : Pr w base h hp S S2) (hs : St S) (hL : LowR S id key b e S') (hwf : (Lit.int .i64 id).wf = true) : Calls Try.prog 36 #[.pointer (some ⟨h, 0, none⟩), .int .i64 id, .int .i64 key] w fun r w' => r = .returned (.tuple #[.bool b, .int .i64 e]) ∧ Pr w' base h hp S' S2 ∧ Below base w w' := by
  obtain ⟨X, h1, h2, h3, h4⟩ := H
  cases hL with
  | none hn =>
    refine (Lower_none h1 hwf hn).mono ?_
    rintro e w' ⟨rfl, rfl⟩
    exact ⟨rfl, ⟨X, h1, h2, h3, h4⟩, Below.refl _ _⟩
  | high hx hi hk =>
    refine (Lower_high h1 hwf (List.mem_of_getElem? hx) hk).mono ?_
    rintro e w' ⟨rfl, rfl⟩
    exact ⟨rfl, ⟨X, h1, h2, h3, h4⟩, Below.refl _ _⟩
  | @low j old hx hi hk =>
    refine (Lower_any h1 hwf (hs.rem hx).2.1 hk h3 h2.xlt).mono ?_
    rintro e w' ⟨rfl, hP⟩
    obtain ⟨⟨X', q1, q2⟩, k2⟩ := Pr.hstep h2 h3 h4 hP
    exact ⟨rfl, ⟨X', q1.perm (srtI_perm _).symm, q2⟩, k2⟩
theorem rLower_step {id key e : Int} {b : Bool} (H : Pr w base h hp S1 S) (hs : St S) (hL : LowR S id key b e S') (hl : S.length + 1 ≤ 1099511627776) : Calls Try.prog 41 #[.pointer (some ⟨hp, 0, none⟩), .int .i64 id, .int .i64 key] w fun r w' => r = .returned (.tuple #[.bool b, .int .i64 e]) ∧ Pr w' base h hp S1 S' ∧ Below base w w' := by
  obtain ⟨X, h1, h2, h3, h4⟩ := H
  cases hL with
  | none hn =>
    refine (rLower_none h2 (by omega) hn).mono ?_
    rintro e w' ⟨rfl, rfl⟩
    exact ⟨rfl, ⟨X, h1, h2, h3, h4⟩, Below.refl _ _⟩
  | high hx hi hk =>
    refine (rLower_high h2 (by omega) hx hi hk).mono ?_
    rintro e w' ⟨rfl, rfl⟩
    exact ⟨rfl, ⟨X, h1, h2, h3, h4⟩, Below.refl _ _⟩
  | @low j old hx hi hk =>
    obtain ⟨t1, t2, t3⟩ := hs.rem hx
    refine (rLower_any h2 hl hx hi hk t3).mono ?_
    rintro e w' ⟨rfl, i, i1, i2, i3, hP⟩
    rw [ins_srt t1.srt i1 i2 i3] at hP
    exact ⟨rfl, Pr.rstep h1 h3 h4 hP⟩
end
end Go.Proofs.Ytapfndjaimfcaaa
