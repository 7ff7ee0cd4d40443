/-
  Plain laws: how many least things there are; a list that is its own least.
-/
import Derived.Test.YtibeoiphjkgekaaGreatBagWords
namespace Go.Proofs.YtibeoiphjkgekaaGreat
namespace K
/-- the error of what may be, or may not -/
def chkB (b : Bool) : Int := if b then 0 else 2
theorem chkB_zero {b : Bool} : chkB b = 0 ↔ b = true := by cases b <;> simp [chkB]
theorem ins_len {α : Type} [DecidableEq α] (lt : α → α → Bool) (x : α) : ∀ l : List α, (ins lt x l).length ≤ l.length + 1
  | [] => by simp [ins]
  | y :: r => by
    unfold ins
    split
    · simp
    · split
      · simp
      · have := ins_len lt x r; simp; omega
theorem isort_len {α : Type} [DecidableEq α] (lt : α → α → Bool) : ∀ l : List α, (isort lt l).length ≤ l.length
  | [] => by simp [isort]
  | x :: r => by unfold isort; have := ins_len lt x (isort lt r); have := isort_len lt r; simp; omega
theorem least_len {α : Type} [DecidableEq α] (may : α → Bool) (beats lt : α → α → Bool) (l : List α) : (least may beats lt l).length ≤ l.length := by
  unfold least
  exact Nat.le_trans (isort_len _ _) (List.length_filter_le _ _)
theorem L2_len (l : List P2) : (L2 l).length ≤ l.length := least_len _ _ _ l
theorem L3_len (l : List P3) : (L3 l).length ≤ l.length := least_len _ _ _ l
end K
end Go.Proofs.YtibeoiphjkgekaaGreat
