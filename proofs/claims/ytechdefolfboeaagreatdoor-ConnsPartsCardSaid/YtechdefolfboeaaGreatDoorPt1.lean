/-
  What the chain's texts hold beyond what lies in the base.
-/
import Derived.Test.YtechdefolfboeaaGreatDoorRs1
import Derived.Test.YtechdefolfboeaaGreatDoorRs2
import Derived.Test.YtechdefolfboeaaGreatDoorRs3
import Derived.Test.YtechdefolfboeaaGreatDoorRs4
import Derived.Test.YtechdefolfboeaaGreatDoorRs5
import Derived.Test.YtechdefolfboeaaGreatDoorRs6
import Derived.Test.YtechdefolfboeaaGreatDoorRs7
import Derived.Test.YtechdefolfboeaaGreatDoorRs8
import Derived.Test.YtechdefolfboeaaGreatDoorRs9
import Derived.Test.YtechdefolfboeaaGreatDoorRs10
import Derived.Test.YtechdefolfboeaaGreatDoorRs11
import Derived.Test.YtechdefolfboeaaGreatDoorRs12
import Derived.Test.YtechdefolfboeaaGreatDoorRs13
import Derived.Test.YtechdefolfboeaaGreatDoorRs14
import Derived.Test.YtechdefolfboeaaGreatDoorRs15
import Derived.Test.YtechdefolfboeaaGreatDoorRs16
import Derived.Test.YtechdefolfboeaaGreatDoorRs17
import Derived.Test.YtechdefolfboeaaGreatDoorRs18
import Derived.Test.YtechdefolfboeaaGreatDoorRs19
import Derived.Test.YtechdefolfboeaaGreatDoorRs20
import Derived.Test.YtechdefolfboeaaGreatDoorRs21
import Derived.Test.YtechdefolfboeaaGreatDoorRs22
import Derived.Test.YtechdefolfboeaaGreatDoorRs23
import Derived.Test.YtechdefolfboeaaGreatDoorRs24
import Derived.Test.YtechdefolfboeaaGreatDoorRs25
import Derived.Test.YtechdefolfboeaaGreatDoorRs26
import Derived.Test.YtechdefolfboeaaGreatDoorRs27
import Derived.Test.YtechdefolfboeaaGreatDoorRs28
import Derived.Test.YtechdefolfboeaaGreatDoorRs29
import Derived.Test.YtechdefolfboeaaGreatDoorRs30
import Derived.Test.YtechdefolfboeaaGreatDoorRs31
import Derived.Test.YtechdefolfboeaaGreatDoorRs32
import Derived.Test.YtechdefolfboeaaGreatDoorRs33
import Derived.Test.YtechdefolfboeaaGreatDoorRs34
import Derived.Test.YtechdefolfboeaaGreatDoorRs35
import Derived.Test.YtechdefolfboeaaGreatDoorRs36
import Derived.Test.YtechdefolfboeaaGreatDoorRs37
import Derived.Test.YtechdefolfboeaaGreatDoorRs38
import Derived.Test.YtechdefolfboeaaGreatDoorRs39
import Derived.Test.YtechdefolfboeaaGreatDoorRs40
import Derived.Test.YtechdefolfboeaaGreatDoorRs41
import Derived.Test.YtechdefolfboeaaGreatDoorRs42
import Derived.Test.YtechdefolfboeaaGreatDoorRs43
import Derived.Test.YtechdefolfboeaaGreatDoorRs44
import Derived.Test.YtechdefolfboeaaGreatDoorRs45
import Derived.Test.YtechdefolfboeaaGreatDoorRs46
import Derived.Test.YtechdefolfboeaaGreatDoorRs47
import Derived.Test.YtechdefolfboeaaGreatDoorRs48
namespace Go.Proofs.YtechdefolfboeaaGreatDoor
open Go.RowKit B K
set_option linter.unusedVariables false
set_option linter.unusedSimpArgs false
section
variable {M : WorldP} {L : List RunP} {r : RunP}
theorem of_none {i : Nat} (h : L.length ≤ i) : (makeC M L).filter (fun c => c.run == (i : Int)) = [] := by
  rw [of_run i (fun r hr => by rw [List.getElem?_eq_none (by omega)] at hr; cases hr)]
  unfold ridesAt
  rw [List.getElem?_eq_none (by omega)]
theorem filter_pos {α : Type} {l : List α} {p : α → Bool} (h : ∀ x ∈ l, p x = true) : l.filter p = l := List.filter_eq_self.2 h
theorem filter_neg {α : Type} {l : List α} {p : α → Bool} (h : ∀ x ∈ l, p x = false) : l.filter p = [] := List.filter_eq_nil_iff.2 fun x hx => by rw [h x hx]; simp
end
/-- sums over what is cut out -/
theorem cut_sum {α : Type} (f : α → Int) (l : List α) (k : Nat) : (l.filter fun x => decide (f x < (k : Int) + 1)).length = (l.filter fun x => decide (f x < (k : Int))).length + (l.filter fun x => f x == (k : Int)).length := by
  induction l with
  | nil => rfl
  | cons x l ih =>
    by_cases h1 : f x < (k : Int)
    · have h2 : ¬ f x = (k : Int) := by omega
      have h3 : f x < (k : Int) + 1 := by omega
      simp [h1, h2, h3] at ih ⊢; omega
    · by_cases h2 : f x = (k : Int)
      · have h3 : f x < (k : Int) + 1 := by omega
        rw [List.filter_cons_of_pos (by simpa using h3), List.filter_cons_of_neg (by simpa using h1), List.filter_cons_of_pos (by simpa using h2), List.length_cons, List.length_cons]
        omega
      · have h3 : ¬ f x < (k : Int) + 1 := by omega
        simp [h1, h2, h3] at ih ⊢; omega
theorem cut_zero {α : Type} (f : α → Int) (l : List α) (h : ∀ x ∈ l, 0 ≤ f x) : (l.filter fun x => decide (f x < ((0 : Nat) : Int))).length = 0 := by
  rw [filter_neg (fun x hx => decide_eq_false (by have := h x hx; omega))]; rfl
theorem cut_all {α : Type} (f : α → Int) (l : List α) (N : Nat) (h : ∀ x ∈ l, f x < N) : (l.filter fun x => decide (f x < (N : Int))).length = l.length := by
  rw [filter_pos (fun x hx => decide_eq_true (h x hx))]
end Go.Proofs.YtechdefolfboeaaGreatDoor

namespace Go.Proofs.YtechdefolfboeaaGreatDoor
open Go.RowKit B K
set_option linter.unusedVariables false
set_option linter.unusedSimpArgs false
set_option maxRecDepth 100000
set_option maxHeartbeats 2000000
theorem cto1_any (c : ConnP) (t : Int) (bt : Nat) (we : World) (ht : we.cell? ⟨bt, 0, none⟩ = some (.int .i64 t)) : Calls Tryz.prog 67 #[.agg (connE c).toArray, .pointer (some ⟨bt, 0, none⟩)] we fun e w' => e = .returned (.bool (c.to_ == t)) ∧ Below we.heap.size we w' := by
  obtain ⟨x1, x2, x3, x4, x5, x6⟩ := c
  simp only [connE]
  have hb1 := below_alloc we #[.int .i64 x1, .int .i64 x2, .int .i64 x3, .int .i64 x4, .int .i64 x5, .int .i64 x6] 42
  have B1 := Bx.new we 42 [.int .i64 x1, .int .i64 x2, .int .i64 x3, .int .i64 x4, .int .i64 x5, .int .i64 x6]
  obtain ⟨w1, hw1⟩ : ∃ q, we.alloc (.cells #[.int .i64 x1, .int .i64 x2, .int .i64 x3, .int .i64 x4, .int .i64 x5, .int .i64 x6] 42) = q := ⟨_, rfl⟩
  change Bx (we.alloc (.cells #[.int .i64 x1, .int .i64 x2, .int .i64 x3, .int .i64 x4, .int .i64 x5, .int .i64 x6] 42)) _ _ _ at B1
  rw [hw1] at hb1 B1
  obtain ⟨b1, hbE1⟩ : ∃ q, we.heap.size = q := ⟨_, rfl⟩
  rw [hbE1] at B1
  have hup : Hid (Below we.heap.size we w1) := hb1
  have hge1 : Hid (we.heap.size ≤ b1) := by show _ ≤ _; omega
  have ht1 := hup.out.cell (p := ⟨bt, 0, none⟩) (World.block_lt_of_cell? we ⟨bt, 0, none⟩ ht)
  rw [ht] at ht1
  have p0 := B1.cell 3 rfl
  clear B1 ht hge1
  go_enter Tryz.func67, Tryz.ntmps67
  go_wp2_with fail
  clear hw1 hbE1
  go_returns
  exact ⟨rfl, hup.out⟩
theorem cto_any (A : Option Addr) (n c : Nat) (l : List ConnP) (t : Int) (we : World) (hr : Rd we 6 connE A n l) (hn : n ≤ 1099511627776) : Calls Tryz.prog 22 #[.slice A n c, .int .i64 t] we (RetC (l.filter fun c => c.to_ == t) we) := by
  have hb1 := below_alloc we #[.int .i64 t] 3
  have B1 := Bx.new we 3 [.int .i64 t]
  obtain ⟨w1, hw1⟩ : ∃ q, we.alloc (.cells #[.int .i64 t] 3) = q := ⟨_, rfl⟩
  change Bx (we.alloc (.cells #[.int .i64 t] 3)) _ _ _ at B1
  rw [hw1] at hb1 B1
  obtain ⟨b1, hbE1⟩ : ∃ q, we.heap.size = q := ⟨_, rfl⟩
  rw [hbE1] at B1
  have hup : Hid (Below we.heap.size we w1) := hb1
  have hge1 : Hid (we.heap.size ≤ b1) := by show _ ≤ _; omega
  have p0 := B1.cell 0 rfl
  have hlt1 := B1.lt
  have hon := Lib.hid (conly_any 67 #[.pointer (some ⟨b1, 0, none⟩)] (enters_of Tryz.func67 (by kernel_rfl) rfl) (fun c => c.to_ == t) A n c l w1 (hr.below hup.out) hn (fun W x hb => cto1_any x t b1 W ((hb.cell (p := ⟨b1, 0, none⟩) hlt1).trans p0)))
  obtain ⟨L, hL⟩ : ∃ L, l.filter (fun c => c.to_ == t) = L := ⟨_, rfl⟩
  rw [hL] at hon ⊢
  clear B1 hr hL
  go_enter Tryz.func22, Tryz.ntmps22
  go_wp2_with fail
  refine hon.out.mono ?_; rintro e w2 ⟨A', c', rfl, r, h1, h2, hb⟩
  have rH := Lib.hid r
  have h1H := Lib.hid h1
  have h2H := Lib.hid h2
  have hbz := Lib.hid (hup.out.trans (hb.mono hup.out.size))
  clear r h1 h2 hb
  go_wp2_with fail
  clear hw1 hbE1
  go_returns
  exact ⟨A', c', rfl, rH.out, h1H.out, h2H.out, hbz.out⟩
end Go.Proofs.YtechdefolfboeaaGreatDoor

