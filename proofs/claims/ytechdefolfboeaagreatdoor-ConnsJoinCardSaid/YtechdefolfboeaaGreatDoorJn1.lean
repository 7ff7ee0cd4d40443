/-
  What the chain's texts hold beyond what lies in the base.
-/
import Derived.Test.YtechdefolfboeaaGreatDoorRs1
import Derived.Test.YtechdefolfboeaaGreatDoorRs2
import Derived.Test.YtechdefolfboeaaGreatDoorRs3
import Derived.Test.YtechdefolfboeaaGreatDoorRs4
import Derived.Test.YtechdefolfboeaaGreatDoorRs5
import Derived.Test.YtechdefolfboeaaGreatDoorRs6
import Derived.Test.YtechdefolfboeaaGreatDoorRs7
import Derived.Test.YtechdefolfboeaaGreatDoorRs8
import Derived.Test.YtechdefolfboeaaGreatDoorRs9
import Derived.Test.YtechdefolfboeaaGreatDoorRs10
import Derived.Test.YtechdefolfboeaaGreatDoorRs11
import Derived.Test.YtechdefolfboeaaGreatDoorRs12
import Derived.Test.YtechdefolfboeaaGreatDoorRs13
import Derived.Test.YtechdefolfboeaaGreatDoorRs14
import Derived.Test.YtechdefolfboeaaGreatDoorRs15
import Derived.Test.YtechdefolfboeaaGreatDoorRs16
import Derived.Test.YtechdefolfboeaaGreatDoorRs17
import Derived.Test.YtechdefolfboeaaGreatDoorRs18
import Derived.Test.YtechdefolfboeaaGreatDoorRs19
import Derived.Test.YtechdefolfboeaaGreatDoorRs20
import Derived.Test.YtechdefolfboeaaGreatDoorRs21
import Derived.Test.YtechdefolfboeaaGreatDoorRs22
import Derived.Test.YtechdefolfboeaaGreatDoorRs23
import Derived.Test.YtechdefolfboeaaGreatDoorRs24
import Derived.Test.YtechdefolfboeaaGreatDoorRs25
import Derived.Test.YtechdefolfboeaaGreatDoorRs26
import Derived.Test.YtechdefolfboeaaGreatDoorRs27
import Derived.Test.YtechdefolfboeaaGreatDoorRs28
import Derived.Test.YtechdefolfboeaaGreatDoorRs29
import Derived.Test.YtechdefolfboeaaGreatDoorRs30
import Derived.Test.YtechdefolfboeaaGreatDoorRs31
import Derived.Test.YtechdefolfboeaaGreatDoorRs32
import Derived.Test.YtechdefolfboeaaGreatDoorRs33
import Derived.Test.YtechdefolfboeaaGreatDoorRs34
import Derived.Test.YtechdefolfboeaaGreatDoorRs35
import Derived.Test.YtechdefolfboeaaGreatDoorRs36
import Derived.Test.YtechdefolfboeaaGreatDoorRs37
import Derived.Test.YtechdefolfboeaaGreatDoorRs38
import Derived.Test.YtechdefolfboeaaGreatDoorRs39
import Derived.Test.YtechdefolfboeaaGreatDoorRs40
import Derived.Test.YtechdefolfboeaaGreatDoorRs41
import Derived.Test.YtechdefolfboeaaGreatDoorRs42
import Derived.Test.YtechdefolfboeaaGreatDoorRs43
import Derived.Test.YtechdefolfboeaaGreatDoorRs44
import Derived.Test.YtechdefolfboeaaGreatDoorRs45
import Derived.Test.YtechdefolfboeaaGreatDoorRs46
import Derived.Test.YtechdefolfboeaaGreatDoorRs47
import Derived.Test.YtechdefolfboeaaGreatDoorRs48
namespace Go.Proofs.YtechdefolfboeaaGreatDoor
namespace B
open Go.RowKit
section
variable {α : Type} {w w' : World} {size n B : Nat} {enc : α → List Value} {A : Option Addr} {l : List α}
end
section
variable {w : World} {n k : Nat} {A : Option Addr} {l : List (Int × Int)}
end
end B
end Go.Proofs.YtechdefolfboeaaGreatDoor
namespace Go.Proofs.YtechdefolfboeaaGreatDoor
namespace B
open Go.RowKit
end B
end Go.Proofs.YtechdefolfboeaaGreatDoor
namespace Go.Proofs.YtechdefolfboeaaGreatDoor
namespace B
open Go.RowKit Go.Sort
end B
end Go.Proofs.YtechdefolfboeaaGreatDoor
namespace Go.Proofs.YtechdefolfboeaaGreatDoor
namespace B
open Go.RowKit
variable {P : Program} {k e : TypeId}
end B
end Go.Proofs.YtechdefolfboeaaGreatDoor
namespace Go.Proofs.YtechdefolfboeaaGreatDoor
namespace B
open Go.RowKit
section
variable {S S' : Nat → Prop} {w w' w1 w2 : World}
end
end B
end Go.Proofs.YtechdefolfboeaaGreatDoor
namespace Go.Proofs.YtechdefolfboeaaGreatDoor
namespace B
open Go.RowKit
end B
end Go.Proofs.YtechdefolfboeaaGreatDoor
namespace Go.Proofs.YtechdefolfboeaaGreatDoor
namespace B
open Go.RowKit
end B
end Go.Proofs.YtechdefolfboeaaGreatDoor
namespace Go.Proofs.YtechdefolfboeaaGreatDoor
namespace B
open Go.RowKit
end B
end Go.Proofs.YtechdefolfboeaaGreatDoor
namespace Go.Proofs.YtechdefolfboeaaGreatDoor
namespace B
open Go.RowKit
end B
end Go.Proofs.YtechdefolfboeaaGreatDoor
namespace Go.Proofs.YtechdefolfboeaaGreatDoor
namespace B
open Go.RowKit
end B
end Go.Proofs.YtechdefolfboeaaGreatDoor
namespace Go.Proofs.YtechdefolfboeaaGreatDoor
namespace B
open Go.RowKit
end B
end Go.Proofs.YtechdefolfboeaaGreatDoor
namespace Go.Proofs.YtechdefolfboeaaGreatDoor
namespace B
open Go.RowKit
set_option linter.unusedVariables false
section
variable {P : Program} {R : World → World → Prop}
section
variable {w0 : World} {base : Act} {ops : List Oper} {F : (Nat → Value) → World → Prop} {n : Nat} {I : List (Nat × (Value → World → Prop))} {o : Oper} {rest : List Oper}
end
end
end B
end Go.Proofs.YtechdefolfboeaaGreatDoor
namespace Go.Proofs.YtechdefolfboeaaGreatDoor
namespace B
open Go.RowKit
set_option linter.unusedVariables false
section
variable {P : Program} {G : (Nat → Bool) → (Nat → Value) → World → Prop}
section
variable {base : Act} {ops : List Oper} {F : (Nat → Value) → World → Prop} {n : Nat} {I : List (Nat × (Value → Prop))} {o : Oper} {rest : List Oper}
end
end
end B
end Go.Proofs.YtechdefolfboeaaGreatDoor
namespace Go.Proofs.YtechdefolfboeaaGreatDoor
namespace B
open Go.RowKit
set_option linter.unusedVariables false
section
variable {P : Program} {G : (Nat → Bool) → (Nat → Value) → World → Prop}
end
end B
end Go.Proofs.YtechdefolfboeaaGreatDoor
namespace Go.Proofs.YtechdefolfboeaaGreatDoor
namespace B
open Go.RowKit
end B
end Go.Proofs.YtechdefolfboeaaGreatDoor
namespace Go.Proofs.YtechdefolfboeaaGreatDoor
namespace B
open Go.RowKit
theorem run_head {P : Program} {t e : TypeId} {s : Nat} (ht : P.underlying t = some (.slice e)) (he : P.elem t = e) (hs : ∀ W, (sizeOf e).run P W = .ok s W) (A : Option Addr) (n c k : Nat) (hk : k ≤ c) (kl : IntKind) (W : World) :
    (Instr.slice t (.slice A n c) none (some (.int kl (k : Int))) none).run P W = .ok (.slice (cutA A c 0 s) k c) W := by
  subst he
  rw [run_slice_h W t A n c ht kl (k : Int) (by omega) (by omega), hs]
  simp [Result.andThen, sliced, cutA]
end B
end Go.Proofs.YtechdefolfboeaaGreatDoor
namespace Go.Proofs.YtechdefolfboeaaGreatDoor
namespace B
open Go.RowKit
set_option linter.unusedVariables false
set_option linter.unusedSimpArgs false
section
variable {α : Type} {enc : α → List Value} {t : TypeId} {size : Nat} {w0 w w' : World} {base : Nat} {v0 xl xa xs v : Value} {a : List α} {e : α} {rd li ap sg : Bool}
end
section
variable {α : Type} {enc : α → List Value} {t : TypeId} {size : Nat} {w0 w w' : World} {v0 x0 x1 x2 x3 xl xs v : Value} {L1 L2 L3 : List α} {y : α} {f0 f1 f2 f3 fs li r1 r2 : Bool}
end
end B
end Go.Proofs.YtechdefolfboeaaGreatDoor
namespace Go.Proofs.YtechdefolfboeaaGreatDoor
namespace B
open Go.RowKit Go.ChangeShapes Go.WideShapes Go.Deep
section
variable {H : Type} {enc : TypeId × Value → H} {P : Program} {w : World} {base : Nat} {spare : Nat → Bool} {held : Bool}
end
end B
end Go.Proofs.YtechdefolfboeaaGreatDoor
namespace Go.Proofs.YtechdefolfboeaaGreatDoor
namespace B
open Go.RowKit Go.ChangeShapes Go.WideShapes Go.Deep Go.Joins
section
variable {H : Type} {enc : TypeId × Value → H} {P : Program} {w : World} {base : Nat} {spare : Nat → Bool} {held : Bool}
end
end B
end Go.Proofs.YtechdefolfboeaaGreatDoor

namespace Go.Proofs.YtechdefolfboeaaGreatDoor
open Go.RowKit B K
set_option linter.unusedVariables false
set_option linter.unusedSimpArgs false
section
variable {M : WorldP} {L : List RunP} {r : RunP}
theorem flat_congr {β γ : Type} {f g : γ → List β} {l : List γ} (h : ∀ x ∈ l, f x = g x) : l.flatMap f = l.flatMap g := by
  rw [List.flatMap_def, List.flatMap_def, List.map_congr_left h]
/-- two lists of runs, one behind the other -/
def shiftC (k : Nat) (c : ConnP) : ConnP := ⟨c.dep, c.arr, c.fr, c.to_, c.run - k, c.pos⟩
theorem range_split (a b : Nat) : List.range (a + b) = List.range a ++ (List.range b).map (a + ·) := by
  rw [List.range_add]
theorem filter_pos {α : Type} {l : List α} {p : α → Bool} (h : ∀ x ∈ l, p x = true) : l.filter p = l := List.filter_eq_self.2 h
theorem filter_neg {α : Type} {l : List α} {p : α → Bool} (h : ∀ x ∈ l, p x = false) : l.filter p = [] := List.filter_eq_nil_iff.2 fun x hx => by rw [h x hx]; simp
theorem ridesL_split (k : Nat) (hk : k ≤ L.length) : (ridesL M L).filter (fun c => decide (c.run < (k : Int))) = ridesL M (L.take k) ∧ ((ridesL M L).filter (fun c => !decide (c.run < (k : Int)))).map (shiftC k) = ridesL M (L.drop k) := by
  have e : ridesL M L = (List.range k).flatMap (ridesAt M L) ++ ((List.range (L.length - k)).map (k + ·)).flatMap (ridesAt M L) := by
    unfold ridesL
    rw [← List.flatMap_append, ← range_split, show k + (L.length - k) = L.length by omega]
  have h1 : ∀ c ∈ (List.range k).flatMap (ridesAt M L), c.run < (k : Int) := fun c hc => by
    obtain ⟨n, hn, hc⟩ := List.mem_flatMap.1 hc
    have := List.mem_range.1 hn
    rw [ridesAt_run hc]; omega
  have h2 : ∀ c ∈ ((List.range (L.length - k)).map (k + ·)).flatMap (ridesAt M L), ¬ c.run < (k : Int) := fun c hc => by
    obtain ⟨n, hn, hc⟩ := List.mem_flatMap.1 hc
    obtain ⟨m, _, rfl⟩ := List.mem_map.1 hn
    rw [ridesAt_run hc]; omega
  rw [e, List.filter_append, List.filter_append, filter_pos (fun c hc => decide_eq_true (h1 c hc)), filter_neg (fun c hc => decide_eq_false (h2 c hc)),
    filter_neg (l := (List.range k).flatMap (ridesAt M L)) (fun c hc => by rw [decide_eq_true (h1 c hc)]; rfl), filter_pos (fun c hc => by rw [decide_eq_false (h2 c hc)]; rfl), List.append_nil, List.nil_append]
  constructor
  · unfold ridesL
    rw [List.length_take, Nat.min_eq_left hk]
    refine flat_congr fun n hn => ?_
    have hn := List.mem_range.1 hn
    unfold ridesAt
    rw [List.getElem?_take, if_pos hn]
  · unfold ridesL
    rw [List.length_drop, List.map_flatMap, List.flatMap_map]
    refine flat_congr fun n hn => ?_
    unfold ridesAt
    rw [List.getElem?_drop]
    split
    · unfold ridesOf
      rw [List.map_map]
      refine List.map_congr_left fun p _ => ?_
      unfold rideC shiftC
      simp
      omega
    · rfl
theorem shift_lt {k : Nat} {a b : ConnP} : ltC (shiftC k a) (shiftC k b) = ltC a b := by
  rw [Bool.eq_iff_iff, ltC_iff, ltC_iff]; unfold shiftC; simp only; omega
theorem make_low (k : Nat) (hk : k ≤ L.length) : (makeC M L).filter (fun c => decide (c.run < (k : Int))) = makeC M (L.take k) :=
  make_filter _ (by rw [(ridesL_split k hk).1]; exact makeC_perm _ _) (sorted_false (makeC_sorted _ _))
theorem make_high (k : Nat) (hk : k ≤ L.length) : ((makeC M L).filter (fun c => !decide (c.run < (k : Int)))).map (shiftC k) = makeC M (L.drop k) := by
  refine makeC_unique ?_ ?_
  · rw [← (ridesL_split k hk).2]
    exact ((makeC_perm M L).filter _).map _
  · rw [List.pairwise_map]
    exact (sorted_false (filter_sorted _ (makeC_sorted M L))).imp fun {a b} h => by rw [shift_lt]; exact h
end
/-- the place of an element among those that are so -/
theorem filter_at {α : Type} {p : α → Bool} : ∀ {l : List α} {n : Nat} {x : α}, l[n]? = some x → p x = true → (l.filter p)[((l.take n).filter p).length]? = some x
  | [], n, x, h, _ => by simp at h
  | y :: l, 0, x, h, hp => by simp at h; subst h; simp [hp]
  | y :: l, n + 1, x, h, hp => by
    have ih := filter_at (l := l) (n := n) (by simpa using h) hp
    rw [List.take_succ_cons, List.filter_cons, List.filter_cons]
    split
    · simpa using ih
    · exact ih
theorem take_filter {α : Type} {p : α → Bool} {l : List α} {n : Nat} {x : α} (h : l[n]? = some x) : ((l.take (n + 1)).filter p).length = ((l.take n).filter p).length + (if p x = true then 1 else 0) := by
  rw [take_at h, List.filter_append, List.length_append]
  by_cases hp : p x = true <;> simp [hp]
theorem firstC_le (t : Int) : ∀ l : List ConnP, firstC l t ≤ l.length
  | [] => Nat.le_refl _
  | c :: l => by have := firstC_le t l; unfold firstC; split <;> simp; omega
theorem firstC_low (t : Int) : ∀ (l : List ConnP) (k : Nat) (c : ConnP), k < firstC l t → l[k]? = some c → c.dep < t
  | [], k, c, h, _ => by simp [firstC] at h
  | x :: l, k, c, h, hk => by
    unfold firstC at h
    split at h
    · rename_i hx
      cases k with
      | zero => simp at hk; subst hk; exact hx
      | succ k => exact firstC_low t l k c (by omega) (by simpa using hk)
    · omega
theorem firstC_at (t : Int) : ∀ (l : List ConnP) (c : ConnP), l[firstC l t]? = some c → t ≤ c.dep
  | [], c, h => by simp at h
  | x :: l, c, h => by
    unfold firstC at h
    split at h
    · exact firstC_at t l c (by simpa using h)
    · simp at h; subst h; omega
theorem firstC_count (t : Int) : ∀ (l : List ConnP), (l.Pairwise fun a b => a.dep ≤ b.dep) → firstC l t = (l.filter fun c => decide (c.dep < t)).length
  | [], _ => rfl
  | x :: l, h => by
    rw [List.pairwise_cons] at h
    unfold firstC
    split
    · rename_i hx; rw [List.filter_cons, if_pos (by simpa using hx), List.length_cons, firstC_count t l h.2]
    · rename_i hx
      rw [filter_neg]
      · rfl
      · intro c hc
        rcases List.mem_cons.1 hc with rfl | hc
        · simpa using hx
        · have := h.1 c hc; simp; omega
theorem sorted_dep {l : List ConnP} (h : l.Pairwise fun a b => ltC a b = true) : l.Pairwise fun a b => a.dep ≤ b.dep := h.imp fun h => by rw [ltC_iff] at h; omega
theorem first_split {M : WorldP} {L : List RunP} (k : Nat) (hk : k ≤ L.length) (t : Int) : firstC (makeC M L) t = firstC (makeC M (L.take k)) t + firstC (makeC M (L.drop k)) t := by
  rw [firstC_count t _ (sorted_dep (makeC_sorted _ _)), firstC_count t _ (sorted_dep (makeC_sorted _ _)), firstC_count t _ (sorted_dep (makeC_sorted _ _)), ← make_low k hk, ← make_high k hk]
  rw [List.filter_map, List.length_map]
  generalize makeC M L = c
  induction c with
  | nil => rfl
  | cons x l ih =>
    by_cases h1 : x.run < (k : Int) <;> by_cases h2 : x.dep < t <;> simp [h1, h2, shiftC] at ih ⊢ <;> omega
end Go.Proofs.YtechdefolfboeaaGreatDoor

namespace Go.Proofs.YtechdefolfboeaaGreatDoor
open Go.RowKit B K
set_option linter.unusedVariables false
set_option linter.unusedSimpArgs false
set_option maxRecDepth 100000
set_option maxHeartbeats 2000000
theorem pick_any (a m : Int) (w : World) (hm : 1 ≤ m ∧ m ≤ 1099511627776) (ha : -9223372036854775808 ≤ a ∧ a ≤ 9223372036854775807) :
    Calls Tryz.prog 16 #[.int .i64 a, .int .i64 m] w fun e w' => ∃ k : Nat, e = .returned (.int .i64 (k : Int)) ∧ (k : Int) < m ∧ Below w.heap.size w w' := by
  have h0 : decide (m < 1) = false := decide_eq_false (by omega)
  have h1 : a.tmod m < m := Int.tmod_lt_of_pos a (by omega)
  have h2 : -m < a.tmod m := by
    rcases Int.le_total 0 a with h | h
    · have := Int.tmod_nonneg (b := m) h; omega
    · have h1 := Int.tmod_lt_of_pos (-a) (show (0 : Int) < m by omega)
      rw [Int.neg_tmod] at h1; omega
  obtain ⟨q, hq⟩ : ∃ q, a.tmod m = q := ⟨_, rfl⟩
  rw [hq] at h1 h2
  have hm0 : m ≠ 0 := by omega
  have hw : IntKind.i64.wrap (a.tmod m) = q := by rw [hq]; exact IntWalk.i64_in _ (by omega)
  have hw2 : IntKind.i64.wrap q = q := IntWalk.i64_in _ (by omega)
  go_enter Tryz.func16, Tryz.ntmps16
  by_cases hneg : q < 0
  · have hw3 : IntKind.i64.wrap (q + m) = q + m := IntWalk.i64_in _ (by omega)
    go_wp2_with fail
    go_returns
    exact ⟨(q + m).toNat, ret_int (by omega), by omega, Below.refl _ _⟩
  · have hneg' : decide (q < 0) = false := decide_eq_false hneg
    go_wp2_with fail
    go_returns
    exact ⟨q.toNat, ret_int (by omega), by omega, Below.refl _ _⟩
end Go.Proofs.YtechdefolfboeaaGreatDoor

