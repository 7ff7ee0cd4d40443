/-
  Walks: container/heap's Push, Pop, Fix over items.
-/
import Derived.Test.YtapfndjaimfcaaaHeap5
import Derived.Test.YtapfndjaimfcaaaHeap7
namespace Go.Proofs.Ytapfndjaimfcaaa
open Go.RowKit Go.Shelf B K
set_option linter.unusedVariables false
set_option linter.unusedSimpArgs false
set_option maxHeartbeats 2000000
/-- the heap is one behind the call; its row may be new -/
def HNext (w w' : World) (base h m : Nat) (sv : Value) (l : List It) : Prop :=
  (∃ sv' l', HW w' base h m sv' l' ∧ IsHeap l' l'.length ∧ l'.Perm l ∧ ∀ g, sv'.ownBlock = some g → g ∈ hbs h m sv ∨ w.heap.size ≤ g) ∧ But w w' (hbs h m sv)
section
variable {w : World} {base h m : Nat} {sv : Value} {l : List It}
theorem mem_own {g : Nat} (hg : sv.ownBlock = some g) : g ∈ hbs h m sv := by simp [hbs, hg]
set_option maxRecDepth 100000 in
theorem down_idle (H : HW w base h m sv l) (k : Nat) (hk : k < l.length) (hi : ∀ c z p, 0 < c → par c = k → l[c]? = some z → l[k]? = some p → ltI z p = false) :
    Calls Try.prog 69 #[.iface 90 (.pointer (some ⟨h, 0, none⟩)), .int .i64 k, .int .i64 l.length] w fun e w' => e = .returned (.bool false) ∧ Below w.heap.size w w' := by
  have mL : ∀ w, Sem.run Try.prog (method (Try.prog.types.size + 100) 90 (.pointer (some ⟨h, 0, none⟩)) "Less") w = .ok (115, .pointer (some ⟨h, 0, none⟩)) w := fun _ => by kernel_rfl
  have eL := enters_of Try.func115 (by kernel_rfl) rfl
  have hll := H.len
  have hkz : (k : Int) ≤ 1099511627776 := by omega
  have hx : l[k]? = some l[k] := List.getElem?_eq_getElem hk
  obtain ⟨x, ex⟩ : ∃ q, l[k] = q := ⟨_, rfl⟩
  rw [ex] at hx
  obtain ⟨n, hn⟩ : ∃ n, l.length = n := ⟨_, rfl⟩
  by_cases h1 : 2 * k + 1 < n
  · have ha : l[2 * k + 1]? = some l[2 * k + 1] := List.getElem?_eq_getElem (by omega)
    obtain ⟨a, ea⟩ : ∃ q, l[2 * k + 1] = q := ⟨_, rfl⟩
    rw [ea] at ha
    have hz1 : 2 * (k : Int) + 1 < (n : Int) := by omega
    have hz0 : ¬ 2 * (k : Int) + 1 < 0 := by omega
    by_cases h2 : 2 * k + 1 + 1 < n
    · have hb : l[2 * k + 1 + 1]? = some l[2 * k + 1 + 1] := List.getElem?_eq_getElem (by omega)
      obtain ⟨b, eb⟩ : ∃ q, l[2 * k + 1 + 1] = q := ⟨_, rfl⟩
      rw [eb] at hb
      have hz2 : 2 * (k : Int) + 1 + 1 < (n : Int) := by omega
      have hL1 : Hid (Calls Try.prog 115 #[.pointer (some ⟨h, 0, none⟩), .int .i64 (2 * (k : Int) + 1 + 1), .int .i64 (2 * (k : Int) + 1)] w fun e w' => e = .returned (.bool (ltI b a)) ∧ Below w.heap.size w w') := by
        have := iLess_any H hb ha
        rwa [show ((2 * k + 1 + 1 : Nat) : Int) = 2 * (k : Int) + 1 + 1 by omega, show ((2 * k + 1 : Nat) : Int) = 2 * (k : Int) + 1 by omega] at this
      cases hv1 : ltI b a with
      | true =>
        have hlt := hi (2 * k + 1 + 1) b x (by omega) (by unfold par; omega) hb hx
        have hL2 : Hid (∀ W, Below w.heap.size w W → Calls Try.prog 115 #[.pointer (some ⟨h, 0, none⟩), .int .i64 (2 * (k : Int) + 1 + 1), .int .i64 (k : Int)] W fun e w' => e = .returned (.bool false) ∧ Below W.heap.size W w') := fun W hW => by
          have := iLess_any (H.below hW) hb hx
          rwa [show ((2 * k + 1 + 1 : Nat) : Int) = 2 * (k : Int) + 1 + 1 by omega, hlt] at this
        rw [hv1] at hL1
        rw [hn]
        clear hv1 hlt hi H hn ha hb hx ea eb ex hk
        go_enter Try.func69, Try.ntmps69
        go_wp2_with fail
        refine wp_loop_rounds 1 ?_
        rw [rounds_succ]
        go_wp2_with (first | (with_reducible refine hL1.out.mono ?_; rintro e w4 ⟨rfl, hb4⟩) | (with_reducible refine (hL2.out _ hb4).mono ?_; rintro e w5 ⟨rfl, hb5⟩))
        go_returns
        exact ⟨rfl, hb4.trans (hb5.mono hb4.size)⟩
      | false =>
        have hlt := hi (2 * k + 1) a x (by omega) (by unfold par; omega) ha hx
        have hL2 : Hid (∀ W, Below w.heap.size w W → Calls Try.prog 115 #[.pointer (some ⟨h, 0, none⟩), .int .i64 (2 * (k : Int) + 1), .int .i64 (k : Int)] W fun e w' => e = .returned (.bool false) ∧ Below W.heap.size W w') := fun W hW => by
          have := iLess_any (H.below hW) ha hx
          rwa [show ((2 * k + 1 : Nat) : Int) = 2 * (k : Int) + 1 by omega, hlt] at this
        rw [hv1] at hL1
        rw [hn]
        clear hv1 hlt hi H hn ha hb hx ea eb ex hk
        go_enter Try.func69, Try.ntmps69
        go_wp2_with fail
        refine wp_loop_rounds 1 ?_
        rw [rounds_succ]
        go_wp2_with (first | (with_reducible refine hL1.out.mono ?_; rintro e w4 ⟨rfl, hb4⟩) | (with_reducible refine (hL2.out _ hb4).mono ?_; rintro e w5 ⟨rfl, hb5⟩))
        go_returns
        exact ⟨rfl, hb4.trans (hb5.mono hb4.size)⟩
    · have hz2 : ¬ 2 * (k : Int) + 1 + 1 < (n : Int) := by omega
      have hlt := hi (2 * k + 1) a x (by omega) (by unfold par; omega) ha hx
      have hL2 : Hid (Calls Try.prog 115 #[.pointer (some ⟨h, 0, none⟩), .int .i64 (2 * (k : Int) + 1), .int .i64 (k : Int)] w fun e w' => e = .returned (.bool false) ∧ Below w.heap.size w w') := by
        have := iLess_any H ha hx
        rwa [show ((2 * k + 1 : Nat) : Int) = 2 * (k : Int) + 1 by omega, hlt] at this
      rw [hn]
      clear hlt hi H hn ha hx ea ex hk
      go_enter Try.func69, Try.ntmps69
      go_wp2_with fail
      refine wp_loop_rounds 1 ?_
      rw [rounds_succ]
      go_wp2_with (with_reducible refine hL2.out.mono ?_; rintro e w4 ⟨rfl, hb4⟩)
      go_returns
      exact ⟨rfl, hb4⟩
  · have hz1 : ¬ 2 * (k : Int) + 1 < (n : Int) := by omega
    rw [hn]
    clear hi H hn hx ex hk
    go_enter Try.func69, Try.ntmps69
    go_wp2_with fail
    refine wp_loop_rounds 1 ?_
    rw [rounds_succ]
    go_wp2_with fail
    go_returns
    exact ⟨rfl, Below.refl _ _⟩
end
end Go.Proofs.Ytapfndjaimfcaaa
