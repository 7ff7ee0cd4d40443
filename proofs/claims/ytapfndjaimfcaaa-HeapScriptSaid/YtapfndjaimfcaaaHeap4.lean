/-
  Walks: container/heap's up and down over items.
-/
import Derived.Shelf.Abstract
import Derived.Test.YtapfndjaimfcaaaHeap3
namespace Go.Proofs.Ytapfndjaimfcaaa
open Go.RowKit Go.Shelf B K
set_option linter.unusedVariables false
set_option linter.unusedSimpArgs false
set_option maxHeartbeats 2000000
section
variable {w : World} {base h m : Nat} {sv : Value} {l : List It}
theorem less_at (H : HW w base h m sv l) {i j : Nat} {x y : It} (hx : l[i]? = some x) (hy : l[j]? = some y) : Hid (Calls Try.prog 115 #[.pointer (some ⟨h, 0, none⟩), .int .i64 i, .int .i64 j] w fun e w' => e = .returned (.bool (ltI x y)) ∧ Below w.heap.size w w') := iLess_any H hx hy
set_option maxRecDepth 100000 in
theorem up_any (H : HW w base h m sv l) (j : Nat) (hj : j < l.length) (hu : UpInv l j) :
    Calls Try.prog 62 #[.iface 90 (.pointer (some ⟨h, 0, none⟩)), .int .i64 j] w fun e w' => e = .returned (.tuple #[]) ∧ (∃ l', HW w' base h m sv l' ∧ l'.Perm l ∧ IsHeap l' l'.length) ∧ But w w' (hbs h m sv) := by
  have mL : ∀ w, Sem.run Try.prog (method (Try.prog.types.size + 100) 90 (.pointer (some ⟨h, 0, none⟩)) "Less") w = .ok (115, .pointer (some ⟨h, 0, none⟩)) w := fun _ => by kernel_rfl
  have mS : ∀ w, Sem.run Try.prog (method (Try.prog.types.size + 100) 90 (.pointer (some ⟨h, 0, none⟩)) "Swap") w = .ok (118, .pointer (some ⟨h, 0, none⟩)) w := fun _ => by kernel_rfl
  have eL := enters_of Try.func115 (by kernel_rfl) rfl
  have eS := enters_of Try.func118 (by kernel_rfl) rfl
  have hll := H.len
  go_enter Try.func62, Try.ntmps62
  go_wp2_with fail
  go_loopw [1] (fun vj wr => ∃ (j : Nat) (l' : List It), vj = .int .i64 j ∧ j < l.length ∧ HW wr base h m sv l' ∧ Hid (UpInv l' j) ∧ Hid (l'.Perm l) ∧ But w wr (hbs h m sv)) (fun vj _ => (intOf vj).toNat)
  case atStart => exact ⟨j, l, rfl, hj, H, hu, List.Perm.refl _, But.refl _ _⟩
  case round =>
    obtain ⟨j, l', rfl, hj, H', hu, hp, hb⟩ := hrel
    have hlen := hp.out.length_eq
    by_cases h0 : j = 0
    · subst h0
      go_wp2_with fail
      go_returns
      exact ⟨rfl, ⟨l', H', hp.out, up_zero hu.out⟩, hb⟩
    · obtain ⟨k, rfl⟩ : ∃ k, j = k + 1 := ⟨j - 1, by omega⟩
      have hx : l'[k + 1]? = some l'[k + 1] := List.getElem?_eq_getElem (by omega)
      have hpl : par (k + 1) < l'.length := by have := par_lt (c := k + 1) (by omega); omega
      have hy : l'[par (k + 1)]? = some l'[par (k + 1)] := List.getElem?_eq_getElem hpl
      obtain ⟨x, ex⟩ : ∃ x, l'[k + 1] = x := ⟨_, rfl⟩
      obtain ⟨y, ey⟩ : ∃ y, l'[par (k + 1)] = y := ⟨_, rfl⟩
      rw [ex] at hx
      rw [ey] at hy
      have e1 : ((k + 1 : Nat) : Int) = (k : Int) + 1 := by omega
      have e2 : ((par (k + 1) : Nat) : Int) = (k : Int) / 2 := by unfold par; simp
      have hless := less_at H' hx hy
      rw [e1, e2] at hless
      have hne : ((k : Int) / 2 == (k : Int) + 1) = false := by simp; omega
      clear ex ey
      cases hv : ltI x y with
      | false =>
        have hfin : Hid (IsHeap l' l'.length) := up_stop hu.out fun a b ha hb2 => by rw [hx] at ha; rw [hy] at hb2; cases ha; cases hb2; exact hv
        rw [hv] at hless
        clear hv hx hy
        go_wp2_with (refine hless.out.mono ?_; rintro e w4 ⟨rfl, hb4⟩)
        go_returns
        exact ⟨rfl, ⟨l', H'.below hb4, hp.out, hfin.out⟩, hb.trans (But.of_below hb4 _)⟩
      | true =>
        have hstep : Hid (UpInv (swp l' (par (k + 1)) (k + 1) y x) (par (k + 1))) := up_step hu.out (by omega) hx hy hv
        have hperm : Hid ((swp l' (par (k + 1)) (k + 1) y x).Perm l) := (swp_perm hy hx).trans hp.out
        have hswap : Hid (∀ W, Below wr.heap.size wr W → Calls Try.prog 118 #[.pointer (some ⟨h, 0, none⟩), .int .i64 ((k : Int) / 2), .int .i64 ((k : Int) + 1)] W fun e w' => e = .returned (.tuple #[]) ∧ HW w' base h m sv (swp l' (par (k + 1)) (k + 1) y x) ∧ But W w' (hbs h m sv)) := fun W hW => by
          have := iSwap_any (H'.below hW) hy hx
          rw [e1, e2] at this
          exact this
        rw [hv] at hless
        clear hv hx hy
        go_wp2_with (first
          | (refine hless.out.mono ?_; rintro e w4 ⟨rfl, hb4⟩)
          | (refine (hswap.out _ hb4).mono ?_; rintro e w5 ⟨rfl, H5, hb5⟩))
        go_roundw
        case rel => exact ⟨par (k + 1), _, by rw [e2], by have := par_lt (c := k + 1) (by omega); omega, H5, hstep, hperm, (hb.trans (But.of_below hb4 _)).trans hb5⟩
        case measure => simp [intOf]; omega
end
end Go.Proofs.Ytapfndjaimfcaaa
