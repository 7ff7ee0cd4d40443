/-
  Walk: timetablekit.Lists over rows of distances that are alike.
-/
import Derived.Test.YtapfndjaimfcaaaKit13
import Derived.Test.YtapfndjaimfcaaaTriangle
namespace Go.Proofs.Ytapfndjaimfcaaa
open Go.RowKit Go.Shelf B K
set_option linter.unusedVariables false
set_option linter.unusedSimpArgs false
set_option maxHeartbeats 2000000
/-- row i reads D i -/
def RowsD (w : World) (n : Nat) (D : Nat → List Int) (L : List Nat) : Prop := ∀ (i fb : Nat), L[i]? = some fb → w.heap[fb]? = some (.cells ((D i).map (Value.int .i64)).toArray 2 (0, 0)) ∧ (D i).length = n
theorem RowsD.below {w w' : World} {n : Nat} {D : Nat → List Int} {L : List Nat} (h : RowsD w n D L) (hb : Below w.heap.size w w') : RowsD w' n D L := fun i fb hx => by
  obtain ⟨h1, h2⟩ := h i fb hx
  exact ⟨(hb.block fb (Array.getElem?_eq_some_iff.1 h1).1).trans h1, h2⟩
theorem RowsOk.rows {w : World} {base n : Nat} {l : List Ed} {L : List Nat} (h : RowsOk w base n l L) (hL : L.length = n) : ∃ D : Nat → List Int, RowsD w n D L ∧ ∀ i, i < n → IsDist n l i (D i) := by
  have key : ∀ i : Nat, ∃ d : List Int, ∀ fb, L[i]? = some fb → w.heap[fb]? = some (.cells (d.map (Value.int .i64)).toArray 2 (0, 0)) ∧ IsDist n l i d := fun i => by
    cases hx : L[i]? with
    | none => exact ⟨[], fun fb h => by cases h⟩
    | some fb =>
      obtain ⟨_, d, h2, h3⟩ := h i fb hx
      exact ⟨d, fun f hf => by cases hf; exact ⟨h2, h3⟩⟩
  obtain ⟨D, hD⟩ := Classical.axiomOfChoice key
  refine ⟨D, fun i fb hx => ⟨(hD i fb hx).1, (hD i fb hx).2.len⟩, fun i hi => ?_⟩
  exact (hD i (L[i]'(by omega)) (List.getElem?_eq_getElem _)).2
theorem rd_block {w : World} {fb : Nat} {d : List Int} {n : Nat} (h : w.heap[fb]? = some (.cells (d.map (Value.int .i64)).toArray 2 (0, 0))) (hn : d.length = n) : Rd w 1 (numE .i64) (some ⟨fb, 0, none⟩) n d :=
  ⟨hn, fun _ => ⟨fb, 0, rfl, (Array.getElem?_eq_some_iff.1 h).1, fun i x hx j u hu => by
    rw [cell_of_row _ _ _ _ _ _ h]
    cases j with
    | zero =>
      simp [numE] at hu
      subst hu
      simp [hx]
    | succ j => simp [numE] at hu⟩⟩
set_option maxRecDepth 100000 in
theorem lists_any (A A' : Option Addr) (n c c' : Nat) (L L' : List Nat) (D : Nat → List Int) (w : World) (hr : Rd w 1 (rowE n) A n L) (hr' : Rd w 1 (rowE n) A' n L') (hD : RowsD w n D L) (hD' : RowsD w n D L') (hn : n ≤ 1099511627776) :
    Calls Try.prog 27 #[.slice A n c, .slice A' n c'] w fun e w' => e = .returned (.bool true) ∧ Below w.heap.size w w' := by
  have hrh := Lib.hid hr
  have hrh' := Lib.hid hr'
  have hDh := Lib.hid hD
  have hDh' := Lib.hid hD'
  clear hr hr' hD hD'
  go_enter Try.func27, Try.ntmps27
  go_wp2
  go_loopw [5] (fun i wr => ∃ (k : Nat), k ≤ n ∧ i = .int .i64 k ∧ Below w.heap.size w wr) (fun i _ => n - (intOf i).toNat)
  case atStart => exact ⟨0, Nat.zero_le _, rfl, Below.refl _ _⟩
  case round =>
    obtain ⟨k, hk, rfl, hb⟩ := hrel
    by_cases hlt : k < n
    · obtain ⟨b, o, fb, rfl, hbs, hl, h1⟩ := (hrh.out.below hb).row hlt
      obtain ⟨b', o', fb', rfl, hbs', hl', g1⟩ := (hrh'.out.below hb).row hlt
      obtain ⟨hf, hlen⟩ := (hDh.out.below hb) k fb hl
      obtain ⟨hf', _⟩ := (hDh'.out.below hb) k fb' hl'
      have rA := Lib.hid (rd_block hf hlen)
      have rB := Lib.hid (rd_block hf' hlen)
      have hbh := Lib.hid hb
      have hlt2 : (k : Int) < (n : Int) := by omega
      clear hf hf' hl hl' hlen hb
      go_wp2_with fail
      go_upto_region 6 with fail
      refine wp_region_below wr.heap.size (by kernel_rfl) (by kernel_rfl) ?_
      intro C hC
      repeat (go_big_quiet_step (first
        | ((intro _; with_reducible rfl))
        | (intro hc; have m0 := (hc.cell (p := ⟨b, _, none⟩) hbs).trans h1; have m1 := (hc.cell (p := ⟨b', _, none⟩) hbs').trans g1; simp only [m0, m1, Result.andThen]; exact ⟨trivial, rfl⟩)
        | (intro hc; refine (sameL_any (some ⟨fb, 0, none⟩) n n (D k) (some ⟨fb', 0, none⟩) n n (D k) _ (rA.out.below hc) (rB.out.below hc) hn hn).mono ?_; rintro e w' ⟨rfl, hb2⟩; exact ⟨congrArg (fun b => Ending.returned (.bool b)) (decide_eq_true rfl), hc.trans (hb2.mono hc.size)⟩)))
      refine wpQuiet_nil ?_
      intro w9 hb9
      clear hC
      have hfin : Hid (Below w.heap.size w w9) := hbh.out.trans (hb9.mono hbh.out.size)
      clear hb9
      go_wp2_with fail
      go_roundw
      case rel => exact ⟨k + 1, by omega, by go_num, hfin.out⟩
      case measure => simp [intOf]; omega
    · have hbh := Lib.hid hb
      have hlt2 : decide ((k : Int) < (n : Int)) = false := decide_eq_false (by omega)
      clear hb
      go_wp2_with fail
      go_returns
      exact ⟨rfl, hbh.out⟩
end Go.Proofs.Ytapfndjaimfcaaa
