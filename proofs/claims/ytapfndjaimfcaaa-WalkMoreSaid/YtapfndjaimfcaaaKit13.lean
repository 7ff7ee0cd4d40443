/-
  Walks: timetablekit.Pick, Own at edges.
-/
import Derived.Test.YtapfndjaimfcaaaRank
namespace Go.Proofs.Ytapfndjaimfcaaa
open Go.RowKit Go.Shelf B K
set_option linter.unusedVariables false
set_option linter.unusedSimpArgs false
set_option maxHeartbeats 2000000
theorem pick_any (a m : Int) (w : World) (hm : 1 ≤ m ∧ m ≤ 1099511627776) (ha : -9223372036854775808 ≤ a ∧ a ≤ 9223372036854775807) :
    Calls Try.prog 16 #[.int .i64 a, .int .i64 m] w fun e w' => ∃ k : Nat, e = .returned (.int .i64 (k : Int)) ∧ (k : Int) < m ∧ Below w.heap.size w w' := by
  have h0 : decide (m < 1) = false := decide_eq_false (by omega)
  have h1 : a.tmod m < m := Int.tmod_lt_of_pos a (by omega)
  have h2 : -m < a.tmod m := by
    rcases Int.le_total 0 a with h | h
    · have := Int.tmod_nonneg (b := m) h; omega
    · have h1 := Int.tmod_lt_of_pos (-a) (show (0 : Int) < m by omega)
      rw [Int.neg_tmod] at h1; omega
  obtain ⟨q, hq⟩ : ∃ q, a.tmod m = q := ⟨_, rfl⟩
  rw [hq] at h1 h2
  have hm0 : m ≠ 0 := by omega
  have hw : IntKind.i64.wrap (a.tmod m) = q := by rw [hq]; exact IntWalk.i64_in _ (by omega)
  have hw2 : IntKind.i64.wrap q = q := IntWalk.i64_in _ (by omega)
  go_enter Try.func16, Try.ntmps16
  by_cases hneg : q < 0
  · have hw3 : IntKind.i64.wrap (q + m) = q + m := IntWalk.i64_in _ (by omega)
    go_wp2_with fail
    go_returns
    exact ⟨(q + m).toNat, ret_int (by omega), by omega, Below.refl _ _⟩
  · have hneg' : decide (q < 0) = false := decide_eq_false hneg
    go_wp2_with fail
    go_returns
    exact ⟨q.toNat, ret_int (by omega), by omega, Below.refl _ _⟩
theorem own_lit0' (w : World) (base : Nat) (e : TypeId) (size : Nat) (hb : base ≤ w.heap.size) : (w.alloc (.cells #[] e)).ownsRow base e size (.slice (some ⟨w.heap.size, 0, none⟩) 0 0) 0 [] := by
  refine ⟨by simp, .inr ⟨w.heap.size, 0, #[], rfl, hb, heap_alloc_new w _, Nat.le_refl _, Nat.zero_le _, by simp, by simp⟩⟩
theorem ownE_any (A : Option Addr) (n c : Nat) (l : List Ed) (w : World) (hr : Rd w 3 tripE A n l) (hn : n ≤ 1099511627776) :
    Calls Try.prog 19 #[.slice A n c] w fun e w' => ∃ v, e = .returned v ∧ w'.ownsRow w.heap.size 32 3 v n (l.flatMap tripE) ∧ Below w.heap.size w w' := by
  obtain ⟨v, w1, hrun, own, hg, _⟩ := own_append (enc := tripE) Try.underlying22 infoEdge rfl (by decide) tripE_len tripE_one c (l := []) (own_lit0' w w.heap.size 32 3 (Nat.le_refl _)) (hr.below ((Below.refl _ w).alloc (Nat.le_refl _) _)) (by simpa using hn) (by decide) (by simp)
  have hb : Hid (Below w.heap.size w w1) := ((Below.refl _ w).alloc (Nat.le_refl _) _).grown hg (by simp) (fun k hk => by simp [Value.ownBlock] at hk; omega)
  simp only [List.length_nil, Nat.zero_add, List.nil_append] at hrun own
  have ownh := Lib.hid own
  clear own hg
  go_enter Try.func19, Try.ntmps19
  go_wp2_with (at_builtin; refine wpList_append_run ?a1 (.tmp 3) (.tmp 4) 22 ?a2 ?a3 ?a4 hrun ?_)
  case a1 => rfl
  case a2 => rfl
  try (case a3 => rfl)
  try (case a4 => rfl)
  go_returns
  exact ⟨v, rfl, ownh.out, hb.out⟩
end Go.Proofs.Ytapfndjaimfcaaa
