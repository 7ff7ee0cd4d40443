/-
  Walks: timetablekit.Pick; heap.All in a row of its own.
-/
import Derived.Test.YtapfndjaimfcaaaHeap13
namespace Go.Proofs.Ytapfndjaimfcaaa
open Go.RowKit Go.Shelf B K
set_option linter.unusedVariables false
set_option linter.unusedSimpArgs false
set_option maxHeartbeats 2000000
theorem pick_any (a m : Int) (w : World) (hm : 1 ≤ m ∧ m ≤ 1099511627776) (ha : -9223372036854775808 ≤ a ∧ a ≤ 9223372036854775807) :
    Calls Try.prog 16 #[.int .i64 a, .int .i64 m] w fun e w' => ∃ k : Nat, e = .returned (.int .i64 (k : Int)) ∧ (k : Int) < m ∧ Below w.heap.size w w' := by
  have h0 : decide (m < 1) = false := decide_eq_false (by omega)
  have h1 : a.tmod m < m := Int.tmod_lt_of_pos a (by omega)
  have h2 : -m < a.tmod m := by
    rcases Int.le_total 0 a with h | h
    · have := Int.tmod_nonneg (b := m) h; omega
    · have h1 := Int.tmod_lt_of_pos (-a) (show (0 : Int) < m by omega)
      rw [Int.neg_tmod] at h1; omega
  obtain ⟨q, hq⟩ : ∃ q, a.tmod m = q := ⟨_, rfl⟩
  rw [hq] at h1 h2
  have hm0 : m ≠ 0 := by omega
  have hw : IntKind.i64.wrap (a.tmod m) = q := by rw [hq]; exact IntWalk.i64_in _ (by omega)
  have hw2 : IntKind.i64.wrap q = q := IntWalk.i64_in _ (by omega)
  go_enter Try.func16, Try.ntmps16
  by_cases hneg : q < 0
  · have hw3 : IntKind.i64.wrap (q + m) = q + m := IntWalk.i64_in _ (by omega)
    go_wp2_with fail
    go_returns
    exact ⟨(q + m).toNat, ret_int (by omega), by omega, Below.refl _ _⟩
  · have hneg' : decide (q < 0) = false := decide_eq_false hneg
    go_wp2_with fail
    go_returns
    exact ⟨q.toNat, ret_int (by omega), by omega, Below.refl _ _⟩
theorem srt_strict {l : List It} (h : (l.map Prod.snd).Nodup) : (srtI l).Pairwise fun a b => ltI a b = true := by
  have hnd : (srtI l).Nodup := (srtI_perm l).nodup_iff.2 ((List.pairwise_map.1 h).imp fun hne e => hne (by rw [e]))
  refine ((srtI_sorted l).and hnd).imp fun {a b} hab => ?_
  rcases ltI_conn a b with e | e | e
  · exact e
  · exact absurd e hab.2
  · rw [e] at hab; cases hab.1
section
variable {w w' : World} {base h m : Nat} {sv : Value} {l l2 : List It} {X : List Nat}
/-- all items, in a row of its own -/
theorem sortedF_own (gf : Nat) (lb : Array Value) (eg : ∀ args w, (callFunc gf args).run Try.prog w = .ok (.enter gf args) w) (l : List It) (hl : l.length ≤ 1099511627776) (w : World)
    (hit : Iter Try.prog gf lb itV l (fun k => k < w.heap.size) (fun _ => False) w) :
    Calls Try.prog 53 #[.func (.func gf) #[] lb, .func (.func 55) #[] #[]] w fun e w' => ∃ v, e = .returned v ∧ w'.ownsRow w.heap.size 53 2 v (srtI l).length ((srtI l).flatMap pairE) ∧ Below w.heap.size w w' := by
  have hC := Lib.hid (collect_any gf lb eg l hl w hit)
  clear hit
  go_enter Try.func53, Try.ntmps53
  go_wp2_with fail
  refine hC.out.mono ?_; rintro e w1 ⟨v, rfl, own, hb⟩
  have hS := Lib.hid (sortI_any w.heap.size v l w1 own (by omega))
  go_wp2_with fail
  refine hS.out.mono ?_; rintro e w2 ⟨rfl, own2, hg⟩
  have hb2 : Below w.heap.size w w2 := hb.grown hg hb.size (fun g hg => (own.lt g hg).1)
  go_wp2_with fail
  go_returns
  exact ⟨v, rfl, own2, hb2⟩
theorem All_own (H : HQ w base h X l) : Calls Try.prog 34 #[.pointer (some ⟨h, 0, none⟩)] w fun e w' => ∃ v, e = .returned v ∧ w'.ownsRow w.heap.size 53 2 v (srtI l).length ((srtI l).flatMap pairE) ∧ Below w.heap.size w w' := by
  obtain ⟨m, sv, l', H, _, hp, _⟩ := H
  have hle := H.len
  obtain ⟨A, c, rfl, hr, hc, hc2⟩ := Rd.of_own (enc := pairE) pairE_len2 rfl H.own
  have c0 := H.c0
  have hb1 : Below w.heap.size w (w.alloc (.cells #[.slice A l'.length c] 48)) := (Below.refl _ w).alloc (Nat.le_refl _) _
  have hnew := heap_alloc_new w (.cells #[.slice A l'.length c] 48)
  have hit := Lib.hid (values_iter w.heap.size A l'.length c l' (w.alloc (.cells #[.slice A l'.length c] 48)) (by simp) (by rw [cell_of_row _ _ _ _ _ _ hnew]; rfl) (hr.below hb1) hle)
  rw [← srtI_congr hp]
  have hS := Lib.hid (sortedF_own 65 _ (enters_of Try.func65 (by kernel_rfl) rfl) l' hle _ hit.out)
  obtain ⟨n, hn⟩ : ∃ n, l'.length = n := ⟨_, rfl⟩
  rw [hn] at c0 hb1 hS
  clear H hp hr hc hc2 hit hnew hle hn
  go_enter Try.func34, Try.ntmps34
  go_wp2_with (first | (go_at_call 54; refine (values_any _ _ ⟨_, _, _, rfl⟩).mono ?_; rintro e w1 ⟨rfl, rfl⟩) | (go_at_call 53; refine hS.out.mono ?_; rintro e w2 ⟨v, rfl, own, hb2⟩))
  go_returns
  exact ⟨v, rfl, own_low own hb1.size, hb1.trans (hb2.mono hb1.size)⟩
end

end Go.Proofs.Ytapfndjaimfcaaa
