/-
  Walk: the reference's From and All.
-/
import Derived.Test.YtapfndjaimfcaaaRefChk13
import Derived.Test.YtapfndjaimfcaaaRefFrom13
namespace Go.Proofs.Ytapfndjaimfcaaa
open Go.RowKit Go.Shelf B K
set_option linter.unusedVariables false
set_option linter.unusedSimpArgs false
set_option maxHeartbeats 2000000
section
variable {A : Option Addr} {m c : Nat} {l : List Ed} {w : World}
theorem rFrom_bad (n s : Int) (hr : Rd w 3 tripE A m l) (hm : m ≤ 1099511627776) (hc : chkE n l ≠ 0) :
    Calls Try.prog 24 #[.int .i64 n, .slice A m c, .int .i64 s] w fun e w' => e = .returned (.tuple #[.slice none 0 0, .int .i64 (chkE n l)]) ∧ Below w.heap.size w w' := by
  have hC := Lib.hid (rchk_any n A m c l w hr hm)
  obtain ⟨q, hq⟩ : ∃ q, chkE n l = q := ⟨_, rfl⟩
  rw [hq] at hC hc ⊢
  have hd : (q != 0) = true := by simpa using hc
  clear hr hq
  go_enter Try.func24, Try.ntmps24
  go_wp2_with (go_at_call 28; refine hC.out.mono ?_; rintro e w1 ⟨rfl, hb⟩)
  go_returns
  exact ⟨rfl, hb⟩
theorem rFrom_arg (n s : Int) (hr : Rd w 3 tripE A m l) (hm : m ≤ 1099511627776) (hc : chkE n l = 0) (hs : s < 0 ∨ n ≤ s) :
    Calls Try.prog 24 #[.int .i64 n, .slice A m c, .int .i64 s] w fun e w' => e = .returned (.tuple #[.slice none 0 0, .int .i64 2]) ∧ Below w.heap.size w w' := by
  have hC := Lib.hid (rchk_any n A m c l w hr hm)
  rw [hc] at hC
  clear hr hc
  by_cases h0 : s < 0
  · have hd0 : decide (s < 0) = true := decide_eq_true h0
    go_enter Try.func24, Try.ntmps24
    go_wp2_with (go_at_call 28; refine hC.out.mono ?_; rintro e w1 ⟨rfl, hb⟩)
    go_returns
    exact ⟨rfl, hb⟩
  · have hd0 : decide (s < 0) = false := decide_eq_false h0
    have hd1 : decide (n ≤ s) = true := decide_eq_true (by omega)
    go_enter Try.func24, Try.ntmps24
    go_wp2_with (go_at_call 28; refine hC.out.mono ?_; rintro e w1 ⟨rfl, hb⟩)
    go_returns
    exact ⟨rfl, hb⟩
theorem rFrom_ok (n s : Nat) (D : List Int) (hr : Rd w 3 tripE A m l) (hm : m ≤ 1099511627776) (hc : chkE n l = 0) (hs : s < n) (hD : IsDist n l s D) :
    Calls Try.prog 24 #[.int .i64 n, .slice A m c, .int .i64 s] w fun e w' => ∃ fb, e = .returned (.tuple #[.slice (some ⟨fb, 0, none⟩) n n, .int .i64 0]) ∧ w.heap.size ≤ fb ∧ w'.heap[fb]? = some (.cells (ivs D) 2 (0, 0)) ∧ Below w.heap.size w w' := by
  have hC := Lib.hid (rchk_any n A m c l w hr hm)
  rw [hc] at hC
  obtain ⟨hll, _, hn⟩ := chk_len hc
  have hE := eds_ok hc
  have hml := hr.len
  have hF : Hid (∀ W, Below w.heap.size w W → Calls Try.prog 51 #[.int .i64 n, .slice A m c, .int .i64 s] W fun e w' => ∃ fb, e = .returned (.slice (some ⟨fb, 0, none⟩) n n) ∧ W.heap.size ≤ fb ∧ w'.heap[fb]? = some (.cells (ivs D) 2 (0, 0)) ∧ Below W.heap.size W w') := fun W hW =>
    rfrom_any n s A m c l D W (hr.below hW) (by omega) hE hs (by omega) hD
  have hs2 : decide ((n : Int) ≤ (s : Int)) = false := decide_eq_false (by omega)
  have hs3 : decide ((s : Int) < 0) = false := decide_eq_false (by omega)
  clear hr hc hml hE hD
  go_enter Try.func24, Try.ntmps24
  go_wp2_with (first | (go_at_call 28; refine hC.out.mono ?_; rintro e w1 ⟨rfl, hb⟩) | (go_at_call 51; refine (hF.out _ hb).mono ?_; rintro e w2 ⟨fb, rfl, hfb, hf, hb2⟩))
  go_returns
  exact ⟨fb, rfl, Nat.le_trans hb.size hfb, hf, hb.trans (hb2.mono hb.size)⟩
theorem rAll_bad (n : Int) (hr : Rd w 3 tripE A m l) (hm : m ≤ 1099511627776) (hc : chkE n l ≠ 0) :
    Calls Try.prog 26 #[.int .i64 n, .slice A m c] w fun e w' => e = .returned (.tuple #[.slice none 0 0, .int .i64 (chkE n l)]) ∧ Below w.heap.size w w' := by
  have hC := Lib.hid (rchk_any n A m c l w hr hm)
  obtain ⟨q, hq⟩ : ∃ q, chkE n l = q := ⟨_, rfl⟩
  rw [hq] at hC hc ⊢
  have hd : (q != 0) = true := by simpa using hc
  clear hr hq
  go_enter Try.func26, Try.ntmps26
  go_wp2_with (go_at_call 28; refine hC.out.mono ?_; rintro e w1 ⟨rfl, hb⟩)
  go_returns
  exact ⟨rfl, hb⟩
theorem rAll_ok (n : Nat) (D : Nat → List Int) (hr : Rd w 3 tripE A m l) (hm : m ≤ 1099511627776) (hc : chkE n l = 0) (hD : ∀ i, i < n → IsDist n l i (D i)) :
    Calls Try.prog 26 #[.int .i64 n, .slice A m c] w fun e w' => ∃ A' c' L, e = .returned (.tuple #[.slice A' n c', .int .i64 0]) ∧ Rd w' 1 (rowE n) A' n L ∧ RowsOk w' w.heap.size n l L ∧ Below w.heap.size w w' := by
  have hC := Lib.hid (rchk_any n A m c l w hr hm)
  rw [hc] at hC
  obtain ⟨hll, _, hn⟩ := chk_len hc
  have hE := eds_ok hc
  have hml := hr.len
  have hF0 : Hid (∀ W k, k < n → Below w.heap.size w W → Calls Try.prog 51 #[.int .i64 n, .slice A m c, .int .i64 k] W fun e w' => ∃ fb, e = .returned (.slice (some ⟨fb, 0, none⟩) n n) ∧ W.heap.size ≤ fb ∧ w'.heap[fb]? = some (.cells (ivs (D k)) 2 (0, 0)) ∧ Below W.heap.size W w') := fun W k hk hW =>
    rfrom_any n k A m c l (D k) W (hr.below hW) (by omega) hE hk (by omega) (hD k hk)
  have hDh := Lib.hid hD
  have hn' : n ≤ 256 := by omega
  clear hr hc hml hE hD
  go_enter Try.func26, Try.ntmps26
  go_wp2_with (go_at_call 28; refine hC.out.mono ?_; rintro e w2 ⟨rfl, hb12⟩)
  clear hC
  go_loopw [7, 8] (fun v i wr => ∃ (k : Nat) (L : List Nat), k ≤ n ∧ L.length = k ∧ i = .int .i64 k ∧ wr.ownsRow w2.heap.size 27 1 v L.length (L.flatMap (rowE n)) ∧ RowsOk wr w2.heap.size n l L ∧ Below w2.heap.size w2 wr) (fun _ i _ => n - (intOf i).toNat)
  case atStart => exact ⟨0, [], Nat.zero_le _, rfl, rfl, World.ownsRow_nil _ _ _ _, fun i fb h => (by simp at h), Below.refl _ _⟩
  case round =>
    obtain ⟨k, L, hk, hL, rfl, own, hR, hb⟩ := hrel
    by_cases hlt : k < n
    · have hbw : Below w.heap.size w wr := hb12.trans (hb.mono hb12.size)
      have hF := Lib.hid (hF0.out wr k hlt hbw)
      have hLk := Lib.hid hL
      have ownh := Lib.hid own
      have hkn : (k : Int) < (n : Int) := by omega
      clear own hL
      go_wp2_with fail
      refine hF.out.mono ?_; rintro e w3 ⟨fb, rfl, hfb, hf, hb3⟩
      have hf : w3.heap[fb]? = some (.cells ((D k).map (Value.int .i64)).toArray 2 (0, 0)) := hf
      have own3 := own_up ownh.out hb3
      have hR3 := hR.below hb3
      have hb23 := hb.trans (hb3.mono hb.size)
      obtain ⟨gg, cc, w4, hrun, own4, hgr, hg⟩ := append_one (enc := rowE n) Try.underlying41 infoI64s rfl (by decide) (rowE_len n) (rowE_one n) w3 w2.heap.size _ L fb own3 (by rw [hLk.out]; omega) (by decide) hb23.size
      have ha3 : Below w3.heap.size w3 (w3.alloc (.cells (rowE n fb).toArray 27)) := (Below.refl _ w3).alloc (Nat.le_refl _) _
      have hfa := (ha3.block fb (Array.getElem?_eq_some_iff.1 hf).1).trans hf
      have hRa : RowsOk (w3.alloc (.cells (rowE n fb).toArray 27)) w2.heap.size n l (L ++ [fb]) := (hR3.below ha3).snoc (Nat.le_trans hb.size hfb) hfa (by rw [hLk.out]; exact hDh.out k hlt)
      have hR4 := hRa.grown (own3.alloc _) hgr
      have hb4 : Below w2.heap.size w2 w4 := (hb23.trans (ha3.mono hb23.size)).grown hgr (by have := hb23.size; have := ha3.size; omega) (fun g hg => (own3.lt g hg).1)
      have hpost : Hid (w4.ownsRow w2.heap.size 27 1 (.slice (some ⟨gg, 0, none⟩) (L.length + 1) cc) (L ++ [fb]).length ((L ++ [fb]).flatMap (rowE n)) ∧ RowsOk w4 w2.heap.size n l (L ++ [fb]) ∧ Below w2.heap.size w2 w4) := ⟨own4, hR4, hb4⟩
      clear own3 hR3 hb23 ha3 hfa hRa hR4 hb4 own4 hgr hg hR hF hfb hf hb3 hb hbw
      simp only [rowE] at hrun
      go_wp2_with (at_builtin; refine wpList_append_run ?a1 (.tmp 20) (.tmp 25) 41 ?a2 ?a3 ?a4 hrun ?_)
      case a1 => rfl
      case a2 => rfl
      try (case a3 => rfl)
      try (case a4 => rfl)
      go_roundw
      case rel => exact ⟨k + 1, L ++ [fb], by omega, by rw [List.length_append, hLk.out]; rfl, by go_num, hpost.out.1, hpost.out.2⟩
      case measure => simp [intOf]; omega
    · obtain rfl : k = n := by omega
      rw [hL] at own
      obtain ⟨A', c', rfl, r1, r2, r3⟩ := Rd.of_own (rowE_len k) hL own
      have hLh := Lib.hid hL
      clear hL
      have hr1 := Lib.hid r1
      have hbw : Below w.heap.size w wr := hb12.trans (hb.mono hb12.size)
      have hkn : decide ((k : Int) < (k : Int)) = false := decide_eq_false (by omega)
      clear r1 own
      go_wp2_with fail
      go_returns
      exact ⟨A', c', L, rfl, hr1.out, fun i f hx => ⟨Nat.le_trans hb12.size (hR i f hx).1, (hR i f hx).2⟩, hbw⟩
end
end Go.Proofs.Ytapfndjaimfcaaa
