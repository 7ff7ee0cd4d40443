/-
  Walk: timetablelaw13.WalkNames.
-/
import Derived.Test.YtapfndjaimfcaaaWkD
namespace Go.Proofs.Ytapfndjaimfcaaa
open Go.RowKit Go.Shelf B K
set_option linter.unusedVariables false
set_option linter.unusedSimpArgs false
set_option maxHeartbeats 2000000
theorem rd_made {w : World} {k : Nat} (n : Nat) (h : w.heap[k]? = some (.cells (madeCells #[.int .i64 0, .int .i64 0, .int .i64 0] (n * 3)) 32 (0, 0))) : Rd w 3 tripE (some ⟨k, 0, none⟩) n (List.replicate n (0, 0, 0)) :=
  ⟨by simp, fun _ => ⟨k, 0, rfl, (Array.getElem?_eq_some_iff.1 h).1, fun i x hx j u hu => by
    have hin : i < n := by
      have := (List.getElem?_eq_some_iff.1 hx).1
      simpa using this
    have hj : j < 3 := (List.getElem?_eq_some_iff.1 hu).1
    rw [List.getElem?_replicate, if_pos hin] at hx
    cases hx
    have hu0 : u = .int .i64 0 := by
      match j, hj, hu with
      | 0, _, hu => exact (Option.some.inj hu).symm
      | 1, _, hu => exact (Option.some.inj hu).symm
      | 2, _, hu => exact (Option.some.inj hu).symm
    subst hu0
    rw [cell_of_row _ _ _ _ _ _ h, Nat.zero_add]
    unfold madeCells
    rw [Array.getElem?_map, Array.getElem?_eq_getElem (by simp; omega)]
    simp only [Option.map_some, Array.getElem_range]
    have hm : (i * 3 + j) % 3 = 0 ∨ (i * 3 + j) % 3 = 1 ∨ (i * 3 + j) % 3 = 2 := by omega
    show some (#[Value.int .i64 0, .int .i64 0, .int .i64 0][(i * 3 + j) % 3]!) = _
    rcases hm with e | e | e <;> rw [e] <;> rfl⟩⟩
theorem make_edges (n : Nat) (hn : n ≤ 4097) (W : World) : (Instr.makeSlice 22 (.int .i64 (n : Int)) (.int .i64 (n : Int))).run Try.prog W = .ok (.slice (some ⟨W.heap.size, 0, none⟩) n n) (W.alloc (.cells (madeCells #[.int .i64 0, .int .i64 0, .int .i64 0] (n * 3)) 32)) := by
  obtain ⟨i, hi, hz, hs, hb⟩ := info_parts infoEdge
  have := run_make W 22 32 i _ Try.underlying22 hi hz .i64 .i64 (n : Int) (n : Int) (by omega) (Int.le_refl _) (by rw [hb]; omega) (by omega)
  rw [hs] at this
  simpa [Value.cells] using this
abbrev exT : List Ed := [(0, 1, 1099511627776), (1, 2, 1)]
theorem exT_d {d : List Int} (h : IsDist 3 exT 0 d) : d = [0, 1099511627776, 4611686018427387904] := h.uniq (eds_ok (by decide : chkE 3 exT = 0)) (isDistB_ok (by decide))
set_option maxRecDepth 100000 in
theorem names13_any (w : World) : Calls Try.prog 5 #[] w fun e w' => e = .returned (.bool true) ∧ Below w.heap.size w w' := by
  go_enter Try.func5, Try.ntmps5
  go_wp2_with fail
  refine (ex13_any _).mono ?_; rintro e w1 ⟨rfl, r1, hb1⟩
  go_wp2_with fail
  refine (From_arg (c := 3) 3 3 r1 (by decide) ex_chk (by decide)).mono ?_; rintro e w2 ⟨rfl, hb2⟩
  have hbw2 := hb1.trans (hb2.mono hb1.size)
  clear r1 hb1 hb2
  go_wp2_with fail
  refine (ex13_any _).mono ?_; rintro e w3 ⟨rfl, r3, hb3⟩
  have hbw3 := hbw2.trans (hb3.mono hbw2.size)
  clear hbw2 hb3
  go_wp2_with fail
  refine (From_bad (c := 3) 2 0 r3 (by decide) (by decide)).mono ?_; rintro e w4 ⟨rfl, hb4⟩
  have hbw4 := hbw3.trans (hb4.mono hbw3.size)
  clear hbw3 hb4 r3
  rw [show chkE 2 exL = 2 by decide]
  go_wp2_with fail
  refine (ex13_any _).mono ?_; rintro e w5 ⟨rfl, r5, hb5⟩
  have hbw5 := hbw4.trans (hb5.mono hbw4.size)
  clear hbw4 hb5
  go_wp2_with fail
  refine (Way_ok (c := 3) 3 2 0 r5 (by decide) ex_chk (by decide) (by decide)).mono ?_; rintro e w6 ⟨d, hD, hb6, hW⟩
  have hd := ex_d2 hD
  subst hd
  have hbw6 := hbw5.trans (hb6.mono hbw5.size)
  clear hbw5 hb6 hD r5
  rcases hW with ⟨_, rfl⟩ | ⟨h1, _⟩
  rotate_left
  · exact absurd rfl h1
  go_wp2_with fail
  refine (ex13_any _).mono ?_; rintro e w7 ⟨rfl, r7, hb7⟩
  have hbw7 := hbw6.trans (hb7.mono hbw6.size)
  clear hbw6 hb7
  go_wp2_with fail
  refine (Way_ok (c := 3) 3 1 1 r7 (by decide) ex_chk (by decide) (by decide)).mono ?_; rintro e w8 ⟨d, hD, hb8, hW⟩
  have hd := ex_d1 hD
  subst hd
  have hbw8 := hbw7.trans (hb8.mono hbw7.size)
  clear hbw7 hb8 hD r7
  rcases hW with ⟨h1, _⟩ | ⟨_, A, c, O, hO, rfl, _, rW⟩
  · exact absurd h1 (by decide)
  have hO2 : O = [] := hO.uniq .nil
  subst hO2
  clear hO rW
  have hmk : (Instr.makeSlice 22 (.int .i64 4097) (.int .i64 4097)).run Try.prog w8 = .ok (.slice (some ⟨w8.heap.size, 0, none⟩) 4097 4097) (w8.alloc (.cells (madeCells #[.int .i64 0, .int .i64 0, .int .i64 0] (4097 * 3)) 32)) := make_edges 4097 (by decide) w8
  have ha9 := (Below.refl _ w8).alloc (Nat.le_refl w8.heap.size) (.cells (madeCells #[.int .i64 0, .int .i64 0, .int .i64 0] (4097 * 3)) 32)
  have hn9 := heap_alloc_new w8 (.cells (madeCells #[.int .i64 0, .int .i64 0, .int .i64 0] (4097 * 3)) 32)
  obtain ⟨W9, hW9⟩ : ∃ q, w8.alloc (.cells (madeCells #[.int .i64 0, .int .i64 0, .int .i64 0] (4097 * 3)) 32) = q := ⟨_, rfl⟩
  rw [hW9] at ha9 hn9 hmk
  have r9 := rd_made 4097 hn9
  have hc9 : chkE 3 (List.replicate 4097 ((0, 0, 0) : Ed)) = 3 := by unfold chkE; rw [if_pos (by rw [List.length_replicate]; decide)]
  have hA9 := Lib.hid (All_bad (c := 4097) 3 r9 (by decide) (by rw [hc9]; decide))
  rw [hc9] at hA9
  have hbw9 := hbw8.trans (ha9.mono hbw8.size)
  clear hW9 ha9 hn9 r9 hc9 hbw8
  go_wp2_with fail
  refine hA9.out.mono ?_; rintro e w10 ⟨rfl, hb10⟩
  have hbw10 := hbw9.trans (hb10.mono hbw9.size)
  clear hbw9 hb10 hA9 hmk
  have ha11 := (Below.refl _ w10).alloc (Nat.le_refl w10.heap.size) (.cells #[.int .i64 0, .int .i64 1, .int .i64 1099511627776, .int .i64 1, .int .i64 2, .int .i64 1] 32)
  have hn11 := heap_alloc_new w10 (.cells #[.int .i64 0, .int .i64 1, .int .i64 1099511627776, .int .i64 1, .int .i64 2, .int .i64 1] 32)
  have hF11 := Lib.hid (From_ok (c := 2) 3 0 (rd_lit (enc := tripE) (l := exT) tripE_len hn11 rfl rfl) (by decide) (by decide) (by decide))
  have hbw11 := hbw10.trans (ha11.mono hbw10.size)
  clear hbw10 ha11 hn11
  go_wp2_with fail
  refine hF11.out.mono ?_; rintro e w12 ⟨fb, d, rfl, hD, hfb, hf, hb12⟩
  have hd := exT_d hD
  subst hd
  have rD := rd_ints hf rfl
  have hbw12 := hbw11.trans (hb12.mono hbw11.size)
  clear hF11 hbw11 hD hfb hf hb12
  go_wp2_with fail
  refine (lives13_any _).mono ?_; rintro e w13 ⟨rfl, hb13⟩
  have rD13 := rD.below hb13
  have hbw13 := hbw12.trans (hb13.mono hbw12.size)
  have ha14 := (Below.refl _ w13).alloc (Nat.le_refl w13.heap.size) (.cells #[.int .i64 0, .int .i64 1099511627776, .int .i64 4611686018427387904] 2)
  have hn14 := heap_alloc_new w13 (.cells #[.int .i64 0, .int .i64 1099511627776, .int .i64 4611686018427387904] 2)
  have hS := Lib.hid (sameL_any (some ⟨fb, 0, none⟩) 3 3 [0, 1099511627776, 4611686018427387904] (some ⟨w13.heap.size, 0, none⟩) 3 3 [0, 1099511627776, 4611686018427387904] _ (rD13.below ha14) (rd_lit (enc := numE .i64) numE_len hn14 rfl rfl) (by decide) (by decide))
  rw [decide_eq_true rfl] at hS
  have hbw14 := hbw13.trans (ha14.mono hbw13.size)
  clear rD rD13 hbw12 hb13 hbw13 ha14 hn14
  go_wp2_with fail
  refine hS.out.mono ?_; rintro e w15 ⟨rfl, hb15⟩
  have hbw15 := hbw14.trans (hb15.mono hbw14.size)
  have rN : ∀ W : World, Rd W 3 tripE none 0 ([] : List Ed) := fun W => ⟨rfl, fun h => absurd h (by decide)⟩
  clear hbw14 hb15 hS
  go_wp2_with fail
  refine (chk_any 0 none 0 0 [] _ (rN _) (by decide)).mono ?_; rintro e w16 ⟨rfl, hb16⟩
  rw [show chkE 0 [] = 0 by decide]
  have hbw16 := hbw15.trans (hb16.mono hbw15.size)
  clear hbw15 hb16
  go_wp2_with fail
  refine (chk_any (-1) none 0 0 [] _ (rN _) (by decide)).mono ?_; rintro e w17 ⟨rfl, hb17⟩
  rw [show chkE (-1) [] = 2 by decide]
  have hbw17 := hbw16.trans (hb17.mono hbw16.size)
  clear hbw16 hb17 rN
  have ha18 := (Below.refl _ w17).alloc (Nat.le_refl w17.heap.size) (.cells #[.int .i64 1, .int .i64 1, .int .i64 1] 32)
  have hn18 := heap_alloc_new w17 (.cells #[.int .i64 1, .int .i64 1, .int .i64 1] 32)
  have hC := Lib.hid (chk_any 3 (some ⟨w17.heap.size, 0, none⟩) 1 1 [(1, 1, 1)] _ (rd_lit (enc := tripE) tripE_len hn18 rfl rfl) (by decide))
  rw [show chkE 3 [((1 : Int), (1 : Int), (1 : Int))] = 2 by decide] at hC
  have hbw18 := Lib.hid (hbw17.trans (ha18.mono hbw17.size))
  clear hbw17 ha18 hn18
  go_wp2_with fail
  refine hC.out.mono ?_; rintro e w19 ⟨rfl, hb19⟩
  go_wp2_with fail
  go_returns
  exact ⟨rfl, hbw18.out.trans (hb19.mono hbw18.out.size)⟩
end Go.Proofs.Ytapfndjaimfcaaa
