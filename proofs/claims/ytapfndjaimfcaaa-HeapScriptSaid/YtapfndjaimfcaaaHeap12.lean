/-
  Walks: timetablelaw12.lives, HeapNil.
-/
import Derived.Test.YtapfndjaimfcaaaHeap11
namespace Go.Proofs.Ytapfndjaimfcaaa
open Go.RowKit Go.Shelf B K
set_option linter.unusedVariables false
set_option linter.unusedSimpArgs false
set_option maxHeartbeats 2000000
section
variable {w w' : World} {base h m : Nat} {sv : Value} {l l2 : List It} {X : List Nat}
/-- the first one is known -/
theorem Pop_min (H : HQ w base h X l) {x : It} {l0 : List It} (hp : l.Perm (x :: l0)) (hmin : ∀ y ∈ l0, ltI x y = true) (hbase : base ≤ w.heap.size) (hXl : ∀ b ∈ X, b < w.heap.size) :
    Calls Try.prog 35 #[.pointer (some ⟨h, 0, none⟩)] w fun e w' => e = .returned (.tuple #[.agg #[.int .i64 x.1, .int .i64 x.2], .bool true]) ∧ HPost w w' base h X l0 := by
  refine (Pop_any H (fun e => by rw [e] at hp; have := hp.length_eq; simp at this) hbase hXl).mono ?_
  rintro e w' ⟨x', l0', hp', hmin', rfl, hpost⟩
  have hx : x' = x := by
    have h1 : x' ∈ x :: l0 := (hp'.symm.trans hp).mem_iff.1 (List.mem_cons_self ..)
    have h2 : x ∈ x' :: l0' := (hp.symm.trans hp').mem_iff.1 (List.mem_cons_self ..)
    rcases List.mem_cons.1 h1 with h1 | h1
    · exact h1
    · rcases List.mem_cons.1 h2 with h2 | h2
      · exact h2.symm
      · have a1 := hmin x' h1
        have a2 := hmin' x h2
        rw [a1] at a2; cases a2
  subst hx
  exact ⟨rfl, hpost.1.perm (List.Perm.cons_inv (hp'.symm.trans hp)), hpost.2⟩
theorem Top_zero {p : Value} (hN : ∀ W, Below w.heap.size w W → Calls Try.prog 32 #[p] W fun e w' => e = .returned (.int .i64 0) ∧ w' = W) :
    Calls Try.prog 37 #[p] w fun e w' => e = .returned (.tuple #[.agg #[.int .i64 0, .int .i64 0], .bool false]) ∧ Below w.heap.size w w' := by
  have hb1 : Below w.heap.size w (w.alloc (.cells #[.int .i64 0, .int .i64 0] 53)) := (Below.refl _ w).alloc (Nat.le_refl _) _
  have hN1 := Lib.hid (hN _ hb1)
  clear hN
  go_enter Try.func37, Try.ntmps37
  go_wp2_with fail
  refine hN1.out.mono ?_; rintro e w' ⟨rfl, rfl⟩
  go_wp2_with fail
  exact bodyPost_ret (v := .tuple #[.agg #[.int .i64 0, .int .i64 0], .bool false]) (by simp [results, Try.results37, go_sem]) rfl ⟨rfl, hb1⟩
theorem All_nil (w : World) : Calls Try.prog 34 #[.pointer none] w fun e w' => e = .returned (.slice none 0 0) ∧ w' = w := by
  go_enter Try.func34, Try.ntmps34
  go_wp2
  go_returns
  exact ⟨rfl, rfl⟩
set_option maxRecDepth 100000 in
theorem lives12_any (w : World) : Calls Try.prog 29 #[] w fun e w' => e = .returned (.bool true) ∧ Below w.heap.size w w' := by
  go_enter Try.func29, Try.ntmps29
  go_wp2_with fail
  refine (New_any (base := w.heap.size) [] (by simp) (Nat.le_refl _)).mono ?_; rintro e w1 ⟨h, rfl, hh, H1, hb1⟩
  go_wp2_with fail
  refine (Push_new (kx := 5) (ix := 1) H1 (by decide) (by simp) hb1.size (by simp) (by decide)).mono ?_; rintro e w2 ⟨rfl, H2, hb2, _⟩
  have hb2 := hb1.trans hb2
  clear H1 hb1
  go_wp2_with fail
  refine (Push_new (kx := 3) (ix := 9) H2 (by decide) (by decide) hb2.size (by simp) (by decide)).mono ?_; rintro e w3 ⟨rfl, H3, hb3, _⟩
  have hb3 := hb2.trans hb3
  clear H2 hb2
  go_wp2_with fail
  refine (Push_new (kx := 5) (ix := 0) H3 (by decide) (by decide) hb3.size (by simp) (by decide)).mono ?_; rintro e w4 ⟨rfl, H4, hb4, _⟩
  have hb4 := hb3.trans hb4
  clear H3 hb3
  go_wp2_with fail
  refine (Lower_any H4 (id := 1) (key := 2) (old := 5) (l0 := [(5, 0), (3, 9)]) (by decide) (by decide) (by decide) hb4.size (by simp)).mono ?_; rintro e w5 ⟨rfl, H5, hb5, _⟩
  have hb5 := hb4.trans hb5
  clear H4 hb4
  go_wp2_with fail
  refine (Pop_min H5 (x := (2, 1)) (l0 := [(5, 0), (3, 9)]) (by decide) (by decide) hb5.size (by simp)).mono ?_; rintro e w6 ⟨rfl, H6, hb6, _⟩
  have hb6 := hb5.trans hb6
  clear H5 hb5
  have ha7 : Below w6.heap.size w6 (w6.alloc (.cells #[.int .i64 2, .int .i64 1] 53)) := (Below.refl _ w6).alloc (Nat.le_refl _) _
  have hnew := heap_alloc_new w6 (.cells #[.int .i64 2, .int .i64 1] 53)
  have H7 := (H6.more (Y := [w6.heap.size]) (by simp)).below ha7
  have hb7 := hb6.trans (ha7.mono hb6.size)
  have hl7 : w6.heap.size < (w6.alloc (.cells #[.int .i64 2, .int .i64 1] 53)).heap.size := by simp
  go_wp2_with fail
  refine (Pop_min H7 (x := (3, 9)) (l0 := [(5, 0)]) (by decide) (by decide) hb7.size (by simp)).mono ?_; rintro e w8 ⟨rfl, H8, hb8, hX8⟩
  have hb8' := hb7.trans hb8
  have hk := (hX8 w6.heap.size (by simp) hl7).trans hnew
  have hkl := (Array.getElem?_eq_some_iff.1 hk).1
  have c0 : w8.cell? ⟨w6.heap.size, 0, none⟩ = some (.int .i64 2) := by rw [cell_of_row _ _ _ _ _ _ hk]; rfl
  have c1 : w8.cell? ⟨w6.heap.size, 1, none⟩ = some (.int .i64 1) := by rw [cell_of_row _ _ _ _ _ _ hk]; rfl
  have ha9 : Below w8.heap.size w8 (w8.alloc (.cells #[.int .i64 3, .int .i64 9] 53)) := (Below.refl _ w8).alloc (Nat.le_refl _) _
  have d0 := (ha9.cell (p := ⟨w6.heap.size, 0, none⟩) hkl).trans c0
  have d1 := (ha9.cell (p := ⟨w6.heap.size, 1, none⟩) hkl).trans c1
  have hb9 := Lib.hid (hb8'.trans (ha9.mono hb8'.size))
  clear H6 H7 H8 hb6 hb7 hb8 hb8' hX8 ha7 ha9 hnew hk
  go_wp2_with fail
  go_returns
  exact ⟨rfl, hb9.out⟩
set_option maxRecDepth 100000 in
theorem lawNil_any (kx ix : Int) (w : World) : Calls Try.prog 12 #[.agg #[.int .i64 kx, .int .i64 ix]] w fun e w' => e = .returned (.bool true) ∧ Below w.heap.size w w' := by
  have hb1 : Below w.heap.size w (w.alloc (.cells #[.int .i64 kx, .int .i64 ix] 53)) := (Below.refl _ w).alloc (Nat.le_refl _) _
  have bx := Bx2.new w 53 kx ix
  obtain ⟨W1, hW1⟩ : ∃ q, w.alloc (.cells #[.int .i64 kx, .int .i64 ix] 53) = q := ⟨_, rfl⟩
  rw [hW1] at bx hb1
  obtain ⟨bk, hbke⟩ : ∃ q, w.heap.size = q := ⟨_, rfl⟩
  rw [hbke] at bx
  go_enter Try.func12, Try.ntmps12
  go_wp2_with fail
  refine (lives12_any _).mono ?_; rintro e w2 ⟨rfl, hb2⟩
  have bx2 := bx.below hb2
  have hbb2 := hb1.trans (hb2.mono hb1.size)
  clear hW1
  go_wp2_with fail
  refine (Pop_zero fun W _ => Len_nil W).mono ?_; rintro e w3 ⟨rfl, hb3⟩
  have ha3 : Below w3.heap.size w3 (w3.alloc (.cells #[.int .i64 0, .int .i64 0] 53)) := (Below.refl _ w3).alloc (Nat.le_refl _) _
  have bx3 := (bx2.below hb3).below ha3
  have hbb3 := (hbb2.trans (hb3.mono hbb2.size)).trans (ha3.mono (hbb2.trans (hb3.mono hbb2.size)).size)
  go_wp2_with fail
  refine (Top_zero fun W _ => Len_nil W).mono ?_; rintro e w4 ⟨rfl, hb4⟩
  have ha4 : Below w4.heap.size w4 (w4.alloc (.cells #[.int .i64 0, .int .i64 0] 53)) := (Below.refl _ w4).alloc (Nat.le_refl _) _
  have bx4 := (bx3.below hb4).below ha4
  have hbb4 := (hbb3.trans (hb4.mono hbb3.size)).trans (ha4.mono (hbb3.trans (hb4.mono hbb3.size)).size)
  have c0 := bx4.c0
  have c1 := bx4.c1
  go_wp2_with fail
  refine (Lower_nil _ _ _).mono ?_; rintro e w5 ⟨rfl, rfl⟩
  go_wp2_with fail
  refine (Push_nil _ _ _).mono ?_; rintro e w6 ⟨rfl, hb6⟩
  go_wp2_with (first | (go_at_call 32; refine (Len_nil _).mono ?_; rintro e w7 ⟨rfl, rfl⟩) | (go_at_call 34; refine (All_nil _).mono ?_; rintro e w7 ⟨rfl, rfl⟩))
  go_returns
  exact ⟨rfl, hbb4.trans (hb6.mono hbb4.size)⟩
end
end Go.Proofs.Ytapfndjaimfcaaa
