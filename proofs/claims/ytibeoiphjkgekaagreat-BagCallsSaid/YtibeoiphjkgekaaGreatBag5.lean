/-
  Walks: the closures of bag.least.
-/
import Derived.Test.YtibeoiphjkgekaaGreatBag2
import Derived.Test.YtibeoiphjkgekaaGreatBag4
namespace Go.Proofs.YtibeoiphjkgekaaGreat
open Go.RowKit B K
set_option linter.unusedVariables false
set_option linter.unusedSimpArgs false
set_option maxHeartbeats 1000000
theorem lcaP_any (y1 y2 x1 x2 : Int) (bk bf : Nat) (w : World) (bx : Bx2 w bk x1 x2) (hf : w.cell? ⟨bf, 0, none⟩ = some (.func (.func 48) #[] #[])) (hlt : bf < w.heap.size) :
    Calls Tryz.prog 68 #[.agg #[.int .i64 y1, .int .i64 y2], .pointer (some ⟨bk, 0, none⟩), .pointer (some ⟨bf, 0, none⟩)] w fun e w' => e = .returned (.bool (decide ((y1, y2) = (x1, x2)) || beats2 (y1, y2) (x1, x2))) ∧ Below w.heap.size w w' := by
  obtain ⟨c0, c1⟩ := (⟨bx.c0, bx.c1⟩ : _ ∧ _)
  have hlt2 := bx.lt
  have hf' : ∀ o : Obj, (w.alloc o).cell? ⟨bf, 0, none⟩ = some (.func (.func 48) #[] #[]) := fun o => (World.cell?_alloc_lt w o _ hlt).trans hf
  have k0 : ∀ o : Obj, (w.alloc o).cell? ⟨bk, 0, none⟩ = some (.int .i64 x1) := fun o => (World.cell?_alloc_lt w o _ hlt2).trans c0
  have k1 : ∀ o : Obj, (w.alloc o).cell? ⟨bk, 1, none⟩ = some (.int .i64 x2) := fun o => (World.cell?_alloc_lt w o _ hlt2).trans c1
  by_cases e1 : y1 = x1
  · subst e1
    by_cases e2 : y2 = x2
    · subst e2
      go_enter Tryz.func68, Tryz.ntmps68
      go_wp2
      go_returns
      exact ⟨ret_bool (by simp), (Below.refl _ _).alloc (Nat.le_refl _) _⟩
    · have hn : (y2 == x2) = false := by simp [e2]
      have hne : Hid (((y1, y2) : P2) ≠ ((y1, x2) : P2)) := by show _ ≠ _; simp [e2]
      clear e2
      go_enter Tryz.func68, Tryz.ntmps68
      go_wp2_with fail
      refine (beats2_any _ _ _ _ _).mono ?_; rintro e w1 ⟨rfl, hb⟩
      go_wp2_with fail
      go_returns
      exact ⟨ret_bool (by rw [decide_eq_false hne.out]; rfl), ((Below.refl _ _).alloc (Nat.le_refl _) _).trans (hb.mono (by simp))⟩
  · have hn : (y1 == x1) = false := by simp [e1]
    have hne : Hid (((y1, y2) : P2) ≠ ((x1, x2) : P2)) := by show _ ≠ _; simp [e1]
    clear e1
    go_enter Tryz.func68, Tryz.ntmps68
    go_wp2_with fail
    refine (beats2_any _ _ _ _ _).mono ?_; rintro e w1 ⟨rfl, hb⟩
    go_wp2_with fail
    go_returns
    exact ⟨ret_bool (by rw [decide_eq_false hne.out]; rfl), ((Below.refl _ _).alloc (Nat.le_refl _) _).trans (hb.mono (by simp))⟩
theorem lcbP_any (y1 y2 x1 x2 : Int) (bk bf : Nat) (w : World) (bx : Bx2 w bk x1 x2) (hf : w.cell? ⟨bf, 0, none⟩ = some (.func (.func 48) #[] #[])) (hlt : bf < w.heap.size) :
    Calls Tryz.prog 70 #[.agg #[.int .i64 y1, .int .i64 y2], .pointer (some ⟨bf, 0, none⟩), .pointer (some ⟨bk, 0, none⟩)] w fun e w' => e = .returned (.bool (beats2 (x1, x2) (y1, y2))) ∧ Below w.heap.size w w' := by
  obtain ⟨c0, c1⟩ := (⟨bx.c0, bx.c1⟩ : _ ∧ _)
  have hlt2 := bx.lt
  have hf' : ∀ o : Obj, (w.alloc o).cell? ⟨bf, 0, none⟩ = some (.func (.func 48) #[] #[]) := fun o => (World.cell?_alloc_lt w o _ hlt).trans hf
  have k0 : ∀ o : Obj, (w.alloc o).cell? ⟨bk, 0, none⟩ = some (.int .i64 x1) := fun o => (World.cell?_alloc_lt w o _ hlt2).trans c0
  have k1 : ∀ o : Obj, (w.alloc o).cell? ⟨bk, 1, none⟩ = some (.int .i64 x2) := fun o => (World.cell?_alloc_lt w o _ hlt2).trans c1
  go_enter Tryz.func70, Tryz.ntmps70
  go_wp2_with fail
  refine (beats2_any _ _ _ _ _).mono ?_; rintro e w1 ⟨rfl, hb⟩
  go_wp2_with fail
  go_returns
  exact ⟨rfl, ((Below.refl _ _).alloc (Nat.le_refl _) _).trans (hb.mono (by simp))⟩
theorem lcaT_any (y1 y2 y3 x1 x2 x3 : Int) (bk bf : Nat) (w : World) (bx : Bx3 w bk x1 x2 x3) (hf : w.cell? ⟨bf, 0, none⟩ = some (.func (.func 56) #[] #[])) (hlt : bf < w.heap.size) :
    Calls Tryz.prog 78 #[.agg #[.int .i64 y1, .int .i64 y2, .int .i64 y3], .pointer (some ⟨bk, 0, none⟩), .pointer (some ⟨bf, 0, none⟩)] w fun e w' => e = .returned (.bool (decide ((y1, y2, y3) = (x1, x2, x3)) || beats3 (y1, y2, y3) (x1, x2, x3))) ∧ Below w.heap.size w w' := by
  obtain ⟨c0, c1, c2⟩ := (⟨bx.c0, bx.c1, bx.c2⟩ : _ ∧ _ ∧ _)
  have hlt2 := bx.lt
  have hf' : ∀ o : Obj, (w.alloc o).cell? ⟨bf, 0, none⟩ = some (.func (.func 56) #[] #[]) := fun o => (World.cell?_alloc_lt w o _ hlt).trans hf
  have k0 : ∀ o : Obj, (w.alloc o).cell? ⟨bk, 0, none⟩ = some (.int .i64 x1) := fun o => (World.cell?_alloc_lt w o _ hlt2).trans c0
  have k1 : ∀ o : Obj, (w.alloc o).cell? ⟨bk, 1, none⟩ = some (.int .i64 x2) := fun o => (World.cell?_alloc_lt w o _ hlt2).trans c1
  have k2 : ∀ o : Obj, (w.alloc o).cell? ⟨bk, 2, none⟩ = some (.int .i64 x3) := fun o => (World.cell?_alloc_lt w o _ hlt2).trans c2
  by_cases e1 : y1 = x1
  · subst e1
    by_cases e2 : y2 = x2
    · subst e2
      by_cases e3 : y3 = x3
      · subst e3
        go_enter Tryz.func78, Tryz.ntmps78
        go_wp2
        go_returns
        exact ⟨ret_bool (by simp), (Below.refl _ _).alloc (Nat.le_refl _) _⟩
      · have hn : (y3 == x3) = false := by simp [e3]
        have hne : Hid (((y1, y2, y3) : P3) ≠ ((y1, y2, x3) : P3)) := by show _ ≠ _; simp [e3]
        clear e3
        go_enter Tryz.func78, Tryz.ntmps78
        go_wp2_with fail
        refine (beats3_any _ _ _ _ _ _ _).mono ?_; rintro e w1 ⟨rfl, hb⟩
        go_wp2_with fail
        go_returns
        exact ⟨ret_bool (by rw [decide_eq_false hne.out]; rfl), ((Below.refl _ _).alloc (Nat.le_refl _) _).trans (hb.mono (by simp))⟩
    · have hn : (y2 == x2) = false := by simp [e2]
      have hne : Hid (((y1, y2, y3) : P3) ≠ ((y1, x2, x3) : P3)) := by show _ ≠ _; simp [e2]
      clear e2
      go_enter Tryz.func78, Tryz.ntmps78
      go_wp2_with fail
      refine (beats3_any _ _ _ _ _ _ _).mono ?_; rintro e w1 ⟨rfl, hb⟩
      go_wp2_with fail
      go_returns
      exact ⟨ret_bool (by rw [decide_eq_false hne.out]; rfl), ((Below.refl _ _).alloc (Nat.le_refl _) _).trans (hb.mono (by simp))⟩
  · have hn : (y1 == x1) = false := by simp [e1]
    have hne : Hid (((y1, y2, y3) : P3) ≠ ((x1, x2, x3) : P3)) := by show _ ≠ _; simp [e1]
    clear e1
    go_enter Tryz.func78, Tryz.ntmps78
    go_wp2_with fail
    refine (beats3_any _ _ _ _ _ _ _).mono ?_; rintro e w1 ⟨rfl, hb⟩
    go_wp2_with fail
    go_returns
    exact ⟨ret_bool (by rw [decide_eq_false hne.out]; rfl), ((Below.refl _ _).alloc (Nat.le_refl _) _).trans (hb.mono (by simp))⟩
theorem lcbT_any (y1 y2 y3 x1 x2 x3 : Int) (bk bf : Nat) (w : World) (bx : Bx3 w bk x1 x2 x3) (hf : w.cell? ⟨bf, 0, none⟩ = some (.func (.func 56) #[] #[])) (hlt : bf < w.heap.size) :
    Calls Tryz.prog 80 #[.agg #[.int .i64 y1, .int .i64 y2, .int .i64 y3], .pointer (some ⟨bf, 0, none⟩), .pointer (some ⟨bk, 0, none⟩)] w fun e w' => e = .returned (.bool (beats3 (x1, x2, x3) (y1, y2, y3))) ∧ Below w.heap.size w w' := by
  obtain ⟨c0, c1, c2⟩ := (⟨bx.c0, bx.c1, bx.c2⟩ : _ ∧ _ ∧ _)
  have hlt2 := bx.lt
  have hf' : ∀ o : Obj, (w.alloc o).cell? ⟨bf, 0, none⟩ = some (.func (.func 56) #[] #[]) := fun o => (World.cell?_alloc_lt w o _ hlt).trans hf
  have k0 : ∀ o : Obj, (w.alloc o).cell? ⟨bk, 0, none⟩ = some (.int .i64 x1) := fun o => (World.cell?_alloc_lt w o _ hlt2).trans c0
  have k1 : ∀ o : Obj, (w.alloc o).cell? ⟨bk, 1, none⟩ = some (.int .i64 x2) := fun o => (World.cell?_alloc_lt w o _ hlt2).trans c1
  have k2 : ∀ o : Obj, (w.alloc o).cell? ⟨bk, 2, none⟩ = some (.int .i64 x3) := fun o => (World.cell?_alloc_lt w o _ hlt2).trans c2
  go_enter Tryz.func80, Tryz.ntmps80
  go_wp2_with fail
  refine (beats3_any _ _ _ _ _ _ _).mono ?_; rintro e w1 ⟨rfl, hb⟩
  go_wp2_with fail
  go_returns
  exact ⟨rfl, ((Below.refl _ _).alloc (Nat.le_refl _) _).trans (hb.mono (by simp))⟩
end Go.Proofs.YtibeoiphjkgekaaGreat
