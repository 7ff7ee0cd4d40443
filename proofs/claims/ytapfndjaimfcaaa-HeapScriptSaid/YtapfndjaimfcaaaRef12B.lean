/-
  Walks: the reference's heap: Top, Pop, Lower (gen20.py).
-/
import Derived.Test.YtapfndjaimfcaaaRef12
namespace Go.Proofs.Ytapfndjaimfcaaa
open Go.RowKit Go.Shelf B K
set_option linter.unusedVariables false
set_option linter.unusedSimpArgs false
set_option maxHeartbeats 4000000
section
variable {w w' : World} {hp : Nat} {X : List Nat} {S : List It}
theorem cut_blk {A : Option Addr} {c k z : Nat} {a : Addr} (e : cutA A c k z = some a) : ∃ a0, A = some a0 ∧ a.block = a0.block := by
  unfold cutA at e
  split at e
  · exact ⟨a, e, rfl⟩
  · cases A with
    | none => cases e
    | some a0 =>
      cases e
      refine ⟨a0, rfl, ?_⟩
      show (a0.add (k * z)).block = a0.block
      unfold Addr.add
      split <;> rfl
/-- a box of two numbers is written -/
theorem put2 {bk : Nat} {w : World} (hnew : w.heap[bk]? = some (.cells #[.int .i64 0, .int .i64 0] 53 (0, 0))) (x1 x2 : Int) :
    w.cell? ⟨bk, 0, none⟩ = some (.int .i64 0) ∧ w.cell? ⟨bk, 1, none⟩ = some (.int .i64 0) ∧ w.frozen? ⟨bk, 0, none⟩ = false ∧ w.frozen? ⟨bk, 1, none⟩ = false ∧ (w.setCell ⟨bk, 0, none⟩ (.int .i64 x1)).cell? ⟨bk, 0, none⟩ = some (.int .i64 x1) ∧ (w.setCell ⟨bk, 0, none⟩ (.int .i64 x1)).cell? ⟨bk, 1, none⟩ = some (.int .i64 0) ∧
    ((w.setCell ⟨bk, 0, none⟩ (.int .i64 x1)).setCell ⟨bk, 1, none⟩ (.int .i64 x2)).cell? ⟨bk, 0, none⟩ = some (.int .i64 x1) ∧ ((w.setCell ⟨bk, 0, none⟩ (.int .i64 x1)).setCell ⟨bk, 1, none⟩ (.int .i64 x2)).cell? ⟨bk, 1, none⟩ = some (.int .i64 x2) := by
  have hlt := (Array.getElem?_eq_some_iff.1 hnew).1
  have e : w.heap[bk] = .cells #[.int .i64 0, .int .i64 0] 53 (0, 0) := by rw [Array.getElem?_eq_getElem hlt] at hnew; exact Option.some.inj hnew
  refine ⟨by rw [cell_of_row _ _ _ _ _ _ hnew]; rfl, by rw [cell_of_row _ _ _ _ _ _ hnew]; rfl, by simp [World.frozen?, hnew], by simp [World.frozen?, hnew], ?_, ?_, ?_, ?_⟩ <;> simp [World.cell?, World.setCell, hlt, Array.getElem_modify, e]
theorem rTop_nil (H : RH w hp X []) : Calls Try.prog 42 #[.pointer (some ⟨hp, 0, none⟩)] w fun e w' => e = .returned (.tuple #[.agg #[.int .i64 0, .int .i64 0], .bool false]) ∧ Below w.heap.size w w' := by
  have hb1 : Below w.heap.size w (w.alloc (.cells #[.int .i64 0, .int .i64 0] 53)) := (Below.refl _ w).alloc (Nat.le_refl _) _
  have hnew := heap_alloc_new w (.cells #[.int .i64 0, .int .i64 0] 53)
  obtain ⟨A, c, h1, _⟩ := H.below hb1
  have c0 := cell_of_one h1
  obtain ⟨W1, hW1⟩ : ∃ q, w.alloc (.cells #[.int .i64 0, .int .i64 0] 53) = q := ⟨_, rfl⟩
  rw [hW1] at hb1 hnew c0
  obtain ⟨bk, hbke⟩ : ∃ q, w.heap.size = q := ⟨_, rfl⟩
  have hb2 : Hid (Below w.heap.size w ((W1.setCell ⟨bk, 0, none⟩ (.int .i64 0)).setCell ⟨bk, 1, none⟩ (.int .i64 0))) := (hb1.setCell (by rw [← hbke]; simp) _).setCell (by rw [← hbke]; simp) _
  rw [hbke] at hnew
  obtain ⟨q0, q1, q2, q3, q4, q5, q6, q7⟩ := put2 hnew 0 0
  simp only [List.length_nil] at c0
  clear H h1 hnew hb1
  go_enter Try.func42, Try.ntmps42
  go_wp2_with fail
  exact bodyPost_ret (v := .tuple #[.agg #[.int .i64 0, .int .i64 0], .bool false]) (by simp [results, Try.results42, go_sem, q6, q7]) rfl ⟨rfl, hb2.out⟩
theorem rTop_cons {x1 x2 : Int} {r : List It} (H : RH w hp X ((x1, x2) :: r)) : Calls Try.prog 42 #[.pointer (some ⟨hp, 0, none⟩)] w fun e w' => e = .returned (.tuple #[.agg #[.int .i64 x1, .int .i64 x2], .bool true]) ∧ Below w.heap.size w w' := by
  have hb1 : Below w.heap.size w (w.alloc (.cells #[.int .i64 0, .int .i64 0] 53)) := (Below.refl _ w).alloc (Nat.le_refl _) _
  have hnew := heap_alloc_new w (.cells #[.int .i64 0, .int .i64 0] 53)
  obtain ⟨A, c, h1, h2, _⟩ := H.below hb1
  have c0 := cell_of_one h1
  obtain ⟨b, o, y1, y2, rfl, hbs, hx, k1, k2⟩ := h2.pair (k := 0) (by simp)
  cases hx
  rw [Nat.zero_mul, Nat.add_zero] at k1 k2
  obtain ⟨n, hn⟩ : ∃ n, ((x1, x2) :: r).length = n := ⟨_, rfl⟩
  have hz : (0 : Int) < (n : Int) := by rw [← hn]; simp
  have hz0 : ((n : Int) == 0) = false := by simp; omega
  have hz1 : n ≠ 0 := by omega
  rw [hn] at c0
  obtain ⟨W1, hW1⟩ : ∃ q, w.alloc (.cells #[.int .i64 0, .int .i64 0] 53) = q := ⟨_, rfl⟩
  rw [hW1] at hb1 hnew c0 k1 k2
  obtain ⟨bk, hbke⟩ : ∃ q, w.heap.size = q := ⟨_, rfl⟩
  have hb2 : Hid (Below w.heap.size w ((W1.setCell ⟨bk, 0, none⟩ (.int .i64 x1)).setCell ⟨bk, 1, none⟩ (.int .i64 x2))) := (hb1.setCell (by rw [← hbke]; simp) _).setCell (by rw [← hbke]; simp) _
  rw [hbke] at hnew
  obtain ⟨q0, q1, q2, q3, q4, q5, q6, q7⟩ := put2 hnew x1 x2
  clear H h1 h2 hnew hb1 hn hbs
  go_enter Try.func42, Try.ntmps42
  go_wp2_with fail
  exact bodyPost_ret (v := .tuple #[.agg #[.int .i64 x1, .int .i64 x2], .bool true]) (by simp [results, Try.results42, go_sem, q6, q7]) rfl ⟨rfl, hb2.out⟩
set_option maxRecDepth 100000 in
theorem rPop_nil (H : RH w hp X []) : Calls Try.prog 40 #[.pointer (some ⟨hp, 0, none⟩)] w fun e w' => e = .returned (.tuple #[.agg #[.int .i64 0, .int .i64 0], .bool false]) ∧ Below w.heap.size w w' := by
  have hb1 : Below w.heap.size w (w.alloc (.cells #[.int .i64 0, .int .i64 0] 53)) := (Below.refl _ w).alloc (Nat.le_refl _) _
  have hnew := heap_alloc_new w (.cells #[.int .i64 0, .int .i64 0] 53)
  have H1 := H.below hb1
  obtain ⟨W1, hW1⟩ : ∃ q, w.alloc (.cells #[.int .i64 0, .int .i64 0] 53) = q := ⟨_, rfl⟩
  rw [hW1] at hb1 hnew H1
  obtain ⟨bk, hbke⟩ : ∃ q, w.heap.size = q := ⟨_, rfl⟩
  have hbkl : w.heap.size ≤ bk := by omega
  rw [hbke] at hnew
  have hT := Lib.hid (rTop_nil H1)
  have hb1h := Lib.hid hb1
  have hnewh := Lib.hid hnew
  clear H H1 hb1 hnew
  go_enter Try.func40, Try.ntmps40
  go_wp2_with fail
  refine hT.out.mono ?_; rintro e w2 ⟨rfl, hb2⟩
  have ha := (Below.refl _ w2).alloc (Nat.le_refl w2.heap.size) (.cells #[.int .i64 0, .int .i64 0] 53)
  have hnx := heap_alloc_new w2 (.cells #[.int .i64 0, .int .i64 0] 53)
  have zbk := (Array.getElem?_eq_some_iff.1 hnewh.out).1
  have hn3 := (ha.block bk (Nat.lt_of_lt_of_le zbk hb2.size)).trans ((hb2.block bk zbk).trans hnewh.out)
  have hb12 := hb1h.out.trans (hb2.mono hb1h.out.size)
  have hb13 := hb12.trans (ha.mono hb12.size)
  obtain ⟨bx, hbx⟩ : ∃ q, w2.heap.size = q := ⟨_, rfl⟩
  rw [hbx] at hnx
  have k0 : (w2.alloc (.cells #[.int .i64 0, .int .i64 0] 53)).cell? ⟨bx, 0, none⟩ = some (.int .i64 0) := by rw [cell_of_row _ _ _ _ _ _ hnx]; rfl
  have k1 : (w2.alloc (.cells #[.int .i64 0, .int .i64 0] 53)).cell? ⟨bx, 1, none⟩ = some (.int .i64 0) := by rw [cell_of_row _ _ _ _ _ _ hnx]; rfl
  obtain ⟨q0, q1, q2, q3, q4, q5, q6, q7⟩ := put2 hn3 0 0
  have hfin : Hid (Below w.heap.size w (((w2.alloc (.cells #[.int .i64 0, .int .i64 0] 53)).setCell ⟨bk, 0, none⟩ (.int .i64 0)).setCell ⟨bk, 1, none⟩ (.int .i64 0))) := (hb13.setCell hbkl _).setCell hbkl _
  clear ha hnx hn3 hb12 hb13 hb2 zbk
  go_wp2_with fail
  exact bodyPost_ret (v := .tuple #[.agg #[.int .i64 0, .int .i64 0], .bool false]) (by simp [results, Try.results40, go_sem, q6, q7]) rfl ⟨rfl, hfin.out⟩
set_option maxRecDepth 100000 in
theorem rPop_cons {x1 x2 : Int} {r : List It} (H : RH w hp X ((x1, x2) :: r)) : Calls Try.prog 40 #[.pointer (some ⟨hp, 0, none⟩)] w fun e w' => e = .returned (.tuple #[.agg #[.int .i64 x1, .int .i64 x2], .bool true]) ∧ RPost w w' hp X r := by
  have hb1 : Below w.heap.size w (w.alloc (.cells #[.int .i64 0, .int .i64 0] 53)) := (Below.refl _ w).alloc (Nat.le_refl _) _
  have hnew := heap_alloc_new w (.cells #[.int .i64 0, .int .i64 0] 53)
  have H1 := H.below hb1
  have hltw := H.lt
  have hXw : ∀ x ∈ X, x < w.heap.size := by obtain ⟨A, c, h1, h2, h3, h4, h5, h6, h7⟩ := H; exact h7
  obtain ⟨W1, hW1⟩ : ∃ q, w.alloc (.cells #[.int .i64 0, .int .i64 0] 53) = q := ⟨_, rfl⟩
  rw [hW1] at hb1 hnew H1
  obtain ⟨bk, hbke⟩ : ∃ q, w.heap.size = q := ⟨_, rfl⟩
  have hbkl : w.heap.size ≤ bk := by omega
  rw [hbke] at hnew
  have hT := Lib.hid (rTop_cons H1)
  have hb1h := Lib.hid hb1
  have hnewh := Lib.hid hnew
  have H1h := Lib.hid H1
  clear H H1 hb1 hnew
  go_enter Try.func40, Try.ntmps40
  go_wp2_with fail
  refine hT.out.mono ?_; rintro e w2 ⟨rfl, hb2⟩
  obtain ⟨A, c, h1, h2, h3, h4, h5, h6, h7⟩ := H1h.out.below hb2
  have ha := (Below.refl _ w2).alloc (Nat.le_refl w2.heap.size) (.cells #[.int .i64 x1, .int .i64 x2] 53)
  have hnx := heap_alloc_new w2 (.cells #[.int .i64 x1, .int .i64 x2] 53)
  have zbk := (Array.getElem?_eq_some_iff.1 hnewh.out).1
  have hn3 := (ha.block bk (Nat.lt_of_lt_of_le zbk hb2.size)).trans ((hb2.block bk zbk).trans hnewh.out)
  have hh3 := (ha.block hp (Array.getElem?_eq_some_iff.1 h1).1).trans h1
  have r3 := (h2.below ha).drop (k := 1) (by simp) h3
  have hb12 := hb1h.out.trans (hb2.mono hb1h.out.size)
  have hb13 := hb12.trans (ha.mono hb12.size)
  have h7' : ∀ x ∈ X, x < (w2.alloc (.cells #[.int .i64 x1, .int .i64 x2] 53)).heap.size := fun x hx => Nat.lt_of_lt_of_le (h7 x hx) ha.size
  obtain ⟨W3, hW3⟩ : ∃ q, w2.alloc (.cells #[.int .i64 x1, .int .i64 x2] 53) = q := ⟨_, rfl⟩
  obtain ⟨bx, hbx⟩ : ∃ q, w2.heap.size = q := ⟨_, rfl⟩
  have hbxn : bx ∉ [hp] := by have := (Array.getElem?_eq_some_iff.1 h1).1; simp; omega
  rw [hW3] at hnx hn3 hb13 hh3 r3 h7'
  rw [hbx] at hnx
  obtain ⟨n, hn⟩ : ∃ n, ((x1, x2) :: r).length = n := ⟨_, rfl⟩
  have hnr : n - 1 = r.length := by rw [← hn]; simp
  rw [hn] at hh3 r3 h3
  simp only [List.drop_succ_cons, List.drop_zero] at r3
  have c0 := cell_of_one hh3
  have f0 := free_of_one hh3
  have hd : ∀ W, (Instr.slice 48 (.slice A n c) (some (.int .i64 1)) none none).run Try.prog W = .ok (.slice (cutA A c 1 2) r.length (c - 1)) W := fun W => by
    have := run_cut (P := Try.prog) (t := 48) (e := 53) (s := 2) Try.underlying48 (by kernel_rfl) (fun W => by simp [go_sem]) A n c 1 (by rw [← hn]; simp) .i64 W
    rw [hnr] at this
    exact this
  have hbut : But W3 (W3.setCell ⟨hp, 0, none⟩ (.slice (cutA A c 1 2) r.length (c - 1))) [hp] := But.of_set _ _ _ (by simp)
  have hh4 : (W3.setCell ⟨hp, 0, none⟩ (.slice (cutA A c 1 2) r.length (c - 1))).heap[hp]? = some (.cells #[.slice (cutA A c 1 2) r.length (c - 1)] 69 (0, 0)) := by
    have hlt := (Array.getElem?_eq_some_iff.1 hh3).1
    have e : W3.heap[hp] = .cells #[.slice A n c] 69 (0, 0) := by have hh := hh3; rw [Array.getElem?_eq_getElem hlt] at hh; exact Option.some.inj hh
    simp [World.setCell, hlt, Array.getElem_modify, e]
  obtain ⟨W4, hW4⟩ : ∃ q, W3.setCell ⟨hp, 0, none⟩ (.slice (cutA A c 1 2) r.length (c - 1)) = q := ⟨_, rfl⟩
  rw [hW4] at hbut hh4
  have zbx := (Array.getElem?_eq_some_iff.1 hnx).1
  have k0 : W4.cell? ⟨bx, 0, none⟩ = some (.int .i64 x1) := (hbut.cell (p := ⟨bx, 0, none⟩) zbx hbxn).trans (by rw [cell_of_row _ _ _ _ _ _ hnx]; rfl)
  have k1 : W4.cell? ⟨bx, 1, none⟩ = some (.int .i64 x2) := (hbut.cell (p := ⟨bx, 1, none⟩) zbx hbxn).trans (by rw [cell_of_row _ _ _ _ _ _ hnx]; rfl)
  have hn4 := (hbut.keep bk (Array.getElem?_eq_some_iff.1 hn3).1 (by simp; omega)).trans hn3
  obtain ⟨q0, q1, q2, q3, q4, q5, q6, q7⟩ := put2 hn4 x1 x2
  have hfin : Hid (RPost w ((W4.setCell ⟨bk, 0, none⟩ (.int .i64 x1)).setCell ⟨bk, 1, none⟩ (.int .i64 x2)) hp X r) := by
    have hs : But W4 ((W4.setCell ⟨bk, 0, none⟩ (.int .i64 x1)).setCell ⟨bk, 1, none⟩ (.int .i64 x2)) [bk] := (But.of_set _ _ _ (by simp)).trans (But.of_set _ _ _ (by simp))
    have hx4 : ∀ x ∈ X, x < w2.heap.size := h7
    have hR4 : RH W4 hp X r := ⟨cutA A c 1 2, c - 1, hh4, by
        have := r3.but1 hbut (cut_ne fun a e => (h6 a e).2)
        rw [hnr] at this; exact this, by omega, by omega, h5, fun a e => ?_, fun x hx => Nat.lt_of_lt_of_le (h7' x hx) hbut.size⟩
    · refine ⟨X, hR4.keep hs.size fun b hb => hs.keep b (Nat.lt_of_lt_of_le (h7' b hb) hbut.size) ?_, ?_, fun y hy => .inl hy⟩
      · have := hXw b hb
        simp; omega
      · exact ((But.of_below hb13 [hp]).trans hbut).trans' hs fun y hy => .inr (by simp at hy; omega)
    · obtain ⟨a0, e0, eb⟩ := cut_blk e
      rw [eb]
      exact h6 a0 e0
  clear ha hnx hn3 hb12 hb13 hb2 zbk h1 h2 h3 h4 h5 h6 h7 hh3 r3 h7' hbut hh4 hn4 hnr hn hXw
  go_wp2_with fail
  exact bodyPost_ret (v := .tuple #[.agg #[.int .i64 x1, .int .i64 x2], .bool true]) (by simp [results, Try.results40, go_sem, q6, q7]) rfl ⟨rfl, hfin.out⟩
theorem rLower_none (H : RH w hp X S) (hS : S.length ≤ 1099511627776) {id key : Int} (hth : ∀ x ∈ S, x.2 ≠ id) : Calls Try.prog 41 #[.pointer (some ⟨hp, 0, none⟩), .int .i64 id, .int .i64 key] w fun e w' => e = .returned (.tuple #[.bool false, .int .i64 5]) ∧ w' = w := by
  have hF := Lib.hid (rfind_any H hS id)
  rw [show idx (fun x : It => decide (x.2 = id)) S = -1 from idx_no fun y hy => decide_eq_false (hth y hy)] at hF
  clear H hth
  go_enter Try.func41, Try.ntmps41
  go_wp2_with (go_at_call 58; refine hF.out.mono ?_; rintro e w2 ⟨rfl, rfl⟩)
  go_returns
  exact ⟨rfl, rfl⟩
theorem rLower_high (H : RH w hp X S) (hS : S.length ≤ 1099511627776) {j : Nat} {id key old : Int} (hx : S[j]? = some (old, id)) (hj : idx (fun x : It => decide (x.2 = id)) S = (j : Int)) (hk : old ≤ key) : Calls Try.prog 41 #[.pointer (some ⟨hp, 0, none⟩), .int .i64 id, .int .i64 key] w fun e w' => e = .returned (.tuple #[.bool false, .int .i64 0]) ∧ w' = w := by
  have hF := Lib.hid (rfind_any H hS id)
  rw [hj] at hF
  obtain ⟨A, c, h1, h2, _⟩ := H
  have hjl : j < S.length := (List.getElem?_eq_some_iff.1 hx).1
  have c0 := cell_of_one h1
  obtain ⟨b, o, y1, y2, rfl, hbs, hx', y0, y1c⟩ := h2.pair hjl
  rw [hx] at hx'
  cases hx'
  have g0 : decide ((j : Int) < 0) = false := decide_eq_false (by omega)
  have g1 : decide (old ≤ key) = true := decide_eq_true hk
  have hjn : (j : Int) < (S.length : Int) := by omega
  clear h1 h2 hx hj
  go_enter Try.func41, Try.ntmps41
  go_wp2_with (go_at_call 58; refine hF.out.mono ?_; rintro e w2 ⟨rfl, hw⟩; replace hw := hw.symm; subst hw)
  go_returns
  exact ⟨rfl, rfl⟩
theorem RPost.trans {w1 w2 w3 : World} {X' : List Nat} {S S' : List It} (hR : But w1 w2 [hp] ∧ ∀ y ∈ X', y ∈ X ∨ w1.heap.size ≤ y) (h : RPost w2 w3 hp X' S') : RPost w1 w3 hp X S' := by
  obtain ⟨X'', h1, h2, h3⟩ := h
  exact ⟨X'', h1, hR.1.trans h2, fun y hy => (h3 y hy).elim (hR.2 y) (fun h => .inr (Nat.le_trans hR.1.size h))⟩
set_option maxRecDepth 100000 in
theorem rLower_any {w3 : World} (H : RH w3 hp X S) (hSl : S.length + 1 ≤ 1099511627776) {j : Nat} {id key old : Int} (hx : S[j]? = some (old, id)) (hj : idx (fun x : It => decide (x.2 = id)) S = (j : Int)) (hk : key < old) (hn : ∀ x ∈ S.take j ++ S.drop (j + 1), x.2 ≠ id) :
    Calls Try.prog 41 #[.pointer (some ⟨hp, 0, none⟩), .int .i64 id, .int .i64 key] w3 fun e w' => e = .returned (.tuple #[.bool true, .int .i64 0]) ∧
      ∃ i, i ≤ (S.take j ++ S.drop (j + 1)).length ∧ (∀ y ∈ (S.take j ++ S.drop (j + 1)).drop i, ltI (key, id) y = true) ∧ (i = 0 ∨ ∃ y, (S.take j ++ S.drop (j + 1))[i - 1]? = some y ∧ ltI (key, id) y = false) ∧ RPost w3 w' hp X ((S.take j ++ S.drop (j + 1)).take i ++ [(key, id)] ++ (S.take j ++ S.drop (j + 1)).drop i) := by
  have hF := Lib.hid (rfind_any H (by omega) id)
  rw [hj] at hF
  have hm := Lib.hid H.mem
  obtain ⟨A, c, h1, h2, h3, h4, h5, h6, h7⟩ := H
  have hjl : j < S.length := (List.getElem?_eq_some_iff.1 hx).1
  have c0 := cell_of_one h1
  obtain ⟨b, o, y1, y2, hA, hbs, hx', y0, y1c⟩ := h2.pair hjl
  rw [hx] at hx'
  cases hx'
  have g0 : decide ((j : Int) < 0) = false := decide_eq_false (by omega)
  have g1 : decide (old ≤ key) = false := decide_eq_false (by omega)
  have hjn : (j : Int) < (S.length : Int) := by omega
  obtain ⟨j1, hj1⟩ : ∃ q, j + 1 = q := ⟨_, rfl⟩
  have hwr : IntKind.i64.wrap ((j : Int) + 1) = (j1 : Int) := by rw [IntKind.wrap_i64]; omega
  rw [hj1] at hn
  have hH0 := Lib.hid h1
  have rA : Hid (∀ W, But w3 W [hp] → Rd W 2 pairE A j (S.take j)) := fun W hW => (h2.take (k := j) (by omega)).but1 hW (fun a e => (h6 a e).2)
  have rB : Hid (∀ W, But w3 W [hp] → Rd W 2 pairE (cutA A c j1 2) (S.length - j1) (S.drop j1)) := fun W hW => (h2.drop (k := j1) (by omega) h3).but1 hW (cut_ne fun a e => (h6 a e).2)
  have hh := fun W => run_head0 (P := Try.prog) (t := 48) (e := 53) (s := 2) Try.underlying48 (by kernel_rfl) (fun W => by simp [go_sem]) A S.length c j (by omega) .i64 W
  have hd := fun W => run_cut (P := Try.prog) (t := 48) (e := 53) (s := 2) Try.underlying48 (by kernel_rfl) (fun W => by simp [go_sem]) A S.length c j1 (by omega) .i64 W
  rw [hA] at c0
  have hnh := Lib.hid hn
  clear h1 h2 h5 h6 h7 hx hj hA hn
  go_enter Try.func41, Try.ntmps41
  go_wp2_with (go_at_call 58; refine hF.out.mono ?_; rintro e w2 ⟨rfl, hw⟩; replace hw := hw.symm; subst hw)
  clear hF c0 y0 y1c
  go_upto_region 6 with fail
  refine wp_region_ghost (fun fl x w => GH w3 hp (.slice A S.length c) ([]) (S.take j) (S.take j ++ S.drop j1) ((0, 0)) (fl 1) (fl 8) (fl 8) (fl 16) (fl 19) (fl 8) (fl 7) (fl 15) (x 1) (x 8) (x 8) (x 16) undef w ∧ (fl 7 = true → fl 5 = true) ∧ (fl 15 = true → fl 12 = true)) (by kernel_rfl) (by kernel_rfl) (by kernel_rfl) (by kernel_rfl) (by kernel_rfl) ?_ ?_
  · intro x0
    exact ⟨GH.start rfl rfl rfl rfl rfl rfl hH0.out, (fun h => by cases h), fun h => by cases h⟩
  intro base O hbase hO
  have kx0 : Hid (∀ xs, evX base O xs (.tmp 0) = .pointer (some ⟨hp, 0, none⟩)) := fun xs => by rw [hbase, hO]; rfl
  have kx8 : Hid (∀ xs, evX base O xs (.tmp 8) = .int .i64 (j : Int)) := fun xs => by rw [hbase, hO]; rfl
  have kx24 : Hid (∀ xs, evX base O xs (.tmp 24) = xs 0) := fun xs => by rw [hO]; rfl
  have kx25 : Hid (∀ xs, evX base O xs (.tmp 25) = xs 1) := fun xs => by rw [hO]; rfl
  have kx26 : Hid (∀ xs, evX base O xs (.tmp 26) = xs 2) := fun xs => by rw [hO]; rfl
  have kx27 : Hid (∀ xs, evX base O xs (.tmp 27) = xs 3) := fun xs => by rw [hO]; rfl
  have kx28 : Hid (∀ xs, evX base O xs (.tmp 28) = xs 4) := fun xs => by rw [hO]; rfl
  have kx29 : Hid (∀ xs, evX base O xs (.tmp 29) = xs 5) := fun xs => by rw [hO]; rfl
  have kx30 : Hid (∀ xs, evX base O xs (.tmp 30) = xs 6) := fun xs => by rw [hO]; rfl
  have kx31 : Hid (∀ xs, evX base O xs (.tmp 31) = xs 7) := fun xs => by rw [hO]; rfl
  have kx32 : Hid (∀ xs, evX base O xs (.tmp 32) = xs 8) := fun xs => by rw [hO]; rfl
  have kx33 : Hid (∀ xs, evX base O xs (.tmp 33) = xs 9) := fun xs => by rw [hO]; rfl
  have kx34 : Hid (∀ xs, evX base O xs (.tmp 34) = xs 10) := fun xs => by rw [hO]; rfl
  have kx35 : Hid (∀ xs, evX base O xs (.tmp 35) = xs 11) := fun xs => by rw [hO]; rfl
  have kx36 : Hid (∀ xs, evX base O xs (.tmp 36) = xs 12) := fun xs => by rw [hO]; rfl
  have kx37 : Hid (∀ xs, evX base O xs (.tmp 37) = xs 13) := fun xs => by rw [hO]; rfl
  have kx38 : Hid (∀ xs, evX base O xs (.tmp 38) = xs 14) := fun xs => by rw [hO]; rfl
  have kx39 : Hid (∀ xs, evX base O xs (.tmp 39) = xs 15) := fun xs => by rw [hO]; rfl
  have kx40 : Hid (∀ xs, evX base O xs (.tmp 40) = xs 16) := fun xs => by rw [hO]; rfl
  have kx41 : Hid (∀ xs, evX base O xs (.tmp 41) = xs 17) := fun xs => by rw [hO]; rfl
  have kx42 : Hid (∀ xs, evX base O xs (.tmp 42) = xs 18) := fun xs => by rw [hO]; rfl
  clear hbase hO
  apply gh_det (n := 0)
  · intro fl xs w ev hG hD hl hdone hev K hK
    have e0 := (hev (.tmp 0)).trans (kx0.out xs)
    rw [if_pos (wantedX_none rfl)]
    have ef : ∀ f, ev (.func f) = .func (.func f) #[] #[] := fun f => (hev _).trans rfl
    clear hev hD
    go_simp
    exact hK _ _ rfl hG
  refine gh_any (n := 1) (fun _ => True) ?_ ?_
  · intro fl xs w ev hG hD hl hdone hev K hK
    rw [if_pos (wantedX_none rfl)]
    have ef : ∀ f, ev (.func f) = .func (.func f) #[] #[] := fun f => (hev _).trans rfl
    clear hev hD
    go_simp
    exact hK _ _ trivial ⟨hG.1.l0S hl, hG.2⟩
  apply gh_det (n := 2)
  · intro fl xs w ev hG hD hl hdone hev K hK
    have e0 := (hev (.tmp 0)).trans (kx0.out xs)
    rw [if_pos (wantedX_none rfl)]
    have ef : ∀ f, ev (.func f) = .func (.func f) #[] #[] := fun f => (hev _).trans rfl
    clear hev hD
    go_simp
    exact hK _ _ rfl hG
  apply gh_det (n := 3)
  · intro fl xs w ev hG hD hl hdone hev K hK
    have e26 := (hev (.tmp 26)).trans (kx26.out xs)
    have d2 := hD.at_ 2 rfl rfl
    replace e26 := e26.trans d2
    rw [if_pos (wantedX_none rfl)]
    have ef : ∀ f, ev (.func f) = .func (.func f) #[] #[] := fun f => (hev _).trans rfl
    clear hev hD
    go_simp
    exact hK _ _ rfl hG
  apply gh_det (n := 4)
  · intro fl xs w ev hG hD hl hdone hev K hK
    have e27 := (hev (.tmp 27)).trans (kx27.out xs)
    have d3 := hD.at_ 3 rfl rfl
    replace e27 := e27.trans d3
    rw [if_pos (wantedX_none rfl)]
    have ef : ∀ f, ev (.func f) = .func (.func f) #[] #[] := fun f => (hev _).trans rfl
    clear hev hD
    go_simp
    exact hK _ _ rfl hG
  apply gh_det (n := 5)
  · intro fl xs w ev hG hD hl hdone hev K hK
    have e28 := (hev (.tmp 28)).trans (kx28.out xs)
    have d4 := hD.at_ 4 rfl rfl
    replace e28 := e28.trans d4
    rw [if_pos (wantedX_none rfl)]
    have ef : ∀ f, ev (.func f) = .func (.func f) #[] #[] := fun f => (hev _).trans rfl
    clear hev hD
    have m0 := cell_of_one (hG.1.r1R (bne2 hG.2.1 hl))
    go_simp
    exact hK _ _ rfl ⟨hG.1, fun _ => rfl, hG.2.2⟩
  apply gh_det (n := 6)
  · intro fl xs w ev hG hD hl hdone hev K hK
    have e8 := (hev (.tmp 8)).trans (kx8.out xs)
    rw [if_pos (wantedX_none rfl)]
    have ef : ∀ f, ev (.func f) = .func (.func f) #[] #[] := fun f => (hev _).trans rfl
    clear hev hD
    go_simp
    exact hK _ _ rfl hG
  apply gh_det (n := 7)
  · intro fl xs w ev hG hD hl hdone hev K hK
    have e29 := (hev (.tmp 29)).trans (kx29.out xs)
    have d5 := hD.at_ 5 rfl rfl
    replace e29 := e29.trans d5
    have e30 := (hev (.tmp 30)).trans (kx30.out xs)
    have d6 := hD.at_ 6 rfl rfl
    replace e30 := e30.trans d6
    rw [if_pos (wantedX_none rfl)]
    have ef : ∀ f, ev (.func f) = .func (.func f) #[] #[] := fun f => (hev _).trans rfl
    clear hev hD
    go_simp
    exact hK _ _ rfl ⟨hG.1.r1S, fun _ => done_of hdone 5 rfl, hG.2.2⟩
  refine gh_any (n := 8) (fun _ => True) ?_ ?_
  · intro fl xs w ev hG hD hl hdone hev K hK
    have e25 := (hev (.tmp 25)).trans (kx25.out xs)
    have e31 := (hev (.tmp 31)).trans (kx31.out xs)
    have d7 := hD.at_ 7 rfl rfl
    replace e31 := e31.trans d7
    rw [if_pos (wantedX_none rfl)]
    have ef : ∀ f, ev (.func f) = .func (.func f) #[] #[] := fun f => (hev _).trans rfl
    clear hev hD
    have own := hG.1.o0 (done_of hdone 1 rfl) hl
    obtain ⟨v', w1', hrun, own1, hgr, hnew⟩ := app_items c (L := []) own (rA.out w hG.1.but) (by simp only [List.length_append, List.length_take, List.length_drop, List.length_cons, List.length_nil]; have := hSl; omega) hG.1.but.size
    rw [List.nil_append] at own1
    exact outcome_append (.tmp 25) (.tmp 31) 48 rfl e25 e31 hrun (hK _ _ trivial ⟨hG.1.a12S hl (done_of hdone 1 rfl) (done_of hdone 7 rfl) own1 hgr rfl, hG.2⟩)
  apply gh_det (n := 9)
  · intro fl xs w ev hG hD hl hdone hev K hK
    have e0 := (hev (.tmp 0)).trans (kx0.out xs)
    rw [if_pos (wantedX_none rfl)]
    have ef : ∀ f, ev (.func f) = .func (.func f) #[] #[] := fun f => (hev _).trans rfl
    clear hev hD
    go_simp
    exact hK _ _ rfl hG
  apply gh_det (n := 10)
  · intro fl xs w ev hG hD hl hdone hev K hK
    have e33 := (hev (.tmp 33)).trans (kx33.out xs)
    have d9 := hD.at_ 9 rfl rfl
    replace e33 := e33.trans d9
    rw [if_pos (wantedX_none rfl)]
    have ef : ∀ f, ev (.func f) = .func (.func f) #[] #[] := fun f => (hev _).trans rfl
    clear hev hD
    go_simp
    exact hK _ _ rfl hG
  apply gh_det (n := 11)
  · intro fl xs w ev hG hD hl hdone hev K hK
    have e34 := (hev (.tmp 34)).trans (kx34.out xs)
    have d10 := hD.at_ 10 rfl rfl
    replace e34 := e34.trans d10
    rw [if_pos (wantedX_none rfl)]
    have ef : ∀ f, ev (.func f) = .func (.func f) #[] #[] := fun f => (hev _).trans rfl
    clear hev hD
    go_simp
    exact hK _ _ rfl hG
  apply gh_det (n := 12)
  · intro fl xs w ev hG hD hl hdone hev K hK
    have e35 := (hev (.tmp 35)).trans (kx35.out xs)
    have d11 := hD.at_ 11 rfl rfl
    replace e35 := e35.trans d11
    rw [if_pos (wantedX_none rfl)]
    have ef : ∀ f, ev (.func f) = .func (.func f) #[] #[] := fun f => (hev _).trans rfl
    clear hev hD
    have m0 := cell_of_one (hG.1.r2R (bne2 hG.2.2 hl))
    go_simp
    exact hK _ _ rfl ⟨hG.1, hG.2.1, fun _ => rfl⟩
  apply gh_det (n := 13)
  · intro fl xs w ev hG hD hl hdone hev K hK
    have e8 := (hev (.tmp 8)).trans (kx8.out xs)
    rw [if_pos (wantedX_none rfl)]
    have ef : ∀ f, ev (.func f) = .func (.func f) #[] #[] := fun f => (hev _).trans rfl
    clear hev hD
    go_simp
    exact hK _ _ rfl hG
  apply gh_det (n := 14)
  · intro fl xs w ev hG hD hl hdone hev K hK
    have e37 := (hev (.tmp 37)).trans (kx37.out xs)
    have d13 := hD.at_ 13 rfl rfl
    replace e37 := e37.trans d13
    rw [if_pos (wantedX_none rfl)]
    have ef : ∀ f, ev (.func f) = .func (.func f) #[] #[] := fun f => (hev _).trans rfl
    have ec : ∀ v, ev (.const v) = v := fun v => (hev _).trans rfl
    clear hev hD
    go_simp
    exact hK _ _ rfl hG
  apply gh_det (n := 15)
  · intro fl xs w ev hG hD hl hdone hev K hK
    have e36 := (hev (.tmp 36)).trans (kx36.out xs)
    have d12 := hD.at_ 12 rfl rfl
    replace e36 := e36.trans d12
    have e38 := (hev (.tmp 38)).trans (kx38.out xs)
    have d14 := hD.at_ 14 rfl rfl
    replace e38 := e38.trans d14
    rw [if_pos (wantedX_none rfl)]
    have ef : ∀ f, ev (.func f) = .func (.func f) #[] #[] := fun f => (hev _).trans rfl
    clear hev hD
    go_simp
    exact hK _ _ rfl ⟨hG.1.r2S, hG.2.1, fun _ => done_of hdone 12 rfl⟩
  refine gh_any (n := 16) (fun _ => True) ?_ ?_
  · intro fl xs w ev hG hD hl hdone hev K hK
    have e32 := (hev (.tmp 32)).trans (kx32.out xs)
    have e39 := (hev (.tmp 39)).trans (kx39.out xs)
    have d15 := hD.at_ 15 rfl rfl
    replace e39 := e39.trans d15
    rw [if_pos (wantedX_none rfl)]
    have ef : ∀ f, ev (.func f) = .func (.func f) #[] #[] := fun f => (hev _).trans rfl
    clear hev hD
    have own := hG.1.o2 (done_of hdone 8 rfl) hl
    obtain ⟨v', w1', hrun, own1, hgr, hnew⟩ := app_items _ own (rB.out w hG.1.but) (by simp only [List.length_append, List.length_take, List.length_drop, List.length_cons, List.length_nil]; have := hSl; omega) hG.1.but.size
    exact outcome_append (.tmp 32) (.tmp 39) 48 rfl e32 e39 hrun (hK _ _ trivial ⟨hG.1.a3S hl (done_of hdone 8 rfl) (done_of hdone 15 rfl) own1 hgr, hG.2⟩)
  apply gh_det (n := 17)
  · intro fl xs w ev hG hD hl hdone hev K hK
    have e24 := (hev (.tmp 24)).trans (kx24.out xs)
    have d0 := hD.at_ 0 rfl rfl
    replace e24 := e24.trans d0
    rw [if_pos (wantedX_none rfl)]
    have ef : ∀ f, ev (.func f) = .func (.func f) #[] #[] := fun f => (hev _).trans rfl
    clear hev hD
    go_simp
    exact hK _ _ rfl hG
  apply gh_det (n := 18)
  · intro fl xs w ev hG hD hl hdone hev K hK
    have e41 := (hev (.tmp 41)).trans (kx41.out xs)
    have d17 := hD.at_ 17 rfl rfl
    replace e41 := e41.trans d17
    rw [if_pos (wantedX_none rfl)]
    have ef : ∀ f, ev (.func f) = .func (.func f) #[] #[] := fun f => (hev _).trans rfl
    clear hev hD
    go_simp
    exact hK _ _ rfl hG
  refine gh_any (n := 19) (fun _ => True) ?_ ?_
  · intro fl xs w ev hG hD hl hdone hev K hK
    have e42 := (hev (.tmp 42)).trans (kx42.out xs)
    have d18 := hD.at_ 18 rfl rfl
    replace e42 := e42.trans d18
    have e40 := (hev (.tmp 40)).trans (kx40.out xs)
    rw [if_pos (wantedX_none rfl)]
    have ef : ∀ f, ev (.func f) = .func (.func f) #[] #[] := fun f => (hev _).trans rfl
    clear hev hD
    have own := hG.1.o3 (done_of hdone 16 rfl)
    have hh0 := hG.1.h0 hl
    have c00 := cell_of_one hh0
    have f00 := free_of_one hh0
    obtain ⟨n7, hn7⟩ : ∃ n7, (S.take j ++ S.drop j1).length = n7 := ⟨_, rfl⟩
    rw [hn7] at own
    obtain ⟨A7, c7, e7, _⟩ := Rd.of_own (enc := pairE) pairE_len2 hn7 own
    rw [e7] at e40
    clear own hn7
    go_simp
    refine hK _ _ trivial ?_
    rw [← e7]
    exact ⟨hG.1.stS hl (done_of hdone 16 rfl), hG.2⟩
  clear kx0 kx8 kx24 kx25 kx26 kx27 kx28 kx29 kx30 kx31 kx32 kx33 kx34 kx35 kx36 kx37 kx38 kx39 kx40 kx41 kx42
  intro xs w9 hG hI
  obtain ⟨X', hR9, hb9, hX9⟩ := hG.1.fin rfl
  clear hG hI
  simp only [List.append_eq, List.cons_append, List.nil_append, setAll, List.setIfInBounds_toArray, List.set_cons_zero, List.set_cons_succ]
  clear hh hd
  obtain ⟨T, hT⟩ : ∃ T, S.take j ++ S.drop j1 = T := ⟨_, rfl⟩
  have hTl : T.length + 1 ≤ 1099511627776 := by rw [← hT]; simp; omega
  rw [hT] at hR9 hnh
  have hTh := Lib.hid hT
  have hP := Lib.hid (rPush_new hR9 hTl (kx := key) (ix := id) hnh.out)
  have hbx : Hid (But w3 w9 [hp] ∧ ∀ y ∈ X', y ∈ X ∨ w3.heap.size ≤ y) := ⟨hb9, fun y hy => (hX9 y hy).elim (fun e => .inl (e ▸ hm.out)) .inr⟩
  clear hR9 hb9 hX9 hT
  go_wp2_with (go_at_call 39; refine hP.out.mono ?_; rintro e w5 ⟨rfl, i, hi1, hi2, hi3, hi4⟩)
  go_returns
  refine ⟨rfl, ?_⟩
  rw [hj1, hTh.out]
  exact ⟨i, hi1, hi2, hi3, RPost.trans (S := S) hbx.out hi4⟩
end
end Go.Proofs.Ytapfndjaimfcaaa
