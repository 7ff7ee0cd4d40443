/-
  Walks: slices.SortedFunc, heap.All, Top.
-/
import Derived.Test.YtapfndjaimfcaaaHeap12
import Derived.Test.YtapfndjaimfcaaaHeapIter
import Derived.Test.YtapfndjaimfcaaaHeapSort
namespace Go.Proofs.Ytapfndjaimfcaaa
open Go.RowKit Go.Shelf B K
set_option linter.unusedVariables false
set_option linter.unusedSimpArgs false
set_option maxHeartbeats 2000000
section
variable {w w' : World} {base h m : Nat} {sv : Value} {l l2 : List It} {X : List Nat}
/-- a row of its own, sorted -/
def RetAll (w : World) (S : List It) (e : Ending) (w' : World) : Prop := ∃ A c, e = .returned (.slice A S.length c) ∧ Rd w' 2 pairE A S.length S ∧ S.length ≤ c ∧ c ≤ 9223372036854775807 ∧ Below w.heap.size w w'
theorem sortedF_any (gf : Nat) (lb : Array Value) (eg : ∀ args w, (callFunc gf args).run Try.prog w = .ok (.enter gf args) w) (l : List It) (hl : l.length ≤ 1099511627776) (w : World)
    (hit : Iter Try.prog gf lb itV l (fun k => k < w.heap.size) (fun _ => False) w) :
    Calls Try.prog 53 #[.func (.func gf) #[] lb, .func (.func 55) #[] #[]] w fun e w' => RetAll w (srtI l) e w' := by
  have hC := Lib.hid (collect_any gf lb eg l hl w hit)
  clear hit
  go_enter Try.func53, Try.ntmps53
  go_wp2_with fail
  refine hC.out.mono ?_; rintro e w1 ⟨v, rfl, own, hb⟩
  have hS := Lib.hid (sortI_any w.heap.size v l w1 own (by omega))
  go_wp2_with fail
  refine hS.out.mono ?_; rintro e w2 ⟨rfl, own2, hg⟩
  obtain ⟨A, c, rfl, r, hc, hc2⟩ := Rd.of_own (enc := pairE) pairE_len2 rfl own2
  have hb2 : Below w.heap.size w w2 := hb.grown hg hb.size (fun g hg => (own.lt g hg).1)
  go_wp2_with fail
  go_returns
  exact ⟨A, c, rfl, r, hc, hc2, hb2⟩
theorem All_any (H : HQ w base h X l) : Calls Try.prog 34 #[.pointer (some ⟨h, 0, none⟩)] w fun e w' => RetAll w (srtI l) e w' := by
  obtain ⟨m, sv, l', H, _, hp, _⟩ := H
  have hle := H.len
  obtain ⟨A, c, rfl, hr, hc, hc2⟩ := Rd.of_own (enc := pairE) pairE_len2 rfl H.own
  have c0 := H.c0
  have hb1 : Below w.heap.size w (w.alloc (.cells #[.slice A l'.length c] 48)) := (Below.refl _ w).alloc (Nat.le_refl _) _
  have hnew := heap_alloc_new w (.cells #[.slice A l'.length c] 48)
  have hit := Lib.hid (values_iter w.heap.size A l'.length c l' (w.alloc (.cells #[.slice A l'.length c] 48)) (by simp) (by rw [cell_of_row _ _ _ _ _ _ hnew]; rfl) (hr.below hb1) hle)
  rw [← srtI_congr hp]
  have hS := Lib.hid (sortedF_any 65 _ (enters_of Try.func65 (by kernel_rfl) rfl) l' hle _ hit.out)
  obtain ⟨n, hn⟩ : ∃ n, l'.length = n := ⟨_, rfl⟩
  rw [hn] at c0 hb1 hS
  clear H hp hr hc hc2 hit hnew hle hn
  go_enter Try.func34, Try.ntmps34
  go_wp2_with (first | (go_at_call 54; refine (values_any _ _ ⟨_, _, _, rfl⟩).mono ?_; rintro e w1 ⟨rfl, rfl⟩) | (go_at_call 53; refine hS.out.mono ?_; rintro e w2 ⟨A2, c2, rfl, r2, h2, h3, hb2⟩))
  go_returns
  exact ⟨A2, c2, rfl, r2, h2, h3, hb1.trans (hb2.mono hb1.size)⟩
/-- the first one -/
theorem Top_any (H : HQ w base h X l) {x : It} {l0 : List It} (hp : l.Perm (x :: l0)) (hmin : ∀ y ∈ l0, ltI x y = true) :
    Calls Try.prog 37 #[.pointer (some ⟨h, 0, none⟩)] w fun e w' => e = .returned (.tuple #[.agg #[.int .i64 x.1, .int .i64 x.2], .bool true]) ∧ Below w.heap.size w w' := by
  have hb1 : Below w.heap.size w (w.alloc (.cells #[.int .i64 0, .int .i64 0] 53)) := (Below.refl _ w).alloc (Nat.le_refl _) _
  have hN := Lib.hid (Len_any (H.below hb1))
  have hnew := heap_alloc_new w (.cells #[.int .i64 0, .int .i64 0] 53)
  obtain ⟨m, sv, l', H, hh, hp', _⟩ := H
  have hlen := hp.length_eq
  have hlen' := hp'.length_eq
  simp only [List.length_cons] at hlen
  have h0 : l'[0]? = some l'[0] := List.getElem?_eq_getElem (by omega)
  have hx0 : l'[0] = x := by
    have hm : l'[0] ∈ x :: l0 := hp.mem_iff.1 (hp'.mem_iff.1 (List.getElem_mem ..))
    rcases List.mem_cons.1 hm with e | hm
    · exact e
    · obtain ⟨k, hk⟩ := List.getElem?_of_mem (hp'.mem_iff.2 (hp.mem_iff.2 (List.mem_cons_self ..)) : x ∈ l')
      have := heap_least hh h0 k x hk
      rw [hmin _ hm] at this; cases this
  rw [hx0] at h0
  obtain ⟨x1, x2⟩ := x
  obtain ⟨g, c, rfl, hgl, hc, hc2, h1, h2⟩ := H.item h0
  simp only [Nat.zero_mul, Nat.zero_add] at h1 h2
  have c0 := (hb1.cell (p := ⟨h, 0, none⟩) H.hlt).trans H.c0
  have k1 := (hb1.cell (p := ⟨g, 0, none⟩) hgl).trans h1
  have k2 := (hb1.cell (p := ⟨g, 1, none⟩) hgl).trans h2
  have hne : w.heap.size ≠ h ∧ w.heap.size ≠ g := ⟨by have := H.hlt; omega, by omega⟩
  obtain ⟨n, hn⟩ : ∃ n, l'.length = n := ⟨_, rfl⟩
  have hz : (0 : Int) < (n : Int) := by omega
  have hzz : ((l.length : Nat) : Int) ≠ 0 := by omega
  rw [hn] at c0
  obtain ⟨W1, hW1⟩ : ∃ q, w.alloc (.cells #[.int .i64 0, .int .i64 0] 53) = q := ⟨_, rfl⟩
  rw [hW1] at hb1 hN hnew c0 k1 k2
  obtain ⟨bk, hbke⟩ : ∃ q, w.heap.size = q := ⟨_, rfl⟩
  have hb2 : Hid (Below w.heap.size w ((W1.setCell ⟨bk, 0, none⟩ (.int .i64 x1)).setCell ⟨bk, 1, none⟩ (.int .i64 x2))) := (hb1.setCell (by rw [← hbke]; simp) _).setCell (by rw [← hbke]; simp) _
  rw [hbke] at hnew
  have q0 : W1.cell? ⟨bk, 0, none⟩ = some (.int .i64 0) := by rw [cell_of_row _ _ _ _ _ _ hnew]; rfl
  have q1 : W1.cell? ⟨bk, 1, none⟩ = some (.int .i64 0) := by rw [cell_of_row _ _ _ _ _ _ hnew]; rfl
  have q2 : W1.frozen? ⟨bk, 0, none⟩ = false := by simp [World.frozen?, hnew]
  have q3 : W1.frozen? ⟨bk, 1, none⟩ = false := by simp [World.frozen?, hnew]
  have hlt := (Array.getElem?_eq_some_iff.1 hnew).1
  have e : W1.heap[bk] = .cells #[.int .i64 0, .int .i64 0] 53 (0, 0) := by rw [Array.getElem?_eq_getElem hlt] at hnew; exact Option.some.inj hnew
  have q4 : (W1.setCell ⟨bk, 0, none⟩ (.int .i64 x1)).cell? ⟨bk, 0, none⟩ = some (.int .i64 x1) := by simp [World.cell?, World.setCell, hlt, Array.getElem_modify, e]
  have q5 : ((W1.setCell ⟨bk, 0, none⟩ (.int .i64 x1)).setCell ⟨bk, 1, none⟩ (.int .i64 x2)).cell? ⟨bk, 1, none⟩ = some (.int .i64 x2) := by simp [World.cell?, World.setCell, hlt, Array.getElem_modify, e]
  clear H hh hp hp' hlen hlen' h0 hx0 hmin hc hc2 h1 h2 hn e hnew hb1
  go_enter Try.func37, Try.ntmps37
  go_wp2_with (go_at_call 32; refine hN.out.mono ?_; rintro e w' ⟨rfl, rfl⟩)
  exact bodyPost_ret (v := .tuple #[.agg #[.int .i64 x1, .int .i64 x2], .bool true]) (by simp [results, Try.results37, go_sem, q4, q5]) rfl ⟨rfl, hb2.out⟩
end
end Go.Proofs.Ytapfndjaimfcaaa
