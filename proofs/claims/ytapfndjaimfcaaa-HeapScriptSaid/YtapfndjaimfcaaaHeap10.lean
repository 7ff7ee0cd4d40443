/-
  Walks: heap.New, Len, Push, Pop, Lower: a heap as a set of items; the caller's own blocks lie as they lay.
-/
import Derived.Test.YtapfndjaimfcaaaHeap9
namespace Go.Proofs.Ytapfndjaimfcaaa
open Go.RowKit Go.Shelf B K
set_option linter.unusedVariables false
set_option linter.unusedSimpArgs false
set_option maxHeartbeats 2000000
/-- block h is a heap of the items l, in whatever order; it holds none of the blocks X -/
def HQ (w : World) (base h : Nat) (X : List Nat) (l : List It) : Prop := ∃ m sv l', HW w base h m sv l' ∧ IsHeap l' l'.length ∧ l'.Perm l ∧ ∀ b ∈ X, b ∉ hbs h m sv
def HPost (w w' : World) (base h : Nat) (X : List Nat) (l : List It) : Prop := HQ w' base h X l ∧ Below base w w' ∧ ∀ b ∈ X, b < w.heap.size → w'.heap[b]? = w.heap[b]?
section
variable {w w' : World} {base h m : Nat} {sv : Value} {l l2 : List It} {X : List Nat}
theorem HNext.post (hn : HNext w w' base h m sv l) (hp : l.Perm l2) (hX : ∀ b ∈ X, b ∉ hbs h m sv) (hlt : ∀ b ∈ X, b < w.heap.size) (hbase : base ≤ w.heap.size) (hble : ∀ x ∈ hbs h m sv, base ≤ x) : HPost w w' base h X l2 := by
  obtain ⟨⟨sv', l', H', hh, hp', hs⟩, hb⟩ := hn
  refine ⟨⟨m, sv', l', H', hh, hp'.trans hp, fun b hbX hbm => ?_⟩, hb.below hbase hble, fun b hbX hbl => hb.keep b hbl (hX b hbX)⟩
  simp only [hbs, List.mem_cons, Option.mem_toList] at hbm
  rcases hbm with rfl | rfl | hg
  · exact hX _ hbX (by simp [hbs])
  · exact hX _ hbX (by simp [hbs])
  · rcases hs b hg with h1 | h1
    · exact hX b hbX h1
    · have := hlt b hbX; omega
theorem HQ.below (H : HQ w base h X l) (hb : Below w.heap.size w w') : HQ w' base h X l := by
  obtain ⟨m, sv, l', H, r⟩ := H
  exact ⟨m, sv, l', H.below hb, r⟩
/-- blocks that came later -/
theorem HQ.more (H : HQ w base h X l) {Y : List Nat} (hY : ∀ y ∈ Y, y ∈ X ∨ w.heap.size ≤ y) : HQ w base h Y l := by
  obtain ⟨m, sv, l', H, hh, hp, hX⟩ := H
  exact ⟨m, sv, l', H, hh, hp, fun b hb hm => (hY b hb).elim (fun h => hX b h hm) (fun h => by have := H.lt b hm; omega)⟩
theorem HQ.perm (H : HQ w base h X l) (hp : l.Perm l2) : HQ w base h X l2 := by
  obtain ⟨m, sv, l', H, hh, hp', hX⟩ := H
  exact ⟨m, sv, l', H, hh, hp'.trans hp, hX⟩
theorem HQ.but {Z : List Nat} (H : HQ w base h X l) (hb : But w w' Z) (hZ : ∀ z ∈ Z, z ∈ X) : HQ w' base h X l := by
  obtain ⟨m, sv, l', H, hh, hp, hX⟩ := H
  exact ⟨m, sv, l', H.but hb (fun x hx hz => hX x (hZ x hz) hx), hh, hp, hX⟩
theorem HPost.trans {w1 w2 w3 : World} {l3 : List It} (h1 : HPost w1 w2 base h X l2) (h2 : HPost w2 w3 base h X l3) : HPost w1 w3 base h X l3 :=
  ⟨h2.1, h1.2.1.trans h2.2.1, fun b hb hlt => (h2.2.2 b hb (Nat.lt_of_lt_of_le hlt h1.2.1.size)).trans (h1.2.2 b hb hlt)⟩
theorem HPost.after {w1 w2 w3 : World} (h0 : Below w1.heap.size w1 w2) (h2 : HPost w2 w3 base h X l) (hb : base ≤ w1.heap.size) : HPost w1 w3 base h X l :=
  ⟨h2.1, (h0.mono hb).trans h2.2.1, fun b hX hlt => (h2.2.2 b hX (Nat.lt_of_lt_of_le hlt h0.size)).trans (h0.block b hlt)⟩
theorem HPost.ahead {w1 w2 w3 : World} (h2 : HPost w1 w2 base h X l) (h0 : Below w2.heap.size w2 w3) (hb : base ≤ w1.heap.size) : HPost w1 w3 base h X l :=
  ⟨h2.1.below h0, h2.2.1.trans (h0.mono (Nat.le_trans hb h2.2.1.size)), fun b hX hlt => (h0.block b (Nat.lt_of_lt_of_le hlt h2.2.1.size)).trans (h2.2.2 b hX hlt)⟩
theorem New_any (X : List Nat) (hX : ∀ b ∈ X, b < w.heap.size) (hbase : base ≤ w.heap.size) :
    Calls Try.prog 30 #[] w fun e w' => ∃ h, e = .returned (.pointer (some ⟨h, 0, none⟩)) ∧ w.heap.size ≤ h ∧ HQ w' base h X [] ∧ Below w.heap.size w w' := by
  have hmk : ∀ W : World, (Instr.makeMap 51 none).run Try.prog W = .ok (.map (some W.heap.size)) (W.alloc (.map #[] 0)) := fun W => by kernel_rfl
  go_enter Try.func30, Try.ntmps30
  go_wp2
  go_returns
  have m1 : MapI Try.prog 3 3 (w.alloc (.map #[] 0)) w.heap.size (fun _ => none) 0 := MapI.new w
  have hb2 : Below (w.alloc (.map #[] 0)).heap.size (w.alloc (.map #[] 0)) ((w.alloc (.map #[] 0)).alloc (.cells #[.slice none 0 0, .map (some w.heap.size)] 87)) := (Below.refl _ _).alloc (Nat.le_refl _) _
  have hb1 : Below w.heap.size w (w.alloc (.map #[] 0)) := (Below.refl _ w).alloc (Nat.le_refl _) _
  have hnew := heap_alloc_new (w.alloc (.map #[] 0)) (.cells #[.slice none 0 0, .map (some w.heap.size)] 87)
  rw [show (w.alloc (.map #[] 0)).heap.size = w.heap.size + 1 by simp] at hnew
  refine ⟨w.heap.size + 1, rfl, by omega, ⟨w.heap.size, .slice none 0 0, [], ⟨hnew, World.ownsRow_nil _ _ _ _, ⟨_, m1.below hb2, mapOk_nil⟩, by omega, hbase, fun x hx => (by cases hx), by simp⟩, isHeap_nil, List.Perm.refl _, fun b hb hm => ?_⟩, hb1.trans (hb2.mono hb1.size)⟩
  have := hX b hb
  simp [hbs, Value.ownBlock] at hm
  omega
theorem Len_any (H : HQ w base h X l) : Calls Try.prog 32 #[.pointer (some ⟨h, 0, none⟩)] w fun e w' => e = .returned (.int .i64 l.length) ∧ w' = w := by
  obtain ⟨m, sv, l', H, _, hp, _⟩ := H
  obtain ⟨A, c, rfl, hr, hc, hc2⟩ := Rd.of_own (enc := pairE) pairE_len2 rfl H.own
  have c0 := H.c0
  rw [← hp.length_eq]
  clear hp
  go_enter Try.func32, Try.ntmps32
  go_wp2
  go_returns
  exact ⟨rfl, rfl⟩
theorem Len_nil (w : World) : Calls Try.prog 32 #[.pointer none] w fun e w' => e = .returned (.int .i64 0) ∧ w' = w := by
  go_enter Try.func32, Try.ntmps32
  go_wp2
  go_returns
  exact ⟨rfl, rfl⟩
set_option maxRecDepth 100000 in
theorem Push_there {kx ix : Int} (H : HQ w base h X l) (hwf : (Lit.int .i64 ix).wf = true) (hth : ∃ x ∈ l, x.2 = ix) :
    Calls Try.prog 31 #[.pointer (some ⟨h, 0, none⟩), .agg #[.int .i64 kx, .int .i64 ix]] w fun e w' => e = .returned (.int .i64 6) ∧ Below w.heap.size w w' := by
  obtain ⟨m, sv, l', H, hh, hp, hX⟩ := H
  have hb1 : Below w.heap.size w (w.alloc (.cells #[.int .i64 kx, .int .i64 ix] 53)) := (Below.refl _ w).alloc (Nat.le_refl _) _
  have H1 := H.below hb1
  have bx := Bx2.new w 53 kx ix
  obtain ⟨W1, hW1⟩ : ∃ q, w.alloc (.cells #[.int .i64 kx, .int .i64 ix] 53) = q := ⟨_, rfl⟩
  rw [hW1] at hb1 H1 bx
  obtain ⟨bk, hbke⟩ : ∃ q, w.heap.size = q := ⟨_, rfl⟩
  rw [hbke] at bx
  have bx0 := bx.c0
  have bx1 := bx.c1
  have d1 := H1.c1
  obtain ⟨f, hf, hM⟩ := H1.map
  obtain ⟨x, hx, rfl⟩ := hth
  obtain ⟨k, hk⟩ := List.getElem?_of_mem (hp.mem_iff.2 hx)
  have hlook : Hid (∀ W, Below W1.heap.size W1 W → (Instr.lookup 51 (.map (some m)) (.int .i64 x.2) true).run Try.prog W = .ok (.tuple #[.int .i64 k, .bool true]) W) := fun W hW => by
    have := (MapI.look (hf.below hW) Try.underlying51 Try.underlying3 Try.underlying3 (by kernel_rfl) hwf).1
    rwa [hM.1 k x hk] at this
  have hhl := H1.hlt
  have hbl := bx.lt
  clear H H1 hf hM hp hx hk hX hh bx
  go_enter Try.func31, Try.ntmps31
  go_upto_region 3 with fail
  refine wp_region_below W1.heap.size (by kernel_rfl) (by kernel_rfl) ?_
  intro C hC
  repeat (go_big_quiet_step (first
    | ((intro _; with_reducible rfl))
    | (intro hc; have m0 := (hc.cell (p := ⟨h, _, none⟩) hhl).trans d1; have m1 := (hc.cell (p := ⟨bk, _, none⟩) hbl).trans bx1; have hl := hlook.out _ hc; simp only [m0, m1, hl, Result.andThen]; exact ⟨trivial, rfl⟩)))
  refine wpQuiet_nil ?_
  intro w4 hb4
  clear hC
  go_wp2_with fail
  go_returns
  exact ⟨rfl, hb1.trans (hb4.mono hb1.size)⟩
theorem HNext.after {w1 w2 : World} (h0 : Below w.heap.size w w1) (h1 : HPost w1 w2 base h X l) (hbase : base ≤ w.heap.size) : HPost w w2 base h X l :=
  ⟨h1.1, (h0.mono hbase).trans h1.2.1, fun b hb hlt => (h1.2.2 b hb (Nat.lt_of_lt_of_le hlt h0.size)).trans (h0.block b hlt)⟩
set_option maxRecDepth 100000 in
theorem Push_new {kx ix : Int} (H : HQ w base h X l) (hwf : (Lit.int .i64 ix).wf = true) (hth : ∀ x ∈ l, x.2 ≠ ix) (hbase : base ≤ w.heap.size) (hXl : ∀ b ∈ X, b < w.heap.size) (hroom : l.length + 1 ≤ 1099511627776) :
    Calls Try.prog 31 #[.pointer (some ⟨h, 0, none⟩), .agg #[.int .i64 kx, .int .i64 ix]] w fun e w' => e = .returned (.int .i64 0) ∧ HPost w w' base h X ((kx, ix) :: l) := by
  obtain ⟨m, sv, l', H, hh, hp, hX⟩ := H
  have hb1 : Below w.heap.size w (w.alloc (.cells #[.int .i64 kx, .int .i64 ix] 53)) := (Below.refl _ w).alloc (Nat.le_refl _) _
  have H1 := H.below hb1
  have bx := Bx2.new w 53 kx ix
  obtain ⟨W1, hW1⟩ : ∃ q, w.alloc (.cells #[.int .i64 kx, .int .i64 ix] 53) = q := ⟨_, rfl⟩
  rw [hW1] at hb1 H1 bx
  obtain ⟨bk, hbke⟩ : ∃ q, w.heap.size = q := ⟨_, rfl⟩
  have hsz := hb1.size
  rw [hbke] at bx
  have bx0 := bx.c0
  have bx1 := bx.c1
  have d1 := H1.c1
  obtain ⟨f, hf, hM⟩ := H1.map
  have hf0 : f ix = none := hM.gone.2 fun x hx => hth x (hp.mem_iff.1 hx)
  have hlook : Hid (∀ W, Below W1.heap.size W1 W → (Instr.lookup 51 (.map (some m)) (.int .i64 ix) true).run Try.prog W = .ok (.tuple #[.int .i64 0, .bool false]) W) := fun W hW => by
    have := (MapI.look (hf.below hW) Try.underlying51 Try.underlying3 Try.underlying3 (by kernel_rfl) hwf).1
    rwa [hf0] at this
  have hhl := H1.hlt
  have hbl := bx.lt
  have hP : Hid (∀ W, Below W1.heap.size W1 W → Calls Try.prog 52 #[.iface 90 (.pointer (some ⟨h, 0, none⟩)), .iface 53 (.agg #[.int .i64 kx, .int .i64 ix])] W fun e w' => e = .returned (.tuple #[]) ∧ HPost w w' base h X ((kx, ix) :: l)) := fun W hW => by
    refine (hpush_any (H1.below hW) hh (Nat.le_trans hbase (Nat.le_trans hsz hW.size)) hwf (fun x hx => hth x (hp.mem_iff.1 hx)) (by rw [hp.length_eq]; exact hroom)).mono ?_
    rintro e w' ⟨rfl, hn⟩
    exact ⟨rfl, HNext.after (hb1.trans (hW.mono hsz)) (hn.post ((List.perm_append_singleton _ _).trans (hp.cons _)) hX (fun b hb => Nat.lt_of_lt_of_le (hXl b hb) (Nat.le_trans hsz hW.size)) (Nat.le_trans hbase (Nat.le_trans hsz hW.size)) H1.base_le) hbase⟩
  clear H H1 hf hM hp hX hh bx hf0 hth hsz
  go_enter Try.func31, Try.ntmps31
  go_upto_region 3 with fail
  refine wp_region_below W1.heap.size (by kernel_rfl) (by kernel_rfl) ?_
  intro C hC
  repeat (go_big_quiet_step (first
    | ((intro _; with_reducible rfl))
    | (intro hc; have m0 := (hc.cell (p := ⟨h, _, none⟩) hhl).trans d1; have m1 := (hc.cell (p := ⟨bk, _, none⟩) hbl).trans bx1; have hl := hlook.out _ hc; simp only [m0, m1, hl, Result.andThen]; exact ⟨trivial, rfl⟩)))
  refine wpQuiet_nil ?_
  intro w4 hb4
  clear hC
  have q0 := (hb4.cell (p := ⟨bk, 0, none⟩) hbl).trans bx0
  have q1 := (hb4.cell (p := ⟨bk, 1, none⟩) hbl).trans bx1
  have hbd : Below W1.heap.size W1 (w4.drewN 1) := ⟨hb4.os, hb4.tape, hb4.output, hb4.size, hb4.block⟩
  have hPd := Lib.hid (hP.out _ hbd)
  clear hP hlook
  go_upto_region 6 with fail
  refine wp_tail0 6 (by kernel_rfl) (by kernel_rfl) ?_
  simp only [List.take_succ_cons, List.take_zero, List.drop_succ_cons, List.drop_zero]
  repeat still_step
  try refine wpStill_nil ?_
  go_wp2_with (go_at_call 52; refine hPd.out.mono ?_; rintro e w6 ⟨rfl, hpost⟩)
  go_returns
  exact ⟨rfl, hpost⟩
set_option maxRecDepth 100000 in
theorem Pop_any (H : HQ w base h X l) (hne : l ≠ []) (hbase : base ≤ w.heap.size) (hXl : ∀ b ∈ X, b < w.heap.size) :
    Calls Try.prog 35 #[.pointer (some ⟨h, 0, none⟩)] w fun e w' => ∃ x l0, l.Perm (x :: l0) ∧ (∀ y ∈ l0, ltI y x = false) ∧ e = .returned (.tuple #[.agg #[.int .i64 x.1, .int .i64 x.2], .bool true]) ∧ HPost w w' base h X l0 := by
  have H0 := H
  obtain ⟨m, sv, l', H, hh, hp, hX⟩ := H
  have hpos : 0 < l'.length := by
    rw [hp.length_eq]
    exact List.length_pos_iff.2 hne
  have h0 : l'[0]? = some l'[0] := List.getElem?_eq_getElem hpos
  obtain ⟨⟨kx, ix⟩, ex⟩ : ∃ q, l'[0] = q := ⟨_, rfl⟩
  rw [ex] at h0
  have hb1 : Below w.heap.size w (w.alloc (.cells #[.int .i64 0, .int .i64 0] 53)) := (Below.refl _ w).alloc (Nat.le_refl _) _
  have hnew := heap_alloc_new w (.cells #[.int .i64 0, .int .i64 0] 53)
  have H1 := H.below hb1
  have HL := H0.below hb1
  obtain ⟨W1, hW1⟩ : ∃ q, w.alloc (.cells #[.int .i64 0, .int .i64 0] 53) = q := ⟨_, rfl⟩
  have hbl : w.heap.size < W1.heap.size := by rw [← hW1]; simp
  rw [hW1] at hb1 H1 HL hnew
  have hbkn : w.heap.size ∉ hbs h m sv := fun hx => Nat.lt_irrefl _ (H.lt _ hx)
  have hN := Lib.hid (Len_any HL)
  have hz : ((l.length : Nat) : Int) ≠ 0 := by rw [← hp.length_eq]; omega
  obtain ⟨bk, hbke⟩ : ∃ q, w.heap.size = q := ⟨_, rfl⟩
  have hsz := hb1.size
  rw [hbke] at hnew hbl hbkn
  have hP : Hid (Calls Try.prog 56 #[.iface 90 (.pointer (some ⟨h, 0, none⟩))] W1 fun e w' => e = .returned (.iface 53 (.agg #[.int .i64 kx, .int .i64 ix])) ∧ (∃ l0, l.Perm ((kx, ix) :: l0) ∧ (∀ y ∈ l0, ltI y (kx, ix) = false) ∧ HPost W1 w' base h (bk :: X) l0)) := by
    refine (hpop_any H1 hh h0).mono ?_
    rintro e w' ⟨rfl, l0, hp0, hn⟩
    refine ⟨rfl, l0, (hp0.trans hp).symm, fun y hy => ?_, hn.post (List.Perm.refl _) ?_ ?_ (Nat.le_trans hbase hsz) H1.base_le⟩
    · obtain ⟨k, hk⟩ := List.getElem?_of_mem (hp0.mem_iff.1 (List.mem_cons_of_mem _ hy))
      exact heap_least hh h0 k y hk
    · intro b hb
      rcases List.mem_cons.1 hb with rfl | hb
      · exact hbkn
      · exact hX b hb
    · intro b hb
      rcases List.mem_cons.1 hb with rfl | hb
      · exact hbl
      · exact Nat.lt_of_lt_of_le (hXl b hb) hsz
  have hta := assert_item kx ix
  have hfin : Hid (∀ (w6 : World) (l0 : List It), HPost W1 w6 base h (bk :: X) l0 → (w6.cell? ⟨bk, 0, none⟩ = some (.int .i64 0) ∧ w6.cell? ⟨bk, 1, none⟩ = some (.int .i64 0) ∧ w6.frozen? ⟨bk, 0, none⟩ = false ∧ w6.frozen? ⟨bk, 1, none⟩ = false ∧ (w6.setCell ⟨bk, 0, none⟩ (.int .i64 kx)).cell? ⟨bk, 0, none⟩ = some (.int .i64 kx) ∧
        ((w6.setCell ⟨bk, 0, none⟩ (.int .i64 kx)).setCell ⟨bk, 1, none⟩ (.int .i64 ix)).cell? ⟨bk, 1, none⟩ = some (.int .i64 ix)) ∧
      HPost w ((w6.setCell ⟨bk, 0, none⟩ (.int .i64 kx)).setCell ⟨bk, 1, none⟩ (.int .i64 ix)) base h X l0) := fun w6 l0 hpost => by
    have hk := hpost.2.2 bk (by simp) hbl
    rw [hnew] at hk
    have hbut : But w6 ((w6.setCell ⟨bk, 0, none⟩ (.int .i64 kx)).setCell ⟨bk, 1, none⟩ (.int .i64 ix)) [bk] := (But.of_set _ _ _ (by simp)).trans (But.of_set _ _ _ (by simp))
    refine ⟨⟨by rw [cell_of_row _ _ _ _ _ _ hk]; rfl, by rw [cell_of_row _ _ _ _ _ _ hk]; rfl, by simp [World.frozen?, hk], by simp [World.frozen?, hk], ?_, ?_⟩, ?_, ?_, ?_⟩
    · have hlt := (Array.getElem?_eq_some_iff.1 hk).1
      have e : w6.heap[bk] = .cells #[.int .i64 0, .int .i64 0] 53 (0, 0) := by rw [Array.getElem?_eq_getElem hlt] at hk; exact Option.some.inj hk
      simp [World.cell?, World.setCell, hlt, Array.getElem_modify, e]
    · have hlt := (Array.getElem?_eq_some_iff.1 hk).1
      have e : w6.heap[bk] = .cells #[.int .i64 0, .int .i64 0] 53 (0, 0) := by rw [Array.getElem?_eq_getElem hlt] at hk; exact Option.some.inj hk
      simp [World.cell?, World.setCell, hlt, Array.getElem_modify, e]
    · exact (hpost.1.but hbut (by simp)).more fun y hy => .inl (by simp [hy])
    · exact (hb1.mono hbase).trans (hpost.2.1.trans (hbut.below (Nat.le_trans hbase (Nat.le_trans hsz hpost.2.1.size)) (by simp; omega)))
    · intro b hb hlt
      have hne : b ≠ bk := by omega
      rw [hbut.keep b (Nat.lt_of_lt_of_le hlt (Nat.le_trans hsz hpost.2.1.size)) (by simpa using hne), hpost.2.2 b (by simp [hb]) (Nat.lt_of_lt_of_le hlt hsz), hb1.block b hlt]
  clear H H0 H1 HL hh hp hX hpos h0 ex hbkn hsz hb1 hXl hbase hnew hne
  go_enter Try.func35, Try.ntmps35
  go_wp2_with (first | (go_at_call 32; refine hN.out.mono ?_; rintro e w' ⟨rfl, rfl⟩) | (go_at_call 56; refine hP.out.mono ?_; rintro e w6 ⟨rfl, l0, hp6, hmin, hpost⟩; obtain ⟨⟨q0, q1, q2, q3, q4, q5⟩, hpost⟩ := hfin.out _ _ hpost))
  exact bodyPost_ret (v := .tuple #[.agg #[.int .i64 kx, .int .i64 ix], .bool true]) (by simp [results, Try.results35, go_sem, q4, q5]) rfl ⟨(kx, ix), l0, hp6, hmin, rfl, hpost⟩
theorem Pop_zero {p : Value} (hN : ∀ W, Below w.heap.size w W → Calls Try.prog 32 #[p] W fun e w' => e = .returned (.int .i64 0) ∧ w' = W) :
    Calls Try.prog 35 #[p] w fun e w' => e = .returned (.tuple #[.agg #[.int .i64 0, .int .i64 0], .bool false]) ∧ Below w.heap.size w w' := by
  have hb1 : Below w.heap.size w (w.alloc (.cells #[.int .i64 0, .int .i64 0] 53)) := (Below.refl _ w).alloc (Nat.le_refl _) _
  have hN1 := Lib.hid (hN _ hb1)
  clear hN
  go_enter Try.func35, Try.ntmps35
  go_wp2_with fail
  refine hN1.out.mono ?_; rintro e w' ⟨rfl, rfl⟩
  go_wp2_with fail
  exact bodyPost_ret (v := .tuple #[.agg #[.int .i64 0, .int .i64 0], .bool false]) (by simp [results, Try.results35, go_sem]) rfl ⟨rfl, hb1⟩
end
end Go.Proofs.Ytapfndjaimfcaaa
