/-
  Walk: items.Pop.
-/
import Derived.Test.YtapfndjaimfcaaaHeap6
namespace Go.Proofs.Ytapfndjaimfcaaa
open Go.RowKit B K
set_option linter.unusedVariables false
set_option linter.unusedSimpArgs false
set_option maxHeartbeats 2000000
set_option maxRecDepth 100000 in
theorem iPop_any {w : World} {base h m : Nat} {sv : Value} {l : List It} {kx ix : Int} (H : HW w base h m sv (l ++ [(kx, ix)])) :
    Calls Try.prog 116 #[.pointer (some ⟨h, 0, none⟩)] w fun e w' => e = .returned (.iface 53 (.agg #[.int .i64 kx, .int .i64 ix])) ∧ (∃ sv', HW w' base h m sv' l ∧ sv'.ownBlock = sv.ownBlock) ∧ But w w' (hbs h m sv) := by
  have hx : (l ++ [(kx, ix)])[l.length]? = some (kx, ix) := by simp
  obtain ⟨g, c, rfl, hgl, hc, hc2, h1, h2⟩ := H.item hx
  have hlen1 : (l ++ [(kx, ix)]).length = l.length + 1 := by simp
  have hll := H.len
  obtain ⟨n, hn⟩ : ∃ n, l.length = n := ⟨_, rfl⟩
  have H0 := H
  rw [hlen1] at hc hll
  have hb1 : Below w.heap.size w (w.alloc (.cells #[.int .i64 kx, .int .i64 ix] 53)) := (Below.refl _ w).alloc (Nat.le_refl _) _
  have H1 := H.below hb1
  have bx := Bx2.new w 53 kx ix
  have hbkn : w.heap.size ∉ hbs h m (.slice (some ⟨g, 0, none⟩) (l ++ [(kx, ix)]).length c) := fun hx => Nat.lt_irrefl _ (H.lt _ hx)
  obtain ⟨W1, hW1⟩ : ∃ q, w.alloc (.cells #[.int .i64 kx, .int .i64 ix] 53) = q := ⟨_, rfl⟩
  rw [hW1] at hb1 H1 bx
  obtain ⟨bk, hbke⟩ : ∃ q, w.heap.size = q := ⟨_, rfl⟩
  rw [hbke] at bx hbkn
  have c0 := H.c0
  have d0 := H1.c0
  have d1 := H1.c1
  rw [hlen1, hn] at c0 d0
  have hgh := (H.hg rfl).1
  have hgm := (H.hg rfl).2
  -- the row cut
  have hh : ∀ W, (Instr.slice 48 (.slice (some ⟨g, 0, none⟩) (n + 1) c) none (some (.int .i64 (n : Int))) none).run Try.prog W = .ok (.slice (some ⟨g, 0, none⟩) n c) W := fun W => by
    have := run_head (P := Try.prog) (t := 48) (e := 53) (s := 2) Try.underlying48 (by kernel_rfl) (fun W => by simp [go_sem]) (some ⟨g, 0, none⟩) (n + 1) c n (by omega) .i64 W
    rwa [cutA_zero] at this
  have fz : W1.frozen? ⟨h, 0, none⟩ = false := by simp [World.frozen?, H1.blk]
  have hb3 : But W1 (W1.setCell ⟨h, 0, none⟩ (.slice (some ⟨g, 0, none⟩) n c)) [h] := But.of_set _ _ _ (by simp)
  have hblk3 : (W1.setCell ⟨h, 0, none⟩ (.slice (some ⟨g, 0, none⟩) n c)).heap[h]? = some (.cells #[.slice (some ⟨g, 0, none⟩) n c, .map (some m)] 87 (0, 0)) := by
    have hbk := H1.blk
    have hlt := (Array.getElem?_eq_some_iff.1 hbk).1
    have e : W1.heap[h] = .cells #[.slice (some ⟨g, 0, none⟩) (l ++ [(kx, ix)]).length c, .map (some m)] 87 (0, 0) := by rw [Array.getElem?_eq_getElem hlt] at hbk; exact Option.some.inj hbk
    simp [World.setCell, hbk, hlt, Array.getElem_modify, e]
  have own3 : (W1.setCell ⟨h, 0, none⟩ (.slice (some ⟨g, 0, none⟩) n c)).ownsRow base 53 2 (.slice (some ⟨g, 0, none⟩) n c) l.length (l.flatMap pairE) := by
    have h0 := H1.own
    have h1 := own_first (m := l.length) h0 (by simp)
    rw [flat_take pairE_len2] at h1
    simp only [List.take_left] at h1
    rw [hn] at h1 ⊢
    exact own_keep h1 fun g2 hg2 => by cases hg2; exact hb3.keep g (Nat.lt_of_lt_of_le hgl hb1.size) (by simp; exact hgh)
  obtain ⟨f, hf, hM⟩ := H1.map
  have hf3 := hf.keep (hb3.keep m H1.mlt (by simp; exact Ne.symm H1.hm))
  have hwf := H.wf _ (List.mem_of_getElem? hx)
  have hbx3 : ∀ i, i < 2 → (W1.setCell ⟨h, 0, none⟩ (.slice (some ⟨g, 0, none⟩) n c)).cell? ⟨bk, i, none⟩ = W1.cell? ⟨bk, i, none⟩ := fun i _ => hb3.cell (p := ⟨bk, i, none⟩) bx.lt (by simp; intro e; exact hbkn (by simp [hbs, e]))
  have e0 := (hbx3 0 (by omega)).trans bx.c0
  have e1 := (hbx3 1 (by omega)).trans bx.c1
  have e2 := (hb3.cell (p := ⟨h, 1, none⟩) H1.hlt)
  have e3 : (W1.setCell ⟨h, 0, none⟩ (.slice (some ⟨g, 0, none⟩) n c)).cell? ⟨h, 1, none⟩ = some (.map (some m)) := by rw [cell_of_row _ _ _ _ _ _ hblk3]; rfl
  obtain ⟨W3, hW3⟩ : ∃ q, W1.setCell ⟨h, 0, none⟩ (.slice (some ⟨g, 0, none⟩) n c) = q := ⟨_, rfl⟩
  rw [hW3] at hb3 hblk3 own3 hf3 e0 e1 e3
  obtain ⟨W4, hdel, hf4, hturn⟩ := MapI.drop (w := W3.drewN 1) (h := hf3) Try.underlying51 Try.underlying3 hwf 0
  rw [hM.there hx] at hf4
  have hbut4 : But W3 W4 [m] := by
    have h0 : But W3 (W3.drewN 1) [m] := ⟨rfl, rfl, rfl, Nat.le_refl _, fun _ _ _ => rfl⟩
    exact h0.trans (But.of_grown hturn.grown (by simp))
  have hbk3 : bk < W3.heap.size := Nat.lt_of_lt_of_le bx.lt hb3.size
  have hbkm : bk ∉ [m] := by simp; intro e; exact hbkn (by simp [hbs, e])
  have r0 := (hbut4.cell (p := ⟨bk, 0, none⟩) hbk3 hbkm).trans e0
  have r1 := (hbut4.cell (p := ⟨bk, 1, none⟩) hbk3 hbkm).trans e1
  have hfin : Hid ((∃ sv', HW W4 base h m sv' l ∧ sv'.ownBlock = (Value.slice (some ⟨g, 0, none⟩) (n + 1) c).ownBlock) ∧ But w W4 (hbs h m (.slice (some ⟨g, 0, none⟩) (n + 1) c))) := by
    refine ⟨⟨.slice (some ⟨g, 0, none⟩) n c, ⟨(hbut4.keep h (Nat.lt_of_lt_of_le H1.hlt hb3.size) (by simp; exact H1.hm)).trans hblk3, ?_, ⟨_, ?_, hM.pop⟩, H.hb, H.mb, fun x hx => H.wf x (by simp [hx]), by omega⟩, rfl⟩, ?_⟩
    · exact own_keep own3 fun g2 hg2 => by cases hg2; exact hbut4.keep g (Nat.lt_of_lt_of_le (Nat.lt_of_lt_of_le hgl hb1.size) hb3.size) (by simp; exact hgm)
    · rw [hlen1] at hf4
      simpa using hf4
    · exact ((But.of_below hb1 _).trans (hb3.mono (by intro a ha; simp at ha; subst ha; simp [hbs]))).trans (hbut4.mono (by intro a ha; simp at ha; subst ha; simp [hbs]))
  have hz : (n : Int) < ((n + 1 : Nat) : Int) := by omega
  rw [hn] at h1 h2
  rw [hlen1, hn]
  clear H H0 H1 hx hf hf3 hM hwf hturn hf4 own3 hblk3 hb3 hbut4 hbx3 e2 hlen1 bx
  go_enter Try.func116, Try.ntmps116
  go_upto_region 4 with fail
  refine wp_tail0 6 (by kernel_rfl) (by kernel_rfl) ?_
  simp only [List.take_succ_cons, List.take_zero, List.drop_succ_cons, List.drop_zero]
  repeat still_step
  try refine wpStill_nil ?_
  refine wpList_delete_run rfl (.tmp 30) (.tmp 32) 51 3 rfl rfl rfl hdel ?_
  go_wp2_with fail
  go_returns
  exact ⟨rfl, hfin.out.1, hfin.out.2⟩
end Go.Proofs.Ytapfndjaimfcaaa
