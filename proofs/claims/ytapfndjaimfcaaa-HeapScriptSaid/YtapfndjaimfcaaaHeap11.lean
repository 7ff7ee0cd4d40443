/-
  Walk: heap.Lower.
-/
import Derived.Test.YtapfndjaimfcaaaHeap10
namespace Go.Proofs.Ytapfndjaimfcaaa
open Go.RowKit Go.Shelf B K
set_option linter.unusedVariables false
set_option linter.unusedSimpArgs false
set_option maxHeartbeats 2000000
theorem flat_set_fst : ∀ (l : List (Int × Int)) (i : Nat) (a x y : Int), l[i]? = some (a, y) → (l.flatMap pairE).set (i * 2) (.int .i64 x) = (l.set i (x, y)).flatMap pairE
  | [], _, _, _, _, h => by simp at h
  | p :: r, 0, a, x, y, h => by simp at h; subst h; rfl
  | p :: r, i + 1, a, x, y, h => by
    have ih := flat_set_fst r i a x y (by simpa using h)
    rw [List.set_cons_succ, List.flatMap_cons, List.flatMap_cons, ← ih]
    have e1 : (i + 1) * 2 = 2 + i * 2 := by omega
    rw [e1, List.set_append_right _ _ (by simp [pairE])]
    congr 2
    simp [pairE]
section
variable {w w' : World} {base h m : Nat} {sv : Value} {l l2 : List It} {X : List Nat}
theorem Lower_nil (w : World) (id key : Int) : Calls Try.prog 36 #[.pointer none, .int .i64 id, .int .i64 key] w fun e w' => e = .returned (.tuple #[.bool false, .int .i64 1]) ∧ w' = w := by
  go_enter Try.func36, Try.ntmps36
  go_wp2
  go_returns
  exact ⟨rfl, rfl⟩
theorem Push_nil (w : World) (id key : Int) : Calls Try.prog 31 #[.pointer none, .agg #[.int .i64 key, .int .i64 id]] w fun e w' => e = .returned (.int .i64 1) ∧ Below w.heap.size w w' := by
  go_enter Try.func31, Try.ntmps31
  go_wp2
  go_returns
  exact ⟨rfl, (Below.refl _ w).alloc (Nat.le_refl _) _⟩
theorem Lower_none (H : HQ w base h X l) {id key : Int} (hwf : (Lit.int .i64 id).wf = true) (hth : ∀ x ∈ l, x.2 ≠ id) :
    Calls Try.prog 36 #[.pointer (some ⟨h, 0, none⟩), .int .i64 id, .int .i64 key] w fun e w' => e = .returned (.tuple #[.bool false, .int .i64 5]) ∧ w' = w := by
  obtain ⟨m, sv, l', H, hh, hp, hX⟩ := H
  have d1 := H.c1
  obtain ⟨f, hf, hM⟩ := H.map
  have hf0 : f id = none := hM.gone.2 fun x hx => hth x (hp.mem_iff.1 hx)
  have hl := (hf.look Try.underlying51 Try.underlying3 Try.underlying3 (by kernel_rfl) hwf).1
  rw [hf0] at hl
  simp only [Option.getD_none, Option.isSome_none] at hl
  clear H hh hp hX hf hM hf0 hth
  go_enter Try.func36, Try.ntmps36
  go_wp2
  go_returns
  exact ⟨rfl, rfl⟩
theorem Lower_high (H : HQ w base h X l) {id key old : Int} (hwf : (Lit.int .i64 id).wf = true) (hth : (old, id) ∈ l) (hk : old ≤ key) :
    Calls Try.prog 36 #[.pointer (some ⟨h, 0, none⟩), .int .i64 id, .int .i64 key] w fun e w' => e = .returned (.tuple #[.bool false, .int .i64 0]) ∧ w' = w := by
  obtain ⟨m, sv, l', H, hh, hp, hX⟩ := H
  have d1 := H.c1
  have d0 := H.c0
  obtain ⟨f, hf, hM⟩ := H.map
  obtain ⟨k, hx⟩ := List.getElem?_of_mem (hp.mem_iff.2 hth)
  have hl := (hf.look Try.underlying51 Try.underlying3 Try.underlying3 (by kernel_rfl) hwf).1
  rw [hM.1 k _ hx] at hl
  simp only [Option.getD_some, Option.isSome_some] at hl
  obtain ⟨g, c, rfl, hgl, hc, hc2, h1, h2⟩ := H.item hx
  have hkl := (List.getElem?_eq_some_iff.1 hx).1
  have hll := H.len
  obtain ⟨n, hn⟩ : ∃ n, l'.length = n := ⟨_, rfl⟩
  rw [hn] at d0
  have hz0 : (0 : Int) ≤ (k : Int) := by omega
  have hz1 : (k : Int) < (n : Int) := by omega
  simp only at h1 h2
  clear H hh hp hX hf hM hth hx hn
  go_enter Try.func36, Try.ntmps36
  go_wp2
  go_returns
  exact ⟨rfl, rfl⟩
set_option maxRecDepth 100000 in
theorem Lower_any (H : HQ w base h X l) {id key old : Int} {l0 : List It} (hwf : (Lit.int .i64 id).wf = true) (hth : l.Perm ((old, id) :: l0)) (hk : key < old) (hbase : base ≤ w.heap.size) (hXl : ∀ b ∈ X, b < w.heap.size) :
    Calls Try.prog 36 #[.pointer (some ⟨h, 0, none⟩), .int .i64 id, .int .i64 key] w fun e w' => e = .returned (.tuple #[.bool true, .int .i64 0]) ∧ HPost w w' base h X ((key, id) :: l0) := by
  obtain ⟨m, sv, l', H, hh, hp, hX⟩ := H
  have d1 := H.c1
  have d0 := H.c0
  obtain ⟨f, hf, hM⟩ := H.map
  have hp2 := hp.trans hth
  obtain ⟨k, hx⟩ := List.getElem?_of_mem (hp2.mem_iff.2 (List.mem_cons_self ..))
  have hl := (hf.look Try.underlying51 Try.underlying3 Try.underlying3 (by kernel_rfl) hwf).1
  rw [hM.1 k _ hx] at hl
  simp only [Option.getD_some, Option.isSome_some] at hl
  obtain ⟨g, c, rfl, hgl, hc, hc2, h1, h2⟩ := H.item hx
  have hgh := (H.hg rfl).1
  have hgm := (H.hg rfl).2
  have hkl := (List.getElem?_eq_some_iff.1 hx).1
  have hll := H.len
  have fz := H.own.frozenAt (k * 2)
  have own1 := (H.own.stored (k * 2) (.int .i64 key)).1
  rw [flat_set_fst l' k old key id hx] at own1
  have hb1 : But w (w.setCell ⟨g, k * 2, none⟩ (.int .i64 key)) [g] := But.of_set _ _ _ (by simp)
  have hlt : ltI (key, id) (old, id) = true := ltI_iff.2 (.inl hk)
  have hperm : (l'.set k (key, id)).Perm ((key, id) :: l0) := by
    have e1 : l' = l'.take k ++ (old, id) :: l'.drop (k + 1) := by
      have e := (List.take_append_drop k l').symm
      rw [drop_at hx] at e
      exact e
    have e2 : l'.set k (key, id) = l'.take k ++ (key, id) :: l'.drop (k + 1) := by
      rw [List.set_eq_take_append_cons_drop, if_pos hkl]
    rw [e2]
    refine List.perm_middle.trans (List.Perm.cons _ ?_)
    rw [e1] at hp2
    exact List.Perm.cons_inv (List.perm_middle.symm.trans hp2)
  have H1 : HW (w.setCell ⟨g, k * 2, none⟩ (.int .i64 key)) base h m (.slice (some ⟨g, 0, none⟩) l'.length c) (l'.set k (key, id)) := by
    refine ⟨(hb1.keep h H.hlt (by simp; exact Ne.symm hgh)).trans H.blk, by rw [List.length_set]; exact own1, ⟨f, ?_, hM.set hx (key, id) rfl⟩, H.hb, H.mb, fun x hx' => ?_, by rw [List.length_set]; exact hll⟩
    · rw [List.length_set]
      exact hf.keep (hb1.keep m H.mlt (by simp; exact Ne.symm hgm))
    · rcases List.mem_or_eq_of_mem_set hx' with hx' | rfl
      · exact H.wf x hx'
      · exact hwf
  have hF : Hid (Calls Try.prog 57 #[.iface 90 (.pointer (some ⟨h, 0, none⟩)), .int .i64 k] (w.setCell ⟨g, k * 2, none⟩ (.int .i64 key)) fun e w' => e = .returned (.tuple #[]) ∧ HPost w w' base h X ((key, id) :: l0)) := by
    refine (hfix_any H1 k (by simpa using hkl) (fun c z p hc hpc hz hpp => ?_) (up_lower hh hx hlt)).mono ?_
    · rw [List.getElem?_set_self hkl] at hpp
      cases hpp
      exact low_idle hh hx hlt hc hpc hz
    · rintro e w' ⟨rfl, hn⟩
      refine ⟨rfl, ?_⟩
      have hn' : HNext w w' base h m (.slice (some ⟨g, 0, none⟩) l'.length c) (l'.set k (key, id)) := ⟨by
        obtain ⟨sv', l5, a1, a2, a3, a4⟩ := hn.1
        exact ⟨sv', l5, a1, a2, a3, fun q hq => (a4 q hq).imp (fun h => h) fun h => by simpa using h⟩, (hb1.mono (by intro a ha; simp at ha; subst ha; simp [hbs, Value.ownBlock])).trans hn.2⟩
      exact hn'.post hperm hX hXl hbase H.base_le
  obtain ⟨n, hn⟩ : ∃ n, l'.length = n := ⟨_, rfl⟩
  rw [hn] at d0
  have hz0 : (0 : Int) ≤ (k : Int) := by omega
  have hz1 : (k : Int) < (n : Int) := by omega
  simp only at h1 h2
  clear H hh hp hX hf hM hth hx hn H1 hp2 hperm own1 hb1 hlt hc hc2
  go_enter Try.func36, Try.ntmps36
  go_wp2_with (go_at_call 57; refine hF.out.mono ?_; rintro e w4 ⟨rfl, hpost⟩)
  go_returns
  exact ⟨rfl, hpost⟩
end
end Go.Proofs.Ytapfndjaimfcaaa
