/-
  Walks: container/heap's Push, Pop, Fix over items.
-/
import Derived.Test.YtapfndjaimfcaaaHeap8
namespace Go.Proofs.Ytapfndjaimfcaaa
open Go.RowKit Go.Shelf B K
set_option linter.unusedVariables false
set_option linter.unusedSimpArgs false
set_option maxHeartbeats 2000000
section
variable {w : World} {base h m : Nat} {sv : Value} {l : List It}
set_option maxRecDepth 100000 in
theorem hfix_any (H : HW w base h m sv l) (k : Nat) (hk : k < l.length) (hi : ∀ c z p, 0 < c → par c = k → l[c]? = some z → l[k]? = some p → ltI z p = false) (hu : UpInv l k) :
    Calls Try.prog 57 #[.iface 90 (.pointer (some ⟨h, 0, none⟩)), .int .i64 k] w fun e w' => e = .returned (.tuple #[]) ∧ HNext w w' base h m sv l := by
  have mN : ∀ w, Sem.run Try.prog (method (Try.prog.types.size + 100) 90 (.pointer (some ⟨h, 0, none⟩)) "Len") w = .ok (114, .pointer (some ⟨h, 0, none⟩)) w := fun _ => by kernel_rfl
  have eN := enters_of Try.func114 (by kernel_rfl) rfl
  have hN := Lib.hid (iLen_any H)
  have hD := Lib.hid (down_idle H k hk hi)
  have hU : Hid (∀ W, Below w.heap.size w W → Calls Try.prog 62 #[.iface 90 (.pointer (some ⟨h, 0, none⟩)), .int .i64 k] W fun e w' => e = .returned (.tuple #[]) ∧ (∃ l', HW w' base h m sv l' ∧ l'.Perm l ∧ IsHeap l' l'.length) ∧ But W w' (hbs h m sv)) := fun W hW => up_any (H.below hW) k hk hu
  go_enter Try.func57, Try.ntmps57
  go_wp2_with (first | (refine hN.out.mono ?_; rintro e w' ⟨rfl, rfl⟩) | (go_at_call 69; refine hD.out.mono ?_; rintro e w4 ⟨rfl, hb4⟩) | (go_at_call 62; refine (hU.out _ hb4).mono ?_; rintro e w5 ⟨rfl, ⟨l', H', hp, hh⟩, hb5⟩))
  go_returns
  exact ⟨rfl, ⟨sv, l', H', hh, hp, fun g hg => .inl (mem_own hg)⟩, (But.of_below hb4 _).trans hb5⟩
set_option maxRecDepth 100000 in
theorem hpush_any {kx ix : Int} (H : HW w base h m sv l) (hh : IsHeap l l.length) (hbase : base ≤ w.heap.size) (hwf : (Lit.int .i64 ix).wf = true) (hnew : ∀ x ∈ l, x.2 ≠ ix) (hroom : l.length + 1 ≤ 1099511627776) :
    Calls Try.prog 52 #[.iface 90 (.pointer (some ⟨h, 0, none⟩)), .iface 53 (.agg #[.int .i64 kx, .int .i64 ix])] w fun e w' => e = .returned (.tuple #[]) ∧ HNext w w' base h m sv (l ++ [(kx, ix)]) := by
  have mP : ∀ w, Sem.run Try.prog (method (Try.prog.types.size + 100) 90 (.pointer (some ⟨h, 0, none⟩)) "Push") w = .ok (117, .pointer (some ⟨h, 0, none⟩)) w := fun _ => by kernel_rfl
  have eP := enters_of Try.func117 (by kernel_rfl) rfl
  have mN : ∀ w, Sem.run Try.prog (method (Try.prog.types.size + 100) 90 (.pointer (some ⟨h, 0, none⟩)) "Len") w = .ok (114, .pointer (some ⟨h, 0, none⟩)) w := fun _ => by kernel_rfl
  have eN := enters_of Try.func114 (by kernel_rfl) rfl
  have hP := Lib.hid (iPush_any (kx := kx) H hbase hwf hnew hroom)
  have hN : Hid (∀ {W : World} {sv'}, HW W base h m sv' (l ++ [(kx, ix)]) → Calls Try.prog 114 #[.pointer (some ⟨h, 0, none⟩)] W fun e w' => e = .returned (.int .i64 ((l.length : Int) + 1)) ∧ w' = W) := fun H' => by
    have := iLen_any H'
    rwa [show (((l ++ [(kx, ix)]).length : Nat) : Int) = (l.length : Int) + 1 by simp] at this
  have hU : Hid (∀ {W : World} {sv'}, HW W base h m sv' (l ++ [(kx, ix)]) → Calls Try.prog 62 #[.iface 90 (.pointer (some ⟨h, 0, none⟩)), .int .i64 l.length] W fun e w' => e = .returned (.tuple #[]) ∧ (∃ l', HW w' base h m sv' l' ∧ l'.Perm (l ++ [(kx, ix)]) ∧ IsHeap l' l'.length) ∧ But W w' (hbs h m sv')) := fun H' => up_any H' l.length (by simp) (up_push hh _)
  have hln : (l.length : Int) ≤ 1099511627776 := by omega
  go_enter Try.func52, Try.ntmps52
  go_wp2_with (first | (refine hP.out.mono ?_; rintro e w4 ⟨rfl, ⟨sv', H', hs'⟩, hb4⟩) | (refine (hN.out H').mono ?_; rintro e w' ⟨rfl, rfl⟩) | (go_at_call 62; refine (hU.out H').mono ?_; rintro e w5 ⟨rfl, ⟨l', H5, hp, hh5⟩, hb5⟩))
  go_returns
  refine ⟨rfl, ⟨sv', l', H5, hh5, hp, hs'⟩, hb4.trans' hb5 fun y hy => ?_⟩
  simp only [hbs, List.mem_cons, Option.mem_toList] at hy
  rcases hy with rfl | rfl | hy
  · exact .inl (by simp [hbs])
  · exact .inl (by simp [hbs])
  · exact hs' y hy
set_option maxRecDepth 100000 in
theorem hpop_any {kx ix : Int} (H : HW w base h m sv l) (hh : IsHeap l l.length) (h0 : l[0]? = some (kx, ix)) :
    Calls Try.prog 56 #[.iface 90 (.pointer (some ⟨h, 0, none⟩))] w fun e w' => e = .returned (.iface 53 (.agg #[.int .i64 kx, .int .i64 ix])) ∧ (∃ l0, ((kx, ix) :: l0).Perm l ∧ HNext w w' base h m sv l0) := by
  have mN : ∀ w, Sem.run Try.prog (method (Try.prog.types.size + 100) 90 (.pointer (some ⟨h, 0, none⟩)) "Len") w = .ok (114, .pointer (some ⟨h, 0, none⟩)) w := fun _ => by kernel_rfl
  have eN := enters_of Try.func114 (by kernel_rfl) rfl
  have mS : ∀ w, Sem.run Try.prog (method (Try.prog.types.size + 100) 90 (.pointer (some ⟨h, 0, none⟩)) "Swap") w = .ok (118, .pointer (some ⟨h, 0, none⟩)) w := fun _ => by kernel_rfl
  have eS := enters_of Try.func118 (by kernel_rfl) rfl
  have mO : ∀ w, Sem.run Try.prog (method (Try.prog.types.size + 100) 90 (.pointer (some ⟨h, 0, none⟩)) "Pop") w = .ok (116, .pointer (some ⟨h, 0, none⟩)) w := fun _ => by kernel_rfl
  have eO := enters_of Try.func116 (by kernel_rfl) rfl
  have hlen := (List.getElem?_eq_some_iff.1 h0).1
  obtain ⟨n, hn⟩ : ∃ n, l.length = n + 1 := ⟨l.length - 1, by omega⟩
  have hll := H.len
  have hlast : l[n]? = some l[n] := List.getElem?_eq_getElem (by omega)
  obtain ⟨b, eb⟩ : ∃ q, l[n] = q := ⟨_, rfl⟩
  rw [eb] at hlast
  have hN := Lib.hid (iLen_any H)
  have hS := Lib.hid (iSwap_any H h0 hlast)
  rw [show ((0 : Nat) : Int) = 0 from rfl] at hS
  rw [hn, show ((n + 1 : Nat) : Int) = (n : Int) + 1 by omega] at hN
  have hlen2 : (swp l 0 n (kx, ix) b).length = n + 1 := by rw [swp_len, hn]
  have hD : Hid (∀ {W : World}, HW W base h m sv (swp l 0 n (kx, ix) b) → Calls Try.prog 69 #[.iface 90 (.pointer (some ⟨h, 0, none⟩)), .int .i64 0, .int .i64 n] W fun e w' => (∃ v : Value, e = .returned v) ∧
      (∃ l', HW w' base h m sv (l' ++ [(kx, ix)]) ∧ ((kx, ix) :: l').Perm l ∧ IsHeap l' l'.length) ∧ But W w' (hbs h m sv)) := fun {W} H' => by
    refine (down_any H' 0 n (by omega) (by omega) (dn_top hh hn h0 hlast)).mono ?_
    rintro e w' ⟨hv, ⟨l', H'', hp, hhp, hk⟩, hb⟩
    refine ⟨hv, ?_, hb⟩
    have hl' : l'.length = n + 1 := by rw [hp.length_eq, hlen2]
    have hnn : l'[n]? = some (kx, ix) := by
      rw [hk n (Nat.le_refl _), swp_at h0 hlast, if_pos rfl]
    have e1 : l' = l'.take n ++ [(kx, ix)] := by
      have := take_at hnn
      rw [List.take_of_length_le (by omega)] at this
      exact this
    have hl3 : (l'.take n).length = n := by rw [List.length_take]; omega
    rw [e1] at H'' hhp
    refine ⟨l'.take n, H'', ?_, isHeap_cut (x := (kx, ix)) (by rw [hl3]; exact hhp)⟩
    refine List.Perm.trans ?_ (hp.trans (swp_perm h0 hlast))
    rw [e1, List.take_left' (by rw [List.length_take]; omega)]
    exact (List.perm_append_singleton _ _).symm
  have hln : (n : Int) ≤ 1099511627776 := by omega
  clear eb hlast h0 hlen hn hlen2
  go_enter Try.func56, Try.ntmps56
  go_wp2_with (first | (refine hN.out.mono ?_; rintro e w' ⟨rfl, rfl⟩) | (refine hS.out.mono ?_; rintro e w4 ⟨rfl, H4, hb4⟩) | (go_at_call 69; refine (hD.out H4).mono ?_; rintro e w5 ⟨⟨v5, rfl⟩, ⟨l5, H5, hp5, hh5⟩, hb5⟩) | (refine (iPop_any H5).mono ?_; rintro e w6 ⟨rfl, ⟨sv6, H6, hs6⟩, hb6⟩))
  go_returns
  exact ⟨rfl, l5, hp5, ⟨sv6, l5, H6, hh5, List.Perm.refl _, fun g hg => .inl (mem_own (by rw [← hs6]; exact hg))⟩, (hb4.trans hb5).trans hb6⟩
end
end Go.Proofs.Ytapfndjaimfcaaa
