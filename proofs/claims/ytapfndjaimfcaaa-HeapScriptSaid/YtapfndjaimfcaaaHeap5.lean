/-
  Walks: container/heap's down over items.
-/
import Derived.Test.YtapfndjaimfcaaaHeap4
namespace Go.Proofs.Ytapfndjaimfcaaa
open Go.RowKit Go.Shelf B K
set_option linter.unusedVariables false
set_option linter.unusedSimpArgs false
set_option maxHeartbeats 1000000
theorem ret_num {a b : Int} (h : a = b) : Value.int .i64 a = Value.int .i64 b := by rw [h]
section
variable {w : World} {base h m : Nat} {sv : Value} {l : List It}
set_option maxRecDepth 100000 in
theorem down_any (H : HW w base h m sv l) (i0 n : Nat) (hn : n ≤ l.length) (hi0 : i0 ≤ l.length) (hd : DnInv l n i0) :
    Calls Try.prog 69 #[.iface 90 (.pointer (some ⟨h, 0, none⟩)), .int .i64 i0, .int .i64 n] w fun e w' => (∃ v : Value, e = .returned v) ∧ (∃ l', HW w' base h m sv l' ∧ l'.Perm l ∧ IsHeap l' n ∧ ∀ k, n ≤ k → l'[k]? = l[k]?) ∧ But w w' (hbs h m sv) := by
  have mL : ∀ w, Sem.run Try.prog (method (Try.prog.types.size + 100) 90 (.pointer (some ⟨h, 0, none⟩)) "Less") w = .ok (115, .pointer (some ⟨h, 0, none⟩)) w := fun _ => by kernel_rfl
  have mS : ∀ w, Sem.run Try.prog (method (Try.prog.types.size + 100) 90 (.pointer (some ⟨h, 0, none⟩)) "Swap") w = .ok (118, .pointer (some ⟨h, 0, none⟩)) w := fun _ => by kernel_rfl
  have eL := enters_of Try.func115 (by kernel_rfl) rfl
  have eS := enters_of Try.func118 (by kernel_rfl) rfl
  have hll := H.len
  go_enter Try.func69, Try.ntmps69
  go_wp2_with fail
  go_loopw [7] (fun vi wr => ∃ (i : Nat) (l' : List It), vi = .int .i64 i ∧ (i = i0 ∨ i < n) ∧ HW wr base h m sv l' ∧ Hid (DnInv l' n i) ∧ Hid (l'.Perm l) ∧ Hid (∀ k, n ≤ k → l'[k]? = l[k]?) ∧ But w wr (hbs h m sv)) (fun vi _ => n - (intOf vi).toNat)
  case atStart => exact ⟨i0, l, rfl, .inl rfl, H, hd, List.Perm.refl _, fun _ _ => rfl, But.refl _ _⟩
  case round =>
    obtain ⟨i, l', rfl, hi, H', hd, hp, hk, hb⟩ := hrel
    have hlen := hp.out.length_eq
    have hib : (i : Int) ≤ 1099511627776 := by omega
    by_cases h1 : 2 * i + 1 < n
    · have hz1 : 2 * (i : Int) + 1 < (n : Int) := by omega
      have hz0 : ¬ 2 * (i : Int) + 1 < 0 := by omega
      have hin : i < n := by omega
      have hx : l'[i]? = some l'[i] := List.getElem?_eq_getElem (by omega)
      obtain ⟨x, ex⟩ : ∃ q, l'[i] = q := ⟨_, rfl⟩
      rw [ex] at hx
      have ha : l'[2 * i + 1]? = some l'[2 * i + 1] := List.getElem?_eq_getElem (by omega)
      obtain ⟨a, ea⟩ : ∃ q, l'[2 * i + 1] = q := ⟨_, rfl⟩
      rw [ea] at ha
      by_cases h2 : 2 * i + 1 + 1 < n
      · have hb' : l'[2 * i + 1 + 1]? = some l'[2 * i + 1 + 1] := List.getElem?_eq_getElem (by omega)
        obtain ⟨b, eb⟩ : ∃ q, l'[2 * i + 1 + 1] = q := ⟨_, rfl⟩
        rw [eb] at hb'
        have hL1 : Hid (∀ W, Below wr.heap.size wr W → Calls Try.prog 115 #[.pointer (some ⟨h, 0, none⟩), .int .i64 (2 * (i : Int) + 1 + 1), .int .i64 (2 * (i : Int) + 1)] W fun e w' => e = .returned (.bool (ltI b a)) ∧ Below W.heap.size W w') := fun W hW => by
          have := iLess_any (H'.below hW) hb' ha
          rwa [show ((2 * i + 1 + 1 : Nat) : Int) = 2 * (i : Int) + 1 + 1 by omega, show ((2 * i + 1 : Nat) : Int) = 2 * (i : Int) + 1 by omega] at this
        have hz2 : 2 * (i : Int) + 1 + 1 < (n : Int) := by omega
        cases hv1 : ltI b a with
        | true =>
          rw [hv1] at hL1
          have hmin : ∀ c z, 0 < c → c < n → par c = i → l'[c]? = some z → ltI z b = false := fun c z hc hcn hpc hz => by
            have : c = 2 * i + 1 ∨ c = 2 * i + 1 + 1 := by unfold par at hpc; omega
            rcases this with rfl | rfl
            · rw [ha] at hz; cases hz; exact ltI_asy hv1
            · rw [hb'] at hz; cases hz; exact ltI_irr _
          clear hv1
          have hL2 : Hid (∀ W, Below wr.heap.size wr W → Calls Try.prog 115 #[.pointer (some ⟨h, 0, none⟩), .int .i64 (2 * (i : Int) + 1 + 1), .int .i64 (i : Int)] W fun e w' => e = .returned (.bool (ltI b x)) ∧ Below W.heap.size W w') := fun W hW => by
            have := iLess_any (H'.below hW) hb' hx
            rwa [show ((2 * i + 1 + 1 : Nat) : Int) = 2 * (i : Int) + 1 + 1 by omega] at this
          cases hv : ltI b x with
          | false =>
            rw [hv] at hL2
            have hfin : Hid (IsHeap l' n) := dn_stop hd.out fun c z p hc hcn hpc hz hp2 => by
              rw [hx] at hp2; cases hp2
              exact ltI_tr (hmin c z hc hcn hpc hz) hv
            clear hv hx
            go_wp2_with (first | (with_reducible refine (hL1.out wr (Below.refl _ wr)).mono ?_; rintro e w4 ⟨rfl, hb4⟩) | (with_reducible refine (hL2.out _ hb4).mono ?_; rintro e w5 ⟨rfl, hb5⟩))
            go_returns
            exact ⟨⟨_, rfl⟩, ⟨l', H'.below (hb4.trans (hb5.mono hb4.size)), hp.out, hfin.out, hk.out⟩, hb.trans (But.of_below (hb4.trans (hb5.mono hb4.size)) _)⟩
          | true =>
            have hstep : Hid (DnInv (swp l' i (2 * i + 1 + 1) x b) n (2 * i + 1 + 1)) := dn_step hd.out (by omega) (by omega) (by unfold par; omega) hx hb' hv (fun c z hc hcn hpc hz => hmin c z hc hcn hpc hz)
            have hperm : Hid ((swp l' i (2 * i + 1 + 1) x b).Perm l) := (swp_perm hx hb').trans hp.out
            have hkeep : Hid (∀ k, n ≤ k → (swp l' i (2 * i + 1 + 1) x b)[k]? = l[k]?) := fun k hnk => by
              rw [swp_at hx hb', if_neg (by omega), if_neg (by omega)]; exact hk.out k hnk
            have hS : Hid (∀ W, Below wr.heap.size wr W → Calls Try.prog 118 #[.pointer (some ⟨h, 0, none⟩), .int .i64 (i : Int), .int .i64 (2 * (i : Int) + 1 + 1)] W fun e w' => e = .returned (.tuple #[]) ∧ HW w' base h m sv (swp l' i (2 * i + 1 + 1) x b) ∧ But W w' (hbs h m sv)) := fun W hW => by
              have := iSwap_any (H'.below hW) hx hb'
              rwa [show ((2 * i + 1 + 1 : Nat) : Int) = 2 * (i : Int) + 1 + 1 by omega] at this
            rw [hv] at hL2
            clear hv hx
            go_wp2_with (first | (with_reducible refine (hL1.out wr (Below.refl _ wr)).mono ?_; rintro e w4 ⟨rfl, hb4⟩) | (with_reducible refine (hL2.out _ hb4).mono ?_; rintro e w5 ⟨rfl, hb5⟩) | (with_reducible refine (hS.out _ (hb4.trans (hb5.mono hb4.size))).mono ?_; rintro e w6 ⟨rfl, H6, hb6⟩))
            go_roundw
            case rel => exact ⟨2 * i + 1 + 1, _, ret_num (by omega), by omega, H6, hstep, hperm, hkeep, (hb.trans (But.of_below (hb4.trans (hb5.mono hb4.size)) _)).trans hb6⟩
            case measure => simp [intOf]; omega
        | false =>
          rw [hv1] at hL1
          have hmin : ∀ c z, 0 < c → c < n → par c = i → l'[c]? = some z → ltI z a = false := fun c z hc hcn hpc hz => by
            have : c = 2 * i + 1 ∨ c = 2 * i + 1 + 1 := by unfold par at hpc; omega
            rcases this with rfl | rfl
            · rw [ha] at hz; cases hz; exact ltI_irr _
            · rw [hb'] at hz; cases hz; exact hv1
          clear hv1
          have hL2 : Hid (∀ W, Below wr.heap.size wr W → Calls Try.prog 115 #[.pointer (some ⟨h, 0, none⟩), .int .i64 (2 * (i : Int) + 1), .int .i64 (i : Int)] W fun e w' => e = .returned (.bool (ltI a x)) ∧ Below W.heap.size W w') := fun W hW => by
            have := iLess_any (H'.below hW) ha hx
            rwa [show ((2 * i + 1 : Nat) : Int) = 2 * (i : Int) + 1 by omega] at this
          cases hv : ltI a x with
          | false =>
            rw [hv] at hL2
            have hfin : Hid (IsHeap l' n) := dn_stop hd.out fun c z p hc hcn hpc hz hp2 => by
              rw [hx] at hp2; cases hp2
              exact ltI_tr (hmin c z hc hcn hpc hz) hv
            clear hv hx
            go_wp2_with (first | (with_reducible refine (hL1.out wr (Below.refl _ wr)).mono ?_; rintro e w4 ⟨rfl, hb4⟩) | (with_reducible refine (hL2.out _ hb4).mono ?_; rintro e w5 ⟨rfl, hb5⟩))
            go_returns
            exact ⟨⟨_, rfl⟩, ⟨l', H'.below (hb4.trans (hb5.mono hb4.size)), hp.out, hfin.out, hk.out⟩, hb.trans (But.of_below (hb4.trans (hb5.mono hb4.size)) _)⟩
          | true =>
            have hstep : Hid (DnInv (swp l' i (2 * i + 1) x a) n (2 * i + 1)) := dn_step hd.out (by omega) (by omega) (by unfold par; omega) hx ha hv (fun c z hc hcn hpc hz => hmin c z hc hcn hpc hz)
            have hperm : Hid ((swp l' i (2 * i + 1) x a).Perm l) := (swp_perm hx ha).trans hp.out
            have hkeep : Hid (∀ k, n ≤ k → (swp l' i (2 * i + 1) x a)[k]? = l[k]?) := fun k hnk => by
              rw [swp_at hx ha, if_neg (by omega), if_neg (by omega)]; exact hk.out k hnk
            have hS : Hid (∀ W, Below wr.heap.size wr W → Calls Try.prog 118 #[.pointer (some ⟨h, 0, none⟩), .int .i64 (i : Int), .int .i64 (2 * (i : Int) + 1)] W fun e w' => e = .returned (.tuple #[]) ∧ HW w' base h m sv (swp l' i (2 * i + 1) x a) ∧ But W w' (hbs h m sv)) := fun W hW => by
              have := iSwap_any (H'.below hW) hx ha
              rwa [show ((2 * i + 1 : Nat) : Int) = 2 * (i : Int) + 1 by omega] at this
            rw [hv] at hL2
            clear hv hx
            go_wp2_with (first | (with_reducible refine (hL1.out wr (Below.refl _ wr)).mono ?_; rintro e w4 ⟨rfl, hb4⟩) | (with_reducible refine (hL2.out _ hb4).mono ?_; rintro e w5 ⟨rfl, hb5⟩) | (with_reducible refine (hS.out _ (hb4.trans (hb5.mono hb4.size))).mono ?_; rintro e w6 ⟨rfl, H6, hb6⟩))
            go_roundw
            case rel => exact ⟨2 * i + 1, _, ret_num (by omega), by omega, H6, hstep, hperm, hkeep, (hb.trans (But.of_below (hb4.trans (hb5.mono hb4.size)) _)).trans hb6⟩
            case measure => simp [intOf]; omega
      · have hz2 : ¬ 2 * (i : Int) + 1 + 1 < (n : Int) := by omega
        have hmin : ∀ c z, 0 < c → c < n → par c = i → l'[c]? = some z → ltI z a = false := fun c z hc hcn hpc hz => by
          have : c = 2 * i + 1 := by unfold par at hpc; omega
          subst this
          rw [ha] at hz; cases hz; exact ltI_irr _
        have hL2 : Hid (∀ W, Below wr.heap.size wr W → Calls Try.prog 115 #[.pointer (some ⟨h, 0, none⟩), .int .i64 (2 * (i : Int) + 1), .int .i64 (i : Int)] W fun e w' => e = .returned (.bool (ltI a x)) ∧ Below W.heap.size W w') := fun W hW => by
          have := iLess_any (H'.below hW) ha hx
          rwa [show ((2 * i + 1 : Nat) : Int) = 2 * (i : Int) + 1 by omega] at this
        cases hv : ltI a x with
        | false =>
          rw [hv] at hL2
          have hfin : Hid (IsHeap l' n) := dn_stop hd.out fun c z p hc hcn hpc hz hp2 => by
            rw [hx] at hp2; cases hp2
            exact ltI_tr (hmin c z hc hcn hpc hz) hv
          clear hv hx
          go_wp2_with (first | (with_reducible refine (hL2.out _ (Below.refl _ wr)).mono ?_; rintro e w5 ⟨rfl, hb5⟩))
          go_returns
          exact ⟨⟨_, rfl⟩, ⟨l', H'.below hb5, hp.out, hfin.out, hk.out⟩, hb.trans (But.of_below hb5 _)⟩
        | true =>
          have hstep : Hid (DnInv (swp l' i (2 * i + 1) x a) n (2 * i + 1)) := dn_step hd.out (by omega) (by omega) (by unfold par; omega) hx ha hv (fun c z hc hcn hpc hz => hmin c z hc hcn hpc hz)
          have hperm : Hid ((swp l' i (2 * i + 1) x a).Perm l) := (swp_perm hx ha).trans hp.out
          have hkeep : Hid (∀ k, n ≤ k → (swp l' i (2 * i + 1) x a)[k]? = l[k]?) := fun k hnk => by
            rw [swp_at hx ha, if_neg (by omega), if_neg (by omega)]; exact hk.out k hnk
          have hS : Hid (∀ W, Below wr.heap.size wr W → Calls Try.prog 118 #[.pointer (some ⟨h, 0, none⟩), .int .i64 (i : Int), .int .i64 (2 * (i : Int) + 1)] W fun e w' => e = .returned (.tuple #[]) ∧ HW w' base h m sv (swp l' i (2 * i + 1) x a) ∧ But W w' (hbs h m sv)) := fun W hW => by
            have := iSwap_any (H'.below hW) hx ha
            rwa [show ((2 * i + 1 : Nat) : Int) = 2 * (i : Int) + 1 by omega] at this
          rw [hv] at hL2
          clear hv hx
          go_wp2_with (first | (with_reducible refine (hL2.out _ (Below.refl _ wr)).mono ?_; rintro e w5 ⟨rfl, hb5⟩) | (with_reducible refine (hS.out _ hb5).mono ?_; rintro e w6 ⟨rfl, H6, hb6⟩))
          go_roundw
          case rel => exact ⟨2 * i + 1, _, ret_num (by omega), by omega, H6, hstep, hperm, hkeep, (hb.trans (But.of_below hb5 _)).trans hb6⟩
          case measure => simp [intOf]; omega
    · have hfin : Hid (IsHeap l' n) := dn_stop hd.out fun c z p hc hcn hpc => by unfold par at hpc; omega
      have hz1 : ¬ 2 * (i : Int) + 1 < (n : Int) := by omega
      go_wp2_with fail
      go_returns
      exact ⟨⟨_, rfl⟩, ⟨l', H', hp.out, hfin.out, hk.out⟩, hb⟩
end
end Go.Proofs.Ytapfndjaimfcaaa
