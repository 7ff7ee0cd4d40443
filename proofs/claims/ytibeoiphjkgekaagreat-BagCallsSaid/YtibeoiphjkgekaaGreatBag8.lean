/-
  Walks: bag.least at pairs and triples.
-/
import Derived.Test.YtibeoiphjkgekaaGreatBag7
namespace Go.Proofs.YtibeoiphjkgekaaGreat
open Go.RowKit B K Go.Shelf
set_option linter.unusedVariables false
set_option linter.unusedSimpArgs false
set_option maxHeartbeats 4000000
set_option maxRecDepth 100000 in
theorem leastP_any (A : Option Addr) (n c : Nat) (l : List P2) (w : World) (hr : Rd w 2 pairE A n l) (hn : n ≤ 1099511627) :
    Calls Tryz.prog 44 #[.slice A n c, .func (.func 47) #[] #[], .func (.func 48) #[] #[], .func (.func 49) #[] #[]] w fun e w' => RetR 2 pairE w (L2 l) e w' := by
  go_enter Tryz.func44, Tryz.ntmps44
  go_wp2_with fail
  have hr := hr.below ((Below.refl _ w).alloc (Nat.le_refl _) (.cells #[.func (.func 48) #[] #[]] 61))
  have hb0 : Below w.heap.size w (w.alloc (.cells #[.func (.func 48) #[] #[]] 61)) := (Below.refl _ w).alloc (Nat.le_refl _) _
  have hs0 : w.heap.size < (w.alloc (.cells #[.func (.func 48) #[] #[]] 61)).heap.size := by simp
  have hf0 : (w.alloc (.cells #[.func (.func 48) #[] #[]] 61)).cell? ⟨w.heap.size, 0, none⟩ = some (.func (.func 48) #[] #[]) := by simp [go_sem]
  generalize w.alloc (.cells #[.func (.func 48) #[] #[]] 61) = w0 at *
  go_loopw [9, 14] (fun v i wr => ∃ (k : Nat) (kept : List P2), k ≤ n ∧ i = .int .i64 k ∧ Hid (wr.ownsRow w0.heap.size 55 2 v kept.length (kept.flatMap pairE)) ∧ Below w0.heap.size w0 wr ∧ Hid (leastF may2 beats2 [] l = leastF may2 beats2 kept (l.drop k)) ∧ kept.length ≤ k) (fun _ i _ => n - (intOf i).toNat)
  case atStart => exact ⟨0, [], Nat.zero_le _, rfl, World.ownsRow_nil _ _ _ _, Below.refl _ _, rfl, Nat.zero_le _⟩
  case round =>
    obtain ⟨k, kept, hk, rfl, own, hb, hL, hkl⟩ := hrel
    obtain ⟨A', c', rfl, r', hc1, hc2⟩ := Rd.of_own pairE_len2 rfl own.out
    have hsB := hb.size
    by_cases hlt : k < n
    · obtain ⟨b, o, x1, x2, rfl, hbs, hx, h1, h2⟩ := (hr.below hb).pair hlt
      have hdx := Lib.hid (drop_at hx)
      clear hx
      have bx1 := Bx2.new wr 55 x1 x2
      have own1 : Hid ((wr.alloc (.cells #[.int .i64 x1, .int .i64 x2] 55)).ownsRow w0.heap.size 55 2 (.slice A' kept.length c') kept.length (kept.flatMap pairE)) := own.out.alloc _
      have hb1 : Below w0.heap.size w0 (wr.alloc (.cells #[.int .i64 x1, .int .i64 x2] 55)) := hb.alloc hb.size _
      have hnb : ∀ g, (Value.slice A' kept.length c').ownBlock = some g → w0.heap.size ≤ g ∧ g < wr.heap.size := own.out.lt
      go_wp2_with fail
      refine (may2_any x1 x2 _).mono ?_; rintro e w2 ⟨rfl, hb2⟩
      have own2 : Hid (w2.ownsRow w0.heap.size 55 2 (.slice A' kept.length c') kept.length (kept.flatMap pairE)) := own_up own1.out hb2
      have bx2 := bx1.below hb2
      have hb02 := hb1.trans (hb2.mono hb1.size)
      cases hm : may2 (x1, x2) with
      | false =>
        have hnext : Hid (leastF may2 beats2 [] l = leastF may2 beats2 kept (l.drop (k + 1))) := by show _ = _; rw [hL.out, hdx.out, lift_skip (.inl hm)]
        clear hm bx1 bx2 own1
        go_wp2_with fail
        go_roundw
        case rel => exact ⟨k + 1, kept, by omega, by go_num, own2.out, hb02, hnext, by omega⟩
        case measure => simp [intOf]; omega
      | true =>
        have r2 := (r'.below ((Below.refl _ wr).alloc (Nat.le_refl _) (.cells #[.int .i64 x1, .int .i64 x2] 55))).below hb2
        have hf2 : w2.cell? ⟨w.heap.size, 0, none⟩ = some (.func (.func 48) #[] #[]) := (hb02.cell (p := ⟨w.heap.size, 0, none⟩) hs0).trans hf0
        have hfl2 : w.heap.size < w2.heap.size := Nat.lt_of_lt_of_le hs0 hb02.size
        have hcont := contFP_any 68 #[.pointer (some ⟨wr.heap.size, 0, none⟩), .pointer (some ⟨w.heap.size, 0, none⟩)] (enters_of Tryz.func68 (by kernel_rfl) rfl) (fun o => decide (o = (x1, x2)) || beats2 o (x1, x2)) A' kept.length c' kept w2 r2 (by omega)
          (fun W o hW => by
            obtain ⟨y1, y2⟩ := o
            exact lcaP_any y1 y2 x1 x2 wr.heap.size w.heap.size W (bx2.below hW) ((hW.cell (p := ⟨w.heap.size, 0, none⟩) hfl2).trans hf2) (Nat.lt_of_lt_of_le hfl2 hW.size))
        have hm' := Lib.hid hm
        clear hm
        go_wp2_with fail
        refine hcont.mono ?_; rintro e w3 ⟨rfl, hb3⟩
        clear hcont
        have own3 : Hid (w3.ownsRow w0.heap.size 55 2 (.slice A' kept.length c') kept.length (kept.flatMap pairE)) := own_up own2.out hb3
        have bx := bx2.below hb3
        have hb03 := hb02.trans (hb3.mono hb02.size)
        cases hany : (kept.any fun o => decide (o = (x1, x2)) || beats2 o (x1, x2)) with
        | true =>
          have hnext : Hid (leastF may2 beats2 [] l = leastF may2 beats2 kept (l.drop (k + 1))) := by show _ = _; rw [hL.out, hdx.out, lift_skip (.inr hany)]
          clear hany bx bx1 bx2 own1 own2
          go_wp2_with fail
          go_roundw
          case rel => exact ⟨k + 1, kept, by omega, by go_num, own3.out, hb03, hnext, by omega⟩
          case measure => simp [intOf]; omega
        | false =>
          have hnext : Hid (leastF may2 beats2 [] l = leastF may2 beats2 (kept.filter (fun o => !beats2 (x1, x2) o) ++ [(x1, x2)]) (l.drop (k + 1))) := by show _ = _; rw [hL.out, hdx.out, lift_step hm'.out hany]
          have hfle : (kept.filter (fun o => !beats2 (x1, x2) o)).length ≤ kept.length := List.length_filter_le _ _
          have hf3 : w3.cell? ⟨w.heap.size, 0, none⟩ = some (.func (.func 48) #[] #[]) := (hb03.cell (p := ⟨w.heap.size, 0, none⟩) hs0).trans hf0
          have hfl3 : w.heap.size < w3.heap.size := Nat.lt_of_lt_of_le hs0 hb03.size
          have hdel := delFP_any 70 #[.pointer (some ⟨w.heap.size, 0, none⟩), .pointer (some ⟨wr.heap.size, 0, none⟩)] (enters_of Tryz.func70 (by kernel_rfl) rfl) (fun o => beats2 (x1, x2) o) w0.heap.size (.slice A' kept.length c') kept w3 own3.out (by omega)
            (fun W o hg => by
              obtain ⟨y1, y2⟩ := o
              have hne : some wr.heap.size ≠ (Value.slice A' kept.length c').ownBlock := fun e => by have := hnb _ e.symm; omega
              have hnf : some w.heap.size ≠ (Value.slice A' kept.length c').ownBlock := fun e => by have := hnb _ e.symm; omega
              exact lcbP_any y1 y2 x1 x2 wr.heap.size w.heap.size W ⟨Nat.lt_of_lt_of_le bx.lt hg.size, (World.cell?_of_block (a := ⟨wr.heap.size, 0, none⟩) (hg.block _ bx.lt hne)).trans bx.c0, (World.cell?_of_block (a := ⟨wr.heap.size, 1, none⟩) (hg.block _ bx.lt hne)).trans bx.c1⟩ ((World.cell?_of_block (a := ⟨w.heap.size, 0, none⟩) (hg.block _ hfl3 hnf)).trans hf3) (Nat.lt_of_lt_of_le hfl3 hg.size))
          clear hany hf2
          go_wp2_with fail
          refine hdel.mono ?_; rintro e w4 ⟨v4, rfl, own4, hg4, hv4⟩
          clear hdel
          have own4 : w4.ownsRow w0.heap.size 55 2 v4 (kept.filter (fun o => !beats2 (x1, x2) o)).length ((kept.filter (fun o => !beats2 (x1, x2) o)).flatMap pairE) := own4
          have hne : some wr.heap.size ≠ (Value.slice A' kept.length c').ownBlock := fun e => by have := hnb _ e.symm; omega
          have hnf : some w.heap.size ≠ (Value.slice A' kept.length c').ownBlock := fun e => by have := hnb _ e.symm; omega
          have bx4 : Bx2 w4 wr.heap.size x1 x2 := by have hg := hg4; exact ⟨Nat.lt_of_lt_of_le bx.lt hg.size, (World.cell?_of_block (a := ⟨wr.heap.size, 0, none⟩) (hg.block _ bx.lt hne)).trans bx.c0, (World.cell?_of_block (a := ⟨wr.heap.size, 1, none⟩) (hg.block _ bx.lt hne)).trans bx.c1⟩
          have b0 : w4.cell? ⟨wr.heap.size, 0, none⟩ = some (.int .i64 x1) := bx4.c0
          have b1 : w4.cell? ⟨wr.heap.size, 1, none⟩ = some (.int .i64 x2) := bx4.c1
          have hb04 : Below w0.heap.size w0 w4 := hb03.grown hg4 hb03.size (fun g hg => (hnb g hg).1)
          obtain ⟨g5, c5, w5, hrun, own5, hb5, hs5, _, _⟩ := own_push (enc := pairE) Tryz.underlying56 infoPair rfl (by decide) pairE_len2 pairE_one (x1, x2) own4 (by omega) (by decide) hb04 hb04.size 0
          have own5 := Lib.hid own5
          simp only [pairE] at hrun
          clear own4 hg4 hv4 bx bx1 bx2 bx4 own own1 own2 own3 r2 hnb hne hnf
          go_wp2_with (at_builtin; refine wpList_append_run ?a1 (.tmp 30) (.tmp 32) 56 ?a2 ?a3 ?a4 hrun ?_)
          case a1 => rfl
          case a2 => rfl
          try (case a3 => rfl)
          try (case a4 => rfl)
          go_roundw
          case rel => exact ⟨k + 1, _, by omega, by go_num, by rw [List.length_append]; exact own5.out, hb5, hnext, by rw [List.length_append]; simp only [List.length_cons, List.length_nil]; omega⟩
          case measure => simp [intOf]; omega
    · obtain rfl : k = n := by omega
      have hfin : Hid ((kept.mergeSort fun x y => !lt2 y x) = L2 l) := by
        have h1 := hL.out
        rw [List.drop_eq_nil_of_le (by rw [hr.len]; omega)] at h1
        show _ = _
        unfold L2
        rw [← sort_least ords2 l, h1]
        rfl
      have hlen2 : Hid ((kept.mergeSort fun x y => !lt2 y x).length = kept.length) := List.length_mergeSort ..
      have hsort := sortP_any w0.heap.size (.slice A' kept.length c') kept wr own.out (by omega)
      have hA0 : A' = none → c' = 0 := by
        intro e
        rcases own.out.2 with ⟨h, _⟩ | ⟨g, cap, cur, h, _⟩
        · injection h
        · rw [e] at h; injection h with h; cases h
      clear hL hr
      go_wp2_with fail
      refine hsort.mono ?_; rintro e w2 ⟨rfl, own2, hg2⟩
      clear hsort
      have hb02 : Below w0.heap.size w0 w2 := hb.grown hg2 hb.size (fun g hg => (own.out.lt g hg).1)
      rw [hlen2.out] at own2
      go_wp2_with fail
      refine (clipP_any A' kept.length c' _ hc1 hA0).mono ?_; rintro e w3 ⟨rfl, rfl⟩
      obtain ⟨A3, c3, e3, r3, _, _⟩ := Rd.of_own pairE_len2 hlen2.out own2
      cases e3
      rw [hfin.out] at r3
      have hl3 := hlen2.out
      rw [hfin.out] at hl3
      have hl4 := Lib.hid hl3
      clear hl3
      clear own2 hlen2 own
      go_wp2_with fail
      go_returns
      exact .mk A' kept.length (by rw [hl4.out]; rfl) (by rw [hl4.out]; exact r3) (by rw [hl4.out]; exact Nat.le_refl _) (by omega) (hb0.trans (hb02.mono (by omega)))
set_option maxRecDepth 100000 in
theorem leastT_any (A : Option Addr) (n c : Nat) (l : List P3) (w : World) (hr : Rd w 3 tripE A n l) (hn : n ≤ 1099511627) :
    Calls Tryz.prog 52 #[.slice A n c, .func (.func 55) #[] #[], .func (.func 56) #[] #[], .func (.func 57) #[] #[]] w fun e w' => RetR 3 tripE w (L3 l) e w' := by
  go_enter Tryz.func52, Tryz.ntmps52
  go_wp2_with fail
  have hr := hr.below ((Below.refl _ w).alloc (Nat.le_refl _) (.cells #[.func (.func 56) #[] #[]] 72))
  have hb0 : Below w.heap.size w (w.alloc (.cells #[.func (.func 56) #[] #[]] 72)) := (Below.refl _ w).alloc (Nat.le_refl _) _
  have hs0 : w.heap.size < (w.alloc (.cells #[.func (.func 56) #[] #[]] 72)).heap.size := by simp
  have hf0 : (w.alloc (.cells #[.func (.func 56) #[] #[]] 72)).cell? ⟨w.heap.size, 0, none⟩ = some (.func (.func 56) #[] #[]) := by simp [go_sem]
  generalize w.alloc (.cells #[.func (.func 56) #[] #[]] 72) = w0 at *
  go_loopw [9, 14] (fun v i wr => ∃ (k : Nat) (kept : List P3), k ≤ n ∧ i = .int .i64 k ∧ Hid (wr.ownsRow w0.heap.size 66 3 v kept.length (kept.flatMap tripE)) ∧ Below w0.heap.size w0 wr ∧ Hid (leastF may3 beats3 [] l = leastF may3 beats3 kept (l.drop k)) ∧ kept.length ≤ k) (fun _ i _ => n - (intOf i).toNat)
  case atStart => exact ⟨0, [], Nat.zero_le _, rfl, World.ownsRow_nil _ _ _ _, Below.refl _ _, rfl, Nat.zero_le _⟩
  case round =>
    obtain ⟨k, kept, hk, rfl, own, hb, hL, hkl⟩ := hrel
    obtain ⟨A', c', rfl, r', hc1, hc2⟩ := Rd.of_own tripE_len rfl own.out
    have hsB := hb.size
    by_cases hlt : k < n
    · obtain ⟨b, o, x1, x2, x3, rfl, hbs, hx, h1, h2, h3⟩ := (hr.below hb).trip hlt
      have hdx := Lib.hid (drop_at hx)
      clear hx
      have bx1 := Bx3.new wr 66 x1 x2 x3
      have own1 : Hid ((wr.alloc (.cells #[.int .i64 x1, .int .i64 x2, .int .i64 x3] 66)).ownsRow w0.heap.size 66 3 (.slice A' kept.length c') kept.length (kept.flatMap tripE)) := own.out.alloc _
      have hb1 : Below w0.heap.size w0 (wr.alloc (.cells #[.int .i64 x1, .int .i64 x2, .int .i64 x3] 66)) := hb.alloc hb.size _
      have hnb : ∀ g, (Value.slice A' kept.length c').ownBlock = some g → w0.heap.size ≤ g ∧ g < wr.heap.size := own.out.lt
      go_wp2_with fail
      refine (may3_any x1 x2 x3 _).mono ?_; rintro e w2 ⟨rfl, hb2⟩
      have own2 : Hid (w2.ownsRow w0.heap.size 66 3 (.slice A' kept.length c') kept.length (kept.flatMap tripE)) := own_up own1.out hb2
      have bx2 := bx1.below hb2
      have hb02 := hb1.trans (hb2.mono hb1.size)
      cases hm : may3 (x1, x2, x3) with
      | false =>
        have hnext : Hid (leastF may3 beats3 [] l = leastF may3 beats3 kept (l.drop (k + 1))) := by show _ = _; rw [hL.out, hdx.out, lift_skip (.inl hm)]
        clear hm bx1 bx2 own1
        go_wp2_with fail
        go_roundw
        case rel => exact ⟨k + 1, kept, by omega, by go_num, own2.out, hb02, hnext, by omega⟩
        case measure => simp [intOf]; omega
      | true =>
        have r2 := (r'.below ((Below.refl _ wr).alloc (Nat.le_refl _) (.cells #[.int .i64 x1, .int .i64 x2, .int .i64 x3] 66))).below hb2
        have hf2 : w2.cell? ⟨w.heap.size, 0, none⟩ = some (.func (.func 56) #[] #[]) := (hb02.cell (p := ⟨w.heap.size, 0, none⟩) hs0).trans hf0
        have hfl2 : w.heap.size < w2.heap.size := Nat.lt_of_lt_of_le hs0 hb02.size
        have hcont := contFT_any 78 #[.pointer (some ⟨wr.heap.size, 0, none⟩), .pointer (some ⟨w.heap.size, 0, none⟩)] (enters_of Tryz.func78 (by kernel_rfl) rfl) (fun o => decide (o = (x1, x2, x3)) || beats3 o (x1, x2, x3)) A' kept.length c' kept w2 r2 (by omega)
          (fun W o hW => by
            obtain ⟨y1, y2, y3⟩ := o
            exact lcaT_any y1 y2 y3 x1 x2 x3 wr.heap.size w.heap.size W (bx2.below hW) ((hW.cell (p := ⟨w.heap.size, 0, none⟩) hfl2).trans hf2) (Nat.lt_of_lt_of_le hfl2 hW.size))
        have hm' := Lib.hid hm
        clear hm
        go_wp2_with fail
        refine hcont.mono ?_; rintro e w3 ⟨rfl, hb3⟩
        clear hcont
        have own3 : Hid (w3.ownsRow w0.heap.size 66 3 (.slice A' kept.length c') kept.length (kept.flatMap tripE)) := own_up own2.out hb3
        have bx := bx2.below hb3
        have hb03 := hb02.trans (hb3.mono hb02.size)
        cases hany : (kept.any fun o => decide (o = (x1, x2, x3)) || beats3 o (x1, x2, x3)) with
        | true =>
          have hnext : Hid (leastF may3 beats3 [] l = leastF may3 beats3 kept (l.drop (k + 1))) := by show _ = _; rw [hL.out, hdx.out, lift_skip (.inr hany)]
          clear hany bx bx1 bx2 own1 own2
          go_wp2_with fail
          go_roundw
          case rel => exact ⟨k + 1, kept, by omega, by go_num, own3.out, hb03, hnext, by omega⟩
          case measure => simp [intOf]; omega
        | false =>
          have hnext : Hid (leastF may3 beats3 [] l = leastF may3 beats3 (kept.filter (fun o => !beats3 (x1, x2, x3) o) ++ [(x1, x2, x3)]) (l.drop (k + 1))) := by show _ = _; rw [hL.out, hdx.out, lift_step hm'.out hany]
          have hfle : (kept.filter (fun o => !beats3 (x1, x2, x3) o)).length ≤ kept.length := List.length_filter_le _ _
          have hf3 : w3.cell? ⟨w.heap.size, 0, none⟩ = some (.func (.func 56) #[] #[]) := (hb03.cell (p := ⟨w.heap.size, 0, none⟩) hs0).trans hf0
          have hfl3 : w.heap.size < w3.heap.size := Nat.lt_of_lt_of_le hs0 hb03.size
          have hdel := delFT_any 80 #[.pointer (some ⟨w.heap.size, 0, none⟩), .pointer (some ⟨wr.heap.size, 0, none⟩)] (enters_of Tryz.func80 (by kernel_rfl) rfl) (fun o => beats3 (x1, x2, x3) o) w0.heap.size (.slice A' kept.length c') kept w3 own3.out (by omega)
            (fun W o hg => by
              obtain ⟨y1, y2, y3⟩ := o
              have hne : some wr.heap.size ≠ (Value.slice A' kept.length c').ownBlock := fun e => by have := hnb _ e.symm; omega
              have hnf : some w.heap.size ≠ (Value.slice A' kept.length c').ownBlock := fun e => by have := hnb _ e.symm; omega
              exact lcbT_any y1 y2 y3 x1 x2 x3 wr.heap.size w.heap.size W ⟨Nat.lt_of_lt_of_le bx.lt hg.size, (World.cell?_of_block (a := ⟨wr.heap.size, 0, none⟩) (hg.block _ bx.lt hne)).trans bx.c0, (World.cell?_of_block (a := ⟨wr.heap.size, 1, none⟩) (hg.block _ bx.lt hne)).trans bx.c1, (World.cell?_of_block (a := ⟨wr.heap.size, 2, none⟩) (hg.block _ bx.lt hne)).trans bx.c2⟩ ((World.cell?_of_block (a := ⟨w.heap.size, 0, none⟩) (hg.block _ hfl3 hnf)).trans hf3) (Nat.lt_of_lt_of_le hfl3 hg.size))
          clear hany hf2
          go_wp2_with fail
          refine hdel.mono ?_; rintro e w4 ⟨v4, rfl, own4, hg4, hv4⟩
          clear hdel
          have own4 : w4.ownsRow w0.heap.size 66 3 v4 (kept.filter (fun o => !beats3 (x1, x2, x3) o)).length ((kept.filter (fun o => !beats3 (x1, x2, x3) o)).flatMap tripE) := own4
          have hne : some wr.heap.size ≠ (Value.slice A' kept.length c').ownBlock := fun e => by have := hnb _ e.symm; omega
          have hnf : some w.heap.size ≠ (Value.slice A' kept.length c').ownBlock := fun e => by have := hnb _ e.symm; omega
          have bx4 : Bx3 w4 wr.heap.size x1 x2 x3 := by have hg := hg4; exact ⟨Nat.lt_of_lt_of_le bx.lt hg.size, (World.cell?_of_block (a := ⟨wr.heap.size, 0, none⟩) (hg.block _ bx.lt hne)).trans bx.c0, (World.cell?_of_block (a := ⟨wr.heap.size, 1, none⟩) (hg.block _ bx.lt hne)).trans bx.c1, (World.cell?_of_block (a := ⟨wr.heap.size, 2, none⟩) (hg.block _ bx.lt hne)).trans bx.c2⟩
          have b0 : w4.cell? ⟨wr.heap.size, 0, none⟩ = some (.int .i64 x1) := bx4.c0
          have b1 : w4.cell? ⟨wr.heap.size, 1, none⟩ = some (.int .i64 x2) := bx4.c1
          have b2 : w4.cell? ⟨wr.heap.size, 2, none⟩ = some (.int .i64 x3) := bx4.c2
          have hb04 : Below w0.heap.size w0 w4 := hb03.grown hg4 hb03.size (fun g hg => (hnb g hg).1)
          obtain ⟨g5, c5, w5, hrun, own5, hb5, hs5, _, _⟩ := own_push (enc := tripE) Tryz.underlying67 infoTri rfl (by decide) tripE_len tripE_one (x1, x2, x3) own4 (by omega) (by decide) hb04 hb04.size 0
          have own5 := Lib.hid own5
          simp only [tripE] at hrun
          clear own4 hg4 hv4 bx bx1 bx2 bx4 own own1 own2 own3 r2 hnb hne hnf
          go_wp2_with (at_builtin; refine wpList_append_run ?a1 (.tmp 30) (.tmp 32) 67 ?a2 ?a3 ?a4 hrun ?_)
          case a1 => rfl
          case a2 => rfl
          try (case a3 => rfl)
          try (case a4 => rfl)
          go_roundw
          case rel => exact ⟨k + 1, _, by omega, by go_num, by rw [List.length_append]; exact own5.out, hb5, hnext, by rw [List.length_append]; simp only [List.length_cons, List.length_nil]; omega⟩
          case measure => simp [intOf]; omega
    · obtain rfl : k = n := by omega
      have hfin : Hid ((kept.mergeSort fun x y => !lt3 y x) = L3 l) := by
        have h1 := hL.out
        rw [List.drop_eq_nil_of_le (by rw [hr.len]; omega)] at h1
        show _ = _
        unfold L3
        rw [← sort_least ords3 l, h1]
        rfl
      have hlen2 : Hid ((kept.mergeSort fun x y => !lt3 y x).length = kept.length) := List.length_mergeSort ..
      have hsort := sortT_any w0.heap.size (.slice A' kept.length c') kept wr own.out (by omega)
      have hA0 : A' = none → c' = 0 := by
        intro e
        rcases own.out.2 with ⟨h, _⟩ | ⟨g, cap, cur, h, _⟩
        · injection h
        · rw [e] at h; injection h with h; cases h
      clear hL hr
      go_wp2_with fail
      refine hsort.mono ?_; rintro e w2 ⟨rfl, own2, hg2⟩
      clear hsort
      have hb02 : Below w0.heap.size w0 w2 := hb.grown hg2 hb.size (fun g hg => (own.out.lt g hg).1)
      rw [hlen2.out] at own2
      go_wp2_with fail
      refine (clipT_any A' kept.length c' _ hc1 hA0).mono ?_; rintro e w3 ⟨rfl, rfl⟩
      obtain ⟨A3, c3, e3, r3, _, _⟩ := Rd.of_own tripE_len hlen2.out own2
      cases e3
      rw [hfin.out] at r3
      have hl3 := hlen2.out
      rw [hfin.out] at hl3
      have hl4 := Lib.hid hl3
      clear hl3
      clear own2 hlen2 own
      go_wp2_with fail
      go_returns
      exact .mk A' kept.length (by rw [hl4.out]; rfl) (by rw [hl4.out]; exact r3) (by rw [hl4.out]; exact Nat.le_refl _) (by omega) (hb0.trans (hb02.mono (by omega)))
end Go.Proofs.YtibeoiphjkgekaaGreat
