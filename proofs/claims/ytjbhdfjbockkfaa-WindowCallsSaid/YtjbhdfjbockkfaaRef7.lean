/-
  Walks: the document's answer: Wins, Union; timetablekit.Own at windows.
-/
import Derived.Test.YtjbhdfjbockkfaaRef6
import Derived.Test.YtjbhdfjbockkfaaMem2
import Derived.Test.YtjbhdfjbockkfaaWinPlain3
namespace Go.Proofs.Ytjbhdfjbockkfaa
open Go.RowKit B Go.Shelf
set_option linter.unusedVariables false
set_option linter.unusedSimpArgs false
set_option maxHeartbeats 1000000
theorem winPush {B : Nat} {w wr : World} {v : Value} {l : W.Row} (x : Int × Int) (hown : wr.ownsRow B 29 2 v l.length (l.flatMap pairE)) (hlen : l.length + 1 ≤ 1099511627776) (hb : Below B w wr) (hB : B ≤ wr.heap.size) (nq : Nat) :
    ∃ g c w1, (Builtin.append_ #[22, 22] 22 #[v, .slice (some ⟨wr.heap.size, 0, none⟩) 1 1]).run Try.prog ((wr.drewN nq).alloc (.cells #[.int .i64 x.1, .int .i64 x.2] 29)) = .ok (.slice (some ⟨g, 0, none⟩) (l.length + 1) c) w1 ∧
      w1.ownsRow B 29 2 (.slice (some ⟨g, 0, none⟩) (l.length + 1) c) (l.length + 1) ((l ++ [x]).flatMap pairE) ∧ Below B w w1 ∧ wr.heap.size < w1.heap.size := by
  obtain ⟨g, c, w1, h1, h2, h3, h4, _⟩ := own_push (enc := pairE) Try.underlying22 Try.infoWin rfl (by decide) pairE_len (fun x u hu => by simp [pairE] at hu; rcases hu with rfl | rfl <;> rfl) x hown hlen (by decide) hb hB nq
  exact ⟨g, c, w1, h1, h2, h3, h4⟩
theorem eachL_snoc (f v n : Int) (m : Nat) : eachL f v n (m + 1) = eachL f v n m ++ [(f + m * v, f + m * v + n)] := by simp [eachL, List.range_succ]
theorem runion_any (A : Option Addr) (n c : Nat) (la : W.Row) (A' : Option Addr) (n' c' : Nat) (lb : W.Row) (w : World) (hr : Rd w 2 pairE A n la) (hr' : Rd w 2 pairE A' n' lb) (hn : n ≤ 1099511627) (hn' : n' ≤ 1099511627) :
    Calls Try.prog 24 #[.slice A n c, .slice A' n' c'] w fun e w' => RetRow1 w (W.unionM la lb) e w' := by
  obtain ⟨u, hu⟩ : ∃ u, W.unionM la lb = u := ⟨_, rfl⟩
  rw [hu]
  have hu := Lib.hid hu
  rename_i hu0; clear hu0
  go_enter Try.func24, Try.ntmps24
  go_wp2_with fail
  refine (rgood_any A n c la _ hr (by omega)).mono ?_; rintro e w1 ⟨rfl, hb1⟩
  cases hga : W.good la
  · obtain rfl : u = [] := by have := hu.out; unfold W.unionM at this; rw [hga] at this; exact this.symm
    go_wp2_with fail
    go_returns
    exact .mk none 0 rfl Rd.nil (Nat.le_refl _) (by omega) hb1
  · have hga' := Lib.hid hga
    clear hga
    go_wp2_with fail
    refine (rgood_any A' n' c' lb _ (hr'.below hb1) (by omega)).mono ?_; rintro e w2 ⟨rfl, hb2⟩
    have hb2 := hb1.trans (hb2.mono hb1.size)
    cases hgb : W.good lb
    · obtain rfl : u = [] := by have := hu.out; unfold W.unionM at this; rw [hgb, Bool.and_false] at this; exact this.symm
      go_wp2_with fail
      go_returns
      exact .mk none 0 rfl Rd.nil (Nat.le_refl _) (by omega) hb2
    · obtain rfl : u = W.joinL (W.mergeL la lb) := by have := hu.out; unfold W.unionM at this; rw [hga'.out, hgb] at this; exact this.symm
      have hgb' := Lib.hid hgb
      clear hgb
      go_wp2_with fail
      go_loopw [5, 6, 7] (fun v i k wr => ∃ (p q : Nat) (l : W.Row), p ≤ n ∧ q ≤ n' ∧ i = .int .i64 p ∧ k = .int .i64 q ∧ wr.ownsRow w.heap.size 29 2 v l.length (l.flatMap pairE) ∧ Below w.heap.size w wr ∧ Hid (l.length = p + q) ∧ Hid (l ++ W.mergeL (la.drop p) (lb.drop q) = W.mergeL la lb)) (fun _ i k _ => (n + n') - ((intOf i).toNat + (intOf k).toNat))
      case atStart => exact ⟨0, 0, [], Nat.zero_le _, Nat.zero_le _, rfl, rfl, World.ownsRow_nil _ _ _ _, hb2, rfl, rfl⟩
      case round =>
        clear hb2
        obtain ⟨p, q, l, hp, hq, rfl, rfl, own, hb, hl, hm⟩ := hrel
        have hB := hb.size
        by_cases hpn : p < n
        · obtain ⟨b, o, x, y, rfl, hbs, hx, h1, h2⟩ := (hr.below hb).pair hpn
          have hda := Lib.hid (drop_at hx); clear hx
          by_cases hqn : q < n'
          · obtain ⟨b', o', x', y', rfl, hbs', hx', h1', h2'⟩ := (hr'.below hb).pair hqn
            have hdb := Lib.hid (drop_at hx'); clear hx'
            have hq1 : ((q : Int) == (n' : Int)) = false := by simp; omega
            by_cases hle : x ≤ x'
            · skip
              have hm' : Hid (l ++ [(x, y)] ++ W.mergeL (la.drop (p + 1)) (lb.drop q) = W.mergeL la lb) := by
                show _ = _; rw [← hm.out, hda.out, hdb.out, W.mergeL_le _ _ _ _ hle]; simp
              go_upto_region 6 with fail
              go_quiet (fail)
              obtain ⟨g, c2, w1, hrun, own1, hb1, hs1⟩ := winPush ((x, y)) own (by have := hl.out; omega) hb (by omega) nq
              go_wp2_with (at_builtin; refine wpList_append_run ?a1 (.tmp 49) (.tmp 54) 22 ?a2 ?a3 ?a4 hrun ?_)
              case a1 => rfl
              case a2 => rfl
              go_roundw
              case rel => exact ⟨p + 1, q, l ++ [(x, y)], by omega, by omega, by go_num, by go_num, by simpa using own1, hb1, by show _ = _; simp [hl.out]; try omega, hm'⟩
              case measure => simp [intOf]; omega
            · have hle' : decide (x ≤ x') = false := decide_eq_false hle
              have hm' : Hid (l ++ [(x', y')] ++ W.mergeL (la.drop p) (lb.drop (q + 1)) = W.mergeL la lb) := by
                show _ = _; rw [← hm.out, hda.out, hdb.out, W.mergeL_gt _ _ _ _ hle]; simp
              go_upto_region 6 with fail
              go_quiet (fail)
              obtain ⟨g, c2, w1, hrun, own1, hb1, hs1⟩ := winPush ((x', y')) own (by have := hl.out; omega) hb (by omega) nq
              go_wp2_with (at_builtin; refine wpList_append_run ?b1 (.tmp 58) (.tmp 63) 22 ?b2 ?b3 ?b4 hrun ?_)
              case b1 => rfl
              case b2 => rfl
              go_roundw
              case rel => exact ⟨p, q + 1, l ++ [(x', y')], by omega, by omega, by go_num, by go_num, by simpa using own1, hb1, by show _ = _; simp [hl.out]; try omega, hm'⟩
              case measure => simp [intOf]; omega
          · obtain rfl : q = n' := by omega
            have hdb := Lib.hid (show lb.drop q = [] from List.drop_eq_nil_of_le (by rw [hr'.len]; omega))
            have hm' : Hid (l ++ [(x, y)] ++ W.mergeL (la.drop (p + 1)) (lb.drop q) = W.mergeL la lb) := by
              show _ = _; rw [← hm.out, hda.out, hdb.out, W.mergeL_a]; simp
            go_upto_region 6 with fail
            go_quiet (fail)
            obtain ⟨g, c2, w1, hrun, own1, hb1, hs1⟩ := winPush ((x, y)) own (by have := hl.out; omega) hb (by omega) nq
            go_wp2_with (at_builtin; refine wpList_append_run ?c1 (.tmp 49) (.tmp 54) 22 ?c2 ?c3 ?c4 hrun ?_)
            case c1 => rfl
            case c2 => rfl
            go_roundw
            case rel => exact ⟨p + 1, q, l ++ [(x, y)], by omega, by omega, by go_num, by go_num, by simpa using own1, hb1, by show _ = _; simp [hl.out]; try omega, hm'⟩
            case measure => simp [intOf]; omega
        · obtain rfl : p = n := by omega
          have hda := Lib.hid (show la.drop p = [] from List.drop_eq_nil_of_le (by rw [hr.len]; omega))
          by_cases hqn : q < n'
          · obtain ⟨b', o', x', y', rfl, hbs', hx', h1', h2'⟩ := (hr'.below hb).pair hqn
            have hdb := Lib.hid (drop_at hx'); clear hx'
            have hq1 : ((q : Int) == (n' : Int)) = false := by simp; omega
            have hp1 : decide ((p : Int) < (p : Int)) = false := by simp
            have hm' : Hid (l ++ [(x', y')] ++ W.mergeL (la.drop p) (lb.drop (q + 1)) = W.mergeL la lb) := by
              show _ = _; rw [← hm.out, hda.out, hdb.out, W.mergeL_b]; simp
            go_upto_region 6 with fail
            go_quiet (fail)
            obtain ⟨g, c2, w1, hrun, own1, hb1, hs1⟩ := winPush ((x', y')) own (by have := hl.out; omega) hb (by omega) nq
            go_wp2_with (at_builtin; refine wpList_append_run ?d1 (.tmp 58) (.tmp 63) 22 ?d2 ?d3 ?d4 hrun ?_)
            case d1 => rfl
            case d2 => rfl
            go_roundw
            case rel => exact ⟨p, q + 1, l ++ [(x', y')], by omega, by omega, by go_num, by go_num, by simpa using own1, hb1, by show _ = _; simp [hl.out]; try omega, hm'⟩
            case measure => simp [intOf]; omega
          · obtain rfl : q = n' := by omega
            have hlm : W.mergeL la lb = l := by rw [← hm.out, hda.out, List.drop_eq_nil_of_le (by rw [hr'.len]; omega), W.mergeL_nil, List.append_nil]
            have hlm' := Lib.hid hlm
            have own2 := own
            obtain ⟨A2, c2, rfl, r1, r2, r3⟩ := Rd.of_own pairE_len rfl own2
            clear own own2 hlm hm hda hga' hgb' hu
            go_wp2_with fail
            refine (rjoined_any A2 l.length c2 l _ r1 (by have := hl.out; omega)).mono ?_; rintro e w3 ⟨A3, c3, rfl, s1, s2, s3, s4⟩
            go_wp2_with fail
            go_returns
            rw [hlm'.out]
            exact .mk A3 c3 rfl s1 s2 s3 (hb.trans (s4.mono hb.size))
end Go.Proofs.Ytjbhdfjbockkfaa
