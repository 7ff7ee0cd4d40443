/-
  Walk: the document's answer: joined (a row built from the left). UNDER WAY.
-/
import Derived.Test.YtjbhdfjbockkfaaRef2
import Derived.Test.YtjbhdfjbockkfaaWin4
import Derived.Deep.DeepCutAuto
import Derived.StillTailTactics
import Derived.IntWalk
import Derived.Test.YtjbhdfjbockkfaaStill
namespace Go.Proofs.Ytjbhdfjbockkfaa
open Go.RowKit B Go.Shelf
set_option linter.unusedVariables false
set_option linter.unusedSimpArgs false
set_option maxHeartbeats 1000000
theorem rjoined_any (A : Option Addr) (n c : Nat) (l : W.Row) (w : World) (hr : Rd w 2 pairE A n l) (hn : n ≤ 549755813888) :
    Calls Try.prog 43 #[.slice A n c] w fun e w' => RetRow1 w (W.joinL l) e w' := by
  go_enter Try.func43, Try.ntmps43
  go_wp2
  go_loopw [3, 4] (fun v i wr => ∃ (k : Nat), k ≤ n ∧ i = .int .i64 k ∧ wr.ownsRow w.heap.size 29 2 v (W.joinL (l.take k)).length ((W.joinL (l.take k)).flatMap pairE) ∧ (W.joinL (l.take k) = [] → v = .slice none 0 0) ∧ Below w.heap.size w wr) (fun _ i _ => n - (intOf i).toNat)
  case atStart => exact ⟨0, Nat.zero_le _, rfl, World.ownsRow_nil _ _ _ _, fun _ => rfl, Below.refl _ _⟩
  case round =>
    obtain ⟨k, hk, rfl, own, hnil, hb⟩ := hrel
    by_cases hlt : k < n
    · obtain ⟨b, o, p, q, rfl, hbs, hl, h1, h2⟩ := (hr.below hb).pair hlt
      have htk := Lib.hid (take_at hl); clear hl
      rcases List.eq_nil_or_concat (W.joinL (l.take k)) with hj | ⟨i, ⟨a, bb⟩, hj⟩
      · obtain rfl := hnil hj
        go_upto_region 6 with fail
        go_quiet (fail)
        obtain ⟨g, c2, w1, hrun, own1, hgr, hg⟩ := append_one (enc := pairE) Try.underlying22 Try.infoWin rfl (by decide) pairE_len (fun x u hu => by simp [pairE] at hu; rcases hu with rfl | rfl <;> rfl)
          (wr.drewN nq) w.heap.size (.slice none 0 0) [] (p, q) (World.ownsRow_nil _ _ _ _) (by simp) (by decide) (by have := hb.size; simp; omega)
        have hbw1 : Below w.heap.size w w1 := (Below.alloc (w := wr.drewN nq) ⟨hb.os, hb.tape, hb.output, hb.size, hb.block⟩ hb.size _).grown hgr (by have := hb.size; simp; omega) (fun k hk => by cases hk)
        have hjn : Hid (W.joinL (l.take (k + 1)) = [(p, q)]) := by show _ = _; rw [htk.out, W.joinL_snoc, hj]; rfl
        simp only [pairE, List.length_nil, Nat.zero_add, World.heap_drewN] at hrun
        go_wp2_with (refine wpList_append_run rfl _ _ _ rfl rfl rfl hrun ?_)
        go_roundw
        case rel => exact ⟨k + 1, by omega, by go_num, by rw [hjn.out]; exact own1, fun h => by rw [hjn.out] at h; simp at h, hbw1⟩
        case measure => simp [intOf]; omega
      · rw [List.concat_eq_append] at hj
        have hKl : (W.joinL (l.take k)).length = i.length + 1 := by rw [hj]; simp
        have hKb : i.length + 1 ≤ k := by have := W.joinL_len (l.take k); simp at this; omega
        rw [hKl] at own
        obtain ⟨g0, cap, rfl⟩ := ownsRow_succ own
        clear hnil
        have e1 := own.cellAt (i.length * 2) (by omega)
        have e2 := own.cellAt (i.length * 2 + 1) (by omega)
        rw [hj, flatMap_at pairE_len (i ++ [(a, bb)]) i.length (a, bb) (by simp) 1 _ rfl] at e2
        have e3 := flatMap_at pairE_len (i ++ [(a, bb)]) i.length (a, bb) (by simp) 0 _ rfl
        rw [Nat.add_zero] at e3
        rw [hj, e3] at e1
        clear e3
        have e4 := own.frozenAt (i.length * 2 + 1)
        dsimp only at e1 e2
        obtain ⟨K, hK⟩ : ∃ K, i.length = K := ⟨_, rfl⟩
        rw [hK] at own e1 e2 e4 hKb
        have hKK : (K : Int) < (K : Int) + 1 := by omega
        by_cases hin : p ≤ bb
        · go_upto_region 6 with fail
          go_quiet (fail)
          go_upto_region 7 with fail
          have hwK : IntKind.i64.wrap (K : Int) = K := IntWalk.i64_in _ (by omega)
          refine wp_tailN 15 (by kernel_rfl) (by kernel_rfl) ?_
          simp only [List.take_succ_cons, List.take_zero, List.drop_succ_cons, List.drop_zero]
          repeat still_step
          try refine wpStill_nil ?_
          have own' : (wr.drewN (nq + 1)).ownsRow w.heap.size 29 2 (.slice (some ⟨g0, 0, none⟩) (K + 1) cap) (K + 1) ((W.joinL (l.take k)).flatMap pairE) := own
          have hs := (own'.stored (K * 2 + 1) (.int .i64 (max bb q))).1
          have hfs := flat_set (i := i) (a := a) (b := bb) (u := max bb q)
          rw [hK] at hfs
          rw [hj, hfs] at hs
          have hs := Lib.hid hs
          rename_i hs0; clear hs0 hfs
          have hbw : Hid (Below w.heap.size w ((wr.drewN (nq + 1)).setCell ⟨g0, K * 2 + 1, none⟩ (.int .i64 (max bb q)))) := (below_drewN hb (nq + 1)).setCell (p := ⟨g0, K * 2 + 1, none⟩) (own.lt g0 rfl).1 _
          have hmx : (if bb < q then q else bb) = max bb q := by omega
          have hjn : Hid (W.joinL (l.take (k + 1)) = i ++ [(a, max bb q)]) := by show _ = _; rw [htk.out, W.joinL_snoc, hj]; exact W.joinStep_in _ _ _ hin
          have hK2 := Lib.hid hK
          clear own own' hK hj hKl
          rw [hmx]
          clear hmx
          go_wp2
          go_roundw
          case rel => exact ⟨k + 1, by omega, by go_num, by rw [hjn.out]; simpa [hK2.out] using hs.out, fun h => by rw [hjn.out] at h; simp at h, hbw.out⟩
          case measure => simp [intOf]; omega
        · have hin' : decide (p ≤ bb) = false := decide_eq_false hin
          go_upto_region 6 with fail
          go_quiet (fail)
          obtain ⟨g, c2, w1, hrun, own1, hgr, hg⟩ := append_one (enc := pairE) Try.underlying22 Try.infoWin rfl (by decide) pairE_len (fun x u hu => by simp [pairE] at hu; rcases hu with rfl | rfl <;> rfl)
            (wr.drewN nq) w.heap.size (.slice (some ⟨g0, 0, none⟩) (K + 1) cap) (i ++ [(a, bb)]) (p, q) (by rw [← hj, hKl, hK]; exact own) (by simp [hK]; omega) (by decide) (by have := hb.size; simp; omega)
          have hbw1 : Below w.heap.size w w1 := (Below.alloc (w := wr.drewN nq) ⟨hb.os, hb.tape, hb.output, hb.size, hb.block⟩ hb.size _).grown hgr (by have := hb.size; simp; omega) (fun k hk => (own.lt k hk).1)
          have hjn : Hid (W.joinL (l.take (k + 1)) = i ++ [(a, bb)] ++ [(p, q)]) := by show _ = _; rw [htk.out, W.joinL_snoc, hj]; exact W.joinStep_out _ _ _ (by simp only; omega)
          have hil : (i ++ [(a, bb)]).length = K + 1 := by simp [hK]
          simp only [pairE, hil, World.heap_drewN] at hrun
          go_wp2_with (at_builtin; refine wpList_append_run ?a1 (.tmp 47) (.tmp 52) 22 ?a2 ?a3 ?a4 hrun ?_)
          case a1 => rfl
          case a2 => rfl
          go_roundw
          case rel => exact ⟨k + 1, by omega, by go_num, by rw [hjn.out]; rw [hil] at own1; exact own1, fun h => by rw [hjn.out] at h; simp at h, hbw1⟩
          case measure => simp [intOf]; omega
    · obtain ⟨A', c', rfl, r1, r2, r3⟩ := Rd.of_own pairE_len rfl own
      rw [List.take_of_length_le (by rw [hr.len]; omega)] at r1 r2 ⊢
      go_wp2
      go_returns
      exact .mk A' c' rfl r1 r2 r3 hb
end Go.Proofs.Ytjbhdfjbockkfaa
