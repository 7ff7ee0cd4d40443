/-
  Walk: timetablelaw22.BagLeast answers true.
-/
import Derived.Test.YtlkephcmbfanhaaBagParts
import Derived.Test.YtlkephcmbfanhaaBagPlain4
import Derived.Test.YtlkephcmbfanhaaQuiet
import Derived.Test.YtlkephcmbfanhaaBagGhost
namespace Go.Proofs.Ytlkephcmbfanhaa
open Go.RowKit B K Go.Shelf
set_option linter.unusedVariables false
set_option linter.unusedSimpArgs false
set_option maxHeartbeats 4000000
set_option maxRecDepth 100000 in
theorem least_any (A : Option Addr) (n c : Nat) (l : List P3) (a : Int) (w : World) (hr : Rd w 3 tripE A n l) (hc : n ≤ c) (hc2 : c ≤ 9223372036854775807) (ha : -9223372036854775808 ≤ a ∧ a ≤ 9223372036854775807) :
    Calls Try.prog 4 #[.slice A n c, .int .i64 a] w fun e w' => e = .returned (.bool true) ∧ Below w.heap.size w w' := by
  go_enter Try.func4, Try.ntmps4
  go_wp2_with fail
  refine (lives_any _).mono ?_; rintro e w1 ⟨rfl, hb1⟩
  by_cases hn : 60 < n
  · go_wp2_with fail
    go_returns
    exact ⟨rfl, hb1⟩
  · have hwn : IntKind.i64.wrap ((n : Int) + 1) = (n : Int) + 1 := IntWalk.i64_in _ (by omega)
    go_wp2_with fail
    refine (ownT_any A n c l _ (hr.below hb1) (by omega)).mono ?_; rintro e w2 ⟨v, rfl, own, hb2⟩
    have hb2 := hb1.trans (hb2.mono hb1.size)
    obtain ⟨A2, c2, rfl, r2, s2, t2⟩ := Rd.of_own tripE_len rfl own
    have hlen : l.length = n := hr.len
    rw [hlen] at r2 s2 ⊢
    clear own
    have hlen := Lib.hid hlen
    rename_i hlen0; clear hlen0
    go_wp2_with fail
    refine (Least3_any A2 n c2 l _ r2 (by omega)).mono ?_; rintro e w3 ⟨A3, c3, rfl, r3, s3, t3, hb3⟩
    have hb3 := hb2.trans (hb3.mono hb2.size)
    have hL60 : (L3 l).length ≤ 60 := by have := L3_len l; have := hlen.out; omega
    obtain ⟨m, hm⟩ : ∃ q, (L3 l).length = q := ⟨_, rfl⟩
    rw [hm] at r3 s3 hL60 ⊢
    have hm' := Lib.hid hm
    clear hm r2 s2 t2
    go_wp2_with fail
    go_loopw [6] (fun i wr => ∃ (j : Nat), j ≤ m ∧ i = .int .i64 j ∧ Below w.heap.size w wr ∧ Below w3.heap.size w3 wr) (fun i _ => m - (intOf i).toNat)
    case atStart => exact ⟨0, Nat.zero_le _, rfl, hb3, Below.refl _ _⟩
    case round =>
      obtain ⟨j, hj, rfl, hb, hbk⟩ := hrel
      by_cases hlt : j < m
      · obtain ⟨b, o, x1, x2, x3, rfl, hbs, hx, h1, h2, h3⟩ := (r3.below hbk).trip hlt
        have hck := Lib.hid (L3_chk hx)
        by_cases h0 : j = 0
        · subst h0
          simp only [Nat.zero_mul, Nat.add_zero] at h1 h2 h3
          go_upto_region 9 with fail
          refine wp_region_below wr.heap.size (by kernel_rfl) (by kernel_rfl) ?_
          intro C hC
          repeat (go_big_quiet_step (first
            | ((intro _; with_reducible rfl))
            | (intro hc; have m00 := (hc.cell (p := ⟨b, _, none⟩) hbs).trans h1; have m01 := (hc.cell (p := ⟨b, _, none⟩) hbs).trans h2; have m02 := (hc.cell (p := ⟨b, _, none⟩) hbs).trans h3; simp only [m00, m01, m02, Result.andThen]; exact ⟨trivial, rfl⟩)
            | (intro hc; refine (Check3_any _ _ _ _).mono ?_; rintro e w'' ⟨rfl, hb⟩; exact ⟨congrArg (fun b => Ending.returned (.int .i64 b)) hck.out, hc.trans (hb.mono hc.size)⟩)))
          refine wpQuiet_nil ?_
          intro w4 hb4
          clear hC
          have hb5 := hb.trans (hb4.mono hb.size)
          have hbk5 := hbk.trans (hb4.mono hbk.size)
          go_wp2_with fail
          go_loopw [7] (fun i wr2 => ∃ (q : Nat), q ≤ m ∧ i = .int .i64 q ∧ Below w.heap.size w wr2 ∧ Below w3.heap.size w3 wr2) (fun i _ => m - (intOf i).toNat)
          case atStart => exact ⟨0, Nat.zero_le _, rfl, hb5, hbk5⟩
          case round =>
            obtain ⟨q, hq, rfl, hb6, hbk6⟩ := hrel
            by_cases hlq : q < m
            · obtain ⟨b', o', z1, z2, z3, e', hbs', hz, k1, k2, k3⟩ := (r3.below hbk6).trip hlq
              cases e'
              obtain ⟨b', o', v1, v2, v3, e', _, hx', g1, g2, g3⟩ := (r3.below hbk6).trip hlt
              cases e'
              have hxe := hx.symm.trans hx'
              cases hxe
              have hno := Lib.hid (L3_no hz hx)
              simp only [Nat.zero_mul, Nat.add_zero] at g1 g2 g3
              go_upto_region 14 with fail
              refine wp_region_below wr.heap.size (by kernel_rfl) (by kernel_rfl) ?_
              intro C hC
              repeat (go_big_quiet_step (first
                | ((intro _; with_reducible rfl))
                | (intro hc; have m00 := (hc.cell (p := ⟨b, _, none⟩) hbs').trans k1; have m01 := (hc.cell (p := ⟨b, _, none⟩) hbs').trans k2; have m02 := (hc.cell (p := ⟨b, _, none⟩) hbs').trans k3; have m10 := (hc.cell (p := ⟨b, _, none⟩) hbs').trans g1; have m11 := (hc.cell (p := ⟨b, _, none⟩) hbs').trans g2; have m12 := (hc.cell (p := ⟨b, _, none⟩) hbs').trans g3; simp only [m00, m01, m02, m10, m11, m12, Result.andThen]; exact ⟨trivial, rfl⟩)
                | (intro hc; refine (Beats3_any _ _ _ _ _ _ _).mono ?_; rintro e w'' ⟨rfl, hb⟩; exact ⟨congrArg (fun b => Ending.returned (.bool b)) hno.out, hc.trans (hb.mono hc.size)⟩)))
              refine wpQuiet_nil ?_
              intro w5 hb7
              clear hC
              go_wp2_with fail
              go_roundw
              case rel => exact ⟨q + 1, by omega, by go_num, hb6.trans (hb7.mono hb6.size), hbk6.trans (hb7.mono hbk6.size)⟩
              case measure => simp [intOf]; omega
            · go_wp2_with fail
              go_roundw
              case rel => exact ⟨0 + 1, by omega, by go_num, hb6, hbk6⟩
              case measure => simp [intOf]; omega
        · obtain ⟨j0, rfl⟩ : ∃ j0, j = j0 + 1 := ⟨j - 1, by omega⟩
          obtain ⟨b', o', y1, y2, y3, e', _, hy, p1, p2, p3⟩ := (r3.below hbk).trip (k := j0) (by omega)
          cases e'
          obtain ⟨f1, f2⟩ := L3_next hy hx
          simp only at f1 f2
          have d1 : decide (x1 < y1) = false := decide_eq_false (by omega)
          have hw : IntKind.i64.wrap (j0 : Int) = j0 := IntWalk.i64_in _ (by omega)
          have z1 : (0 : Int) ≤ (j0 : Int) := by omega
          have z2 : (j0 : Int) < (m : Int) := by omega
          have z3 : (j0 : Int) + 1 < (m : Int) := by omega
          have z4 : (0 : Int) < (j0 : Int) + 1 := by omega
          by_cases hxy : y1 = x1
          · have d2 : decide (x3 ≤ y3) = false := decide_eq_false (by have := f2 hxy; omega)
            subst hxy
            clear f1 f2
            go_upto_region 9 with fail
            refine wp_region_below wr.heap.size (by kernel_rfl) (by kernel_rfl) ?_
            intro C hC
            repeat (go_big_quiet_step (first
              | ((intro _; with_reducible rfl))
              | (intro hc; have m00 := (hc.cell (p := ⟨b, _, none⟩) hbs).trans h1; have m01 := (hc.cell (p := ⟨b, _, none⟩) hbs).trans h2; have m02 := (hc.cell (p := ⟨b, _, none⟩) hbs).trans h3; have m10 := (hc.cell (p := ⟨b, _, none⟩) hbs).trans p1; have m11 := (hc.cell (p := ⟨b, _, none⟩) hbs).trans p2; have m12 := (hc.cell (p := ⟨b, _, none⟩) hbs).trans p3; simp only [m00, m01, m02, m10, m11, m12, Result.andThen]; exact ⟨trivial, rfl⟩)
              | (intro hc; refine (Check3_any _ _ _ _).mono ?_; rintro e w'' ⟨rfl, hb⟩; exact ⟨congrArg (fun b => Ending.returned (.int .i64 b)) hck.out, hc.trans (hb.mono hc.size)⟩)))
            refine wpQuiet_nil ?_
            intro w4 hb4
            clear hC
            have hb5 := hb.trans (hb4.mono hb.size)
            have hbk5 := hbk.trans (hb4.mono hbk.size)
            go_wp2_with fail
            go_loopw [7] (fun i wr2 => ∃ (q : Nat), q ≤ m ∧ i = .int .i64 q ∧ Below w.heap.size w wr2 ∧ Below w3.heap.size w3 wr2) (fun i _ => m - (intOf i).toNat)
            case atStart => exact ⟨0, Nat.zero_le _, rfl, hb5, hbk5⟩
            case round =>
              obtain ⟨q, hq, rfl, hb6, hbk6⟩ := hrel
              by_cases hlq : q < m
              · obtain ⟨b', o', z1, z2, z3, e', hbs', hz, k1, k2, k3⟩ := (r3.below hbk6).trip hlq
                cases e'
                obtain ⟨b', o', v1, v2, v3, e', _, hx', g1, g2, g3⟩ := (r3.below hbk6).trip hlt
                cases e'
                have hxe := hx.symm.trans hx'
                cases hxe
                have hno := Lib.hid (L3_no hz hx)
                go_upto_region 14 with fail
                refine wp_region_below wr.heap.size (by kernel_rfl) (by kernel_rfl) ?_
                intro C hC
                repeat (go_big_quiet_step (first
                  | ((intro _; with_reducible rfl))
                  | (intro hc; have m00 := (hc.cell (p := ⟨b, _, none⟩) hbs').trans k1; have m01 := (hc.cell (p := ⟨b, _, none⟩) hbs').trans k2; have m02 := (hc.cell (p := ⟨b, _, none⟩) hbs').trans k3; have m10 := (hc.cell (p := ⟨b, _, none⟩) hbs').trans g1; have m11 := (hc.cell (p := ⟨b, _, none⟩) hbs').trans g2; have m12 := (hc.cell (p := ⟨b, _, none⟩) hbs').trans g3; simp only [m00, m01, m02, m10, m11, m12, Result.andThen]; exact ⟨trivial, rfl⟩)
                  | (intro hc; refine (Beats3_any _ _ _ _ _ _ _).mono ?_; rintro e w'' ⟨rfl, hb⟩; exact ⟨congrArg (fun b => Ending.returned (.bool b)) hno.out, hc.trans (hb.mono hc.size)⟩)))
                refine wpQuiet_nil ?_
                intro w5 hb7
                clear hC
                go_wp2_with fail
                go_roundw
                case rel => exact ⟨q + 1, by omega, by go_num, hb6.trans (hb7.mono hb6.size), hbk6.trans (hb7.mono hbk6.size)⟩
                case measure => simp [intOf]; omega
              · go_wp2_with fail
                go_roundw
                case rel => exact ⟨(j0 + 1) + 1, by omega, by go_num, hb6, hbk6⟩
                case measure => simp [intOf]; omega
          · have d2 : (y1 == x1) = false := by simp [hxy]
            clear f1 f2 hxy
            go_upto_region 9 with fail
            refine wp_region_below wr.heap.size (by kernel_rfl) (by kernel_rfl) ?_
            intro C hC
            repeat (go_big_quiet_step (first
              | ((intro _; with_reducible rfl))
              | (intro hc; have m00 := (hc.cell (p := ⟨b, _, none⟩) hbs).trans h1; have m01 := (hc.cell (p := ⟨b, _, none⟩) hbs).trans h2; have m02 := (hc.cell (p := ⟨b, _, none⟩) hbs).trans h3; have m10 := (hc.cell (p := ⟨b, _, none⟩) hbs).trans p1; have m11 := (hc.cell (p := ⟨b, _, none⟩) hbs).trans p2; have m12 := (hc.cell (p := ⟨b, _, none⟩) hbs).trans p3; simp only [m00, m01, m02, m10, m11, m12, Result.andThen]; exact ⟨trivial, rfl⟩)
              | (intro hc; refine (Check3_any _ _ _ _).mono ?_; rintro e w'' ⟨rfl, hb⟩; exact ⟨congrArg (fun b => Ending.returned (.int .i64 b)) hck.out, hc.trans (hb.mono hc.size)⟩)))
            refine wpQuiet_nil ?_
            intro w4 hb4
            clear hC
            have hb5 := hb.trans (hb4.mono hb.size)
            have hbk5 := hbk.trans (hb4.mono hbk.size)
            go_wp2_with fail
            go_loopw [7] (fun i wr2 => ∃ (q : Nat), q ≤ m ∧ i = .int .i64 q ∧ Below w.heap.size w wr2 ∧ Below w3.heap.size w3 wr2) (fun i _ => m - (intOf i).toNat)
            case atStart => exact ⟨0, Nat.zero_le _, rfl, hb5, hbk5⟩
            case round =>
              obtain ⟨q, hq, rfl, hb6, hbk6⟩ := hrel
              by_cases hlq : q < m
              · obtain ⟨b', o', z1, z2, z3, e', hbs', hz, k1, k2, k3⟩ := (r3.below hbk6).trip hlq
                cases e'
                obtain ⟨b', o', v1, v2, v3, e', _, hx', g1, g2, g3⟩ := (r3.below hbk6).trip hlt
                cases e'
                have hxe := hx.symm.trans hx'
                cases hxe
                have hno := Lib.hid (L3_no hz hx)
                go_upto_region 14 with fail
                refine wp_region_below wr.heap.size (by kernel_rfl) (by kernel_rfl) ?_
                intro C hC
                repeat (go_big_quiet_step (first
                  | ((intro _; with_reducible rfl))
                  | (intro hc; have m00 := (hc.cell (p := ⟨b, _, none⟩) hbs').trans k1; have m01 := (hc.cell (p := ⟨b, _, none⟩) hbs').trans k2; have m02 := (hc.cell (p := ⟨b, _, none⟩) hbs').trans k3; have m10 := (hc.cell (p := ⟨b, _, none⟩) hbs').trans g1; have m11 := (hc.cell (p := ⟨b, _, none⟩) hbs').trans g2; have m12 := (hc.cell (p := ⟨b, _, none⟩) hbs').trans g3; simp only [m00, m01, m02, m10, m11, m12, Result.andThen]; exact ⟨trivial, rfl⟩)
                  | (intro hc; refine (Beats3_any _ _ _ _ _ _ _).mono ?_; rintro e w'' ⟨rfl, hb⟩; exact ⟨congrArg (fun b => Ending.returned (.bool b)) hno.out, hc.trans (hb.mono hc.size)⟩)))
                refine wpQuiet_nil ?_
                intro w5 hb7
                clear hC
                go_wp2_with fail
                go_roundw
                case rel => exact ⟨q + 1, by omega, by go_num, hb6.trans (hb7.mono hb6.size), hbk6.trans (hb7.mono hbk6.size)⟩
                case measure => simp [intOf]; omega
              · go_wp2_with fail
                go_roundw
                case rel => exact ⟨(j0 + 1) + 1, by omega, by go_num, hb6, hbk6⟩
                case measure => simp [intOf]; omega
      · go_wp2_with fail
        go_loopw [8] (fun i wr => ∃ (q : Nat), q ≤ n ∧ i = .int .i64 q ∧ Below w.heap.size w wr ∧ Below w3.heap.size w3 wr) (fun i _ => n - (intOf i).toNat)
        case atStart => exact ⟨0, Nat.zero_le _, rfl, hb, hbk⟩
        case round =>
          obtain ⟨q, hq, rfl, hb4, hbk4⟩ := hrel
          by_cases hlq : q < n
          · obtain ⟨b, o, x1, x2, x3, rfl, hbs, hx, h1, h2, h3⟩ := (hr.below hb4).trip hlq
            have hcv := L3_covB (List.mem_of_getElem? hx)
            go_wp2_with fail
            refine (Check3_any x1 x2 x3 _).mono ?_; rintro e w5 ⟨rfl, hb5⟩
            have hbk5 := hbk4.trans (hb5.mono hbk4.size)
            have hb5 := hb4.trans (hb5.mono hb4.size)
            obtain ⟨ck, hck⟩ : ∃ y, chkB (may3 (x1, x2, x3)) = y := ⟨_, rfl⟩
            rw [hck] at hcv ⊢
            have hcv := Lib.hid hcv
            clear hck
            rename_i hcv0; clear hcv0
            go_wp2_with fail
            go_loopw [9, 10] (fun v i wr2 => ∃ (s : Nat), s ≤ m ∧ i = .int .i64 s ∧ v = .bool (covB ((L3 l).take s) (x1, x2, x3) (ck != 0)) ∧ Below w.heap.size w wr2 ∧ Below w3.heap.size w3 wr2) (fun _ i _ => m - (intOf i).toNat)
            case atStart => exact ⟨0, Nat.zero_le _, rfl, rfl, hb5, hbk5⟩
            case round =>
              obtain ⟨s, hs, rfl, rfl, hb6, hbk6⟩ := hrel
              by_cases hls : s < m
              · obtain ⟨b3, o3, z1, z2, z3, rfl, hb3', hz, k1, k2, k3⟩ := (r3.below hbk6).trip hls
                have htk := Lib.hid (take_at hz)
                obtain ⟨b', o', v1, v2, v3, e', hb9, hx', g1, g2, g3⟩ := (hr.below hb6).trip hlq
                cases e'
                have hxe := hx.symm.trans hx'
                cases hxe
                clear hx hx' hz
                have hb3 := hb3'
                cases hv : covB ((L3 l).take s) (x1, x2, x3) (ck != 0) with
                | true =>
                  have hnx : Hid (covB ((L3 l).take (s + 1)) (x1, x2, x3) (ck != 0) = true) := by show _ = _; rw [htk.out, covB_snoc, hv]; simp
                  clear hv
                  go_upto_region 23 with fail
                  refine wp_region_below wr.heap.size (by kernel_rfl) (by kernel_rfl) ?_
                  intro C hC
                  repeat (go_big_quiet_step (first
                    | ((intro _; with_reducible rfl))
                    | (intro hc; have m00 := (hc.cell (p := ⟨b3, _, none⟩) hb3).trans k1; have m01 := (hc.cell (p := ⟨b3, _, none⟩) hb3).trans k2; have m02 := (hc.cell (p := ⟨b3, _, none⟩) hb3).trans k3; have m10 := (hc.cell (p := ⟨b, _, none⟩) hb9).trans g1; have m11 := (hc.cell (p := ⟨b, _, none⟩) hb9).trans g2; have m12 := (hc.cell (p := ⟨b, _, none⟩) hb9).trans g3; simp only [m00, m01, m02, m10, m11, m12, Result.andThen]; exact ⟨trivial, rfl⟩)
                    | (intro hc; refine (Beats3_any _ _ _ _ _ _ _).mono ?_; rintro e w'' ⟨rfl, hb⟩; exact ⟨congrArg (fun b => Ending.returned (.bool b)) hnx.out, hc.trans (hb.mono hc.size)⟩)))
                  refine wpQuiet_nil ?_
                  intro w7 hb7
                  clear hC
                  have hb8 := hb6.trans (hb7.mono hb6.size)
                  have hbk8 := hbk6.trans (hb7.mono hbk6.size)
                  go_wp2_with fail
                  go_roundw
                  case rel => exact ⟨s + 1, by omega, by go_num, by rw [hnx.out], hb8, hbk8⟩
                  case measure => simp [intOf]; omega
                | false =>
                  by_cases e1 : z1 = x1
                  · subst e1
                    by_cases e2 : z2 = x2
                    · subst e2
                      by_cases e3 : z3 = x3
                      · subst e3
                        have hnx : Hid (covB ((L3 l).take (s + 1)) (z1, z2, z3) (ck != 0) = true) := by show _ = _; rw [htk.out, covB_snoc]; simp
                        clear hv
                        go_upto_region 23 with fail
                        refine wp_region_below wr.heap.size (by kernel_rfl) (by kernel_rfl) ?_
                        intro C hC
                        repeat (go_big_quiet_step (first
                          | ((intro _; with_reducible rfl))
                          | (intro hc; have m00 := (hc.cell (p := ⟨b3, _, none⟩) hb3).trans k1; have m01 := (hc.cell (p := ⟨b3, _, none⟩) hb3).trans k2; have m02 := (hc.cell (p := ⟨b3, _, none⟩) hb3).trans k3; have m10 := (hc.cell (p := ⟨b, _, none⟩) hb9).trans g1; have m11 := (hc.cell (p := ⟨b, _, none⟩) hb9).trans g2; have m12 := (hc.cell (p := ⟨b, _, none⟩) hb9).trans g3; simp only [m00, m01, m02, m10, m11, m12, Result.andThen]; exact ⟨trivial, rfl⟩)
                          | (intro hc; refine (Beats3_any _ _ _ _ _ _ _).mono ?_; rintro e w'' ⟨rfl, hb⟩; exact ⟨congrArg (fun b => Ending.returned (.bool b)) hnx.out, hc.trans (hb.mono hc.size)⟩)))
                        refine wpQuiet_nil ?_
                        intro w7 hb7
                        clear hC
                        have hb8 := hb6.trans (hb7.mono hb6.size)
                        have hbk8 := hbk6.trans (hb7.mono hbk6.size)
                        go_wp2_with fail
                        go_roundw
                        case rel => exact ⟨s + 1, by omega, by go_num, by rw [hnx.out], hb8, hbk8⟩
                        case measure => simp [intOf]; omega
                      · have hn : (z3 == x3) = false := by simp [e3]
                        have hne : Hid (((z1, z2, z3) : P3) ≠ (z1, z2, x3)) := by show _ ≠ _; simp [e3]
                        obtain ⟨bq, hbq⟩ : ∃ y, beats3 (z1, z2, z3) (z1, z2, x3) = y := ⟨_, rfl⟩
                        have hnx : Hid (covB ((L3 l).take (s + 1)) (z1, z2, x3) (ck != 0) = bq) := by show _ = _; rw [htk.out, covB_snoc, hv, decide_eq_false hne.out, hbq]; simp
                        have hbq := Lib.hid hbq
                        rename_i hbq0; clear hbq0
                        clear hv e3
                        go_upto_region 23 with fail
                        refine wp_region_below wr.heap.size (by kernel_rfl) (by kernel_rfl) ?_
                        intro C hC
                        repeat (go_big_quiet_step (first
                          | ((intro _; with_reducible rfl))
                          | (intro hc; have m00 := (hc.cell (p := ⟨b3, _, none⟩) hb3).trans k1; have m01 := (hc.cell (p := ⟨b3, _, none⟩) hb3).trans k2; have m02 := (hc.cell (p := ⟨b3, _, none⟩) hb3).trans k3; have m10 := (hc.cell (p := ⟨b, _, none⟩) hb9).trans g1; have m11 := (hc.cell (p := ⟨b, _, none⟩) hb9).trans g2; have m12 := (hc.cell (p := ⟨b, _, none⟩) hb9).trans g3; simp only [m00, m01, m02, m10, m11, m12, Result.andThen]; exact ⟨trivial, rfl⟩)
                          | (intro hc; refine (Beats3_any _ _ _ _ _ _ _).mono ?_; rintro e w'' ⟨rfl, hb⟩; exact ⟨congrArg (fun b => Ending.returned (.bool b)) hbq.out, hc.trans (hb.mono hc.size)⟩)))
                        refine wpQuiet_nil ?_
                        intro w7 hb7
                        clear hC
                        have hb8 := hb6.trans (hb7.mono hb6.size)
                        have hbk8 := hbk6.trans (hb7.mono hbk6.size)
                        go_wp2_with fail
                        go_roundw
                        case rel => exact ⟨s + 1, by omega, by go_num, by rw [hnx.out], hb8, hbk8⟩
                        case measure => simp [intOf]; omega
                    · have hn : (z2 == x2) = false := by simp [e2]
                      have hne : Hid (((z1, z2, z3) : P3) ≠ (z1, x2, x3)) := by show _ ≠ _; simp [e2]
                      obtain ⟨bq, hbq⟩ : ∃ y, beats3 (z1, z2, z3) (z1, x2, x3) = y := ⟨_, rfl⟩
                      have hnx : Hid (covB ((L3 l).take (s + 1)) (z1, x2, x3) (ck != 0) = bq) := by show _ = _; rw [htk.out, covB_snoc, hv, decide_eq_false hne.out, hbq]; simp
                      have hbq := Lib.hid hbq
                      rename_i hbq0; clear hbq0
                      clear hv e2
                      go_upto_region 23 with fail
                      refine wp_region_below wr.heap.size (by kernel_rfl) (by kernel_rfl) ?_
                      intro C hC
                      repeat (go_big_quiet_step (first
                        | ((intro _; with_reducible rfl))
                        | (intro hc; have m00 := (hc.cell (p := ⟨b3, _, none⟩) hb3).trans k1; have m01 := (hc.cell (p := ⟨b3, _, none⟩) hb3).trans k2; have m02 := (hc.cell (p := ⟨b3, _, none⟩) hb3).trans k3; have m10 := (hc.cell (p := ⟨b, _, none⟩) hb9).trans g1; have m11 := (hc.cell (p := ⟨b, _, none⟩) hb9).trans g2; have m12 := (hc.cell (p := ⟨b, _, none⟩) hb9).trans g3; simp only [m00, m01, m02, m10, m11, m12, Result.andThen]; exact ⟨trivial, rfl⟩)
                        | (intro hc; refine (Beats3_any _ _ _ _ _ _ _).mono ?_; rintro e w'' ⟨rfl, hb⟩; exact ⟨congrArg (fun b => Ending.returned (.bool b)) hbq.out, hc.trans (hb.mono hc.size)⟩)))
                      refine wpQuiet_nil ?_
                      intro w7 hb7
                      clear hC
                      have hb8 := hb6.trans (hb7.mono hb6.size)
                      have hbk8 := hbk6.trans (hb7.mono hbk6.size)
                      go_wp2_with fail
                      go_roundw
                      case rel => exact ⟨s + 1, by omega, by go_num, by rw [hnx.out], hb8, hbk8⟩
                      case measure => simp [intOf]; omega
                  · have hn : (z1 == x1) = false := by simp [e1]
                    have hne : Hid (((z1, z2, z3) : P3) ≠ (x1, x2, x3)) := by show _ ≠ _; simp [e1]
                    obtain ⟨bq, hbq⟩ : ∃ y, beats3 (z1, z2, z3) (x1, x2, x3) = y := ⟨_, rfl⟩
                    have hnx : Hid (covB ((L3 l).take (s + 1)) (x1, x2, x3) (ck != 0) = bq) := by show _ = _; rw [htk.out, covB_snoc, hv, decide_eq_false hne.out, hbq]; simp
                    have hbq := Lib.hid hbq
                    rename_i hbq0; clear hbq0
                    clear hv e1
                    go_upto_region 23 with fail
                    refine wp_region_below wr.heap.size (by kernel_rfl) (by kernel_rfl) ?_
                    intro C hC
                    repeat (go_big_quiet_step (first
                      | ((intro _; with_reducible rfl))
                      | (intro hc; have m00 := (hc.cell (p := ⟨b3, _, none⟩) hb3).trans k1; have m01 := (hc.cell (p := ⟨b3, _, none⟩) hb3).trans k2; have m02 := (hc.cell (p := ⟨b3, _, none⟩) hb3).trans k3; have m10 := (hc.cell (p := ⟨b, _, none⟩) hb9).trans g1; have m11 := (hc.cell (p := ⟨b, _, none⟩) hb9).trans g2; have m12 := (hc.cell (p := ⟨b, _, none⟩) hb9).trans g3; simp only [m00, m01, m02, m10, m11, m12, Result.andThen]; exact ⟨trivial, rfl⟩)
                      | (intro hc; refine (Beats3_any _ _ _ _ _ _ _).mono ?_; rintro e w'' ⟨rfl, hb⟩; exact ⟨congrArg (fun b => Ending.returned (.bool b)) hbq.out, hc.trans (hb.mono hc.size)⟩)))
                    refine wpQuiet_nil ?_
                    intro w7 hb7
                    clear hC
                    have hb8 := hb6.trans (hb7.mono hb6.size)
                    have hbk8 := hbk6.trans (hb7.mono hbk6.size)
                    go_wp2_with fail
                    go_roundw
                    case rel => exact ⟨s + 1, by omega, by go_num, by rw [hnx.out], hb8, hbk8⟩
                    case measure => simp [intOf]; omega
              · have htk : (L3 l).take s = L3 l := List.take_of_length_le (by rw [hm'.out]; omega)
                rw [htk, hcv.out]
                clear htk
                go_wp2_with fail
                go_roundw
                case rel => exact ⟨q + 1, by omega, by go_num, hb6, hbk6⟩
                case measure => simp [intOf]; omega
          · go_wp2_with fail
            refine (pick_any a ((n : Int) + 1) _ (by omega) ha).mono ?_; rintro e w5 ⟨k, rfl, hk, hb5⟩
            have hbk5 := hbk4.trans (hb5.mono hbk4.size)
            have hb5 := hb4.trans (hb5.mono hb4.size)
            have hk : k ≤ n := by omega
            have hh : ∀ W, (Instr.slice 31 (.slice A n c) none (some (.int .i64 (k : Int))) none).run Try.prog W = .ok (.slice A k c) W := fun W => by
              have := run_head (P := Try.prog) (t := 31) (e := 23) (s := 3) Try.underlying31 (by kernel_rfl) (fun W => by simp [go_sem]) A n c k (by omega) .i64 W
              rwa [cutA_zero] at this
            have hd := fun W => run_cut (P := Try.prog) (t := 31) (e := 23) (s := 3) Try.underlying31 (by kernel_rfl) (fun W => by simp [go_sem]) A n c k hk .i64 W
            have hra := Lib.hid ((hr.below hb5).drop (k := k) hk hc)
            have hrb := Lib.hid ((hr.below hb5).take (k := k) hk)
            have hla : Hid ((l.drop k).length = n - k) := hra.out.len
            have hlb : Hid ((l.take k).length = k) := hrb.out.len
            go_upto_region 27 with fail
            refine wp_region_ghost (Gh w5 (l.drop k) (l.take k)) (by kernel_rfl) (by kernel_rfl) (by kernel_rfl) (by kernel_rfl) (by kernel_rfl) ?_ ?_
            · intro x
              exact Gh.start rfl rfl rfl rfl ⟨rfl, rfl, rfl, Nat.le_refl _, fun _ _ => rfl⟩
            intro base O hbase hO
            have kx0 : Hid (∀ xs, evX base O xs (.tmp 0) = .slice A n c) := fun xs => by rw [hbase, hO]; rfl
            have kx1 : Hid (∀ xs, evX base O xs (.tmp 1) = .int .i64 (k : Int)) := fun xs => by rw [hbase, hO]; rfl
            have kx141 : Hid (∀ xs, evX base O xs (.tmp 141) = xs 0) := fun xs => by rw [hO]; rfl
            have kx142 : Hid (∀ xs, evX base O xs (.tmp 142) = xs 1) := fun xs => by rw [hO]; rfl
            have kx143 : Hid (∀ xs, evX base O xs (.tmp 143) = xs 2) := fun xs => by rw [hO]; rfl
            have kx144 : Hid (∀ xs, evX base O xs (.tmp 144) = xs 3) := fun xs => by rw [hO]; rfl
            have kx145 : Hid (∀ xs, evX base O xs (.tmp 145) = xs 4) := fun xs => by rw [hO]; rfl
            have kx146 : Hid (∀ xs, evX base O xs (.tmp 146) = xs 5) := fun xs => by rw [hO]; rfl
            have kx147 : Hid (∀ xs, evX base O xs (.tmp 147) = xs 6) := fun xs => by rw [hO]; rfl
            have kx148 : Hid (∀ xs, evX base O xs (.tmp 148) = xs 7) := fun xs => by rw [hO]; rfl
            have kx149 : Hid (∀ xs, evX base O xs (.tmp 149) = xs 8) := fun xs => by rw [hO]; rfl
            have kx150 : Hid (∀ xs, evX base O xs (.tmp 150) = xs 9) := fun xs => by rw [hO]; rfl
            have kx151 : Hid (∀ xs, evX base O xs (.tmp 151) = xs 10) := fun xs => by rw [hO]; rfl
            have kx152 : Hid (∀ xs, evX base O xs (.tmp 152) = xs 11) := fun xs => by rw [hO]; rfl
            clear hbase hO
            apply gh_det (n := 0)
            · intro fl xs w ev hG hD hl hdone hev K hK
              have e0 := (hev (.tmp 0)).trans (kx0.out xs)
              rw [if_pos (wantedX_none rfl)]
              have ef : ∀ f, ev (.func f) = .func (.func f) #[] #[] := fun f => (hev _).trans rfl
              clear hev hD
              go_simp
              exact hK _ _ rfl hG
            apply gh_det (n := 1)
            · intro fl xs w ev hG hD hl hdone hev K hK
              have e1 := (hev (.tmp 1)).trans (kx1.out xs)
              rw [if_pos (wantedX_none rfl)]
              have ef : ∀ f, ev (.func f) = .func (.func f) #[] #[] := fun f => (hev _).trans rfl
              clear hev hD
              go_simp
              exact hK _ _ rfl hG
            apply gh_det (n := 2)
            · intro fl xs w ev hG hD hl hdone hev K hK
              have e141 := (hev (.tmp 141)).trans (kx141.out xs)
              have d0 := hD.at_ 0 rfl rfl
              replace e141 := e141.trans d0
              have e142 := (hev (.tmp 142)).trans (kx142.out xs)
              have d1 := hD.at_ 1 rfl rfl
              replace e142 := e142.trans d1
              rw [if_pos (wantedX_none rfl)]
              have ef : ∀ f, ev (.func f) = .func (.func f) #[] #[] := fun f => (hev _).trans rfl
              clear hev hD
              go_simp
              exact hK _ _ rfl hG
            refine gh_any (n := 3) (fun _ => True) ?_ ?_
            · intro fl xs w ev hG hD hl hdone hev K hK
              have e143 := (hev (.tmp 143)).trans (kx143.out xs)
              have d2 := hD.at_ 2 rfl rfl
              replace e143 := e143.trans d2
              rw [if_pos (wantedX_none rfl)]
              have ef : ∀ f, ev (.func f) = .func (.func f) #[] #[] := fun f => (hev _).trans rfl
              clear hev hD
              go_simp
              refine (ownT_any (cutA A c k 3) (n - k) (c - k) (l.drop k) _ (hra.out.below hG.1) (by omega)).mono ?_; rintro e w' ⟨v, rfl, own, hb1⟩
              exact ⟨_, rfl, hK _ _ trivial (hG.s3 hl own hb1)⟩
            apply gh_det (n := 4)
            · intro fl xs w ev hG hD hl hdone hev K hK
              have e0 := (hev (.tmp 0)).trans (kx0.out xs)
              rw [if_pos (wantedX_none rfl)]
              have ef : ∀ f, ev (.func f) = .func (.func f) #[] #[] := fun f => (hev _).trans rfl
              clear hev hD
              go_simp
              exact hK _ _ rfl hG
            apply gh_det (n := 5)
            · intro fl xs w ev hG hD hl hdone hev K hK
              have e1 := (hev (.tmp 1)).trans (kx1.out xs)
              rw [if_pos (wantedX_none rfl)]
              have ef : ∀ f, ev (.func f) = .func (.func f) #[] #[] := fun f => (hev _).trans rfl
              clear hev hD
              go_simp
              exact hK _ _ rfl hG
            apply gh_det (n := 6)
            · intro fl xs w ev hG hD hl hdone hev K hK
              have e145 := (hev (.tmp 145)).trans (kx145.out xs)
              have d4 := hD.at_ 4 rfl rfl
              replace e145 := e145.trans d4
              have e146 := (hev (.tmp 146)).trans (kx146.out xs)
              have d5 := hD.at_ 5 rfl rfl
              replace e146 := e146.trans d5
              rw [if_pos (wantedX_none rfl)]
              have ef : ∀ f, ev (.func f) = .func (.func f) #[] #[] := fun f => (hev _).trans rfl
              clear hev hD
              go_simp
              exact hK _ _ rfl hG
            refine gh_any (n := 7) (fun _ => True) ?_ ?_
            · intro fl xs w ev hG hD hl hdone hev K hK
              have e144 := (hev (.tmp 144)).trans (kx144.out xs)
              have e147 := (hev (.tmp 147)).trans (kx147.out xs)
              have d6 := hD.at_ 6 rfl rfl
              replace e147 := e147.trans d6
              rw [if_pos (wantedX_none rfl)]
              have ef : ∀ f, ev (.func f) = .func (.func f) #[] #[] := fun f => (hev _).trans rfl
              clear hev hD
              have own := hG.2.2.2.2.1 (done_of hdone 3 rfl) hl
              obtain ⟨v2, w2, hrun, own2, hg2, _⟩ := own_append (enc := tripE) Try.underlying31 infoATri rfl (by decide) tripE_len tripE_one c own (hrb.out.below hG.1) (by have := hla.out; have := hlb.out; simp only [List.length_append] at *; omega) (by decide) hG.1.size
              have hbx : Below w5.heap.size w w2 := (Below.refl _ w).grown hg2 hG.1.size (fun g hg => (own.lt g hg).1)
              refine outcome_append (.tmp 144) (.tmp 147) 31 rfl e144 e147 hrun ?_
              exact hK _ _ trivial (hG.s7 (done_of hdone 3 rfl) hl (by rw [List.length_append (bs := l.take k), hlb.out]; exact own2) hbx)
            apply gh_det (n := 8)
            · intro fl xs w ev hG hD hl hdone hev K hK
              have e0 := (hev (.tmp 0)).trans (kx0.out xs)
              rw [if_pos (wantedX_none rfl)]
              have ef : ∀ f, ev (.func f) = .func (.func f) #[] #[] := fun f => (hev _).trans rfl
              clear hev hD
              go_simp
              exact hK _ _ rfl hG
            apply gh_det (n := 9)
            · intro fl xs w ev hG hD hl hdone hev K hK
              have e1 := (hev (.tmp 1)).trans (kx1.out xs)
              rw [if_pos (wantedX_none rfl)]
              have ef : ∀ f, ev (.func f) = .func (.func f) #[] #[] := fun f => (hev _).trans rfl
              clear hev hD
              go_simp
              exact hK _ _ rfl hG
            apply gh_det (n := 10)
            · intro fl xs w ev hG hD hl hdone hev K hK
              have e149 := (hev (.tmp 149)).trans (kx149.out xs)
              have d8 := hD.at_ 8 rfl rfl
              replace e149 := e149.trans d8
              have e150 := (hev (.tmp 150)).trans (kx150.out xs)
              have d9 := hD.at_ 9 rfl rfl
              replace e150 := e150.trans d9
              rw [if_pos (wantedX_none rfl)]
              have ef : ∀ f, ev (.func f) = .func (.func f) #[] #[] := fun f => (hev _).trans rfl
              clear hev hD
              go_simp
              exact hK _ _ rfl hG
            refine gh_any (n := 11) (fun _ => True) ?_ ?_
            · intro fl xs w ev hG hD hl hdone hev K hK
              have e148 := (hev (.tmp 148)).trans (kx148.out xs)
              have e151 := (hev (.tmp 151)).trans (kx151.out xs)
              have d10 := hD.at_ 10 rfl rfl
              replace e151 := e151.trans d10
              rw [if_pos (wantedX_none rfl)]
              have ef : ∀ f, ev (.func f) = .func (.func f) #[] #[] := fun f => (hev _).trans rfl
              clear hev hD
              have own := hG.2.2.2.2.2.1 (done_of hdone 7 rfl) hl
              obtain ⟨v2, w2, hrun, own2, hg2, _⟩ := own_append (enc := tripE) Try.underlying31 infoATri rfl (by decide) tripE_len tripE_one c own (hrb.out.below hG.1) (by have := hla.out; have := hlb.out; simp only [List.length_append] at *; omega) (by decide) hG.1.size
              have hbx : Below w5.heap.size w w2 := (Below.refl _ w).grown hg2 hG.1.size (fun g hg => (own.lt g hg).1)
              refine outcome_append (.tmp 148) (.tmp 151) 31 rfl e148 e151 hrun ?_
              exact hK _ _ trivial (hG.s11 (done_of hdone 7 rfl) hl (by rw [List.length_append (bs := l.take k), hlb.out]; exact own2) hbx)
            refine gh_any (n := 12) (fun _ => True) ?_ ?_
            · intro fl xs w ev hG hD hl hdone hev K hK
              have e152 := (hev (.tmp 152)).trans (kx152.out xs)
              rw [if_pos (wantedX_none rfl)]
              have ef : ∀ f, ev (.func f) = .func (.func f) #[] #[] := fun f => (hev _).trans rfl
              clear hev hD
              go_simp
              exact hK _ _ trivial (hG.s12 (done_of hdone 11 rfl))
            intro xs w6 hG hI
            clear hI hh hd
            obtain ⟨g1, _, _, g4, _, _, g7⟩ := hG
            have own := g7 rfl
            have e12 := (g4 rfl).2
            obtain ⟨A7, c7, e7, r7, s7, t7⟩ := Rd.of_own tripE_len rfl own
            rw [e7] at e12
            simp only [List.append_eq, List.cons_append, List.nil_append, setAll, List.setIfInBounds_toArray, List.set_cons_zero, List.set_cons_succ]
            rw [e12]
            have ht7 : ((l.drop k ++ l.take k) ++ l.take k).length ≤ 200 := by rw [List.length_append, List.length_append, hla.out, hlb.out]; omega
            obtain ⟨T, hT⟩ : ∃ q, (l.drop k ++ l.take k) ++ l.take k = q := ⟨_, rfl⟩
            have hT3 : Hid (L3 T = L3 l) := by show _ = _; rw [← hT, L3_turned]
            rw [hT] at r7 s7 ht7 ⊢
            clear own e12 e7 g4 g7 hT
            have hbk6 := hbk5.trans (g1.mono hbk5.size)
            have hb6 := hb5.trans (g1.mono hb5.size)
            go_wp2_with fail
            refine (Least3_any A7 T.length c7 T _ r7 (by omega)).mono ?_; rintro e w7 ⟨A8, c8, rfl, r8, s8, t8, hb7⟩
            rw [hT3.out, hm'.out] at r8 s8
            rw [hT3.out, hm'.out]
            have hbk7 := hbk6.trans (hb7.mono hbk6.size)
            have hb7 := hb6.trans (hb7.mono hb6.size)
            go_wp2_with fail
            refine (sameT_any A8 m c8 (L3 l) A3 m c3 (L3 l) _ r8 (r3.below hbk7) (by omega) (by omega)).mono ?_; rintro e w8 ⟨rfl, hb8⟩
            rw [decide_eq_true (rfl : L3 l = L3 l)]
            have hbk8 := hbk7.trans (hb8.mono hbk7.size)
            have hb8 := hb7.trans (hb8.mono hb7.size)
            go_wp2_with fail
            refine (Good3_any A3 m c3 (L3 l) _ (r3.below hbk8) (by omega)).mono ?_; rintro e w9 ⟨rfl, hb9⟩
            rw [decide_eq_true (L3_self l)]
            go_wp2_with fail
            go_returns
            exact ⟨rfl, hb8.trans (hb9.mono hb8.size)⟩
end Go.Proofs.Ytlkephcmbfanhaa
