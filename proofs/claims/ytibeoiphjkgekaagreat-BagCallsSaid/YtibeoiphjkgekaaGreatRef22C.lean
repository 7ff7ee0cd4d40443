/-
  Walk: the reference's LeastTriples (gen17.py).
-/
import Derived.Test.YtibeoiphjkgekaaGreatRef22B
namespace Go.Proofs.YtibeoiphjkgekaaGreat
open Go.RowKit B K Go.Shelf
set_option linter.unusedVariables false
set_option linter.unusedSimpArgs false
set_option maxHeartbeats 8000000
theorem app_trips {w : World} {v : Value} {base : Nat} {L R : List P3} {A : Option Addr} {m : Nat} (c : Nat) (own : w.ownsRow base 27 3 v L.length (L.flatMap tripE)) (hr : Rd w 3 tripE A m R) (hlen : L.length + m ≤ 1099511627776) (hB : base ≤ w.heap.size) :
    ∃ v' w1, (Builtin.append_ #[25, 25] 25 #[v, .slice A m c]).run Tryz.prog w = .ok v' w1 ∧ w1.ownsRow base 27 3 v' (L ++ R).length ((L ++ R).flatMap tripE) ∧ w.grownBy w1 v.ownBlock ∧ (v'.ownBlock = v.ownBlock ∨ v'.ownBlock = some w.heap.size) := by
  obtain ⟨v', w1, h1, h2, h3, h4⟩ := own_append (enc := tripE) Tryz.underlying25 infoATri rfl (by decide) tripE_len tripE_one c own hr hlen (by decide) hB
  refine ⟨v', w1, h1, ?_, h3, h4⟩
  rw [List.length_append, hr.len]
  exact h2
theorem run_head0 {P : Program} {t e : TypeId} {s : Nat} (ht : P.underlying t = some (.slice e)) (he : P.elem t = e) (hs : ∀ W, (sizeOf e).run P W = .ok s W) (A : Option Addr) (n c k : Nat) (hk : k ≤ c) (kl : IntKind) (W : World) :
    (Instr.slice t (.slice A n c) none (some (.int kl (k : Int))) none).run P W = .ok (.slice A k c) W := by
  have := run_head ht he hs A n c k hk kl W
  rwa [cutA_zero] at this
set_option maxRecDepth 100000 in
theorem rLeast3_any (A : Option Addr) (n c : Nat) (l : List P3) (w0 : World) (hr : Rd w0 3 tripE A n l) (hn : n ≤ 1099511627) : Calls Tryz.prog 16 #[.slice A n c] w0 fun e w' => RetR 3 tripE w0 (L3 l) e w' := by
  have hrh := Lib.hid hr
  have hll := Lib.hid hr.len
  clear hr
  go_enter Tryz.func16, Tryz.ntmps16
  go_wp2_with fail
  go_loopw [3, 4] (fun v iv wr => ∃ (i : Nat) (A2 : Option Addr) (c2 : Nat) (out : List P3), i ≤ n ∧ iv = .int .i64 i ∧ v = .slice A2 out.length c2 ∧ Hid (Rd wr 3 tripE A2 out.length out ∧ out.length ≤ c2 ∧ c2 ≤ 9223372036854775807 ∧ out.length ≤ i ∧ LI l i out ∧ Below w0.heap.size w0 wr)) (fun _ i _ => n - (intOf i).toNat)
  case atStart => exact ⟨0, none, 0, [], Nat.zero_le _, rfl, rfl, ⟨rfl, fun h => absurd h (by decide)⟩, Nat.le_refl _, by decide, Nat.le_refl _, LI.zero l, Below.refl _ _⟩
  case round =>
    obtain ⟨i, A2, c2, out, hi, rfl, rfl, hH⟩ := hrel
    obtain ⟨hr2, hc2, hcm, hol, hLI, hbi⟩ := hH.out
    clear hH
    by_cases hin : i < n
    · obtain ⟨b, o, x1, x2, x3, rfl, hbs, hx, x0w, x1w, x2w⟩ := hrh.out.trip hin
      have x0 := (hbi.cell (p := ⟨b, o + i * 3, none⟩) hbs).trans x0w
      have x1c := (hbi.cell (p := ⟨b, o + i * 3 + 1, none⟩) hbs).trans x1w
      have x2c := (hbi.cell (p := ⟨b, o + i * 3 + 2, none⟩) hbs).trans x2w
      have hin2 : (i : Int) < (n : Int) := by omega
      have hxh := Lib.hid hx
      have hLIh := Lib.hid hLI
      have hr2h := Lib.hid hr2
      have hbih := Lib.hid hbi
      have hC0 := Lib.hid (rChk3_any x1 x2 x3 wr)
      have hSl : out.length + 1 ≤ 1099511627 := by omega
      obtain ⟨q, hq⟩ : ∃ q, chkB (may3 (x1, x2, x3)) = q := ⟨_, rfl⟩
      have e0 : Hid ((q == 0) = goodF l i (x1, x2, x3) 0) := by
        show _ = _
        rw [goodF_zero, ← hq]
        cases may3 (x1, x2, x3) <;> rfl
      rw [hq] at hC0
      clear hq hx hLI hr2 hbi
      go_wp2_with fail
      refine hC0.out.mono ?_; rintro e wi ⟨rfl, hbC⟩
      have hr2 := Lib.hid (hr2h.out.below hbC)
      have hbwi := Lib.hid (hbih.out.trans (hbC.mono hbih.out.size))
      have hLI := Lib.hid hLIh.out
      clear hC0 hr2h hbih hbC x0 x1c x2c hLIh
      go_wp2_with fail
      go_loopw [5, 6] (fun g kv wr => ∃ (k : Nat), k ≤ n ∧ kv = .int .i64 k ∧ g = .bool (goodF l i (x1, x2, x3) k) ∧ Hid (Below wi.heap.size wi wr)) (fun _ k _ => n - (intOf k).toNat)
      case atStart => exact ⟨0, Nat.zero_le _, rfl, by rw [e0.out], Below.refl _ _⟩
      case round =>
        obtain ⟨k, hk, rfl, rfl, hbk⟩ := hrel
        have hb0 := hbwi.out.trans (hbk.out.mono hbwi.out.size)
        have x0 := (hb0.cell (p := ⟨b, o + i * 3, none⟩) hbs).trans x0w
        have x1c := (hb0.cell (p := ⟨b, o + i * 3 + 1, none⟩) hbs).trans x1w
        have x2c := (hb0.cell (p := ⟨b, o + i * 3 + 2, none⟩) hbs).trans x2w
        have zb := Nat.lt_of_lt_of_le hbs hb0.size
        by_cases hkn : k < n
        · obtain ⟨b', o', y1, y2, y3, eA, _, hy, y0w, y1w, y2w⟩ := hrh.out.trip hkn
          cases eA
          have y0 := (hb0.cell (p := ⟨b, o + k * 3, none⟩) hbs).trans y0w
          have y1c := (hb0.cell (p := ⟨b, o + k * 3 + 1, none⟩) hbs).trans y1w
          have y2c := (hb0.cell (p := ⟨b, o + k * 3 + 2, none⟩) hbs).trans y2w
          have hkn2 : (k : Int) < (n : Int) := by omega
          have hst := goodF_step (i := i) (x := (x1, x2, x3)) hy
          have hc0 : condG i (x1, x2, x3) k (y1, y2, y3) = (!may3 (y1, y2, y3) || (!beats3 (y1, y2, y3) (x1, x2, x3) && (decide (i ≤ k) || decide ((y1, y2, y3) ≠ (x1, x2, x3))))) := rfl
          rw [hc0] at hst
          obtain ⟨qy, hqy⟩ : ∃ q, chkB (may3 (y1, y2, y3)) = q := ⟨_, rfl⟩
          obtain ⟨my, hmy⟩ : ∃ q, may3 (y1, y2, y3) = q := ⟨_, rfl⟩
          obtain ⟨bb, hbb⟩ : ∃ q, beats3 (y1, y2, y3) (x1, x2, x3) = q := ⟨_, rfl⟩
          obtain ⟨gv, hgv⟩ : ∃ q, goodF l i (x1, x2, x3) k = q := ⟨_, rfl⟩
          have hCy : Hid (∀ W, Calls Tryz.prog 24 #[.agg #[.int .i64 y1, .int .i64 y2, .int .i64 y3]] W fun e w' => e = .returned (.int .i64 qy) ∧ Below W.heap.size W w') := fun W => by rw [← hqy]; exact rChk3_any y1 y2 y3 W
          have hBy : Hid (∀ W, Calls Tryz.prog 20 #[.agg #[.int .i64 y1, .int .i64 y2, .int .i64 y3], .agg #[.int .i64 x1, .int .i64 x2, .int .i64 x3]] W fun e w' => e = .returned (.bool bb) ∧ Below W.heap.size W w') := fun W => by rw [← hbb]; exact rBt3_any y1 y2 y3 x1 x2 x3 W
          rw [hgv, hmy, hbb] at hst
          rw [hmy] at hqy
          rw [hgv]
          clear hc0 hmy hbb hgv hb0 y0w y1w y2w hy
          cases gv with
          | false =>
            have hnx : Hid (goodF l i (x1, x2, x3) (k + 1) = false) := by show _ = _; rw [hst]; rfl
            clear hst hqy
            go_wp2_with fail
            go_upto_region 9 with fail
            refine wp_region_below wr.heap.size (by kernel_rfl) (by kernel_rfl) ?_
            intro C hC
            repeat (go_big_quiet_step (first
              | ((intro _; with_reducible rfl))
              | (intro hc; have m0 := (hc.cell (p := ⟨b, o + k * 3, none⟩) zb).trans y0; have m1 := (hc.cell (p := ⟨b, o + k * 3 + 1, none⟩) zb).trans y1c; have m2 := (hc.cell (p := ⟨b, o + k * 3 + 2, none⟩) zb).trans y2c; have m3 := (hc.cell (p := ⟨b, o + i * 3, none⟩) zb).trans x0; have m4 := (hc.cell (p := ⟨b, o + i * 3 + 1, none⟩) zb).trans x1c; have m5 := (hc.cell (p := ⟨b, o + i * 3 + 2, none⟩) zb).trans x2c; simp only [m0, m1, m2, m3, m4, m5, Result.andThen]; exact ⟨trivial, rfl⟩)
              | (intro hc; refine (hCy.out _).mono ?_; rintro e w' ⟨rfl, hb⟩; exact ⟨rfl, hc.trans (hb.mono hc.size)⟩)
              | (intro hc; refine (hBy.out _).mono ?_; rintro e w' ⟨rfl, hb⟩; exact ⟨rfl, hc.trans (hb.mono hc.size)⟩)))
            refine wpQuiet_nil ?_
            intro w9 hb9
            clear hC
            have hfin := Lib.hid (hbk.out.trans (hb9.mono hbk.out.size))
            clear hb9
            go_wp2_with fail
            go_roundw
            case rel => exact ⟨k + 1, by omega, by go_num, by rw [hnx.out], hfin.out⟩
            case measure => simp [intOf]; omega
          | true =>
            cases my with
            | false =>
              obtain rfl : qy = 2 := hqy.symm
              have hnx : Hid (goodF l i (x1, x2, x3) (k + 1) = true) := by show _ = _; rw [hst]; rfl
              clear hst hqy
              go_wp2_with fail
              go_upto_region 9 with fail
              refine wp_region_below wr.heap.size (by kernel_rfl) (by kernel_rfl) ?_
              intro C hC
              repeat (go_big_quiet_step (first
                | ((intro _; with_reducible rfl))
                | (intro hc; have m0 := (hc.cell (p := ⟨b, o + k * 3, none⟩) zb).trans y0; have m1 := (hc.cell (p := ⟨b, o + k * 3 + 1, none⟩) zb).trans y1c; have m2 := (hc.cell (p := ⟨b, o + k * 3 + 2, none⟩) zb).trans y2c; have m3 := (hc.cell (p := ⟨b, o + i * 3, none⟩) zb).trans x0; have m4 := (hc.cell (p := ⟨b, o + i * 3 + 1, none⟩) zb).trans x1c; have m5 := (hc.cell (p := ⟨b, o + i * 3 + 2, none⟩) zb).trans x2c; simp only [m0, m1, m2, m3, m4, m5, Result.andThen]; exact ⟨trivial, rfl⟩)
                | (intro hc; refine (hCy.out _).mono ?_; rintro e w' ⟨rfl, hb⟩; exact ⟨rfl, hc.trans (hb.mono hc.size)⟩)
                | (intro hc; refine (hBy.out _).mono ?_; rintro e w' ⟨rfl, hb⟩; exact ⟨rfl, hc.trans (hb.mono hc.size)⟩)))
              refine wpQuiet_nil ?_
              intro w9 hb9
              clear hC
              have hfin := Lib.hid (hbk.out.trans (hb9.mono hbk.out.size))
              clear hb9
              go_wp2_with fail
              go_roundw
              case rel => exact ⟨k + 1, by omega, by go_num, by rw [hnx.out], hfin.out⟩
              case measure => simp [intOf]; omega
            | true =>
              obtain rfl : qy = 0 := hqy.symm
              clear hqy
              cases bb with
              | true =>
                have hnx : Hid (goodF l i (x1, x2, x3) (k + 1) = false) := by show _ = _; rw [hst]; rfl
                clear hst
                go_wp2_with fail
                go_upto_region 9 with fail
                refine wp_region_below wr.heap.size (by kernel_rfl) (by kernel_rfl) ?_
                intro C hC
                repeat (go_big_quiet_step (first
                  | ((intro _; with_reducible rfl))
                  | (intro hc; have m0 := (hc.cell (p := ⟨b, o + k * 3, none⟩) zb).trans y0; have m1 := (hc.cell (p := ⟨b, o + k * 3 + 1, none⟩) zb).trans y1c; have m2 := (hc.cell (p := ⟨b, o + k * 3 + 2, none⟩) zb).trans y2c; have m3 := (hc.cell (p := ⟨b, o + i * 3, none⟩) zb).trans x0; have m4 := (hc.cell (p := ⟨b, o + i * 3 + 1, none⟩) zb).trans x1c; have m5 := (hc.cell (p := ⟨b, o + i * 3 + 2, none⟩) zb).trans x2c; simp only [m0, m1, m2, m3, m4, m5, Result.andThen]; exact ⟨trivial, rfl⟩)
                  | (intro hc; refine (hCy.out _).mono ?_; rintro e w' ⟨rfl, hb⟩; exact ⟨rfl, hc.trans (hb.mono hc.size)⟩)
                  | (intro hc; refine (hBy.out _).mono ?_; rintro e w' ⟨rfl, hb⟩; exact ⟨rfl, hc.trans (hb.mono hc.size)⟩)))
                refine wpQuiet_nil ?_
                intro w9 hb9
                clear hC
                have hfin := Lib.hid (hbk.out.trans (hb9.mono hbk.out.size))
                clear hb9
                go_wp2_with fail
                go_roundw
                case rel => exact ⟨k + 1, by omega, by go_num, by rw [hnx.out], hfin.out⟩
                case measure => simp [intOf]; omega
              | false =>
                by_cases hik : i ≤ k
                · have d1 : decide ((i : Int) ≤ (k : Int)) = true := decide_eq_true (by omega)
                  have d1n : decide (i ≤ k) = true := decide_eq_true hik
                  have hnx : Hid (goodF l i (x1, x2, x3) (k + 1) = true) := by show _ = _; rw [hst, d1n]; rfl
                  clear hst
                  go_wp2_with fail
                  go_upto_region 9 with fail
                  refine wp_region_below wr.heap.size (by kernel_rfl) (by kernel_rfl) ?_
                  intro C hC
                  repeat (go_big_quiet_step (first
                    | ((intro _; with_reducible rfl))
                    | (intro hc; have m0 := (hc.cell (p := ⟨b, o + k * 3, none⟩) zb).trans y0; have m1 := (hc.cell (p := ⟨b, o + k * 3 + 1, none⟩) zb).trans y1c; have m2 := (hc.cell (p := ⟨b, o + k * 3 + 2, none⟩) zb).trans y2c; have m3 := (hc.cell (p := ⟨b, o + i * 3, none⟩) zb).trans x0; have m4 := (hc.cell (p := ⟨b, o + i * 3 + 1, none⟩) zb).trans x1c; have m5 := (hc.cell (p := ⟨b, o + i * 3 + 2, none⟩) zb).trans x2c; simp only [m0, m1, m2, m3, m4, m5, Result.andThen]; exact ⟨trivial, rfl⟩)
                    | (intro hc; refine (hCy.out _).mono ?_; rintro e w' ⟨rfl, hb⟩; exact ⟨rfl, hc.trans (hb.mono hc.size)⟩)
                    | (intro hc; refine (hBy.out _).mono ?_; rintro e w' ⟨rfl, hb⟩; exact ⟨rfl, hc.trans (hb.mono hc.size)⟩)))
                  refine wpQuiet_nil ?_
                  intro w9 hb9
                  clear hC
                  have hfin := Lib.hid (hbk.out.trans (hb9.mono hbk.out.size))
                  clear hb9
                  go_wp2_with fail
                  go_roundw
                  case rel => exact ⟨k + 1, by omega, by go_num, by rw [hnx.out], hfin.out⟩
                  case measure => simp [intOf]; omega
                · have d1 : decide ((i : Int) ≤ (k : Int)) = false := decide_eq_false (by omega)
                  have d1n : decide (i ≤ k) = false := decide_eq_false hik
                  by_cases f1 : y1 = x1
                  rotate_left
                  · have f1b : (y1 == x1) = false := by simpa using f1
                    have hnx : Hid (goodF l i (x1, x2, x3) (k + 1) = true) := by show _ = _; rw [hst, d1n, decide_eq_true (show (y1, y2, y3) ≠ (x1, x2, x3) from fun e => f1 (congrArg Prod.fst e))]; rfl
                    clear hst
                    go_wp2_with fail
                    go_upto_region 9 with fail
                    refine wp_region_below wr.heap.size (by kernel_rfl) (by kernel_rfl) ?_
                    intro C hC
                    repeat (go_big_quiet_step (first
                      | ((intro _; with_reducible rfl))
                      | (intro hc; have m0 := (hc.cell (p := ⟨b, o + k * 3, none⟩) zb).trans y0; have m1 := (hc.cell (p := ⟨b, o + k * 3 + 1, none⟩) zb).trans y1c; have m2 := (hc.cell (p := ⟨b, o + k * 3 + 2, none⟩) zb).trans y2c; have m3 := (hc.cell (p := ⟨b, o + i * 3, none⟩) zb).trans x0; have m4 := (hc.cell (p := ⟨b, o + i * 3 + 1, none⟩) zb).trans x1c; have m5 := (hc.cell (p := ⟨b, o + i * 3 + 2, none⟩) zb).trans x2c; simp only [m0, m1, m2, m3, m4, m5, Result.andThen]; exact ⟨trivial, rfl⟩)
                      | (intro hc; refine (hCy.out _).mono ?_; rintro e w' ⟨rfl, hb⟩; exact ⟨rfl, hc.trans (hb.mono hc.size)⟩)
                      | (intro hc; refine (hBy.out _).mono ?_; rintro e w' ⟨rfl, hb⟩; exact ⟨rfl, hc.trans (hb.mono hc.size)⟩)))
                    refine wpQuiet_nil ?_
                    intro w9 hb9
                    clear hC
                    have hfin := Lib.hid (hbk.out.trans (hb9.mono hbk.out.size))
                    clear hb9
                    go_wp2_with fail
                    go_roundw
                    case rel => exact ⟨k + 1, by omega, by go_num, by rw [hnx.out], hfin.out⟩
                    case measure => simp [intOf]; omega
                  subst f1
                  by_cases f2 : y2 = x2
                  rotate_left
                  · have f2b : (y2 == x2) = false := by simpa using f2
                    have hnx : Hid (goodF l i (y1, x2, x3) (k + 1) = true) := by show _ = _; rw [hst, d1n, decide_eq_true (show (y1, y2, y3) ≠ (y1, x2, x3) from fun e => f2 (congrArg (fun p => p.2.1) e))]; rfl
                    clear hst
                    go_wp2_with fail
                    go_upto_region 9 with fail
                    refine wp_region_below wr.heap.size (by kernel_rfl) (by kernel_rfl) ?_
                    intro C hC
                    repeat (go_big_quiet_step (first
                      | ((intro _; with_reducible rfl))
                      | (intro hc; have m0 := (hc.cell (p := ⟨b, o + k * 3, none⟩) zb).trans y0; have m1 := (hc.cell (p := ⟨b, o + k * 3 + 1, none⟩) zb).trans y1c; have m2 := (hc.cell (p := ⟨b, o + k * 3 + 2, none⟩) zb).trans y2c; have m3 := (hc.cell (p := ⟨b, o + i * 3, none⟩) zb).trans x0; have m4 := (hc.cell (p := ⟨b, o + i * 3 + 1, none⟩) zb).trans x1c; have m5 := (hc.cell (p := ⟨b, o + i * 3 + 2, none⟩) zb).trans x2c; simp only [m0, m1, m2, m3, m4, m5, Result.andThen]; exact ⟨trivial, rfl⟩)
                      | (intro hc; refine (hCy.out _).mono ?_; rintro e w' ⟨rfl, hb⟩; exact ⟨rfl, hc.trans (hb.mono hc.size)⟩)
                      | (intro hc; refine (hBy.out _).mono ?_; rintro e w' ⟨rfl, hb⟩; exact ⟨rfl, hc.trans (hb.mono hc.size)⟩)))
                    refine wpQuiet_nil ?_
                    intro w9 hb9
                    clear hC
                    have hfin := Lib.hid (hbk.out.trans (hb9.mono hbk.out.size))
                    clear hb9
                    go_wp2_with fail
                    go_roundw
                    case rel => exact ⟨k + 1, by omega, by go_num, by rw [hnx.out], hfin.out⟩
                    case measure => simp [intOf]; omega
                  subst f2
                  by_cases f3 : y3 = x3
                  rotate_left
                  · have f3b : (y3 == x3) = false := by simpa using f3
                    have hnx : Hid (goodF l i (y1, y2, x3) (k + 1) = true) := by show _ = _; rw [hst, d1n, decide_eq_true (show (y1, y2, y3) ≠ (y1, y2, x3) from fun e => f3 (congrArg (fun p => p.2.2) e))]; rfl
                    clear hst
                    go_wp2_with fail
                    go_upto_region 9 with fail
                    refine wp_region_below wr.heap.size (by kernel_rfl) (by kernel_rfl) ?_
                    intro C hC
                    repeat (go_big_quiet_step (first
                      | ((intro _; with_reducible rfl))
                      | (intro hc; have m0 := (hc.cell (p := ⟨b, o + k * 3, none⟩) zb).trans y0; have m1 := (hc.cell (p := ⟨b, o + k * 3 + 1, none⟩) zb).trans y1c; have m2 := (hc.cell (p := ⟨b, o + k * 3 + 2, none⟩) zb).trans y2c; have m3 := (hc.cell (p := ⟨b, o + i * 3, none⟩) zb).trans x0; have m4 := (hc.cell (p := ⟨b, o + i * 3 + 1, none⟩) zb).trans x1c; have m5 := (hc.cell (p := ⟨b, o + i * 3 + 2, none⟩) zb).trans x2c; simp only [m0, m1, m2, m3, m4, m5, Result.andThen]; exact ⟨trivial, rfl⟩)
                      | (intro hc; refine (hCy.out _).mono ?_; rintro e w' ⟨rfl, hb⟩; exact ⟨rfl, hc.trans (hb.mono hc.size)⟩)
                      | (intro hc; refine (hBy.out _).mono ?_; rintro e w' ⟨rfl, hb⟩; exact ⟨rfl, hc.trans (hb.mono hc.size)⟩)))
                    refine wpQuiet_nil ?_
                    intro w9 hb9
                    clear hC
                    have hfin := Lib.hid (hbk.out.trans (hb9.mono hbk.out.size))
                    clear hb9
                    go_wp2_with fail
                    go_roundw
                    case rel => exact ⟨k + 1, by omega, by go_num, by rw [hnx.out], hfin.out⟩
                    case measure => simp [intOf]; omega
                  subst f3
                  have hnx : Hid (goodF l i (y1, y2, y3) (k + 1) = false) := by show _ = _; rw [hst, d1n, decide_eq_false (fun h => h rfl)]; rfl
                  clear hst
                  go_wp2_with fail
                  go_upto_region 9 with fail
                  refine wp_region_below wr.heap.size (by kernel_rfl) (by kernel_rfl) ?_
                  intro C hC
                  repeat (go_big_quiet_step (first
                    | ((intro _; with_reducible rfl))
                    | (intro hc; have m0 := (hc.cell (p := ⟨b, o + k * 3, none⟩) zb).trans y0; have m1 := (hc.cell (p := ⟨b, o + k * 3 + 1, none⟩) zb).trans y1c; have m2 := (hc.cell (p := ⟨b, o + k * 3 + 2, none⟩) zb).trans y2c; have m3 := (hc.cell (p := ⟨b, o + i * 3, none⟩) zb).trans x0; have m4 := (hc.cell (p := ⟨b, o + i * 3 + 1, none⟩) zb).trans x1c; have m5 := (hc.cell (p := ⟨b, o + i * 3 + 2, none⟩) zb).trans x2c; simp only [m0, m1, m2, m3, m4, m5, Result.andThen]; exact ⟨trivial, rfl⟩)
                    | (intro hc; refine (hCy.out _).mono ?_; rintro e w' ⟨rfl, hb⟩; exact ⟨rfl, hc.trans (hb.mono hc.size)⟩)
                    | (intro hc; refine (hBy.out _).mono ?_; rintro e w' ⟨rfl, hb⟩; exact ⟨rfl, hc.trans (hb.mono hc.size)⟩)))
                  refine wpQuiet_nil ?_
                  intro w9 hb9
                  clear hC
                  have hfin := Lib.hid (hbk.out.trans (hb9.mono hbk.out.size))
                  clear hb9
                  go_wp2_with fail
                  go_roundw
                  case rel => exact ⟨k + 1, by omega, by go_num, by rw [hnx.out], hfin.out⟩
                  case measure => simp [intOf]; omega
        · obtain rfl : k = n := by omega
          have hkn2 : decide ((k : Int) < (k : Int)) = false := decide_eq_false (by omega)
          obtain ⟨gv, hgv⟩ : ∃ q, goodF l i (x1, x2, x3) k = q := ⟨_, rfl⟩
          have hgood : Hid (goodF l i (x1, x2, x3) l.length = gv) := by show _ = _; rw [hll.out, hgv]
          rw [hgv]
          have hr2k := Lib.hid (hr2.out.below hbk.out)
          have hb0h := Lib.hid hb0
          clear hgv hb0
          cases gv with
          | false =>
            have hnx := Lib.hid (hLI.out.skip hxh.out hgood.out)
            go_wp2_with fail
            go_roundw
            case rel => exact ⟨i + 1, A2, c2, out, by omega, by go_num, rfl, hr2k.out, hc2, hcm, by omega, hnx.out, hb0h.out⟩
            case measure => simp [intOf]; omega
          | true =>
            clear hr2
            obtain ⟨wj, hwj⟩ : ∃ q, wr = q := ⟨_, rfl⟩
            rw [hwj] at hr2k hb0h ⊢
            clear hwj x0 x1c x2c zb hbk
            have hr2 := hr2k
            have hbwj := hb0h
            clear hr2k hb0h
            go_wp2_with fail
            go_loopw [7] (fun jv wr => ∃ (j : Nat), j ≤ out.length ∧ jv = .int .i64 j ∧ Hid (Below wj.heap.size wj wr ∧ ∀ y ∈ out.drop j, gt3 y (x1, x2, x3) = true)) (fun j _ => (intOf j).toNat)
            case atStart => exact ⟨out.length, Nat.le_refl _, rfl, Below.refl _ _, fun y hy => by simp at hy⟩
            case round =>
              obtain ⟨j, hj, rfl, hJ⟩ := hrel
              obtain ⟨hbj0, hdr0⟩ := hJ.out
              have hbj := Lib.hid hbj0
              have hdr := Lib.hid hdr0
              have hb0 := hbwj.out.trans (hbj0.mono hbwj.out.size)
              have x0 := (hb0.cell (p := ⟨b, o + i * 3, none⟩) hbs).trans x0w
              have x2c := (hb0.cell (p := ⟨b, o + i * 3 + 2, none⟩) hbs).trans x2w
              have zb := Nat.lt_of_lt_of_le hbs hb0.size
              clear hJ hbj0 hdr0 hb0
              by_cases hj0 : j = 0
              · have g0 : decide ((0 : Int) < (j : Int)) = false := decide_eq_false (by omega)
                have g0n : decide (0 < j) = false := decide_eq_false (by omega)
                have hex : Hid (j = 0 ∨ ∃ y, out[j - 1]? = some y ∧ gt3 y (x1, x2, x3) = false) := .inl hj0
                clear hj0
                go_wp2_with fail
                go_upto_region 12 with fail
                refine wp_region_below wr.heap.size (by kernel_rfl) (by kernel_rfl) ?_
                intro C hC
                repeat (go_big_quiet_step (first
                  | ((intro _; with_reducible rfl))
                  | (intro hc; have m0 := (hc.cell (p := ⟨b, o + i * 3, none⟩) zb).trans x0; have m1 := (hc.cell (p := ⟨b, o + i * 3 + 2, none⟩) zb).trans x2c; simp only [m0, m1, Result.andThen]; exact ⟨trivial, rfl⟩)))
                refine wpQuiet_nil ?_
                intro w9 hb9
                clear hC
                have hbw := Lib.hid (hbj.out.trans (hb9.mono hbj.out.size))
                clear hb9
                obtain ⟨W3, hW3⟩ : ∃ q, w9 = q := ⟨_, rfl⟩
                rw [hW3] at hbw ⊢
                clear hW3
                have hb03 := hbwj.out.trans (hbw.out.mono hbwj.out.size)
                have x03 := (hb03.cell (p := ⟨b, o + i * 3, none⟩) hbs).trans x0w
                have x13 := (hb03.cell (p := ⟨b, o + i * 3 + 1, none⟩) hbs).trans x1w
                have x23 := (hb03.cell (p := ⟨b, o + i * 3 + 2, none⟩) hbs).trans x2w
                have zb3 := Nat.lt_of_lt_of_le hbs hb03.size
                have r3 := hr2.out.below hbw.out
                have rA := Lib.hid (r3.take (k := j) hj)
                have rB := Lib.hid (r3.drop (k := j) hj hc2)
                have hb03h := Lib.hid hb03
                have hh := fun W => run_head0 (P := Tryz.prog) (t := 25) (e := 27) (s := 3) Tryz.underlying25 (by kernel_rfl) (fun W => by simp [go_sem]) A2 out.length c2 j (by omega) .i64 W
                have hd := fun W => run_cut (P := Tryz.prog) (t := 25) (e := 27) (s := 3) Tryz.underlying25 (by kernel_rfl) (fun W => by simp [go_sem]) A2 out.length c2 j hj .i64 W
                clear r3 hb03
                go_wp2_with fail
                go_upto_region 14 with fail
                refine wp_region_ghost2 (fun fl x w => GT3 tripE 27 3 W3 (.slice A2 out.length c2) (out.take j) (out.take j ++ [(x1, x2, x3)]) (out.take j ++ [(x1, x2, x3)] ++ out.drop j) (x1, x2, x3) (fl 0) (fl 4) (fl 10) (fl 14) (fl 15) (fl 9) (fl 3) (fl 13) (x 0) (x 4) (x 10) (x 14) (x 9) (x 15) w ∧ (fl 3 = true → fl 1 = true) ∧ (fl 13 = true → fl 11 = true)) (by kernel_rfl) (by kernel_rfl) (by kernel_rfl) (by kernel_rfl) (by kernel_rfl) ?_ ?_
                · intro x0 hx0
                  exact ⟨GT3.start rfl rfl rfl rfl rfl rfl (hx0 15 3 rfl), (fun h => by cases h), fun h => by cases h⟩
                intro base O hbase hO
                have kx0 : Hid (∀ xs, evX base O xs (.tmp 0) = .slice (some ⟨b, o, none⟩) k c) := fun xs => by rw [hbase, hO]; rfl
                have kx3 : Hid (∀ xs, evX base O xs (.tmp 3) = xs 15) := fun xs => by rw [hO]; rfl
                have kx4 : Hid (∀ xs, evX base O xs (.tmp 4) = .int .i64 (i : Int)) := fun xs => by rw [hbase, hO]; rfl
                have kx7 : Hid (∀ xs, evX base O xs (.tmp 7) = .int .i64 (j : Int)) := fun xs => by rw [hbase, hO]; rfl
                have kx113 : Hid (∀ xs, evX base O xs (.tmp 113) = xs 0) := fun xs => by rw [hO]; rfl
                have kx114 : Hid (∀ xs, evX base O xs (.tmp 114) = xs 1) := fun xs => by rw [hO]; rfl
                have kx115 : Hid (∀ xs, evX base O xs (.tmp 115) = xs 2) := fun xs => by rw [hO]; rfl
                have kx116 : Hid (∀ xs, evX base O xs (.tmp 116) = xs 3) := fun xs => by rw [hO]; rfl
                have kx117 : Hid (∀ xs, evX base O xs (.tmp 117) = xs 4) := fun xs => by rw [hO]; rfl
                have kx118 : Hid (∀ xs, evX base O xs (.tmp 118) = xs 5) := fun xs => by rw [hO]; rfl
                have kx119 : Hid (∀ xs, evX base O xs (.tmp 119) = xs 6) := fun xs => by rw [hO]; rfl
                have kx120 : Hid (∀ xs, evX base O xs (.tmp 120) = xs 7) := fun xs => by rw [hO]; rfl
                have kx121 : Hid (∀ xs, evX base O xs (.tmp 121) = xs 8) := fun xs => by rw [hO]; rfl
                have kx122 : Hid (∀ xs, evX base O xs (.tmp 122) = xs 9) := fun xs => by rw [hO]; rfl
                have kx123 : Hid (∀ xs, evX base O xs (.tmp 123) = xs 10) := fun xs => by rw [hO]; rfl
                have kx124 : Hid (∀ xs, evX base O xs (.tmp 124) = xs 11) := fun xs => by rw [hO]; rfl
                have kx125 : Hid (∀ xs, evX base O xs (.tmp 125) = xs 12) := fun xs => by rw [hO]; rfl
                have kx126 : Hid (∀ xs, evX base O xs (.tmp 126) = xs 13) := fun xs => by rw [hO]; rfl
                have kx127 : Hid (∀ xs, evX base O xs (.tmp 127) = xs 14) := fun xs => by rw [hO]; rfl
                clear hbase hO
                refine gh_any (n := 0) (fun _ => True) ?_ ?_
                · intro fl xs w ev hG hD hl hdone hev K hK
                  rw [if_pos (wantedX_none rfl)]
                  have ef : ∀ f, ev (.func f) = .func (.func f) #[] #[] := fun f => (hev _).trans rfl
                  clear hev hD
                  go_simp
                  exact hK _ _ trivial ⟨hG.1.l0S hl, hG.2⟩
                apply gh_det (n := 1)
                · intro fl xs w ev hG hD hl hdone hev K hK
                  have e3 := (hev (.tmp 3)).trans (kx3.out xs)
                  rw [if_pos (wantedX_none rfl)]
                  have ef : ∀ f, ev (.func f) = .func (.func f) #[] #[] := fun f => (hev _).trans rfl
                  clear hev hD
                  have ev0 := hG.1.r1R (bne2 hG.2.1 hl)
                  rw [ev0] at e3
                  go_simp
                  exact hK _ _ rfl ⟨hG.1, fun _ => rfl, hG.2.2⟩
                apply gh_det (n := 2)
                · intro fl xs w ev hG hD hl hdone hev K hK
                  have e7 := (hev (.tmp 7)).trans (kx7.out xs)
                  rw [if_pos (wantedX_none rfl)]
                  have ef : ∀ f, ev (.func f) = .func (.func f) #[] #[] := fun f => (hev _).trans rfl
                  clear hev hD
                  go_simp
                  exact hK _ _ rfl hG
                apply gh_det (n := 3)
                · intro fl xs w ev hG hD hl hdone hev K hK
                  have e114 := (hev (.tmp 114)).trans (kx114.out xs)
                  have d1 := hD.at_ 1 rfl rfl
                  replace e114 := e114.trans d1
                  have e115 := (hev (.tmp 115)).trans (kx115.out xs)
                  have d2 := hD.at_ 2 rfl rfl
                  replace e115 := e115.trans d2
                  rw [if_pos (wantedX_none rfl)]
                  have ef : ∀ f, ev (.func f) = .func (.func f) #[] #[] := fun f => (hev _).trans rfl
                  clear hev hD
                  go_simp
                  exact hK _ _ rfl ⟨hG.1.r1S, fun _ => done_of hdone 1 rfl, hG.2.2⟩
                refine gh_any (n := 4) (fun _ => True) ?_ ?_
                · intro fl xs w ev hG hD hl hdone hev K hK
                  have e113 := (hev (.tmp 113)).trans (kx113.out xs)
                  have e116 := (hev (.tmp 116)).trans (kx116.out xs)
                  have d3 := hD.at_ 3 rfl rfl
                  replace e116 := e116.trans d3
                  rw [if_pos (wantedX_none rfl)]
                  have ef : ∀ f, ev (.func f) = .func (.func f) #[] #[] := fun f => (hev _).trans rfl
                  clear hev hD
                  have own := hG.1.o0 (done_of hdone 0 rfl) hl
                  obtain ⟨v', w1', hrun, own1, hgr, hnew⟩ := app_trips c2 (L := []) own (rA.out.below hG.1.bel) (by simp only [List.length_append, List.length_take, List.length_drop, List.length_cons, List.length_nil]; have := hSl; omega) hG.1.bel.size
                  rw [List.nil_append] at own1
                  exact outcome_append (.tmp 113) (.tmp 116) 25 rfl e113 e116 hrun (hK _ _ trivial ⟨hG.1.a1S hl (done_of hdone 0 rfl) (done_of hdone 3 rfl) own1 hgr hnew, hG.2⟩)
                apply gh_det (n := 5)
                · intro fl xs w ev hG hD hl hdone hev K hK
                  have e0 := (hev (.tmp 0)).trans (kx0.out xs)
                  rw [if_pos (wantedX_none rfl)]
                  have ef : ∀ f, ev (.func f) = .func (.func f) #[] #[] := fun f => (hev _).trans rfl
                  clear hev hD
                  go_simp
                  exact hK _ _ rfl hG
                apply gh_det (n := 6)
                · intro fl xs w ev hG hD hl hdone hev K hK
                  have e4 := (hev (.tmp 4)).trans (kx4.out xs)
                  rw [if_pos (wantedX_none rfl)]
                  have ef : ∀ f, ev (.func f) = .func (.func f) #[] #[] := fun f => (hev _).trans rfl
                  clear hev hD
                  go_simp
                  exact hK _ _ rfl hG
                apply gh_det (n := 7)
                · intro fl xs w ev hG hD hl hdone hev K hK
                  have e118 := (hev (.tmp 118)).trans (kx118.out xs)
                  have d5 := hD.at_ 5 rfl rfl
                  replace e118 := e118.trans d5
                  have e119 := (hev (.tmp 119)).trans (kx119.out xs)
                  have d6 := hD.at_ 6 rfl rfl
                  replace e119 := e119.trans d6
                  rw [if_pos (wantedX_none rfl)]
                  have ef : ∀ f, ev (.func f) = .func (.func f) #[] #[] := fun f => (hev _).trans rfl
                  clear hev hD
                  go_simp
                  exact hK _ _ rfl hG
                apply gh_det (n := 8)
                · intro fl xs w ev hG hD hl hdone hev K hK
                  have e120 := (hev (.tmp 120)).trans (kx120.out xs)
                  have d7 := hD.at_ 7 rfl rfl
                  replace e120 := e120.trans d7
                  rw [if_pos (wantedX_none rfl)]
                  have ef : ∀ f, ev (.func f) = .func (.func f) #[] #[] := fun f => (hev _).trans rfl
                  clear hev hD
                  have m0 := (hG.1.bel.cell (p := ⟨b, o + i * 3, none⟩) zb3).trans x03
                  have m1 := (hG.1.bel.cell (p := ⟨b, o + i * 3 + 1, none⟩) zb3).trans x13
                  have m2 := (hG.1.bel.cell (p := ⟨b, o + i * 3 + 2, none⟩) zb3).trans x23
                  go_simp
                  exact hK _ _ rfl hG
                refine gh_any (n := 9) (fun _ => True) ?_ ?_
                · intro fl xs w ev hG hD hl hdone hev K hK
                  have e121 := (hev (.tmp 121)).trans (kx121.out xs)
                  have d8 := hD.at_ 8 rfl rfl
                  replace e121 := e121.trans d8
                  rw [if_pos (wantedX_none rfl)]
                  have ef : ∀ f, ev (.func f) = .func (.func f) #[] #[] := fun f => (hev _).trans rfl
                  clear hev hD
                  go_simp
                  exact hK _ _ trivial ⟨hG.1.litS hl tripE_len, hG.2⟩
                refine gh_any (n := 10) (fun _ => True) ?_ ?_
                · intro fl xs w ev hG hD hl hdone hev K hK
                  have e117 := (hev (.tmp 117)).trans (kx117.out xs)
                  have e122 := (hev (.tmp 122)).trans (kx122.out xs)
                  rw [if_pos (wantedX_none rfl)]
                  have ef : ∀ f, ev (.func f) = .func (.func f) #[] #[] := fun f => (hev _).trans rfl
                  clear hev hD
                  have own := hG.1.o1 (done_of hdone 4 rfl) hl
                  obtain ⟨g5, c5, e5, r5, _⟩ := hG.1.ol (done_of hdone 9 rfl) hl
                  rw [e5] at e122
                  obtain ⟨v', w1', hrun, own1, hgr, hnew⟩ := app_trips c5 own r5 (by simp only [List.length_append, List.length_take, List.length_drop, List.length_cons, List.length_nil]; have := hSl; omega) hG.1.bel.size
                  exact outcome_append (.tmp 117) (.tmp 122) 25 rfl e117 e122 hrun (hK _ _ trivial ⟨hG.1.a2S hl (done_of hdone 4 rfl) (done_of hdone 9 rfl) own1 hgr, hG.2⟩)
                apply gh_det (n := 11)
                · intro fl xs w ev hG hD hl hdone hev K hK
                  have e3 := (hev (.tmp 3)).trans (kx3.out xs)
                  rw [if_pos (wantedX_none rfl)]
                  have ef : ∀ f, ev (.func f) = .func (.func f) #[] #[] := fun f => (hev _).trans rfl
                  clear hev hD
                  have ev0 := hG.1.r2R (bne2 hG.2.2 hl)
                  rw [ev0] at e3
                  go_simp
                  exact hK _ _ rfl ⟨hG.1, hG.2.1, fun _ => rfl⟩
                apply gh_det (n := 12)
                · intro fl xs w ev hG hD hl hdone hev K hK
                  have e7 := (hev (.tmp 7)).trans (kx7.out xs)
                  rw [if_pos (wantedX_none rfl)]
                  have ef : ∀ f, ev (.func f) = .func (.func f) #[] #[] := fun f => (hev _).trans rfl
                  clear hev hD
                  go_simp
                  exact hK _ _ rfl hG
                apply gh_det (n := 13)
                · intro fl xs w ev hG hD hl hdone hev K hK
                  have e124 := (hev (.tmp 124)).trans (kx124.out xs)
                  have d11 := hD.at_ 11 rfl rfl
                  replace e124 := e124.trans d11
                  have e125 := (hev (.tmp 125)).trans (kx125.out xs)
                  have d12 := hD.at_ 12 rfl rfl
                  replace e125 := e125.trans d12
                  rw [if_pos (wantedX_none rfl)]
                  have ef : ∀ f, ev (.func f) = .func (.func f) #[] #[] := fun f => (hev _).trans rfl
                  clear hev hD
                  go_simp
                  exact hK _ _ rfl ⟨hG.1.r2S, hG.2.1, fun _ => done_of hdone 11 rfl⟩
                refine gh_any (n := 14) (fun _ => True) ?_ ?_
                · intro fl xs w ev hG hD hl hdone hev K hK
                  have e123 := (hev (.tmp 123)).trans (kx123.out xs)
                  have e126 := (hev (.tmp 126)).trans (kx126.out xs)
                  have d13 := hD.at_ 13 rfl rfl
                  replace e126 := e126.trans d13
                  rw [if_pos (wantedX_none rfl)]
                  have ef : ∀ f, ev (.func f) = .func (.func f) #[] #[] := fun f => (hev _).trans rfl
                  clear hev hD
                  have own := hG.1.o2 (done_of hdone 10 rfl) hl
                  obtain ⟨v', w1', hrun, own1, hgr, hnew⟩ := app_trips _ own (rB.out.below hG.1.bel) (by simp only [List.length_append, List.length_take, List.length_drop, List.length_cons, List.length_nil]; have := hSl; omega) hG.1.bel.size
                  exact outcome_append (.tmp 123) (.tmp 126) 25 rfl e123 e126 hrun (hK _ _ trivial ⟨hG.1.a3S hl (done_of hdone 10 rfl) (done_of hdone 13 rfl) own1 hgr, hG.2⟩)
                refine gh_any (n := 15) (fun _ => True) ?_ ?_
                · intro fl xs w ev hG hD hl hdone hev K hK
                  have e127 := (hev (.tmp 127)).trans (kx127.out xs)
                  rw [if_pos (wantedX_none rfl)]
                  have ef : ∀ f, ev (.func f) = .func (.func f) #[] #[] := fun f => (hev _).trans rfl
                  clear hev hD
                  have own := hG.1.o3 (done_of hdone 14 rfl)
                  obtain ⟨n7, hn7⟩ : ∃ n7, (out.take j ++ [(x1, x2, x3)] ++ out.drop j).length = n7 := ⟨_, rfl⟩
                  rw [hn7] at own
                  obtain ⟨A7, c7, e7, _⟩ := Rd.of_own (enc := tripE) tripE_len hn7 own
                  rw [e7] at e127
                  clear own hn7
                  go_simp
                  refine hK _ _ trivial ?_
                  rw [← e7]
                  exact ⟨hG.1.asS (done_of hdone 14 rfl), hG.2⟩
                clear kx0 kx3 kx4 kx7 kx113 kx114 kx115 kx116 kx117 kx118 kx119 kx120 kx121 kx122 kx123 kx124 kx125 kx126 kx127
                clear hh hd
                intro xs w9 hG hI
                have own9 := hG.1.o3 rfl
                have e9 := hG.1.sg rfl
                have hb9 := hG.1.bel
                clear hG hI
                rw [← e9] at own9
                clear e9
                simp only [List.append_eq, List.cons_append, List.nil_append, setAll, List.setIfInBounds_toArray, List.set_cons_zero, List.set_cons_succ]
                have hnx := Lib.hid (hLI.out.ins hxh.out hgood.out hj hdr.out hex.out)
                have hfin := Lib.hid (And.intro own9 (hb03h.out.trans (hb9.mono hb03h.out.size)))
                have hbase3 := hb03h.out.size
                clear own9 hb9
                go_wp2_with fail
                go_roundw
                case rel =>
                  obtain ⟨A7, c7, e7, r7, s7, t7⟩ := Rd.of_own (enc := tripE) tripE_len rfl hfin.out.1
                  exact ⟨i + 1, A7, c7, _, by omega, by go_num, e7, r7, s7, t7, by simp; omega, hnx.out, hfin.out.2⟩
                case measure => simp [intOf]; omega
              · obtain ⟨b2, o2, z1, zv, z3, rfl, hb2s, hz, z0, _, z2⟩ := (hr2.out.below hbj.out).trip (show j - 1 < out.length by omega)
                have zb2 := hb2s
                have hzh := Lib.hid hz
                have hwr : IntKind.i64.wrap ((j : Int) - 1) = ((j - 1 : Nat) : Int) := by rw [IntKind.wrap_i64]; omega
                have g0 : decide ((0 : Int) < (j : Int)) = true := decide_eq_true (by omega)
                have g0n : decide (0 < j) = true := decide_eq_true (by omega)
                have hjn : ((j - 1 : Nat) : Int) < (out.length : Int) := by omega
                have hgt : gt3 (z1, zv, z3) (x1, x2, x3) = (decide (x1 < z1) || (decide (z1 = x1) && decide (x3 < z3))) := rfl
                have hgo : Hid (gt3 (z1, zv, z3) (x1, x2, x3) = true → ∀ y ∈ out.drop (j - 1), gt3 y (x1, x2, x3) = true) := fun hl y hy => by
                  rw [drop_at hzh.out, show j - 1 + 1 = j by omega] at hy
                  rcases List.mem_cons.1 hy with rfl | hy
                  · exact hl
                  · exact hdr.out y hy
                have hst : Hid (gt3 (z1, zv, z3) (x1, x2, x3) = false → (j = 0 ∨ ∃ y, out[j - 1]? = some y ∧ gt3 y (x1, x2, x3) = false)) := fun hl => .inr ⟨_, hzh.out, hl⟩
                rw [hgt] at hgo hst
                clear hz hgt hb2s
                by_cases c1 : x1 < z1
                · have g1 : decide (x1 < z1) = true := decide_eq_true c1
                  rw [g1] at hgo
                  have hnx := Lib.hid (hgo.out rfl)
                  clear hgo hst c1
                  go_wp2_with fail
                  go_upto_region 12 with fail
                  refine wp_region_below wr.heap.size (by kernel_rfl) (by kernel_rfl) ?_
                  intro C hC
                  repeat (go_big_quiet_step (first
                    | ((intro _; with_reducible rfl))
                    | (intro hc; have m0 := (hc.cell (p := ⟨b2, o2 + (j - 1) * 3, none⟩) zb2).trans z0; have m1 := (hc.cell (p := ⟨b2, o2 + (j - 1) * 3 + 2, none⟩) zb2).trans z2; have m2 := (hc.cell (p := ⟨b, o + i * 3, none⟩) zb).trans x0; have m3 := (hc.cell (p := ⟨b, o + i * 3 + 2, none⟩) zb).trans x2c; simp only [m0, m1, m2, m3, Result.andThen]; exact ⟨trivial, rfl⟩)))
                  refine wpQuiet_nil ?_
                  intro w9 hb9
                  clear hC
                  have hfin := Lib.hid (hbj.out.trans (hb9.mono hbj.out.size))
                  clear hb9
                  go_wp2_with fail
                  go_roundw
                  case rel => exact ⟨j - 1, by omega, by go_num, hfin.out, hnx.out⟩
                  case measure => simp [intOf]; omega
                · have g1 : decide (x1 < z1) = false := decide_eq_false c1
                  rw [g1] at hgo hst
                  by_cases c2e : z1 = x1
                  · have g2 : (z1 == x1) = true := by simpa using c2e
                    rw [decide_eq_true c2e] at hgo hst
                    by_cases c3 : x3 < z3
                    · have g3 : decide (x3 < z3) = true := decide_eq_true c3
                      rw [g3] at hgo
                      have hnx := Lib.hid (hgo.out rfl)
                      clear hgo hst c1 c2e c3
                      go_wp2_with fail
                      go_upto_region 12 with fail
                      refine wp_region_below wr.heap.size (by kernel_rfl) (by kernel_rfl) ?_
                      intro C hC
                      repeat (go_big_quiet_step (first
                        | ((intro _; with_reducible rfl))
                        | (intro hc; have m0 := (hc.cell (p := ⟨b2, o2 + (j - 1) * 3, none⟩) zb2).trans z0; have m1 := (hc.cell (p := ⟨b2, o2 + (j - 1) * 3 + 2, none⟩) zb2).trans z2; have m2 := (hc.cell (p := ⟨b, o + i * 3, none⟩) zb).trans x0; have m3 := (hc.cell (p := ⟨b, o + i * 3 + 2, none⟩) zb).trans x2c; simp only [m0, m1, m2, m3, Result.andThen]; exact ⟨trivial, rfl⟩)))
                      refine wpQuiet_nil ?_
                      intro w9 hb9
                      clear hC
                      have hfin := Lib.hid (hbj.out.trans (hb9.mono hbj.out.size))
                      clear hb9
                      go_wp2_with fail
                      go_roundw
                      case rel => exact ⟨j - 1, by omega, by go_num, hfin.out, hnx.out⟩
                      case measure => simp [intOf]; omega
                    · have g3 : decide (x3 < z3) = false := decide_eq_false c3
                      rw [g3] at hst
                      have hex := Lib.hid (hst.out rfl)
                      clear hgo hst c1 c2e c3
                      go_wp2_with fail
                      go_upto_region 12 with fail
                      refine wp_region_below wr.heap.size (by kernel_rfl) (by kernel_rfl) ?_
                      intro C hC
                      repeat (go_big_quiet_step (first
                        | ((intro _; with_reducible rfl))
                        | (intro hc; have m0 := (hc.cell (p := ⟨b2, o2 + (j - 1) * 3, none⟩) zb2).trans z0; have m1 := (hc.cell (p := ⟨b2, o2 + (j - 1) * 3 + 2, none⟩) zb2).trans z2; have m2 := (hc.cell (p := ⟨b, o + i * 3, none⟩) zb).trans x0; have m3 := (hc.cell (p := ⟨b, o + i * 3 + 2, none⟩) zb).trans x2c; simp only [m0, m1, m2, m3, Result.andThen]; exact ⟨trivial, rfl⟩)))
                      refine wpQuiet_nil ?_
                      intro w9 hb9
                      clear hC
                      have hbw := Lib.hid (hbj.out.trans (hb9.mono hbj.out.size))
                      clear hb9
                      obtain ⟨W3, hW3⟩ : ∃ q, w9 = q := ⟨_, rfl⟩
                      rw [hW3] at hbw ⊢
                      clear hW3
                      have hb03 := hbwj.out.trans (hbw.out.mono hbwj.out.size)
                      have x03 := (hb03.cell (p := ⟨b, o + i * 3, none⟩) hbs).trans x0w
                      have x13 := (hb03.cell (p := ⟨b, o + i * 3 + 1, none⟩) hbs).trans x1w
                      have x23 := (hb03.cell (p := ⟨b, o + i * 3 + 2, none⟩) hbs).trans x2w
                      have zb3 := Nat.lt_of_lt_of_le hbs hb03.size
                      have r3 := hr2.out.below hbw.out
                      have rA := Lib.hid (r3.take (k := j) hj)
                      have rB := Lib.hid (r3.drop (k := j) hj hc2)
                      have hb03h := Lib.hid hb03
                      have hh := fun W => run_head0 (P := Tryz.prog) (t := 25) (e := 27) (s := 3) Tryz.underlying25 (by kernel_rfl) (fun W => by simp [go_sem]) (some ⟨b2, o2, none⟩) out.length c2 j (by omega) .i64 W
                      have hd := fun W => run_cut (P := Tryz.prog) (t := 25) (e := 27) (s := 3) Tryz.underlying25 (by kernel_rfl) (fun W => by simp [go_sem]) (some ⟨b2, o2, none⟩) out.length c2 j hj .i64 W
                      clear r3 hb03
                      go_wp2_with fail
                      go_upto_region 14 with fail
                      refine wp_region_ghost2 (fun fl x w => GT3 tripE 27 3 W3 (.slice (some ⟨b2, o2, none⟩) out.length c2) (out.take j) (out.take j ++ [(x1, x2, x3)]) (out.take j ++ [(x1, x2, x3)] ++ out.drop j) (x1, x2, x3) (fl 0) (fl 4) (fl 10) (fl 14) (fl 15) (fl 9) (fl 3) (fl 13) (x 0) (x 4) (x 10) (x 14) (x 9) (x 15) w ∧ (fl 3 = true → fl 1 = true) ∧ (fl 13 = true → fl 11 = true)) (by kernel_rfl) (by kernel_rfl) (by kernel_rfl) (by kernel_rfl) (by kernel_rfl) ?_ ?_
                      · intro x0 hx0
                        exact ⟨GT3.start rfl rfl rfl rfl rfl rfl (hx0 15 3 rfl), (fun h => by cases h), fun h => by cases h⟩
                      intro base O hbase hO
                      have kx0 : Hid (∀ xs, evX base O xs (.tmp 0) = .slice (some ⟨b, o, none⟩) k c) := fun xs => by rw [hbase, hO]; rfl
                      have kx3 : Hid (∀ xs, evX base O xs (.tmp 3) = xs 15) := fun xs => by rw [hO]; rfl
                      have kx4 : Hid (∀ xs, evX base O xs (.tmp 4) = .int .i64 (i : Int)) := fun xs => by rw [hbase, hO]; rfl
                      have kx7 : Hid (∀ xs, evX base O xs (.tmp 7) = .int .i64 (j : Int)) := fun xs => by rw [hbase, hO]; rfl
                      have kx113 : Hid (∀ xs, evX base O xs (.tmp 113) = xs 0) := fun xs => by rw [hO]; rfl
                      have kx114 : Hid (∀ xs, evX base O xs (.tmp 114) = xs 1) := fun xs => by rw [hO]; rfl
                      have kx115 : Hid (∀ xs, evX base O xs (.tmp 115) = xs 2) := fun xs => by rw [hO]; rfl
                      have kx116 : Hid (∀ xs, evX base O xs (.tmp 116) = xs 3) := fun xs => by rw [hO]; rfl
                      have kx117 : Hid (∀ xs, evX base O xs (.tmp 117) = xs 4) := fun xs => by rw [hO]; rfl
                      have kx118 : Hid (∀ xs, evX base O xs (.tmp 118) = xs 5) := fun xs => by rw [hO]; rfl
                      have kx119 : Hid (∀ xs, evX base O xs (.tmp 119) = xs 6) := fun xs => by rw [hO]; rfl
                      have kx120 : Hid (∀ xs, evX base O xs (.tmp 120) = xs 7) := fun xs => by rw [hO]; rfl
                      have kx121 : Hid (∀ xs, evX base O xs (.tmp 121) = xs 8) := fun xs => by rw [hO]; rfl
                      have kx122 : Hid (∀ xs, evX base O xs (.tmp 122) = xs 9) := fun xs => by rw [hO]; rfl
                      have kx123 : Hid (∀ xs, evX base O xs (.tmp 123) = xs 10) := fun xs => by rw [hO]; rfl
                      have kx124 : Hid (∀ xs, evX base O xs (.tmp 124) = xs 11) := fun xs => by rw [hO]; rfl
                      have kx125 : Hid (∀ xs, evX base O xs (.tmp 125) = xs 12) := fun xs => by rw [hO]; rfl
                      have kx126 : Hid (∀ xs, evX base O xs (.tmp 126) = xs 13) := fun xs => by rw [hO]; rfl
                      have kx127 : Hid (∀ xs, evX base O xs (.tmp 127) = xs 14) := fun xs => by rw [hO]; rfl
                      clear hbase hO
                      refine gh_any (n := 0) (fun _ => True) ?_ ?_
                      · intro fl xs w ev hG hD hl hdone hev K hK
                        rw [if_pos (wantedX_none rfl)]
                        have ef : ∀ f, ev (.func f) = .func (.func f) #[] #[] := fun f => (hev _).trans rfl
                        clear hev hD
                        go_simp
                        exact hK _ _ trivial ⟨hG.1.l0S hl, hG.2⟩
                      apply gh_det (n := 1)
                      · intro fl xs w ev hG hD hl hdone hev K hK
                        have e3 := (hev (.tmp 3)).trans (kx3.out xs)
                        rw [if_pos (wantedX_none rfl)]
                        have ef : ∀ f, ev (.func f) = .func (.func f) #[] #[] := fun f => (hev _).trans rfl
                        clear hev hD
                        have ev0 := hG.1.r1R (bne2 hG.2.1 hl)
                        rw [ev0] at e3
                        go_simp
                        exact hK _ _ rfl ⟨hG.1, fun _ => rfl, hG.2.2⟩
                      apply gh_det (n := 2)
                      · intro fl xs w ev hG hD hl hdone hev K hK
                        have e7 := (hev (.tmp 7)).trans (kx7.out xs)
                        rw [if_pos (wantedX_none rfl)]
                        have ef : ∀ f, ev (.func f) = .func (.func f) #[] #[] := fun f => (hev _).trans rfl
                        clear hev hD
                        go_simp
                        exact hK _ _ rfl hG
                      apply gh_det (n := 3)
                      · intro fl xs w ev hG hD hl hdone hev K hK
                        have e114 := (hev (.tmp 114)).trans (kx114.out xs)
                        have d1 := hD.at_ 1 rfl rfl
                        replace e114 := e114.trans d1
                        have e115 := (hev (.tmp 115)).trans (kx115.out xs)
                        have d2 := hD.at_ 2 rfl rfl
                        replace e115 := e115.trans d2
                        rw [if_pos (wantedX_none rfl)]
                        have ef : ∀ f, ev (.func f) = .func (.func f) #[] #[] := fun f => (hev _).trans rfl
                        clear hev hD
                        go_simp
                        exact hK _ _ rfl ⟨hG.1.r1S, fun _ => done_of hdone 1 rfl, hG.2.2⟩
                      refine gh_any (n := 4) (fun _ => True) ?_ ?_
                      · intro fl xs w ev hG hD hl hdone hev K hK
                        have e113 := (hev (.tmp 113)).trans (kx113.out xs)
                        have e116 := (hev (.tmp 116)).trans (kx116.out xs)
                        have d3 := hD.at_ 3 rfl rfl
                        replace e116 := e116.trans d3
                        rw [if_pos (wantedX_none rfl)]
                        have ef : ∀ f, ev (.func f) = .func (.func f) #[] #[] := fun f => (hev _).trans rfl
                        clear hev hD
                        have own := hG.1.o0 (done_of hdone 0 rfl) hl
                        obtain ⟨v', w1', hrun, own1, hgr, hnew⟩ := app_trips c2 (L := []) own (rA.out.below hG.1.bel) (by simp only [List.length_append, List.length_take, List.length_drop, List.length_cons, List.length_nil]; have := hSl; omega) hG.1.bel.size
                        rw [List.nil_append] at own1
                        exact outcome_append (.tmp 113) (.tmp 116) 25 rfl e113 e116 hrun (hK _ _ trivial ⟨hG.1.a1S hl (done_of hdone 0 rfl) (done_of hdone 3 rfl) own1 hgr hnew, hG.2⟩)
                      apply gh_det (n := 5)
                      · intro fl xs w ev hG hD hl hdone hev K hK
                        have e0 := (hev (.tmp 0)).trans (kx0.out xs)
                        rw [if_pos (wantedX_none rfl)]
                        have ef : ∀ f, ev (.func f) = .func (.func f) #[] #[] := fun f => (hev _).trans rfl
                        clear hev hD
                        go_simp
                        exact hK _ _ rfl hG
                      apply gh_det (n := 6)
                      · intro fl xs w ev hG hD hl hdone hev K hK
                        have e4 := (hev (.tmp 4)).trans (kx4.out xs)
                        rw [if_pos (wantedX_none rfl)]
                        have ef : ∀ f, ev (.func f) = .func (.func f) #[] #[] := fun f => (hev _).trans rfl
                        clear hev hD
                        go_simp
                        exact hK _ _ rfl hG
                      apply gh_det (n := 7)
                      · intro fl xs w ev hG hD hl hdone hev K hK
                        have e118 := (hev (.tmp 118)).trans (kx118.out xs)
                        have d5 := hD.at_ 5 rfl rfl
                        replace e118 := e118.trans d5
                        have e119 := (hev (.tmp 119)).trans (kx119.out xs)
                        have d6 := hD.at_ 6 rfl rfl
                        replace e119 := e119.trans d6
                        rw [if_pos (wantedX_none rfl)]
                        have ef : ∀ f, ev (.func f) = .func (.func f) #[] #[] := fun f => (hev _).trans rfl
                        clear hev hD
                        go_simp
                        exact hK _ _ rfl hG
                      apply gh_det (n := 8)
                      · intro fl xs w ev hG hD hl hdone hev K hK
                        have e120 := (hev (.tmp 120)).trans (kx120.out xs)
                        have d7 := hD.at_ 7 rfl rfl
                        replace e120 := e120.trans d7
                        rw [if_pos (wantedX_none rfl)]
                        have ef : ∀ f, ev (.func f) = .func (.func f) #[] #[] := fun f => (hev _).trans rfl
                        clear hev hD
                        have m0 := (hG.1.bel.cell (p := ⟨b, o + i * 3, none⟩) zb3).trans x03
                        have m1 := (hG.1.bel.cell (p := ⟨b, o + i * 3 + 1, none⟩) zb3).trans x13
                        have m2 := (hG.1.bel.cell (p := ⟨b, o + i * 3 + 2, none⟩) zb3).trans x23
                        go_simp
                        exact hK _ _ rfl hG
                      refine gh_any (n := 9) (fun _ => True) ?_ ?_
                      · intro fl xs w ev hG hD hl hdone hev K hK
                        have e121 := (hev (.tmp 121)).trans (kx121.out xs)
                        have d8 := hD.at_ 8 rfl rfl
                        replace e121 := e121.trans d8
                        rw [if_pos (wantedX_none rfl)]
                        have ef : ∀ f, ev (.func f) = .func (.func f) #[] #[] := fun f => (hev _).trans rfl
                        clear hev hD
                        go_simp
                        exact hK _ _ trivial ⟨hG.1.litS hl tripE_len, hG.2⟩
                      refine gh_any (n := 10) (fun _ => True) ?_ ?_
                      · intro fl xs w ev hG hD hl hdone hev K hK
                        have e117 := (hev (.tmp 117)).trans (kx117.out xs)
                        have e122 := (hev (.tmp 122)).trans (kx122.out xs)
                        rw [if_pos (wantedX_none rfl)]
                        have ef : ∀ f, ev (.func f) = .func (.func f) #[] #[] := fun f => (hev _).trans rfl
                        clear hev hD
                        have own := hG.1.o1 (done_of hdone 4 rfl) hl
                        obtain ⟨g5, c5, e5, r5, _⟩ := hG.1.ol (done_of hdone 9 rfl) hl
                        rw [e5] at e122
                        obtain ⟨v', w1', hrun, own1, hgr, hnew⟩ := app_trips c5 own r5 (by simp only [List.length_append, List.length_take, List.length_drop, List.length_cons, List.length_nil]; have := hSl; omega) hG.1.bel.size
                        exact outcome_append (.tmp 117) (.tmp 122) 25 rfl e117 e122 hrun (hK _ _ trivial ⟨hG.1.a2S hl (done_of hdone 4 rfl) (done_of hdone 9 rfl) own1 hgr, hG.2⟩)
                      apply gh_det (n := 11)
                      · intro fl xs w ev hG hD hl hdone hev K hK
                        have e3 := (hev (.tmp 3)).trans (kx3.out xs)
                        rw [if_pos (wantedX_none rfl)]
                        have ef : ∀ f, ev (.func f) = .func (.func f) #[] #[] := fun f => (hev _).trans rfl
                        clear hev hD
                        have ev0 := hG.1.r2R (bne2 hG.2.2 hl)
                        rw [ev0] at e3
                        go_simp
                        exact hK _ _ rfl ⟨hG.1, hG.2.1, fun _ => rfl⟩
                      apply gh_det (n := 12)
                      · intro fl xs w ev hG hD hl hdone hev K hK
                        have e7 := (hev (.tmp 7)).trans (kx7.out xs)
                        rw [if_pos (wantedX_none rfl)]
                        have ef : ∀ f, ev (.func f) = .func (.func f) #[] #[] := fun f => (hev _).trans rfl
                        clear hev hD
                        go_simp
                        exact hK _ _ rfl hG
                      apply gh_det (n := 13)
                      · intro fl xs w ev hG hD hl hdone hev K hK
                        have e124 := (hev (.tmp 124)).trans (kx124.out xs)
                        have d11 := hD.at_ 11 rfl rfl
                        replace e124 := e124.trans d11
                        have e125 := (hev (.tmp 125)).trans (kx125.out xs)
                        have d12 := hD.at_ 12 rfl rfl
                        replace e125 := e125.trans d12
                        rw [if_pos (wantedX_none rfl)]
                        have ef : ∀ f, ev (.func f) = .func (.func f) #[] #[] := fun f => (hev _).trans rfl
                        clear hev hD
                        go_simp
                        exact hK _ _ rfl ⟨hG.1.r2S, hG.2.1, fun _ => done_of hdone 11 rfl⟩
                      refine gh_any (n := 14) (fun _ => True) ?_ ?_
                      · intro fl xs w ev hG hD hl hdone hev K hK
                        have e123 := (hev (.tmp 123)).trans (kx123.out xs)
                        have e126 := (hev (.tmp 126)).trans (kx126.out xs)
                        have d13 := hD.at_ 13 rfl rfl
                        replace e126 := e126.trans d13
                        rw [if_pos (wantedX_none rfl)]
                        have ef : ∀ f, ev (.func f) = .func (.func f) #[] #[] := fun f => (hev _).trans rfl
                        clear hev hD
                        have own := hG.1.o2 (done_of hdone 10 rfl) hl
                        obtain ⟨v', w1', hrun, own1, hgr, hnew⟩ := app_trips _ own (rB.out.below hG.1.bel) (by simp only [List.length_append, List.length_take, List.length_drop, List.length_cons, List.length_nil]; have := hSl; omega) hG.1.bel.size
                        exact outcome_append (.tmp 123) (.tmp 126) 25 rfl e123 e126 hrun (hK _ _ trivial ⟨hG.1.a3S hl (done_of hdone 10 rfl) (done_of hdone 13 rfl) own1 hgr, hG.2⟩)
                      refine gh_any (n := 15) (fun _ => True) ?_ ?_
                      · intro fl xs w ev hG hD hl hdone hev K hK
                        have e127 := (hev (.tmp 127)).trans (kx127.out xs)
                        rw [if_pos (wantedX_none rfl)]
                        have ef : ∀ f, ev (.func f) = .func (.func f) #[] #[] := fun f => (hev _).trans rfl
                        clear hev hD
                        have own := hG.1.o3 (done_of hdone 14 rfl)
                        obtain ⟨n7, hn7⟩ : ∃ n7, (out.take j ++ [(x1, x2, x3)] ++ out.drop j).length = n7 := ⟨_, rfl⟩
                        rw [hn7] at own
                        obtain ⟨A7, c7, e7, _⟩ := Rd.of_own (enc := tripE) tripE_len hn7 own
                        rw [e7] at e127
                        clear own hn7
                        go_simp
                        refine hK _ _ trivial ?_
                        rw [← e7]
                        exact ⟨hG.1.asS (done_of hdone 14 rfl), hG.2⟩
                      clear kx0 kx3 kx4 kx7 kx113 kx114 kx115 kx116 kx117 kx118 kx119 kx120 kx121 kx122 kx123 kx124 kx125 kx126 kx127
                      clear hh hd
                      intro xs w9 hG hI
                      have own9 := hG.1.o3 rfl
                      have e9 := hG.1.sg rfl
                      have hb9 := hG.1.bel
                      clear hG hI
                      rw [← e9] at own9
                      clear e9
                      simp only [List.append_eq, List.cons_append, List.nil_append, setAll, List.setIfInBounds_toArray, List.set_cons_zero, List.set_cons_succ]
                      have hnx := Lib.hid (hLI.out.ins hxh.out hgood.out hj hdr.out hex.out)
                      have hfin := Lib.hid (And.intro own9 (hb03h.out.trans (hb9.mono hb03h.out.size)))
                      have hbase3 := hb03h.out.size
                      clear own9 hb9
                      go_wp2_with fail
                      go_roundw
                      case rel =>
                        obtain ⟨A7, c7, e7, r7, s7, t7⟩ := Rd.of_own (enc := tripE) tripE_len rfl hfin.out.1
                        exact ⟨i + 1, A7, c7, _, by omega, by go_num, e7, r7, s7, t7, by simp; omega, hnx.out, hfin.out.2⟩
                      case measure => simp [intOf]; omega
                  · have g2 : (z1 == x1) = false := by simpa using c2e
                    rw [decide_eq_false c2e] at hst
                    have hex := Lib.hid (hst.out rfl)
                    clear hgo hst c1 c2e
                    go_wp2_with fail
                    go_upto_region 12 with fail
                    refine wp_region_below wr.heap.size (by kernel_rfl) (by kernel_rfl) ?_
                    intro C hC
                    repeat (go_big_quiet_step (first
                      | ((intro _; with_reducible rfl))
                      | (intro hc; have m0 := (hc.cell (p := ⟨b2, o2 + (j - 1) * 3, none⟩) zb2).trans z0; have m1 := (hc.cell (p := ⟨b2, o2 + (j - 1) * 3 + 2, none⟩) zb2).trans z2; have m2 := (hc.cell (p := ⟨b, o + i * 3, none⟩) zb).trans x0; have m3 := (hc.cell (p := ⟨b, o + i * 3 + 2, none⟩) zb).trans x2c; simp only [m0, m1, m2, m3, Result.andThen]; exact ⟨trivial, rfl⟩)))
                    refine wpQuiet_nil ?_
                    intro w9 hb9
                    clear hC
                    have hbw := Lib.hid (hbj.out.trans (hb9.mono hbj.out.size))
                    clear hb9
                    obtain ⟨W3, hW3⟩ : ∃ q, w9 = q := ⟨_, rfl⟩
                    rw [hW3] at hbw ⊢
                    clear hW3
                    have hb03 := hbwj.out.trans (hbw.out.mono hbwj.out.size)
                    have x03 := (hb03.cell (p := ⟨b, o + i * 3, none⟩) hbs).trans x0w
                    have x13 := (hb03.cell (p := ⟨b, o + i * 3 + 1, none⟩) hbs).trans x1w
                    have x23 := (hb03.cell (p := ⟨b, o + i * 3 + 2, none⟩) hbs).trans x2w
                    have zb3 := Nat.lt_of_lt_of_le hbs hb03.size
                    have r3 := hr2.out.below hbw.out
                    have rA := Lib.hid (r3.take (k := j) hj)
                    have rB := Lib.hid (r3.drop (k := j) hj hc2)
                    have hb03h := Lib.hid hb03
                    have hh := fun W => run_head0 (P := Tryz.prog) (t := 25) (e := 27) (s := 3) Tryz.underlying25 (by kernel_rfl) (fun W => by simp [go_sem]) (some ⟨b2, o2, none⟩) out.length c2 j (by omega) .i64 W
                    have hd := fun W => run_cut (P := Tryz.prog) (t := 25) (e := 27) (s := 3) Tryz.underlying25 (by kernel_rfl) (fun W => by simp [go_sem]) (some ⟨b2, o2, none⟩) out.length c2 j hj .i64 W
                    clear r3 hb03
                    go_wp2_with fail
                    go_upto_region 14 with fail
                    refine wp_region_ghost2 (fun fl x w => GT3 tripE 27 3 W3 (.slice (some ⟨b2, o2, none⟩) out.length c2) (out.take j) (out.take j ++ [(x1, x2, x3)]) (out.take j ++ [(x1, x2, x3)] ++ out.drop j) (x1, x2, x3) (fl 0) (fl 4) (fl 10) (fl 14) (fl 15) (fl 9) (fl 3) (fl 13) (x 0) (x 4) (x 10) (x 14) (x 9) (x 15) w ∧ (fl 3 = true → fl 1 = true) ∧ (fl 13 = true → fl 11 = true)) (by kernel_rfl) (by kernel_rfl) (by kernel_rfl) (by kernel_rfl) (by kernel_rfl) ?_ ?_
                    · intro x0 hx0
                      exact ⟨GT3.start rfl rfl rfl rfl rfl rfl (hx0 15 3 rfl), (fun h => by cases h), fun h => by cases h⟩
                    intro base O hbase hO
                    have kx0 : Hid (∀ xs, evX base O xs (.tmp 0) = .slice (some ⟨b, o, none⟩) k c) := fun xs => by rw [hbase, hO]; rfl
                    have kx3 : Hid (∀ xs, evX base O xs (.tmp 3) = xs 15) := fun xs => by rw [hO]; rfl
                    have kx4 : Hid (∀ xs, evX base O xs (.tmp 4) = .int .i64 (i : Int)) := fun xs => by rw [hbase, hO]; rfl
                    have kx7 : Hid (∀ xs, evX base O xs (.tmp 7) = .int .i64 (j : Int)) := fun xs => by rw [hbase, hO]; rfl
                    have kx113 : Hid (∀ xs, evX base O xs (.tmp 113) = xs 0) := fun xs => by rw [hO]; rfl
                    have kx114 : Hid (∀ xs, evX base O xs (.tmp 114) = xs 1) := fun xs => by rw [hO]; rfl
                    have kx115 : Hid (∀ xs, evX base O xs (.tmp 115) = xs 2) := fun xs => by rw [hO]; rfl
                    have kx116 : Hid (∀ xs, evX base O xs (.tmp 116) = xs 3) := fun xs => by rw [hO]; rfl
                    have kx117 : Hid (∀ xs, evX base O xs (.tmp 117) = xs 4) := fun xs => by rw [hO]; rfl
                    have kx118 : Hid (∀ xs, evX base O xs (.tmp 118) = xs 5) := fun xs => by rw [hO]; rfl
                    have kx119 : Hid (∀ xs, evX base O xs (.tmp 119) = xs 6) := fun xs => by rw [hO]; rfl
                    have kx120 : Hid (∀ xs, evX base O xs (.tmp 120) = xs 7) := fun xs => by rw [hO]; rfl
                    have kx121 : Hid (∀ xs, evX base O xs (.tmp 121) = xs 8) := fun xs => by rw [hO]; rfl
                    have kx122 : Hid (∀ xs, evX base O xs (.tmp 122) = xs 9) := fun xs => by rw [hO]; rfl
                    have kx123 : Hid (∀ xs, evX base O xs (.tmp 123) = xs 10) := fun xs => by rw [hO]; rfl
                    have kx124 : Hid (∀ xs, evX base O xs (.tmp 124) = xs 11) := fun xs => by rw [hO]; rfl
                    have kx125 : Hid (∀ xs, evX base O xs (.tmp 125) = xs 12) := fun xs => by rw [hO]; rfl
                    have kx126 : Hid (∀ xs, evX base O xs (.tmp 126) = xs 13) := fun xs => by rw [hO]; rfl
                    have kx127 : Hid (∀ xs, evX base O xs (.tmp 127) = xs 14) := fun xs => by rw [hO]; rfl
                    clear hbase hO
                    refine gh_any (n := 0) (fun _ => True) ?_ ?_
                    · intro fl xs w ev hG hD hl hdone hev K hK
                      rw [if_pos (wantedX_none rfl)]
                      have ef : ∀ f, ev (.func f) = .func (.func f) #[] #[] := fun f => (hev _).trans rfl
                      clear hev hD
                      go_simp
                      exact hK _ _ trivial ⟨hG.1.l0S hl, hG.2⟩
                    apply gh_det (n := 1)
                    · intro fl xs w ev hG hD hl hdone hev K hK
                      have e3 := (hev (.tmp 3)).trans (kx3.out xs)
                      rw [if_pos (wantedX_none rfl)]
                      have ef : ∀ f, ev (.func f) = .func (.func f) #[] #[] := fun f => (hev _).trans rfl
                      clear hev hD
                      have ev0 := hG.1.r1R (bne2 hG.2.1 hl)
                      rw [ev0] at e3
                      go_simp
                      exact hK _ _ rfl ⟨hG.1, fun _ => rfl, hG.2.2⟩
                    apply gh_det (n := 2)
                    · intro fl xs w ev hG hD hl hdone hev K hK
                      have e7 := (hev (.tmp 7)).trans (kx7.out xs)
                      rw [if_pos (wantedX_none rfl)]
                      have ef : ∀ f, ev (.func f) = .func (.func f) #[] #[] := fun f => (hev _).trans rfl
                      clear hev hD
                      go_simp
                      exact hK _ _ rfl hG
                    apply gh_det (n := 3)
                    · intro fl xs w ev hG hD hl hdone hev K hK
                      have e114 := (hev (.tmp 114)).trans (kx114.out xs)
                      have d1 := hD.at_ 1 rfl rfl
                      replace e114 := e114.trans d1
                      have e115 := (hev (.tmp 115)).trans (kx115.out xs)
                      have d2 := hD.at_ 2 rfl rfl
                      replace e115 := e115.trans d2
                      rw [if_pos (wantedX_none rfl)]
                      have ef : ∀ f, ev (.func f) = .func (.func f) #[] #[] := fun f => (hev _).trans rfl
                      clear hev hD
                      go_simp
                      exact hK _ _ rfl ⟨hG.1.r1S, fun _ => done_of hdone 1 rfl, hG.2.2⟩
                    refine gh_any (n := 4) (fun _ => True) ?_ ?_
                    · intro fl xs w ev hG hD hl hdone hev K hK
                      have e113 := (hev (.tmp 113)).trans (kx113.out xs)
                      have e116 := (hev (.tmp 116)).trans (kx116.out xs)
                      have d3 := hD.at_ 3 rfl rfl
                      replace e116 := e116.trans d3
                      rw [if_pos (wantedX_none rfl)]
                      have ef : ∀ f, ev (.func f) = .func (.func f) #[] #[] := fun f => (hev _).trans rfl
                      clear hev hD
                      have own := hG.1.o0 (done_of hdone 0 rfl) hl
                      obtain ⟨v', w1', hrun, own1, hgr, hnew⟩ := app_trips c2 (L := []) own (rA.out.below hG.1.bel) (by simp only [List.length_append, List.length_take, List.length_drop, List.length_cons, List.length_nil]; have := hSl; omega) hG.1.bel.size
                      rw [List.nil_append] at own1
                      exact outcome_append (.tmp 113) (.tmp 116) 25 rfl e113 e116 hrun (hK _ _ trivial ⟨hG.1.a1S hl (done_of hdone 0 rfl) (done_of hdone 3 rfl) own1 hgr hnew, hG.2⟩)
                    apply gh_det (n := 5)
                    · intro fl xs w ev hG hD hl hdone hev K hK
                      have e0 := (hev (.tmp 0)).trans (kx0.out xs)
                      rw [if_pos (wantedX_none rfl)]
                      have ef : ∀ f, ev (.func f) = .func (.func f) #[] #[] := fun f => (hev _).trans rfl
                      clear hev hD
                      go_simp
                      exact hK _ _ rfl hG
                    apply gh_det (n := 6)
                    · intro fl xs w ev hG hD hl hdone hev K hK
                      have e4 := (hev (.tmp 4)).trans (kx4.out xs)
                      rw [if_pos (wantedX_none rfl)]
                      have ef : ∀ f, ev (.func f) = .func (.func f) #[] #[] := fun f => (hev _).trans rfl
                      clear hev hD
                      go_simp
                      exact hK _ _ rfl hG
                    apply gh_det (n := 7)
                    · intro fl xs w ev hG hD hl hdone hev K hK
                      have e118 := (hev (.tmp 118)).trans (kx118.out xs)
                      have d5 := hD.at_ 5 rfl rfl
                      replace e118 := e118.trans d5
                      have e119 := (hev (.tmp 119)).trans (kx119.out xs)
                      have d6 := hD.at_ 6 rfl rfl
                      replace e119 := e119.trans d6
                      rw [if_pos (wantedX_none rfl)]
                      have ef : ∀ f, ev (.func f) = .func (.func f) #[] #[] := fun f => (hev _).trans rfl
                      clear hev hD
                      go_simp
                      exact hK _ _ rfl hG
                    apply gh_det (n := 8)
                    · intro fl xs w ev hG hD hl hdone hev K hK
                      have e120 := (hev (.tmp 120)).trans (kx120.out xs)
                      have d7 := hD.at_ 7 rfl rfl
                      replace e120 := e120.trans d7
                      rw [if_pos (wantedX_none rfl)]
                      have ef : ∀ f, ev (.func f) = .func (.func f) #[] #[] := fun f => (hev _).trans rfl
                      clear hev hD
                      have m0 := (hG.1.bel.cell (p := ⟨b, o + i * 3, none⟩) zb3).trans x03
                      have m1 := (hG.1.bel.cell (p := ⟨b, o + i * 3 + 1, none⟩) zb3).trans x13
                      have m2 := (hG.1.bel.cell (p := ⟨b, o + i * 3 + 2, none⟩) zb3).trans x23
                      go_simp
                      exact hK _ _ rfl hG
                    refine gh_any (n := 9) (fun _ => True) ?_ ?_
                    · intro fl xs w ev hG hD hl hdone hev K hK
                      have e121 := (hev (.tmp 121)).trans (kx121.out xs)
                      have d8 := hD.at_ 8 rfl rfl
                      replace e121 := e121.trans d8
                      rw [if_pos (wantedX_none rfl)]
                      have ef : ∀ f, ev (.func f) = .func (.func f) #[] #[] := fun f => (hev _).trans rfl
                      clear hev hD
                      go_simp
                      exact hK _ _ trivial ⟨hG.1.litS hl tripE_len, hG.2⟩
                    refine gh_any (n := 10) (fun _ => True) ?_ ?_
                    · intro fl xs w ev hG hD hl hdone hev K hK
                      have e117 := (hev (.tmp 117)).trans (kx117.out xs)
                      have e122 := (hev (.tmp 122)).trans (kx122.out xs)
                      rw [if_pos (wantedX_none rfl)]
                      have ef : ∀ f, ev (.func f) = .func (.func f) #[] #[] := fun f => (hev _).trans rfl
                      clear hev hD
                      have own := hG.1.o1 (done_of hdone 4 rfl) hl
                      obtain ⟨g5, c5, e5, r5, _⟩ := hG.1.ol (done_of hdone 9 rfl) hl
                      rw [e5] at e122
                      obtain ⟨v', w1', hrun, own1, hgr, hnew⟩ := app_trips c5 own r5 (by simp only [List.length_append, List.length_take, List.length_drop, List.length_cons, List.length_nil]; have := hSl; omega) hG.1.bel.size
                      exact outcome_append (.tmp 117) (.tmp 122) 25 rfl e117 e122 hrun (hK _ _ trivial ⟨hG.1.a2S hl (done_of hdone 4 rfl) (done_of hdone 9 rfl) own1 hgr, hG.2⟩)
                    apply gh_det (n := 11)
                    · intro fl xs w ev hG hD hl hdone hev K hK
                      have e3 := (hev (.tmp 3)).trans (kx3.out xs)
                      rw [if_pos (wantedX_none rfl)]
                      have ef : ∀ f, ev (.func f) = .func (.func f) #[] #[] := fun f => (hev _).trans rfl
                      clear hev hD
                      have ev0 := hG.1.r2R (bne2 hG.2.2 hl)
                      rw [ev0] at e3
                      go_simp
                      exact hK _ _ rfl ⟨hG.1, hG.2.1, fun _ => rfl⟩
                    apply gh_det (n := 12)
                    · intro fl xs w ev hG hD hl hdone hev K hK
                      have e7 := (hev (.tmp 7)).trans (kx7.out xs)
                      rw [if_pos (wantedX_none rfl)]
                      have ef : ∀ f, ev (.func f) = .func (.func f) #[] #[] := fun f => (hev _).trans rfl
                      clear hev hD
                      go_simp
                      exact hK _ _ rfl hG
                    apply gh_det (n := 13)
                    · intro fl xs w ev hG hD hl hdone hev K hK
                      have e124 := (hev (.tmp 124)).trans (kx124.out xs)
                      have d11 := hD.at_ 11 rfl rfl
                      replace e124 := e124.trans d11
                      have e125 := (hev (.tmp 125)).trans (kx125.out xs)
                      have d12 := hD.at_ 12 rfl rfl
                      replace e125 := e125.trans d12
                      rw [if_pos (wantedX_none rfl)]
                      have ef : ∀ f, ev (.func f) = .func (.func f) #[] #[] := fun f => (hev _).trans rfl
                      clear hev hD
                      go_simp
                      exact hK _ _ rfl ⟨hG.1.r2S, hG.2.1, fun _ => done_of hdone 11 rfl⟩
                    refine gh_any (n := 14) (fun _ => True) ?_ ?_
                    · intro fl xs w ev hG hD hl hdone hev K hK
                      have e123 := (hev (.tmp 123)).trans (kx123.out xs)
                      have e126 := (hev (.tmp 126)).trans (kx126.out xs)
                      have d13 := hD.at_ 13 rfl rfl
                      replace e126 := e126.trans d13
                      rw [if_pos (wantedX_none rfl)]
                      have ef : ∀ f, ev (.func f) = .func (.func f) #[] #[] := fun f => (hev _).trans rfl
                      clear hev hD
                      have own := hG.1.o2 (done_of hdone 10 rfl) hl
                      obtain ⟨v', w1', hrun, own1, hgr, hnew⟩ := app_trips _ own (rB.out.below hG.1.bel) (by simp only [List.length_append, List.length_take, List.length_drop, List.length_cons, List.length_nil]; have := hSl; omega) hG.1.bel.size
                      exact outcome_append (.tmp 123) (.tmp 126) 25 rfl e123 e126 hrun (hK _ _ trivial ⟨hG.1.a3S hl (done_of hdone 10 rfl) (done_of hdone 13 rfl) own1 hgr, hG.2⟩)
                    refine gh_any (n := 15) (fun _ => True) ?_ ?_
                    · intro fl xs w ev hG hD hl hdone hev K hK
                      have e127 := (hev (.tmp 127)).trans (kx127.out xs)
                      rw [if_pos (wantedX_none rfl)]
                      have ef : ∀ f, ev (.func f) = .func (.func f) #[] #[] := fun f => (hev _).trans rfl
                      clear hev hD
                      have own := hG.1.o3 (done_of hdone 14 rfl)
                      obtain ⟨n7, hn7⟩ : ∃ n7, (out.take j ++ [(x1, x2, x3)] ++ out.drop j).length = n7 := ⟨_, rfl⟩
                      rw [hn7] at own
                      obtain ⟨A7, c7, e7, _⟩ := Rd.of_own (enc := tripE) tripE_len hn7 own
                      rw [e7] at e127
                      clear own hn7
                      go_simp
                      refine hK _ _ trivial ?_
                      rw [← e7]
                      exact ⟨hG.1.asS (done_of hdone 14 rfl), hG.2⟩
                    clear kx0 kx3 kx4 kx7 kx113 kx114 kx115 kx116 kx117 kx118 kx119 kx120 kx121 kx122 kx123 kx124 kx125 kx126 kx127
                    clear hh hd
                    intro xs w9 hG hI
                    have own9 := hG.1.o3 rfl
                    have e9 := hG.1.sg rfl
                    have hb9 := hG.1.bel
                    clear hG hI
                    rw [← e9] at own9
                    clear e9
                    simp only [List.append_eq, List.cons_append, List.nil_append, setAll, List.setIfInBounds_toArray, List.set_cons_zero, List.set_cons_succ]
                    have hnx := Lib.hid (hLI.out.ins hxh.out hgood.out hj hdr.out hex.out)
                    have hfin := Lib.hid (And.intro own9 (hb03h.out.trans (hb9.mono hb03h.out.size)))
                    have hbase3 := hb03h.out.size
                    clear own9 hb9
                    go_wp2_with fail
                    go_roundw
                    case rel =>
                      obtain ⟨A7, c7, e7, r7, s7, t7⟩ := Rd.of_own (enc := tripE) tripE_len rfl hfin.out.1
                      exact ⟨i + 1, A7, c7, _, by omega, by go_num, e7, r7, s7, t7, by simp; omega, hnx.out, hfin.out.2⟩
                    case measure => simp [intOf]; omega
    · obtain rfl : i = n := by omega
      have hin2 : decide ((i : Int) < (i : Int)) = false := decide_eq_false (by omega)
      rw [← hll.out] at hLI
      have hfinL := Lib.hid hLI.fin
      have hr2h := Lib.hid hr2
      have hbih := Lib.hid hbi
      clear hLI hr2 hbi
      go_wp2_with fail
      go_returns
      rw [← hfinL.out]
      exact .mk A2 c2 rfl hr2h.out hc2 hcm hbih.out
end Go.Proofs.YtibeoiphjkgekaaGreat
