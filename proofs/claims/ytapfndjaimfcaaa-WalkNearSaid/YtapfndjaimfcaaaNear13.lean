/-
  Walk: timetablelaw13.WalkNear.
-/
import Derived.Test.YtapfndjaimfcaaaKit13
import Derived.Test.YtapfndjaimfcaaaNearPlain
namespace Go.Proofs.Ytapfndjaimfcaaa
open Go.RowKit Go.Shelf B K
set_option linter.unusedVariables false
set_option linter.unusedSimpArgs false
set_option maxHeartbeats 4000000
def bvs (l : List Bool) : Array Value := (l.map Value.bool).toArray
theorem bvs_set (l : List Bool) (i : Nat) (b : Bool) : (bvs l).setIfInBounds i (.bool b) = bvs (l.set i b) := by
  unfold bvs
  rw [List.map_set]
  simp
theorem cell_set {w : World} {b i : Nat} {cs : Array Value} {t : TypeId} {v : Value} (h : w.heap[b]? = some (.cells cs t (0, 0))) : (w.setCell ⟨b, i, none⟩ v).heap[b]? = some (.cells (cs.setIfInBounds i v) t (0, 0)) := by
  have hlt := (Array.getElem?_eq_some_iff.1 h).1
  have e : w.heap[b] = .cells cs t (0, 0) := by rw [Array.getElem?_eq_getElem hlt] at h; exact Option.some.inj h
  simp [World.setCell, hlt, Array.getElem_modify, e]
theorem make_bools (n : Nat) (hn : n ≤ 60) (W : World) : (Instr.makeSlice 30 (.int .i64 (n : Int)) (.int .i64 (n : Int))).run Try.prog W = .ok (.slice (some ⟨W.heap.size, 0, none⟩) n n) (W.alloc (.cells (bvs (List.replicate n false)) 4)) := by
  obtain ⟨i, hi, hz, hs, hb⟩ := info_parts (show (Try.prog.info? 4).map (fun i => (i.zero, i.size, i.bytes)) = some (some (.bool false), 1, 1) by kernel_rfl)
  have := run_make W 30 4 i _ Try.underlying30 hi hz .i64 .i64 (n : Int) (n : Int) (by omega) (Int.le_refl _) (by rw [hb]; omega) (by omega)
  rw [hs] at this
  have e : bvs (List.replicate n false) = madeCells #[.bool false] n := by
    unfold bvs
    rw [List.map_replicate, ← toList_madeCells_one]
  rw [e]
  simpa [Value.cells] using this
set_option maxRecDepth 100000 in
theorem lawNear_any (n : Int) (A : Option Addr) (m c : Nat) (l : List Ed) (sx tx : Int) (w : World) (hr : Rd w 3 tripE A m l) (b2 : -9223372036854775808 ≤ sx ∧ sx ≤ 9223372036854775807) (b3 : -9223372036854775808 ≤ tx ∧ tx ≤ 9223372036854775807) :
    Calls Try.prog 3 #[.int .i64 n, .slice A m c, .int .i64 sx, .int .i64 tx] w fun e w' => e = .returned (.bool true) ∧ Below w.heap.size w w' := by
  go_enter Try.func3, Try.ntmps3
  go_wp2_with fail
  refine (lives13_any _).mono ?_; rintro e w1 ⟨rfl, hb1⟩
  have r1 := Lib.hid (hr.below hb1)
  have hb1h := Lib.hid hb1
  clear hr hb1
  by_cases h1 : 60 < m
  · have hd1 : decide ((60 : Int) < (m : Int)) = true := decide_eq_true (by omega)
    go_wp2_with fail
    go_returns
    exact ⟨rfl, hb1h.out⟩
  have hd1 : decide ((60 : Int) < (m : Int)) = false := decide_eq_false (by omega)
  by_cases h2 : n < 1
  · have hd2 : decide (n < 1) = true := decide_eq_true h2
    go_wp2_with fail
    go_returns
    exact ⟨rfl, hb1h.out⟩
  have hd2 : decide (n < 1) = false := decide_eq_false h2
  by_cases h3 : 60 < n
  · have hd3 : decide (60 < n) = true := decide_eq_true h3
    go_wp2_with fail
    go_returns
    exact ⟨rfl, hb1h.out⟩
  have hd3 : decide (60 < n) = false := decide_eq_false h3
  obtain ⟨N, rfl⟩ : ∃ N : Nat, n = N := ⟨n.toNat, by omega⟩
  have hC := Lib.hid (chk_any N A m c l w1 r1.out (by omega))
  by_cases hc : chkE (N : Int) l = 0
  rotate_left
  · obtain ⟨q, hq⟩ : ∃ q, chkE (N : Int) l = q := ⟨_, rfl⟩
    rw [hq] at hC hc
    have hd : (q != 0) = true := by simpa using hc
    clear hq
    go_wp2_with (go_at_call 15; refine hC.out.mono ?_; rintro e w2 ⟨rfl, hb2⟩)
    go_returns
    exact ⟨rfl, hb1h.out.trans (hb2.mono hb1h.out.size)⟩
  rw [hc] at hC
  have hch := Lib.hid hc
  have hE := Lib.hid (eds_ok hc)
  clear hc
  have hN60 : N ≤ 60 := by omega
  have hN1 : 1 ≤ N := by omega
  go_wp2_with (go_at_call 15; refine hC.out.mono ?_; rintro e w2 ⟨rfl, hb2⟩)
  have hbw2 := hb1h.out.trans (hb2.mono hb1h.out.size)
  have r2 := r1.out.below hb2
  have hbw2h := Lib.hid hbw2
  have r2h := Lib.hid r2
  clear hC hb2 hbw2 r2 r1 hb1h
  refine (pick_any sx N w2 (by omega) b2).mono ?_; rintro e w4 ⟨s, rfl, hs, hb4⟩
  have hs' : s < N := by omega
  have hP2 := Lib.hid (pick_any tx N w4 (by omega) b3)
  have hbw4 := hbw2h.out.trans (hb4.mono hbw2h.out.size)
  have r4 := r2h.out.below hb4
  have hbw4h := Lib.hid hbw4
  have r4h := Lib.hid r4
  clear hb4 hbw4 r4 hbw2h r2h b3
  go_wp2_with fail
  refine hP2.out.mono ?_; rintro e w5 ⟨t, rfl, ht, hb5⟩
  have ht' : t < N := by omega
  have hbw5 := hbw4h.out.trans (hb5.mono hbw4h.out.size)
  have r5 := r4h.out.below hb5
  have hF := Lib.hid (From_ok (c := c) N s r5 (by omega) hch.out hs')
  have hbw5h := Lib.hid hbw5
  have r5h := Lib.hid r5
  clear hb5 hbw5 r5 hbw4h r4h hP2 b2
  go_wp2_with fail
  refine hF.out.mono ?_; rintro e w7 ⟨fa, da, rfl, hDa, _, hfa, hb7⟩
  have hbw7 := Lib.hid (hbw5h.out.trans (hb7.mono hbw5h.out.size))
  have r7 := Lib.hid (r5h.out.below hb7)
  have hDah := Lib.hid hDa
  have hfah := Lib.hid hfa
  have hfal := (Array.getElem?_eq_some_iff.1 hfa).1
  have c0 : w7.cell? ⟨fa, s, none⟩ = some (.int .i64 0) := by rw [cell_of_row _ _ _ _ _ _ hfa]; simp [hDa.s0]
  clear hF hb7 hDa hfa hbw5h r5h
  have hmk := make_bools N hN60 w7
  have ha7 := (Below.refl _ w7).alloc (Nat.le_refl w7.heap.size) (.cells (bvs (List.replicate N false)) 4)
  have hn7 := heap_alloc_new w7 (.cells (bvs (List.replicate N false)) 4)
  obtain ⟨W8, hW8⟩ : ∃ q, w7.alloc (.cells (bvs (List.replicate N false)) 4) = q := ⟨_, rfl⟩
  obtain ⟨hb, hbe⟩ : ∃ q, w7.heap.size = q := ⟨_, rfl⟩
  rw [hW8] at hmk ha7 hn7
  rw [hbe] at hmk hn7
  have hbl7 : w7.heap.size ≤ hb := by omega
  have f7 : W8.frozen? ⟨hb, s, none⟩ = false := by simp [World.frozen?, hn7]
  have c7 : W8.cell? ⟨hb, s, none⟩ = some (.bool false) := by rw [cell_of_row _ _ _ _ _ _ hn7]; simp [bvs, hs']
  have hn8 : (W8.setCell ⟨hb, s, none⟩ (.bool true)).heap[hb]? = some (.cells (bvs (hasL N l da s 0)) 4 (0, 0)) := by
    rw [hasL_zero N s l da hs', ← bvs_set]
    exact cell_set hn7
  have hb8 : Below w7.heap.size w7 (W8.setCell ⟨hb, s, none⟩ (.bool true)) := ha7.setCell hbl7 _
  have hn8h := Lib.hid hn8
  have hb8h := Lib.hid hb8
  have hlm := Lib.hid r7.out.len
  clear hn7 ha7 hW8 hn8 hb8
  have hbeh := Lib.hid hbe
  clear hbe
  go_wp2_with fail
  clear hmk f7 c7 c0
  go_loopw [12] (fun i wr => ∃ (k : Nat), k ≤ m ∧ i = .int .i64 k ∧ Hid (wr.heap[hb]? = some (.cells (bvs (hasL N l da s k)) 4 (0, 0)) ∧ Below w7.heap.size w7 wr)) (fun i _ => m - (intOf i).toNat)
  case atStart => exact ⟨0, Nat.zero_le _, rfl, hn8h.out, hb8h.out⟩
  case round =>
    clear hn8h hb8h
    obtain ⟨k, hk, rfl, hH⟩ := hrel
    obtain ⟨hcs, hbr⟩ := hH.out
    clear hH
    by_cases hlt : k < m
    · obtain ⟨b, o, x1, x2, x3, rfl, hbs, hx, p1, p2, p3⟩ := r7.out.trip hlt
      have hbsr := Nat.lt_of_lt_of_le hbs hbr.size
      have hbE := hE.out _ (List.mem_of_getElem? hx)
      simp only at hbE
      obtain ⟨i1, rfl⟩ : ∃ i1 : Nat, x1 = i1 := ⟨x1.toNat, by omega⟩
      obtain ⟨i2, rfl⟩ : ∃ i2 : Nat, x2 = i2 := ⟨x2.toNat, by omega⟩
      obtain ⟨u, hu⟩ := hDah.out.get (i := i1) (by omega)
      obtain ⟨y, hy⟩ := hDah.out.get (i := i2) (by omega)
      have hru := hDah.out.rng i1 u hu
      have hrel := hDah.out.rel _ (List.mem_of_getElem? hx) i1 i2 u y rfl rfl hu hy
      simp only at hrel
      have hrow := (hbr.block fa hfal).trans hfah.out
      have mu : wr.cell? ⟨fa, i1, none⟩ = some (.int .i64 u) := by rw [cell_of_row _ _ _ _ _ _ hrow]; simp [hu]
      have my : wr.cell? ⟨fa, i2, none⟩ = some (.int .i64 y) := by rw [cell_of_row _ _ _ _ _ _ hrow]; simp [hy]
      have zfa := Nat.lt_of_lt_of_le hfal hbr.size
      have p1r := (hbr.cell (p := ⟨b, o + k * 3, none⟩) hbs).trans p1
      have p2r := (hbr.cell (p := ⟨b, o + k * 3 + 1, none⟩) hbs).trans p2
      have hi1 : (i1 : Int) < (N : Int) := hbE.2.1
      have hi2 : (i2 : Int) < (N : Int) := hbE.2.2.2.1
      have hkm : (k : Int) < (m : Int) := by omega
      have hwr : IntKind.i64.wrap (u + x3) = u + x3 := by rw [IntKind.wrap_i64]; omega
      have hhit : ∀ i : Nat, hitP da i ((i1 : Int), (i2 : Int), x3) = (decide ((i2 : Int) = (i : Int)) && (decide (u + x3 ≤ 1099511627776) && decide (da[i]?.getD 0 = u + x3))) := fun i => by
        unfold hitP
        simp only [Int.toNat_natCast, hu, Option.getD_some]
      have hxh := Lib.hid hx
      have hhith := Lib.hid hhit
      have hyh := Lib.hid hy
      have hcsh := Lib.hid hcs
      have hbrh := Lib.hid hbr
      have hu0 : decide (u < 0) = false := decide_eq_false (by omega)
      have hzb := (Array.getElem?_eq_some_iff.1 hcs).1
      clear hhit hx hu hy hrow hcs hbr
      go_upto_region 14 with fail
      refine wp_region_below wr.heap.size (by kernel_rfl) (by kernel_rfl) ?_
      intro C hC
      repeat (go_big_quiet_step (first
        | ((intro _; with_reducible rfl))
        | (intro hc; have m0 := (hc.cell (p := ⟨b, o + k * 3, none⟩) hbsr).trans p1r; have m1 := (hc.cell (p := ⟨b, o + k * 3 + 1, none⟩) hbsr).trans p2r; have m2 := (hc.cell (p := ⟨fa, i1, none⟩) zfa).trans mu; have m3 := (hc.cell (p := ⟨fa, i2, none⟩) zfa).trans my; simp only [m0, m1, m2, m3, Result.andThen]; exact ⟨trivial, rfl⟩)))
      refine wpQuiet_nil ?_
      intro w9 hb9
      clear hC
      have hb9' : Below w7.heap.size w7 w9 := hbrh.out.trans (hb9.mono hbrh.out.size)
      have q3 := (hb9'.cell (p := ⟨b, o + k * 3 + 2, none⟩) hbs).trans p3
      have hcs9 := (hb9.block hb hzb).trans hcsh.out
      have hb9h := Lib.hid hb9'
      have hcs9h := Lib.hid hcs9
      clear hb9 hb9' hcsh hbrh p1r p2r mu my hcs9
      by_cases hinf : u = 4611686018427387904
      · have e1 : (u == 4611686018427387904) = true := by simpa using hinf
        have e2 : (u != 4611686018427387904) = false := by simpa using hinf
        have e3 : decide (1099511627776 < u) = true := decide_eq_true (by omega)
        have hno : Hid (hasL N l da s (k + 1) = hasL N l da s k) := hasL_same hxh.out fun i => by rw [hhith.out, decide_eq_false (show ¬ u + x3 ≤ 1099511627776 by omega)]; simp
        clear hinf hru hrel
        go_wp2_with fail
        go_roundw
        case rel => exact ⟨k + 1, by omega, by go_num, by rw [hno.out]; exact hcs9h.out, hb9h.out⟩
        case measure => simp [intOf]; omega
      · have hr := hru.resolve_left hinf
        have e1 : (u == 4611686018427387904) = false := by simpa using hinf
        have e3 : decide (1099511627776 < u) = false := decide_eq_false (by omega)
        by_cases hbig : 1099511627776 < u + x3
        · have e4 : decide (1099511627776 < u + x3) = true := decide_eq_true hbig
          have hno : Hid (hasL N l da s (k + 1) = hasL N l da s k) := hasL_same hxh.out fun i => by rw [hhith.out, decide_eq_false (show ¬ u + x3 ≤ 1099511627776 by omega)]; simp
          clear hinf hru hrel hr hbig
          go_wp2_with fail
          go_roundw
          case rel => exact ⟨k + 1, by omega, by go_num, by rw [hno.out]; exact hcs9h.out, hb9h.out⟩
          case measure => simp [intOf]; omega
        · have e4 : decide (1099511627776 < u + x3) = false := decide_eq_false hbig
          have e5 : decide (u + x3 < y) = false := decide_eq_false (by have := hrel (by omega); omega)
          have hi2N : i2 < N := by omega
          obtain ⟨hv, hhv⟩ : ∃ hv, (hasL N l da s k)[i2]? = some hv := ⟨_, hasL_at hi2N⟩
          obtain ⟨cs', hcs'⟩ : ∃ cs', bvs (hasL N l da s (k + 1)) = cs' := ⟨_, rfl⟩
          have hset : Hid (∀ w : World, w.heap[hb]? = some (.cells (bvs (hasL N l da s k)) 4 (0, 0)) → (w.setCell ⟨hb, i2, none⟩ (.bool (hv || decide (y = u + x3)))).heap[hb]? = some (.cells cs' 4 (0, 0))) := by
            intro w hw
            have e : hasL N l da s (k + 1) = (hasL N l da s k).set i2 (hv || decide (y = u + x3)) := by
              rw [hasL_set hxh.out rfl hi2N hhv, hhith.out, hyh.out, decide_eq_true (show u + x3 ≤ 1099511627776 by omega)]
              simp
            rw [← hcs', e, ← bvs_set]
            exact cell_set hw
          have hcel : Hid (∀ w : World, w.heap[hb]? = some (.cells (bvs (hasL N l da s k)) 4 (0, 0)) → w.cell? ⟨hb, i2, none⟩ = some (.bool hv)) := fun w hw => by rw [cell_of_row _ _ _ _ _ _ hw]; simp [bvs, hhv]
          obtain ⟨cs, hcs⟩ : ∃ cs, bvs (hasL N l da s k) = cs := ⟨_, rfl⟩
          rw [hcs] at hset hcel hcs9h
          have hcsq := Lib.hid hcs
          have hcsq' := Lib.hid hcs'
          have e6 : (y == u + x3) = decide (y = u + x3) := by simp [BEq.beq]
          obtain ⟨yb, hyb⟩ : ∃ yb, decide (y = u + x3) = yb := ⟨_, rfl⟩
          rw [hyb] at hset e6
          clear hinf hru hrel hr hbig hhv hcs hcs' hyb
          cases hv with
          | true =>
            go_upto_region 20 with fail
            refine wp_region_ghost (fun fl x w => Below w7.heap.size w7 w ∧ (fl 26 = false → w.heap[hb]? = some (.cells cs 4 (0, 0))) ∧ (fl 26 = true → fl 13 = true) ∧ (fl 26 = true → w.heap[hb]? = some (.cells cs' 4 (0, 0)))) (by kernel_rfl) (by kernel_rfl) (by kernel_rfl) (by kernel_rfl) (by kernel_rfl) ?_ ?_
            · intro x0
              exact ⟨⟨hb9h.out.os, hb9h.out.tape, hb9h.out.output, hb9h.out.size, hb9h.out.block⟩, fun _ => hcs9h.out, (fun h => by cases h), fun h => by cases h⟩
            intro base O hbase hO
            have kx1 : Hid (∀ xs, evX base O xs (.tmp 1) = .slice (some ⟨b, o, none⟩) m c) := fun xs => by rw [hbase, hO]; rfl
            have kx11 : Hid (∀ xs, evX base O xs (.tmp 11) = .slice (some ⟨hb, 0, none⟩) N N) := fun xs => by rw [hbase, hO]; rfl
            have kx12 : Hid (∀ xs, evX base O xs (.tmp 12) = .int .i64 (k : Int)) := fun xs => by rw [hbase, hO]; rfl
            have kx13 : Hid (∀ xs, evX base O xs (.tmp 13) = .int .i64 u) := fun xs => by rw [hbase, hO]; rfl
            have kx14 : Hid (∀ xs, evX base O xs (.tmp 14) = .int .i64 y) := fun xs => by rw [hbase, hO]; rfl
            have kx126 : Hid (∀ xs, evX base O xs (.tmp 126) = xs 0) := fun xs => by rw [hO]; rfl
            have kx127 : Hid (∀ xs, evX base O xs (.tmp 127) = xs 1) := fun xs => by rw [hO]; rfl
            have kx128 : Hid (∀ xs, evX base O xs (.tmp 128) = xs 2) := fun xs => by rw [hO]; rfl
            have kx129 : Hid (∀ xs, evX base O xs (.tmp 129) = xs 3) := fun xs => by rw [hO]; rfl
            have kx130 : Hid (∀ xs, evX base O xs (.tmp 130) = xs 4) := fun xs => by rw [hO]; rfl
            have kx131 : Hid (∀ xs, evX base O xs (.tmp 131) = xs 5) := fun xs => by rw [hO]; rfl
            have kx132 : Hid (∀ xs, evX base O xs (.tmp 132) = xs 6) := fun xs => by rw [hO]; rfl
            have kx133 : Hid (∀ xs, evX base O xs (.tmp 133) = xs 7) := fun xs => by rw [hO]; rfl
            have kx134 : Hid (∀ xs, evX base O xs (.tmp 134) = xs 8) := fun xs => by rw [hO]; rfl
            have kx135 : Hid (∀ xs, evX base O xs (.tmp 135) = xs 9) := fun xs => by rw [hO]; rfl
            have kx136 : Hid (∀ xs, evX base O xs (.tmp 136) = xs 10) := fun xs => by rw [hO]; rfl
            have kx137 : Hid (∀ xs, evX base O xs (.tmp 137) = xs 11) := fun xs => by rw [hO]; rfl
            have kx138 : Hid (∀ xs, evX base O xs (.tmp 138) = xs 12) := fun xs => by rw [hO]; rfl
            have kx139 : Hid (∀ xs, evX base O xs (.tmp 139) = xs 13) := fun xs => by rw [hO]; rfl
            have kx140 : Hid (∀ xs, evX base O xs (.tmp 140) = xs 14) := fun xs => by rw [hO]; rfl
            have kx141 : Hid (∀ xs, evX base O xs (.tmp 141) = xs 15) := fun xs => by rw [hO]; rfl
            have kx142 : Hid (∀ xs, evX base O xs (.tmp 142) = xs 16) := fun xs => by rw [hO]; rfl
            have kx143 : Hid (∀ xs, evX base O xs (.tmp 143) = xs 17) := fun xs => by rw [hO]; rfl
            have kx144 : Hid (∀ xs, evX base O xs (.tmp 144) = xs 18) := fun xs => by rw [hO]; rfl
            have kx145 : Hid (∀ xs, evX base O xs (.tmp 145) = xs 19) := fun xs => by rw [hO]; rfl
            have kx146 : Hid (∀ xs, evX base O xs (.tmp 146) = xs 20) := fun xs => by rw [hO]; rfl
            have kx147 : Hid (∀ xs, evX base O xs (.tmp 147) = xs 21) := fun xs => by rw [hO]; rfl
            have kx148 : Hid (∀ xs, evX base O xs (.tmp 148) = xs 22) := fun xs => by rw [hO]; rfl
            have kx149 : Hid (∀ xs, evX base O xs (.tmp 149) = xs 23) := fun xs => by rw [hO]; rfl
            have kx150 : Hid (∀ xs, evX base O xs (.tmp 150) = xs 24) := fun xs => by rw [hO]; rfl
            have kx151 : Hid (∀ xs, evX base O xs (.tmp 151) = xs 25) := fun xs => by rw [hO]; rfl
            clear hbase hO
            apply gh_det (n := 0)
            · intro fl xs w ev hG hD hl hdone hev K hK
              have e11 := (hev (.tmp 11)).trans (kx11.out xs)
              rw [if_pos (wantedX_none rfl)]
              have ef : ∀ f, ev (.func f) = .func (.func f) #[] #[] := fun f => (hev _).trans rfl
              clear hev hD
              go_simp
              exact hK _ _ rfl hG
            apply gh_det (n := 1)
            · intro fl xs w ev hG hD hl hdone hev K hK
              have e1 := (hev (.tmp 1)).trans (kx1.out xs)
              rw [if_pos (wantedX_none rfl)]
              have ef : ∀ f, ev (.func f) = .func (.func f) #[] #[] := fun f => (hev _).trans rfl
              clear hev hD
              go_simp
              exact hK _ _ rfl hG
            apply gh_det (n := 2)
            · intro fl xs w ev hG hD hl hdone hev K hK
              have e12 := (hev (.tmp 12)).trans (kx12.out xs)
              rw [if_pos (wantedX_none rfl)]
              have ef : ∀ f, ev (.func f) = .func (.func f) #[] #[] := fun f => (hev _).trans rfl
              clear hev hD
              go_simp
              exact hK _ _ rfl hG
            apply gh_det (n := 3)
            · intro fl xs w ev hG hD hl hdone hev K hK
              have e127 := (hev (.tmp 127)).trans (kx127.out xs)
              have d1 := hD.at_ 1 rfl rfl
              replace e127 := e127.trans d1
              have e128 := (hev (.tmp 128)).trans (kx128.out xs)
              have d2 := hD.at_ 2 rfl rfl
              replace e128 := e128.trans d2
              rw [if_pos (wantedX_none rfl)]
              have ef : ∀ f, ev (.func f) = .func (.func f) #[] #[] := fun f => (hev _).trans rfl
              clear hev hD
              go_simp
              exact hK _ _ rfl hG
            apply gh_det (n := 4)
            · intro fl xs w ev hG hD hl hdone hev K hK
              have e129 := (hev (.tmp 129)).trans (kx129.out xs)
              have d3 := hD.at_ 3 rfl rfl
              replace e129 := e129.trans d3
              rw [if_pos (wantedX_none rfl)]
              have ef : ∀ f, ev (.func f) = .func (.func f) #[] #[] := fun f => (hev _).trans rfl
              clear hev hD
              go_simp
              exact hK _ _ rfl hG
            apply gh_det (n := 5)
            · intro fl xs w ev hG hD hl hdone hev K hK
              have e130 := (hev (.tmp 130)).trans (kx130.out xs)
              have d4 := hD.at_ 4 rfl rfl
              replace e130 := e130.trans d4
              rw [if_pos (wantedX_none rfl)]
              have ef : ∀ f, ev (.func f) = .func (.func f) #[] #[] := fun f => (hev _).trans rfl
              clear hev hD
              have m0 := (hG.1.cell (p := ⟨b, o + k * 3 + 1, none⟩) hbs).trans p2
              go_simp
              exact hK _ _ rfl hG
            apply gh_det (n := 6)
            · intro fl xs w ev hG hD hl hdone hev K hK
              have e11 := (hev (.tmp 11)).trans (kx11.out xs)
              rw [if_pos (wantedX_none rfl)]
              have ef : ∀ f, ev (.func f) = .func (.func f) #[] #[] := fun f => (hev _).trans rfl
              clear hev hD
              go_simp
              exact hK _ _ rfl hG
            apply gh_det (n := 7)
            · intro fl xs w ev hG hD hl hdone hev K hK
              have e1 := (hev (.tmp 1)).trans (kx1.out xs)
              rw [if_pos (wantedX_none rfl)]
              have ef : ∀ f, ev (.func f) = .func (.func f) #[] #[] := fun f => (hev _).trans rfl
              clear hev hD
              go_simp
              exact hK _ _ rfl hG
            apply gh_det (n := 8)
            · intro fl xs w ev hG hD hl hdone hev K hK
              have e12 := (hev (.tmp 12)).trans (kx12.out xs)
              rw [if_pos (wantedX_none rfl)]
              have ef : ∀ f, ev (.func f) = .func (.func f) #[] #[] := fun f => (hev _).trans rfl
              clear hev hD
              go_simp
              exact hK _ _ rfl hG
            apply gh_det (n := 9)
            · intro fl xs w ev hG hD hl hdone hev K hK
              have e133 := (hev (.tmp 133)).trans (kx133.out xs)
              have d7 := hD.at_ 7 rfl rfl
              replace e133 := e133.trans d7
              have e134 := (hev (.tmp 134)).trans (kx134.out xs)
              have d8 := hD.at_ 8 rfl rfl
              replace e134 := e134.trans d8
              rw [if_pos (wantedX_none rfl)]
              have ef : ∀ f, ev (.func f) = .func (.func f) #[] #[] := fun f => (hev _).trans rfl
              clear hev hD
              go_simp
              exact hK _ _ rfl hG
            apply gh_det (n := 10)
            · intro fl xs w ev hG hD hl hdone hev K hK
              have e135 := (hev (.tmp 135)).trans (kx135.out xs)
              have d9 := hD.at_ 9 rfl rfl
              replace e135 := e135.trans d9
              rw [if_pos (wantedX_none rfl)]
              have ef : ∀ f, ev (.func f) = .func (.func f) #[] #[] := fun f => (hev _).trans rfl
              clear hev hD
              go_simp
              exact hK _ _ rfl hG
            apply gh_det (n := 11)
            · intro fl xs w ev hG hD hl hdone hev K hK
              have e136 := (hev (.tmp 136)).trans (kx136.out xs)
              have d10 := hD.at_ 10 rfl rfl
              replace e136 := e136.trans d10
              rw [if_pos (wantedX_none rfl)]
              have ef : ∀ f, ev (.func f) = .func (.func f) #[] #[] := fun f => (hev _).trans rfl
              clear hev hD
              have m0 := (hG.1.cell (p := ⟨b, o + k * 3 + 1, none⟩) hbs).trans p2
              go_simp
              exact hK _ _ rfl hG
            apply gh_det (n := 12)
            · intro fl xs w ev hG hD hl hdone hev K hK
              have e132 := (hev (.tmp 132)).trans (kx132.out xs)
              have d6 := hD.at_ 6 rfl rfl
              replace e132 := e132.trans d6
              have e137 := (hev (.tmp 137)).trans (kx137.out xs)
              have d11 := hD.at_ 11 rfl rfl
              replace e137 := e137.trans d11
              rw [if_pos (wantedX_none rfl)]
              have ef : ∀ f, ev (.func f) = .func (.func f) #[] #[] := fun f => (hev _).trans rfl
              clear hev hD
              go_simp
              exact hK _ _ rfl hG
            apply gh_det (n := 13)
            · intro fl xs w ev hG hD hl hdone hev K hK
              have e138 := (hev (.tmp 138)).trans (kx138.out xs)
              have d12 := hD.at_ 12 rfl rfl
              replace e138 := e138.trans d12
              rw [if_pos (wantedX_none rfl)]
              have ef : ∀ f, ev (.func f) = .func (.func f) #[] #[] := fun f => (hev _).trans rfl
              clear hev hD
              have m0 := hcel.out _ (hG.2.1 (by cases h26 : fl 26 with | false => rfl | true => exact absurd (hG.2.2.1 h26) (by rw [hl]; decide)))
              go_simp
              exact hK _ _ rfl ⟨hG.1, hG.2.1, fun _ => rfl, hG.2.2.2⟩
            apply gh_det (n := 14)
            · intro fl xs w ev hG hD hl hdone hev K hK
              have e139 := (hev (.tmp 139)).trans (kx139.out xs)
              have d13 := hD.at_ 13 rfl rfl
              replace e139 := e139.trans d13
              rw [if_pos (wantedX_none rfl)]
              have ef : ∀ f, ev (.func f) = .func (.func f) #[] #[] := fun f => (hev _).trans rfl
              clear hev hD
              go_simp
              exact hK _ _ rfl hG
            apply gh_det (n := 15)
            · intro fl xs w ev hG hD hl hdone hev K hK
              have e14 := (hev (.tmp 14)).trans (kx14.out xs)
              have dg := hD.at_ 14 rfl rfl
              rw [if_neg (Bool.eq_false_iff.1 (wantedX_no 14 true rfl dg))]
              exact hK _ _ rfl hG
            apply gh_det (n := 16)
            · intro fl xs w ev hG hD hl hdone hev K hK
              have e13 := (hev (.tmp 13)).trans (kx13.out xs)
              have dg := hD.at_ 14 rfl rfl
              rw [if_neg (Bool.eq_false_iff.1 (wantedX_no 14 true rfl dg))]
              exact hK _ _ rfl hG
            apply gh_det (n := 17)
            · intro fl xs w ev hG hD hl hdone hev K hK
              have e1 := (hev (.tmp 1)).trans (kx1.out xs)
              have dg := hD.at_ 14 rfl rfl
              rw [if_neg (Bool.eq_false_iff.1 (wantedX_no 14 true rfl dg))]
              exact hK _ _ rfl hG
            apply gh_det (n := 18)
            · intro fl xs w ev hG hD hl hdone hev K hK
              have e12 := (hev (.tmp 12)).trans (kx12.out xs)
              have dg := hD.at_ 14 rfl rfl
              rw [if_neg (Bool.eq_false_iff.1 (wantedX_no 14 true rfl dg))]
              exact hK _ _ rfl hG
            apply gh_det (n := 19)
            · intro fl xs w ev hG hD hl hdone hev K hK
              have e143 := (hev (.tmp 143)).trans (kx143.out xs)
              have d17 := hD.at_ 17 rfl rfl
              replace e143 := e143.trans d17
              have e144 := (hev (.tmp 144)).trans (kx144.out xs)
              have d18 := hD.at_ 18 rfl rfl
              replace e144 := e144.trans d18
              have dg := hD.at_ 14 rfl rfl
              rw [if_neg (Bool.eq_false_iff.1 (wantedX_no 14 true rfl dg))]
              exact hK _ _ rfl hG
            apply gh_det (n := 20)
            · intro fl xs w ev hG hD hl hdone hev K hK
              have e145 := (hev (.tmp 145)).trans (kx145.out xs)
              have d19 := hD.at_ 19 rfl rfl
              replace e145 := e145.trans d19
              have dg := hD.at_ 14 rfl rfl
              rw [if_neg (Bool.eq_false_iff.1 (wantedX_no 14 true rfl dg))]
              exact hK _ _ rfl hG
            apply gh_det (n := 21)
            · intro fl xs w ev hG hD hl hdone hev K hK
              have e146 := (hev (.tmp 146)).trans (kx146.out xs)
              have d20 := hD.at_ 20 rfl rfl
              replace e146 := e146.trans d20
              have dg := hD.at_ 14 rfl rfl
              rw [if_neg (Bool.eq_false_iff.1 (wantedX_no 14 true rfl dg))]
              exact hK _ _ rfl hG
            apply gh_det (n := 22)
            · intro fl xs w ev hG hD hl hdone hev K hK
              have e142 := (hev (.tmp 142)).trans (kx142.out xs)
              have d16 := hD.at_ 16 rfl rfl
              replace e142 := e142.trans d16
              have e147 := (hev (.tmp 147)).trans (kx147.out xs)
              have d21 := hD.at_ 21 rfl rfl
              replace e147 := e147.trans d21
              have dg := hD.at_ 14 rfl rfl
              rw [if_neg (Bool.eq_false_iff.1 (wantedX_no 14 true rfl dg))]
              exact hK _ _ rfl hG
            apply gh_det (n := 23)
            · intro fl xs w ev hG hD hl hdone hev K hK
              have e141 := (hev (.tmp 141)).trans (kx141.out xs)
              have d15 := hD.at_ 15 rfl rfl
              replace e141 := e141.trans d15
              have e148 := (hev (.tmp 148)).trans (kx148.out xs)
              have d22 := hD.at_ 22 rfl rfl
              replace e148 := e148.trans d22
              have dg := hD.at_ 14 rfl rfl
              rw [if_neg (Bool.eq_false_iff.1 (wantedX_no 14 true rfl dg))]
              exact hK _ _ rfl hG
            apply gh_det (n := 24)
            · intro fl xs w ev hG hD hl hdone hev K hK
              have e140 := (hev (.tmp 140)).trans (kx140.out xs)
              have d14 := hD.at_ 14 rfl rfl
              replace e140 := e140.trans d14
              have e149 := (hev (.tmp 149)).trans (kx149.out xs)
              have d23 := hD.at_ 23 rfl rfl
              replace e149 := e149.trans d23
              rw [if_pos (wantedX_none rfl)]
              have ef : ∀ f, ev (.func f) = .func (.func f) #[] #[] := fun f => (hev _).trans rfl
              have ec : ∀ v, ev (.const v) = v := fun v => (hev _).trans rfl
              clear hev hD
              go_simp
              exact hK _ _ rfl hG
            apply gh_det (n := 25)
            · intro fl xs w ev hG hD hl hdone hev K hK
              have e126 := (hev (.tmp 126)).trans (kx126.out xs)
              have d0 := hD.at_ 0 rfl rfl
              replace e126 := e126.trans d0
              have e131 := (hev (.tmp 131)).trans (kx131.out xs)
              have d5 := hD.at_ 5 rfl rfl
              replace e131 := e131.trans d5
              rw [if_pos (wantedX_none rfl)]
              have ef : ∀ f, ev (.func f) = .func (.func f) #[] #[] := fun f => (hev _).trans rfl
              clear hev hD
              go_simp
              exact hK _ _ rfl hG
            refine gh_any (n := 26) (fun _ => True) ?_ ?_
            · intro fl xs w ev hG hD hl hdone hev K hK
              have e151 := (hev (.tmp 151)).trans (kx151.out xs)
              have d25 := hD.at_ 25 rfl rfl
              replace e151 := e151.trans d25
              have e150 := (hev (.tmp 150)).trans (kx150.out xs)
              have d24 := hD.at_ 24 rfl rfl
              replace e150 := e150.trans d24
              rw [if_pos (wantedX_none rfl)]
              have ef : ∀ f, ev (.func f) = .func (.func f) #[] #[] := fun f => (hev _).trans rfl
              clear hev hD
              have hcw := hG.2.1 hl
              have m0 := hcel.out _ hcw
              have f0 : w.frozen? ⟨hb, i2, none⟩ = false := by simp [World.frozen?, hcw]
              have hgo := hset.out _ hcw
              go_simp
              exact hK _ _ trivial ⟨hG.1.setCell hbl7 _, (fun h => by cases h), fun _ => done_of hdone 13 rfl, fun _ => hgo⟩
            intro xs w10 hG hx
            obtain ⟨hGb, _, _, hG2⟩ := hG
            have hG3 := hG2 rfl
            have hfin : Hid (w10.heap[hb]? = some (.cells (bvs (hasL N l da s (k + 1))) 4 (0, 0)) ∧ Below w7.heap.size w7 w10) := ⟨by rw [hcsq'.out]; exact hG3, hGb⟩
            clear hG2 hG3 hGb hx
            simp only [List.append_eq, List.cons_append, List.nil_append, setAll, List.setIfInBounds_toArray, List.set_cons_zero, List.set_cons_succ]
            go_wp2_with fail
            go_roundw
            case rel => exact ⟨k + 1, by omega, by go_num, hfin.out⟩
            case measure => simp [intOf]; omega
          | false =>
            go_upto_region 20 with fail
            refine wp_region_ghost (fun fl x w => Below w7.heap.size w7 w ∧ (fl 26 = false → w.heap[hb]? = some (.cells cs 4 (0, 0))) ∧ (fl 26 = true → fl 13 = true) ∧ (fl 26 = true → w.heap[hb]? = some (.cells cs' 4 (0, 0)))) (by kernel_rfl) (by kernel_rfl) (by kernel_rfl) (by kernel_rfl) (by kernel_rfl) ?_ ?_
            · intro x0
              exact ⟨⟨hb9h.out.os, hb9h.out.tape, hb9h.out.output, hb9h.out.size, hb9h.out.block⟩, fun _ => hcs9h.out, (fun h => by cases h), fun h => by cases h⟩
            intro base O hbase hO
            have kx1 : Hid (∀ xs, evX base O xs (.tmp 1) = .slice (some ⟨b, o, none⟩) m c) := fun xs => by rw [hbase, hO]; rfl
            have kx11 : Hid (∀ xs, evX base O xs (.tmp 11) = .slice (some ⟨hb, 0, none⟩) N N) := fun xs => by rw [hbase, hO]; rfl
            have kx12 : Hid (∀ xs, evX base O xs (.tmp 12) = .int .i64 (k : Int)) := fun xs => by rw [hbase, hO]; rfl
            have kx13 : Hid (∀ xs, evX base O xs (.tmp 13) = .int .i64 u) := fun xs => by rw [hbase, hO]; rfl
            have kx14 : Hid (∀ xs, evX base O xs (.tmp 14) = .int .i64 y) := fun xs => by rw [hbase, hO]; rfl
            have kx126 : Hid (∀ xs, evX base O xs (.tmp 126) = xs 0) := fun xs => by rw [hO]; rfl
            have kx127 : Hid (∀ xs, evX base O xs (.tmp 127) = xs 1) := fun xs => by rw [hO]; rfl
            have kx128 : Hid (∀ xs, evX base O xs (.tmp 128) = xs 2) := fun xs => by rw [hO]; rfl
            have kx129 : Hid (∀ xs, evX base O xs (.tmp 129) = xs 3) := fun xs => by rw [hO]; rfl
            have kx130 : Hid (∀ xs, evX base O xs (.tmp 130) = xs 4) := fun xs => by rw [hO]; rfl
            have kx131 : Hid (∀ xs, evX base O xs (.tmp 131) = xs 5) := fun xs => by rw [hO]; rfl
            have kx132 : Hid (∀ xs, evX base O xs (.tmp 132) = xs 6) := fun xs => by rw [hO]; rfl
            have kx133 : Hid (∀ xs, evX base O xs (.tmp 133) = xs 7) := fun xs => by rw [hO]; rfl
            have kx134 : Hid (∀ xs, evX base O xs (.tmp 134) = xs 8) := fun xs => by rw [hO]; rfl
            have kx135 : Hid (∀ xs, evX base O xs (.tmp 135) = xs 9) := fun xs => by rw [hO]; rfl
            have kx136 : Hid (∀ xs, evX base O xs (.tmp 136) = xs 10) := fun xs => by rw [hO]; rfl
            have kx137 : Hid (∀ xs, evX base O xs (.tmp 137) = xs 11) := fun xs => by rw [hO]; rfl
            have kx138 : Hid (∀ xs, evX base O xs (.tmp 138) = xs 12) := fun xs => by rw [hO]; rfl
            have kx139 : Hid (∀ xs, evX base O xs (.tmp 139) = xs 13) := fun xs => by rw [hO]; rfl
            have kx140 : Hid (∀ xs, evX base O xs (.tmp 140) = xs 14) := fun xs => by rw [hO]; rfl
            have kx141 : Hid (∀ xs, evX base O xs (.tmp 141) = xs 15) := fun xs => by rw [hO]; rfl
            have kx142 : Hid (∀ xs, evX base O xs (.tmp 142) = xs 16) := fun xs => by rw [hO]; rfl
            have kx143 : Hid (∀ xs, evX base O xs (.tmp 143) = xs 17) := fun xs => by rw [hO]; rfl
            have kx144 : Hid (∀ xs, evX base O xs (.tmp 144) = xs 18) := fun xs => by rw [hO]; rfl
            have kx145 : Hid (∀ xs, evX base O xs (.tmp 145) = xs 19) := fun xs => by rw [hO]; rfl
            have kx146 : Hid (∀ xs, evX base O xs (.tmp 146) = xs 20) := fun xs => by rw [hO]; rfl
            have kx147 : Hid (∀ xs, evX base O xs (.tmp 147) = xs 21) := fun xs => by rw [hO]; rfl
            have kx148 : Hid (∀ xs, evX base O xs (.tmp 148) = xs 22) := fun xs => by rw [hO]; rfl
            have kx149 : Hid (∀ xs, evX base O xs (.tmp 149) = xs 23) := fun xs => by rw [hO]; rfl
            have kx150 : Hid (∀ xs, evX base O xs (.tmp 150) = xs 24) := fun xs => by rw [hO]; rfl
            have kx151 : Hid (∀ xs, evX base O xs (.tmp 151) = xs 25) := fun xs => by rw [hO]; rfl
            clear hbase hO
            apply gh_det (n := 0)
            · intro fl xs w ev hG hD hl hdone hev K hK
              have e11 := (hev (.tmp 11)).trans (kx11.out xs)
              rw [if_pos (wantedX_none rfl)]
              have ef : ∀ f, ev (.func f) = .func (.func f) #[] #[] := fun f => (hev _).trans rfl
              clear hev hD
              go_simp
              exact hK _ _ rfl hG
            apply gh_det (n := 1)
            · intro fl xs w ev hG hD hl hdone hev K hK
              have e1 := (hev (.tmp 1)).trans (kx1.out xs)
              rw [if_pos (wantedX_none rfl)]
              have ef : ∀ f, ev (.func f) = .func (.func f) #[] #[] := fun f => (hev _).trans rfl
              clear hev hD
              go_simp
              exact hK _ _ rfl hG
            apply gh_det (n := 2)
            · intro fl xs w ev hG hD hl hdone hev K hK
              have e12 := (hev (.tmp 12)).trans (kx12.out xs)
              rw [if_pos (wantedX_none rfl)]
              have ef : ∀ f, ev (.func f) = .func (.func f) #[] #[] := fun f => (hev _).trans rfl
              clear hev hD
              go_simp
              exact hK _ _ rfl hG
            apply gh_det (n := 3)
            · intro fl xs w ev hG hD hl hdone hev K hK
              have e127 := (hev (.tmp 127)).trans (kx127.out xs)
              have d1 := hD.at_ 1 rfl rfl
              replace e127 := e127.trans d1
              have e128 := (hev (.tmp 128)).trans (kx128.out xs)
              have d2 := hD.at_ 2 rfl rfl
              replace e128 := e128.trans d2
              rw [if_pos (wantedX_none rfl)]
              have ef : ∀ f, ev (.func f) = .func (.func f) #[] #[] := fun f => (hev _).trans rfl
              clear hev hD
              go_simp
              exact hK _ _ rfl hG
            apply gh_det (n := 4)
            · intro fl xs w ev hG hD hl hdone hev K hK
              have e129 := (hev (.tmp 129)).trans (kx129.out xs)
              have d3 := hD.at_ 3 rfl rfl
              replace e129 := e129.trans d3
              rw [if_pos (wantedX_none rfl)]
              have ef : ∀ f, ev (.func f) = .func (.func f) #[] #[] := fun f => (hev _).trans rfl
              clear hev hD
              go_simp
              exact hK _ _ rfl hG
            apply gh_det (n := 5)
            · intro fl xs w ev hG hD hl hdone hev K hK
              have e130 := (hev (.tmp 130)).trans (kx130.out xs)
              have d4 := hD.at_ 4 rfl rfl
              replace e130 := e130.trans d4
              rw [if_pos (wantedX_none rfl)]
              have ef : ∀ f, ev (.func f) = .func (.func f) #[] #[] := fun f => (hev _).trans rfl
              clear hev hD
              have m0 := (hG.1.cell (p := ⟨b, o + k * 3 + 1, none⟩) hbs).trans p2
              go_simp
              exact hK _ _ rfl hG
            apply gh_det (n := 6)
            · intro fl xs w ev hG hD hl hdone hev K hK
              have e11 := (hev (.tmp 11)).trans (kx11.out xs)
              rw [if_pos (wantedX_none rfl)]
              have ef : ∀ f, ev (.func f) = .func (.func f) #[] #[] := fun f => (hev _).trans rfl
              clear hev hD
              go_simp
              exact hK _ _ rfl hG
            apply gh_det (n := 7)
            · intro fl xs w ev hG hD hl hdone hev K hK
              have e1 := (hev (.tmp 1)).trans (kx1.out xs)
              rw [if_pos (wantedX_none rfl)]
              have ef : ∀ f, ev (.func f) = .func (.func f) #[] #[] := fun f => (hev _).trans rfl
              clear hev hD
              go_simp
              exact hK _ _ rfl hG
            apply gh_det (n := 8)
            · intro fl xs w ev hG hD hl hdone hev K hK
              have e12 := (hev (.tmp 12)).trans (kx12.out xs)
              rw [if_pos (wantedX_none rfl)]
              have ef : ∀ f, ev (.func f) = .func (.func f) #[] #[] := fun f => (hev _).trans rfl
              clear hev hD
              go_simp
              exact hK _ _ rfl hG
            apply gh_det (n := 9)
            · intro fl xs w ev hG hD hl hdone hev K hK
              have e133 := (hev (.tmp 133)).trans (kx133.out xs)
              have d7 := hD.at_ 7 rfl rfl
              replace e133 := e133.trans d7
              have e134 := (hev (.tmp 134)).trans (kx134.out xs)
              have d8 := hD.at_ 8 rfl rfl
              replace e134 := e134.trans d8
              rw [if_pos (wantedX_none rfl)]
              have ef : ∀ f, ev (.func f) = .func (.func f) #[] #[] := fun f => (hev _).trans rfl
              clear hev hD
              go_simp
              exact hK _ _ rfl hG
            apply gh_det (n := 10)
            · intro fl xs w ev hG hD hl hdone hev K hK
              have e135 := (hev (.tmp 135)).trans (kx135.out xs)
              have d9 := hD.at_ 9 rfl rfl
              replace e135 := e135.trans d9
              rw [if_pos (wantedX_none rfl)]
              have ef : ∀ f, ev (.func f) = .func (.func f) #[] #[] := fun f => (hev _).trans rfl
              clear hev hD
              go_simp
              exact hK _ _ rfl hG
            apply gh_det (n := 11)
            · intro fl xs w ev hG hD hl hdone hev K hK
              have e136 := (hev (.tmp 136)).trans (kx136.out xs)
              have d10 := hD.at_ 10 rfl rfl
              replace e136 := e136.trans d10
              rw [if_pos (wantedX_none rfl)]
              have ef : ∀ f, ev (.func f) = .func (.func f) #[] #[] := fun f => (hev _).trans rfl
              clear hev hD
              have m0 := (hG.1.cell (p := ⟨b, o + k * 3 + 1, none⟩) hbs).trans p2
              go_simp
              exact hK _ _ rfl hG
            apply gh_det (n := 12)
            · intro fl xs w ev hG hD hl hdone hev K hK
              have e132 := (hev (.tmp 132)).trans (kx132.out xs)
              have d6 := hD.at_ 6 rfl rfl
              replace e132 := e132.trans d6
              have e137 := (hev (.tmp 137)).trans (kx137.out xs)
              have d11 := hD.at_ 11 rfl rfl
              replace e137 := e137.trans d11
              rw [if_pos (wantedX_none rfl)]
              have ef : ∀ f, ev (.func f) = .func (.func f) #[] #[] := fun f => (hev _).trans rfl
              clear hev hD
              go_simp
              exact hK _ _ rfl hG
            apply gh_det (n := 13)
            · intro fl xs w ev hG hD hl hdone hev K hK
              have e138 := (hev (.tmp 138)).trans (kx138.out xs)
              have d12 := hD.at_ 12 rfl rfl
              replace e138 := e138.trans d12
              rw [if_pos (wantedX_none rfl)]
              have ef : ∀ f, ev (.func f) = .func (.func f) #[] #[] := fun f => (hev _).trans rfl
              clear hev hD
              have m0 := hcel.out _ (hG.2.1 (by cases h26 : fl 26 with | false => rfl | true => exact absurd (hG.2.2.1 h26) (by rw [hl]; decide)))
              go_simp
              exact hK _ _ rfl ⟨hG.1, hG.2.1, fun _ => rfl, hG.2.2.2⟩
            apply gh_det (n := 14)
            · intro fl xs w ev hG hD hl hdone hev K hK
              have e139 := (hev (.tmp 139)).trans (kx139.out xs)
              have d13 := hD.at_ 13 rfl rfl
              replace e139 := e139.trans d13
              rw [if_pos (wantedX_none rfl)]
              have ef : ∀ f, ev (.func f) = .func (.func f) #[] #[] := fun f => (hev _).trans rfl
              clear hev hD
              go_simp
              exact hK _ _ rfl hG
            apply gh_det (n := 15)
            · intro fl xs w ev hG hD hl hdone hev K hK
              have e14 := (hev (.tmp 14)).trans (kx14.out xs)
              have dg := hD.at_ 14 rfl rfl
              rw [if_pos (wantedX_yes 14 false rfl dg)]
              have ef : ∀ f, ev (.func f) = .func (.func f) #[] #[] := fun f => (hev _).trans rfl
              clear hev hD
              go_simp
              exact hK _ _ rfl hG
            apply gh_det (n := 16)
            · intro fl xs w ev hG hD hl hdone hev K hK
              have e13 := (hev (.tmp 13)).trans (kx13.out xs)
              have dg := hD.at_ 14 rfl rfl
              rw [if_pos (wantedX_yes 14 false rfl dg)]
              have ef : ∀ f, ev (.func f) = .func (.func f) #[] #[] := fun f => (hev _).trans rfl
              clear hev hD
              go_simp
              exact hK _ _ rfl hG
            apply gh_det (n := 17)
            · intro fl xs w ev hG hD hl hdone hev K hK
              have e1 := (hev (.tmp 1)).trans (kx1.out xs)
              have dg := hD.at_ 14 rfl rfl
              rw [if_pos (wantedX_yes 14 false rfl dg)]
              have ef : ∀ f, ev (.func f) = .func (.func f) #[] #[] := fun f => (hev _).trans rfl
              clear hev hD
              go_simp
              exact hK _ _ rfl hG
            apply gh_det (n := 18)
            · intro fl xs w ev hG hD hl hdone hev K hK
              have e12 := (hev (.tmp 12)).trans (kx12.out xs)
              have dg := hD.at_ 14 rfl rfl
              rw [if_pos (wantedX_yes 14 false rfl dg)]
              have ef : ∀ f, ev (.func f) = .func (.func f) #[] #[] := fun f => (hev _).trans rfl
              clear hev hD
              go_simp
              exact hK _ _ rfl hG
            apply gh_det (n := 19)
            · intro fl xs w ev hG hD hl hdone hev K hK
              have e143 := (hev (.tmp 143)).trans (kx143.out xs)
              have d17 := hD.at_ 17 rfl rfl
              replace e143 := e143.trans d17
              have e144 := (hev (.tmp 144)).trans (kx144.out xs)
              have d18 := hD.at_ 18 rfl rfl
              replace e144 := e144.trans d18
              have dg := hD.at_ 14 rfl rfl
              rw [if_pos (wantedX_yes 14 false rfl dg)]
              have ef : ∀ f, ev (.func f) = .func (.func f) #[] #[] := fun f => (hev _).trans rfl
              clear hev hD
              go_simp
              exact hK _ _ rfl hG
            apply gh_det (n := 20)
            · intro fl xs w ev hG hD hl hdone hev K hK
              have e145 := (hev (.tmp 145)).trans (kx145.out xs)
              have d19 := hD.at_ 19 rfl rfl
              replace e145 := e145.trans d19
              have dg := hD.at_ 14 rfl rfl
              rw [if_pos (wantedX_yes 14 false rfl dg)]
              have ef : ∀ f, ev (.func f) = .func (.func f) #[] #[] := fun f => (hev _).trans rfl
              clear hev hD
              go_simp
              exact hK _ _ rfl hG
            apply gh_det (n := 21)
            · intro fl xs w ev hG hD hl hdone hev K hK
              have e146 := (hev (.tmp 146)).trans (kx146.out xs)
              have d20 := hD.at_ 20 rfl rfl
              replace e146 := e146.trans d20
              have dg := hD.at_ 14 rfl rfl
              rw [if_pos (wantedX_yes 14 false rfl dg)]
              have ef : ∀ f, ev (.func f) = .func (.func f) #[] #[] := fun f => (hev _).trans rfl
              clear hev hD
              have m0 := (hG.1.cell (p := ⟨b, o + k * 3 + 2, none⟩) hbs).trans p3
              go_simp
              exact hK _ _ rfl hG
            apply gh_det (n := 22)
            · intro fl xs w ev hG hD hl hdone hev K hK
              have e142 := (hev (.tmp 142)).trans (kx142.out xs)
              have d16 := hD.at_ 16 rfl rfl
              replace e142 := e142.trans d16
              have e147 := (hev (.tmp 147)).trans (kx147.out xs)
              have d21 := hD.at_ 21 rfl rfl
              replace e147 := e147.trans d21
              have dg := hD.at_ 14 rfl rfl
              rw [if_pos (wantedX_yes 14 false rfl dg)]
              have ef : ∀ f, ev (.func f) = .func (.func f) #[] #[] := fun f => (hev _).trans rfl
              clear hev hD
              go_simp
              exact hK _ _ rfl hG
            apply gh_det (n := 23)
            · intro fl xs w ev hG hD hl hdone hev K hK
              have e141 := (hev (.tmp 141)).trans (kx141.out xs)
              have d15 := hD.at_ 15 rfl rfl
              replace e141 := e141.trans d15
              have e148 := (hev (.tmp 148)).trans (kx148.out xs)
              have d22 := hD.at_ 22 rfl rfl
              replace e148 := e148.trans d22
              have dg := hD.at_ 14 rfl rfl
              rw [if_pos (wantedX_yes 14 false rfl dg)]
              have ef : ∀ f, ev (.func f) = .func (.func f) #[] #[] := fun f => (hev _).trans rfl
              clear hev hD
              go_simp
              exact hK _ _ rfl hG
            apply gh_det (n := 24)
            · intro fl xs w ev hG hD hl hdone hev K hK
              have e140 := (hev (.tmp 140)).trans (kx140.out xs)
              have d14 := hD.at_ 14 rfl rfl
              replace e140 := e140.trans d14
              have e149 := (hev (.tmp 149)).trans (kx149.out xs)
              have d23 := hD.at_ 23 rfl rfl
              replace e149 := e149.trans d23
              rw [if_pos (wantedX_none rfl)]
              have ef : ∀ f, ev (.func f) = .func (.func f) #[] #[] := fun f => (hev _).trans rfl
              have ec : ∀ v, ev (.const v) = v := fun v => (hev _).trans rfl
              clear hev hD
              go_simp
              exact hK _ _ rfl hG
            apply gh_det (n := 25)
            · intro fl xs w ev hG hD hl hdone hev K hK
              have e126 := (hev (.tmp 126)).trans (kx126.out xs)
              have d0 := hD.at_ 0 rfl rfl
              replace e126 := e126.trans d0
              have e131 := (hev (.tmp 131)).trans (kx131.out xs)
              have d5 := hD.at_ 5 rfl rfl
              replace e131 := e131.trans d5
              rw [if_pos (wantedX_none rfl)]
              have ef : ∀ f, ev (.func f) = .func (.func f) #[] #[] := fun f => (hev _).trans rfl
              clear hev hD
              go_simp
              exact hK _ _ rfl hG
            refine gh_any (n := 26) (fun _ => True) ?_ ?_
            · intro fl xs w ev hG hD hl hdone hev K hK
              have e151 := (hev (.tmp 151)).trans (kx151.out xs)
              have d25 := hD.at_ 25 rfl rfl
              replace e151 := e151.trans d25
              have e150 := (hev (.tmp 150)).trans (kx150.out xs)
              have d24 := hD.at_ 24 rfl rfl
              replace e150 := e150.trans d24
              rw [if_pos (wantedX_none rfl)]
              have ef : ∀ f, ev (.func f) = .func (.func f) #[] #[] := fun f => (hev _).trans rfl
              clear hev hD
              have hcw := hG.2.1 hl
              have m0 := hcel.out _ hcw
              have f0 : w.frozen? ⟨hb, i2, none⟩ = false := by simp [World.frozen?, hcw]
              have hgo := hset.out _ hcw
              go_simp
              exact hK _ _ trivial ⟨hG.1.setCell hbl7 _, (fun h => by cases h), fun _ => done_of hdone 13 rfl, fun _ => hgo⟩
            intro xs w10 hG hx
            obtain ⟨hGb, _, _, hG2⟩ := hG
            have hG3 := hG2 rfl
            have hfin : Hid (w10.heap[hb]? = some (.cells (bvs (hasL N l da s (k + 1))) 4 (0, 0)) ∧ Below w7.heap.size w7 w10) := ⟨by rw [hcsq'.out]; exact hG3, hGb⟩
            clear hG2 hG3 hGb hx
            simp only [List.append_eq, List.cons_append, List.nil_append, setAll, List.setIfInBounds_toArray, List.set_cons_zero, List.set_cons_succ]
            go_wp2_with fail
            go_roundw
            case rel => exact ⟨k + 1, by omega, by go_num, hfin.out⟩
            case measure => simp [intOf]; omega
    · obtain rfl : k = m := by omega
      have hall := hcs
      rw [← hlm.out] at hall
      have hasH : Hid (∀ (i : Nat) (v : Int), da[i]? = some v → wr.cell? ⟨hb, i, none⟩ = some (.bool (decide (v ≠ 4611686018427387904)))) := fun i v hv => by
        have h1 := hasL_all hDah.out hE.out hv
        rw [cell_of_row _ _ _ _ _ _ hall]
        simp only [bvs, List.getElem?_toArray, List.getElem?_map, h1, Option.map_some]
      have hbl : hb < wr.heap.size := (Array.getElem?_eq_some_iff.1 hcs).1
      have hbrh := Lib.hid hbr
      have hfaw := Lib.hid ((hbr.block fa hfal).trans hfah.out)
      have hfalw := Nat.lt_of_lt_of_le hfal hbr.size
      have rL := Lib.hid (r7.out.below hbr)
      have hbwL := Lib.hid (hbw7.out.trans (hbr.mono hbw7.out.size))
      clear hcs hall hbr hbrh
      obtain ⟨wl, hwl⟩ : ∃ q, wr = q := ⟨_, rfl⟩
      rw [hwl] at hasH hbl hfaw hfalw rL hbwL ⊢
      clear hwl
      go_wp2_with fail
      go_loopw [15] (fun i wq => ∃ (j : Nat), j ≤ N ∧ i = .int .i64 j ∧ Below wl.heap.size wl wq) (fun i _ => N - (intOf i).toNat)
      case atStart => exact ⟨0, Nat.zero_le _, rfl, Below.refl _ _⟩
      case round =>
        obtain ⟨j, hj, rfl, hbq⟩ := hrel
        by_cases hlj : j < N
        · obtain ⟨u, hu⟩ := hDah.out.get hlj
          have mu : wr.cell? ⟨fa, j, none⟩ = some (.int .i64 u) := by rw [cell_of_row _ _ _ _ _ _ ((hbq.block fa hfalw).trans hfaw.out)]; simp [hu]
          have mv := (hbq.cell (p := ⟨hb, j, none⟩) hbl).trans (hasH.out j u hu)
          have zfa := Nat.lt_of_lt_of_le hfalw hbq.size
          have zfb := Nat.lt_of_lt_of_le hbl hbq.size
          have hbqh := Lib.hid hbq
          have hlj2 : (j : Int) < (N : Int) := by omega
          clear hbq hu
          by_cases hinf : u = 4611686018427387904
          · have e1 : (u == 4611686018427387904) = true := by simpa using hinf
            rw [decide_eq_false (fun h => h hinf)] at mv
            clear hinf
            go_wp2_with fail
            go_upto_region 24 with fail
            refine wp_region_below wr.heap.size (by kernel_rfl) (by kernel_rfl) ?_
            intro C hC
            repeat (go_big_quiet_step (first
              | ((intro _; with_reducible rfl))
              | (intro hc; have m0 := (hc.cell (p := ⟨fa, j, none⟩) zfa).trans mu; have m1 := (hc.cell (p := ⟨hb, j, none⟩) zfb).trans mv; simp only [m0, m1, Result.andThen]; exact ⟨trivial, rfl⟩)))
            refine wpQuiet_nil ?_
            intro w9 hb9
            clear hC
            have hfin : Hid (Below wl.heap.size wl w9) := hbqh.out.trans (hb9.mono hbqh.out.size)
            clear hb9
            go_wp2_with fail
            go_roundw
            case rel => exact ⟨j + 1, by omega, by go_num, hfin.out⟩
            case measure => simp [intOf]; omega
          · have e1 : (u == 4611686018427387904) = false := by simpa using hinf
            rw [decide_eq_true hinf] at mv
            clear hinf
            go_wp2_with fail
            go_upto_region 24 with fail
            refine wp_region_below wr.heap.size (by kernel_rfl) (by kernel_rfl) ?_
            intro C hC
            repeat (go_big_quiet_step (first
              | ((intro _; with_reducible rfl))
              | (intro hc; have m0 := (hc.cell (p := ⟨fa, j, none⟩) zfa).trans mu; have m1 := (hc.cell (p := ⟨hb, j, none⟩) zfb).trans mv; simp only [m0, m1, Result.andThen]; exact ⟨trivial, rfl⟩)))
            refine wpQuiet_nil ?_
            intro w9 hb9
            clear hC
            have hfin : Hid (Below wl.heap.size wl w9) := hbqh.out.trans (hb9.mono hbqh.out.size)
            clear hb9
            go_wp2_with fail
            go_roundw
            case rel => exact ⟨j + 1, by omega, by go_num, hfin.out⟩
            case measure => simp [intOf]; omega
        · have hbqh := Lib.hid hbq
          have hlj2 : decide ((j : Int) < (N : Int)) = false := decide_eq_false (by omega)
          have hW := Lib.hid (Way_ok (c := c) N s t (rL.out.below hbq) (by omega) hch.out hs' ht')
          clear hbq
          go_wp2_with fail
          refine hW.out.mono ?_; rintro e w10 ⟨d1, hD1, hb10, hW1⟩
          obtain rfl := hDah.out.uniq hE.out hD1
          have hb8 := hbqh.out.trans (hb10.mono hbqh.out.size)
          have r10 := rL.out.below hb8
          have hbw10 := Lib.hid (hbwL.out.trans (hb8.mono hbwL.out.size))
          have hfa10 := (hb8.block fa hfalw).trans hfaw.out
          obtain ⟨vt, hvt⟩ := hDah.out.get ht'
          have mt : w10.cell? ⟨fa, t, none⟩ = some (.int .i64 vt) := by rw [cell_of_row _ _ _ _ _ _ hfa10]; simp [hvt]
          have r10h := Lib.hid r10
          have hfa10h := Lib.hid hfa10
          have hfa10l := (Array.getElem?_eq_some_iff.1 hfa10).1
          have hvth := Lib.hid hvt
          clear hW hD1 hb10 hb8 r10 hfa10 hbqh
          rcases hW1 with ⟨hi, rfl⟩ | ⟨hi, A1, cc1, O1, hO1, rfl, hl1, rW1⟩
          · rw [hvt] at hi
            obtain rfl := Option.some.inj hi
            clear hi hvt
            go_wp2_with fail
            go_returns
            exact ⟨rfl, hbw10.out⟩
          · have hvn : vt ≠ 4611686018427387904 := fun e => hi (by rw [hvt, e])
            have e1 : (vt == 4611686018427387904) = false := by simpa using hvn
            have rW1h := Lib.hid rW1
            have hO1h := Lib.hid hO1
            clear rW1 hO1 hi hvt hvn
            go_wp2_with fail
            go_loopw [18, 19, 20] (fun a sm i wq => ∃ (j p : Nat) (u : Int), j ≤ O1.length ∧ a = .int .i64 p ∧ sm = .int .i64 u ∧ i = .int .i64 j ∧ Hid (WayTo l da s p (O1.reverse.take j).reverse ∧ da[p]? = some u ∧ Below w10.heap.size w10 wq)) (fun _ _ i _ => O1.length - (intOf i).toNat)
            case atStart => exact ⟨0, s, 0, Nat.zero_le _, rfl, rfl, rfl, .nil, hDah.out.s0, Below.refl _ _⟩
            case round =>
              obtain ⟨j, p, u, hjl, rfl, rfl, rfl, hH⟩ := hrel
              obtain ⟨hwp, hup, hbz⟩ := hH.out
              clear hH
              by_cases hlz : j < O1.length
              · obtain ⟨b2, o2, rfl, hbs2, hc2⟩ := rW1h.out.cells (by omega)
                obtain ⟨z, hz⟩ : ∃ z, O1.reverse[j]? = some z := ⟨O1.reverse[j]'(by simp; omega), List.getElem?_eq_getElem _⟩
                obtain ⟨k2, t1, ed, v, rfl, hx, he1, he2, hv1, hsum, hwn⟩ := WayTo.walk hE.out hDah.out hO1h.out hz hwp hup
                have k2m : k2 < k := by rw [← hlm.out]; exact (List.getElem?_eq_some_iff.1 hx).1
                obtain ⟨b, o, x1, x2, x3, rfl, hbs, hx', p1, p2, p3⟩ := r10h.out.trip k2m
                rw [hx] at hx'
                obtain rfl := Option.some.inj hx'
                simp only at he1 he2 hsum
                subst he1 he2
                have pz := (hbz.cell (p := ⟨b2, o2 + j, none⟩) hbs2).trans (by have := hc2 j _ hz 0 _ rfl; simpa using this)
                have q1 := (hbz.cell (p := ⟨b, o + k2 * 3, none⟩) hbs).trans p1
                have q2 := (hbz.cell (p := ⟨b, o + k2 * 3 + 1, none⟩) hbs).trans p2
                have q3 := (hbz.cell (p := ⟨b, o + k2 * 3 + 2, none⟩) hbs).trans p3
                have zb := Nat.lt_of_lt_of_le hbs hbz.size
                have zb2 := Nat.lt_of_lt_of_le hbs2 hbz.size
                have hrv := hDah.out.rng t1 v hv1
                have hbd := hE.out _ (List.mem_of_getElem? hx)
                have hru := hDah.out.rng p u hup
                simp only at hbd
                have hwr : IntKind.i64.wrap (u + x3) = v := by rw [IntKind.wrap_i64]; omega
                have d1 : decide ((k2 : Int) < 0) = false := decide_eq_false (by omega)
                have d2 : decide ((k : Int) ≤ (k2 : Int)) = false := decide_eq_false (by omega)
                have d3 : ((p : Int) != (p : Int)) = false := by simp
                have d4 : (k2 : Int) < (k : Int) := by omega
                have d5 : (j : Int) < (O1.length : Int) := by omega
                have hnx := Lib.hid (show WayTo l da s t1 (O1.reverse.take (j + 1)).reverse ∧ da[t1]? = some v from ⟨hwn, hv1⟩)
                have hbzh := Lib.hid hbz
                clear hwn hv1 hrv hbd hru hbz hwp hup p1 p2 p3 hx hx' hz hc2 hsum
                go_wp2_with fail
                go_upto_region 35 with fail
                refine wp_region_below wr.heap.size (by kernel_rfl) (by kernel_rfl) ?_
                intro C hC
                repeat (go_big_quiet_step (first
                  | ((intro _; with_reducible rfl))
                  | (intro hc; have m0 := (hc.cell (p := ⟨b2, o2 + j, none⟩) zb2).trans pz; have m1 := (hc.cell (p := ⟨b, o + k2 * 3 + 1, none⟩) zb).trans q2; have m2 := (hc.cell (p := ⟨b, o + k2 * 3 + 2, none⟩) zb).trans q3; simp only [m0, m1, m2, Result.andThen]; exact ⟨trivial, rfl⟩)))
                refine wpQuiet_nil ?_
                intro w9 hb9
                clear hC
                have hfin : Hid (Below w10.heap.size w10 w9) := hbzh.out.trans (hb9.mono hbzh.out.size)
                clear hb9
                go_wp2_with fail
                go_roundw
                case rel => exact ⟨j + 1, t1, v, by omega, by go_num, by go_num, by go_num, hnx.out.1, hnx.out.2, hfin.out⟩
                case measure => simp [intOf]; omega
              · obtain rfl : j = O1.length := by omega
                rw [List.take_of_length_le (by simp), List.reverse_reverse] at hwp
                obtain rfl := hwp.at_uniq hO1h.out
                rw [hvth.out] at hup
                obtain rfl := Option.some.inj hup
                have mt2 := (hbz.cell (p := ⟨fa, p, none⟩) hfa10l).trans mt
                have hbzh := Lib.hid (hbw10.out.trans (hbz.mono hbw10.out.size))
                have d1 : ((p : Int) == (p : Int)) = true := by simp
                have d2 : (vt == vt) = true := by simp
                have d5 : decide ((O1.length : Int) < (O1.length : Int)) = false := decide_eq_false (by omega)
                clear hbz hwp hup mt
                go_wp2_with fail
                go_returns
                exact ⟨rfl, hbzh.out⟩
end Go.Proofs.Ytapfndjaimfcaaa
