/-
  Walk: the reference's search, from (gen8.py).
-/
import Derived.Test.YtapfndjaimfcaaaBf
import Derived.Test.YtapfndjaimfcaaaKit13
namespace Go.Proofs.Ytapfndjaimfcaaa
open Go.RowKit Go.Shelf B K
set_option linter.unusedVariables false
set_option linter.unusedSimpArgs false
set_option maxHeartbeats 4000000
def ivs (l : List Int) : Array Value := (l.map (Value.int .i64)).toArray
theorem ivs_set (l : List Int) (i : Nat) (b : Int) : (ivs l).setIfInBounds i (.int .i64 b) = ivs (l.set i b) := by
  unfold ivs
  rw [List.map_set]
  simp
theorem cell_put {w : World} {b i : Nat} {cs : Array Value} {t : TypeId} {v : Value} (h : w.heap[b]? = some (.cells cs t (0, 0))) : (w.setCell ⟨b, i, none⟩ v).heap[b]? = some (.cells (cs.setIfInBounds i v) t (0, 0)) := by
  have hlt := (Array.getElem?_eq_some_iff.1 h).1
  have e : w.heap[b] = .cells cs t (0, 0) := by rw [Array.getElem?_eq_getElem hlt] at h; exact Option.some.inj h
  simp [World.setCell, hlt, Array.getElem_modify, e]
theorem ivs_cell {w : World} {b i : Nat} {l : List Int} {v : Int} (h : w.heap[b]? = some (.cells (ivs l) 2 (0, 0))) (hv : l[i]? = some v) : w.cell? ⟨b, i, none⟩ = some (.int .i64 v) := by
  rw [cell_of_row _ _ _ _ _ _ h]; simp [ivs, hv]
theorem ivs_free {w : World} {b i : Nat} {l : List Int} (h : w.heap[b]? = some (.cells (ivs l) 2 (0, 0))) : w.frozen? ⟨b, i, none⟩ = false := by simp [World.frozen?, h]
theorem make_i64s (n : Nat) (hn : n ≤ 4096) (W : World) : (Instr.makeSlice 27 (.int .i64 (n : Int)) (.int .i64 (n : Int))).run Try.prog W = .ok (.slice (some ⟨W.heap.size, 0, none⟩) n n) (W.alloc (.cells (ivs (List.replicate n 0)) 2)) := by
  obtain ⟨i, hi, hz, hs, hb⟩ := info_parts (show (Try.prog.info? 2).map (fun i => (i.zero, i.size, i.bytes)) = some (some (.int .i64 0), 1, 8) by kernel_rfl)
  have := run_make W 27 2 i _ Try.underlying27 hi hz .i64 .i64 (n : Int) (n : Int) (by omega) (Int.le_refl _) (by rw [hb]; omega) (by omega)
  rw [hs] at this
  have e : ivs (List.replicate n 0) = madeCells #[.int .i64 0] n := by
    unfold ivs
    rw [List.map_replicate, ← toList_madeCells_one]
  rw [e]
  simpa [Value.cells] using this
def filL (n k : Nat) (v : Int) : List Int := List.replicate k v ++ List.replicate (n - k) 0
theorem filL_at {n k : Nat} {v : Int} (h : k < n) : (filL n k v)[k]? = some 0 := by
  unfold filL
  rw [List.getElem?_append_right (by simp), List.getElem?_replicate, if_pos (by simp only [List.length_replicate]; omega)]
theorem filL_set {n k : Nat} {v : Int} (h : k < n) : (filL n k v).set k v = filL n (k + 1) v := by
  unfold filL
  rw [List.set_append_right _ _ (by simp)]
  obtain ⟨q, hq⟩ : ∃ q, n - k = q + 1 := ⟨n - k - 1, by omega⟩
  have hq2 : n - (k + 1) = q := by omega
  rw [hq, hq2, List.length_replicate, Nat.sub_self, List.replicate_succ, List.set_cons_zero, List.replicate_succ' (n := k), List.append_assoc]
  rfl
set_option maxRecDepth 100000 in
theorem rfrom_any (N s : Nat) (A : Option Addr) (m c : Nat) (l : List Ed) (D : List Int) (w : World) (hr : Rd w 3 tripE A m l) (hm : m ≤ 4096) (hE : EdsOk N l) (hs : s < N) (hN : N ≤ 256) (hD : IsDist N l s D) :
    Calls Try.prog 51 #[.int .i64 N, .slice A m c, .int .i64 s] w fun e w' => ∃ fb, e = .returned (.slice (some ⟨fb, 0, none⟩) N N) ∧ w.heap.size ≤ fb ∧ w'.heap[fb]? = some (.cells (ivs D) 2 (0, 0)) ∧ Below w.heap.size w w' := by
  have hmk := make_i64s N (by omega) w
  have ha := (Below.refl _ w).alloc (Nat.le_refl w.heap.size) (.cells (ivs (List.replicate N 0)) 2)
  have hn := heap_alloc_new w (.cells (ivs (List.replicate N 0)) 2)
  obtain ⟨fb, hfb⟩ : ∃ q, w.heap.size = q := ⟨_, rfl⟩
  obtain ⟨W1, hW1⟩ : ∃ q, w.alloc (.cells (ivs (List.replicate N 0)) 2) = q := ⟨_, rfl⟩
  rw [hW1] at hmk ha hn
  rw [hfb] at hmk hn
  have hle : w.heap.size ≤ fb := by omega
  have hrh := Lib.hid hr
  have hDh := Lib.hid hD
  have hEh := Lib.hid hE
  have hlh := Lib.hid hr.len
  have hnh := Lib.hid hn
  have hah := Lib.hid ha
  have hfbh := Lib.hid hfb
  clear hr hD hE hn ha hW1 hfb
  go_enter Try.func51, Try.ntmps51
  go_wp2_with fail
  clear hmk
  go_loopw [8] (fun i wr => ∃ (k : Nat), k ≤ N ∧ i = .int .i64 k ∧ Hid (wr.heap[fb]? = some (.cells (ivs (filL N k 4611686018427387904)) 2 (0, 0)) ∧ Below w.heap.size w wr)) (fun i _ => N - (intOf i).toNat)
  case atStart => exact ⟨0, Nat.zero_le _, rfl, hnh.out, hah.out⟩
  case round =>
    clear hnh hah
    obtain ⟨k, hk, rfl, hH⟩ := hrel
    obtain ⟨hcs, hb⟩ := hH.out
    clear hH
    by_cases hlt : k < N
    · have m0 := ivs_cell hcs (filL_at hlt)
      have f0 : wr.frozen? ⟨fb, k, none⟩ = false := ivs_free hcs
      have hkN : (k : Int) < (N : Int) := by omega
      have hfin : Hid ((wr.setCell ⟨fb, k, none⟩ (.int .i64 4611686018427387904)).heap[fb]? = some (.cells (ivs (filL N (k + 1) 4611686018427387904)) 2 (0, 0)) ∧ Below w.heap.size w (wr.setCell ⟨fb, k, none⟩ (.int .i64 4611686018427387904))) :=
        ⟨by rw [← filL_set hlt, ← ivs_set]; exact cell_put hcs, hb.setCell hle _⟩
      clear hcs hb
      go_wp2_with fail
      go_roundw
      case rel => exact ⟨k + 1, by omega, by go_num, hfin⟩
      case measure => simp [intOf]; omega
    · obtain rfl : k = N := by omega
      have hfl : filL k k 4611686018427387904 = List.replicate k (4611686018427387904 : Int) := by unfold filL; rw [Nat.sub_self, List.replicate_zero, List.append_nil]
      rw [hfl] at hcs
      have m0 : wr.cell? ⟨fb, s, none⟩ = some (.int .i64 4611686018427387904) := ivs_cell hcs (by rw [List.getElem?_replicate, if_pos hs])
      have f0 : wr.frozen? ⟨fb, s, none⟩ = false := ivs_free hcs
      have hsN : (s : Int) < (k : Int) := by omega
      have hkN : decide ((k : Int) < (k : Int)) = false := decide_eq_false (by omega)
      have hst : Hid ((wr.setCell ⟨fb, s, none⟩ (.int .i64 0)).heap[fb]? = some (.cells (ivs ((List.replicate k (4611686018427387904 : Int)).set s 0)) 2 (0, 0)) ∧ Below w.heap.size w (wr.setCell ⟨fb, s, none⟩ (.int .i64 0))) :=
        ⟨by rw [← ivs_set]; exact cell_put hcs, hb.setCell hle _⟩
      clear hcs hb hfl
      go_wp2_with fail
      go_loopw [9] (fun i wq => ∃ (r : Nat) (d : List Int), r ≤ k ∧ i = .int .i64 r ∧ Hid (BF k l s D r 0 d ∧ wq.heap[fb]? = some (.cells (ivs d) 2 (0, 0)) ∧ Below w.heap.size w wq)) (fun i _ => k - (intOf i).toNat)
      case atStart => exact ⟨0, _, Nat.zero_le _, rfl, BF.start hDh.out hEh.out hs, hst.out.1, hst.out.2⟩
      case round =>
        clear hst m0 f0 hkN
        obtain ⟨r, d, hrk, rfl, hH⟩ := hrel
        by_cases hrlt : r < k
        · have hrN : (r : Int) < (k : Int) := by omega
          go_wp2_with fail
          go_loopw [10] (fun i wc => ∃ (j : Nat) (d : List Int), j ≤ m ∧ i = .int .i64 j ∧ Hid (BF k l s D r j d ∧ wc.heap[fb]? = some (.cells (ivs d) 2 (0, 0)) ∧ Below w.heap.size w wc)) (fun i _ => m - (intOf i).toNat)
          case atStart => exact ⟨0, d, Nat.zero_le _, rfl, hH.out⟩
          case round =>
            clear hH
            clear d
            obtain ⟨j, d, hj, rfl, hH⟩ := hrel
            obtain ⟨hB, hcs, hb⟩ := hH.out
            clear hH
            by_cases hjm : j < m
            · obtain ⟨b, o, x1, x2, x3, rfl, hbs, hx, p1, p2, p3⟩ := (hrh.out.below hb).trip hjm
              have hbE := hEh.out _ (List.mem_of_getElem? hx)
              simp only at hbE
              obtain ⟨i1, rfl⟩ : ∃ i1 : Nat, x1 = i1 := ⟨x1.toNat, by omega⟩
              obtain ⟨i2, rfl⟩ : ∃ i2 : Nat, x2 = i2 := ⟨x2.toNat, by omega⟩
              have hjN : (j : Int) < (m : Int) := by omega
              have hbx := (Below.refl _ wr).alloc (Nat.le_refl wr.heap.size) (.cells #[.int .i64 (i1 : Int), .int .i64 (i2 : Int), .int .i64 x3] 32)
              have bx := Bx3.new wr 32 (i1 : Int) (i2 : Int) x3
              obtain ⟨wc, hwc⟩ : ∃ q, wr.alloc (.cells #[.int .i64 (i1 : Int), .int .i64 (i2 : Int), .int .i64 x3] 32) = q := ⟨_, rfl⟩
              obtain ⟨eb, heb⟩ : ∃ q, wr.heap.size = q := ⟨_, rfl⟩
              have hfl : fb < eb := by rw [← heb]; exact (Array.getElem?_eq_some_iff.1 hcs).1
              rw [hwc] at hbx bx
              rw [heb] at hbx bx
              obtain ⟨x, hx1⟩ : ∃ x, d[i1]? = some x := ⟨d[i1]'(by rw [hB.len]; omega), List.getElem?_eq_getElem _⟩
              obtain ⟨y, hy1⟩ : ∃ y, d[i2]? = some y := ⟨d[i2]'(by rw [hB.len]; omega), List.getElem?_eq_getElem _⟩
              have hcsc := (hbx.block fb hfl).trans hcs
              have mx := ivs_cell hcsc hx1
              have my := ivs_cell hcsc hy1
              have hrx := hB.rng i1 x hx1
              have zeb := bx.lt
              have zfb : fb < wc.heap.size := by omega
              have e0 := bx.c0
              have e1 := bx.c1
              have e2 := bx.c2
              have hi1 : (i1 : Int) < (k : Int) := hbE.2.1
              have hi2 : (i2 : Int) < (k : Int) := hbE.2.2.2.1
              have hbc := hb.trans (hbx.mono (by have := hb.size; omega))
              have w1 : IntKind.i64.wrap (1099511627776 - x3) = 1099511627776 - x3 := by rw [IntKind.wrap_i64]; omega
              have hxh := Lib.hid hx
              have hBh := Lib.hid hB
              have hcsh := Lib.hid hcsc
              have hbch := Lib.hid hbc
              have hx1h := Lib.hid hx1
              have hy1h := Lib.hid hy1
              have hbEh := Lib.hid hbE.2.2.2.2.1
              have hlo := hbE.2.2.2.2.2
              clear hx hB hcs hcsc hb hbc hbx bx hx1 hy1 hbE
              by_cases hg1 : x ≤ 1099511627776 - x3
              · have g1 : decide (x ≤ 1099511627776 - x3) = true := decide_eq_true hg1
                have w2 : IntKind.i64.wrap (x + x3) = x + x3 := by rw [IntKind.wrap_i64]; omega
                by_cases hg2 : x + x3 < y
                · have g2 : decide (x + x3 < y) = true := decide_eq_true hg2
                  have hnx := Lib.hid (hBh.out.turn hEh.out hDh.out hxh.out rfl rfl hx1h.out hy1h.out hg1 hg2)
                  clear hrx hg1 hg2 hlo
                  go_wp2_with fail
                  go_upto_region 14 with fail
                  refine wp_region_below wc.heap.size (by kernel_rfl) (by kernel_rfl) ?_
                  intro C hC
                  repeat (go_big_quiet_step (first
                    | ((intro _; with_reducible rfl))
                    | (intro hc; have m0 := (hc.cell (p := ⟨eb, 0, none⟩) zeb).trans e0; have m1 := (hc.cell (p := ⟨eb, 1, none⟩) zeb).trans e1; have m2 := (hc.cell (p := ⟨eb, 2, none⟩) zeb).trans e2; have m3 := (hc.cell (p := ⟨fb, i1, none⟩) zfb).trans mx; have m4 := (hc.cell (p := ⟨fb, i2, none⟩) zfb).trans my; simp only [m0, m1, m2, m3, m4, Result.andThen]; exact ⟨trivial, rfl⟩)))
                  refine wpQuiet_nil ?_
                  intro w9 hb9
                  clear hC
                  have zeb9 := Nat.lt_of_lt_of_le zeb hb9.size
                  have e09 := (hb9.cell (p := ⟨eb, 0, none⟩) zeb).trans e0
                  have e19 := (hb9.cell (p := ⟨eb, 1, none⟩) zeb).trans e1
                  have e29 := (hb9.cell (p := ⟨eb, 2, none⟩) zeb).trans e2
                  have hcs9 := (hb9.block fb zfb).trans hcsh.out
                  have hbw9 := Lib.hid (hbch.out.trans (hb9.mono hbch.out.size))
                  have nef : eb ∉ [fb] := by simp; omega
                  have hcel : Hid (∀ w : World, w.heap[fb]? = some (.cells (ivs d) 2 (0, 0)) → w.cell? ⟨fb, i1, none⟩ = some (.int .i64 x)) := fun w hw => ivs_cell hw hx1h.out
                  have hcel2 : Hid (∀ w : World, w.heap[fb]? = some (.cells (ivs d) 2 (0, 0)) → w.cell? ⟨fb, i2, none⟩ = some (.int .i64 y)) := fun w hw => ivs_cell hw hy1h.out
                  have hset : Hid (∀ w : World, w.heap[fb]? = some (.cells (ivs d) 2 (0, 0)) → (w.setCell ⟨fb, i2, none⟩ (.int .i64 (x + x3))).heap[fb]? = some (.cells (ivs (d.set i2 (x + x3))) 2 (0, 0))) := fun w hw => by rw [← ivs_set]; exact cell_put hw
                  obtain ⟨cs, hcsq⟩ : ∃ cs, ivs d = cs := ⟨_, rfl⟩
                  obtain ⟨cs', hcsq'⟩ : ∃ cs', ivs (d.set i2 (x + x3)) = cs' := ⟨_, rfl⟩
                  rw [hcsq] at hcel hcel2 hset hcs9
                  rw [hcsq'] at hset
                  have hcs9h := Lib.hid hcs9
                  have hq' := Lib.hid hcsq'
                  clear hb9 e0 e1 e2 hcs9 hcsq hcsq' mx my zeb
                  go_wp2_with fail
                  go_upto_region 15 with fail
                  refine wp_region_ghost (fun fl x w => But w9 w [fb] ∧ (fl 12 = false → w.heap[fb]? = some (.cells cs 2 (0, 0))) ∧ (fl 12 = true → fl 7 = true) ∧ (fl 12 = true → w.heap[fb]? = some (.cells cs' 2 (0, 0)))) (by kernel_rfl) (by kernel_rfl) (by kernel_rfl) (by kernel_rfl) (by kernel_rfl) ?_ ?_
                  · intro x0
                    exact ⟨⟨rfl, rfl, rfl, Nat.le_refl _, fun _ _ _ => rfl⟩, fun _ => hcs9h.out, (fun h => by cases h), fun h => by cases h⟩
                  intro base O hbase hO
                  have kx7 : Hid (∀ xs, evX base O xs (.tmp 7) = .slice (some ⟨fb, 0, none⟩) k k) := fun xs => by rw [hbase, hO]; rfl
                  have kx11 : Hid (∀ xs, evX base O xs (.tmp 11) = .pointer (some ⟨eb, 0, none⟩)) := fun xs => by rw [hbase, hO]; rfl
                  have kx65 : Hid (∀ xs, evX base O xs (.tmp 65) = xs 0) := fun xs => by rw [hO]; rfl
                  have kx66 : Hid (∀ xs, evX base O xs (.tmp 66) = xs 1) := fun xs => by rw [hO]; rfl
                  have kx67 : Hid (∀ xs, evX base O xs (.tmp 67) = xs 2) := fun xs => by rw [hO]; rfl
                  have kx68 : Hid (∀ xs, evX base O xs (.tmp 68) = xs 3) := fun xs => by rw [hO]; rfl
                  have kx69 : Hid (∀ xs, evX base O xs (.tmp 69) = xs 4) := fun xs => by rw [hO]; rfl
                  have kx70 : Hid (∀ xs, evX base O xs (.tmp 70) = xs 5) := fun xs => by rw [hO]; rfl
                  have kx71 : Hid (∀ xs, evX base O xs (.tmp 71) = xs 6) := fun xs => by rw [hO]; rfl
                  have kx72 : Hid (∀ xs, evX base O xs (.tmp 72) = xs 7) := fun xs => by rw [hO]; rfl
                  have kx73 : Hid (∀ xs, evX base O xs (.tmp 73) = xs 8) := fun xs => by rw [hO]; rfl
                  have kx74 : Hid (∀ xs, evX base O xs (.tmp 74) = xs 9) := fun xs => by rw [hO]; rfl
                  have kx75 : Hid (∀ xs, evX base O xs (.tmp 75) = xs 10) := fun xs => by rw [hO]; rfl
                  have kx76 : Hid (∀ xs, evX base O xs (.tmp 76) = xs 11) := fun xs => by rw [hO]; rfl
                  clear hbase hO
                  apply gh_det (n := 0)
                  · intro fl xs w ev hG hD hl hdone hev K hK
                    have e7 := (hev (.tmp 7)).trans (kx7.out xs)
                    rw [if_pos (wantedX_none rfl)]
                    have ef : ∀ f, ev (.func f) = .func (.func f) #[] #[] := fun f => (hev _).trans rfl
                    clear hev hD
                    go_simp
                    exact hK _ _ rfl hG
                  apply gh_det (n := 1)
                  · intro fl xs w ev hG hD hl hdone hev K hK
                    have e11 := (hev (.tmp 11)).trans (kx11.out xs)
                    rw [if_pos (wantedX_none rfl)]
                    have ef : ∀ f, ev (.func f) = .func (.func f) #[] #[] := fun f => (hev _).trans rfl
                    clear hev hD
                    go_simp
                    exact hK _ _ rfl hG
                  apply gh_det (n := 2)
                  · intro fl xs w ev hG hD hl hdone hev K hK
                    have e66 := (hev (.tmp 66)).trans (kx66.out xs)
                    have d1 := hD.at_ 1 rfl rfl
                    replace e66 := e66.trans d1
                    rw [if_pos (wantedX_none rfl)]
                    have ef : ∀ f, ev (.func f) = .func (.func f) #[] #[] := fun f => (hev _).trans rfl
                    clear hev hD
                    have m0 := (hG.1.cell (p := ⟨eb, 1, none⟩) zeb9 nef).trans e19
                    go_simp
                    exact hK _ _ rfl hG
                  apply gh_det (n := 3)
                  · intro fl xs w ev hG hD hl hdone hev K hK
                    have e7 := (hev (.tmp 7)).trans (kx7.out xs)
                    rw [if_pos (wantedX_none rfl)]
                    have ef : ∀ f, ev (.func f) = .func (.func f) #[] #[] := fun f => (hev _).trans rfl
                    clear hev hD
                    go_simp
                    exact hK _ _ rfl hG
                  apply gh_det (n := 4)
                  · intro fl xs w ev hG hD hl hdone hev K hK
                    have e11 := (hev (.tmp 11)).trans (kx11.out xs)
                    rw [if_pos (wantedX_none rfl)]
                    have ef : ∀ f, ev (.func f) = .func (.func f) #[] #[] := fun f => (hev _).trans rfl
                    clear hev hD
                    go_simp
                    exact hK _ _ rfl hG
                  apply gh_det (n := 5)
                  · intro fl xs w ev hG hD hl hdone hev K hK
                    have e69 := (hev (.tmp 69)).trans (kx69.out xs)
                    have d4 := hD.at_ 4 rfl rfl
                    replace e69 := e69.trans d4
                    rw [if_pos (wantedX_none rfl)]
                    have ef : ∀ f, ev (.func f) = .func (.func f) #[] #[] := fun f => (hev _).trans rfl
                    clear hev hD
                    have m0 := (hG.1.cell (p := ⟨eb, 0, none⟩) zeb9 nef).trans e09
                    go_simp
                    exact hK _ _ rfl hG
                  apply gh_det (n := 6)
                  · intro fl xs w ev hG hD hl hdone hev K hK
                    have e68 := (hev (.tmp 68)).trans (kx68.out xs)
                    have d3 := hD.at_ 3 rfl rfl
                    replace e68 := e68.trans d3
                    have e70 := (hev (.tmp 70)).trans (kx70.out xs)
                    have d5 := hD.at_ 5 rfl rfl
                    replace e70 := e70.trans d5
                    rw [if_pos (wantedX_none rfl)]
                    have ef : ∀ f, ev (.func f) = .func (.func f) #[] #[] := fun f => (hev _).trans rfl
                    clear hev hD
                    go_simp
                    exact hK _ _ rfl hG
                  apply gh_det (n := 7)
                  · intro fl xs w ev hG hD hl hdone hev K hK
                    have e71 := (hev (.tmp 71)).trans (kx71.out xs)
                    have d6 := hD.at_ 6 rfl rfl
                    replace e71 := e71.trans d6
                    rw [if_pos (wantedX_none rfl)]
                    have ef : ∀ f, ev (.func f) = .func (.func f) #[] #[] := fun f => (hev _).trans rfl
                    clear hev hD
                    have m0 := hcel.out _ (hG.2.1 (by cases h12 : fl 12 with | false => rfl | true => exact absurd (hG.2.2.1 h12) (by rw [hl]; decide)))
                    go_simp
                    exact hK _ _ rfl ⟨hG.1, hG.2.1, fun _ => rfl, hG.2.2.2⟩
                  apply gh_det (n := 8)
                  · intro fl xs w ev hG hD hl hdone hev K hK
                    have e11 := (hev (.tmp 11)).trans (kx11.out xs)
                    rw [if_pos (wantedX_none rfl)]
                    have ef : ∀ f, ev (.func f) = .func (.func f) #[] #[] := fun f => (hev _).trans rfl
                    clear hev hD
                    go_simp
                    exact hK _ _ rfl hG
                  apply gh_det (n := 9)
                  · intro fl xs w ev hG hD hl hdone hev K hK
                    have e73 := (hev (.tmp 73)).trans (kx73.out xs)
                    have d8 := hD.at_ 8 rfl rfl
                    replace e73 := e73.trans d8
                    rw [if_pos (wantedX_none rfl)]
                    have ef : ∀ f, ev (.func f) = .func (.func f) #[] #[] := fun f => (hev _).trans rfl
                    clear hev hD
                    have m0 := (hG.1.cell (p := ⟨eb, 2, none⟩) zeb9 nef).trans e29
                    go_simp
                    exact hK _ _ rfl hG
                  apply gh_det (n := 10)
                  · intro fl xs w ev hG hD hl hdone hev K hK
                    have e72 := (hev (.tmp 72)).trans (kx72.out xs)
                    have d7 := hD.at_ 7 rfl rfl
                    replace e72 := e72.trans d7
                    have e74 := (hev (.tmp 74)).trans (kx74.out xs)
                    have d9 := hD.at_ 9 rfl rfl
                    replace e74 := e74.trans d9
                    rw [if_pos (wantedX_none rfl)]
                    have ef : ∀ f, ev (.func f) = .func (.func f) #[] #[] := fun f => (hev _).trans rfl
                    clear hev hD
                    go_simp
                    exact hK _ _ rfl hG
                  apply gh_det (n := 11)
                  · intro fl xs w ev hG hD hl hdone hev K hK
                    have e65 := (hev (.tmp 65)).trans (kx65.out xs)
                    have d0 := hD.at_ 0 rfl rfl
                    replace e65 := e65.trans d0
                    have e67 := (hev (.tmp 67)).trans (kx67.out xs)
                    have d2 := hD.at_ 2 rfl rfl
                    replace e67 := e67.trans d2
                    rw [if_pos (wantedX_none rfl)]
                    have ef : ∀ f, ev (.func f) = .func (.func f) #[] #[] := fun f => (hev _).trans rfl
                    clear hev hD
                    go_simp
                    exact hK _ _ rfl hG
                  refine gh_any (n := 12) (fun _ => True) ?_ ?_
                  · intro fl xs w ev hG hD hl hdone hev K hK
                    have e76 := (hev (.tmp 76)).trans (kx76.out xs)
                    have d11 := hD.at_ 11 rfl rfl
                    replace e76 := e76.trans d11
                    have e75 := (hev (.tmp 75)).trans (kx75.out xs)
                    have d10 := hD.at_ 10 rfl rfl
                    replace e75 := e75.trans d10
                    rw [if_pos (wantedX_none rfl)]
                    have ef : ∀ f, ev (.func f) = .func (.func f) #[] #[] := fun f => (hev _).trans rfl
                    clear hev hD
                    have hcw := hG.2.1 hl
                    have m0 := hcel2.out _ hcw
                    have f0 : w.frozen? ⟨fb, i2, none⟩ = false := by simp [World.frozen?, hcw]
                    have hgo := hset.out _ hcw
                    go_simp
                    exact hK _ _ trivial ⟨hG.1.trans (But.of_set _ _ _ (by simp)), (fun h => by cases h), fun _ => done_of hdone 7 rfl, fun _ => hgo⟩
                  intro xs w10 hG hxx
                  obtain ⟨hGb, _, _, hG2⟩ := hG
                  have hG3 := hG2 rfl
                  rw [← hq'.out] at hG3
                  have hfin : Hid (w10.heap[fb]? = some (.cells (ivs (d.set i2 (x + x3))) 2 (0, 0)) ∧ Below w.heap.size w w10) := ⟨hG3, hbw9.out.trans (hGb.below hbw9.out.size (by simpa using hle))⟩
                  clear hG2 hG3 hGb hxx
                  simp only [List.append_eq, List.cons_append, List.nil_append, setAll, List.setIfInBounds_toArray, List.set_cons_zero, List.set_cons_succ]
                  go_wp2_with fail
                  go_roundw
                  case rel => exact ⟨j + 1, _, by omega, by go_num, hnx.out, hfin.out⟩
                  case measure => simp [intOf]; omega
                · have g2 : decide (x + x3 < y) = false := decide_eq_false hg2
                  have hnx := Lib.hid (hBh.out.skip hEh.out hDh.out hxh.out rfl rfl hx1h.out hy1h.out (.inr (by simp only; omega)))
                  clear hrx hg1 hg2 hlo
                  go_wp2_with fail
                  go_upto_region 14 with fail
                  refine wp_region_below wc.heap.size (by kernel_rfl) (by kernel_rfl) ?_
                  intro C hC
                  repeat (go_big_quiet_step (first
                    | ((intro _; with_reducible rfl))
                    | (intro hc; have m0 := (hc.cell (p := ⟨eb, 0, none⟩) zeb).trans e0; have m1 := (hc.cell (p := ⟨eb, 1, none⟩) zeb).trans e1; have m2 := (hc.cell (p := ⟨eb, 2, none⟩) zeb).trans e2; have m3 := (hc.cell (p := ⟨fb, i1, none⟩) zfb).trans mx; have m4 := (hc.cell (p := ⟨fb, i2, none⟩) zfb).trans my; simp only [m0, m1, m2, m3, m4, Result.andThen]; exact ⟨trivial, rfl⟩)))
                  refine wpQuiet_nil ?_
                  intro w9 hb9
                  clear hC
                  have hcs9 := (hb9.block fb zfb).trans hcsh.out
                  have hfin := Lib.hid (And.intro hcs9 (hbch.out.trans (hb9.mono hbch.out.size)))
                  clear hb9 hcs9
                  go_wp2_with fail
                  go_roundw
                  case rel => exact ⟨j + 1, _, by omega, by go_num, hnx.out, hfin.out⟩
                  case measure => simp [intOf]; omega
              · have g1 : decide (x ≤ 1099511627776 - x3) = false := decide_eq_false hg1
                have hnx := Lib.hid (hBh.out.skip hEh.out hDh.out hxh.out rfl rfl hx1h.out hy1h.out (.inl (by simp only; omega)))
                clear hrx hg1 hlo
                go_wp2_with fail
                go_upto_region 14 with fail
                refine wp_region_below wc.heap.size (by kernel_rfl) (by kernel_rfl) ?_
                intro C hC
                repeat (go_big_quiet_step (first
                  | ((intro _; with_reducible rfl))
                  | (intro hc; have m0 := (hc.cell (p := ⟨eb, 0, none⟩) zeb).trans e0; have m1 := (hc.cell (p := ⟨eb, 1, none⟩) zeb).trans e1; have m2 := (hc.cell (p := ⟨eb, 2, none⟩) zeb).trans e2; have m3 := (hc.cell (p := ⟨fb, i1, none⟩) zfb).trans mx; have m4 := (hc.cell (p := ⟨fb, i2, none⟩) zfb).trans my; simp only [m0, m1, m2, m3, m4, Result.andThen]; exact ⟨trivial, rfl⟩)))
                refine wpQuiet_nil ?_
                intro w9 hb9
                clear hC
                have hcs9 := (hb9.block fb zfb).trans hcsh.out
                have hfin := Lib.hid (And.intro hcs9 (hbch.out.trans (hb9.mono hbch.out.size)))
                clear hb9 hcs9
                go_wp2_with fail
                go_roundw
                case rel => exact ⟨j + 1, _, by omega, by go_num, hnx.out, hfin.out⟩
                case measure => simp [intOf]; omega
            · obtain rfl : j = m := by omega
              rw [← hlh.out] at hB
              have hnx := Lib.hid (hB.roll hEh.out hDh.out)
              have hfin := Lib.hid (And.intro hcs hb)
              have hjN : decide ((j : Int) < (j : Int)) = false := decide_eq_false (by omega)
              clear hB hcs hb
              go_wp2_with fail
              go_roundw
              case rel => exact ⟨r + 1, d, by omega, by go_num, hnx.out, hfin.out⟩
              case measure => simp [intOf]; omega
        · obtain rfl : r = k := by omega
          obtain ⟨hB, hcs, hb⟩ := hH.out
          obtain rfl := hB.fin hDh.out
          have hfin := Lib.hid (And.intro hcs hb)
          have hjN : decide ((r : Int) < (r : Int)) = false := decide_eq_false (by omega)
          clear hB hcs hb hH
          go_wp2_with fail
          go_returns
          exact ⟨fb, rfl, hle, hfin.out.1, hfin.out.2⟩
end Go.Proofs.Ytapfndjaimfcaaa
