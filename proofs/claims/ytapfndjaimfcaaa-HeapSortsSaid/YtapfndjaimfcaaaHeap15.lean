/-
  Walk: timetablelaw12.HeapSorts.
-/
import Derived.Test.YtapfndjaimfcaaaHeap13
import Derived.Test.YtapfndjaimfcaaaMapLen
import Derived.Test.YtapfndjaimfcaaaOpen2
import Derived.Deep.DeepCutAuto
namespace Go.Proofs.Ytapfndjaimfcaaa
open Go.RowKit Go.Shelf B K
set_option linter.unusedVariables false
set_option linter.unusedSimpArgs false
set_option maxHeartbeats 4000000
theorem B.Rd.num {w : World} {n k : Nat} {ki : IntKind} {A : Option Addr} {l : List Int} (h : Rd w 1 (numE ki) A n l) (hk : k < n) : ∃ b o x, A = some ⟨b, o, none⟩ ∧ b < w.heap.size ∧ l[k]? = some x ∧
    w.cell? ⟨b, o + k, none⟩ = some (.int ki x) := by
  obtain ⟨b, o, rfl, hb, hc⟩ := h.cells (by omega)
  have hl : k < l.length := by rw [h.len]; exact hk
  have hx : l[k]? = some l[k] := List.getElem?_eq_getElem hl
  have := hc k _ hx 0 _ rfl
  rw [Nat.mul_one, Nat.add_zero] at this
  exact ⟨b, o, l[k], rfl, hb, hx, this⟩
theorem pick_any (a m : Int) (w : World) (hm : 1 ≤ m ∧ m ≤ 1099511627776) (ha : -9223372036854775808 ≤ a ∧ a ≤ 9223372036854775807) :
    Calls Try.prog 16 #[.int .i64 a, .int .i64 m] w fun e w' => ∃ k : Nat, e = .returned (.int .i64 (k : Int)) ∧ (k : Int) < m ∧ Below w.heap.size w w' := by
  have h0 : decide (m < 1) = false := decide_eq_false (by omega)
  have h1 : a.tmod m < m := Int.tmod_lt_of_pos a (by omega)
  have h2 : -m < a.tmod m := by
    rcases Int.le_total 0 a with h | h
    · have := Int.tmod_nonneg (b := m) h; omega
    · have h1 := Int.tmod_lt_of_pos (-a) (show (0 : Int) < m by omega)
      rw [Int.neg_tmod] at h1; omega
  obtain ⟨q, hq⟩ : ∃ q, a.tmod m = q := ⟨_, rfl⟩
  rw [hq] at h1 h2
  have hm0 : m ≠ 0 := by omega
  have hw : IntKind.i64.wrap (a.tmod m) = q := by rw [hq]; exact IntWalk.i64_in _ (by omega)
  have hw2 : IntKind.i64.wrap q = q := IntWalk.i64_in _ (by omega)
  go_enter Try.func16, Try.ntmps16
  by_cases hneg : q < 0
  · have hw3 : IntKind.i64.wrap (q + m) = q + m := IntWalk.i64_in _ (by omega)
    go_wp2_with fail
    go_returns
    exact ⟨(q + m).toNat, ret_int (by omega), by omega, Below.refl _ _⟩
  · have hneg' : decide (q < 0) = false := decide_eq_false hneg
    go_wp2_with fail
    go_returns
    exact ⟨q.toNat, ret_int (by omega), by omega, Below.refl _ _⟩
theorem srt_strict {l : List It} (h : (l.map Prod.snd).Nodup) : (srtI l).Pairwise fun a b => ltI a b = true := by
  have hnd : (srtI l).Nodup := (srtI_perm l).nodup_iff.2 ((List.pairwise_map.1 h).imp fun hne e => hne (by rw [e]))
  refine ((srtI_sorted l).and hnd).imp fun {a b} hab => ?_
  rcases ltI_conn a b with e | e | e
  · exact e
  · exact absurd e hab.2
  · rw [e] at hab; cases hab.1
section
variable {w w' : World} {base h m : Nat} {sv : Value} {l l2 : List It} {X : List Nat}
/-- all items, in a row of its own -/
theorem sortedF_own (gf : Nat) (lb : Array Value) (eg : ∀ args w, (callFunc gf args).run Try.prog w = .ok (.enter gf args) w) (l : List It) (hl : l.length ≤ 1099511627776) (w : World)
    (hit : Iter Try.prog gf lb itV l (fun k => k < w.heap.size) (fun _ => False) w) :
    Calls Try.prog 53 #[.func (.func gf) #[] lb, .func (.func 55) #[] #[]] w fun e w' => ∃ v, e = .returned v ∧ w'.ownsRow w.heap.size 53 2 v (srtI l).length ((srtI l).flatMap pairE) ∧ Below w.heap.size w w' := by
  have hC := Lib.hid (collect_any gf lb eg l hl w hit)
  clear hit
  go_enter Try.func53, Try.ntmps53
  go_wp2_with fail
  refine hC.out.mono ?_; rintro e w1 ⟨v, rfl, own, hb⟩
  have hS := Lib.hid (sortI_any w.heap.size v l w1 own (by omega))
  go_wp2_with fail
  refine hS.out.mono ?_; rintro e w2 ⟨rfl, own2, hg⟩
  have hb2 : Below w.heap.size w w2 := hb.grown hg hb.size (fun g hg => (own.lt g hg).1)
  go_wp2_with fail
  go_returns
  exact ⟨v, rfl, own2, hb2⟩
theorem All_own (H : HQ w base h X l) : Calls Try.prog 34 #[.pointer (some ⟨h, 0, none⟩)] w fun e w' => ∃ v, e = .returned v ∧ w'.ownsRow w.heap.size 53 2 v (srtI l).length ((srtI l).flatMap pairE) ∧ Below w.heap.size w w' := by
  obtain ⟨m, sv, l', H, _, hp, _⟩ := H
  have hle := H.len
  obtain ⟨A, c, rfl, hr, hc, hc2⟩ := Rd.of_own (enc := pairE) pairE_len2 rfl H.own
  have c0 := H.c0
  have hb1 : Below w.heap.size w (w.alloc (.cells #[.slice A l'.length c] 48)) := (Below.refl _ w).alloc (Nat.le_refl _) _
  have hnew := heap_alloc_new w (.cells #[.slice A l'.length c] 48)
  have hit := Lib.hid (values_iter w.heap.size A l'.length c l' (w.alloc (.cells #[.slice A l'.length c] 48)) (by simp) (by rw [cell_of_row _ _ _ _ _ _ hnew]; rfl) (hr.below hb1) hle)
  rw [← srtI_congr hp]
  have hS := Lib.hid (sortedF_own 65 _ (enters_of Try.func65 (by kernel_rfl) rfl) l' hle _ hit.out)
  obtain ⟨n, hn⟩ : ∃ n, l'.length = n := ⟨_, rfl⟩
  rw [hn] at c0 hb1 hS
  clear H hp hr hc hc2 hit hnew hle hn
  go_enter Try.func34, Try.ntmps34
  go_wp2_with (first | (go_at_call 54; refine (values_any _ _ ⟨_, _, _, rfl⟩).mono ?_; rintro e w1 ⟨rfl, rfl⟩) | (go_at_call 53; refine hS.out.mono ?_; rintro e w2 ⟨v, rfl, own, hb2⟩))
  go_returns
  exact ⟨v, rfl, own_low own hb1.size, hb1.trans (hb2.mono hb1.size)⟩
end

set_option maxRecDepth 100000 in
theorem sorts_any (A : Option Addr) (n c : Nat) (l : List It) (A1 : Option Addr) (n1 c1 : Nat) (l1 : List Int) (A2 : Option Addr) (n2 c2 : Nat) (l2 : List Int) (w : World)
    (hr : Rd w 2 pairE A n l) (hw : ∀ x ∈ l, (Lit.int .i64 x.1).wf = true ∧ (Lit.int .i64 x.2).wf = true) (r1 : Rd w 1 (numE .i64) A1 n1 l1) (hw1 : ∀ x ∈ l1, (Lit.int .i64 x).wf = true) (r2 : Rd w 1 (numE .i64) A2 n2 l2) (hw2 : ∀ x ∈ l2, (Lit.int .i64 x).wf = true) :
    Calls Try.prog 13 #[.slice A n c, .slice A1 n1 c1, .slice A2 n2 c2] w fun e w' => e = .returned (.bool true) ∧ Below w.heap.size w w' := by
  have hmk : ∀ W : World, (Instr.makeMap 72 none).run Try.prog W = .ok (.map (some W.heap.size)) (W.alloc (.map #[] 0)) := fun W => by kernel_rfl
  go_enter Try.func13, Try.ntmps13
  go_wp2_with fail
  refine (lives12_any _).mono ?_; rintro e w1 ⟨rfl, hb1⟩
  by_cases hn : 200 < n
  · go_wp2_with fail
    go_returns
    exact ⟨rfl, hb1⟩
  by_cases hn1 : 200 < n1
  · go_wp2_with fail
    go_returns
    exact ⟨rfl, hb1⟩
  by_cases hn2 : 200 < n2
  · go_wp2_with fail
    go_returns
    exact ⟨rfl, hb1⟩
  go_wp2_with fail
  refine (New_any (base := w.heap.size) [] (by simp) hb1.size).mono ?_; rintro e w2 ⟨h, rfl, hh, H2, hb2⟩
  have hb2 := hb1.trans (hb2.mono hb1.size)
  obtain ⟨mk, hmke⟩ : ∃ q, w2.heap.size = q := ⟨_, rfl⟩
  have ha3 : Below w2.heap.size w2 (w2.alloc (.map #[] 0)) := (Below.refl _ w2).alloc (Nat.le_refl _) _
  have M3 : MapI Try.prog 3 2 (w2.alloc (.map #[] 0)) w2.heap.size (fun _ => none) 0 := MapI.new w2
  have H3 := (H2.more (Y := [w2.heap.size]) (by simp)).below ha3
  have hb3 := hb2.trans (ha3.mono hb2.size)
  have hmb : w.heap.size ≤ mk := by rw [← hmke]; exact hb2.size
  rw [hmke] at M3 H3
  clear H2 ha3 hb1 hb2
  go_wp2_with fail
  go_loopw [9] (fun i wr => ∃ (k : Nat) (L : List It) (f : Int → Option Int), k ≤ n ∧ i = .int .i64 k ∧ HQ wr w.heap.size h [mk] L ∧ MapI Try.prog 3 2 wr mk f L.length ∧ KeyOk f L ∧ L.length ≤ k ∧ (∀ x ∈ l.take k, f x.2 ≠ none) ∧ (∀ x ∈ L, (Lit.int .i64 x.1).wf = true ∧ (Lit.int .i64 x.2).wf = true) ∧ Below w.heap.size w wr) (fun i _ => n - (intOf i).toNat)
  case atStart => exact ⟨0, [], _, Nat.zero_le _, rfl, H3, M3, keyOk_nil, by simp, by simp, by simp, hb3⟩
  case round =>
    obtain ⟨k, L, f, hk, rfl, H4, M4, hK, hL, hall, hwL, hb4⟩ := hrel
    by_cases hlt : k < n
    · obtain ⟨b, o, x1, x2, rfl, hbs, hx, h1, h2⟩ := (hr.below hb4).pair hlt
      obtain ⟨hwx1, hwx2⟩ := hw _ (List.mem_of_getElem? hx)
      have htk := Lib.hid (take_at hx)
      have hl := (M4.look Try.underlying72 Try.underlying3 Try.underlying2 (by kernel_rfl) hwx2).1
      cases hf : f x2 with
      | some v =>
        rw [hf] at hl
        simp only [Option.getD_some, Option.isSome_some] at hl
        have hP := Lib.hid (Push_there (kx := x1) H4 hwx2 ⟨(v, x2), hK.2.1 _ _ hf, rfl⟩)
        have hall' : Hid (∀ x ∈ l.take (k + 1), f x.2 ≠ none) := fun x hx' => by
          rw [htk.out] at hx'
          rcases List.mem_append.1 hx' with h | h
          · exact hall x h
          · simp at h; subst h; rw [hf]; simp
        clear hf hx hall
        go_wp2_with (go_at_call 31; refine hP.out.mono ?_; rintro e w5 ⟨rfl, hq5⟩)
        go_roundw
        case rel => exact ⟨k + 1, L, f, by omega, by go_num, H4.below hq5, M4.below hq5, hK, by omega, hall'.out, hwL, hb4.trans (hq5.mono hb4.size)⟩
        case measure => simp [intOf]; omega
      | none =>
        rw [hf] at hl
        simp only [Option.getD_none, Option.isSome_none] at hl
        have hP := Lib.hid (Push_new (kx := x1) H4 hwx2 (hK.gone hf) hb4.size (by simpa using M4.lt) (by omega))
        have hcells : ∀ W, Below w.heap.size w W → W.cell? ⟨b, o + k * 2, none⟩ = some (.int .i64 x1) ∧ W.cell? ⟨b, o + k * 2 + 1, none⟩ = some (.int .i64 x2) := fun W hW => by
          obtain ⟨b', o', y1, y2, e', _, hy, g1, g2⟩ := (hr.below hW).pair hlt
          cases e'
          rw [hx] at hy; cases hy
          exact ⟨g1, g2⟩
        have hcells := Lib.hid hcells
        rename_i hcells0; clear hcells0
        have hall' : Hid (∀ x ∈ l.take (k + 1), updI f x2 x1 x.2 ≠ none) := fun x hx' => by
          unfold updI
          split
          · simp
          · rename_i hne
            rw [htk.out] at hx'
            rcases List.mem_append.1 hx' with h | h
            · exact hall x h
            · simp at h; subst h; exact absurd rfl hne
        have hst : Hid (∀ W, W.heap[mk]? = wr.heap[mk]? → ∃ w', (Instr.mapUpdate 72 (.map (some mk)) (.int .i64 x2) (.int .i64 x1)).run Try.prog W = .ok () w' ∧ MapI Try.prog 3 2 w' mk (updI f x2 x1) (L.length + 1) ∧ W.mapTurned w' mk) := fun W hW => by
          have := (M4.keep hW).store Try.underlying72 Try.underlying3 Try.underlying2 (by omega) hwx2 hwx1
          rwa [hf] at this
        have hK' := Lib.hid (hK.push (k := x1) hf)
        have hmlt := M4.lt
        clear hf hx hall hK M4
        go_wp2_with fail
        refine hP.out.mono ?_; rintro e w5 ⟨rfl, H5, hq5, hX5⟩
        have hb5 := hb4.trans hq5
        obtain ⟨g1, g2⟩ := hcells.out w5 hb5
        obtain ⟨W6, hrun, M6, hturn⟩ := hst.out (w5.drewN 1) (hX5 mk (by simp) hmlt)
        have hbut6 : But w5 W6 [mk] := (⟨rfl, rfl, rfl, Nat.le_refl _, fun _ _ _ => rfl⟩ : But w5 (w5.drewN 1) [mk]).trans (MapI.turned hturn (by simp))
        have H6 := H5.but hbut6 (by simp)
        have hb6 := hb5.trans (hbut6.below hb5.size (by simpa using hmb))
        clear H4 hP hst hcells hturn H5 hX5 h1 h2 hq5 hl
        go_upto_region 14 with fail
        refine wp_tail0 11 (by kernel_rfl) (by kernel_rfl) ?_
        simp only [List.take_succ_cons, List.take_zero, List.drop_succ_cons, List.drop_zero]
        repeat still_step
        try refine wpStill_nil ?_
        go_wp2_with fail
        go_roundw
        case rel => exact ⟨k + 1, (x1, x2) :: L, _, by omega, by go_num, H6, by simpa using M6, hK'.out, by simp; omega, hall'.out, fun y hy => by
          rcases List.mem_cons.1 hy with rfl | hy
          · exact ⟨hwx1, hwx2⟩
          · exact hwL y hy, hb6⟩
        case measure => simp [intOf]; omega
    · have hall2 : Hid (∀ x ∈ l, f x.2 ≠ none) := fun x hx => hall x (by rw [List.take_of_length_le (by rw [hr.len]; omega)]; exact hx)
      have hL2 : L.length ≤ 200 := by omega
      clear hall hL
      go_wp2_with fail
      go_loopw [12] (fun i wr => ∃ (k : Nat) (L : List It) (f : Int → Option Int), i = .int .i64 k ∧ HQ wr w.heap.size h [mk] L ∧ MapI Try.prog 3 2 wr mk f L.length ∧ KeyOk f L ∧ Hid (L.length ≤ 200) ∧ Hid (∀ x ∈ l, f x.2 ≠ none) ∧ Hid (∀ x ∈ L, (Lit.int .i64 x.1).wf = true ∧ (Lit.int .i64 x.2).wf = true) ∧ Below w.heap.size w wr) (fun i _ => n1 - (intOf i).toNat)
      case atStart => exact ⟨0, L, f, rfl, H4, M4, hK, hL2, hall2, hwL, hb4⟩
      case round =>
        clear H4 M4 hK hL2 hall2 hwL hb4 hk hlt
        obtain ⟨k, L, f, rfl, H5, M5, hK5, hL5, hall5, hwL5, hb5⟩ := hrel
        go_upto_region 16 with fail
        go_cut [93] (fun s wx => s = .bool (decide (k < n1 ∧ k < n2 ∧ 0 < n)) ∧ wx = wr)
        case first =>
          by_cases e1 : k < n1
          · by_cases e2 : k < n2
            · by_cases e3 : 0 < n
              · go_wp2_with fail
                go_meet
                case rel => exact ⟨by rw [decide_eq_true (⟨e1, e2, e3⟩ : k < n1 ∧ k < n2 ∧ 0 < n)], rfl⟩
              · go_wp2_with fail
                go_meet
                case rel => exact ⟨by rw [decide_eq_false (by omega : ¬ (k < n1 ∧ k < n2 ∧ 0 < n))], rfl⟩
            · go_wp2_with fail
              go_meet
              case rel => exact ⟨by rw [decide_eq_false (by omega : ¬ (k < n1 ∧ k < n2 ∧ 0 < n))], rfl⟩
          · go_wp2_with fail
            go_meet
            case rel => exact ⟨by rw [decide_eq_false (by omega : ¬ (k < n1 ∧ k < n2 ∧ 0 < n))], rfl⟩
        case rest =>
          obtain ⟨rfl, rfl⟩ := hcut
          by_cases hgo : k < n1 ∧ k < n2 ∧ 0 < n
          · rw [decide_eq_true hgo]
            obtain ⟨e1, e2, e3⟩ := hgo
            obtain ⟨b1, o1, x1, rfl, hb1s, hx1, c1⟩ := (r1.below hb5).num e1
            obtain ⟨b2, o2, x2, rfl, hb2s, hx2, c2⟩ := (r2.below hb5).num e2
            have hwx1 := wf_bounds (hw1 _ (List.mem_of_getElem? hx1))
            have hwx2 := hw2 _ (List.mem_of_getElem? hx2)
            clear hx1
            have hcell2 : Hid (∀ W, Below w.heap.size w W → W.cell? ⟨b2, o2 + k, none⟩ = some (.int .i64 x2)) := fun W hW => by
              obtain ⟨b', o', y1, e', _, hy, g1⟩ := (r2.below hW).num e2
              cases e'
              rw [hx2] at hy; cases hy
              exact g1
            clear hx2
            go_wp2_with fail
            refine (pick_any x1 (n : Int) _ (by omega) hwx1).mono ?_; rintro e w6 ⟨j, rfl, hj, hq6⟩
            have hb6 := hb5.trans (hq6.mono hb5.size)
            have H6 := H5.below hq6
            have M6 := M5.below hq6
            have hb2n : b2 < w6.heap.size := Nat.lt_of_lt_of_le hb2s hq6.size
            clear H5 M5 hb5 hq6 c2
            obtain ⟨b3, o3, y1, y2, rfl, hb3s, hy, g1, g2⟩ := (hr.below hb6).pair (k := j) (by omega)
            obtain ⟨hwy1, hwy2⟩ := hw _ (List.mem_of_getElem? hy)
            obtain ⟨old, hf⟩ : ∃ v, f y2 = some v := by
              cases hf : f y2 with
              | none => exact absurd hf (hall5.out _ (List.mem_of_getElem? hy))
              | some v => exact ⟨v, rfl⟩
            have hmem := hK5.2.1 _ _ hf
            have hpm : L.Perm ((old, y2) :: L.erase (old, y2)) := List.perm_cons_erase hmem
            have hlen := hpm.length_eq
            simp only [List.length_cons] at hlen
            obtain ⟨hwo1, _⟩ := hwL5.out _ hmem
            have c2 := hcell2.out w6 hb6
            have hKt := fun k => (hK5.perm hpm).turn (k := k)
            have hall7 : ∀ v, Hid (∀ x ∈ l, updI f y2 v x.2 ≠ none) := fun v x hx => by
              unfold updI
              split
              · simp
              · exact hall5.out x hx
            by_cases hlow : x2 < old
            · have hd : decide (x2 < old) = true := by simp; omega
              have hP := Lib.hid (Lower_any H6 (id := y2) (key := x2) (old := old) (l0 := L.erase (old, y2)) hwy2 hpm hlow hb6.size (by simpa using M6.lt))
              have hKn := Lib.hid (hKt x2)
              have hmin : (if x2 ≤ old then x2 else old) = x2 := by rw [if_pos (by omega)]
              have hmx : min old x2 = x2 := by omega
              have hst : Hid (∀ W, W.heap[mk]? = w6.heap[mk]? → (Instr.lookup 72 (.map (some mk)) (.int .i64 y2) false).run Try.prog W = .ok (.int .i64 old) W ∧ ∃ w', (Instr.mapUpdate 72 (.map (some mk)) (.int .i64 y2) (.int .i64 x2)).run Try.prog W = .ok () w' ∧ MapI Try.prog 3 2 w' mk (updI f y2 x2) L.length ∧ W.mapTurned w' mk) := fun W hW => by
                have h1 := ((M6.keep hW).look Try.underlying72 Try.underlying3 Try.underlying2 (by kernel_rfl) hwy2).2
                have h2 := (M6.keep hW).store Try.underlying72 Try.underlying3 Try.underlying2 (by have := hL5.out; omega) hwy2 hwx2
                rw [hf] at h1 h2
                exact ⟨h1, h2⟩
              have hmlt := M6.lt
              have hwn : Hid (∀ x ∈ (x2, y2) :: L.erase (old, y2), (Lit.int .i64 x.1).wf = true ∧ (Lit.int .i64 x.2).wf = true) := fun x hx => by
                rcases List.mem_cons.1 hx with rfl | hx
                · exact ⟨hwx2, hwy2⟩
                · exact hwL5.out x (List.mem_of_mem_erase hx)
              have hLn : Hid (((x2, y2) :: L.erase (old, y2)).length = L.length) := by show _ = _; simp only [List.length_cons]; exact hlen.symm
              clear hKt hK5 hf hmem hpm hall5 hwL5 M6 hy hlow
              go_wp2_with fail
              refine hP.out.mono ?_; rintro e w7 ⟨rfl, H7, hq7, hX7⟩
              have hb7 := hb6.trans hq7
              have hk7 := hX7 mk (by simp) hmlt
              have hs7 := hq7.size
              have hm7 : mk < w7.heap.size := Nat.lt_of_lt_of_le hmlt hs7
              have c7 := hcell2.out w7 hb7
              have hb2m : b2 < w7.heap.size := Nat.lt_of_lt_of_le hb2n hs7
              have hl7 : Hid (∀ W, Below w7.heap.size w7 W → (Instr.lookup 72 (.map (some mk)) (.int .i64 y2) false).run Try.prog W = .ok (.int .i64 old) W) := fun W hW => (hst.out W ((hW.block mk hm7).trans hk7)).1
              clear hP c2 g1 g2
              go_upto_region 20 with fail
              refine wp_region_below w7.heap.size (by kernel_rfl) (by kernel_rfl) ?_
              intro C hC
              repeat (go_big_quiet_step (first
                | ((intro _; with_reducible rfl))
                | (intro hc; have m0 := (hc.cell (p := ⟨b2, _, none⟩) hb2m).trans c7; have hl := hl7.out _ hc; simp only [m0, hl, Result.andThen]; exact ⟨trivial, rfl⟩)))
              refine wpQuiet_nil ?_
              intro w8 hb8
              clear hC
              have hb9 := hb7.trans (hb8.mono hb7.size)
              have c8 := hcell2.out w8 hb9
              obtain ⟨hl8, W9, hrun, M9, hturn⟩ := hst.out (w8.drewN 1) ((hb8.block mk hm7).trans hk7)
              have hbut9 : But w8 W9 [mk] := (⟨rfl, rfl, rfl, Nat.le_refl _, fun _ _ _ => rfl⟩ : But w8 (w8.drewN 1) [mk]).trans (MapI.turned hturn (by simp))
              have H9 := (H7.below hb8).but hbut9 (by simp)
              have hb10 := hb9.trans (hbut9.below hb9.size (by simpa using hmb))
              clear H7 hb7 hst hturn c7 hl7 hb8 hb9 H6
              go_upto_region 22 with fail
              refine wp_tail0 10 (by kernel_rfl) (by kernel_rfl) ?_
              simp only [List.take_succ_cons, List.take_zero, List.drop_succ_cons, List.drop_zero]
              repeat still_step
              try refine wpStill_nil ?_
              go_wp2_with fail
              go_roundw
              case rel => exact ⟨k + 1, (x2, y2) :: L.erase (old, y2), _, by go_num, H9, by rw [hLn.out]; exact M9, hKn.out, by show _ ≤ _; rw [hLn.out]; exact hL5.out, hall7 _, hwn.out, hb10⟩
              case measure => simp [intOf]; omega
            · have hd : decide (x2 < old) = false := by simp; omega
              have hP := Lib.hid (Lower_high H6 (id := y2) (key := x2) (old := old) hwy2 hmem (by omega))
              have hKn := Lib.hid ((hKt old).perm hpm.symm)
              have hmx : min old x2 = old := by omega
              have hst : Hid (∀ W, W.heap[mk]? = w6.heap[mk]? → (Instr.lookup 72 (.map (some mk)) (.int .i64 y2) false).run Try.prog W = .ok (.int .i64 old) W ∧ ∃ w', (Instr.mapUpdate 72 (.map (some mk)) (.int .i64 y2) (.int .i64 old)).run Try.prog W = .ok () w' ∧ MapI Try.prog 3 2 w' mk (updI f y2 old) L.length ∧ W.mapTurned w' mk) := fun W hW => by
                have h1 := ((M6.keep hW).look Try.underlying72 Try.underlying3 Try.underlying2 (by kernel_rfl) hwy2).2
                have h2 := (M6.keep hW).store Try.underlying72 Try.underlying3 Try.underlying2 (by have := hL5.out; omega) hwy2 hwo1
                rw [hf] at h1 h2
                exact ⟨h1, h2⟩
              have hmlt := M6.lt
              have hwn : Hid (∀ x ∈ L, (Lit.int .i64 x.1).wf = true ∧ (Lit.int .i64 x.2).wf = true) := fun x hx => by
                exact hwL5.out x hx
              clear hKt hK5 hf hmem hpm hall5 hwL5 M6 hy hlow
              go_wp2_with fail
              refine hP.out.mono ?_; rintro e w7 ⟨rfl, rfl⟩
              have hb7 := hb6
              have H7 := H6
              skip
              have hs7 := Nat.le_refl w7.heap.size
              have hm7 : mk < w7.heap.size := Nat.lt_of_lt_of_le hmlt hs7
              have c7 := hcell2.out w7 hb7
              have hb2m : b2 < w7.heap.size := Nat.lt_of_lt_of_le hb2n hs7
              have hl7 : Hid (∀ W, Below w7.heap.size w7 W → (Instr.lookup 72 (.map (some mk)) (.int .i64 y2) false).run Try.prog W = .ok (.int .i64 old) W) := fun W hW => (hst.out W (hW.block mk hm7)).1
              clear hP c2 g1 g2
              go_upto_region 20 with fail
              refine wp_region_below w7.heap.size (by kernel_rfl) (by kernel_rfl) ?_
              intro C hC
              repeat (go_big_quiet_step (first
                | ((intro _; with_reducible rfl))
                | (intro hc; have m0 := (hc.cell (p := ⟨b2, _, none⟩) hb2m).trans c7; have hl := hl7.out _ hc; simp only [m0, hl, Result.andThen]; exact ⟨trivial, rfl⟩)))
              refine wpQuiet_nil ?_
              intro w8 hb8
              clear hC
              have hb9 := hb7.trans (hb8.mono hb7.size)
              have c8 := hcell2.out w8 hb9
              obtain ⟨hl8, W9, hrun, M9, hturn⟩ := hst.out (w8.drewN 1) (hb8.block mk hm7)
              have hbut9 : But w8 W9 [mk] := (⟨rfl, rfl, rfl, Nat.le_refl _, fun _ _ _ => rfl⟩ : But w8 (w8.drewN 1) [mk]).trans (MapI.turned hturn (by simp))
              have H9 := (H7.below hb8).but hbut9 (by simp)
              have hb10 := hb9.trans (hbut9.below hb9.size (by simpa using hmb))
              clear H7 hb7 hst hturn c7 hl7 hb8 hb9 H6
              go_upto_region 22 with fail
              refine wp_tail0 10 (by kernel_rfl) (by kernel_rfl) ?_
              simp only [List.take_succ_cons, List.take_zero, List.drop_succ_cons, List.drop_zero]
              repeat still_step
              try refine wpStill_nil ?_
              go_wp2_with fail
              go_roundw
              case rel => exact ⟨k + 1, L, _, by go_num, H9, M9, hKn.out, hL5, hall7 _, hwn.out, hb10⟩
              case measure => simp [intOf]; omega
          · rw [decide_eq_false hgo]
            clear hgo
            have hnd := hK5.2.2
            have hst0 := srt_strict hnd
            have hSl := srtI_len L
            obtain ⟨S, hS⟩ : ∃ S, srtI L = S := ⟨_, rfl⟩
            have hpS : S.Perm L := by rw [← hS]; exact srtI_perm L
            rw [hS] at hst0 hSl
            obtain ⟨nS, hnS⟩ : ∃ q, S.length = q := ⟨_, rfl⟩
            have hn200 : nS ≤ 200 := by have := hL5.out; omega
            have hwS : Hid (∀ x ∈ S, (Lit.int .i64 x.1).wf = true ∧ (Lit.int .i64 x.2).wf = true) := fun x hx => hwL5.out x (hpS.mem_iff.1 hx)
            have hstS := Lib.hid hst0
            have hA := Lib.hid (All_own H5)
            rw [hS, hnS] at hA
            go_wp2_with fail
            refine hA.out.mono ?_; rintro e w6 ⟨v, rfl, own6, hq6⟩
            have hb6 := hb5.trans (hq6.mono hb5.size)
            obtain ⟨A3, c3, rfl, rS, hcS, hcS2⟩ := Rd.of_own (enc := pairE) pairE_len2 hnS own6
            obtain ⟨Y, hY⟩ : ∃ Y, mk :: (Value.slice A3 nS c3).ownBlock.toList = Y := ⟨_, rfl⟩
            have hmY : mk ∈ Y := by rw [← hY]; simp
            have hgY : ∀ g, (Value.slice A3 nS c3).ownBlock = some g → g ∈ Y := fun g hg => by rw [← hY]; simp [hg]
            have H6 : HQ w6 w.heap.size h Y S := by
              refine ((H5.more (Y := Y) fun y hy => ?_).perm hpS.symm).below hq6
              rw [← hY] at hy
              simp only [List.mem_cons, Option.mem_toList] at hy
              rcases hy with rfl | hy
              · exact .inl (by simp)
              · exact .inr (own_lt own6 hy).2
            have M6 : MapI Try.prog 3 2 w6 mk f nS := by
              have := M5.below hq6
              rwa [← hSl, hnS] at this
            have hYl : ∀ W : World, MapI Try.prog 3 2 W mk f nS → True := fun _ _ => trivial
            have own6' : w6.ownsRow w.heap.size 53 2 (.slice A3 nS c3) nS (S.flatMap pairE) := own_low own6 hb5.size
            have hK6 := hK5.perm hpS.symm
            clear H5 M5 hK5 hL5 hall5 hwL5 hb5 hA own6 hq6 rS hpS hnd hSl hst0 hS hYl
            go_wp2_with fail
            go_loopw [17] (fun i wr => ∃ (k : Nat) (f : Int → Option Int), k ≤ nS ∧ i = .int .i64 k ∧ HQ wr w.heap.size h Y (S.drop k) ∧ MapI Try.prog 3 2 wr mk f (nS - k) ∧ KeyOk f (S.drop k) ∧ wr.ownsRow w.heap.size 53 2 (.slice A3 nS c3) nS (S.flatMap pairE) ∧ Below w.heap.size w wr) (fun i _ => nS - (intOf i).toNat)
            case atStart => exact ⟨0, f, Nat.zero_le _, rfl, H6, M6, hK6, own6', hb6⟩
            case round =>
              clear H6 M6 hK6 own6' hb6
              obtain ⟨k, f, hk, rfl, H7, M7, hK7, own7, hb7⟩ := hrel
              have hYlt : ∀ y ∈ Y, y < wr.heap.size := fun y hy => by
                rw [← hY] at hy
                simp only [List.mem_cons, Option.mem_toList] at hy
                rcases hy with rfl | hy
                · exact M7.lt
                · exact (own_lt own7 hy).1
              by_cases hlt : k < nS
              · obtain ⟨A4, q4, e4, rS, _, _⟩ := Rd.of_own (enc := pairE) pairE_len2 hnS own7
                cases e4
                obtain ⟨b, o, x1, x2, rfl, hbs, hx, h1, h2⟩ := rS.pair hlt
                have hdr := drop_at hx
                have hmin : ∀ y ∈ S.drop (k + 1), ltI (x1, x2) y = true := fun y hy => by
                  have := hstS.out.sublist (List.drop_sublist k S)
                  rw [hdr, List.pairwise_cons] at this
                  exact this.1 y hy
                have hf2 : f x2 = some x1 := hK7.1 (x1, x2) (by rw [hdr]; simp)
                obtain ⟨hwx1, hwx2⟩ := hwS.out _ (List.mem_of_getElem? hx)
                have hcells : Hid (∀ W : World, W.ownsRow w.heap.size 53 2 (.slice (some ⟨b, o, none⟩) nS c3) nS (S.flatMap pairE) → ∀ (j : Nat) (y1 y2 : Int), S[j]? = some (y1, y2) → b < W.heap.size ∧ W.cell? ⟨b, o + j * 2, none⟩ = some (.int .i64 y1) ∧ W.cell? ⟨b, o + j * 2 + 1, none⟩ = some (.int .i64 y2)) := fun W hW j y1 y2 hy => by
                  obtain ⟨A5, q5, e5, r5, _, _⟩ := Rd.of_own (enc := pairE) pairE_len2 hnS hW
                  cases e5
                  obtain ⟨b', o', z1, z2, e', hb', hz, g1, g2⟩ := r5.pair (k := j) (by have := (List.getElem?_eq_some_iff.1 hy).1; omega)
                  cases e'
                  rw [hy] at hz; cases hz
                  exact ⟨hb', g1, g2⟩
                have hT := Lib.hid (Top_any H7 (x := (x1, x2)) (l0 := S.drop (k + 1)) (by rw [hdr]) hmin)
                go_wp2_with fail
                refine hT.out.mono ?_; rintro e w8 ⟨rfl, hq8⟩
                have ha9 : Below w8.heap.size w8 (w8.alloc (.cells #[.int .i64 x1, .int .i64 x2] 53)) := (Below.refl _ w8).alloc (Nat.le_refl _) _
                have hnew9 := heap_alloc_new w8 (.cells #[.int .i64 x1, .int .i64 x2] 53)
                have hq9 := hq8.trans (ha9.mono hq8.size)
                have H9 : HQ (w8.alloc (.cells #[.int .i64 x1, .int .i64 x2] 53)) w.heap.size h (w8.heap.size :: Y) (S.drop k) := (((H7.below hq8).more (Y := w8.heap.size :: Y) (by
                  intro y hy
                  rcases List.mem_cons.1 hy with rfl | hy
                  · exact .inr (Nat.le_refl _)
                  · exact .inl hy)).below ha9)
                have hb9 := hb7.trans (hq9.mono hb7.size)
                have hX9 : ∀ y ∈ w8.heap.size :: Y, y < (w8.alloc (.cells #[.int .i64 x1, .int .i64 x2] 53)).heap.size := fun y hy => by
                  rcases List.mem_cons.1 hy with rfl | hy
                  · simp
                  · exact Nat.lt_of_lt_of_le (hYlt y hy) hq9.size
                have hP := Lib.hid (Pop_min H9 (x := (x1, x2)) (l0 := S.drop (k + 1)) (by rw [hdr]) hmin hb9.size hX9)
                have hk9 : ∀ y ∈ Y, (w8.alloc (.cells #[.int .i64 x1, .int .i64 x2] 53)).heap[y]? = wr.heap[y]? := fun y hy => hq9.block y (hYlt y hy)
                go_wp2_with fail
                refine hP.out.mono ?_; rintro e w10 ⟨rfl, H10, hq10, hX10⟩
                have hb10 := hb9.trans hq10
                have hk10 : ∀ y ∈ Y, w10.heap[y]? = wr.heap[y]? := fun y hy => (hX10 y (by simp [hy]) (hX9 y (by simp [hy]))).trans (hk9 y hy)
                have hn10 := (hX10 w8.heap.size (by simp) (hX9 _ (by simp))).trans hnew9
                obtain ⟨b8, hb8e⟩ : ∃ q, w8.heap.size = q := ⟨_, rfl⟩
                rw [hb8e] at hn10 H10
                have hl8 := (Array.getElem?_eq_some_iff.1 hn10).1
                have t0 : w10.cell? ⟨b8, 0, none⟩ = some (.int .i64 x1) := by rw [cell_of_row _ _ _ _ _ _ hn10]; rfl
                have t1 : w10.cell? ⟨b8, 1, none⟩ = some (.int .i64 x2) := by rw [cell_of_row _ _ _ _ _ _ hn10]; rfl
                have M10 := M7.keep (hk10 mk hmY)
                have own10 : w10.ownsRow w.heap.size 53 2 (.slice (some ⟨b, o, none⟩) nS c3) nS (S.flatMap pairE) := own_keep own7 fun g hg => hk10 g (hgY g hg)
                have H10' := H10.more (Y := Y) (fun y hy => .inl (by simp [hy]))
                clear H9 H10 hX9 hX10 hk9 hk10 hq10 hb9 hq8 hq9 hnew9 hn10 hP hT M7 own7 H7 hb7 hYlt rS hmin h1 h2
                have ha11 : Below w10.heap.size w10 (w10.alloc (.cells #[.int .i64 x1, .int .i64 x2] 53)) := (Below.refl _ w10).alloc (Nat.le_refl _) _
                have bx11 := Bx2.new w10 53 x1 x2
                have M11 := M10.below ha11
                have own11 := own_up own10 ha11
                have H11 := H10'.below ha11
                have hb11 := hb10.trans (ha11.mono hb10.size)
                have hl := (M11.look Try.underlying72 Try.underlying3 Try.underlying2 (by kernel_rfl) hwx2).1
                rw [hf2] at hl
                simp only [Option.getD_some, Option.isSome_some] at hl
                have t0 := (ha11.cell (p := ⟨b8, 0, none⟩) hl8).trans t0
                have t1 := (ha11.cell (p := ⟨b8, 1, none⟩) hl8).trans t1
                have hl8 := Nat.lt_of_lt_of_le hl8 ha11.size
                obtain ⟨W11, hW11⟩ : ∃ q, w10.alloc (.cells #[.int .i64 x1, .int .i64 x2] 53) = q := ⟨_, rfl⟩
                obtain ⟨b9, hb9e⟩ : ∃ q, w10.heap.size = q := ⟨_, rfl⟩
                rw [hW11] at bx11 M11 own11 H11 hb11 hl t0 t1 hl8
                rw [hb9e] at bx11
                obtain ⟨hl9, u0, u1⟩ := (⟨bx11.lt, bx11.c0, bx11.c1⟩ : _ ∧ _ ∧ _)
                obtain ⟨hlb, s0, s1⟩ := hcells.out W11 own11 k x1 x2 hx
                have hkz : (k : Int) < (nS : Int) := by omega
                have hkz0 : (0 : Int) ≤ (k : Int) := by omega
                clear ha11 M10 own10 H10' hb10 bx11
                go_upto_region 30 with fail
                go_cut [231] (fun s wx => s = .bool false ∧ Below W11.heap.size W11 wx)
                case first =>
                  by_cases hk0 : k = 0
                  · subst hk0
                    simp only [Nat.zero_mul, Nat.add_zero] at s0 s1
                    clear M11 own11 H11 hl hcells hK7 hdr hx
                    refine wp_region_below W11.heap.size (by kernel_rfl) (by kernel_rfl) ?_
                    intro C hC
                    simp only [List.append_eq, List.cons_append, List.nil_append]
                    repeat (go_big_quiet_step (first
                      | ((intro _; with_reducible rfl))
                      | (intro hc; have m0 := (hc.cell (p := ⟨b8, _, none⟩) hl8).trans t0; have m1 := (hc.cell (p := ⟨b8, _, none⟩) hl8).trans t1; have m2 := (hc.cell (p := ⟨b9, _, none⟩) hl9).trans u0; have m3 := (hc.cell (p := ⟨b9, _, none⟩) hl9).trans u1; have m4 := (hc.cell (p := ⟨b, _, none⟩) hlb).trans s0; have m5 := (hc.cell (p := ⟨b, _, none⟩) hlb).trans s1; simp only [m0, m1, m2, m3, m4, m5, Result.andThen]; exact ⟨trivial, rfl⟩)))
                    refine wpQuiet_nil ?_
                    intro w12 hb12
                    clear hC
                    go_wp2_with fail
                    go_meet
                    case rel => exact ⟨rfl, hb12⟩
                  · obtain ⟨k0, rfl⟩ : ∃ k0, k = k0 + 1 := ⟨k - 1, by omega⟩
                    have hy : S[k0]? = some S[k0] := List.getElem?_eq_getElem (by omega)
                    obtain ⟨⟨y1, y2⟩, ey⟩ : ∃ q, S[k0] = q := ⟨_, rfl⟩
                    rw [ey] at hy
                    obtain ⟨_, p0, p1⟩ := hcells.out W11 own11 k0 y1 y2 hy
                    have hyx : ltI (y1, y2) (x1, x2) = true := by
                      have h1 := List.pairwise_iff_getElem.1 hstS.out k0 (k0 + 1) (by omega) (by omega) (by omega)
                      rw [ey] at h1
                      rw [(List.getElem?_eq_some_iff.1 hx).2] at h1
                      exact h1
                    rw [ltI_iff] at hyx
                    simp only at hyx
                    have d1 : decide (x1 < y1) = false := decide_eq_false (by omega)
                    have hkw : (k0 : Int) + 1 > 0 := by omega
                    have hkz2 : (k0 : Int) < (nS : Int) := by omega
                    by_cases hxy : y1 = x1
                    · have d2 : decide (x2 ≤ y2) = false := decide_eq_false (by omega)
                      subst hxy
                      clear M11 own11 H11 hl hcells hK7 hdr hx hyx hy ey
                      refine wp_region_below W11.heap.size (by kernel_rfl) (by kernel_rfl) ?_
                      intro C hC
                      simp only [List.append_eq, List.cons_append, List.nil_append]
                      repeat (go_big_quiet_step (first
                        | ((intro _; with_reducible rfl))
                        | (intro hc; have m0 := (hc.cell (p := ⟨b8, _, none⟩) hl8).trans t0; have m1 := (hc.cell (p := ⟨b8, _, none⟩) hl8).trans t1; have m2 := (hc.cell (p := ⟨b9, _, none⟩) hl9).trans u0; have m3 := (hc.cell (p := ⟨b9, _, none⟩) hl9).trans u1; have m4 := (hc.cell (p := ⟨b, _, none⟩) hlb).trans s0; have m5 := (hc.cell (p := ⟨b, _, none⟩) hlb).trans s1; have m6 := (hc.cell (p := ⟨b, _, none⟩) hlb).trans p0; have m7 := (hc.cell (p := ⟨b, _, none⟩) hlb).trans p1; simp only [m0, m1, m2, m3, m4, m5, m6, m7, Result.andThen]; exact ⟨trivial, rfl⟩)))
                      refine wpQuiet_nil ?_
                      intro w12 hb12
                      clear hC
                      go_wp2_with fail
                      go_meet
                      case rel => exact ⟨rfl, hb12⟩
                    · have d2 : (y1 == x1) = false := by simp [hxy]
                      clear M11 own11 H11 hl hcells hK7 hdr hx hyx hxy hy ey
                      refine wp_region_below W11.heap.size (by kernel_rfl) (by kernel_rfl) ?_
                      intro C hC
                      simp only [List.append_eq, List.cons_append, List.nil_append]
                      repeat (go_big_quiet_step (first
                        | ((intro _; with_reducible rfl))
                        | (intro hc; have m0 := (hc.cell (p := ⟨b8, _, none⟩) hl8).trans t0; have m1 := (hc.cell (p := ⟨b8, _, none⟩) hl8).trans t1; have m2 := (hc.cell (p := ⟨b9, _, none⟩) hl9).trans u0; have m3 := (hc.cell (p := ⟨b9, _, none⟩) hl9).trans u1; have m4 := (hc.cell (p := ⟨b, _, none⟩) hlb).trans s0; have m5 := (hc.cell (p := ⟨b, _, none⟩) hlb).trans s1; have m6 := (hc.cell (p := ⟨b, _, none⟩) hlb).trans p0; have m7 := (hc.cell (p := ⟨b, _, none⟩) hlb).trans p1; simp only [m0, m1, m2, m3, m4, m5, m6, m7, Result.andThen]; exact ⟨trivial, rfl⟩)))
                      refine wpQuiet_nil ?_
                      intro w12 hb12
                      clear hC
                      go_wp2_with fail
                      go_meet
                      case rel => exact ⟨rfl, hb12⟩
                case rest =>
                  obtain ⟨rfl, hb12⟩ := hcut
                  have M12 := M11.below hb12
                  have own12 := own_up own11 hb12
                  have H12 := H11.below hb12
                  have hb12' := hb11.trans (hb12.mono hb11.size)
                  have u1 := (hb12.cell (p := ⟨b9, _, none⟩) hl9).trans u1
                  obtain ⟨W13, hdel, M13, hturn⟩ := M12.drop Try.underlying72 Try.underlying3 hwx2 0
                  have hbut : But wc W13 [mk] := MapI.turned hturn (by simp)
                  have H13 := H12.but hbut (by simpa using hmY)
                  have own13 : W13.ownsRow w.heap.size 53 2 (.slice (some ⟨b, o, none⟩) nS c3) nS (S.flatMap pairE) := own_keep own12 fun g hg => hbut.keep g (own_lt own12 hg).1 (by
                    intro e
                    simp only [List.mem_singleton] at e
                    subst e
                    obtain ⟨D, ⟨es, cl, hbm, _⟩, _⟩ := M12
                    rcases own12.2 with ⟨h0, _⟩ | ⟨g', cap', cur', h0, _, hh, _⟩
                    · cases h0
                    · cases h0
                      cases hg
                      rw [hbm] at hh; cases hh)
                  have hb13 := hb12'.trans (hbut.below hb12'.size (by simpa using hmb))
                  have hK13 : KeyOk (delI f x2) (S.drop (k + 1)) := by
                    have h0 := hK7
                    rw [hdr] at h0
                    exact h0.tail
                  rw [hf2] at M13
                  have M13' : MapI Try.prog 3 2 W13 mk (delI f x2) (nS - (k + 1)) := by
                    have := M13
                    simpa [Nat.sub_sub] using this
                  clear M12 own12 H12 M11 own11 H11 hl hcells hK7 hturn M13 t0 t1 u0 s0 s1 hbut
                  go_wp2_with (at_delete; refine wpList_delete_run rfl (.tmp 232) (.tmp 234) 72 3 rfl rfl rfl hdel ?_)
                  go_roundw
                  case rel => exact ⟨k + 1, _, by omega, by go_num, H13, M13', hK13, own13, hb13⟩
                  case measure => simp [intOf]; omega
              · obtain rfl : k = nS := by omega
                have M8 : MapI Try.prog 3 2 wr mk f 0 := by
                  have := M7
                  rwa [Nat.sub_self] at this
                have hN := Lib.hid (Len_any H7)
                rw [show (S.drop k).length = 0 by rw [List.length_drop]; omega] at hN
                clear H7 hK7 own7 M7 hYlt
                go_wp2_with (first | (at_len; refine wpList_len_run rfl (.tmp 235) 72 rfl rfl (M8.len Try.underlying72 _) ?_) | (go_at_call 32; refine hN.out.mono ?_; rintro e w8 ⟨rfl, rfl⟩))
                go_returns
                exact ⟨rfl, hb7⟩
end Go.Proofs.Ytapfndjaimfcaaa
