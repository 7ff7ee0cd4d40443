/-
  Walk: timetablelaw12.HeapOrder.
-/
import Derived.Test.YtapfndjaimfcaaaHeap14
import Derived.Test.YtapfndjaimfcaaaHeapAll
import Derived.Test.YtapfndjaimfcaaaHeap16
import Derived.Test.YtapfndjaimfcaaaMapLen
import Derived.Deep.DeepCutAuto
import Derived.LaidEqlPtr
namespace Go.Proofs.Ytapfndjaimfcaaa
open Go.RowKit Go.Shelf B K
set_option linter.unusedVariables false
set_option linter.unusedSimpArgs false
set_option maxHeartbeats 4000000
theorem HQ2.eqs {w : World} {base ha hb : Nat} {X : List Nat} {la lb : List It} (H : HQ2 w base ha hb X la lb) :
    (binOp .eql 49 (.pointer (some ⟨ha, 0, none⟩)) (.pointer (some ⟨ha, 0, none⟩))).run Try.prog w = .ok (.bool true) w ∧ (binOp .eql 49 (.pointer (some ⟨hb, 0, none⟩)) (.pointer (some ⟨hb, 0, none⟩))).run Try.prog w = .ok (.bool true) w ∧
    (binOp .eql 49 (.pointer (some ⟨ha, 0, none⟩)) (.pointer (some ⟨hb, 0, none⟩))).run Try.prog w = .ok (.bool false) w ∧ (binOp .eql 49 (.pointer (some ⟨hb, 0, none⟩)) (.pointer (some ⟨ha, 0, none⟩))).run Try.prog w = .ok (.bool false) w := by
  have hne := H.ne
  obtain ⟨ma, sa, la', mb, sb, lb', ⟨h1, _⟩, ⟨h2, _⟩, _, _⟩ := H
  have hi : (Try.prog.info? 87).map (fun i => i.size) = some 2 := by kernel_rfl
  cases hj : Try.prog.info? 87 with
  | none => rw [hj] at hi; cases hi
  | some j =>
    rw [hj] at hi
    have hsz : j.size ≠ 0 := by
      simp at hi; omega
    exact ⟨run_eql_ptr_same w _ Try.underlying49 hj, run_eql_ptr_same w _ Try.underlying49 hj, run_eql_ptr_other w Try.underlying49 hj hsz (fun e => hne (congrArg Addr.block e)) h1.blk h2.blk, run_eql_ptr_other w Try.underlying49 hj hsz (fun e => hne (congrArg Addr.block e).symm) h2.blk h1.blk⟩
set_option maxRecDepth 100000 in
theorem order12_any (A : Option Addr) (n c : Nat) (l : List It) (by' : Int) (w : World) (hr : Rd w 2 pairE A n l) (hw : ∀ x ∈ l, (Lit.int .i64 x.1).wf = true ∧ (Lit.int .i64 x.2).wf = true) (hby : -9223372036854775808 ≤ by' ∧ by' ≤ 9223372036854775807) :
    Calls Try.prog 9 #[.slice A n c, .int .i64 by'] w fun e w' => e = .returned (.bool true) ∧ Below w.heap.size w w' := by
  have hmk : ∀ W : World, (Instr.makeMap 51 none).run Try.prog W = .ok (.map (some W.heap.size)) (W.alloc (.map #[] 0)) := fun W => by kernel_rfl
  go_enter Try.func9, Try.ntmps9
  go_wp2_with fail
  refine (lives12_any _).mono ?_; rintro e w1 ⟨rfl, hb1⟩
  by_cases hn : 200 < n
  · go_wp2_with fail
    go_returns
    exact ⟨rfl, hb1⟩
  have hwn : IntKind.i64.wrap ((n : Int) + 1) = (n : Int) + 1 := IntWalk.i64_in _ (by omega)
  go_wp2_with fail
  refine (pick_any by' ((n : Int) + 1) _ (by omega) hby).mono ?_; rintro e w2 ⟨p, rfl, hp, hq2⟩
  have hb2 := hb1.trans (hq2.mono hb1.size)
  have hp : p ≤ n := by omega
  have hln := hr.len
  clear hq2 hb1
  go_wp2_with fail
  refine (New_any (base := w.heap.size) [] (by simp) hb2.size).mono ?_; rintro e w3 ⟨ha, rfl, hha, Ha, hq3⟩
  have hb3 := hb2.trans (hq3.mono hb2.size)
  obtain ⟨ma, sa, la', a1, a2, a3, _⟩ := Ha
  go_wp2_with fail
  refine (New_any (base := w.heap.size) (hbs ha ma sa) a1.lt hb3.size).mono ?_; rintro e w4 ⟨hb, rfl, hhb, Hb, hq4⟩
  have hb4 := hb3.trans (hq4.mono hb3.size)
  obtain ⟨mb, sb, lb', c1, c2, c3, c4⟩ := Hb
  have H4 : HQ2 w4 w.heap.size ha hb [] [] [] := ⟨ma, sa, la', mb, sb, lb', ⟨a1.below hq4, a2, a3⟩, ⟨c1, c2, c3⟩, c4, fun x hx => (by cases hx)⟩
  obtain ⟨mk, hmke⟩ : ∃ q, w4.heap.size = q := ⟨_, rfl⟩
  have ha5 : Below w4.heap.size w4 (w4.alloc (.map #[] 0)) := (Below.refl _ w4).alloc (Nat.le_refl _) _
  have M5 : MapI Try.prog 3 3 (w4.alloc (.map #[] 0)) w4.heap.size (fun _ => none) 0 := MapI.new w4
  have H5 := (H4.more (Y := [w4.heap.size]) (by simp)).below ha5
  have hb5 := hb4.trans (ha5.mono hb4.size)
  have hmb : w.heap.size ≤ mk := by rw [← hmke]; exact hb4.size
  rw [hmke] at M5 H5
  clear H4 a1 a2 a3 c1 c2 c3 c4 ha5 hb2 hb3 hb4 hq3 hq4
  have hpl0 : pushL ((rotI l p).take 0) = [] := rfl
  go_wp2_with fail
  go_loopw [8] (fun i wr => ∃ (k : Nat) (f : Int → Option Int), k ≤ n ∧ i = .int .i64 k ∧ HQ2 wr w.heap.size ha hb [mk] (l.take k) (pushL ((rotI l p).take k)) ∧ MapI Try.prog 3 3 wr mk f k ∧ Hid (Seen f (l.take k)) ∧ Below w.heap.size w wr) (fun i _ => n - (intOf i).toNat)
  case atStart => exact ⟨0, _, Nat.zero_le _, rfl, by rw [List.take_zero, List.take_zero]; exact H5, M5, by show Seen _ _; rw [List.take_zero]; exact seen_nil, hb5⟩
  case round =>
    clear H5 M5 hb5
    obtain ⟨k, f, hk, rfl, H6, M6, hS6, hb6⟩ := hrel
    by_cases hlt : k < n
    · obtain ⟨b, o, x1, x2, rfl, hbs', hx, h1, h2⟩ := (hr.below hb6).pair hlt
      have hwx1 : (Lit.int .i64 x1).wf = true := (hw _ (List.mem_of_getElem? hx)).1
      have hwx2 : (Lit.int .i64 x2).wf = true := (hw _ (List.mem_of_getElem? hx)).2
      have htk := take_at hx
      have hl := (M6.look Try.underlying51 Try.underlying3 Try.underlying3 (by kernel_rfl) hwx2).2
      cases hf : f x2 with
      | some v =>
        obtain ⟨rfl, _⟩ := hS6.out.2.1 _ _ hf
        rw [hf] at hl
        simp only [Option.getD_some] at hl
        go_wp2_with fail
        go_returns
        exact ⟨rfl, hb6⟩
      | none =>
        rw [hf] at hl
        simp only [Option.getD_none] at hl
        obtain ⟨W7, hrun, M7, hturn⟩ := M6.store (v := 1) Try.underlying51 Try.underlying3 Try.underlying3 (by omega) hwx2 (by decide)
        rw [hf] at M7
        have hbut7 : But wr W7 [mk] := MapI.turned hturn (by simp)
        have H7 := H6.but hbut7 (by simp)
        have hb7 := hb6.trans (hbut7.below hb6.size (by simpa using hmb))
        have hS7 := Lib.hid (show Seen (updI f x2 1) (l.take k ++ [(x1, x2)]) from hS6.out.push (x := (x1, x2)) hf)
        have hfresh : ∀ y ∈ l.take k, y.2 ≠ x2 := fun y hy e => by have := hS6.out.1 y hy; rw [e, hf] at this; cases this
        have hcell : Hid (∀ W, Below w.heap.size w W → ∀ (j : Nat) (y1 y2 : Int), l[j]? = some (y1, y2) → W.cell? ⟨b, o + j * 2, none⟩ = some (.int .i64 y1) ∧ W.cell? ⟨b, o + j * 2 + 1, none⟩ = some (.int .i64 y2)) := fun W hW j y1 y2 hy => by
          obtain ⟨b', o', z1, z2, e', _, hz, g1, g2⟩ := (hr.below hW).pair (k := j) (by have := (List.getElem?_eq_some_iff.1 hy).1; omega)
          cases e'
          rw [hy] at hz; cases hz
          exact ⟨g1, g2⟩
        have hX7 : ∀ x ∈ [mk], x < W7.heap.size := by simpa using M7.lt
        obtain ⟨Y, HA, hY, hXY, hback⟩ := H7.left hX7
        have hPa := Lib.hid (Push_new (kx := x1) HA hwx2 hfresh hb7.size hY (by rw [List.length_take]; omega))
        have hback := Lib.hid hback
        rename_i hback0; clear hback0
        obtain ⟨q1, q2⟩ := hcell.out W7 hb7 k x1 x2 hx
        have hmX := hXY mk (by simp)
        have hlm := M7.lt
        have hS7' : Hid (Seen (updI f x2 1) (l.take (k + 1))) := by show Seen _ _; rw [htk]; exact hS7.out
        have hlen1 : (l.take k).length = k := by rw [List.length_take]; omega
        -- the item for the second heap
        have hjl : (k + p) % n < l.length := by rw [hln]; exact Nat.mod_lt _ (by omega)
        have hz : l[(k + p) % n]? = some l[(k + p) % n] := List.getElem?_eq_getElem hjl
        obtain ⟨⟨z1, z2⟩, ez⟩ : ∃ q, l[(k + p) % n] = q := ⟨_, rfl⟩
        rw [ez] at hz
        have hwz2 : (Lit.int .i64 z2).wf = true := (hw _ (List.mem_of_getElem? hz)).2
        have hrz : (rotI l p)[k]? = some (z1, z2) := by rw [rotI_at hln hp hlt]; exact hz
        have htz := Lib.hid (take_at hrz)
        have hmod : ((k : Int) + p).tmod n = (((k + p) % n : Nat) : Int) := by
          rw [Int.tmod_eq_emod_of_nonneg (by omega)]; simp
        have hlen2 : (pushL ((rotI l p).take k)).length ≤ k := Nat.le_trans (pushL_len _) (List.length_take_le _ _)
        clear M6 H6 H7 HA hturn hf hfresh hb6 ez
        go_wp2_with fail
        refine hPa.out.mono ?_; rintro e w8 ⟨rfl, hpost⟩
        have hb8 := hb7.trans hpost.2.1
        have M8 := M7.keep (hpost.2.2 mk hmX hlm)
        have H8 := (hback.out _ _ hpost).perm (la2 := l.take (k + 1)) (by rw [htk]; exact (List.perm_append_singleton _ _).symm) (List.Perm.refl _)
        have hX8 : ∀ x ∈ [mk], x < w8.heap.size := by simpa using M8.lt
        clear hpost hback hPa q1 q2 hrun hl hb7
        obtain ⟨Y2, HB, hY2, hXY2, hback2⟩ := H8.symm.left hX8
        obtain ⟨q1, q2⟩ := hcell.out w8 hb8 _ z1 z2 hz
        have hback2 := Lib.hid hback2
        rename_i hback0; clear hback0
        have hmX2 := hXY2 mk (by simp)
        have hlm2 := M8.lt
        have hjn : (((k + p) % n : Nat) : Int) < (n : Int) := by have := Nat.mod_lt (k + p) (show 0 < n by omega); omega
        obtain ⟨j, hj⟩ : ∃ j, (k + p) % n = j := ⟨_, rfl⟩
        rw [hj] at q1 q2 hmod hjn
        have hnx : Hid (pushL ((rotI l p).take (k + 1)) = pushS (pushL ((rotI l p).take k)) (z1, z2)) := by show _ = _; rw [htz.out, pushL_snoc]
        by_cases hth : ∃ y ∈ pushL ((rotI l p).take k), y.2 = z2
        · have hPb := Lib.hid (Push_there (kx := z1) (ix := z2) HB hwz2 hth)
          have hnx2 : Hid (pushL ((rotI l p).take (k + 1)) = pushL ((rotI l p).take k)) := by show _ = _; rw [hnx.out, pushS_there hth]
          clear HB hth hback2 hz hrz hx htk hj
          go_wp2_with fail
          refine hPb.out.mono ?_; rintro e w9 ⟨rfl, hq9⟩
          go_wp2_with fail
          go_roundw
          case rel => exact ⟨k + 1, _, by omega, by go_num, by rw [hnx2.out]; exact H8.below hq9, M8.below hq9, hS7', hb8.trans (hq9.mono hb8.size)⟩
          case measure => simp [intOf]; omega
        · have hPb := Lib.hid (Push_new (kx := z1) (ix := z2) HB hwz2 (fun y hy e => hth ⟨y, hy, e⟩) hb8.size hY2 (by omega))
          have hnx2 : Hid (pushL ((rotI l p).take (k + 1)) = (z1, z2) :: pushL ((rotI l p).take k)) := by show _ = _; rw [hnx.out, pushS_new (fun y hy e => hth ⟨y, hy, e⟩)]
          clear HB hth hz hrz hx htk hj
          go_wp2_with fail
          refine hPb.out.mono ?_; rintro e w9 ⟨rfl, hpost⟩
          have H9 := (hback2.out _ _ hpost).symm
          have M9 := M8.keep (hpost.2.2 mk hmX2 hlm2)
          have hb9 := hb8.trans hpost.2.1
          clear hpost hback2
          go_wp2_with fail
          go_roundw
          case rel => exact ⟨k + 1, _, by omega, by go_num, by rw [hnx2.out]; exact H9, M9, hS7', hb9⟩
          case measure => simp [intOf]; omega
    · obtain rfl : k = n := by omega
      have hnd : (l.map Prod.snd).Nodup := by
        have := hS6.out.2.2
        rwa [List.take_of_length_le (by omega)] at this
      have H7 : HQ2 wr w.heap.size ha hb [mk] l l := by
        refine H6.perm (by rw [List.take_of_length_le (by omega)]) ?_
        rw [List.take_of_length_le (by rw [rotI_len]; omega)]
        refine (pushL_perm ?_).trans (rotI_perm l p)
        exact ((rotI_perm l p).map Prod.snd).nodup_iff.2 hnd
      clear H6 M6 hS6
      obtain ⟨S, hS⟩ : ∃ S, srtI l = S := ⟨_, rfl⟩
      have hst0 := srt_strict hnd
      have hSl := srtI_len l
      have hpS : S.Perm l := by rw [← hS]; exact srtI_perm l
      rw [hS] at hst0 hSl
      have hnS : S.length = k := by omega
      have hwS : Hid (∀ x ∈ S, (Lit.int .i64 x.2).wf = true) := fun x hx => (hw x (hpS.mem_iff.1 hx)).2
      have hidS : Hid ((S.map Prod.snd).Nodup) := (hpS.map Prod.snd).nodup_iff.2 hnd
      have hstS := Lib.hid hst0
      have hN1 := Lib.hid (Len_any H7.one)
      have hN2 := Lib.hid (Len_any H7.symm.one)
      rw [hln] at hN1 hN2
      have hhne := H7.ne
      have hA1 := Lib.hid (All_any H7.one)
      rw [hS] at hA1
      clear hst0 hSl hnd
      go_wp2_with fail
      refine hN1.out.mono ?_; rintro e w7 ⟨rfl, rfl⟩
      go_wp2_with fail
      refine hN2.out.mono ?_; rintro e w8 ⟨rfl, rfl⟩
      go_wp2_with fail
      refine hA1.out.mono ?_; rintro e w9 ⟨A1, c1, rfl, r1, h1c, _, hq9⟩
      have H9 := H7.below hq9
      have hb9 := hb6.trans (hq9.mono hb6.size)
      have hA2 := Lib.hid (All_any H9.symm.one)
      rw [hS] at hA2
      clear H7 hq9 hb6 hN1 hN2 hA1
      go_wp2_with fail
      refine hA2.out.mono ?_; rintro e w10 ⟨A2, c2, rfl, r2, h2c, _, hq10⟩
      have H10 := H9.below hq10
      have hb10 := hb9.trans (hq10.mono hb9.size)
      have hsame := Lib.hid (sameI_any A1 S.length c1 S A2 S.length c2 S _ (r1.below hq10) r2 (by omega) (by omega))
      rw [decide_eq_true (rfl : S = S), hnS] at hsame
      clear H9 hq10 hb9 hA2 r1 r2
      go_wp2_with fail
      refine hsame.out.mono ?_; rintro e w11 ⟨rfl, hq11⟩
      have H11 := H10.below hq11
      have hb11 := hb10.trans (hq11.mono hb10.size)
      have hA3 := Lib.hid (All_own H11.one)
      rw [hS, hnS] at hA3
      clear H10 hq11 hb10 hsame
      go_wp2_with fail
      refine hA3.out.mono ?_; rintro e w12 ⟨v, rfl, own12, hq12⟩
      have hb12 := hb11.trans (hq12.mono hb11.size)
      obtain ⟨A3, c3, rfl, _, _, _⟩ := Rd.of_own (enc := pairE) pairE_len2 hnS own12
      obtain ⟨Y, hY⟩ : ∃ Y, (Value.slice A3 k c3).ownBlock.toList = Y := ⟨_, rfl⟩
      have hgY : ∀ g, (Value.slice A3 k c3).ownBlock = some g → g ∈ Y := fun g hg => by rw [← hY]; simp [hg]
      have H12 : HQ2 w12 w.heap.size ha hb Y S S := by
        refine ((H11.more (Y := Y) fun y hy => ?_).perm hpS.symm hpS.symm).below hq12
        rw [← hY] at hy
        exact .inr (own_lt own12 (by simpa using hy)).2
      have own12' := own_low own12 hb11.size
      clear H11 hq12 hb11 hA3 own12 hS hpS
      clear hp hr hw hln
      go_wp2_with fail
      go_loopw [10] (fun i wr => ∃ (q : Nat), q ≤ k ∧ i = .int .i64 q ∧ HQ2 wr w.heap.size ha hb Y (S.drop q) (S.drop q) ∧ wr.ownsRow w.heap.size 53 2 (.slice A3 k c3) k (S.flatMap pairE) ∧ Below w.heap.size w wr) (fun i _ => k - (intOf i).toNat)
      case atStart => exact ⟨0, Nat.zero_le _, rfl, H12, own12', hb12⟩
      case round =>
        clear H12 own12' hb12
        obtain ⟨q, hq, rfl, H10, own10, hb10⟩ := hrel
        have hYl : ∀ y ∈ Y, y < wr.heap.size := fun y hy => by
          rw [← hY] at hy
          exact (own_lt own10 (by simpa using hy)).1
        by_cases hlt : q < k
        · obtain ⟨A4, q4, e4, rS, _, _⟩ := Rd.of_own (enc := pairE) pairE_len2 hnS own10
          cases e4
          obtain ⟨b, o, x1, x2, rfl, hbs', hx, h1, h2⟩ := rS.pair hlt
          have hdr := Lib.hid (drop_at hx)
          have hmin : Hid (∀ y ∈ S.drop (q + 1), ltI (x1, x2) y = true) := fun y hy => by
            have := hstS.out.sublist (List.drop_sublist q S)
            rw [hdr.out, List.pairwise_cons] at this
            exact this.1 y hy
          have hids : Hid (∀ y ∈ S.drop (q + 1), y.2 ≠ x2) := fun y hy e => by
            have h0 := hidS.out.sublist ((List.drop_sublist q S).map Prod.snd)
            rw [hdr.out, List.map_cons, List.nodup_cons] at h0
            exact h0.1 (List.mem_map.2 ⟨y, hy, e⟩)
          have hwx2 : (Lit.int .i64 x2).wf = true := hwS.out _ (List.mem_of_getElem? hx)
          have hcells : Hid (∀ W : World, W.ownsRow w.heap.size 53 2 (.slice (some ⟨b, o, none⟩) k c3) k (S.flatMap pairE) → ∀ (j : Nat) (y1 y2 : Int), S[j]? = some (y1, y2) → b < W.heap.size ∧ W.cell? ⟨b, o + j * 2, none⟩ = some (.int .i64 y1) ∧ W.cell? ⟨b, o + j * 2 + 1, none⟩ = some (.int .i64 y2)) := fun W hW j y1 y2 hy => by
            obtain ⟨A5, q5, e5, r5, _, _⟩ := Rd.of_own (enc := pairE) pairE_len2 hnS hW
            cases e5
            obtain ⟨b', o', z1, z2, e', hb', hz, g1, g2⟩ := r5.pair (k := j) (by have := (List.getElem?_eq_some_iff.1 hy).1; omega)
            cases e'
            rw [hy] at hz; cases hz
            exact ⟨hb', g1, g2⟩
          have hx := Lib.hid hx
          rename_i hx0; clear hx0
          have hmod : (q : Int).tmod 3 = ((q % 3 : Nat) : Int) := by rw [Int.tmod_eq_emod_of_nonneg (by omega)]; simp
          obtain ⟨r, hr3⟩ : ∃ r, q % 3 = r := ⟨_, rfl⟩
          rw [hr3] at hmod
          have hr3 := Lib.hid hr3
          rename_i hr30; clear hr30
          have hkz : (q : Int) < (k : Int) := by omega
          clear rS h1 h2
          by_cases hm : r = 1
          · subst hm
            obtain ⟨Y1, HA, hY1, hXY1, hback1⟩ := H10.symm.left hYl
            have hP1 := Lib.hid (Pop_min HA (x := (x1, x2)) (l0 := S.drop (q + 1)) (by rw [hdr.out]) hmin.out hb10.size hY1)
            go_wp2_with fail
            refine hP1.out.mono ?_; rintro e w11 ⟨rfl, hpost⟩
            have H11 := (hback1 _ _ hpost).symm
            have hb11 := hb10.trans hpost.2.1
            have hk11 : ∀ y ∈ Y, w11.heap[y]? = wr.heap[y]? := fun y hy => hpost.2.2 y (hXY1 y hy) (hYl y hy)
            have hs11 := hpost.2.1.size
            clear hpost hback1 HA hP1 hY1 hXY1
            have ha12 : Below w11.heap.size w11 (w11.alloc (.cells #[.int .i64 x1, .int .i64 x2] 53)) := (Below.refl _ w11).alloc (Nat.le_refl _) _
            have hnew12 := heap_alloc_new w11 (.cells #[.int .i64 x1, .int .i64 x2] 53)
            have H12 : HQ2 (w11.alloc (.cells #[.int .i64 x1, .int .i64 x2] 53)) w.heap.size ha hb (w11.heap.size :: Y) (S.drop q) (S.drop (q + 1)) := (H11.more (Y := w11.heap.size :: Y) (by
              intro y hy
              rcases List.mem_cons.1 hy with rfl | hy
              · exact .inr (Nat.le_refl _)
              · exact .inl hy)).below ha12
            have hb12 := hb11.trans (ha12.mono hb11.size)
            have hX12 : ∀ y ∈ w11.heap.size :: Y, y < (w11.alloc (.cells #[.int .i64 x1, .int .i64 x2] 53)).heap.size := fun y hy => by
              rcases List.mem_cons.1 hy with rfl | hy
              · simp
              · exact Nat.lt_of_lt_of_le (hYl y hy) (Nat.le_trans hs11 ha12.size)
            have hk12 : ∀ y ∈ Y, (w11.alloc (.cells #[.int .i64 x1, .int .i64 x2] 53)).heap[y]? = wr.heap[y]? := fun y hy => (ha12.block y (Nat.lt_of_lt_of_le (hYl y hy) hs11)).trans (hk11 y hy)
            have bx := Bx2.new w11 53 x1 x2
            obtain ⟨W12, hW12⟩ : ∃ q, w11.alloc (.cells #[.int .i64 x1, .int .i64 x2] 53) = q := ⟨_, rfl⟩
            obtain ⟨b8, hb8e⟩ : ∃ q, w11.heap.size = q := ⟨_, rfl⟩
            rw [hW12] at H12 hb12 hX12 hk12 bx hnew12
            rw [hb8e] at H12 hX12 bx hnew12
            have t0 := bx.c0
            have t1 := bx.c1
            have hL := Lib.hid (Lower_high H12.one (id := x2) (key := x1) (old := x1) hwx2 (by rw [hdr.out]; simp) (Int.le_refl _))
            clear ha12 hk11 H11 hb11
            go_wp2_with fail
            refine hL.out.mono ?_; rintro e w13 ⟨rfl, rfl⟩
            obtain ⟨pe1, pe2, pe3, pe4⟩ := H12.eqs
            obtain ⟨Y2, HB, hY2, hXY2, hback2⟩ := H12.left hX12
            have hP2 := Lib.hid (Pop_min HB (x := (x1, x2)) (l0 := S.drop (q + 1)) (by rw [hdr.out]) hmin.out hb12.size hY2)
            go_wp2_with fail
            refine hP2.out.mono ?_; rintro e w14 ⟨rfl, hpost⟩
            have H14 := hback2 _ _ hpost
            have hb14 := hb12.trans hpost.2.1
            have hk14 : ∀ y ∈ Y, w14.heap[y]? = wr.heap[y]? := fun y hy => (hpost.2.2 y (hXY2 y (by simp [hy])) (hX12 y (by simp [hy]))).trans (hk12 y hy)
            have hn14 := (hpost.2.2 b8 (hXY2 b8 (by simp)) (hX12 b8 (by simp))).trans hnew12
            have hl14 := (Array.getElem?_eq_some_iff.1 hn14).1
            have u0 : w14.cell? ⟨b8, 0, none⟩ = some (.int .i64 x1) := by rw [cell_of_row _ _ _ _ _ _ hn14]; rfl
            have u1 : w14.cell? ⟨b8, 1, none⟩ = some (.int .i64 x2) := by rw [cell_of_row _ _ _ _ _ _ hn14]; rfl
            have own14 : w14.ownsRow w.heap.size 53 2 (.slice (some ⟨b, o, none⟩) k c3) k (S.flatMap pairE) := own_keep own10 fun g hg => hk14 g (hgY g hg)
            have H14' := H14.more (Y := Y) (fun y hy => .inl (by simp [hy]))
            clear hpost hback2 HB hP2 hY2 hXY2 hk12 hk14 hn14 hnew12 hX12 H12 H14 bx hb12
            have ha15 : Below w14.heap.size w14 (w14.alloc (.cells #[.int .i64 x1, .int .i64 x2] 53)) := (Below.refl _ w14).alloc (Nat.le_refl _) _
            have bx2 := Bx2.new w14 53 x1 x2
            have own15 := own_up own14 ha15
            have H15 := H14'.below ha15
            have hb15 := hb14.trans (ha15.mono hb14.size)
            have u0 := (ha15.cell (p := ⟨b8, 0, none⟩) hl14).trans u0
            have u1 := (ha15.cell (p := ⟨b8, 1, none⟩) hl14).trans u1
            have hl15 := Nat.lt_of_lt_of_le hl14 ha15.size
            obtain ⟨W15, hW15⟩ : ∃ q, w14.alloc (.cells #[.int .i64 x1, .int .i64 x2] 53) = q := ⟨_, rfl⟩
            obtain ⟨b9, hb9e⟩ : ∃ q, w14.heap.size = q := ⟨_, rfl⟩
            rw [hW15] at bx2 own15 H15 hb15 u0 u1 hl15
            rw [hb9e] at bx2
            have v0 := bx2.c0
            have v1 := bx2.c1
            clear ha15 own14 H14' hb14 hl14
            obtain ⟨hlb, s0, s1⟩ := hcells.out W15 own15 q x1 x2 hx.out
            go_upto_region 36 with fail
            refine wp_region_below W15.heap.size (by kernel_rfl) (by kernel_rfl) ?_
            intro C hC
            repeat (go_big_quiet_step (first
              | ((intro _; with_reducible rfl))
              | (intro hc; have m0 := (hc.cell (p := ⟨b8, _, none⟩) hl15).trans u0; have m1 := (hc.cell (p := ⟨b8, _, none⟩) hl15).trans u1; have m2 := (hc.cell (p := ⟨b, _, none⟩) hlb).trans s0; have m3 := (hc.cell (p := ⟨b, _, none⟩) hlb).trans s1; simp only [m0, m1, m2, m3, Result.andThen]; exact ⟨trivial, rfl⟩)))
            refine wpQuiet_nil ?_
            intro w16 hb16
            clear hC
            go_wp2_with fail
            go_roundw
            case rel => exact ⟨q + 1, by omega, by go_num, H15.below hb16, own_up own15 hb16, hb15.trans (hb16.mono hb15.size)⟩
            case measure => simp [intOf]; omega
          · have hm1 : ((r : Int) == 1) = false := by simp; omega
            obtain ⟨Y1, HA, hY1, hXY1, hback1⟩ := H10.left hYl
            have hP1 := Lib.hid (Pop_min HA (x := (x1, x2)) (l0 := S.drop (q + 1)) (by rw [hdr.out]) hmin.out hb10.size hY1)
            go_wp2_with fail
            refine hP1.out.mono ?_; rintro e w11 ⟨rfl, hpost⟩
            have H11 := hback1 _ _ hpost
            have hb11 := hb10.trans hpost.2.1
            have hk11 : ∀ y ∈ Y, w11.heap[y]? = wr.heap[y]? := fun y hy => hpost.2.2 y (hXY1 y hy) (hYl y hy)
            have hs11 := hpost.2.1.size
            clear hpost hback1 HA hP1 hY1 hXY1
            have ha12 : Below w11.heap.size w11 (w11.alloc (.cells #[.int .i64 x1, .int .i64 x2] 53)) := (Below.refl _ w11).alloc (Nat.le_refl _) _
            have hnew12 := heap_alloc_new w11 (.cells #[.int .i64 x1, .int .i64 x2] 53)
            have H12 : HQ2 (w11.alloc (.cells #[.int .i64 x1, .int .i64 x2] 53)) w.heap.size ha hb (w11.heap.size :: Y) (S.drop (q + 1)) (S.drop q) := (H11.more (Y := w11.heap.size :: Y) (by
              intro y hy
              rcases List.mem_cons.1 hy with rfl | hy
              · exact .inr (Nat.le_refl _)
              · exact .inl hy)).below ha12
            have hb12 := hb11.trans (ha12.mono hb11.size)
            have hX12 : ∀ y ∈ w11.heap.size :: Y, y < (w11.alloc (.cells #[.int .i64 x1, .int .i64 x2] 53)).heap.size := fun y hy => by
              rcases List.mem_cons.1 hy with rfl | hy
              · simp
              · exact Nat.lt_of_lt_of_le (hYl y hy) (Nat.le_trans hs11 ha12.size)
            have hk12 : ∀ y ∈ Y, (w11.alloc (.cells #[.int .i64 x1, .int .i64 x2] 53)).heap[y]? = wr.heap[y]? := fun y hy => (ha12.block y (Nat.lt_of_lt_of_le (hYl y hy) hs11)).trans (hk11 y hy)
            have bx := Bx2.new w11 53 x1 x2
            obtain ⟨W12, hW12⟩ : ∃ q, w11.alloc (.cells #[.int .i64 x1, .int .i64 x2] 53) = q := ⟨_, rfl⟩
            obtain ⟨b8, hb8e⟩ : ∃ q, w11.heap.size = q := ⟨_, rfl⟩
            rw [hW12] at H12 hb12 hX12 hk12 bx hnew12
            rw [hb8e] at H12 hX12 bx hnew12
            have t0 := bx.c0
            have t1 := bx.c1
            have hL := Lib.hid (Lower_none H12.one (id := x2) (key := x1) hwx2 hids.out)
            clear ha12 hk11 H11 hb11
            go_wp2_with fail
            refine hL.out.mono ?_; rintro e w13 ⟨rfl, rfl⟩
            obtain ⟨pe1, pe2, pe3, pe4⟩ := H12.eqs
            obtain ⟨Y2, HB, hY2, hXY2, hback2⟩ := H12.symm.left hX12
            have hP2 := Lib.hid (Pop_min HB (x := (x1, x2)) (l0 := S.drop (q + 1)) (by rw [hdr.out]) hmin.out hb12.size hY2)
            go_wp2_with fail
            refine hP2.out.mono ?_; rintro e w14 ⟨rfl, hpost⟩
            have H14 := (hback2 _ _ hpost).symm
            have hb14 := hb12.trans hpost.2.1
            have hk14 : ∀ y ∈ Y, w14.heap[y]? = wr.heap[y]? := fun y hy => (hpost.2.2 y (hXY2 y (by simp [hy])) (hX12 y (by simp [hy]))).trans (hk12 y hy)
            have hn14 := (hpost.2.2 b8 (hXY2 b8 (by simp)) (hX12 b8 (by simp))).trans hnew12
            have hl14 := (Array.getElem?_eq_some_iff.1 hn14).1
            have u0 : w14.cell? ⟨b8, 0, none⟩ = some (.int .i64 x1) := by rw [cell_of_row _ _ _ _ _ _ hn14]; rfl
            have u1 : w14.cell? ⟨b8, 1, none⟩ = some (.int .i64 x2) := by rw [cell_of_row _ _ _ _ _ _ hn14]; rfl
            have own14 : w14.ownsRow w.heap.size 53 2 (.slice (some ⟨b, o, none⟩) k c3) k (S.flatMap pairE) := own_keep own10 fun g hg => hk14 g (hgY g hg)
            have H14' := H14.more (Y := Y) (fun y hy => .inl (by simp [hy]))
            clear hpost hback2 HB hP2 hY2 hXY2 hk12 hk14 hn14 hnew12 hX12 H12 H14 bx hb12
            obtain ⟨hlb, s0, s1⟩ := hcells.out w14 own14 q x1 x2 hx.out
            go_upto_region 36 with fail
            refine wp_region_below w14.heap.size (by kernel_rfl) (by kernel_rfl) ?_
            intro C hC
            repeat (go_big_quiet_step (first
              | ((intro _; with_reducible rfl))
              | (intro hc; have m0 := (hc.cell (p := ⟨b8, _, none⟩) hl14).trans u0; have m1 := (hc.cell (p := ⟨b8, _, none⟩) hl14).trans u1; have m2 := (hc.cell (p := ⟨b, _, none⟩) hlb).trans s0; have m3 := (hc.cell (p := ⟨b, _, none⟩) hlb).trans s1; simp only [m0, m1, m2, m3, Result.andThen]; exact ⟨trivial, rfl⟩)))
            refine wpQuiet_nil ?_
            intro w16 hb16
            clear hC
            go_wp2_with fail
            go_roundw
            case rel => exact ⟨q + 1, by omega, by go_num, H14'.below hb16, own_up own14 hb16, hb14.trans (hb16.mono hb14.size)⟩
            case measure => simp [intOf]; omega
        · obtain rfl : q = k := by omega
          have hN1 := Lib.hid (Len_any H10.one)
          have hN2 := Lib.hid (Len_any H10.symm.one)
          rw [show (S.drop q).length = 0 by rw [List.length_drop]; omega] at hN1 hN2
          clear H10 own10 hYl
          go_wp2_with fail
          refine hN1.out.mono ?_; rintro e w11 ⟨rfl, rfl⟩
          go_wp2_with fail
          refine hN2.out.mono ?_; rintro e w12 ⟨rfl, rfl⟩
          go_wp2_with fail
          go_returns
          exact ⟨rfl, hb10⟩
end Go.Proofs.Ytapfndjaimfcaaa
