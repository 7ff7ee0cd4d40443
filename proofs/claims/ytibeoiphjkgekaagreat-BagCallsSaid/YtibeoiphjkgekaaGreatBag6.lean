/-
  Walks: slices.DeleteFunc at pairs and triples.
-/
import Derived.Test.YtibeoiphjkgekaaGreatBag5
import Derived.Test.YtibeoiphjkgekaaGreatSorted
namespace Go.Proofs.YtibeoiphjkgekaaGreat
open Go.RowKit B K Go.Shelf
set_option linter.unusedVariables false
set_option linter.unusedSimpArgs false
set_option maxHeartbeats 2000000
/-- an owned row handed back: of the old memory none but its own block has turned -/
def RetO {α : Type} (base : Nat) (t : TypeId) (size : Nat) (enc : α → List Value) (w : World) (v : Value) (l : List α) (e : Ending) (w' : World) : Prop :=
  ∃ v', e = .returned v' ∧ w'.ownsRow base t size v' l.length (l.flatMap enc) ∧ w.grownBy w' v.ownBlock ∧ v'.ownBlock = v.ownBlock
set_option maxRecDepth 100000 in
theorem delFP_any (g : Nat) (lb : Array Value) (eg : ∀ args w, (callFunc g args).run Tryz.prog w = .ok (.enter g args) w) (p : P2 → Bool) (base : Nat) (v : Value) (l : List P2) (w : World) (hown : w.ownsRow base 55 2 v l.length (l.flatMap pairE)) (hn : l.length ≤ 1099511627776)
    (hp : ∀ (W : World) (x : P2), w.grownBy W v.ownBlock → Calls Tryz.prog g (#[.agg (pairE x).toArray] ++ lb) W fun e w' => e = .returned (.bool (p x)) ∧ Below W.heap.size W w') :
    Calls Tryz.prog 69 #[v, .func (.func g) #[] lb] w fun e w' => RetO base 55 2 pairE w v (l.filter fun x => !p x) e w' := by
  obtain ⟨A, c, rfl, hr, hnc, hcm⟩ := Rd.of_own pairE_len2 rfl hown
  have hidx := idxFP_any g lb eg p A l.length c l w hr hn (fun W x hb => hp W x (grown_below hb _))
  cases hany : l.any p with
  | false =>
    have hno : ∀ y ∈ l, p y = false := fun y hy => by
      cases hq : p y with
      | false => rfl
      | true => rw [List.any_eq_true.2 ⟨y, hy, hq⟩] at hany; cases hany
    have hfl : Hid (l.filter (fun x => !p x) = l) := by show _ = _; rw [List.filter_eq_self]; intro y hy; rw [hno y hy]; rfl
    rw [idx_no hno] at hidx
    have hown' := Lib.hid hown
    clear hp hno hr hown hany
    go_enter Tryz.func69, Tryz.ntmps69
    go_wp2_with fail
    refine hidx.mono ?_; rintro e w1 ⟨rfl, hb⟩
    clear hidx
    go_wp2_with fail
    go_returns
    exact ⟨_, rfl, by rw [hfl.out]; exact own_up hown'.out hb, grown_below hb _, rfl⟩
  | true =>
    have hpos : 0 < l.length := by
      rcases Nat.eq_zero_or_pos l.length with h0 | h0
      · rw [List.eq_nil_of_length_eq_zero h0] at hany; cases hany
      · exact h0
    obtain ⟨i0, hi0⟩ : ∃ k, l.findIdx p = k := ⟨_, rfl⟩
    have hlt0 : i0 < l.length := by rw [← hi0]; exact List.findIdx_lt_length_of_exists (List.any_eq_true.1 hany)
    have hat0 : p l[i0] = true := by
      have := List.findIdx_getElem (p := p) (xs := l) (w := by rw [hi0]; exact hlt0)
      simpa [hi0] using this
    have hbef : ∀ y ∈ l.take i0, p y = false := by
      intro y hy
      rw [List.mem_take_iff_getElem] at hy
      obtain ⟨j, hj, rfl⟩ := hy
      have := List.not_of_lt_findIdx (p := p) (xs := l) (i := j) (by rw [hi0]; omega)
      simpa using this
    have hstart : Hid (l.take i0 = (l.take (i0 + 1)).filter fun x => !p x) := by
      show _ = _
      rw [take_at (List.getElem?_eq_getElem hlt0), List.filter_append, List.filter_eq_self.2 (fun y hy => by rw [hbef y hy]; rfl)]
      simp [hat0]
    have hix : idx p l = i0 := by unfold idx; rw [if_pos hany, hi0]
    rw [hix] at hidx
    obtain ⟨n, hnn⟩ : ∃ n, l.length = n := ⟨_, rfl⟩
    rw [hnn] at hown hn hidx hr hnc hpos hlt0 hp ⊢
    have hnn' := Lib.hid hnn
    obtain ⟨q, hq⟩ : ∃ q, n = q + 1 := ⟨n - 1, by omega⟩
    have hA : ∃ g0, A = some ⟨g0, 0, none⟩ := by
      subst hq
      obtain ⟨g0, cap, e⟩ := ownsRow_succ hown
      injection e with e1
      exact ⟨g0, e1⟩
    obtain ⟨g0, rfl⟩ := hA
    have hown' := Lib.hid hown
    clear hat0 hbef hany hix hi0 hnn hq hown
    have hgb : base ≤ g0 := (hown'.out.lt g0 rfl).1
    go_enter Tryz.func69, Tryz.ntmps69
    go_wp2_with fail
    refine hidx.mono ?_; rintro e w1 ⟨rfl, hb⟩
    clear hidx
    have hne : ((i0 : Int) == -1) = false := by simp
    go_wp2_with fail
    clear hne
    go_loopw [5, 6] (fun vi vj wr => ∃ (i j : Nat) (cur : List P2), j ≤ n ∧ i < j ∧ vi = .int .i64 i ∧ vj = .int .i64 j ∧ Hid (wr.ownsRow base 55 2 (.slice (some ⟨g0, 0, none⟩) n c) n (cur.flatMap pairE)) ∧ w.grownBy wr (some g0) ∧ Hid (cur.length = n ∧ cur.take i = (l.take j).filter (fun x => !p x) ∧ cur.drop j = l.drop j)) (fun _ vj _ => n - (intOf vj).toNat)
    case atStart => exact ⟨i0, i0 + 1, l, by omega, by omega, rfl, by go_num, own_up hown'.out hb, grown_below hb _, hnn'.out, hstart.out, rfl⟩
    case round =>
      obtain ⟨i, j, cur, hj, hij, rfl, rfl, own, hgr, hcur⟩ := hrel
      by_cases hlt : j < n
      · have r := (Rd.of_own pairE_len2 hcur.out.1 own.out)
        obtain ⟨A2, c2, e2, r, _, _⟩ := r
        cases e2
        obtain ⟨b, o, x1, x2, hA, hbs, hx, h1, h2⟩ := r.pair hlt
        cases hA
        simp only [Nat.zero_add] at h1 h2
        have hx := Lib.hid hx
        rename_i hx0; clear hx0
        have hgr1 : w.grownBy (wr.alloc (.cells #[.int .i64 x1, .int .i64 x2] 55)) (some g0) := grown_trans hgr (World.grownBy_alloc _ _ _)
        have hcall := hp _ (x1, x2) hgr1
        simp only [pairE, Array.append_eq_append, List.append_toArray, List.cons_append, List.nil_append] at hcall
        have own1 : Hid ((wr.alloc (.cells #[.int .i64 x1, .int .i64 x2] 55)).ownsRow base 55 2 (.slice (some ⟨g0, 0, none⟩) n c) n (cur.flatMap pairE)) := own.out.alloc _
        have bx1 := Bx2.new wr 55 x1 x2
        have hlx : Hid (l[j]? = some (x1, x2)) := by
          have h4 := hcur.out.2.2
          have h5 : (cur.drop j)[0]? = some (x1, x2) := by rw [List.getElem?_drop]; exact hx.out
          rw [h4, List.getElem?_drop] at h5
          exact h5
        clear hp r
        cases hq : p (x1, x2) with
        | true =>
          rw [hq] at hcall
          have hnext : Hid (cur.length = n ∧ cur.take i = (l.take (j + 1)).filter (fun x => !p x) ∧ cur.drop (j + 1) = l.drop (j + 1)) := by
            refine ⟨hcur.out.1, ?_, ?_⟩
            · rw [take_at hlx.out, List.filter_append, ← hcur.out.2.1]; simp [hq]
            · have := hcur.out.2.2
              rw [← List.drop_drop, ← List.drop_drop, this]
          clear hq
          go_wp2_with fail
          refine hcall.mono ?_; rintro e w2 ⟨rfl, hb2⟩
          clear hcall
          go_wp2_with fail
          go_roundw
          case rel => exact ⟨i, j + 1, cur, by omega, by omega, rfl, by go_num, own_up own1.out hb2, grown_trans hgr1 (grown_below hb2 _), hnext⟩
          case measure => simp [intOf]; omega
        | false =>
          rw [hq] at hcall
          have hnext : Hid ((cur.set i (x1, x2)).length = n ∧ (cur.set i (x1, x2)).take (i + 1) = (l.take (j + 1)).filter (fun x => !p x) ∧ (cur.set i (x1, x2)).drop (j + 1) = l.drop (j + 1)) := by
            refine ⟨by rw [List.length_set]; exact hcur.out.1, ?_, ?_⟩
            · rw [take_at (show (cur.set i (x1, x2))[i]? = some (x1, x2) by rw [List.getElem?_set_self (by rw [hcur.out.1]; omega)]), List.take_set_of_le (Nat.le_refl _), hcur.out.2.1, take_at hlx.out, List.filter_append]
              simp [hq]
            · rw [List.drop_set_of_lt (by omega), ← List.drop_drop, hcur.out.2.2, List.drop_drop]
          clear hq
          go_wp2_with fail
          refine hcall.mono ?_; rintro e w2 ⟨rfl, hb2⟩
          clear hcall h1 h2 hbs
          have own2' : Hid (w2.ownsRow base 55 2 (.slice (some ⟨g0, 0, none⟩) n c) n (cur.flatMap pairE)) := own_up own1.out hb2
          have own2 := own2'.out
          have bx := bx1.below hb2
          have b0 : w2.cell? ⟨wr.heap.size, 0, none⟩ = some (.int .i64 x1) := bx.c0
          have b1 : w2.cell? ⟨wr.heap.size, 1, none⟩ = some (.int .i64 x2) := bx.c1
          obtain ⟨A3, c3, e3, r3, _, _⟩ := Rd.of_own pairE_len2 hcur.out.1 own2
          cases e3
          obtain ⟨b3, o3, u1, u2, hA3, _, _, s1, s2⟩ := r3.pair (k := i) (by omega)
          cases hA3
          simp only [Nat.zero_add] at s1 s2
          have m0 := own2.frozenAt (i * 2)
          have m1 := own2.frozenAt (i * 2 + 1)
          have own3 : Hid (((w2.setCell ⟨g0, i * 2, none⟩ (.int .i64 x1)).setCell ⟨g0, i * 2 + 1, none⟩ (.int .i64 x2)).ownsRow base 55 2 (.slice (some ⟨g0, 0, none⟩) n c) n ((cur.set i (x1, x2)).flatMap pairE)) := by
            have h9 := ((own2.stored (i * 2) (.int .i64 x1)).1.stored (i * 2 + 1) (.int .i64 x2)).1
            rwa [flat_set_pair _ _ _ _ (by rw [hcur.out.1]; omega)] at h9
          have gr3 : Hid (w.grownBy ((w2.setCell ⟨g0, i * 2, none⟩ (.int .i64 x1)).setCell ⟨g0, i * 2 + 1, none⟩ (.int .i64 x2)) (some g0)) := grown_trans (grown_trans hgr1 (grown_below hb2 _)) (grown_trans ((own2.stored (i * 2) (.int .i64 x1)).2) (((own2.stored (i * 2) (.int .i64 x1)).1.stored (i * 2 + 1) (.int .i64 x2)).2))
          have hin : (i : Int) < (n : Int) := by omega
          clear own own1 own2 own2' r3 bx bx1
          go_wp2_with fail
          go_roundw
          case rel => exact ⟨i + 1, j + 1, _, by omega, by omega, by go_num, by go_num, own3.out, gr3.out, hnext⟩
          case measure => simp [intOf]; omega
      · obtain rfl : j = n := by omega
        have hcut := fun W => run_cut (P := Tryz.prog) (t := 56) (e := 55) (s := 2) Tryz.underlying56 (by kernel_rfl) (fun W => by simp [go_sem]) (some ⟨g0, 0, none⟩) j c i (by omega) .i64 W
        obtain ⟨w5, hclr, own5, hgr5⟩ := own_clear (ty := 0) Tryz.underlying56 infoPair rfl (by decide) (by decide) own.out hnc (m := i) (by omega)
        have hfin : Hid (l.filter (fun x => !p x) = cur.take i) := by show _ = _; rw [hcur.out.2.1, List.take_of_length_le (by rw [hnn'.out]; omega)]
        have hlen : Hid ((l.filter (fun x => !p x)).length = i) := by show _ = _; rw [hfin.out, List.length_take, hcur.out.1]; omega
        rw [flat_take pairE_len2] at own5
        have own5 := Lib.hid own5
        rename_i own50; clear own50
        go_wp2_with fail
        go_returns
        exact ⟨_, rfl, by rw [hlen.out, hfin.out]; exact own5.out, grown_trans hgr hgr5, rfl⟩
set_option maxRecDepth 100000 in
theorem delFT_any (g : Nat) (lb : Array Value) (eg : ∀ args w, (callFunc g args).run Tryz.prog w = .ok (.enter g args) w) (p : P3 → Bool) (base : Nat) (v : Value) (l : List P3) (w : World) (hown : w.ownsRow base 66 3 v l.length (l.flatMap tripE)) (hn : l.length ≤ 1099511627776)
    (hp : ∀ (W : World) (x : P3), w.grownBy W v.ownBlock → Calls Tryz.prog g (#[.agg (tripE x).toArray] ++ lb) W fun e w' => e = .returned (.bool (p x)) ∧ Below W.heap.size W w') :
    Calls Tryz.prog 79 #[v, .func (.func g) #[] lb] w fun e w' => RetO base 66 3 tripE w v (l.filter fun x => !p x) e w' := by
  obtain ⟨A, c, rfl, hr, hnc, hcm⟩ := Rd.of_own tripE_len rfl hown
  have hidx := idxFT_any g lb eg p A l.length c l w hr hn (fun W x hb => hp W x (grown_below hb _))
  cases hany : l.any p with
  | false =>
    have hno : ∀ y ∈ l, p y = false := fun y hy => by
      cases hq : p y with
      | false => rfl
      | true => rw [List.any_eq_true.2 ⟨y, hy, hq⟩] at hany; cases hany
    have hfl : Hid (l.filter (fun x => !p x) = l) := by show _ = _; rw [List.filter_eq_self]; intro y hy; rw [hno y hy]; rfl
    rw [idx_no hno] at hidx
    have hown' := Lib.hid hown
    clear hp hno hr hown hany
    go_enter Tryz.func79, Tryz.ntmps79
    go_wp2_with fail
    refine hidx.mono ?_; rintro e w1 ⟨rfl, hb⟩
    clear hidx
    go_wp2_with fail
    go_returns
    exact ⟨_, rfl, by rw [hfl.out]; exact own_up hown'.out hb, grown_below hb _, rfl⟩
  | true =>
    have hpos : 0 < l.length := by
      rcases Nat.eq_zero_or_pos l.length with h0 | h0
      · rw [List.eq_nil_of_length_eq_zero h0] at hany; cases hany
      · exact h0
    obtain ⟨i0, hi0⟩ : ∃ k, l.findIdx p = k := ⟨_, rfl⟩
    have hlt0 : i0 < l.length := by rw [← hi0]; exact List.findIdx_lt_length_of_exists (List.any_eq_true.1 hany)
    have hat0 : p l[i0] = true := by
      have := List.findIdx_getElem (p := p) (xs := l) (w := by rw [hi0]; exact hlt0)
      simpa [hi0] using this
    have hbef : ∀ y ∈ l.take i0, p y = false := by
      intro y hy
      rw [List.mem_take_iff_getElem] at hy
      obtain ⟨j, hj, rfl⟩ := hy
      have := List.not_of_lt_findIdx (p := p) (xs := l) (i := j) (by rw [hi0]; omega)
      simpa using this
    have hstart : Hid (l.take i0 = (l.take (i0 + 1)).filter fun x => !p x) := by
      show _ = _
      rw [take_at (List.getElem?_eq_getElem hlt0), List.filter_append, List.filter_eq_self.2 (fun y hy => by rw [hbef y hy]; rfl)]
      simp [hat0]
    have hix : idx p l = i0 := by unfold idx; rw [if_pos hany, hi0]
    rw [hix] at hidx
    obtain ⟨n, hnn⟩ : ∃ n, l.length = n := ⟨_, rfl⟩
    rw [hnn] at hown hn hidx hr hnc hpos hlt0 hp ⊢
    have hnn' := Lib.hid hnn
    obtain ⟨q, hq⟩ : ∃ q, n = q + 1 := ⟨n - 1, by omega⟩
    have hA : ∃ g0, A = some ⟨g0, 0, none⟩ := by
      subst hq
      obtain ⟨g0, cap, e⟩ := ownsRow_succ hown
      injection e with e1
      exact ⟨g0, e1⟩
    obtain ⟨g0, rfl⟩ := hA
    have hown' := Lib.hid hown
    clear hat0 hbef hany hix hi0 hnn hq hown
    have hgb : base ≤ g0 := (hown'.out.lt g0 rfl).1
    go_enter Tryz.func79, Tryz.ntmps79
    go_wp2_with fail
    refine hidx.mono ?_; rintro e w1 ⟨rfl, hb⟩
    clear hidx
    have hne : ((i0 : Int) == -1) = false := by simp
    go_wp2_with fail
    clear hne
    go_loopw [5, 6] (fun vi vj wr => ∃ (i j : Nat) (cur : List P3), j ≤ n ∧ i < j ∧ vi = .int .i64 i ∧ vj = .int .i64 j ∧ Hid (wr.ownsRow base 66 3 (.slice (some ⟨g0, 0, none⟩) n c) n (cur.flatMap tripE)) ∧ w.grownBy wr (some g0) ∧ Hid (cur.length = n ∧ cur.take i = (l.take j).filter (fun x => !p x) ∧ cur.drop j = l.drop j)) (fun _ vj _ => n - (intOf vj).toNat)
    case atStart => exact ⟨i0, i0 + 1, l, by omega, by omega, rfl, by go_num, own_up hown'.out hb, grown_below hb _, hnn'.out, hstart.out, rfl⟩
    case round =>
      obtain ⟨i, j, cur, hj, hij, rfl, rfl, own, hgr, hcur⟩ := hrel
      by_cases hlt : j < n
      · have r := (Rd.of_own tripE_len hcur.out.1 own.out)
        obtain ⟨A2, c2, e2, r, _, _⟩ := r
        cases e2
        obtain ⟨b, o, x1, x2, x3, hA, hbs, hx, h1, h2, h3⟩ := r.trip hlt
        cases hA
        simp only [Nat.zero_add] at h1 h2 h3
        have hx := Lib.hid hx
        rename_i hx0; clear hx0
        have hgr1 : w.grownBy (wr.alloc (.cells #[.int .i64 x1, .int .i64 x2, .int .i64 x3] 66)) (some g0) := grown_trans hgr (World.grownBy_alloc _ _ _)
        have hcall := hp _ (x1, x2, x3) hgr1
        simp only [tripE, Array.append_eq_append, List.append_toArray, List.cons_append, List.nil_append] at hcall
        have own1 : Hid ((wr.alloc (.cells #[.int .i64 x1, .int .i64 x2, .int .i64 x3] 66)).ownsRow base 66 3 (.slice (some ⟨g0, 0, none⟩) n c) n (cur.flatMap tripE)) := own.out.alloc _
        have bx1 := Bx3.new wr 66 x1 x2 x3
        have hlx : Hid (l[j]? = some (x1, x2, x3)) := by
          have h4 := hcur.out.2.2
          have h5 : (cur.drop j)[0]? = some (x1, x2, x3) := by rw [List.getElem?_drop]; exact hx.out
          rw [h4, List.getElem?_drop] at h5
          exact h5
        clear hp r
        cases hq : p (x1, x2, x3) with
        | true =>
          rw [hq] at hcall
          have hnext : Hid (cur.length = n ∧ cur.take i = (l.take (j + 1)).filter (fun x => !p x) ∧ cur.drop (j + 1) = l.drop (j + 1)) := by
            refine ⟨hcur.out.1, ?_, ?_⟩
            · rw [take_at hlx.out, List.filter_append, ← hcur.out.2.1]; simp [hq]
            · have := hcur.out.2.2
              rw [← List.drop_drop, ← List.drop_drop, this]
          clear hq
          go_wp2_with fail
          refine hcall.mono ?_; rintro e w2 ⟨rfl, hb2⟩
          clear hcall
          go_wp2_with fail
          go_roundw
          case rel => exact ⟨i, j + 1, cur, by omega, by omega, rfl, by go_num, own_up own1.out hb2, grown_trans hgr1 (grown_below hb2 _), hnext⟩
          case measure => simp [intOf]; omega
        | false =>
          rw [hq] at hcall
          have hnext : Hid ((cur.set i (x1, x2, x3)).length = n ∧ (cur.set i (x1, x2, x3)).take (i + 1) = (l.take (j + 1)).filter (fun x => !p x) ∧ (cur.set i (x1, x2, x3)).drop (j + 1) = l.drop (j + 1)) := by
            refine ⟨by rw [List.length_set]; exact hcur.out.1, ?_, ?_⟩
            · rw [take_at (show (cur.set i (x1, x2, x3))[i]? = some (x1, x2, x3) by rw [List.getElem?_set_self (by rw [hcur.out.1]; omega)]), List.take_set_of_le (Nat.le_refl _), hcur.out.2.1, take_at hlx.out, List.filter_append]
              simp [hq]
            · rw [List.drop_set_of_lt (by omega), ← List.drop_drop, hcur.out.2.2, List.drop_drop]
          clear hq
          go_wp2_with fail
          refine hcall.mono ?_; rintro e w2 ⟨rfl, hb2⟩
          clear hcall h1 h2 h3 hbs
          have own2' : Hid (w2.ownsRow base 66 3 (.slice (some ⟨g0, 0, none⟩) n c) n (cur.flatMap tripE)) := own_up own1.out hb2
          have own2 := own2'.out
          have bx := bx1.below hb2
          have b0 : w2.cell? ⟨wr.heap.size, 0, none⟩ = some (.int .i64 x1) := bx.c0
          have b1 : w2.cell? ⟨wr.heap.size, 1, none⟩ = some (.int .i64 x2) := bx.c1
          have b2 : w2.cell? ⟨wr.heap.size, 2, none⟩ = some (.int .i64 x3) := bx.c2
          obtain ⟨A3, c3, e3, r3, _, _⟩ := Rd.of_own tripE_len hcur.out.1 own2
          cases e3
          obtain ⟨b3, o3, u1, u2, u3, hA3, _, _, s1, s2, s3⟩ := r3.trip (k := i) (by omega)
          cases hA3
          simp only [Nat.zero_add] at s1 s2 s3
          have m0 := own2.frozenAt (i * 3)
          have m1 := own2.frozenAt (i * 3 + 1)
          have m2 := own2.frozenAt (i * 3 + 2)
          have own3 : Hid ((((w2.setCell ⟨g0, i * 3, none⟩ (.int .i64 x1)).setCell ⟨g0, i * 3 + 1, none⟩ (.int .i64 x2)).setCell ⟨g0, i * 3 + 2, none⟩ (.int .i64 x3)).ownsRow base 66 3 (.slice (some ⟨g0, 0, none⟩) n c) n ((cur.set i (x1, x2, x3)).flatMap tripE)) := by
            have h9 := (((own2.stored (i * 3) (.int .i64 x1)).1.stored (i * 3 + 1) (.int .i64 x2)).1.stored (i * 3 + 2) (.int .i64 x3)).1
            rwa [flat_set_trip _ _ _ _ _ (by rw [hcur.out.1]; omega)] at h9
          have gr3 : Hid (w.grownBy (((w2.setCell ⟨g0, i * 3, none⟩ (.int .i64 x1)).setCell ⟨g0, i * 3 + 1, none⟩ (.int .i64 x2)).setCell ⟨g0, i * 3 + 2, none⟩ (.int .i64 x3)) (some g0)) := grown_trans (grown_trans hgr1 (grown_below hb2 _)) (grown_trans (grown_trans ((own2.stored (i * 3) (.int .i64 x1)).2) (((own2.stored (i * 3) (.int .i64 x1)).1.stored (i * 3 + 1) (.int .i64 x2)).2)) ((((own2.stored (i * 3) (.int .i64 x1)).1.stored (i * 3 + 1) (.int .i64 x2)).1.stored (i * 3 + 2) (.int .i64 x3)).2))
          have hin : (i : Int) < (n : Int) := by omega
          clear own own1 own2 own2' r3 bx bx1
          go_wp2_with fail
          go_roundw
          case rel => exact ⟨i + 1, j + 1, _, by omega, by omega, by go_num, by go_num, own3.out, gr3.out, hnext⟩
          case measure => simp [intOf]; omega
      · obtain rfl : j = n := by omega
        have hcut := fun W => run_cut (P := Tryz.prog) (t := 67) (e := 66) (s := 3) Tryz.underlying67 (by kernel_rfl) (fun W => by simp [go_sem]) (some ⟨g0, 0, none⟩) j c i (by omega) .i64 W
        obtain ⟨w5, hclr, own5, hgr5⟩ := own_clear (ty := 0) Tryz.underlying67 infoTri rfl (by decide) (by decide) own.out hnc (m := i) (by omega)
        have hfin : Hid (l.filter (fun x => !p x) = cur.take i) := by show _ = _; rw [hcur.out.2.1, List.take_of_length_le (by rw [hnn'.out]; omega)]
        have hlen : Hid ((l.filter (fun x => !p x)).length = i) := by show _ = _; rw [hfin.out, List.length_take, hcur.out.1]; omega
        rw [flat_take tripE_len] at own5
        have own5 := Lib.hid own5
        rename_i own50; clear own50
        go_wp2_with fail
        go_returns
        exact ⟨_, rfl, by rw [hlen.out, hfin.out]; exact own5.out, grown_trans hgr hgr5, rfl⟩
end Go.Proofs.YtibeoiphjkgekaaGreat
