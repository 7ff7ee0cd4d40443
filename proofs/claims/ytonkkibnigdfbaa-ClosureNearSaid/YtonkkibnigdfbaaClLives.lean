/-
  Walks: Same at near stops, at int; the chapter's net, its example (clo/gen5.py).
-/
import Derived.Test.YtonkkibnigdfbaaClMk
import Derived.BigQuiet
namespace Go.Proofs.Ytonkkibnigdfbaa
open Go.RowKit Go.Shelf B K
set_option linter.unusedVariables false
set_option linter.unusedSimpArgs false
set_option maxHeartbeats 4000000
theorem sameN_any (A : Option Addr) (n c : Nat) (l : List It) (A' : Option Addr) (n' c' : Nat) (l' : List It) (w : World) (hr : Rd w 2 pairE A n l) (hr' : Rd w 2 pairE A' n' l') (hn : n ≤ 1099511627776) (hn' : n' ≤ 1099511627776) :
    Calls Try.prog 67 #[.slice A n c, .slice A' n' c'] w fun e w' => e = .returned (.bool (decide (l = l'))) ∧ Below w.heap.size w w' := by
  go_enter Try.func67, Try.ntmps67
  by_cases hnn : n = n'
  · subst hnn
    go_wp2
    go_loopw [5] (fun i wr => ∃ (k : Nat), k ≤ n ∧ i = .int .i64 k ∧ Below w.heap.size w wr ∧ Hid (l.take k = l'.take k)) (fun i _ => n - (intOf i).toNat)
    case atStart => exact ⟨0, Nat.zero_le _, rfl, Below.refl _ _, rfl⟩
    case round =>
      obtain ⟨k, hk, rfl, hb, heq⟩ := hrel
      by_cases hlt : k < n
      · obtain ⟨b, o, x1, x2, rfl, hbs, hl, h1, h2⟩ := (hr.below hb).pair hlt
        obtain ⟨b', o', y1, y2, rfl, hbs', hl', g1, g2⟩ := (hr'.below hb).pair hlt
        have hl := Lib.hid hl
        have hl' := Lib.hid hl'
        rename_i hx1 hx2; clear hx1 hx2
        have hlt2 : (k : Int) < (n : Int) := by omega
        by_cases e1 : x1 = y1
        · subst e1
          by_cases e2 : x2 = y2
          · subst e2
            go_wp2
            go_quiet (fail)
            go_wp2
            go_roundw
            case rel => exact ⟨k + 1, by omega, by go_num, below_drewN hb _, by show _ = _; rw [take_at hl.out, take_at hl'.out, heq.out]⟩
            case measure => simp [intOf]; omega
          · have hn : (x2 == y2) = false := by simp [e2]
            have hne : Hid (((x1, x2) : It) ≠ ((x1, y2) : It)) := by show _ ≠ _; simp [e2]
            clear e2
            have hll : Hid (l ≠ l') := by
              intro e
              apply hne.out
              have := hl.out; rw [e, hl'.out] at this
              exact (Option.some.inj this).symm
            clear hne
            go_wp2
            go_quiet (fail)
            go_wp2
            go_returns
            exact ⟨ret_bool (by symm; rw [decide_eq_false_iff_not]; exact hll.out), below_drewN hb _⟩
        · have hn : (x1 == y1) = false := by simp [e1]
          have hne : Hid (((x1, x2) : It) ≠ ((y1, y2) : It)) := by show _ ≠ _; simp [e1]
          clear e1
          have hll : Hid (l ≠ l') := by
            intro e
            apply hne.out
            have := hl.out; rw [e, hl'.out] at this
            exact (Option.some.inj this).symm
          clear hne
          go_wp2
          go_quiet (fail)
          go_wp2
          go_returns
          exact ⟨ret_bool (by symm; rw [decide_eq_false_iff_not]; exact hll.out), below_drewN hb _⟩
      · go_wp2
        go_returns
        exact ⟨ret_bool (by symm; rw [decide_eq_true_eq]; have := heq.out; rwa [List.take_of_length_le (by rw [hr.len]; omega), List.take_of_length_le (by rw [hr'.len]; omega)] at this), hb⟩
  · have hne : ((n : Int) != (n' : Int)) = true := by simp; omega
    go_wp2
    go_returns
    exact ⟨ret_bool (by symm; rw [decide_eq_false_iff_not]; intro e; apply hnn; rw [← hr.len, ← hr'.len, e]), Below.refl _ _⟩
theorem sameI_any (A : Option Addr) (n c : Nat) (l : List Int) (A' : Option Addr) (n' c' : Nat) (l' : List Int) (w : World) (hr : Rd w 1 (numE .i64) A n l) (hr' : Rd w 1 (numE .i64) A' n' l') (hn : n ≤ 1099511627776) (hn' : n' ≤ 1099511627776) :
    Calls Try.prog 45 #[.slice A n c, .slice A' n' c'] w fun e w' => e = .returned (.bool (decide (l = l'))) ∧ Below w.heap.size w w' := by
  go_enter Try.func45, Try.ntmps45
  by_cases hnn : n = n'
  · subst hnn
    go_wp2
    go_loopw [5] (fun i wr => ∃ (k : Nat), k ≤ n ∧ i = .int .i64 k ∧ Below w.heap.size w wr ∧ Hid (l.take k = l'.take k)) (fun i _ => n - (intOf i).toNat)
    case atStart => exact ⟨0, Nat.zero_le _, rfl, Below.refl _ _, rfl⟩
    case round =>
      obtain ⟨k, hk, rfl, hb, heq⟩ := hrel
      by_cases hlt : k < n
      · obtain ⟨b, o, x1, rfl, hbs, hl, h1⟩ := (hr.below hb).num hlt
        obtain ⟨b', o', y1, rfl, hbs', hl', g1⟩ := (hr'.below hb).num hlt
        have hl := Lib.hid hl
        have hl' := Lib.hid hl'
        rename_i hx1 hx2; clear hx1 hx2
        have hlt2 : (k : Int) < (n : Int) := by omega
        by_cases e1 : x1 = y1
        · subst e1
          go_wp2
          go_quiet (fail)
          go_wp2
          go_roundw
          case rel => exact ⟨k + 1, by omega, by go_num, below_drewQ hb _, by show _ = _; rw [take_at hl.out, take_at hl'.out, heq.out]⟩
          case measure => simp [intOf]; omega
        · have hn : (x1 == y1) = false := by simp [e1]
          have hll : Hid (l ≠ l') := by
            intro e
            apply e1
            have := hl.out; rw [e, hl'.out] at this
            exact (Option.some.inj this).symm
          clear e1
          go_wp2
          go_quiet (fail)
          go_wp2
          go_returns
          exact ⟨ret_bool (by symm; rw [decide_eq_false_iff_not]; exact hll.out), below_drewQ hb _⟩
      · go_wp2
        go_returns
        refine ⟨ret_bool ?_, hb⟩
        have h1 := heq.out
        rw [List.take_of_length_le (by rw [hr.len]; omega), List.take_of_length_le (by rw [hr'.len]; omega)] at h1
        rw [h1]; simp
  · have hll : Hid (l ≠ l') := by
      intro e
      apply hnn
      rw [← hr.len, ← hr'.len, e]
    go_wp2
    go_returns
    exact ⟨ret_bool (by symm; rw [decide_eq_false_iff_not]; exact hll.out), Below.refl _ _⟩
def isDistB (n : Nat) (l : List Ed) (s : Nat) (d : List Int) : Bool :=
  decide (d.length = n) && (decide (d[s]? = some 0) && (d.all (fun v => decide (v = 4611686018427387904 ∨ (0 ≤ v ∧ v ≤ 1099511627776))) &&
  (l.all (fun e => decide (1099511627776 < (d[e.1.toNat]?.getD 0) + e.2.2) || decide ((d[e.2.1.toNat]?.getD 0) ≤ (d[e.1.toNat]?.getD 0) + e.2.2)) &&
  (List.range n).all (fun i => decide (i = s) || (decide (1099511627776 < d[i]?.getD 0) || l.any (fun e => decide (e.2.1 = (i : Int)) && (decide (0 ≤ e.1 ∧ e.1 < (n : Int)) && decide (d[e.1.toNat]?.getD 0 + e.2.2 = d[i]?.getD 0))))))))
theorem isDistB_ok {n : Nat} {l : List Ed} {s : Nat} {d : List Int} (h : isDistB n l s d = true) : IsDist n l s d := by
  unfold isDistB at h
  simp only [Bool.and_eq_true, decide_eq_true_eq, List.all_eq_true, Bool.or_eq_true, List.any_eq_true, List.mem_range] at h
  obtain ⟨h1, h2, h3, h4, h5⟩ := h
  refine ⟨h1, h2, fun i v hv => h3 v (List.mem_of_getElem? hv), fun e he a b u v ea eb hu hv ht => ?_, fun i v hi hv hvt => ?_⟩
  · have := h4 e he
    rw [ea, eb, Int.toNat_natCast, Int.toNat_natCast, hu, hv] at this
    simp only [Option.getD_some] at this
    omega
  · have hin : i < n := by rw [← h1]; exact (List.getElem?_eq_some_iff.1 hv).1
    rcases h5 i hin with h6 | h6 | ⟨e, he, h7, h8, h9⟩
    · exact absurd h6 hi
    · rw [hv] at h6
      simp only [Option.getD_some] at h6
      omega
    · obtain ⟨p, hp⟩ : ∃ p : Nat, e.1 = (p : Int) := ⟨e.1.toNat, by omega⟩
      have hpn : p < n := by omega
      obtain ⟨u, hu⟩ : ∃ u, d[p]? = some u := ⟨d[p]'(by rw [h1]; exact hpn), List.getElem?_eq_getElem _⟩
      rw [hp, Int.toNat_natCast, hu, hv] at h9
      exact ⟨e, he, h7, p, u, hp, hu, h9⟩
/-- the example's edges -/
abbrev exL : List Ed := [(0, 1, 5), (1, 2, 2), (0, 2, 7)]
def exC : NetP := ⟨90, [[], [], []], [⟨0, 1, 3, false, 0, [], []⟩, ⟨1, 0, 3, false, 0, [], []⟩, ⟨1, 2, 4, false, 1, [], []⟩, ⟨2, 1, 4, false, 1, [], []⟩]⟩
theorem exC_ok : OkN exC := chkN_iff.1 (by decide)
theorem exC_small : Small exC := ⟨by decide, by decide, by decide, by decide⟩
def exCE : List Ed := [(0, 1, 3), (1, 0, 3), (1, 2, 4), (2, 1, 4)]
theorem exC_E : plainE exC = exCE := by decide
theorem exC_d {s : Nat} {d : List Int} (hs : s < 3) (hd : isDistB 3 exCE s d = true) : clD exC s = d := by
  have h := clD_is exC_ok (s := s) (by simpa [exC] using hs)
  have hk := plainE_ok exC_ok
  rw [exC_E] at h hk
  exact h.uniq hk (isDistB_ok hd)
theorem exC_s {d : List Int} {S : W.Row} (hp : S.Perm (itemsTo d 3)) (hs : S.Pairwise fun a b => ltI b a = false) : nearS d 3 = S := (srt_unique hp hs).symm
def exCC : List W.Row := [[(0, 0), (3, 1), (7, 2)], [(0, 1), (3, 0), (4, 2)], [(0, 2), (4, 1), (7, 0)]]
theorem exC_mk : mkC exC = exCC := by
  rw [mkC_ok exC_ok, show exC.cs.length = 3 from rfl]
  unfold rowsTo
  rw [show List.range 3 = [0, 1, 2] from rfl]
  simp only [List.map_cons, List.map_nil]
  rw [exC_d (s := 0) (d := [0, 3, 7]) (by omega) (by decide), exC_d (s := 1) (d := [3, 0, 4]) (by omega) (by decide), exC_d (s := 2) (d := [7, 4, 0]) (by omega) (by decide)]
  rw [exC_s (d := [0, 3, 7]) (S := [(0, 0), (3, 1), (7, 2)]) (by decide) (by decide), exC_s (d := [3, 0, 4]) (S := [(0, 1), (3, 0), (4, 2)]) (by decide) (by decide), exC_s (d := [7, 4, 0]) (S := [(0, 2), (4, 1), (7, 0)]) (by decide) (by decide)]
  rfl
theorem alloc3 (w : World) (a b c : Obj) : (((w.alloc a).alloc b).alloc c).heap[w.heap.size]? = some a ∧ (((w.alloc a).alloc b).alloc c).heap[w.heap.size + 1]? = some b ∧
    (((w.alloc a).alloc b).alloc c).heap[w.heap.size + 1 + 1]? = some c ∧ Below w.heap.size w (((w.alloc a).alloc b).alloc c) := by
  have s1 : (w.alloc a).heap.size = w.heap.size + 1 := by simp
  have s2 : ((w.alloc a).alloc b).heap.size = w.heap.size + 1 + 1 := by simp
  have b1 : Below w.heap.size w (w.alloc a) := (Below.refl _ w).alloc (Nat.le_refl _) _
  have b2 : Below (w.alloc a).heap.size (w.alloc a) ((w.alloc a).alloc b) := (Below.refl _ _).alloc (Nat.le_refl _) _
  have b3 : Below ((w.alloc a).alloc b).heap.size ((w.alloc a).alloc b) (((w.alloc a).alloc b).alloc c) := (Below.refl _ _).alloc (Nat.le_refl _) _
  refine ⟨?_, ?_, ?_, b1.trans ((b2.trans (b3.mono (by omega))).mono (by omega))⟩
  · rw [b3.block _ (by omega), b2.block _ (by omega)]; exact heap_alloc_new w a
  · rw [b3.block _ (by omega), ← s1]; exact heap_alloc_new _ b
  · rw [← s2]; exact heap_alloc_new _ c
theorem exC_net {U : World} {k1 k2 : Nat} {X : Option Addr} {xn xc : Nat} {L : List (Int × Int)} (r1 : U.heap[k1]? = some (.cells #[.slice none 0 0, .slice X xn xc, .slice none 0 0] 36))
    (r3 : U.heap[k2]? = some (.cells #[.int .i64 0, .int .i64 1, .int .i64 3, .bool false, .int .i64 0, .slice none 0 0, .slice none 0 0, .int .i64 1, .int .i64 0, .int .i64 3, .bool false, .int .i64 0, .slice none 0 0, .slice none 0 0,
      .int .i64 1, .int .i64 2, .int .i64 4, .bool false, .int .i64 1, .slice none 0 0, .slice none 0 0, .int .i64 2, .int .i64 1, .int .i64 4, .bool false, .int .i64 1, .slice none 0 0, .slice none 0 0] 38))
    (hX : Rd U 2 pairE X xn L ∧ xn ≤ xc ∧ xc ≤ 9223372036854775807) : RNet U { exC with cs := [[], L, []] } (some ⟨k1, 0, none⟩) 3 (some ⟨k2, 0, none⟩) 4 := by
  have rnil : Rd U 2 pairE none 0 [] ∧ 0 ≤ 0 ∧ 0 ≤ 9223372036854775807 := ⟨Rd.nil, by omega, by omega⟩
  refine ⟨rfl, rfl, fun k l hl => ?_, fun k l hl => ?_⟩
  · have hk : k < 3 := (List.getElem?_eq_some_iff.1 hl).1
    have hlt := (Array.getElem?_eq_some_iff.1 r1).1
    have : k = 0 ∨ k = 1 ∨ k = 2 := by omega
    rcases this with rfl | rfl | rfl
    · simp at hl; subst hl; exact ⟨_, 0, none, 0, 0, rfl, hlt, by rw [cell_of_row _ _ _ _ _ _ r1]; rfl, rnil.1, by omega, by omega⟩
    · simp at hl; subst hl; exact ⟨_, 0, X, xn, xc, rfl, hlt, by rw [cell_of_row _ _ _ _ _ _ r1]; rfl, hX.1, hX.2.1, hX.2.2⟩
    · simp at hl; subst hl; exact ⟨_, 0, none, 0, 0, rfl, hlt, by rw [cell_of_row _ _ _ _ _ _ r1]; rfl, rnil.1, by omega, by omega⟩
  · have hk : k < 4 := (List.getElem?_eq_some_iff.1 hl).1
    have hlt := (Array.getElem?_eq_some_iff.1 r3).1
    have : k = 0 ∨ k = 1 ∨ k = 2 ∨ k = 3 := by omega
    rcases this with rfl | rfl | rfl | rfl <;> (
      simp [exC] at hl; subst hl
      refine ⟨_, 0, none, 0, 0, none, 0, 0, rfl, hlt, rnil, rnil, ?_, ?_, ?_, ?_, ?_, ?_, ?_⟩ <;> (rw [cell_of_row _ _ _ _ _ _ r3]; rfl))
set_option maxRecDepth 100000 in
theorem cexampleB_any (w : World) : Calls Try.prog 43 #[] w fun e w' => ∃ k1 k2, e = .returned (.agg #[.int .i64 90, .slice (some ⟨k1, 0, none⟩) 3 3, .slice (some ⟨k2, 0, none⟩) 4 4]) ∧ w.heap.size ≤ k1 ∧ k1 ≠ k2 ∧
    w'.heap[k1]? = some (.cells #[.slice none 0 0, .slice none 0 0, .slice none 0 0] 36) ∧
    w'.heap[k2]? = some (.cells #[.int .i64 0, .int .i64 1, .int .i64 3, .bool false, .int .i64 0, .slice none 0 0, .slice none 0 0, .int .i64 1, .int .i64 0, .int .i64 3, .bool false, .int .i64 0, .slice none 0 0, .slice none 0 0,
      .int .i64 1, .int .i64 2, .int .i64 4, .bool false, .int .i64 1, .slice none 0 0, .slice none 0 0, .int .i64 2, .int .i64 1, .int .i64 4, .bool false, .int .i64 1, .slice none 0 0, .slice none 0 0] 38) ∧ Below w.heap.size w w' := by
  have hms : ∀ U : World, (Instr.makeSlice 22 (.int .i64 3) (.int .i64 3)).run Try.prog U = .ok (.slice (some ⟨U.heap.size, 0, none⟩) 3 3) (U.alloc (.cells #[.slice none 0 0, .slice none 0 0, .slice none 0 0] 36)) := fun U => by kernel_rfl
  go_enter Try.func43, Try.ntmps43
  go_wp2_with fail
  generalize hU : World.alloc (World.alloc (World.alloc w _) _) _ = U
  obtain ⟨r0, r1, r3, hb⟩ := alloc3 w _ _ _
  rw [hU] at r0 r1 r3 hb
  have q0 : U.cell? ⟨w.heap.size, 0, none⟩ = some (.int .i64 90) := by rw [cell_of_row _ _ _ _ _ _ r0]; rfl
  have q1 : U.cell? ⟨w.heap.size, 1, none⟩ = some (.slice (some ⟨w.heap.size + 1, 0, none⟩) 3 3) := by rw [cell_of_row _ _ _ _ _ _ r0]; rfl
  have q2 : U.cell? ⟨w.heap.size, 2, none⟩ = some (.slice (some ⟨w.heap.size + 1 + 1, 0, none⟩) 4 4) := by rw [cell_of_row _ _ _ _ _ _ r0]; rfl
  clear hU r0 hms
  refine bodyPost_ret (by simp [results, Try.results43, go_sem, q0, q1, q2]; try rfl) rfl ?_
  exact ⟨_, _, rfl, by omega, by omega, r1, r3, hb⟩
theorem cexample_any (w : World) : Calls Try.prog 43 #[] w fun e w' => ∃ A c B d, e = .returned (.agg #[.int .i64 90, .slice A 3 c, .slice B 4 d]) ∧ RNet w' exC A 3 B 4 ∧ Below w.heap.size w w' := by
  refine (cexampleB_any w).mono ?_
  rintro e w' ⟨k1, k2, rfl, _, _, r1, r3, hb⟩
  exact ⟨_, 3, _, 4, rfl, exC_net r1 r3 ⟨Rd.nil, by omega, by omega⟩, hb⟩
set_option maxRecDepth 100000 in
theorem clives_any (w : World) : Calls Try.prog 40 #[] w fun e w' => e = .returned (.bool true) ∧ Below w.heap.size w w' := by
  go_enter Try.func40, Try.ntmps40
  go_wp2_with fail
  refine (cexample_any _).mono ?_; rintro e w1 ⟨A, c, B, d, rfl, hr, hb1⟩
  have hM := Lib.hid (cmake_any (c := c) (d := d) exC_small w1 hr)
  rw [show exC.hz = 90 from rfl] at hM
  clear hr
  go_wp2_with fail
  refine hM.out.mono ?_; rintro e w2 ⟨A2, c2, rfl, hC, hc1, hc2, hb2⟩
  rw [exC_mk] at hC ⊢
  have hk0 : chkN exC = 0 := by decide
  rw [hk0]
  have hb12 := hb1.trans (hb2.mono hb1.size)
  obtain ⟨b, o, sA, sn, sc, l, rfl, hbl, hl, f0, hRl, hs1, hs2⟩ := hC.row (k := 0) (by decide)
  have hl' : l = [(0, 0), (3, 1), (7, 2)] := (Option.some.inj hl).symm
  subst hl'
  obtain rfl : sn = 3 := hRl.len.symm
  have f0 : w2.cell? ⟨b, o, none⟩ = some (.slice sA 3 sc) := f0
  have ha : Below w2.heap.size w2 (w2.alloc (.cells #[.int .i64 0, .int .i64 0, .int .i64 3, .int .i64 1, .int .i64 7, .int .i64 2] 67)) := (Below.refl _ w2).alloc (Nat.le_refl _) _
  have hn := Rd.lit w2 2 pairE pairE_len2 67 [(0, 0), (3, 1), (7, 2)]
  have hsm := Lib.hid (sameN_any sA 3 sc [(0, 0), (3, 1), (7, 2)] (some ⟨w2.heap.size, 0, none⟩) 3 3 [(0, 0), (3, 1), (7, 2)] _ (hRl.below ha) hn (by omega) (by omega))
  rw [decide_eq_true rfl] at hsm
  have hb13 := Lib.hid (hb12.trans (ha.mono hb12.size))
  have hl3 : exCC.length = 3 := rfl
  rw [hl3]
  clear hl hRl hM hn ha hC hb1 hb2 hb12 hk0 hl3
  go_wp2_with fail
  refine hsm.out.mono ?_; rintro e w3 ⟨rfl, hb3⟩
  go_wp2_with fail
  go_returns
  exact ⟨rfl, hb13.out.trans (hb3.mono hb13.out.size)⟩
end Go.Proofs.Ytonkkibnigdfbaa
