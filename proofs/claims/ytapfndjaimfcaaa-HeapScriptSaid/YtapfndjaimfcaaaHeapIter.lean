/-
  Walks: slices.Values, AppendSeq, Collect at items.
-/
import Derived.Test.YtapfndjaimfcaaaHeap6
import Derived.Test.YtapfndjaimfcaaaIter
import Derived.Test.YtapfndjaimfcaaaRound
import Derived.Shelf.Abstract
import Derived.Shelf.RegionOpen
import Derived.OwnWalkIn
import Derived.TacticsInMore
import Derived.LoopNIn
import Derived.LoopIn
import Derived.Sort.QuietIn
import Derived.Maps.AppendAt
namespace Go.Proofs.Ytapfndjaimfcaaa
open Go.RowKit B Go.Shelf
attribute [local go_sem] Oper.semAt_some
set_option linter.unusedVariables false
set_option linter.unusedSimpArgs false
set_option maxHeartbeats 1000000
def itV (p : It) : Value := .agg #[.int .i64 p.1, .int .i64 p.2]
theorem pre_take {l : List It} {k : Nat} {x : It} (h : l[k]? = some x) : l.take k ++ [x] <+: l := by rw [← take_at h]; exact List.take_prefix _ _
theorem turn_below {w wr W' : World} {S : Nat → Prop} (hb : Below w.heap.size w wr) (hT : Turn (fun k => ¬ k < w.heap.size ∧ ¬ S k) wr W') : Below w.heap.size w W' :=
  hb.trans (hT.toBelow hb.size fun k hk h => h.1 hk)
theorem values_iter (Bs : Nat) (A : Option Addr) (n c : Nat) (l : List It) (w : World) (hBs : Bs < w.heap.size) (c1 : w.cell? ⟨Bs, 0, none⟩ = some (.slice A n c)) (hr : Rd w 2 pairE A n l) (hn : n ≤ 1099511627776) :
    Iter Try.prog 65 #[.pointer (some ⟨Bs, 0, none⟩)] itV l (fun k => k < w.heap.size) (fun _ => False) w := by
  intro L J Jx W hW h0 hst hstx hround
  have c1 := (hW.cell (p := ⟨Bs, 0, none⟩) hBs).trans c1
  have hround := Lib.hid hround
  have hst := Lib.hid hst
  have hstx := Lib.hid hstx
  rename_i hr1 hs1 hs2
  clear hr1 hs1 hs2
  have hll := hr.len
  refine callsIn_of_wp Try.func65 rfl trivial ?_ rfl
  simp only [Try.ntmps65, List.size_toArray, List.length_cons, List.length_nil, Nat.reduceAdd, Nat.reduceSub, Array.replicate_succ, Array.replicate_zero, List.push_toArray, List.append_toArray, List.nil_append, List.cons_append]
  gi_wp2
  gi_loopw [7] (fun i wr => ∃ (k : Nat), k ≤ n ∧ i = .int .i64 k ∧ J (l.take k) (fun _ => False) wr ∧ Below w.heap.size w wr) (fun i _ => n - (intOf i).toNat)
  case atStart => exact ⟨0, Nat.zero_le _, rfl, h0, hW⟩
  case round =>
    obtain ⟨k, hk, rfl, hj, hb⟩ := hrel
    by_cases hlt : k < n
    · obtain ⟨b, o, x1, x2, rfl, hbs, hx, h1, h2⟩ := (hr.below hb).pair hlt
      have hj2 := hst.out _ _ _ _ _ hj (Step.same ((Turn.refl (fun _ => False) wr).alloc (.cells #[.int .i64 x1, .int .i64 x2] 53)))
      have hb2 : Below w.heap.size w (wr.alloc (.cells #[.int .i64 x1, .int .i64 x2] 53)) := hb.alloc hb.size _
      obtain ⟨fn, tmps, assign, body, hy, hR⟩ := hround.out _ _ _ (wr.alloc (.cells #[.int .i64 x1, .int .i64 x2] 53)) hj2 (pre_take hx)
      have hR := Lib.hid hR
      dsimp only [itV] at hy
      have htk := Lib.hid (take_at hx)
      have hpre := Lib.hid (pre_take hx)
      clear hx hj hj2
      gi_wp2
      refine ⟨rfl, ?_⟩
      refine RoundIn.mono hR.out ?_
      rintro e W' (⟨rfl, hj', hT⟩ | ⟨rfl, hj', hT⟩)
      · have hb' := Lib.hid (turn_below hb2 hT)
        gi_wp2
        go_roundw
        case rel => exact ⟨k + 1, by omega, by go_num, by rw [htk.out]; exact hj', hb'.out⟩
        case measure => simp [intOf]; omega
      · gi_wp2
        refine bodyPost_ret (results_none rfl _ _ _) rfl ?_
        exact ⟨⟨_, rfl⟩, fun _ => False, .inr ⟨_, hpre.out, hj'⟩⟩
    · gi_wp2
      refine bodyPost_end (results_none rfl _ _ _) rfl ?_
      refine ⟨⟨_, rfl⟩, fun _ => False, .inl ?_⟩
      rw [List.take_of_length_le (by omega)] at hj
      exact hj
theorem values_any (v : Value) (w : World) (hv : ∃ A n c, v = .slice A n c) :
    Calls Try.prog 54 #[v] w fun e w' => e = .returned (.func (.func 65) #[] #[.pointer (some ⟨w.heap.size, 0, none⟩)]) ∧ w' = w.alloc (.cells #[v] 48) := by
  obtain ⟨A, n, c, rfl⟩ := hv
  go_enter Try.func54, Try.ntmps54
  go_wp2
  go_returns
  exact ⟨rfl, rfl⟩
theorem own_low {w : World} {base base' : Nat} {e : TypeId} {size n : Nat} {v : Value} {xs : List Value} (h : w.ownsRow base e size v n xs) (hb : base' ≤ base) : w.ownsRow base' e size v n xs := by
  refine ⟨h.1, ?_⟩
  rcases h.2 with h2 | ⟨g, cap, cur, h1, h2, r⟩
  · exact .inl h2
  · exact .inr ⟨g, cap, cur, h1, Nat.le_trans hb h2, r⟩
/-- what the loop of 'AppendSeq' holds -/
def AInv (w : World) (Bo : Nat) (pre : List It) (S : Nat → Prop) (V : World) : Prop :=
  ∃ v, V.heap[Bo]? = some (.cells #[v] 48 (0, 0)) ∧ V.ownsRow (w.heap.size + 1) 53 2 v pre.length (pre.flatMap pairE) ∧ ¬ S Bo ∧ (∀ g, v.ownBlock = some g → ¬ S g) ∧
    (∀ k, S k → w.heap.size ≤ k) ∧ Below w.heap.size w V
theorem AInv.step {w : World} {Bo : Nat} {pre : List It} {S S' : Nat → Prop} {V V' : World} (h : AInv w Bo pre S V) (hs : Step S S' V V') : AInv w Bo pre S' V' := by
  obtain ⟨v, h1, h2, h3, h4, h5, h6⟩ := h
  have hBo := (Array.getElem?_eq_some_iff.1 h1).1
  refine ⟨v, (hs.turn.block Bo hBo h3).trans h1, own_keep h2 (fun k hk => hs.turn.block k (h2.lt k hk).2 (h4 k hk)), fun h => ?_, fun g hg h => ?_, fun k hk => ?_, h6.trans (hs.turn.toBelow h6.size (fun k hk h => by have := h5 k h; omega))⟩
  · rcases hs.new _ h with h | h
    · exact h3 h
    · omega
  · have := (h2.lt g hg).2
    rcases hs.new _ h with h | h
    · exact h4 g hg h
    · omega
  · rcases hs.new _ hk with h | h
    · exact h5 k h
    · have := h6.size; omega
theorem AInv.push {w : World} {pre : List It} {x : It} {S : Nat → Prop} {V2 : World} {v : Value} {n1 g c : Nat} {w1 : World} {o : Obj}
    (g1 : V2.heap[w.heap.size]? = some (.cells #[v] 48 (0, 0))) (g2 : V2.ownsRow (w.heap.size + 1) 53 2 v pre.length (pre.flatMap pairE)) (g3 : ¬ S w.heap.size) (g4 : ∀ g, v.ownBlock = some g → ¬ S g) (g5 : ∀ k, S k → w.heap.size ≤ k)
    (g6 : Below w.heap.size w V2) (hS : ∀ k, S k → k < V2.heap.size)
    (own1 : w1.ownsRow (w.heap.size + 1) 53 2 (.slice (some ⟨g, 0, none⟩) n1 c) (pre ++ [x]).length ((pre ++ [x]).flatMap pairE)) (hgr : (V2.alloc o).grownBy w1 v.ownBlock) (hg : v.ownBlock = some g ∨ g = V2.heap.size + 1) :
    w1.heap[w.heap.size]? = some (.cells #[v] 48 (0, 0)) ∧ AInv w w.heap.size (pre ++ [x]) S (w1.setCell ⟨w.heap.size, 0, none⟩ (.slice (some ⟨g, 0, none⟩) n1 c)) ∧ Turn (fun k => ¬ k < w.heap.size ∧ ¬ S k) V2 (w1.setCell ⟨w.heap.size, 0, none⟩ (.slice (some ⟨g, 0, none⟩) n1 c)) := by
  have hBo := (Array.getElem?_eq_some_iff.1 g1).1
  have hT : Turn (fun k => ¬ k < w.heap.size ∧ ¬ S k) V2 w1 := by
    refine ((Turn.refl _ V2).alloc o).grown hgr (fun k hk hlt => ?_)
    exact ⟨by have := (g2.lt k hk).1; omega, g4 k hk⟩
  have hT2 := hT.setCell (p := ⟨w.heap.size, 0, none⟩) (fun _ => ⟨by simp, g3⟩) (.slice (some ⟨g, 0, none⟩) n1 c)
  have hb1 : w1.heap[w.heap.size]? = some (.cells #[v] 48 (0, 0)) := by
    refine (hgr.block _ (by simp; omega) ?_).trans ((Below.heap_alloc _ o _ (by simpa using hBo)).trans g1)
    intro e
    have := (g2.lt _ e.symm).1; omega
  refine ⟨hb1, ⟨_, one_setCell hb1, ?_, g3, fun g' hg' => ?_, g5, g6.trans (hT2.toBelow (by omega) (fun k hk h => by omega))⟩, hT2⟩
  · exact ownsRow_setCell_below own1 (by simp) _
  · obtain rfl : g = g' := by simpa [Value.ownBlock] using hg'
    rcases hg with hg | hg
    · exact g4 _ hg
    · intro h; have := hS _ h; omega
theorem apseq_any (gf : Nat) (lb : Array Value) (eg : ∀ args w, (callFunc gf args).run Try.prog w = .ok (.enter gf args) w) (l : List It) (hl : l.length ≤ 1099511627776) (w : World)
    (hit : Iter Try.prog gf lb itV l (fun k => k < w.heap.size) (fun _ => False) w) :
    Calls Try.prog 73 #[.slice none 0 0, .func (.func gf) #[] lb] w fun e w' => ∃ v, e = .returned v ∧ w'.ownsRow w.heap.size 53 2 v l.length (l.flatMap pairE) ∧ Below w.heap.size w w' := by
  refine (callsIn_wide (n := 0)).1 (callsIn_of_wp_marks Try.func73 rfl trivial ?_ rfl)
  simp only [Try.ntmps73, List.size_toArray, List.length_cons, List.length_nil, Nat.reduceAdd, Nat.reduceSub, Array.replicate_succ, Array.replicate_zero, List.push_toArray, List.append_toArray, List.nil_append, List.cons_append]
  gi_wp2
  refine wpIn_rangeFunc_iter rfl eg hit ((Below.refl _ _).alloc (Nat.le_refl _) _) (fun k h => by simp; omega) (fun _ h => h.elim) (AInv w w.heap.size) (fun _ _ _ _ => False) (fun _ _ _ _ _ h hs => h.step hs) (fun _ _ _ _ _ _ h _ => h)
    ⟨.slice none 0 0, alloc_one _ _ _, World.ownsRow_nil _ _ _ _, fun h => h, fun _ h => (by cases h), fun _ h => h.elim, (Below.refl _ _).alloc (Nat.le_refl _) _⟩ ?body ?done ?stop
  case body =>
    rintro L pre ⟨p, q⟩ S V hpre hJ hN hSlt
    dsimp only [itV]
    gi_wp2
    refine ⟨(Turn.refl _ V).alloc _, fun V2 hT hsz => ?_⟩
    have hT2 : Step S S V V2 := (Step.same ((Turn.refl S V).alloc (.cells #[.int .i64 p, .int .i64 q] 53))).trans (.same hT)
    have hJ2 := hJ.step hT2
    obtain ⟨v, g1, g2, g3, g4, g5, g6⟩ := hJ2
    have hc1 := cell_of_one g1
    have hf1 := free_of_one g1
    have hnS : ¬ S V.heap.size := fun h => by have := hSlt _ h; omega
    have hw0 : V2.heap[V.heap.size]? = some (.cells #[.int .i64 p, .int .i64 q] 53 (0, 0)) := (hT.block _ (by simp) hnS).trans (heap_alloc_new V _)
    have hc2 := cell_of_row V2 _ 0 _ _ _ hw0
    have hc3 := cell_of_row V2 _ 1 _ _ _ hw0
    simp only [List.getElem?_toArray, List.getElem?_cons_zero, List.getElem?_cons_succ] at hc2 hc3
    have hSlt2 : ∀ k, S k → k < V2.heap.size := fun k hk => by have := hSlt k hk; have := hT2.turn.size; omega
    have hpl : pre.length + 1 ≤ l.length := by have := hpre.length_le; simpa using this
    obtain ⟨A0, c0, rfl, _, _, _⟩ := Rd.of_own (enc := pairE) pairE_len2 rfl g2
    obtain ⟨g, c, w1, hrun, own1, hgr, hg⟩ := append_one (enc := pairE) Try.underlying48 infoItem rfl (by decide) pairE_len2 (fun x u hu => pairE_one x u hu)
      V2 (w.heap.size + 1) (.slice A0 pre.length c0) pre (p, q) g2 (by omega) (by decide) (by have := (Array.getElem?_eq_some_iff.1 g1).1; omega)
    have hpush := AInv.push g1 g2 g3 g4 g5 g6 hSlt2 (by simpa using own1) hgr hg
    obtain ⟨hd0, hpush1, hpush2⟩ := hpush
    have hd1 := cell_of_one hd0
    have hd2 := free_of_one hd0
    obtain ⟨n, hn⟩ : ∃ n, pre.length = n := ⟨_, rfl⟩
    simp only [pairE] at hrun
    rw [hn] at hrun hc1 hd1
    have hpush1 := Lib.hid hpush1
    have hpush2 := Lib.hid hpush2
    rename_i hp1 hp2
    clear hp1 hp2 g1 g2 hd0 own1
    gi_wp2_with (gi_at_builtin; refine wpListIn_append_run rfl _ _ _ rfl rfl rfl hrun ?_)
    rw [← hn]
    exact ⟨hpush1.out, hpush2.out⟩
  case done =>
    rintro D S V hSD hD ⟨v, g1, g2, g3, g4, g5, g6⟩ hDd
    obtain ⟨A, c, rfl, r1, r2, r3⟩ := Rd.of_own (enc := pairE) pairE_len2 rfl g2
    have hc1 := cell_of_one g1
    have hf1 := free_of_one g1
    have hnD : D ≠ w.heap.size := fun e => g3 (e ▸ hSD)
    have hDl := (Array.getElem?_eq_some_iff.1 hDd).1
    clear g4 g5
    gi_wp2
    obtain ⟨U2, hU2⟩ : ∃ U2, V.putObj D (.deferred none) = U2 := ⟨_, rfl⟩
    have ho2 : U2.ownsRow (w.heap.size + 1) 53 2 (.slice A l.length c) l.length (l.flatMap pairE) := by
      rw [← hU2]; exact ownsRow_putObj g2 _ hDd rfl
    have hT2 : Below w.heap.size w U2 := by
      rw [← hU2]
      exact g6.grown (grownBy_putObj' V D _) g6.size (fun k e => by cases e; simp at hD; omega)
    refine ⟨by simp, .inl ⟨_, _, rfl, run_takeDeferred hDd, ?_⟩⟩
    rw [hU2]
    exact ⟨_, by simp [results, Try.results73, go_sem], _, rfl, own_low ho2 (Nat.le_succ _), hT2⟩
  case stop => exact fun _ _ _ _ _ _ _ _ h _ => h.elim
theorem collect_any (gf : Nat) (lb : Array Value) (eg : ∀ args w, (callFunc gf args).run Try.prog w = .ok (.enter gf args) w) (l : List It) (hl : l.length ≤ 1099511627776) (w : World)
    (hit : Iter Try.prog gf lb itV l (fun k => k < w.heap.size) (fun _ => False) w) :
    Calls Try.prog 63 #[.func (.func gf) #[] lb] w fun e w' => ∃ v, e = .returned v ∧ w'.ownsRow w.heap.size 53 2 v l.length (l.flatMap pairE) ∧ Below w.heap.size w w' := by
  have h := Lib.hid (apseq_any gf lb eg l hl w hit)
  go_enter Try.func63, Try.ntmps63
  go_wp2_with (go_at_call 73; refine h.out.mono ?_; rintro e w1 ⟨v, rfl, own, hb⟩)
  go_returns
  exact ⟨_, rfl, own, hb⟩
end Go.Proofs.Ytapfndjaimfcaaa
