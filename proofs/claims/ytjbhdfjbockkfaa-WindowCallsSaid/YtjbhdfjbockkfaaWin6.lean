/-
  Walks: window.wins, win.ahead, merged and its iterator, Union.
-/
import Derived.Test.YtjbhdfjbockkfaaWin4
import Derived.Test.YtjbhdfjbockkfaaWinPlain3
import Derived.Sort.LoopGhostIn
import Derived.Sort.CutIn
namespace Go.Proofs.Ytjbhdfjbockkfaa
open Go.RowKit B Go.Shelf
attribute [local go_sem] Oper.semAt_some
set_option maxHeartbeats 400000
theorem wpIn_world {F : Fence} {n : Nat} {P : Program} {c : Code} {Q : Exit → Act → World → Prop} {a : Act} {w : World} (h : ∀ w', w' = w → c.wpIn F n P Q a w') : c.wpIn F n P Q a w := h w rfl
theorem wp_world {P : Program} {c : Code} {Q : Exit → Act → World → Prop} {a : Act} {w : World} (h : ∀ w', w' = w → c.wp P Q a w') : c.wp P Q a w := h w rfl
theorem Try.infoWinw : (Try.prog.info? 58).map (fun i => (i.zero, i.size, i.bytes)) = some (some (.agg #[.int .i64 0, .int .i64 0]), 2, 16) := by kernel_rfl
theorem pairE_one (x : Int × Int) : ∀ u ∈ pairE x, u.oneCell' = true := fun u hu => by simp [pairE] at hu; rcases hu with rfl | rfl <;> rfl
/-- 'wins' copies its row into new memory -/
theorem winsc_any (A : Option Addr) (n c : Nat) (l : W.Row) (w : World) (hr : Rd w 2 pairE A n l) (hn : n ≤ 549755813888) :
    Calls Try.prog 39 #[.slice A n c] w fun e w' => ∃ v, e = .returned v ∧ w'.ownsRow w.heap.size 58 2 v n (l.flatMap pairE) ∧ Below w.heap.size w w' := by
  go_enter Try.func39, Try.ntmps39
  go_wp2
  go_loopw [2, 7] (fun v i wr => ∃ (k : Nat), k ≤ n ∧ i = .int .i64 k ∧ wr.ownsRow w.heap.size 58 2 v k ((l.take k).flatMap pairE) ∧ Below w.heap.size w wr) (fun _ i _ => n - (intOf i).toNat)
  case atStart => exact ⟨0, Nat.zero_le _, rfl, World.ownsRow_nil _ _ _ _, Below.refl _ _⟩
  case round =>
    obtain ⟨k, hk, rfl, hown, hb⟩ := hrel
    by_cases hlt : k < n
    · obtain ⟨b, o, p, q, rfl, hbs, hl, h1, h2⟩ := (hr.below hb).pair hlt
      obtain ⟨g, c', w1, hrun, own1, hgr, hg⟩ := append_one (enc := pairE) Try.underlying59 Try.infoWinw rfl (by decide) pairE_len pairE_one
        (wr.alloc (.cells #[.int .i64 p, .int .i64 q] 29)) w.heap.size u2 (l.take k) (p, q) (by rw [List.length_take, hr.len, Nat.min_eq_left (by omega)]; exact hown.alloc _) (by rw [List.length_take, hr.len]; omega) (by decide) (by have := hb.size; simp; omega)
      have hlk : (l.take k).length = k := by rw [List.length_take, hr.len]; omega
      rw [← take_at hl] at own1
      have hlk1 : (l.take (k + 1)).length = k + 1 := by rw [List.length_take, hr.len]; omega
      rw [hlk1, hlk] at own1
      simp only [pairE, hlk, World.size_alloc] at hrun
      have hbd : Below w.heap.size w w1 := (((hb.alloc hb.size _).alloc (by have := hb.size; simp; omega) _).grown hgr (by have := hb.size; simp; omega) (fun j e => (hown.lt j e).1))
      clear hg hgr hlk hlk1 hl
      have own1 := Lib.hid own1
      rename_i hx; clear hx
      go_wp2_with (at_builtin; refine wpList_append_run rfl _ _ _ rfl rfl rfl hrun ?_)
      go_roundw
      case rel => exact ⟨k + 1, by omega, by go_num, own1.out, hbd⟩
      case measure => simp [intOf]; omega
    · go_wp2
      go_returns
      obtain rfl : k = n := by omega
      rw [List.take_of_length_le (by rw [hr.len]; omega)] at hown
      exact ⟨_, rfl, hown, hb⟩
theorem ahead_any (a b a' b' : Int) (w : World) :
    Calls Try.prog 40 #[.agg #[.int .i64 a, .int .i64 b], .agg #[.int .i64 a', .int .i64 b']] w fun e w' => e = .returned (.bool (decide (a ≤ a'))) ∧ w' = (w.alloc (.cells #[.int .i64 a, .int .i64 b] 58)).alloc (.cells #[.int .i64 a', .int .i64 b'] 58) := by
  go_enter Try.func40, Try.ntmps40
  go_wp2
  go_returns
  exact ⟨rfl, rfl⟩
theorem cut_winws (A : Option Addr) (n c k : Nat) (hk : k ≤ n) (W : World) :
    (Instr.slice 59 (.slice A n c) (some (.int .i64 (k : Int))) none none).run Try.prog W = .ok (.slice (cutA A c k 2) (n - k) (c - k)) W :=
  run_cut Try.underlying59 (by kernel_rfl) (fun W => by simp [go_sem]) A n c k hk .i64 W
/-- what the merging iterator's own memory holds -/
structure MSt (K : Nat → Prop) (N Ba Bb Bf : Nat) (V : World) (A1 : Option Addr) (n1 c1 : Nat) (la : W.Row) (A2 : Option Addr) (n2 c2 : Nat) (lb : W.Row) : Prop where
  ha : V.heap[Ba]? = some (.cells #[.slice A1 n1 c1] 59 (0, 0))
  hb : V.heap[Bb]? = some (.cells #[.slice A2 n2 c2] 59 (0, 0))
  hf : V.heap[Bf]? = some (.cells #[.func (.func 40) #[] #[]] 61 (0, 0))
  ra : Rd V 2 pairE A1 n1 la
  rb : Rd V 2 pairE A2 n2 lb
  ca : n1 ≤ c1 ∧ c1 ≤ 9223372036854775807
  cb : n2 ≤ c2 ∧ c2 ≤ 9223372036854775807
  ba : ∀ a, A1 = some a → K a.block ∧ a.block ≠ Ba ∧ a.block ≠ Bb ∧ a.block < N
  bb : ∀ a, A2 = some a → K a.block ∧ a.block ≠ Ba ∧ a.block ≠ Bb ∧ a.block < N
theorem Rd.blocks {α : Type} {w w' : World} {size n : Nat} {enc : α → List Value} {A : Option Addr} {l : List α} (h : Rd w size enc A n l) (hs : w.heap.size ≤ w'.heap.size)
    (hk : ∀ b o, A = some ⟨b, o, none⟩ → w'.heap[b]? = w.heap[b]?) : Rd w' size enc A n l :=
  ⟨h.len, fun hn => by
    obtain ⟨b, o, e, hb, hc⟩ := h.cells hn
    exact ⟨b, o, e, by omega, fun i x hx j u hu => (World.cell?_of_block (w := w) (hk b o e)).trans (hc i x hx j u hu)⟩⟩
theorem MSt.keep {K : Nat → Prop} {N Ba Bb Bf : Nat} {V V' : World} {A1 : Option Addr} {n1 c1 : Nat} {la : W.Row} {A2 : Option Addr} {n2 c2 : Nat} {lb : W.Row}
    (h : MSt K N Ba Bb Bf V A1 n1 c1 la A2 n2 c2 lb) (hs : V.heap.size ≤ V'.heap.size) (ka : V'.heap[Ba]? = V.heap[Ba]?) (kb : V'.heap[Bb]? = V.heap[Bb]?) (kf : V'.heap[Bf]? = V.heap[Bf]?)
    (kk : ∀ k, K k → k < N → k ≠ Ba → k ≠ Bb → V'.heap[k]? = V.heap[k]?) : MSt K N Ba Bb Bf V' A1 n1 c1 la A2 n2 c2 lb :=
  ⟨ka.trans h.ha, kb.trans h.hb, kf.trans h.hf, Rd.blocks h.ra hs fun b o e => by obtain ⟨h1, h2, h3, h4⟩ := h.ba _ e; exact kk b h1 h4 h2 h3,
    Rd.blocks h.rb hs fun b o e => by obtain ⟨h1, h2, h3, h4⟩ := h.bb _ e; exact kk b h1 h4 h2 h3, h.ca, h.cb, h.ba, h.bb⟩
theorem cutA_block {A : Option Addr} {c k s : Nat} {a : Addr} (h : cutA A c k s = some a) : ∃ a', A = some a' ∧ a'.block = a.block := by
  unfold cutA at h
  split at h
  · exact ⟨a, h, rfl⟩
  · rcases A with _ | a'
    · cases h
    · simp at h; subst h
      refine ⟨a', rfl, ?_⟩
      unfold Addr.add; split <;> rfl
theorem MSt.put {K : Nat → Prop} {N Ba Bb Bf X : Nat} {wr V wy : World} {A1 : Option Addr} {n1 c1 : Nat} {la : W.Row} {A2 : Option Addr} {n2 c2 : Nat} {lb : W.Row} {u0 u1 : Value} {p q : Int} {A1' : Option Addr} {n1' c1' : Nat} {la' : W.Row} {A2' : Option Addr} {n2' c2' : Nat} {lb' : W.Row}
    (h : MSt K N Ba Bb Bf wr A1 n1 c1 la A2 n2 c2 lb) (hN : N ≤ wr.heap.size) (hV : Below wr.heap.size wr V) (hX : V.heap[X]? = some (.cells #[u0, u1] 58 (0, 0))) (hXs : wr.heap.size ≤ X)
    (hab : Ba ≠ Bb) (haf : Ba ≠ Bf) (hbf : Bb ≠ Bf) (r1 : Rd wr 2 pairE A1' n1' la') (r2 : Rd wr 2 pairE A2' n2' lb') (d1 : n1' ≤ c1' ∧ c1' ≤ 9223372036854775807) (d2 : n2' ≤ c2' ∧ c2' ≤ 9223372036854775807)
    (i1 : ∀ a, A1' = some a → K a.block ∧ a.block ≠ Ba ∧ a.block ≠ Bb ∧ a.block < N) (i2 : ∀ a, A2' = some a → K a.block ∧ a.block ≠ Ba ∧ a.block ≠ Bb ∧ a.block < N)
    (hw : (wy = ((V.setCell ⟨X, 0, none⟩ (.int .i64 p)).setCell ⟨X, 1, none⟩ (.int .i64 q)).setCell ⟨Ba, 0, none⟩ (.slice A1' n1' c1') ∧ A2' = A2 ∧ n2' = n2 ∧ c2' = c2 ∧ lb' = lb) ∨
      (wy = ((V.setCell ⟨X, 0, none⟩ (.int .i64 p)).setCell ⟨X, 1, none⟩ (.int .i64 q)).setCell ⟨Bb, 0, none⟩ (.slice A2' n2' c2') ∧ A1' = A1 ∧ n1' = n1 ∧ c1' = c1 ∧ la' = la)) :
    MSt K N Ba Bb Bf wy A1' n1' c1' la' A2' n2' c2' lb' ∧ wy.cell? ⟨X, 0, none⟩ = some (.int .i64 p) ∧ wy.cell? ⟨X, 1, none⟩ = some (.int .i64 q) ∧ Turn (fun k => k = Ba ∨ k = Bb) wr wy := by
  have hBa := (Array.getElem?_eq_some_iff.1 h.ha).1
  have hBb := (Array.getElem?_eq_some_iff.1 h.hb).1
  have hBf := (Array.getElem?_eq_some_iff.1 h.hf).1
  obtain ⟨V1, hV1⟩ : ∃ V1, V1 = (V.setCell ⟨X, 0, none⟩ (.int .i64 p)).setCell ⟨X, 1, none⟩ (.int .i64 q) := ⟨_, rfl⟩
  have hX1 : V1.heap[X]? = some (.cells #[.int .i64 p, .int .i64 q] 58 (0, 0)) := by
    rw [hV1]
    simp [World.setCell, Array.getElem?_modify, hX]
  have hV1b : Below wr.heap.size wr V1 := by
    rw [hV1]; exact (hV.setCell (p := ⟨X, 0, none⟩) hXs _).setCell (p := ⟨X, 1, none⟩) hXs _
  rw [← hV1] at hw
  have ka := (hV1b.block Ba hBa).trans h.ha
  have kb := (hV1b.block Bb hBb).trans h.hb
  have kf := (hV1b.block Bf hBf).trans h.hf
  rcases hw with ⟨rfl, rfl, rfl, rfl, rfl⟩ | ⟨rfl, rfl, rfl, rfl, rfl⟩
  · have hXn := (Below.heap_setCell V1 ⟨Ba, 0, none⟩ (.slice A1' n1' c1') X (by simp; omega)).trans hX1
    have hT : Turn (fun k => k = Ba ∨ k = Bb) wr (V1.setCell ⟨Ba, 0, none⟩ (.slice A1' n1' c1')) := (Below.toTurn hV1b (fun k h1 h2 => by omega)).setCell (p := ⟨Ba, 0, none⟩) (fun _ => .inl rfl) _
    refine ⟨⟨one_setCell ka, (Below.heap_setCell _ _ _ _ (by simp; omega)).trans kb, (Below.heap_setCell _ _ _ _ (by simp; omega)).trans kf, Rd.blocks r1 hT.size (fun b o e => ?_), Rd.blocks r2 hT.size (fun b o e => ?_), d1, d2, i1, i2⟩,
      by rw [cell_of_row _ _ _ _ _ _ hXn]; rfl, by rw [cell_of_row _ _ _ _ _ _ hXn]; rfl, hT⟩
    · obtain ⟨_, e1, e2, e3⟩ := i1 _ e; exact hT.block b (by simp at e3; omega) (by simp at e1 e2; omega)
    · obtain ⟨_, e1, e2, e3⟩ := i2 _ e; exact hT.block b (by simp at e3; omega) (by simp at e1 e2; omega)
  · have hXn := (Below.heap_setCell V1 ⟨Bb, 0, none⟩ (.slice A2' n2' c2') X (by simp; omega)).trans hX1
    have hT : Turn (fun k => k = Ba ∨ k = Bb) wr (V1.setCell ⟨Bb, 0, none⟩ (.slice A2' n2' c2')) := (Below.toTurn hV1b (fun k h1 h2 => by omega)).setCell (p := ⟨Bb, 0, none⟩) (fun _ => .inr rfl) _
    refine ⟨⟨(Below.heap_setCell _ _ _ _ (by simp; omega)).trans ka, one_setCell kb, (Below.heap_setCell _ _ _ _ (by simp; omega)).trans kf, Rd.blocks r1 hT.size (fun b o e => ?_), Rd.blocks r2 hT.size (fun b o e => ?_), d1, d2, i1, i2⟩,
      by rw [cell_of_row _ _ _ _ _ _ hXn]; rfl, by rw [cell_of_row _ _ _ _ _ _ hXn]; rfl, hT⟩
    · obtain ⟨_, e1, e2, e3⟩ := i1 _ e; exact hT.block b (by simp at e3; omega) (by simp at e1 e2; omega)
    · obtain ⟨_, e1, e2, e3⟩ := i2 _ e; exact hT.block b (by simp at e3; omega) (by simp at e1 e2; omega)
theorem MSt.round {K S : Nat → Prop} {N Ba Bb Bf : Nat} {V V' : World} {A1 : Option Addr} {n1 c1 : Nat} {la : W.Row} {A2 : Option Addr} {n2 c2 : Nat} {lb : W.Row}
    (h : MSt K N Ba Bb Bf V A1 n1 c1 la A2 n2 c2 lb) (hN : N ≤ V.heap.size) (hKf : K Bf) (hSa : S Ba) (hSb : S Bb) (hT : Turn (fun k => ¬ K k ∧ ¬ S k) V V') : MSt K N Ba Bb Bf V' A1 n1 c1 la A2 n2 c2 lb :=
  h.keep hT.size (hT.block _ (Array.getElem?_eq_some_iff.1 h.ha).1 (fun h' => h'.2 hSa)) (hT.block _ (Array.getElem?_eq_some_iff.1 h.hb).1 (fun h' => h'.2 hSb)) (hT.block _ (Array.getElem?_eq_some_iff.1 h.hf).1 (fun h' => h'.1 hKf))
    (fun k hk hlt _ _ => hT.block k (by omega) (fun h' => h'.1 hk))
set_option maxHeartbeats 4000000 in
theorem merged_iter (K : Nat → Prop) (Ba Bb Bf : Nat) (A1 : Option Addr) (n1 c1 : Nat) (la : W.Row) (A2 : Option Addr) (n2 c2 : Nat) (lb : W.Row) (w : World)
    (hstw : MSt K w.heap.size Ba Bb Bf w A1 n1 c1 la A2 n2 c2 lb) (hKf : K Bf) (hab : Ba ≠ Bb) (haf : Ba ≠ Bf) (hbf : Bb ≠ Bf) (hn : n1 + n2 ≤ 1099511627776) :
    Iter Try.prog 49 #[.pointer (some ⟨Ba, 0, none⟩), .pointer (some ⟨Bb, 0, none⟩), .pointer (some ⟨Bf, 0, none⟩)] winV (W.mergeL la lb) K (fun k => k = Ba ∨ k = Bb) w := by
  intro l J Jx V hW h0 hst hstx hround
  have hst0 : MSt K w.heap.size Ba Bb Bf V A1 n1 c1 la A2 n2 c2 lb := hstw.keep hW.size (hW.block _ (Array.getElem?_eq_some_iff.1 hstw.ha).1) (hW.block _ (Array.getElem?_eq_some_iff.1 hstw.hb).1) (hW.block _ (Array.getElem?_eq_some_iff.1 hstw.hf).1)
    (fun k _ hk _ _ => hW.block k hk)
  have hround := Lib.hid hround
  have hst := Lib.hid hst
  have hstx := Lib.hid hstx
  refine callsIn_of_wp Try.func49 rfl trivial ?_ rfl
  simp only [Try.ntmps49, List.size_toArray, List.length_cons, List.length_nil, Nat.reduceAdd, Nat.reduceSub, Array.replicate_succ, Array.replicate_zero, List.push_toArray, List.append_toArray, List.nil_append, List.cons_append]
  gi_wp2
  gi_loopg [] (n1 + n2) (fun gk wr => ∃ (A1 : Option Addr) (n1 c1 : Nat) (ra : W.Row) (A2 : Option Addr) (n2 c2 : Nat) (rb pre : W.Row), gk = n1 + n2 ∧ n1 + n2 ≤ 1099511627776 ∧
    MSt K w.heap.size Ba Bb Bf wr A1 n1 c1 ra A2 n2 c2 rb ∧ Hid (pre ++ W.mergeL ra rb = W.mergeL la lb) ∧ (∃ S, J pre S wr ∧ S Ba ∧ S Bb) ∧ w.heap.size ≤ wr.heap.size)
  case atStart => exact ⟨A1, n1, c1, la, A2, n2, c2, lb, [], rfl, hn, hst0, rfl, ⟨_, h0, .inl rfl, .inr rfl⟩, hW.size⟩
  case round =>
    clear hst0 hstw h0 hn A1 n1 c1 A2 n2 c2
    obtain ⟨A1, n1, c1, ra, A2, n2, c2, rb, pre, rfl, hn, hm, heq, hS, hsz⟩ := hrel
    have ha := cell_of_one hm.ha
    have hb := cell_of_one hm.hb
    have hf := cell_of_one hm.hf
    by_cases h0 : n1 + n2 = 0
    · obtain ⟨rfl, rfl⟩ : n1 = 0 ∧ n2 = 0 := by omega
      obtain rfl := List.eq_nil_of_length_eq_zero hm.ra.len
      obtain rfl := List.eq_nil_of_length_eq_zero hm.rb.len
      gi_wp2
      refine bodyPost_end (results_none rfl _ _ _) rfl ?_
      obtain ⟨S, hj, _⟩ := hS
      have := heq.out
      rw [W.mergeL_nil, List.append_nil] at this
      rw [this] at hj
      exact ⟨⟨_, rfl⟩, S, .inl hj⟩
    · have hBa := (Array.getElem?_eq_some_iff.1 hm.ha).1
      have hBb := (Array.getElem?_eq_some_iff.1 hm.hb).1
      have hBf := (Array.getElem?_eq_some_iff.1 hm.hf).1
      have hfa : wr.frozen? ⟨Ba, 0, none⟩ = false := free_of_one hm.ha
      have hfb : wr.frozen? ⟨Bb, 0, none⟩ = false := free_of_one hm.hb
      have hpos : (0 : Int) < (n1 : Int) + (n2 : Int) := by omega
      by_cases hb0 : n2 = 0
      · subst hb0
        obtain rfl := List.eq_nil_of_length_eq_zero hm.rb.len
        obtain ⟨m, rfl⟩ : ∃ m, n1 = m + 1 := ⟨n1 - 1, by omega⟩
        obtain ⟨b, o, p, q, rfl, hbs, hl, h1, h2⟩ := hm.ra.pair (k := 0) (by omega)
        simp only [Nat.zero_mul, Nat.add_zero] at h1 h2
        have hcut := cut_winws (some ⟨b, o, none⟩) (m + 1) c1 1 (by omega)
        gi_wp2
        refine quiet_wide (by kernel_rfl) (by kernel_rfl) (by kernel_rfl) (by rintro _ _ ⟨⟨_, h⟩, _⟩; cases h) ?_
        repeat (go_big_quiet_step (fail))
        refine wpQuiet_nil ?_
        rintro _ ⟨nq, rfl⟩
        gi_wp2
        gi_region
        obtain ⟨A', hA'⟩ : ∃ A', (if c1 = 1 then some (⟨b, o, none⟩ : Addr) else some ⟨b, o + 2, none⟩) = A' := ⟨_, rfl⟩
        rw [hA']
        have hA2 : cutA (some ⟨b, o, none⟩) c1 1 2 = A' := by rw [← hA']; simp [cutA, Addr.add]
        gi_upto_region 5 with fail
        refine wpIn_world fun wy hwy => ?_
        have hrd : ra = (p, q) :: ra.drop 1 := by have := drop_at hl; simpa using this
        have hput := MSt.put (X := wr.heap.size) hm hsz (V := (wr.alloc (.cells #[.int .i64 0, .int .i64 0] 58)).drewN (nq + 1)) (below_drewN ((Below.refl _ _).alloc (Nat.le_refl _) _) _) (heap_alloc_new wr _) (Nat.le_refl _) hab haf hbf
          (A1' := A') (n1' := m) (c1' := c1 - 1) (la' := ra.drop 1) (A2' := A2) (n2' := 0) (c2' := c2) (lb' := []) (by rw [← hA2]; exact hm.ra.drop (k := 1) (by omega) hm.ca.1) hm.rb ⟨by have := hm.ca; omega, by have := hm.ca; omega⟩ hm.cb
          (fun a ha => by rw [← hA2] at ha; obtain ⟨a', e1, e2⟩ := cutA_block ha; rw [← e2]; exact hm.ba a' e1) hm.bb (.inl ⟨hwy, rfl, rfl, rfl, rfl⟩)
        obtain ⟨hm', hx0, hx1, hTy⟩ := hput
        have hmg : W.mergeL ra [] = (p, q) :: W.mergeL (ra.drop 1) [] := by rw [hrd]; exact W.mergeL_a _ _
        have heq' : pre ++ [(p, q)] ++ W.mergeL (ra.drop 1) [] = W.mergeL la lb := by rw [← heq.out, hmg]; simp
        obtain ⟨S, hj, hSa, hSb⟩ := hS
        have hjy := hst.out _ _ _ _ _ hj (.same (hTy.mono (fun k _ h => h.elim (fun e => e ▸ hSa) (fun e => e ▸ hSb))))
        have hpre : pre ++ [(p, q)] <+: W.mergeL la lb := ⟨_, heq'⟩
        obtain ⟨fn, tmps, assign, body, hy, hR⟩ := hround.out _ _ _ wy hjy hpre
        have hR := Lib.hid hR
        have heq' := Lib.hid heq'
        dsimp only [winV] at hy
        have hszy := Nat.le_trans hsz hTy.size
        clear hcut hwy hA' hA2 hmg hl hrd hTy hm ha hb hf hfa hfb h1 h2 hbs
        gi_wp2
        refine ⟨rfl, ?_⟩
        refine RoundIn.mono hR.out ?_
        rintro e V' (⟨rfl, hj', hT⟩ | ⟨rfl, hj', hT⟩)
        · have hm2 := hm'.round hszy hKf hSa hSb hT
          have hsz2 := Nat.le_trans hszy hT.size
          clear hm' hx0 hx1 hy hT
          gi_wp2
          gi_roundg (m + 0)
          case rel => exact ⟨A', m, c1 - 1, ra.drop 1, A2, 0, c2, [], pre ++ [(p, q)], rfl, by omega, hm2, heq', ⟨S, hj', hSa, hSb⟩, hsz2⟩
          case measure => omega
        · gi_wp2
          refine bodyPost_ret (results_none rfl _ _ _) rfl ?_
          exact ⟨⟨_, rfl⟩, S, .inr ⟨_, hpre, hj'⟩⟩
      · by_cases ha0 : n1 = 0
        · subst ha0
          obtain rfl := List.eq_nil_of_length_eq_zero hm.ra.len
          obtain ⟨m, rfl⟩ : ∃ m, n2 = m + 1 := ⟨n2 - 1, by omega⟩
          obtain ⟨b, o, p, q, rfl, hbs, hl, h1, h2⟩ := hm.rb.pair (k := 0) (by omega)
          simp only [Nat.zero_mul, Nat.add_zero] at h1 h2
          have hne : ((m : Int) + 1 == 0) = false := by simp; omega
          have hcut := cut_winws (some ⟨b, o, none⟩) (m + 1) c2 1 (by omega)
          gi_wp2
          refine quiet_wide (by kernel_rfl) (by kernel_rfl) (by kernel_rfl) (by rintro _ _ ⟨⟨_, h⟩, _⟩; cases h) ?_
          repeat (go_big_quiet_step (fail))
          refine wpQuiet_nil ?_
          rintro _ ⟨nq, rfl⟩
          gi_wp2
          gi_region
          obtain ⟨A', hA'⟩ : ∃ A', (if c2 = 1 then some (⟨b, o, none⟩ : Addr) else some ⟨b, o + 2, none⟩) = A' := ⟨_, rfl⟩
          rw [hA']
          have hA2 : cutA (some ⟨b, o, none⟩) c2 1 2 = A' := by rw [← hA']; simp [cutA, Addr.add]
          gi_upto_region 5 with fail
          refine wpIn_world fun wy hwy => ?_
          have hrd : rb = (p, q) :: rb.drop 1 := by have := drop_at hl; simpa using this
          have hput := MSt.put (X := wr.heap.size) hm hsz (V := (wr.alloc (.cells #[.int .i64 0, .int .i64 0] 58)).drewN (nq + 1)) (below_drewN ((Below.refl _ _).alloc (Nat.le_refl _) _) _) (heap_alloc_new wr _) (Nat.le_refl _) hab haf hbf
            (A1' := A1) (n1' := 0) (c1' := c1) (la' := []) (A2' := A') (n2' := m) (c2' := c2 - 1) (lb' := rb.drop 1) hm.ra (by rw [← hA2]; exact hm.rb.drop (k := 1) (by omega) hm.cb.1) hm.ca ⟨by have := hm.cb; omega, by have := hm.cb; omega⟩
            hm.ba (fun a ha => by rw [← hA2] at ha; obtain ⟨a', e1, e2⟩ := cutA_block ha; rw [← e2]; exact hm.bb a' e1) (.inr ⟨hwy, rfl, rfl, rfl, rfl⟩)
          obtain ⟨hm', hx0, hx1, hTy⟩ := hput
          have hmg : W.mergeL [] rb = (p, q) :: W.mergeL [] (rb.drop 1) := by rw [hrd]; exact W.mergeL_b _ _
          have heq' : pre ++ [(p, q)] ++ W.mergeL [] (rb.drop 1) = W.mergeL la lb := by rw [← heq.out, hmg]; simp
          obtain ⟨S, hj, hSa, hSb⟩ := hS
          have hjy := hst.out _ _ _ _ _ hj (.same (hTy.mono (fun k _ h => h.elim (fun e => e ▸ hSa) (fun e => e ▸ hSb))))
          have hpre : pre ++ [(p, q)] <+: W.mergeL la lb := ⟨_, heq'⟩
          obtain ⟨fn, tmps, assign, body, hy, hR⟩ := hround.out _ _ _ wy hjy hpre
          have hR := Lib.hid hR
          have heq' := Lib.hid heq'
          dsimp only [winV] at hy
          have hszy := Nat.le_trans hsz hTy.size
          clear hcut hwy hA' hA2 hmg hl hrd hTy hm ha hb hf hfa hfb h1 h2 hbs
          gi_wp2
          refine ⟨rfl, ?_⟩
          refine RoundIn.mono hR.out ?_
          rintro e V' (⟨rfl, hj', hT⟩ | ⟨rfl, hj', hT⟩)
          · have hm2 := hm'.round hszy hKf hSa hSb hT
            have hsz2 := Nat.le_trans hszy hT.size
            clear hm' hx0 hx1 hy hT
            gi_wp2
            gi_roundg (0 + m)
            case rel => exact ⟨A1, 0, c1, [], A', m, c2 - 1, rb.drop 1, pre ++ [(p, q)], rfl, by omega, hm2, heq', ⟨S, hj', hSa, hSb⟩, hsz2⟩
            case measure => omega
          · gi_wp2
            refine bodyPost_ret (results_none rfl _ _ _) rfl ?_
            exact ⟨⟨_, rfl⟩, S, .inr ⟨_, hpre, hj'⟩⟩
        · obtain ⟨m1, rfl⟩ : ∃ m, n1 = m + 1 := ⟨n1 - 1, by omega⟩
          obtain ⟨m2, rfl⟩ : ∃ m, n2 = m + 1 := ⟨n2 - 1, by omega⟩
          obtain ⟨b, o, p, q, rfl, hbs, hl, h1, h2⟩ := hm.ra.pair (k := 0) (by omega)
          obtain ⟨b', o', p', q', rfl, hbs', hl', h1', h2'⟩ := hm.rb.pair (k := 0) (by omega)
          simp only [Nat.zero_mul, Nat.add_zero] at h1 h2 h1' h2'
          have hne : ((m2 : Int) + 1 == 0) = false := by simp; omega
          have hpos1 : (0 : Int) < (m1 : Int) + 1 := by omega
          have hpos2 : (0 : Int) < (m2 : Int) + 1 := by omega
          gi_wp2
          refine tail_wide 15 (by kernel_rfl) (by kernel_rfl) (by kernel_rfl) (by rintro _ _ ⟨⟨_, h⟩, _⟩; cases h) ?_
          simp only [List.take_succ_cons, List.take_zero, List.drop_succ_cons, List.drop_zero]
          repeat still_step
          try refine wpStill_nil ?_
          by_cases hle : p ≤ p'
          · go_wp2_with (go_at_call 40; refine (ahead_any _ _ _ _ _).mono ?_; rintro e w' ⟨rfl, rfl⟩)
            gi_upto_region 3 with fail
            refine wpIn_world fun V hV => ?_
            have hVb : Below wr.heap.size wr V := by rw [hV]; exact (((Below.refl _ _).alloc (Nat.le_refl _) _).alloc (by simp) _).alloc (by simp; omega) _ |>.drew
            have hVX : V.heap[wr.heap.size]? = some (.cells #[.int .i64 0, .int .i64 0] 58 (0, 0)) := by
              rw [hV]; exact (Below.heap_alloc _ _ _ (by simp; omega)).trans ((Below.heap_alloc _ _ _ (by simp)).trans (heap_alloc_new wr _))
            clear hV
            have x0 := cell_of_row V _ 0 _ _ _ hVX
            have x1 := cell_of_row V _ 1 _ _ _ hVX
            have x2 := frozen_of_row V wr.heap.size 0 _ _ hVX
            have x3 := frozen_of_row V wr.heap.size 1 _ _ hVX
            simp only [List.getElem?_toArray, List.getElem?_cons_zero, List.getElem?_cons_succ] at x0 x1
            have ya := (hVb.cell (p := ⟨Ba, 0, none⟩) hBa).trans ha
            have yfa := (hVb.frozen (p := ⟨Ba, 0, none⟩) hBa).trans hfa
            have y1 := (hVb.cell (p := ⟨b, o, none⟩) hbs).trans h1
            have y2 := (hVb.cell (p := ⟨b, o + 1, none⟩) hbs).trans h2
            have hcut := cut_winws (some ⟨b, o, none⟩) (m1 + 1) c1 1 (by omega)
            have n1 : wr.heap.size ≠ Ba := by omega
            have n2 : Ba ≠ wr.heap.size := by omega
            have n3 : wr.heap.size ≠ b := by omega
            have n4 : b ≠ wr.heap.size := by omega
            gi_region
            obtain ⟨A', hA'⟩ : ∃ A', (if c1 = 1 then some (⟨b, o, none⟩ : Addr) else some ⟨b, o + 2, none⟩) = A' := ⟨_, rfl⟩
            rw [hA']
            have hA2 : cutA (some ⟨b, o, none⟩) c1 1 2 = A' := by rw [← hA']; simp [cutA, Addr.add]
            gi_upto_region 5 with fail
            refine wpIn_world fun wy hwy => ?_
            have hrda : ra = (p, q) :: ra.drop 1 := by have := drop_at hl; simpa using this
            have hrdb : rb = (p', q') :: rb.drop 1 := by have := drop_at hl'; simpa using this
            have hput := MSt.put (X := wr.heap.size) hm hsz (V := V.drew) hVb.drew hVX (Nat.le_refl _) hab haf hbf
              (A1' := A') (n1' := m1) (c1' := c1 - 1) (la' := ra.drop 1) (A2' := some ⟨b', o', none⟩) (n2' := m2 + 1) (c2' := c2) (lb' := rb) (by rw [← hA2]; exact hm.ra.drop (k := 1) (by omega) hm.ca.1) hm.rb ⟨by have := hm.ca; omega, by have := hm.ca; omega⟩ hm.cb
              (fun a ha => by rw [← hA2] at ha; obtain ⟨a', e1, e2⟩ := cutA_block ha; rw [← e2]; exact hm.ba a' e1) hm.bb (.inl ⟨hwy, rfl, rfl, rfl, rfl⟩)
            obtain ⟨hm', hx0, hx1, hTy⟩ := hput
            have hmg : W.mergeL ra rb = (p, q) :: W.mergeL (ra.drop 1) rb := by rw [hrda, hrdb]; exact W.mergeL_le _ _ _ _ hle
            have heq' : pre ++ [(p, q)] ++ W.mergeL (ra.drop 1) rb = W.mergeL la lb := by rw [← heq.out, hmg]; simp
            obtain ⟨S, hj, hSa, hSb⟩ := hS
            have hjy := hst.out _ _ _ _ _ hj (.same (hTy.mono (fun k _ h => h.elim (fun e => e ▸ hSa) (fun e => e ▸ hSb))))
            have hpre : pre ++ [(p, q)] <+: W.mergeL la lb := ⟨_, heq'⟩
            obtain ⟨fn, tmps, assign, body, hy, hR⟩ := hround.out _ _ _ wy hjy hpre
            have hR := Lib.hid hR
            have heq' := Lib.hid heq'
            dsimp only [winV] at hy
            have hszy := Nat.le_trans hsz hTy.size
            clear hcut hwy hA' hA2 hmg hl hl' hrda hrdb hTy hm ha hb hf hfa hfb h1 h2 h1' h2' hbs hbs' x0 x1 x2 x3 ya yfa y1 y2 hVb hVX n1 n2 n3 n4
            gi_wp2
            refine ⟨rfl, ?_⟩
            refine RoundIn.mono hR.out ?_
            rintro e V' (⟨rfl, hj', hT⟩ | ⟨rfl, hj', hT⟩)
            · have hm2 := hm'.round hszy hKf hSa hSb hT
              have hsz2 := Nat.le_trans hszy hT.size
              clear hm' hx0 hx1 hy hT
              gi_wp2
              gi_roundg (m1 + (m2 + 1))
              case rel => exact ⟨A', m1, c1 - 1, ra.drop 1, some ⟨b', o', none⟩, m2 + 1, c2, rb, pre ++ [(p, q)], rfl, by omega, hm2, heq', ⟨S, hj', hSa, hSb⟩, hsz2⟩
              case measure => omega
            · gi_wp2
              refine bodyPost_ret (results_none rfl _ _ _) rfl ?_
              exact ⟨⟨_, rfl⟩, S, .inr ⟨_, hpre, hj'⟩⟩
          · have hlf : decide (p ≤ p') = false := by simp; omega
            go_wp2_with (go_at_call 40; refine (ahead_any _ _ _ _ _).mono ?_; rintro e w' ⟨rfl, rfl⟩)
            gi_upto_region 4 with fail
            refine wpIn_world fun V hV => ?_
            have hVb : Below wr.heap.size wr V := by rw [hV]; exact (((Below.refl _ _).alloc (Nat.le_refl _) _).alloc (by simp) _).alloc (by simp; omega) _ |>.drew
            have hVX : V.heap[wr.heap.size]? = some (.cells #[.int .i64 0, .int .i64 0] 58 (0, 0)) := by
              rw [hV]; exact (Below.heap_alloc _ _ _ (by simp; omega)).trans ((Below.heap_alloc _ _ _ (by simp)).trans (heap_alloc_new wr _))
            clear hV
            have x0 := cell_of_row V _ 0 _ _ _ hVX
            have x1 := cell_of_row V _ 1 _ _ _ hVX
            have x2 := frozen_of_row V wr.heap.size 0 _ _ hVX
            have x3 := frozen_of_row V wr.heap.size 1 _ _ hVX
            simp only [List.getElem?_toArray, List.getElem?_cons_zero, List.getElem?_cons_succ] at x0 x1
            have ya := (hVb.cell (p := ⟨Bb, 0, none⟩) hBb).trans hb
            have yfa := (hVb.frozen (p := ⟨Bb, 0, none⟩) hBb).trans hfb
            have y1 := (hVb.cell (p := ⟨b', o', none⟩) hbs').trans h1'
            have y2 := (hVb.cell (p := ⟨b', o' + 1, none⟩) hbs').trans h2'
            have hcut := cut_winws (some ⟨b', o', none⟩) (m2 + 1) c2 1 (by omega)
            have n1 : wr.heap.size ≠ Bb := by omega
            have n2 : Bb ≠ wr.heap.size := by omega
            have n3 : wr.heap.size ≠ b' := by omega
            have n4 : b' ≠ wr.heap.size := by omega
            gi_region
            obtain ⟨A', hA'⟩ : ∃ A', (if c2 = 1 then some (⟨b', o', none⟩ : Addr) else some ⟨b', o' + 2, none⟩) = A' := ⟨_, rfl⟩
            rw [hA']
            have hA2 : cutA (some ⟨b', o', none⟩) c2 1 2 = A' := by rw [← hA']; simp [cutA, Addr.add]
            gi_upto_region 5 with fail
            refine wpIn_world fun wy hwy => ?_
            have hrda : ra = (p, q) :: ra.drop 1 := by have := drop_at hl; simpa using this
            have hrdb : rb = (p', q') :: rb.drop 1 := by have := drop_at hl'; simpa using this
            have hput := MSt.put (X := wr.heap.size) hm hsz (V := V.drew) hVb.drew hVX (Nat.le_refl _) hab haf hbf
              (A1' := some ⟨b, o, none⟩) (n1' := m1 + 1) (c1' := c1) (la' := ra) (A2' := A') (n2' := m2) (c2' := c2 - 1) (lb' := rb.drop 1) hm.ra (by rw [← hA2]; exact hm.rb.drop (k := 1) (by omega) hm.cb.1) hm.ca ⟨by have := hm.cb; omega, by have := hm.cb; omega⟩
              hm.ba (fun a ha => by rw [← hA2] at ha; obtain ⟨a', e1, e2⟩ := cutA_block ha; rw [← e2]; exact hm.bb a' e1) (.inr ⟨hwy, rfl, rfl, rfl, rfl⟩)
            obtain ⟨hm', hx0, hx1, hTy⟩ := hput
            have hmg : W.mergeL ra rb = (p', q') :: W.mergeL ra (rb.drop 1) := by rw [hrda, hrdb]; exact W.mergeL_gt _ _ _ _ (by show ¬ p ≤ p'; omega)
            have heq' : pre ++ [(p', q')] ++ W.mergeL ra (rb.drop 1) = W.mergeL la lb := by rw [← heq.out, hmg]; simp
            obtain ⟨S, hj, hSa, hSb⟩ := hS
            have hjy := hst.out _ _ _ _ _ hj (.same (hTy.mono (fun k _ h => h.elim (fun e => e ▸ hSa) (fun e => e ▸ hSb))))
            have hpre : pre ++ [(p', q')] <+: W.mergeL la lb := ⟨_, heq'⟩
            obtain ⟨fn, tmps, assign, body, hy, hR⟩ := hround.out _ _ _ wy hjy hpre
            have hR := Lib.hid hR
            have heq' := Lib.hid heq'
            dsimp only [winV] at hy
            have hszy := Nat.le_trans hsz hTy.size
            clear hcut hwy hA' hA2 hmg hl hl' hrda hrdb hTy hm ha hb hf hfa hfb h1 h2 h1' h2' hbs hbs' x0 x1 x2 x3 ya yfa y1 y2 hVb hVX n1 n2 n3 n4
            gi_wp2
            refine ⟨rfl, ?_⟩
            refine RoundIn.mono hR.out ?_
            rintro e V' (⟨rfl, hj', hT⟩ | ⟨rfl, hj', hT⟩)
            · have hm2 := hm'.round hszy hKf hSa hSb hT
              have hsz2 := Nat.le_trans hszy hT.size
              clear hm' hx0 hx1 hy hT
              gi_wp2
              gi_roundg (m1 + 1 + m2)
              case rel => exact ⟨some ⟨b, o, none⟩, m1 + 1, c1, ra, A', m2, c2 - 1, rb.drop 1, pre ++ [(p', q')], rfl, by omega, hm2, heq', ⟨S, hj', hSa, hSb⟩, hsz2⟩
              case measure => omega
            · gi_wp2
              refine bodyPost_ret (results_none rfl _ _ _) rfl ?_
              exact ⟨⟨_, rfl⟩, S, .inr ⟨_, hpre, hj'⟩⟩
theorem merged_any (A : Option Addr) (n c : Nat) (A' : Option Addr) (n' c' : Nat) (f : Value) (hf : f = .func (.func 40) #[] #[]) (w : World) :
    Calls Try.prog 38 #[.slice A n c, .slice A' n' c', f] w fun e w' =>
      e = .returned (.func (.func 49) #[] #[.pointer (some ⟨w.heap.size, 0, none⟩), .pointer (some ⟨w.heap.size + 1, 0, none⟩), .pointer (some ⟨w.heap.size + 2, 0, none⟩)]) ∧
        w' = ((w.alloc (.cells #[.slice A n c] 59)).alloc (.cells #[.slice A' n' c'] 59)).alloc (.cells #[.func (.func 40) #[] #[]] 61) := by
  subst hf
  go_enter Try.func38, Try.ntmps38
  go_wp2
  go_returns
  exact ⟨rfl, rfl⟩
end Go.Proofs.Ytjbhdfjbockkfaa
