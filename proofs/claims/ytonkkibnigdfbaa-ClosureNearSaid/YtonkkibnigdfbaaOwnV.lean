/-
  A net of one's own: rows of rows of windows, rows of links, each in memory of its own; what becomes of them when other memory is written.
-/
import Derived.Test.YtonkkibnigdfbaaSpS
import Derived.Deep.DeepCutAuto
namespace Go.Proofs.Ytonkkibnigdfbaa
open Go.RowKit Go.Shelf B K
set_option linter.unusedVariables false
set_option linter.unusedSimpArgs false
set_option maxHeartbeats 1000000
/-- a slice's value: where, how long, how much room -/
abbrev SlV := Option Addr × Nat
def slV (s : SlV) (n : Nat) : Value := .slice s.1 n s.2
abbrev RwV := W.Row × SlV
abbrev LkV := Lk × SlV × SlV
def rwE (x : RwV) : List Value := [slV x.2 x.1.length]
def lkE (x : LkV) : List Value := [.int .i64 x.1.a, .int .i64 x.1.b, .int .i64 x.1.len, .bool x.1.door, .int .i64 x.1.no, slV x.2.1 x.1.op.length, slV x.2.2 x.1.cl.length]
theorem rwE_len (x : RwV) : (rwE x).length = 1 := rfl
theorem lkE_len (x : LkV) : (lkE x).length = 7 := rfl
theorem rwE_one (x : RwV) : ∀ u ∈ rwE x, u.oneCell' = true := fun u hu => by simp [rwE] at hu; subst hu; rfl
theorem lkE_one (x : LkV) : ∀ u ∈ lkE x, u.oneCell' = true := fun u hu => by simp [lkE] at hu; rcases hu with rfl | rfl | rfl | rfl | rfl | rfl | rfl <;> rfl
theorem infoWinV : (Try.prog.info? 70).map (fun i => (i.zero, i.size, i.bytes)) = some (some (.agg #[.int .i64 0, .int .i64 0]), 2, 16) := by kernel_rfl
theorem infoWinsV : (Try.prog.info? 36).map (fun i => (i.zero, i.size, i.bytes)) = some (some (.slice none 0 0), 1, 24) := by kernel_rfl
theorem infoLinkV : (Try.prog.info? 38).map (fun i => (i.zero, i.size, i.bytes)) = some (some (.agg #[.int .i64 0, .int .i64 0, .int .i64 0, .bool false, .int .i64 0, .slice none 0 0, .slice none 0 0]), 7, 88) := by kernel_rfl
/-- a row of windows of one's own -/
def OwnR (w : World) (base : Nat) (s : SlV) (l : W.Row) : Prop := w.ownsRow base 70 2 (slV s l.length) l.length (l.flatMap pairE) ∧ l.length ≤ s.2 ∧ s.2 ≤ 9223372036854775807
theorem own_type {w : World} {base size n : Nat} {e : TypeId} {v : Value} {xs : List Value} (h : w.ownsRow base e size v n xs) {k : Nat} (hk : v.ownBlock = some k) : ∃ cur, w.heap[k]? = some (.cells cur e (0, 0)) := by
  rcases h.2 with ⟨h0, _⟩ | ⟨g, cap, cur, h0, _, hh, _⟩
  · rw [h0] at hk; cases hk
  · rw [h0] at hk; cases hk; exact ⟨cur, hh⟩
/-- blocks of the element types T lie as they lay -/
def KeepT (w w' : World) (T : List TypeId) : Prop := ∀ (k : Nat) (cur : Array Value) (e : TypeId), e ∈ T → w.heap[k]? = some (.cells cur e (0, 0)) → w'.heap[k]? = some (.cells cur e (0, 0))
theorem KeepT.of_below {w w' : World} {T : List TypeId} (h : Below w.heap.size w w') : KeepT w w' T := fun k cur e _ hc => (h.block k (Array.getElem?_eq_some_iff.1 hc).1).trans hc
theorem KeepT.sub {w w' : World} {T T' : List TypeId} (h : KeepT w w' T) (hs : ∀ e ∈ T', e ∈ T) : KeepT w w' T' := fun k cur e he => h k cur e (hs e he)
theorem KeepT.trans {a b c : World} {T : List TypeId} (h : KeepT a b T) (k : KeepT b c T) : KeepT a c T := fun i cur e he hc => k i cur e he (h i cur e he hc)
/-- a store into a block of another type -/
theorem KeepT.set {w : World} {g i : Nat} {u : Value} {T : List TypeId} {cur : Array Value} {e : TypeId} (hg : w.heap[g]? = some (.cells cur e (0, 0))) (he : e ∉ T) : KeepT w (w.setCell ⟨g, i, none⟩ u) T := fun k cur' e' he' hc => by
  have hne : g ≠ k := fun h => by
    subst h
    rw [hg] at hc
    simp only [Option.some.injEq, Obj.cells.injEq] at hc
    exact he (hc.2.1 ▸ he')
  simp only [World.setCell, Array.getElem?_modify]
  rw [if_neg hne]; exact hc
/-- what an append into a row of another type leaves -/
theorem KeepT.grown {w w' : World} {base size n : Nat} {e : TypeId} {v : Value} {xs : List Value} {T : List TypeId} (own : w.ownsRow base e size v n xs) (hg : w.grownBy w' v.ownBlock) (he : e ∉ T) : KeepT w w' T := fun k cur' e' he' hc => by
  refine (hg.block k (Array.getElem?_eq_some_iff.1 hc).1 fun h => ?_).trans hc
  obtain ⟨cur, hh⟩ := own_type own h.symm
  rw [hh] at hc
  simp only [Option.some.injEq, Obj.cells.injEq] at hc
  exact he (hc.2.1 ▸ he')
theorem own_keepT {w w' : World} {base size n : Nat} {e : TypeId} {v : Value} {xs : List Value} {T : List TypeId} (own : w.ownsRow base e size v n xs) (hk : KeepT w w' T) (he : e ∈ T) : w'.ownsRow base e size v n xs :=
  own_keep own fun k h => by
    obtain ⟨cur, hh⟩ := own_type own h
    rw [hk k cur e he hh, hh]
theorem own_base {w : World} {base base' size n : Nat} {e : TypeId} {v : Value} {xs : List Value} (own : w.ownsRow base e size v n xs) (hb : base' ≤ base) : w.ownsRow base' e size v n xs := by
  refine ⟨own.1, ?_⟩
  rcases own.2 with h | ⟨g, cap, cur, h1, h2, h3⟩
  · exact .inl h
  · exact .inr ⟨g, cap, cur, h1, Nat.le_trans hb h2, h3⟩
theorem OwnR.keepT {w w' : World} {base : Nat} {s : SlV} {l : W.Row} {T : List TypeId} (h : OwnR w base s l) (hk : KeepT w w' T) (he : 70 ∈ T) : OwnR w' base s l := ⟨own_keepT h.1 hk he, h.2⟩
theorem OwnR.low {w : World} {base base' : Nat} {s : SlV} {l : W.Row} (h : OwnR w base s l) (hb : base' ≤ base) : OwnR w base' s l := ⟨own_base h.1 hb, h.2⟩
theorem OwnR.rd {w : World} {base : Nat} {s : SlV} {l : W.Row} (h : OwnR w base s l) : Rd w 2 pairE s.1 l.length l := by
  obtain ⟨A, c, e, hr, _⟩ := Rd.of_own (enc := pairE) (l := l) (fun _ => rfl) rfl h.1
  unfold slV at e
  cases e
  exact hr
/-- rows of windows, each of one's own -/
structure CsV (w : World) (base : Nat) (v : Value) (cs : List W.Row) (cv : List RwV) : Prop where
  fst : cv.map Prod.fst = cs
  row : w.ownsRow base 36 1 v cs.length (cv.flatMap rwE)
  inn : ∀ x ∈ cv, OwnR w base x.2 x.1
structure LsV (w : World) (base : Nat) (v : Value) (ls : List Lk) (lv : List LkV) : Prop where
  fst : lv.map Prod.fst = ls
  row : w.ownsRow base 38 7 v ls.length (lv.flatMap lkE)
  inn : ∀ x ∈ lv, OwnR w base x.2.1 x.1.op ∧ OwnR w base x.2.2 x.1.cl
section
variable {w w' : World} {base base' : Nat} {v : Value} {cs : List W.Row} {cv : List RwV} {ls : List Lk} {lv : List LkV}
theorem CsV.keepT (h : CsV w base v cs cv) (hk : KeepT w w' [36, 70]) : CsV w' base v cs cv :=
  ⟨h.fst, own_keepT h.row hk (by simp), fun x hx => (h.inn x hx).keepT hk (by simp)⟩
theorem LsV.keepT (h : LsV w base v ls lv) (hk : KeepT w w' [38, 70]) : LsV w' base v ls lv :=
  ⟨h.fst, own_keepT h.row hk (by simp), fun x hx => ⟨(h.inn x hx).1.keepT hk (by simp), (h.inn x hx).2.keepT hk (by simp)⟩⟩
theorem CsV.up (h : CsV w base v cs cv) (hb : Below w.heap.size w w') : CsV w' base v cs cv := h.keepT (.of_below hb)
theorem LsV.up (h : LsV w base v ls lv) (hb : Below w.heap.size w w') : LsV w' base v ls lv := h.keepT (.of_below hb)
theorem CsV.low (h : CsV w base v cs cv) (hb : base' ≤ base) : CsV w base' v cs cv := ⟨h.fst, own_base h.row hb, fun x hx => (h.inn x hx).low hb⟩
theorem LsV.low (h : LsV w base v ls lv) (hb : base' ≤ base) : LsV w base' v ls lv := ⟨h.fst, own_base h.row hb, fun x hx => ⟨(h.inn x hx).1.low hb, (h.inn x hx).2.low hb⟩⟩
theorem CsV.nil : CsV w base (.slice none 0 0) [] [] := ⟨rfl, World.ownsRow_nil _ _ _ _, fun x hx => by cases hx⟩
theorem LsV.nil : LsV w base (.slice none 0 0) [] [] := ⟨rfl, World.ownsRow_nil _ _ _ _, fun x hx => by cases hx⟩
theorem CsV.len (h : CsV w base v cs cv) : cv.length = cs.length := by rw [← h.fst, List.length_map]
theorem LsV.len (h : LsV w base v ls lv) : lv.length = ls.length := by rw [← h.fst, List.length_map]
/-- one row more -/
theorem CsV.push (h : CsV w base v cs cv) (x : RwV) (hx : OwnR w base x.2 x.1) (hlen : cs.length + 1 ≤ 1099511627776) (hB : base ≤ w.heap.size) :
    ∃ g c w1, (Builtin.append_ #[22, 22] 22 #[v, .slice (some ⟨w.heap.size, 0, none⟩) 1 1]).run Try.prog (w.alloc (.cells (rwE x).toArray 36)) = .ok (.slice (some ⟨g, 0, none⟩) (cs.length + 1) c) w1 ∧
      CsV w1 base (.slice (some ⟨g, 0, none⟩) (cs.length + 1) c) (cs ++ [x.1]) (cv ++ [x]) ∧ Below base w w1 ∧ KeepT w w1 [38, 70, 25] := by
  have hl := h.len
  have own := h.row
  rw [← hl] at own
  obtain ⟨g, c, w1, hrun, own1, hgr, _⟩ := append_one (enc := rwE) Try.underlying22 infoWinsV rfl (by decide) rwE_len rwE_one w base v cv x own (by omega) (by decide) hB
  have ha : Below w.heap.size w (w.alloc (.cells (rwE x).toArray 36)) := (Below.refl _ w).alloc (Nat.le_refl _) _
  have kg : KeepT w w1 [38, 70, 25] := (KeepT.of_below ha).trans (KeepT.grown (own.alloc _) hgr (by decide))
  rw [hl] at hrun own1
  refine ⟨g, c, w1, hrun, ⟨by rw [List.map_append, h.fst]; rfl, ?_, fun y hy => ?_⟩, (ha.mono hB).grown hgr (by have := ha.size; omega) (fun k hk => (own.lt k hk).1), kg⟩
  · rw [List.length_append] at own1 ⊢
    rw [hl] at own1
    exact own1
  · rcases List.mem_append.1 hy with hy | hy
    · exact (h.inn y hy).keepT kg (by decide)
    · simp only [List.mem_singleton] at hy; subst hy; exact hx.keepT kg (by decide)
theorem LsV.push (h : LsV w base v ls lv) (x : LkV) (hx : OwnR w base x.2.1 x.1.op ∧ OwnR w base x.2.2 x.1.cl) (hlen : ls.length + 1 ≤ 1099511627776) (hB : base ≤ w.heap.size) :
    ∃ g c w1, (Builtin.append_ #[23, 23] 23 #[v, .slice (some ⟨w.heap.size, 0, none⟩) 1 1]).run Try.prog (w.alloc (.cells (lkE x).toArray 38)) = .ok (.slice (some ⟨g, 0, none⟩) (ls.length + 1) c) w1 ∧
      LsV w1 base (.slice (some ⟨g, 0, none⟩) (ls.length + 1) c) (ls ++ [x.1]) (lv ++ [x]) ∧ Below base w w1 ∧ KeepT w w1 [36, 70, 25] := by
  have hl := h.len
  have own := h.row
  rw [← hl] at own
  obtain ⟨g, c, w1, hrun, own1, hgr, _⟩ := append_one (enc := lkE) Try.underlying23 infoLinkV rfl (by decide) lkE_len lkE_one w base v lv x own (by omega) (by decide) hB
  have ha : Below w.heap.size w (w.alloc (.cells (lkE x).toArray 38)) := (Below.refl _ w).alloc (Nat.le_refl _) _
  have kg : KeepT w w1 [36, 70, 25] := (KeepT.of_below ha).trans (KeepT.grown (own.alloc _) hgr (by decide))
  rw [hl] at hrun own1
  refine ⟨g, c, w1, hrun, ⟨by rw [List.map_append, h.fst]; rfl, ?_, fun y hy => ?_⟩, (ha.mono hB).grown hgr (by have := ha.size; omega) (fun k hk => (own.lt k hk).1), kg⟩
  · rw [List.length_append] at own1 ⊢
    rw [hl] at own1
    exact own1
  · rcases List.mem_append.1 hy with hy | hy
    · exact ⟨(h.inn y hy).1.keepT kg (by decide), (h.inn y hy).2.keepT kg (by decide)⟩
    · simp only [List.mem_singleton] at hy; subst hy; exact ⟨hx.1.keepT kg (by decide), hx.2.keepT kg (by decide)⟩
end
/-- a net of one's own reads as a net -/
theorem CsV.rnet {w : World} {base : Nat} {vC vL : Value} {N : NetP} {cv : List RwV} {lv : List LkV} (hc : CsV w base vC N.cs cv) (hl : LsV w base vL N.ls lv) :
    ∃ A c B d, vC = .slice A N.cs.length c ∧ vL = .slice B N.ls.length d ∧ RNet w N A N.cs.length B N.ls.length ∧ N.cs.length ≤ c ∧ c ≤ 9223372036854775807 ∧ N.ls.length ≤ d ∧ d ≤ 9223372036854775807 := by
  obtain ⟨A, c, rfl, hr, c1, c2⟩ := Rd.of_own rwE_len hc.len hc.row
  obtain ⟨B, d, rfl, hq, d1, d2⟩ := Rd.of_own lkE_len hl.len hl.row
  refine ⟨A, c, B, d, rfl, rfl, ⟨rfl, rfl, fun k l hk => ?_, fun k l hk => ?_⟩, c1, c2, d1, d2⟩
  · have hlt := (List.getElem?_eq_some_iff.1 hk).1
    obtain ⟨b, o, rfl, hb, hcell⟩ := hr.cells (by omega)
    have hk' := hk
    rw [← hc.fst, List.getElem?_map] at hk'
    obtain ⟨x, hx, rfl⟩ := Option.map_eq_some_iff.1 hk'
    have ho := hc.inn x (List.mem_of_getElem? hx)
    have h1 := hcell k x hx 0 _ rfl
    rw [Nat.mul_one, Nat.add_zero] at h1
    exact ⟨b, o, x.2.1, x.1.length, x.2.2, rfl, hb, h1, ho.rd, ho.2⟩
  · have hlt := (List.getElem?_eq_some_iff.1 hk).1
    obtain ⟨b, o, rfl, hb, hcell⟩ := hq.cells (by omega)
    have hk' := hk
    rw [← hl.fst, List.getElem?_map] at hk'
    obtain ⟨x, hx, rfl⟩ := Option.map_eq_some_iff.1 hk'
    have ho := hl.inn x (List.mem_of_getElem? hx)
    exact ⟨b, o, x.2.1.1, x.1.op.length, x.2.1.2, x.2.2.1, x.1.cl.length, x.2.2.2, rfl, hb, ⟨ho.1.rd, ho.1.2⟩, ⟨ho.2.rd, ho.2.2⟩,
      hcell k x hx 0 _ rfl, hcell k x hx 1 _ rfl, hcell k x hx 2 _ rfl, hcell k x hx 3 _ rfl, hcell k x hx 4 _ rfl, hcell k x hx 5 _ rfl, hcell k x hx 6 _ rfl⟩
theorem ownW_any {A : Option Addr} {n : Nat} (c : Nat) {l : W.Row} {w : World} (hr : Rd w 2 pairE A n l) (hn : n ≤ 1099511627776) :
    Calls Try.prog 62 #[.slice A n c] w fun e w' => ∃ s : SlV, e = .returned (slV s l.length) ∧ OwnR w' w.heap.size s l ∧ Below w.heap.size w w' := by
  obtain ⟨v, w1, hrun, own, hg, _⟩ := own_append (enc := pairE) Try.underlying36 infoWinV rfl (by decide) (fun _ => rfl) (fun x u hu => by simp [pairE] at hu; rcases hu with rfl | rfl <;> rfl) c (l := []) (own_lit0 w w.heap.size 70 2 (Nat.le_refl _)) (hr.below ((Below.refl _ w).alloc (Nat.le_refl _) _)) (by simpa using hn) (by decide) (by simp)
  have hb : Below w.heap.size w w1 := ((Below.refl _ w).alloc (Nat.le_refl _) _).grown hg (by simp) (fun k hk => by simp [Value.ownBlock] at hk; omega)
  simp only [List.length_nil, Nat.zero_add, List.nil_append] at own
  rw [← hr.len] at own
  obtain ⟨A', c', rfl, h1, h2, h3⟩ := Rd.of_own (enc := pairE) (fun _ => rfl) rfl own
  have hh : Hid (OwnR w1 w.heap.size (A', c') l) := ⟨own, h2, h3⟩
  clear own h1 h2 h3 hg
  go_enter Try.func62, Try.ntmps62
  go_wp2_with (at_builtin; refine wpList_append_run ?a1 (.tmp 3) (.tmp 4) 36 ?a2 ?a3 ?a4 hrun ?_)
  case a1 => rfl
  case a2 => rfl
  try (case a3 => rfl)
  try (case a4 => rfl)
  go_returns
  exact ⟨(A', c'), rfl, hh.out, hb⟩
end Go.Proofs.Ytonkkibnigdfbaa
