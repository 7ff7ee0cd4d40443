/-
  Rows of rows of near stops, each in memory of its own; what becomes of them when other memory is written (clo/gen2.py).
-/
import Derived.Test.YtonkkibnigdfbaaClPlain
import Derived.Test.YtonkkibnigdfbaaOwnV
namespace Go.Proofs.Ytonkkibnigdfbaa
open Go.RowKit Go.Shelf B K
set_option linter.unusedVariables false
set_option linter.unusedSimpArgs false
set_option maxHeartbeats 1000000
theorem infoNearV : (Try.prog.info? 67).map (fun i => (i.zero, i.size, i.bytes)) = some (some (.agg #[.int .i64 0, .int .i64 0]), 2, 16) := by kernel_rfl
theorem infoNearsV : (Try.prog.info? 65).map (fun i => (i.zero, i.size, i.bytes)) = some (some (.slice none 0 0), 1, 24) := by kernel_rfl
/-- a row of windows of one's own -/
def OwnN (w : World) (base : Nat) (s : SlV) (l : W.Row) : Prop := w.ownsRow base 67 2 (slV s l.length) l.length (l.flatMap pairE) ∧ l.length ≤ s.2 ∧ s.2 ≤ 9223372036854775807
theorem OwnN.keepT {w w' : World} {base : Nat} {s : SlV} {l : W.Row} {T : List TypeId} (h : OwnN w base s l) (hk : KeepT w w' T) (he : 67 ∈ T) : OwnN w' base s l := ⟨own_keepT h.1 hk he, h.2⟩
theorem OwnN.low {w : World} {base base' : Nat} {s : SlV} {l : W.Row} (h : OwnN w base s l) (hb : base' ≤ base) : OwnN w base' s l := ⟨own_base h.1 hb, h.2⟩
theorem OwnN.rd {w : World} {base : Nat} {s : SlV} {l : W.Row} (h : OwnN w base s l) : Rd w 2 pairE s.1 l.length l := by
  obtain ⟨A, c, e, hr, _⟩ := Rd.of_own (enc := pairE) (l := l) (fun _ => rfl) rfl h.1
  unfold slV at e
  cases e
  exact hr
/-- rows of windows, each of one's own -/
structure NsV (w : World) (base : Nat) (v : Value) (cs : List W.Row) (cv : List RwV) : Prop where
  fst : cv.map Prod.fst = cs
  row : w.ownsRow base 65 1 v cs.length (cv.flatMap rwE)
  inn : ∀ x ∈ cv, OwnN w base x.2 x.1
section
variable {w w' : World} {base base' : Nat} {v : Value} {cs : List W.Row} {cv : List RwV} {ls : List Lk} {lv : List LkV}
theorem NsV.keepT (h : NsV w base v cs cv) (hk : KeepT w w' [65, 67]) : NsV w' base v cs cv :=
  ⟨h.fst, own_keepT h.row hk (by simp), fun x hx => (h.inn x hx).keepT hk (by simp)⟩
theorem NsV.up (h : NsV w base v cs cv) (hb : Below w.heap.size w w') : NsV w' base v cs cv := h.keepT (.of_below hb)
theorem NsV.low (h : NsV w base v cs cv) (hb : base' ≤ base) : NsV w base' v cs cv := ⟨h.fst, own_base h.row hb, fun x hx => (h.inn x hx).low hb⟩
theorem NsV.nil : NsV w base (.slice none 0 0) [] [] := ⟨rfl, World.ownsRow_nil _ _ _ _, fun x hx => by cases hx⟩
theorem NsV.len (h : NsV w base v cs cv) : cv.length = cs.length := by rw [← h.fst, List.length_map]
/-- one row more -/
theorem NsV.push (h : NsV w base v cs cv) (x : RwV) (hx : OwnN w base x.2 x.1) (hlen : cs.length + 1 ≤ 1099511627776) (hB : base ≤ w.heap.size) :
    ∃ g c w1, (Builtin.append_ #[33, 33] 33 #[v, .slice (some ⟨w.heap.size, 0, none⟩) 1 1]).run Try.prog (w.alloc (.cells (rwE x).toArray 65)) = .ok (.slice (some ⟨g, 0, none⟩) (cs.length + 1) c) w1 ∧
      NsV w1 base (.slice (some ⟨g, 0, none⟩) (cs.length + 1) c) (cs ++ [x.1]) (cv ++ [x]) ∧ Below base w w1 ∧ KeepT w w1 [67] := by
  have hl := h.len
  have own := h.row
  rw [← hl] at own
  obtain ⟨g, c, w1, hrun, own1, hgr, _⟩ := append_one (enc := rwE) Try.underlying33 infoNearsV rfl (by decide) rwE_len rwE_one w base v cv x own (by omega) (by decide) hB
  have ha : Below w.heap.size w (w.alloc (.cells (rwE x).toArray 65)) := (Below.refl _ w).alloc (Nat.le_refl _) _
  have kg : KeepT w w1 [67] := (KeepT.of_below ha).trans (KeepT.grown (own.alloc _) hgr (by decide))
  rw [hl] at hrun own1
  refine ⟨g, c, w1, hrun, ⟨by rw [List.map_append, h.fst]; rfl, ?_, fun y hy => ?_⟩, (ha.mono hB).grown hgr (by have := ha.size; omega) (fun k hk => (own.lt k hk).1), kg⟩
  · rw [List.length_append] at own1 ⊢
    rw [hl] at own1
    exact own1
  · rcases List.mem_append.1 hy with hy | hy
    · exact (h.inn y hy).keepT kg (by decide)
    · simp only [List.mem_singleton] at hy; subst hy; exact hx.keepT kg (by decide)
end
/-- rows of pairs, read -/
structure RRows (w : World) (C : List W.Row) (A : Option Addr) (n : Nat) : Prop where
  nn : C.length = n
  cs : ∀ (k : Nat) (l : W.Row), C[k]? = some l → ∃ b o sA sn sc, A = some ⟨b, o, none⟩ ∧ b < w.heap.size ∧ w.cell? ⟨b, o + k, none⟩ = some (.slice sA sn sc) ∧ Rd w 2 pairE sA sn l ∧ sn ≤ sc ∧ sc ≤ 9223372036854775807
theorem RRows.below {w w' : World} {C : List W.Row} {A : Option Addr} {n : Nat} (h : RRows w C A n) (hb : Below w.heap.size w w') : RRows w' C A n := by
  refine ⟨h.nn, fun k l hl => ?_⟩
  obtain ⟨b, o, sA, sn, sc, e, h1, h2, h3, h4⟩ := h.cs k l hl
  exact ⟨b, o, sA, sn, sc, e, Nat.lt_of_lt_of_le h1 hb.size, (hb.cell (p := ⟨b, _, none⟩) h1).trans h2, h3.below hb, h4⟩
theorem RRows.row {w : World} {C : List W.Row} {A : Option Addr} {n k : Nat} (h : RRows w C A n) (hk : k < n) : ∃ b o sA sn sc l, A = some ⟨b, o, none⟩ ∧ b < w.heap.size ∧ C[k]? = some l ∧ w.cell? ⟨b, o + k, none⟩ = some (.slice sA sn sc) ∧ Rd w 2 pairE sA sn l ∧ sn ≤ sc ∧ sc ≤ 9223372036854775807 := by
  have hl : C[k]? = some (C[k]'(by rw [h.nn]; exact hk)) := List.getElem?_eq_getElem _
  obtain ⟨b, o, sA, sn, sc, e, h1, h2, h3⟩ := h.cs k _ hl
  exact ⟨b, o, sA, sn, sc, _, e, h1, hl, h2, h3⟩
theorem RRows.nil {w : World} : RRows w [] none 0 := ⟨rfl, fun k l h => by cases h⟩
/-- rows of one's own are rows -/
theorem NsV.rows {w : World} {base : Nat} {v : Value} {C : List W.Row} {cv : List RwV} (hc : NsV w base v C cv) : ∃ A c, v = .slice A C.length c ∧ RRows w C A C.length ∧ C.length ≤ c ∧ c ≤ 9223372036854775807 := by
  obtain ⟨A, c, rfl, hr, c1, c2⟩ := Rd.of_own rwE_len hc.len hc.row
  refine ⟨A, c, rfl, ⟨rfl, fun k l hk => ?_⟩, c1, c2⟩
  have hlt := (List.getElem?_eq_some_iff.1 hk).1
  obtain ⟨b, o, rfl, hb, hcell⟩ := hr.cells (by omega)
  have hk' := hk
  rw [← hc.fst, List.getElem?_map] at hk'
  obtain ⟨x, hx, rfl⟩ := Option.map_eq_some_iff.1 hk'
  have ho := hc.inn x (List.mem_of_getElem? hx)
  have h1 := hcell k x hx 0 _ rfl
  rw [Nat.mul_one, Nat.add_zero] at h1
  exact ⟨b, o, x.2.1, x.1.length, x.2.2, rfl, hb, h1, ho.rd, ho.2⟩
end Go.Proofs.Ytonkkibnigdfbaa
