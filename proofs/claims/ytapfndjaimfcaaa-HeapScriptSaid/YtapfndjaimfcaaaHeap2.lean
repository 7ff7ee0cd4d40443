/-
  What a heap is in memory; walks: items.Len, Less.
-/
import Derived.Test.YtapfndjaimfcaaaHeap1
import Derived.Test.YtapfndjaimfcaaaMapI
import Derived.Test.YtapfndjaimfcaaaRow
import Derived.Test.YtapfndjaimfcaaaCut
import Derived.Test.YtapfndjaimfcaaaQuiet
namespace Go.Proofs.Ytapfndjaimfcaaa
open Go.RowKit B K
set_option linter.unusedVariables false
set_option linter.unusedSimpArgs false
set_option maxHeartbeats 1000000
/-- block h is a heap of the items l, as they stand: their row is sv, their map block m -/
structure HW (w : World) (base h m : Nat) (sv : Value) (l : List It) : Prop where
  blk : w.heap[h]? = some (.cells #[sv, .map (some m)] 87 (0, 0))
  own : w.ownsRow base 53 2 sv l.length (l.flatMap pairE)
  map : ∃ f, MapI Try.prog 3 3 w m f l.length ∧ MapOk f l
  hb : base ≤ h
  mb : base ≤ m
  wf : ∀ x ∈ l, (Lit.int .i64 x.2).wf = true
  len : l.length ≤ 1099511627776
def hbs (h m : Nat) (sv : Value) : List Nat := h :: m :: sv.ownBlock.toList
section
variable {w w' : World} {base h m : Nat} {sv : Value} {l : List It}
theorem HW.hlt (H : HW w base h m sv l) : h < w.heap.size := (Array.getElem?_eq_some_iff.1 H.blk).1
theorem HW.mlt (H : HW w base h m sv l) : m < w.heap.size := by obtain ⟨f, hf, _⟩ := H.map; exact hf.lt
theorem own_lt {e : TypeId} {size n g : Nat} {v : Value} {xs : List Value} (h : w.ownsRow base e size v n xs) (hg : v.ownBlock = some g) : g < w.heap.size ∧ base ≤ g := by
  rcases h.2 with ⟨rfl, _⟩ | ⟨g', cap, cur, rfl, hb, hh, _⟩
  · cases hg
  · cases hg; exact ⟨(Array.getElem?_eq_some_iff.1 hh).1, hb⟩
theorem HW.keep (H : HW w base h m sv l) (hk : ∀ b, b < w.heap.size → b ∈ hbs h m sv → w'.heap[b]? = w.heap[b]?) : HW w' base h m sv l := by
  obtain ⟨f, hf, hm⟩ := H.map
  exact ⟨(hk h H.hlt (by simp [hbs])).trans H.blk, own_keep H.own fun g hg => hk g (own_lt H.own hg).1 (by simp [hbs, hg]), ⟨f, hf.keep (hk m H.mlt (by simp [hbs])), hm⟩, H.hb, H.mb, H.wf, H.len⟩
theorem HW.below (H : HW w base h m sv l) (hb : Below w.heap.size w w') : HW w' base h m sv l := H.keep fun b hlt _ => hb.block b hlt
theorem HW.but {X : List Nat} (H : HW w base h m sv l) (hb : But w w' X) (hX : ∀ x ∈ hbs h m sv, x ∉ X) : HW w' base h m sv l := H.keep fun b hlt hx => hb.keep b hlt (hX b hx)
theorem HW.c0 (H : HW w base h m sv l) : w.cell? ⟨h, 0, none⟩ = some sv := by rw [cell_of_row _ _ _ _ _ _ H.blk]; rfl
theorem HW.c1 (H : HW w base h m sv l) : w.cell? ⟨h, 1, none⟩ = some (.map (some m)) := by rw [cell_of_row _ _ _ _ _ _ H.blk]; rfl
theorem HW.base_le (H : HW w base h m sv l) : ∀ x ∈ hbs h m sv, base ≤ x := by
  intro x hx
  simp only [hbs, List.mem_cons, Option.mem_toList] at hx
  rcases hx with rfl | rfl | hx
  · exact H.hb
  · exact H.mb
  · exact (own_lt H.own hx).2
theorem HW.lt (H : HW w base h m sv l) : ∀ x ∈ hbs h m sv, x < w.heap.size := by
  intro x hx
  simp only [hbs, List.mem_cons, Option.mem_toList] at hx
  rcases hx with rfl | rfl | hx
  · exact H.hlt
  · exact H.mlt
  · exact (own_lt H.own hx).1
theorem HW.hm (H : HW w base h m sv l) : h ≠ m := by
  intro e
  obtain ⟨f, ⟨D, ⟨es, cl, hb, _⟩, _⟩, _⟩ := H.map
  rw [← e, H.blk] at hb; cases hb
theorem HW.hg (H : HW w base h m sv l) {g : Nat} (hg : sv.ownBlock = some g) : g ≠ h ∧ g ≠ m := by
  rcases H.own.2 with ⟨rfl, _⟩ | ⟨g', cap, cur, rfl, hb, hh, _⟩
  · cases hg
  · cases hg
    constructor
    · intro e; subst e
      rw [H.blk] at hh
      simp at hh
    · intro e; subst e
      obtain ⟨f, ⟨D, ⟨es, cl, hb, _⟩, _⟩, _⟩ := H.map
      rw [hb] at hh; cases hh
/-- an item as it lies there -/
theorem HW.item (H : HW w base h m sv l) {i : Nat} {x : It} (hx : l[i]? = some x) : ∃ g c, sv = .slice (some ⟨g, 0, none⟩) l.length c ∧ g < w.heap.size ∧ l.length ≤ c ∧ c ≤ 9223372036854775807 ∧
    w.cell? ⟨g, i * 2, none⟩ = some (.int .i64 x.1) ∧ w.cell? ⟨g, i * 2 + 1, none⟩ = some (.int .i64 x.2) := by
  have hi := (List.getElem?_eq_some_iff.1 hx).1
  have hle := H.own
  obtain ⟨A, c, e, hr, hc, hc2⟩ := Rd.of_own (enc := pairE) pairE_len2 rfl H.own
  obtain ⟨b, o, x1, x2, e2, hbs, hx', h1, h2⟩ := hr.pair hi
  rw [hx] at hx'; cases hx'
  rcases hle.2 with ⟨rfl, h0⟩ | ⟨g', cap, cur, rfl, hb, hh, h6, h7, h8, _⟩
  · omega
  · cases e
    cases e2
    simp only [Nat.zero_add] at h1 h2
    exact ⟨_, _, rfl, hbs, hc, hc2, h1, h2⟩
theorem iLen_any (H : HW w base h m sv l) : Calls Try.prog 114 #[.pointer (some ⟨h, 0, none⟩)] w fun e w' => e = .returned (.int .i64 l.length) ∧ w' = w := by
  obtain ⟨A, c, rfl, hr, hc, hc2⟩ := Rd.of_own (enc := pairE) pairE_len2 rfl H.own
  have c0 := H.c0
  go_enter Try.func114, Try.ntmps114
  go_wp2
  go_returns
  exact ⟨rfl, rfl⟩
set_option maxRecDepth 100000 in
theorem iLess_any (H : HW w base h m sv l) {i j : Nat} {x y : It} (hx : l[i]? = some x) (hy : l[j]? = some y) :
    Calls Try.prog 115 #[.pointer (some ⟨h, 0, none⟩), .int .i64 i, .int .i64 j] w fun e w' => e = .returned (.bool (ltI x y)) ∧ Below w.heap.size w w' := by
  obtain ⟨g, c, rfl, hgl, hc, hc2, h1, h2⟩ := H.item hx
  obtain ⟨g', c', e, _, _, _, k1, k2⟩ := H.item hy
  cases e
  have c0 := H.c0
  have hlt := H.hlt
  have hll := H.len
  have hi := (List.getElem?_eq_some_iff.1 hx).1
  have hj := (List.getElem?_eq_some_iff.1 hy).1
  have hi1 : (i : Int) < (l.length : Int) := by omega
  have hj1 : (j : Int) < (l.length : Int) := by omega
  have hi0 : (0 : Int) ≤ (i : Int) := by omega
  have hj0 : (0 : Int) ≤ (j : Int) := by omega
  obtain ⟨n, hn⟩ : ∃ n, l.length = n := ⟨_, rfl⟩
  have hord := Lib.hid (ordI_lt x y)
  rw [hn] at c0 hi1 hj1
  clear H hn hx hy
  go_enter Try.func115, Try.ntmps115
  go_upto_region 1 with fail
  refine wp_region_below w.heap.size (by kernel_rfl) (by kernel_rfl) ?_
  intro C hC
  repeat (go_big_quiet_step (first
    | ((intro _; with_reducible rfl))
    | (intro hc; have m0 := (hc.cell (p := ⟨h, _, none⟩) hlt).trans c0; have m1 := (hc.cell (p := ⟨g, _, none⟩) hgl).trans h1; have m2 := (hc.cell (p := ⟨g, _, none⟩) hgl).trans h2; have m3 := (hc.cell (p := ⟨g, _, none⟩) hgl).trans k1; have m4 := (hc.cell (p := ⟨g, _, none⟩) hgl).trans k2; simp only [m0, m1, m2, m3, m4, Result.andThen]; exact ⟨trivial, rfl⟩)
    | (intro hc; refine (order_any x.1 x.2 y.1 y.2 _).mono ?_; rintro e w'' ⟨rfl, hg⟩; exact ⟨rfl, hc.trans (hg.below.mono hc.size)⟩)))
  refine wpQuiet_nil ?_
  intro w4 hb4
  clear hC
  go_wp2_with fail
  go_returns
  exact ⟨ret_bool hord.out, hb4⟩
end
end Go.Proofs.Ytapfndjaimfcaaa
