/-
  Texts of one chain, merged.
-/
import Derived.Test.YtapfndjaimfcaaaWkA
import Derived.Test.YtapfndjaimfcaaaShelf2
import Derived.Test.YtapfndjaimfcaaaAnyGhost2
import Derived.Test.YtapfndjaimfcaaaHead
import Derived.Laws.CopyOwn
import Derived.Test.YtapfndjaimfcaaaHeap12
import Derived.Laws.EntriesVeiled
namespace Go.Proofs.Ytapfndjaimfcaaa
open Go.RowKit Go.Shelf B K
set_option linter.unusedVariables false
set_option linter.unusedSimpArgs false
set_option maxHeartbeats 2000000
/-- a row of n cells of which the first k hold v -/
def rowV (n k : Nat) (v : Int) : List Value := List.replicate k (.int .i64 v) ++ List.replicate (n - k) (.int .i64 0)
theorem rowV_size (n k : Nat) (v : Int) : (rowV n k v).toArray.size = k + (n - k) := by simp [rowV]
theorem rowV_step {n k : Nat} {v : Int} (hk : 0 < k) (hlt : k < n) : (rowV n k v).toArray.toList.take k ++ List.replicate (min k (n - k)) (.int .i64 v) ++ (rowV n k v).toArray.toList.drop (k + (List.replicate (min k (n - k)) (Value.int .i64 v)).length) = rowV n (k + min k (n - k)) v := by
  have e1 : ((List.replicate k (Value.int .i64 v)) ++ List.replicate (n - k) (Value.int .i64 0)).take k = List.replicate k (Value.int .i64 v) := by
    rw [List.take_append_of_le_length (by simp)]; simp
  have e2 : ((List.replicate k (Value.int .i64 v)) ++ List.replicate (n - k) (Value.int .i64 0)).drop (k + min k (n - k)) = List.replicate (n - (k + min k (n - k))) (Value.int .i64 0) := by
    rw [List.drop_append, List.drop_eq_nil_of_le (by simp), List.nil_append, List.drop_replicate, List.length_replicate]
    congr 1
    omega
  simp only [rowV, List.length_replicate]
  rw [e1, e2, List.replicate_append_replicate]
theorem rowV_src {w : World} {ob n k : Nat} {v : Int} (h : w.heap[ob]? = some (.cells (rowV n k v).toArray 2 (0, 0))) (hk : 0 < k) (hlt : k < n) : ∀ (j : Nat) (u : Value), (List.replicate (min k (n - k)) (Value.int .i64 v))[j]? = some u → w.cell? ((⟨ob, 0, none⟩ : Addr).add j) = some u := fun j u hu => by
  rw [List.getElem?_replicate] at hu
  split at hu
  · rename_i hj
    cases hu
    have e : ((⟨ob, 0, none⟩ : Addr).add j) = ⟨ob, j, none⟩ := by
      unfold Addr.add
      split <;> simp_all
    rw [e, cell_of_row _ _ _ _ _ _ h]
    simp only [rowV, List.getElem?_toArray]
    rw [List.getElem?_append_left (by simp; omega), List.getElem?_replicate, if_pos (by omega)]
  · cases hu
def GC (w0 : World) (ob n k : Nat) (v : Int) (fl : Nat → Bool) (xs : Nat → Value) (w : World) : Prop :=
  But w0 w [ob] ∧ (fl 7 = false → w.heap[ob]? = some (.cells (rowV n k v).toArray 2 (0, 0))) ∧ (fl 7 = true → w.heap[ob]? = some (.cells (rowV n (k + min k (n - k)) v).toArray 2 (0, 0))) ∧
  (fl 9 = false → xs 9 = .int .i64 (k : Int)) ∧ (fl 9 = true → xs 9 = .int .i64 ((k : Int) + ((min k (n - k) : Nat) : Int)) ∧ fl 0 = true ∧ fl 2 = true ∧ fl 5 = true)
section
variable {w0 w : World} {ob n k : Nat} {v : Int} {fl : Nat → Bool} {xs : Nat → Value} {x : Value}
theorem GC.start (h7 : fl 7 = false) (h9 : fl 9 = false) (hx : xs 9 = .int .i64 (k : Int)) (hob : w0.heap[ob]? = some (.cells (rowV n k v).toArray 2 (0, 0))) : GC w0 ob n k v fl xs { w0 with drawn := w0.drawn + 1 } :=
  ⟨⟨rfl, rfl, rfl, Nat.le_refl _, fun _ _ _ => rfl⟩, fun _ => hob, fun h => (by rw [h7] at h; cases h), fun _ => hx, fun h => (by rw [h9] at h; cases h)⟩
theorem GC.at9 (H : GC w0 ob n k v fl xs w) (h : fl 9 ≠ true) : xs 9 = .int .i64 (k : Int) := H.2.2.2.1 (by simpa using h)
theorem GC.rd0 (H : GC w0 ob n k v fl xs w) (h : fl 0 = false) : xs 9 = .int .i64 (k : Int) := H.at9 fun e => by rw [(H.2.2.2.2 e).2.1] at h; cases h
theorem GC.rd2 (H : GC w0 ob n k v fl xs w) (h : fl 2 = false) : xs 9 = .int .i64 (k : Int) := H.at9 fun e => by rw [(H.2.2.2.2 e).2.2.1] at h; cases h
theorem GC.rd5 (H : GC w0 ob n k v fl xs w) (h : fl 5 = false) : xs 9 = .int .i64 (k : Int) := H.at9 fun e => by rw [(H.2.2.2.2 e).2.2.2] at h; cases h
theorem GC.s0 (H : GC w0 ob n k v fl xs w) : GC w0 ob n k v (updB fl 0) (upd xs 0 x) w := ⟨H.1, H.2.1, H.2.2.1, H.2.2.2.1, fun h => ⟨(H.2.2.2.2 h).1, rfl, (H.2.2.2.2 h).2.2⟩⟩
theorem GC.s2 (H : GC w0 ob n k v fl xs w) : GC w0 ob n k v (updB fl 2) (upd xs 2 x) w := ⟨H.1, H.2.1, H.2.2.1, H.2.2.2.1, fun h => ⟨(H.2.2.2.2 h).1, (H.2.2.2.2 h).2.1, rfl, (H.2.2.2.2 h).2.2.2⟩⟩
theorem GC.s5 (H : GC w0 ob n k v fl xs w) : GC w0 ob n k v (updB fl 5) (upd xs 5 x) w := ⟨H.1, H.2.1, H.2.2.1, H.2.2.2.1, fun h => ⟨(H.2.2.2.2 h).1, (H.2.2.2.2 h).2.1, (H.2.2.2.2 h).2.2.1, rfl⟩⟩
theorem GC.s7 (H : GC w0 ob n k v fl xs w) (h7 : fl 7 = false) : GC w0 ob n k v (updB fl 7) (upd xs 7 x) (w.setRow ob (rowV n (k + min k (n - k)) v).toArray) := by
  obtain ⟨g1, g2, g3, g4, g5⟩ := H
  have hb : But w (w.setRow ob (rowV n (k + min k (n - k)) v).toArray) [ob] := ⟨rfl, rfl, rfl, by simp, fun b _ hx => setRow_other _ _ _ _ (by simpa using hx)⟩
  exact ⟨g1.trans hb, fun h => (by cases h), fun _ => setRow_heap _ _ _ _ _ _ (g2 h7), g4, g5⟩
theorem GC.s9 (H : GC w0 ob n k v fl xs w) (h0 : fl 0 = true) (h2 : fl 2 = true) (h5 : fl 5 = true) : GC w0 ob n k v (updB fl 9) (upd xs 9 (.int .i64 ((k : Int) + ((min k (n - k) : Nat) : Int)))) w :=
  ⟨H.1, H.2.1, H.2.2.1, fun h => (by cases h), fun _ => ⟨rfl, h0, h2, h5⟩⟩
end
set_option maxRecDepth 100000 in
theorem rep_any (v : Int) (n g : Nat) (w : World) (h1 : 1 ≤ n) (hn : n ≤ 256) (hg : g < w.heap.size) (hv : w.cell? ⟨g, 0, none⟩ = some (.int .i64 v)) :
    Calls Try.prog 59 #[.slice (some ⟨g, 0, none⟩) 1 1, .int .i64 n] w fun e w' => ∃ ob, e = .returned (.slice (some ⟨ob, 0, none⟩) n n) ∧ w.heap.size ≤ ob ∧ w'.heap[ob]? = some (.cells (List.replicate n (.int .i64 v)).toArray 2 (0, 0)) ∧ Below w.heap.size w w' := by
  obtain ⟨ob, hobe⟩ : ∃ q, w.heap.size = q := ⟨_, rfl⟩
  have hM : Hid (Calls Try.prog 70 #[.int .u64 1, .int .u64 n] w fun e w' => e = .returned (.tuple #[.int .u64 0, .int .u64 n]) ∧ w = w') := by
    have := Any.bits_Mul Ytapfndjaimfcaaa.mulL 1 n (by omega) (by omega) w
    rw [Nat.one_mul, Nat.div_eq_of_lt (by omega), Nat.mod_eq_of_lt (by omega)] at this
    exact this.mono fun e w' h => ⟨h.1, h.2.symm⟩
  have hmk : (Instr.makeSlice 27 (.int .i64 (n : Int)) (.int .i64 (n : Int))).run Try.prog w = .ok (.slice (some ⟨ob, 0, none⟩) n n) (w.alloc (.cells (madeCells #[.int .i64 0] n) 2)) := by
    rw [← hobe]
    obtain ⟨i, hi, hz, hs, hb⟩ := info_parts (show (Try.prog.info? 2).map (fun i => (i.zero, i.size, i.bytes)) = some (some (.int .i64 0), 1, 8) by kernel_rfl)
    have := run_make w 27 2 i _ Try.underlying27 hi hz .i64 .i64 (n : Int) (n : Int) (by omega) (Int.le_refl _) (by rw [hb]; omega) (by omega)
    rw [hs] at this
    simpa [Value.cells] using this
  have hwn : IntKind.u64.wrap (n : Int) = n := by rw [IntKind.wrap_u64]; omega
  have hwn2 : IntKind.i64.wrap (n : Int) = n := by rw [IntKind.wrap_i64]; omega
  have hd1 : decide ((9223372036854775807 : Int) < (n : Int)) = false := decide_eq_false (by omega)
  have hd0 : decide ((n : Int) < 0) = false := decide_eq_false (by omega)
  have hnew := heap_alloc_new w (.cells (madeCells #[.int .i64 0] n) 2)
  rw [hobe] at hnew
  have hb0 : Below w.heap.size w (w.alloc (.cells (madeCells #[.int .i64 0] n) 2)) := (Below.refl _ w).alloc (Nat.le_refl _) _
  have hv1 := (hb0.cell (p := ⟨g, 0, none⟩) hg).trans hv
  obtain ⟨W1, hW1⟩ : ∃ q, w.alloc (.cells (madeCells #[.int .i64 0] n) 2) = q := ⟨_, rfl⟩
  rw [hW1] at hnew hb0 hmk hv1
  have hcp : (Builtin.copy_ #[27, 27] 3 #[.slice (some ⟨ob, 0, none⟩) n n, .slice (some ⟨g, 0, none⟩) 1 1]).run Try.prog W1 = .ok (.int .i64 1) (W1.setRow ob (rowV n 1 v).toArray) := by
    have := run_copy_row (P := Try.prog) W1 27 27 3 2 ob 0 n n ⟨g, 0, none⟩ 1 1 (madeCells #[.int .i64 0] n) 2 [.int .i64 v] Try.underlying27 (by kernel_rfl) hnew (Nat.min_eq_left h1).symm (fun j u hu => by
      have hj : j = 0 := by
        have := (List.getElem?_eq_some_iff.1 hu).1
        simpa using this
      subst hj
      simp at hu; subst hu
      have e : ((⟨g, 0, none⟩ : Addr).add 0) = ⟨g, 0, none⟩ := by
        unfold Addr.add
        split <;> simp_all
      rw [e]; exact hv1) (by simp [size_madeCells]; omega) (fun u hu => by simp at hu; subst hu; rfl)
    rw [toList_madeCells_one] at this
    simpa [rowV, goInt] using this
  have hob1 : (W1.setRow ob (rowV n 1 v).toArray).heap[ob]? = some (.cells (rowV n 1 v).toArray 2 (0, 0)) := setRow_heap _ _ _ _ _ _ hnew
  have hb1 : Below w.heap.size w (W1.setRow ob (rowV n 1 v).toArray) := hb0.trans ⟨rfl, rfl, rfl, by simp, fun b hb => setRow_other _ _ _ _ (by omega)⟩
  obtain ⟨W2, hW2⟩ : ∃ q, W1.setRow ob (rowV n 1 v).toArray = q := ⟨_, rfl⟩
  rw [hW2] at hob1 hb1 hcp
  clear hW1 hW2 hnew hb0 hv1 hv
  have hobe2 := Lib.hid hobe
  clear hobe
  go_enter Try.func59, Try.ntmps59
  go_wp2_with (go_at_call 70; refine hM.out.mono ?_; rintro e w' ⟨rfl, rfl⟩)
  go_loopw [8] (fun i wr => ∃ (k : Nat), 0 < k ∧ k ≤ n ∧ i = .int .i64 k ∧ wr.heap[ob]? = some (.cells (rowV n k v).toArray 2 (0, 0)) ∧ Below w.heap.size w wr) (fun i _ => n - (intOf i).toNat)
  case atStart => exact ⟨1, by decide, h1, rfl, hob1, hb1⟩
  case round =>
    clear hob1 hb1 hmk hM hcp
    obtain ⟨k, hk1, hkn, rfl, hob, hb⟩ := hrel
    by_cases hlt : k < n
    · have hs1 : ∀ W : World, (Instr.slice 27 (.slice (some ⟨ob, 0, none⟩) n n) (some (.int .i64 (k : Int))) none none).run Try.prog W = .ok (.slice (some ⟨ob, k, none⟩) (n - k) (n - k)) W := fun W => by
        rw [run_cut Try.underlying27 (by kernel_rfl) (fun W => by kernel_rfl) (s := 1) _ n n k (by omega) .i64 W]
        unfold cutA
        rw [if_neg (by omega)]
        simp [Addr.add]
        omega
      have hs2 : ∀ W : World, (Instr.slice 27 (.slice (some ⟨ob, 0, none⟩) n n) none (some (.int .i64 (k : Int))) none).run Try.prog W = .ok (.slice (some ⟨ob, 0, none⟩) k n) W := fun W => by
        rw [run_head Try.underlying27 (by kernel_rfl) (fun W => by kernel_rfl) (s := 1) _ n n k (by omega) .i64 W, cutA_zero]
      have hwk : IntKind.i64.wrap ((k : Int) + ((min k (n - k) : Nat) : Int)) = (k : Int) + ((min k (n - k) : Nat) : Int) := by rw [IntKind.wrap_i64]; omega
      have hbx := Lib.hid hb
      have hobx := (Array.getElem?_eq_some_iff.1 hob).1
      clear hb
      go_upto_region 9 with fail
      refine wp_region_ghost2 (GC wr ob n k v) (by kernel_rfl) (by kernel_rfl) (by kernel_rfl) (by kernel_rfl) (by kernel_rfl) ?_ ?_
      · intro x0 hx0
        exact GC.start rfl rfl (hx0 9 8 rfl) hob
      intro base O hbase hO
      have kx7 : Hid (∀ xs, evX base O xs (.tmp 7) = .slice (some ⟨ob, 0, none⟩) n n) := fun xs => by rw [hbase, hO]; rfl
      have kx8 : Hid (∀ xs, evX base O xs (.tmp 8) = xs 9) := fun xs => by rw [hO]; rfl
      have kx38 : Hid (∀ xs, evX base O xs (.tmp 38) = xs 0) := fun xs => by rw [hO]; rfl
      have kx39 : Hid (∀ xs, evX base O xs (.tmp 39) = xs 1) := fun xs => by rw [hO]; rfl
      have kx40 : Hid (∀ xs, evX base O xs (.tmp 40) = xs 2) := fun xs => by rw [hO]; rfl
      have kx41 : Hid (∀ xs, evX base O xs (.tmp 41) = xs 3) := fun xs => by rw [hO]; rfl
      have kx42 : Hid (∀ xs, evX base O xs (.tmp 42) = xs 4) := fun xs => by rw [hO]; rfl
      have kx43 : Hid (∀ xs, evX base O xs (.tmp 43) = xs 5) := fun xs => by rw [hO]; rfl
      have kx44 : Hid (∀ xs, evX base O xs (.tmp 44) = xs 6) := fun xs => by rw [hO]; rfl
      have kx45 : Hid (∀ xs, evX base O xs (.tmp 45) = xs 7) := fun xs => by rw [hO]; rfl
      have kx46 : Hid (∀ xs, evX base O xs (.tmp 46) = xs 8) := fun xs => by rw [hO]; rfl
      clear hbase hO
      apply gh_det (n := 0)
      · intro fl xs w ev hG hD hl hdone hev K hK
        have e8 := (hev (.tmp 8)).trans (kx8.out xs)
        rw [if_pos (wantedX_none rfl)]
        have ef : ∀ f, ev (.func f) = .func (.func f) #[] #[] := fun f => (hev _).trans rfl
        clear hev hD
        rw [hG.rd0 hl] at e8
        go_simp
        exact hK _ _ rfl hG.s0
      apply gh_det (n := 1)
      · intro fl xs w ev hG hD hl hdone hev K hK
        have e7 := (hev (.tmp 7)).trans (kx7.out xs)
        rw [if_pos (wantedX_none rfl)]
        have ef : ∀ f, ev (.func f) = .func (.func f) #[] #[] := fun f => (hev _).trans rfl
        clear hev hD
        go_simp
        exact hK _ _ rfl hG
      apply gh_det (n := 2)
      · intro fl xs w ev hG hD hl hdone hev K hK
        have e8 := (hev (.tmp 8)).trans (kx8.out xs)
        rw [if_pos (wantedX_none rfl)]
        have ef : ∀ f, ev (.func f) = .func (.func f) #[] #[] := fun f => (hev _).trans rfl
        clear hev hD
        rw [hG.rd2 hl] at e8
        go_simp
        exact hK _ _ rfl hG.s2
      apply gh_det (n := 3)
      · intro fl xs w ev hG hD hl hdone hev K hK
        have e39 := (hev (.tmp 39)).trans (kx39.out xs)
        have d1 := hD.at_ 1 rfl rfl
        replace e39 := e39.trans d1
        have e40 := (hev (.tmp 40)).trans (kx40.out xs)
        have d2 := hD.at_ 2 rfl rfl
        replace e40 := e40.trans d2
        rw [if_pos (wantedX_none rfl)]
        have ef : ∀ f, ev (.func f) = .func (.func f) #[] #[] := fun f => (hev _).trans rfl
        clear hev hD
        go_simp
        exact hK _ _ rfl hG
      apply gh_det (n := 4)
      · intro fl xs w ev hG hD hl hdone hev K hK
        have e7 := (hev (.tmp 7)).trans (kx7.out xs)
        rw [if_pos (wantedX_none rfl)]
        have ef : ∀ f, ev (.func f) = .func (.func f) #[] #[] := fun f => (hev _).trans rfl
        clear hev hD
        go_simp
        exact hK _ _ rfl hG
      apply gh_det (n := 5)
      · intro fl xs w ev hG hD hl hdone hev K hK
        have e8 := (hev (.tmp 8)).trans (kx8.out xs)
        rw [if_pos (wantedX_none rfl)]
        have ef : ∀ f, ev (.func f) = .func (.func f) #[] #[] := fun f => (hev _).trans rfl
        clear hev hD
        rw [hG.rd5 hl] at e8
        go_simp
        exact hK _ _ rfl hG.s5
      apply gh_det (n := 6)
      · intro fl xs w ev hG hD hl hdone hev K hK
        have e42 := (hev (.tmp 42)).trans (kx42.out xs)
        have d4 := hD.at_ 4 rfl rfl
        replace e42 := e42.trans d4
        have e43 := (hev (.tmp 43)).trans (kx43.out xs)
        have d5 := hD.at_ 5 rfl rfl
        replace e43 := e43.trans d5
        rw [if_pos (wantedX_none rfl)]
        have ef : ∀ f, ev (.func f) = .func (.func f) #[] #[] := fun f => (hev _).trans rfl
        clear hev hD
        go_simp
        exact hK _ _ rfl hG
      apply gh_det (n := 7)
      · intro fl xs w ev hG hD hl hdone hev K hK
        have e41 := (hev (.tmp 41)).trans (kx41.out xs)
        have d3 := hD.at_ 3 rfl rfl
        replace e41 := e41.trans d3
        have e44 := (hev (.tmp 44)).trans (kx44.out xs)
        have d6 := hD.at_ 6 rfl rfl
        replace e44 := e44.trans d6
        rw [if_pos (wantedX_none rfl)]
        have ef : ∀ f, ev (.func f) = .func (.func f) #[] #[] := fun f => (hev _).trans rfl
        clear hev hD
        have hrun := run_copy_row (P := Try.prog) w 27 27 3 2 ob k (n - k) (n - k) ⟨ob, 0, none⟩ k n (rowV n k v).toArray 2 (List.replicate (min k (n - k)) (.int .i64 v)) Try.underlying27 (by kernel_rfl) (hG.2.1 hl) (by rw [List.length_replicate]) (rowV_src (hG.2.1 hl) hk1 hlt) (by rw [rowV_size, List.length_replicate]; omega) (fun u hu => by rw [(List.mem_replicate.1 hu).2]; rfl)
        rw [rowV_step hk1 hlt, List.length_replicate] at hrun
        go_simp
        exact hK _ _ rfl (hG.s7 hl)
      apply gh_det (n := 8)
      · intro fl xs w ev hG hD hl hdone hev K hK
        have e38 := (hev (.tmp 38)).trans (kx38.out xs)
        have d0 := hD.at_ 0 rfl rfl
        replace e38 := e38.trans d0
        have e45 := (hev (.tmp 45)).trans (kx45.out xs)
        have d7 := hD.at_ 7 rfl rfl
        replace e45 := e45.trans d7
        rw [if_pos (wantedX_none rfl)]
        have ef : ∀ f, ev (.func f) = .func (.func f) #[] #[] := fun f => (hev _).trans rfl
        clear hev hD
        go_simp
        exact hK _ _ rfl hG
      refine gh_any (n := 9) (fun _ => True) ?_ ?_
      · intro fl xs w ev hG hD hl hdone hev K hK
        have e46 := (hev (.tmp 46)).trans (kx46.out xs)
        have d8 := hD.at_ 8 rfl rfl
        replace e46 := e46.trans d8
        rw [if_pos (wantedX_none rfl)]
        have ef : ∀ f, ev (.func f) = .func (.func f) #[] #[] := fun f => (hev _).trans rfl
        clear hev hD
        go_simp
        exact hK _ _ trivial (hG.s9 (done_of hdone 0 rfl) (done_of hdone 2 rfl) (done_of hdone 5 rfl))
      intro xs w' hG hI
      clear hI
      obtain ⟨g1, g2, g3, _, g5⟩ := hG
      have hx9 := (g5 rfl).1
      clear g5
      have hob' := g3 rfl
      have hb' := hbx.out.trans (g1.below hbx.out.size (by have := hobe2.out; simp; omega))
      clear g1 g2 g3
      simp only [List.append_eq, List.cons_append, List.nil_append, setAll, List.setIfInBounds_toArray, List.set_cons_zero, List.set_cons_succ, hx9]
      clear hx9
      go_wp2_with fail
      go_roundw
      case rel => exact ⟨k + min k (n - k), by omega, by omega, by go_num, hob', hb'⟩
      case measure => simp [intOf]; omega
    · obtain rfl : k = n := by omega
      go_wp2_with fail
      go_returns
      refine ⟨ob, rfl, by have := hobe2.out; omega, ?_, hb⟩
      simpa [rowV] using hob
end Go.Proofs.Ytapfndjaimfcaaa
namespace Go.Proofs.Ytapfndjaimfcaaa
open Go.RowKit Go.Shelf B K
set_option linter.unusedVariables false
set_option linter.unusedSimpArgs false
set_option maxHeartbeats 2000000
abbrev ptrV (b : Nat) : Value := .pointer (some ⟨b, 0, none⟩)
/-- a search in memory: its struct sb, its row fb, its heap h; ob: the edges by stop -/
structure SQ (w : World) (base h : Nat) (X : List Nat) (sb fb ob n : Nat) (d : List Int) (S : List It) : Prop where
  q : HQ w base h X S
  sx : sb ∈ X
  fx : fb ∈ X
  ne : sb ≠ fb
  s : w.heap[sb]? = some (.cells #[.slice (some ⟨ob, 0, none⟩) n n, .slice (some ⟨fb, 0, none⟩) n n, .func (.func 31) #[.pointer (some ⟨h, 0, none⟩)] #[], .func (.func 35) #[.pointer (some ⟨h, 0, none⟩)] #[], .func (.func 36) #[.pointer (some ⟨h, 0, none⟩)] #[]] 102 (0, 0))
  f : w.heap[fb]? = some (.cells (d.map (Value.int .i64)).toArray 2 (0, 0))
  len : d.length = n
  sb0 : base ≤ sb
  fb0 : base ≤ fb
def SPost (w w' : World) (base h : Nat) (X : List Nat) (sb fb ob n : Nat) (d : List Int) (S : List It) : Prop :=
  SQ w' base h X sb fb ob n d S ∧ Below base w w' ∧ ∀ b ∈ X, b ≠ fb → b < w.heap.size → w'.heap[b]? = w.heap[b]?
section
variable {w w' w6 : World} {base h sb fb ob n : Nat} {X : List Nat} {d : List Int} {S S2 : List It}
theorem SQ.c0 (H : SQ w base h X sb fb ob n d S) : w.cell? ⟨sb, 0, none⟩ = some (.slice (some ⟨ob, 0, none⟩) n n) := by rw [cell_of_row _ _ _ _ _ _ H.s]; rfl
theorem SQ.c1 (H : SQ w base h X sb fb ob n d S) : w.cell? ⟨sb, 1, none⟩ = some (.slice (some ⟨fb, 0, none⟩) n n) := by rw [cell_of_row _ _ _ _ _ _ H.s]; rfl
theorem SQ.c2 (H : SQ w base h X sb fb ob n d S) : w.cell? ⟨sb, 2, none⟩ = some (.func (.func 31) #[.pointer (some ⟨h, 0, none⟩)] #[]) := by rw [cell_of_row _ _ _ _ _ _ H.s]; rfl
theorem SQ.c3 (H : SQ w base h X sb fb ob n d S) : w.cell? ⟨sb, 3, none⟩ = some (.func (.func 35) #[.pointer (some ⟨h, 0, none⟩)] #[]) := by rw [cell_of_row _ _ _ _ _ _ H.s]; rfl
theorem SQ.c4 (H : SQ w base h X sb fb ob n d S) : w.cell? ⟨sb, 4, none⟩ = some (.func (.func 36) #[.pointer (some ⟨h, 0, none⟩)] #[]) := by rw [cell_of_row _ _ _ _ _ _ H.s]; rfl
theorem SQ.at_ (H : SQ w base h X sb fb ob n d S) {i : Nat} {u : Int} (hu : d[i]? = some u) : w.cell? ⟨fb, i, none⟩ = some (.int .i64 u) := by rw [cell_of_row _ _ _ _ _ _ H.f]; simp [hu]
theorem SQ.slt (H : SQ w base h X sb fb ob n d S) : sb < w.heap.size := (Array.getElem?_eq_some_iff.1 H.s).1
theorem SQ.flt (H : SQ w base h X sb fb ob n d S) : fb < w.heap.size := (Array.getElem?_eq_some_iff.1 H.f).1
theorem SQ.lt (H : SQ w base h X sb fb ob n d S) {i : Nat} {u : Int} (hu : d[i]? = some u) : i < n := by rw [← H.len]; exact (List.getElem?_eq_some_iff.1 hu).1
theorem SQ.below (H : SQ w base h X sb fb ob n d S) (hb : Below w.heap.size w w') : SQ w' base h X sb fb ob n d S :=
  ⟨H.q.below hb, H.sx, H.fx, H.ne, (hb.block _ H.slt).trans H.s, (hb.block _ H.flt).trans H.f, H.len, H.sb0, H.fb0⟩
theorem SQ.more (H : SQ w base h X sb fb ob n d S) {Y : List Nat} (hX : ∀ x ∈ X, x ∈ Y) (hY : ∀ y ∈ Y, y ∈ X ∨ w.heap.size ≤ y) : SQ w base h Y sb fb ob n d S :=
  ⟨H.q.more hY, hX _ H.sx, hX _ H.fx, H.ne, H.s, H.f, H.len, H.sb0, H.fb0⟩
theorem SQ.less (H : SQ w base h X sb fb ob n d S) {Y : List Nat} (hs : sb ∈ Y) (hf : fb ∈ Y) (hY : ∀ y ∈ Y, y ∈ X) : SQ w base h Y sb fb ob n d S :=
  ⟨H.q.more fun y hy => .inl (hY y hy), hs, hf, H.ne, H.s, H.f, H.len, H.sb0, H.fb0⟩
theorem SQ.but (H : SQ w base h X sb fb ob n d S) {Z : List Nat} (hb : But w w' Z) (hZ : ∀ z ∈ Z, z ∈ X ∧ z ≠ sb ∧ z ≠ fb) : SQ w' base h X sb fb ob n d S :=
  ⟨H.q.but hb fun z hz => (hZ z hz).1, H.sx, H.fx, H.ne, (hb.keep _ H.slt (fun hx => (hZ _ hx).2.1 rfl)).trans H.s, (hb.keep _ H.flt (fun hx => (hZ _ hx).2.2 rfl)).trans H.f, H.len, H.sb0, H.fb0⟩
/-- the heap has turned -/
theorem SQ.turn (H : SQ w base h X sb fb ob n d S) (hp : HPost w w' base h X S2) : SQ w' base h X sb fb ob n d S2 :=
  ⟨hp.1, H.sx, H.fx, H.ne, (hp.2.2 _ H.sx H.slt).trans H.s, (hp.2.2 _ H.fx H.flt).trans H.f, H.len, H.sb0, H.fb0⟩
/-- .. and the row's one cell -/
theorem SQ.put (H : SQ w base h X sb fb ob n d S) (hp : HPost w w6 base h X S2) {i : Nat} {u far : Int} (hu : d[i]? = some u) (hbase : base ≤ w.heap.size) :
    SPost w (w6.setCell ⟨fb, i, none⟩ (.int .i64 far)) base h X sb fb ob n (d.set i far) S2 := by
  have H6 := H.turn hp
  have hbut : But w6 (w6.setCell ⟨fb, i, none⟩ (.int .i64 far)) [fb] := But.of_set _ _ _ (by simp)
  refine ⟨⟨H6.q.but hbut (by simpa using H.fx), H.sx, H.fx, H.ne, (hbut.keep _ H6.slt (by simpa using H.ne)).trans H6.s, ?_, by rw [List.length_set]; exact H.len, H.sb0, H.fb0⟩, hp.2.1.trans (hbut.below (Nat.le_trans hbase hp.2.1.size) (by simpa using H.fb0)), fun b hb hne hlt => ?_⟩
  · have hlt := H6.flt
    have e : w6.heap[fb] = .cells (d.map (Value.int .i64)).toArray 2 (0, 0) := by
      have := H6.f
      rw [Array.getElem?_eq_getElem hlt] at this; exact Option.some.inj this
    simp [World.setCell, hlt, Array.getElem_modify, e]
  · rw [hbut.keep b (Nat.lt_of_lt_of_le hlt hp.2.1.size) (by simpa using hne)]
    exact hp.2.2 b hb hlt
theorem better_low (H : SQ w base h X sb fb ob n d S) {i : Nat} {u far : Int} (hu : d[i]? = some u) (hle : u ≤ far) :
    Calls Try.prog 60 #[.pointer (some ⟨sb, 0, none⟩), .int .i64 i, .int .i64 far] w fun e w' => e = .returned (.tuple #[]) ∧ w = w' := by
  have c1 := H.c1
  have cu := H.at_ hu
  have hi := H.lt hu
  have hi2 : (i : Int) < (n : Int) := by omega
  have hd : decide (u ≤ far) = true := decide_eq_true hle
  clear H hu
  go_enter Try.func60, Try.ntmps60
  go_wp2_with fail
  go_returns
  exact ⟨rfl, rfl⟩
theorem better_new (H : SQ w base h X sb fb ob n d S) {i : Nat} {far : Int} (hu : d[i]? = some 4611686018427387904) (hlt : far < 4611686018427387904) (hS : ∀ y ∈ S, y.2 ≠ (i : Int)) (hlen : S.length + 1 ≤ n) (hn : n ≤ 256) (hbase : base ≤ w.heap.size) (hXl : ∀ b ∈ X, b < w.heap.size) :
    Calls Try.prog 60 #[.pointer (some ⟨sb, 0, none⟩), .int .i64 i, .int .i64 far] w fun e w' => e = .returned (.tuple #[]) ∧ SPost w w' base h X sb fb ob n (d.set i far) ((far, (i : Int)) :: S) := by
  have c1 := H.c1
  have c2 := H.c2
  have cu := H.at_ hu
  have hi := H.lt hu
  have hi2 : (i : Int) < (n : Int) := by omega
  have hd : decide ((4611686018427387904 : Int) ≤ far) = false := decide_eq_false (by omega)
  have hP := Lib.hid (Push_new (kx := far) (ix := (i : Int)) H.q (WalkArith.wf_i64 (by omega)) hS hbase hXl (by omega))
  have hfin : Hid (∀ w6 : World, HPost w w6 base h X ((far, (i : Int)) :: S) → (w6.cell? ⟨sb, 1, none⟩ = some (.slice (some ⟨fb, 0, none⟩) n n) ∧ w6.cell? ⟨fb, i, none⟩ = some (.int .i64 4611686018427387904) ∧ w6.frozen? ⟨fb, i, none⟩ = false) ∧
      SPost w (w6.setCell ⟨fb, i, none⟩ (.int .i64 far)) base h X sb fb ob n (d.set i far) ((far, (i : Int)) :: S)) := fun w6 hp =>
    ⟨⟨(H.turn hp).c1, (H.turn hp).at_ hu, by simp [World.frozen?, (H.turn hp).f]⟩, H.put hp hu hbase⟩
  clear H hu hS hXl
  go_enter Try.func60, Try.ntmps60
  go_wp2_with (refine hP.out.mono ?_; rintro e w6 ⟨rfl, hp⟩; obtain ⟨⟨q1, q2, q3⟩, hpost⟩ := hfin.out w6 hp)
  go_returns
  exact ⟨rfl, hpost⟩
theorem better_lower (H : SQ w base h X sb fb ob n d S) {i : Nat} {u far : Int} {S0 : List It} (hu : d[i]? = some u) (hne : u ≠ 4611686018427387904) (hlt : far < u) (hS : S.Perm ((u, (i : Int)) :: S0)) (hn : n ≤ 256) (hbase : base ≤ w.heap.size) (hXl : ∀ b ∈ X, b < w.heap.size) :
    Calls Try.prog 60 #[.pointer (some ⟨sb, 0, none⟩), .int .i64 i, .int .i64 far] w fun e w' => e = .returned (.tuple #[]) ∧ SPost w w' base h X sb fb ob n (d.set i far) ((far, (i : Int)) :: S0) := by
  have c1 := H.c1
  have c4 := H.c4
  have cu := H.at_ hu
  have hi := H.lt hu
  have hi2 : (i : Int) < (n : Int) := by omega
  have hd : decide (u ≤ far) = false := decide_eq_false (by omega)
  have hq : (u == 4611686018427387904) = false := by simpa using hne
  have hP := Lib.hid (Lower_any (id := (i : Int)) (key := far) (old := u) H.q (WalkArith.wf_i64 (by omega)) hS hlt hbase hXl)
  have hfin : Hid (∀ w6 : World, HPost w w6 base h X ((far, (i : Int)) :: S0) → (w6.cell? ⟨sb, 1, none⟩ = some (.slice (some ⟨fb, 0, none⟩) n n) ∧ w6.cell? ⟨fb, i, none⟩ = some (.int .i64 u) ∧ w6.frozen? ⟨fb, i, none⟩ = false) ∧
      SPost w (w6.setCell ⟨fb, i, none⟩ (.int .i64 far)) base h X sb fb ob n (d.set i far) ((far, (i : Int)) :: S0)) := fun w6 hp =>
    ⟨⟨(H.turn hp).c1, (H.turn hp).at_ hu, by simp [World.frozen?, (H.turn hp).f]⟩, H.put hp hu hbase⟩
  clear H hu hS hXl hne
  go_enter Try.func60, Try.ntmps60
  go_wp2_with (refine hP.out.mono ?_; rintro e w6 ⟨rfl, hp⟩; obtain ⟨⟨q1, q2, q3⟩, hpost⟩ := hfin.out w6 hp)
  go_returns
  exact ⟨rfl, hpost⟩
end
end Go.Proofs.Ytapfndjaimfcaaa
namespace Go.Proofs.Ytapfndjaimfcaaa
open Go.RowKit Go.Shelf B K
set_option linter.unusedVariables false
set_option linter.unusedSimpArgs false
section
variable {w w' : World} {base h sb fb ob n s c a b xb : Nat} {X : List Nat} {d : List Int} {S : List It} {l pend : List Ed} {m : Int} {e : Ed}
theorem SPost.refl (H : SQ w base h X sb fb ob n d S) : SPost w w base h X sb fb ob n d S := ⟨H, Below.refl _ _, fun _ _ _ _ => rfl⟩
theorem relax_any (H : SQ w base h X sb fb ob n d S) (hD : Dij n l s c d S m (e :: pend)) (he : e ∈ l) (hl : EdsOk n l) (ea : e.1 = (a : Int)) (eb : e.2.1 = (b : Int)) (hda : d[a]? = some m) (haS : (m, (a : Int)) ∉ S) (htop : m + e.2.2 ≤ 1099511627776)
    (hn : n ≤ 256) (hbase : base ≤ w.heap.size) (hXl : ∀ b ∈ X, b < w.heap.size) :
    Calls Try.prog 60 #[.pointer (some ⟨sb, 0, none⟩), .int .i64 b, .int .i64 (m + e.2.2)] w fun ee w' => ee = .returned (.tuple #[]) ∧ ∃ d' S', SPost w w' base h X sb fb ob n d' S' ∧ Dij n l s c d' S' m pend ∧ d'[a]? = some m ∧ (m, (a : Int)) ∉ S' := by
  obtain ⟨_, _, hb0, hbn, hab, hl1, _⟩ := hl e he
  have hbn : b < n := by omega
  have hab : a ≠ b := by omega
  obtain ⟨u, hu⟩ : ∃ u, d[b]? = some u := ⟨d[b]'(by rw [hD.len]; exact hbn), List.getElem?_eq_getElem _⟩
  have hset : (d.set b (m + e.2.2))[a]? = some m := by rw [List.getElem?_set, if_neg (fun h => hab h.symm)]; exact hda
  by_cases hlt : m + e.2.2 < u
  · rcases hD.where hl1 hu hlt with ⟨rfl, hno, hcn⟩ | ⟨hne, S0, hp, hno⟩
    · refine (better_new H hu hlt hno hcn hn hbase hXl).mono ?_
      rintro ee w' ⟨rfl, hpost⟩
      refine ⟨rfl, _, _, hpost, hD.nearer (S0 := S) he ea eb hl1 hda haS hu hlt htop (fun y => ⟨fun hy => ⟨hy, hno y hy⟩, fun hy => hy.1⟩) hD.nd (by simp), hset, fun hx => ?_⟩
      rcases List.mem_cons.1 hx with hx | hx
      · have := congrArg Prod.snd hx
        simp only at this
        omega
      · exact haS hx
    · refine (better_lower H hu hne hlt hp hn hbase hXl).mono ?_
      rintro ee w' ⟨rfl, hpost⟩
      have hnd := (hp.map Prod.snd).nodup_iff.1 hD.nd
      rw [List.map_cons, List.nodup_cons] at hnd
      refine ⟨rfl, _, _, hpost, hD.nearer (S0 := S0) he ea eb hl1 hda haS hu hlt htop (fun y => ⟨fun hy => ⟨hp.mem_iff.2 (List.mem_cons_of_mem _ hy), hno y hy⟩, fun hy => ?_⟩) hnd.2 ?_, hset, fun hx => ?_⟩
      · rcases List.mem_cons.1 (hp.mem_iff.1 hy.1) with rfl | h1
        · exact absurd rfl hy.2
        · exact h1
      · rw [if_neg hne, hp.length_eq]; simp
      · rcases List.mem_cons.1 hx with hx | hx
        · have := congrArg Prod.snd hx
          simp only at this
          omega
        · exact haS (hp.mem_iff.2 (List.mem_cons_of_mem _ hx))
  · refine (better_low H hu (by omega)).mono ?_
    rintro ee w' ⟨rfl, rfl⟩
    exact ⟨rfl, d, S, SPost.refl H, hD.skip ea eb hda (.inr ⟨u, hu, by omega⟩), hda, haS⟩
theorem byStop_mem {l : List Ed} {i : Nat} {e : Ed} (h : e ∈ byStop l i) : e ∈ l ∧ e.1 = (i : Int) := by
  unfold byStop at h
  rw [List.mem_filter] at h
  exact ⟨h.1, by simpa using h.2⟩
/-- two cells of a box are written -/
theorem box2_set {t : TypeId} {v0 v1 u0 u1 : Value} (hk : w.heap[xb]? = some (.cells #[v0, v1] t (0, 0))) :
    w.frozen? ⟨xb, 0, none⟩ = false ∧ w.frozen? ⟨xb, 1, none⟩ = false ∧ w.cell? ⟨xb, 0, none⟩ = some v0 ∧ w.cell? ⟨xb, 1, none⟩ = some v1 ∧ But w ((w.setCell ⟨xb, 0, none⟩ u0).setCell ⟨xb, 1, none⟩ u1) [xb] ∧
    ((w.setCell ⟨xb, 0, none⟩ u0).setCell ⟨xb, 1, none⟩ u1).heap[xb]? = some (.cells #[u0, u1] t (0, 0)) := by
  have hlt := (Array.getElem?_eq_some_iff.1 hk).1
  have e : w.heap[xb] = .cells #[v0, v1] t (0, 0) := by rw [Array.getElem?_eq_getElem hlt] at hk; exact Option.some.inj hk
  refine ⟨by simp [World.frozen?, hk], by simp [World.frozen?, hk], by rw [cell_of_row _ _ _ _ _ _ hk]; rfl, by rw [cell_of_row _ _ _ _ _ _ hk]; rfl, (But.of_set _ _ _ (by simp)).trans (But.of_set _ _ _ (by simp)), ?_⟩
  simp [World.setCell, hlt, Array.getElem_modify, e]
/-- what holds at the head of the search's loop -/
def FromInv (w : World) (h sb fb ob n : Nat) (l : List Ed) (s : Nat) (c : Nat) (p b : Value) (wr : World) : Prop :=
  ∃ (xb : Nat) (d : List Int), p = .pointer (some ⟨xb, 0, none⟩) ∧ w.heap.size ≤ xb ∧ Below w.heap.size w wr ∧ xb ≠ sb ∧ xb ≠ fb ∧
  ((b = .bool true ∧ ∃ (m : Int) (a : Nat) (S : List It) (c0 : Nat), c = c0 + 1 ∧ wr.heap[xb]? = some (.cells #[.int .i64 m, .int .i64 a] 53 (0, 0)) ∧ SQ wr w.heap.size h [xb, sb, fb] sb fb ob n d S ∧ Dij n l s c0 d S m (byStop l a) ∧ d[a]? = some m ∧ (m, (a : Int)) ∉ S ∧ a < n) ∨
   (b = .bool false ∧ SQ wr w.heap.size h [xb, sb, fb] sb fb ob n d [] ∧ IsDist n l s d))
end
end Go.Proofs.Ytapfndjaimfcaaa
