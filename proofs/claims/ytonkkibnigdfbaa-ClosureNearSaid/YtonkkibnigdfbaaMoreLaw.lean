/-
  Plain law: a link more; a row of ticks made and filled.
-/
import Derived.Test.YtonkkibnigdfbaaOwnN
namespace Go.Proofs.Ytonkkibnigdfbaa
open Go.RowKit Go.Shelf B K
set_option linter.unusedVariables false
set_option linter.unusedSimpArgs false
def addL (N : NetP) (l : Lk) : NetP := { N with ls := N.ls ++ [l] }
def newLk (a b : Nat) (long : Int) : Lk := ⟨a, b, long, false, 0, [], []⟩
section
variable {N : NetP} {l : Lk} {X D D' : List Int}
theorem addL_ok (hN : OkN N) (hl : okL N.cs.length l = true) (hm : N.ls.length + 1 ≤ 2304) : OkN (addL N l) := by
  refine ⟨hN.hz, hN.cn, ?_, fun x hx => ?_, hN.gd⟩
  · unfold addL; simp only [List.length_append, List.length_cons, List.length_nil]; exact hm
  · rcases List.mem_append.1 hx with hx | hx
    · exact hN.lk x hx
    · simp only [List.mem_singleton] at hx; subst hx; exact hl
theorem addL_small (hs : LightN N 40 40 40) (h1 : l.op.length ≤ 1000) (h2 : l.cl.length ≤ 1000) : Small (addL N l) := by
  refine ⟨by have := hs.cn; show N.cs.length ≤ _; omega, fun c hc => by have := hs.cw c hc; omega, ?_, fun x hx => ?_⟩
  · unfold addL; have := hs.ln; simp only [List.length_append, List.length_cons, List.length_nil]; omega
  · rcases List.mem_append.1 hx with hx | hx
    · have := hs.lw x hx; omega
    · simp only [List.mem_singleton] at hx; subst hx; exact ⟨h1, h2⟩
theorem newLk_ok {n a b : Nat} {long : Int} (ha : a < n) (hb : b < n) (hab : a ≠ b) (h1 : 1 ≤ long) (h2 : long ≤ 1099511627776) : okL n (newLk a b long) = true :=
  okL_iff.2 ⟨⟨by show (0 : Int) ≤ (a : Int); omega, by show (a : Int) < n; omega⟩, ⟨by show (0 : Int) ≤ (b : Int); omega, by show (b : Int) < n; omega⟩, by show (a : Int) ≠ (b : Int); omega, h1, h2, rfl, rfl, fun _ => rfl, fun _ => rfl⟩
theorem more_labs (h : LabsOk N X) : LabsOk (addL N l) X := ⟨h.1, h.2⟩
theorem more_le (hS : Spr N X D) (hS' : Spr (addL N l) X D') : ∀ s, lab D' s ≤ lab D s :=
  hS.gr D' ⟨hS'.ok.1, hS'.ok.2⟩ (fun x hx => hS'.cl x (List.mem_append_left _ hx)) hS'.le
theorem more_new {a b : Nat} {long : Int} (hN' : OkN (addL N (newLk a b long))) (hS' : Spr (addL N (newLk a b long)) X D') (hcl : N.cs[a]? = some []) (h1 : lab D' a ≠ W.inf) (h2 : lab D' a ≤ N.hz - long) : lab D' b ≤ lab D' a + long := by
  have hmem : newLk a b long ∈ (addL N (newLk a b long)).ls := List.mem_append_right _ (List.mem_singleton.2 rfl)
  have hok := hN'.lk _ hmem
  have h3 := hS'.cl _ hmem h1
  have h0 := (hS'.ok.fin (s := a) h1).1
  have hf : firstL (addL N (newLk a b long)) (newLk a b long) (lab D' a) = lab D' a := by
    refine first_at hN' hok h0 (Int.le_refl _) ((may_iff hN' hok h0).2 ⟨by show lab D' a + long ≤ N.hz; omega, ?_, fun h => (by cases h), fun _ i x y h => (by cases h)⟩) (fun z hz1 hz2 => by omega)
    show ¬ W.inRow ((N.cs[((a : Int)).toNat]?).getD []) _
    rw [show ((a : Int)).toNat = a from rfl, hcl]
    rintro ⟨i, x, y, h, _⟩
    cases h
  have ht : toL (addL N (newLk a b long)) (newLk a b long) (lab D' a) = lab D' a + long := by
    unfold toL
    rw [hf, if_neg h1]; rfl
  have h4 : lab D' b ≤ toL (addL N (newLk a b long)) (newLk a b long) (lab D' a) := h3
  rw [ht] at h4
  exact h4
end
theorem CsV.rnet2 {w : World} {base : Nat} {A B : Option Addr} {n c m d : Nat} {N : NetP} {cv : List RwV} {lv : List LkV} (hc : CsV w base (.slice A n c) N.cs cv) (hl : LsV w base (.slice B m d) N.ls lv) : RNet w N A n B m := by
  obtain ⟨A', c', B', d', eC, eL, h, _⟩ := hc.rnet hl
  cases eC; cases eL
  exact h
theorem OwnR.nil {w : World} {base : Nat} : OwnR w base (none, 0) [] := ⟨World.ownsRow_nil _ _ _ _, by simp, by simp⟩
/-- the first k filled -/
def fillK (n k : Nat) : List Int := List.replicate k W.inf ++ List.replicate (n - k) 0
theorem fillK_len {n k : Nat} (h : k ≤ n) : (fillK n k).length = n := by simp [fillK]; omega
theorem fillK_at {n k : Nat} (h : k < n) : (fillK n k)[k]? = some 0 := by
  unfold fillK
  rw [List.getElem?_append_right (by simp), List.length_replicate, Nat.sub_self, List.getElem?_replicate, if_pos (by omega)]
theorem fillK_set {n k : Nat} (h : k < n) : (fillK n k).set k W.inf = fillK n (k + 1) := by
  apply List.ext_getElem?
  intro i
  unfold fillK
  rw [List.getElem?_set]
  simp only [List.getElem?_append, List.length_append, List.length_replicate, List.getElem?_replicate]
  by_cases h1 : k = i
  · subst h1
    rw [if_pos rfl, if_pos (by omega), if_pos (by omega), if_pos (by omega)]
  · rw [if_neg h1]
    by_cases h2 : i < k
    · simp only [h2, show i < k + 1 by omega, if_true]
    · have h4 : ¬ i < k + 1 := by omega
      rw [if_neg h2, if_neg h4]
      by_cases h3 : i < n
      · rw [if_pos (by omega), if_pos (by omega)]
      · rw [if_neg (by omega), if_neg (by omega)]
theorem fillK_all (n : Nat) : fillK n n = List.replicate n W.inf := by simp [fillK]
theorem makeT (n : Nat) (w : World) (hn : n ≤ 1099511627) : (Instr.makeSlice 40 (.int .i64 (n : Int)) (.int .i64 (n : Int))).run Try.prog w = .ok (.slice (some ⟨w.heap.size, 0, none⟩) n n) (w.alloc (.cells (madeCells #[.int .i64 0] n) 2)) := by
  obtain ⟨i, hi, hz, hs, hb⟩ := info_parts (show (Try.prog.info? 2).map (fun i => (i.zero, i.size, i.bytes)) = some (some (.int .i64 0), 1, 8) by kernel_rfl)
  have := run_make w 40 2 i _ Try.underlying40 hi hz .i64 .i64 (n : Int) (n : Int) (by omega) (Int.le_refl _) (by rw [hb]; omega) (by omega)
  rw [hs] at this
  simpa [Value.cells] using this
theorem madeT_row (w : World) (n : Nat) : RowI (w.alloc (.cells (madeCells #[.int .i64 0] n) 2)) w.heap.size (some ⟨w.heap.size, 0, none⟩) n (List.replicate n 0) := by
  refine ⟨by simp, fun a ha => by cases ha; exact ⟨by simp, Nat.le_refl _⟩, fun _ => ⟨w.heap.size, _, rfl, heap_alloc_new w _, fun i x hx => ?_⟩⟩
  rw [List.getElem?_replicate] at hx
  split at hx
  · cases hx
    rename_i hi
    rw [← Array.getElem?_toList, toList_madeCells_one, List.getElem?_replicate, if_pos hi]
  · cases hx
end Go.Proofs.Ytonkkibnigdfbaa
