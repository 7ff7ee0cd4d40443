/-
  Walk: the reference's Check (gen7.py).
-/
import Derived.Test.YtapfndjaimfcaaaKit13
namespace Go.Proofs.Ytapfndjaimfcaaa
open Go.RowKit Go.Shelf B K
set_option linter.unusedVariables false
set_option linter.unusedSimpArgs false
set_option maxHeartbeats 4000000
theorem chkE_bad {n : Int} {l : List Ed} {e : Ed} (h : l.length ≤ 4096) (he : e ∈ l) (ho : okE n e = false) : chkE n l = 2 := by
  unfold chkE
  rw [if_neg (by omega), if_pos (.inr (.inr (List.any_eq_true.2 ⟨e, he, by rw [ho]; rfl⟩)))]
set_option maxRecDepth 100000 in
theorem rchk_any (n : Int) (A : Option Addr) (m c : Nat) (l : List Ed) (w : World) (hr : Rd w 3 tripE A m l) (hm : m ≤ 1099511627776) :
    Calls Try.prog 28 #[.int .i64 n, .slice A m c] w fun e w' => e = .returned (.int .i64 (chkE n l)) ∧ Below w.heap.size w w' := by
  have hl := hr.len
  by_cases h1 : 4096 < m
  · have hv : chkE n l = 3 := by unfold chkE; rw [if_pos (by omega)]
    rw [hv]
    have hd1 : decide (4096 < (m : Int)) = true := decide_eq_true (by omega)
    clear hr hl hv
    go_enter Try.func28, Try.ntmps28
    go_wp2_with fail
    go_returns
    exact ⟨rfl, Below.refl _ _⟩
  have hd1 : decide (4096 < (m : Int)) = false := decide_eq_false (by omega)
  by_cases h2 : n < 0
  · have hv : chkE n l = 2 := by unfold chkE; rw [if_neg (by omega), if_pos (.inl h2)]
    rw [hv]
    have hd2 : decide (n < 0) = true := decide_eq_true h2
    clear hr hl hv
    go_enter Try.func28, Try.ntmps28
    go_wp2_with fail
    go_returns
    exact ⟨rfl, Below.refl _ _⟩
  have hd2 : decide (n < 0) = false := decide_eq_false h2
  by_cases h3 : 256 < n
  · have hv : chkE n l = 2 := by unfold chkE; rw [if_neg (by omega), if_pos (.inr (.inl h3))]
    rw [hv]
    have hd3 : decide (256 < n) = true := decide_eq_true h3
    clear hr hl hv
    go_enter Try.func28, Try.ntmps28
    go_wp2_with fail
    go_returns
    exact ⟨rfl, Below.refl _ _⟩
  have hd3 : decide (256 < n) = false := decide_eq_false h3
  obtain ⟨q, hq⟩ : ∃ q, chkE n l = q := ⟨_, rfl⟩
  rw [hq]
  have hqh := Lib.hid hq
  have hrh := Lib.hid hr
  have hlh := Lib.hid hl
  clear hq hr hl
  go_enter Try.func28, Try.ntmps28
  go_wp2_with fail
  go_loopw [5] (fun i wr => ∃ (k : Nat), k ≤ m ∧ i = .int .i64 k ∧ Below w.heap.size w wr ∧ Hid (∀ e ∈ l.take k, okE n e = true)) (fun i _ => m - (intOf i).toNat)
  case atStart => exact ⟨0, Nat.zero_le _, rfl, Below.refl _ _, fun e he => by simp at he⟩
  case round =>
    obtain ⟨k, hk, rfl, hb, hok⟩ := hrel
    by_cases hlt : k < m
    · obtain ⟨b, o, x1, x2, x3, rfl, hbs, hx, p1, p2, p3⟩ := (hrh.out.below hb).trip hlt
      have hbh := Lib.hid hb
      have hkm : (k : Int) < (m : Int) := by omega
      have hxh := Lib.hid hx
      have hokd : Hid (okE n (x1, x2, x3) = decide (0 ≤ x1 ∧ x1 < n ∧ 0 ≤ x2 ∧ x2 < n ∧ x1 ≠ x2 ∧ 1 ≤ x3 ∧ x3 ≤ 1099511627776)) := rfl
      clear hb hx
      by_cases g0 : x1 < 0
      · have d0 : decide (x1 < 0) = true := decide_eq_true g0
        have hq2 : q = 2 := by rw [← hqh.out]; exact chkE_bad (by have := hlh.out; omega) (List.mem_of_getElem? hxh.out) (by rw [hokd.out]; exact decide_eq_false (by omega))
        subst hq2
        clear g0 hok
        go_wp2_with fail
        go_upto_region 8 with fail
        refine wp_region_below wr.heap.size (by kernel_rfl) (by kernel_rfl) ?_
        intro C hC
        repeat (go_big_quiet_step (first
          | ((intro _; with_reducible rfl))
          | (intro hc; have m0 := (hc.cell (p := ⟨b, o + k * 3, none⟩) hbs).trans p1; have m1 := (hc.cell (p := ⟨b, o + k * 3 + 1, none⟩) hbs).trans p2; have m2 := (hc.cell (p := ⟨b, o + k * 3 + 2, none⟩) hbs).trans p3; simp only [m0, m1, m2, Result.andThen]; exact ⟨trivial, rfl⟩)))
        refine wpQuiet_nil ?_
        intro w9 hb9
        clear hC
        have hfin : Hid (Below w.heap.size w w9) := hbh.out.trans (hb9.mono hbh.out.size)
        clear hb9
        go_wp2_with fail
        go_returns
        exact ⟨rfl, hfin.out⟩
      have d0 : decide (x1 < 0) = false := decide_eq_false g0
      by_cases g1 : n ≤ x1
      · have d1 : decide (n ≤ x1) = true := decide_eq_true g1
        have hq2 : q = 2 := by rw [← hqh.out]; exact chkE_bad (by have := hlh.out; omega) (List.mem_of_getElem? hxh.out) (by rw [hokd.out]; exact decide_eq_false (by omega))
        subst hq2
        clear g0 g1 hok
        go_wp2_with fail
        go_upto_region 8 with fail
        refine wp_region_below wr.heap.size (by kernel_rfl) (by kernel_rfl) ?_
        intro C hC
        repeat (go_big_quiet_step (first
          | ((intro _; with_reducible rfl))
          | (intro hc; have m0 := (hc.cell (p := ⟨b, o + k * 3, none⟩) hbs).trans p1; have m1 := (hc.cell (p := ⟨b, o + k * 3 + 1, none⟩) hbs).trans p2; have m2 := (hc.cell (p := ⟨b, o + k * 3 + 2, none⟩) hbs).trans p3; simp only [m0, m1, m2, Result.andThen]; exact ⟨trivial, rfl⟩)))
        refine wpQuiet_nil ?_
        intro w9 hb9
        clear hC
        have hfin : Hid (Below w.heap.size w w9) := hbh.out.trans (hb9.mono hbh.out.size)
        clear hb9
        go_wp2_with fail
        go_returns
        exact ⟨rfl, hfin.out⟩
      have d1 : decide (n ≤ x1) = false := decide_eq_false g1
      by_cases g2 : x2 < 0
      · have d2 : decide (x2 < 0) = true := decide_eq_true g2
        have hq2 : q = 2 := by rw [← hqh.out]; exact chkE_bad (by have := hlh.out; omega) (List.mem_of_getElem? hxh.out) (by rw [hokd.out]; exact decide_eq_false (by omega))
        subst hq2
        clear g0 g1 g2 hok
        go_wp2_with fail
        go_upto_region 8 with fail
        refine wp_region_below wr.heap.size (by kernel_rfl) (by kernel_rfl) ?_
        intro C hC
        repeat (go_big_quiet_step (first
          | ((intro _; with_reducible rfl))
          | (intro hc; have m0 := (hc.cell (p := ⟨b, o + k * 3, none⟩) hbs).trans p1; have m1 := (hc.cell (p := ⟨b, o + k * 3 + 1, none⟩) hbs).trans p2; have m2 := (hc.cell (p := ⟨b, o + k * 3 + 2, none⟩) hbs).trans p3; simp only [m0, m1, m2, Result.andThen]; exact ⟨trivial, rfl⟩)))
        refine wpQuiet_nil ?_
        intro w9 hb9
        clear hC
        have hfin : Hid (Below w.heap.size w w9) := hbh.out.trans (hb9.mono hbh.out.size)
        clear hb9
        go_wp2_with fail
        go_returns
        exact ⟨rfl, hfin.out⟩
      have d2 : decide (x2 < 0) = false := decide_eq_false g2
      by_cases g3 : n ≤ x2
      · have d3 : decide (n ≤ x2) = true := decide_eq_true g3
        have hq2 : q = 2 := by rw [← hqh.out]; exact chkE_bad (by have := hlh.out; omega) (List.mem_of_getElem? hxh.out) (by rw [hokd.out]; exact decide_eq_false (by omega))
        subst hq2
        clear g0 g1 g2 g3 hok
        go_wp2_with fail
        go_upto_region 8 with fail
        refine wp_region_below wr.heap.size (by kernel_rfl) (by kernel_rfl) ?_
        intro C hC
        repeat (go_big_quiet_step (first
          | ((intro _; with_reducible rfl))
          | (intro hc; have m0 := (hc.cell (p := ⟨b, o + k * 3, none⟩) hbs).trans p1; have m1 := (hc.cell (p := ⟨b, o + k * 3 + 1, none⟩) hbs).trans p2; have m2 := (hc.cell (p := ⟨b, o + k * 3 + 2, none⟩) hbs).trans p3; simp only [m0, m1, m2, Result.andThen]; exact ⟨trivial, rfl⟩)))
        refine wpQuiet_nil ?_
        intro w9 hb9
        clear hC
        have hfin : Hid (Below w.heap.size w w9) := hbh.out.trans (hb9.mono hbh.out.size)
        clear hb9
        go_wp2_with fail
        go_returns
        exact ⟨rfl, hfin.out⟩
      have d3 : decide (n ≤ x2) = false := decide_eq_false g3
      by_cases g4 : x1 = x2
      · have d4 : (x1 == x2) = true := by simpa using g4
        have hq2 : q = 2 := by rw [← hqh.out]; exact chkE_bad (by have := hlh.out; omega) (List.mem_of_getElem? hxh.out) (by rw [hokd.out]; exact decide_eq_false (by omega))
        subst hq2
        clear g0 g1 g2 g3 g4 hok
        go_wp2_with fail
        go_upto_region 8 with fail
        refine wp_region_below wr.heap.size (by kernel_rfl) (by kernel_rfl) ?_
        intro C hC
        repeat (go_big_quiet_step (first
          | ((intro _; with_reducible rfl))
          | (intro hc; have m0 := (hc.cell (p := ⟨b, o + k * 3, none⟩) hbs).trans p1; have m1 := (hc.cell (p := ⟨b, o + k * 3 + 1, none⟩) hbs).trans p2; have m2 := (hc.cell (p := ⟨b, o + k * 3 + 2, none⟩) hbs).trans p3; simp only [m0, m1, m2, Result.andThen]; exact ⟨trivial, rfl⟩)))
        refine wpQuiet_nil ?_
        intro w9 hb9
        clear hC
        have hfin : Hid (Below w.heap.size w w9) := hbh.out.trans (hb9.mono hbh.out.size)
        clear hb9
        go_wp2_with fail
        go_returns
        exact ⟨rfl, hfin.out⟩
      have d4 : (x1 == x2) = false := by simpa using g4
      by_cases g5 : x3 < 1
      · have d5 : decide (x3 < 1) = true := decide_eq_true g5
        have hq2 : q = 2 := by rw [← hqh.out]; exact chkE_bad (by have := hlh.out; omega) (List.mem_of_getElem? hxh.out) (by rw [hokd.out]; exact decide_eq_false (by omega))
        subst hq2
        clear g0 g1 g2 g3 g4 g5 hok
        go_wp2_with fail
        go_upto_region 8 with fail
        refine wp_region_below wr.heap.size (by kernel_rfl) (by kernel_rfl) ?_
        intro C hC
        repeat (go_big_quiet_step (first
          | ((intro _; with_reducible rfl))
          | (intro hc; have m0 := (hc.cell (p := ⟨b, o + k * 3, none⟩) hbs).trans p1; have m1 := (hc.cell (p := ⟨b, o + k * 3 + 1, none⟩) hbs).trans p2; have m2 := (hc.cell (p := ⟨b, o + k * 3 + 2, none⟩) hbs).trans p3; simp only [m0, m1, m2, Result.andThen]; exact ⟨trivial, rfl⟩)))
        refine wpQuiet_nil ?_
        intro w9 hb9
        clear hC
        have hfin : Hid (Below w.heap.size w w9) := hbh.out.trans (hb9.mono hbh.out.size)
        clear hb9
        go_wp2_with fail
        go_returns
        exact ⟨rfl, hfin.out⟩
      have d5 : decide (x3 < 1) = false := decide_eq_false g5
      by_cases g6 : 1099511627776 < x3
      · have d6 : decide (1099511627776 < x3) = true := decide_eq_true g6
        have hq2 : q = 2 := by rw [← hqh.out]; exact chkE_bad (by have := hlh.out; omega) (List.mem_of_getElem? hxh.out) (by rw [hokd.out]; exact decide_eq_false (by omega))
        subst hq2
        clear g0 g1 g2 g3 g4 g5 g6 hok
        go_wp2_with fail
        go_upto_region 8 with fail
        refine wp_region_below wr.heap.size (by kernel_rfl) (by kernel_rfl) ?_
        intro C hC
        repeat (go_big_quiet_step (first
          | ((intro _; with_reducible rfl))
          | (intro hc; have m0 := (hc.cell (p := ⟨b, o + k * 3, none⟩) hbs).trans p1; have m1 := (hc.cell (p := ⟨b, o + k * 3 + 1, none⟩) hbs).trans p2; have m2 := (hc.cell (p := ⟨b, o + k * 3 + 2, none⟩) hbs).trans p3; simp only [m0, m1, m2, Result.andThen]; exact ⟨trivial, rfl⟩)))
        refine wpQuiet_nil ?_
        intro w9 hb9
        clear hC
        have hfin : Hid (Below w.heap.size w w9) := hbh.out.trans (hb9.mono hbh.out.size)
        clear hb9
        go_wp2_with fail
        go_returns
        exact ⟨rfl, hfin.out⟩
      have d6 : decide (1099511627776 < x3) = false := decide_eq_false g6
      have hnx : Hid (∀ e ∈ l.take (k + 1), okE n e = true) := fun e he => by
        rw [take_at hxh.out, List.mem_append] at he
        rcases he with he | he
        · exact hok.out e he
        · simp at he; subst he; rw [hokd.out]; exact decide_eq_true (by omega)
      clear g0 g1 g2 g3 g4 g5 g6 hok
      go_wp2_with fail
      go_upto_region 8 with fail
      refine wp_region_below wr.heap.size (by kernel_rfl) (by kernel_rfl) ?_
      intro C hC
      repeat (go_big_quiet_step (first
        | ((intro _; with_reducible rfl))
        | (intro hc; have m0 := (hc.cell (p := ⟨b, o + k * 3, none⟩) hbs).trans p1; have m1 := (hc.cell (p := ⟨b, o + k * 3 + 1, none⟩) hbs).trans p2; have m2 := (hc.cell (p := ⟨b, o + k * 3 + 2, none⟩) hbs).trans p3; simp only [m0, m1, m2, Result.andThen]; exact ⟨trivial, rfl⟩)))
      refine wpQuiet_nil ?_
      intro w9 hb9
      clear hC
      have hfin : Hid (Below w.heap.size w w9) := hbh.out.trans (hb9.mono hbh.out.size)
      clear hb9
      go_wp2_with fail
      go_roundw
      case rel => exact ⟨k + 1, by omega, by go_num, hfin.out, hnx⟩
      case measure => simp [intOf]; omega
    · have hbh := Lib.hid hb
      have hkm : decide ((k : Int) < (m : Int)) = false := decide_eq_false (by omega)
      have hq0 : q = 0 := by
        rw [← hqh.out]
        unfold chkE
        rw [if_neg (by have := hlh.out; omega), if_neg]
        rintro (h | h | h)
        · omega
        · omega
        · obtain ⟨e, he, hke⟩ := List.any_eq_true.1 h
          have h5 := hok.out
          rw [List.take_of_length_le (by rw [hlh.out]; omega)] at h5
          rw [h5 e he] at hke
          cases hke
      subst hq0
      clear hb hok
      go_wp2_with fail
      go_returns
      exact ⟨rfl, hbh.out⟩
end Go.Proofs.Ytapfndjaimfcaaa
