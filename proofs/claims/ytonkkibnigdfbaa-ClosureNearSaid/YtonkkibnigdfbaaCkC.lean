/-
  Texts of the walk chapter, merged (clo/merge.py).
-/
import Derived.Test.YtonkkibnigdfbaaCkB
namespace Go.Proofs.Ytonkkibnigdfbaa
open K
set_option linter.unusedVariables false
set_option linter.unusedSimpArgs false
theorem chk_of {n : Nat} {l : List Ed} (hl : EdsOk n l) (hm : l.length ≤ 4096) (hn : n ≤ 256) : chkE (n : Int) l = 0 := by
  unfold chkE
  rw [if_neg (by omega), if_neg]
  rintro (h | h | h)
  · omega
  · omega
  · obtain ⟨e, he, hk⟩ := List.any_eq_true.1 h
    have : okE (n : Int) e = true := okE_iff.2 (hl e he)
    rw [this] at hk
    cases hk
def rank (d : List Int) (v : Int) : Nat := d.countP fun u => decide (u < v)
theorem rank_mono {d : List Int} {u v : Int} (h : u ≤ v) : rank d u ≤ rank d v := List.countP_mono_left fun x _ hx => by
  simp only [decide_eq_true_eq] at hx ⊢
  omega
theorem rank_lt {u v : Int} (h : u < v) : ∀ {d : List Int}, u ∈ d → rank d u < rank d v
  | [], hu => by cases hu
  | y :: r, hu => by
    unfold rank
    rw [List.countP_cons, List.countP_cons]
    have hm : r.countP (fun x => decide (x < u)) ≤ r.countP (fun x => decide (x < v)) := rank_mono (d := r) (by omega)
    rcases List.mem_cons.1 hu with rfl | hu
    · rw [if_neg (by simp), if_pos (by simpa using h)]
      omega
    · have ih : r.countP (fun x => decide (x < u)) < r.countP (fun x => decide (x < v)) := rank_lt h hu
      by_cases h1 : y < u
      · rw [if_pos (by simpa using h1), if_pos (by simp; omega)]
        omega
      · rw [if_neg (by simpa using h1)]
        split <;> omega
theorem rank_len {d : List Int} {v : Int} (h : v ∈ d) : rank d v < d.length :=
  Nat.lt_of_lt_of_le (rank_lt (show v < v + 1 by omega) h) List.countP_le_length
section
variable {n s : Nat} {l : List Ed} {d : List Int} {k : Int}
theorem IsDist.get (h : IsDist n l s d) {i : Nat} (hi : i < n) : ∃ v, d[i]? = some v := ⟨d[i]'(by rw [h.len]; exact hi), List.getElem?_eq_getElem _⟩
end
end Go.Proofs.Ytonkkibnigdfbaa
namespace Go.Proofs.Ytonkkibnigdfbaa
open K
set_option linter.unusedVariables false
set_option linter.unusedSimpArgs false
structure BF (n : Nat) (l : List Ed) (s : Nat) (D : List Int) (r j : Nat) (d : List Int) : Prop where
  len : d.length = n
  s0 : d[s]? = some 0
  rng : ∀ (i : Nat) (v : Int), d[i]? = some v → v = 4611686018427387904 ∨ (0 ≤ v ∧ v ≤ 1099511627776)
  low : ∀ (i : Nat) (v w : Int), d[i]? = some v → D[i]? = some w → w ≤ v
  ex : ∀ (i : Nat) (w : Int), D[i]? = some w → w ≤ 1099511627776 → rank D w ≤ r → d[i]? = some w
  nx : ∀ e ∈ l.take j, ∀ (i p : Nat) (w u : Int), e.2.1 = (i : Int) → e.1 = (p : Int) → D[i]? = some w → D[p]? = some u → w ≤ 1099511627776 → rank D w ≤ r + 1 → u + e.2.2 = w → d[i]? = some w
section
variable {n s r j : Nat} {l : List Ed} {D d : List Int}
theorem BF.start (h : IsDist n l s D) (hl : EdsOk n l) (hs : s < n) : BF n l s D 0 0 ((List.replicate n (4611686018427387904 : Int)).set s 0) := by
  have hget : ∀ (i : Nat) (v : Int), ((List.replicate n (4611686018427387904 : Int)).set s 0)[i]? = some v → (i = s ∧ v = 0) ∨ (i ≠ s ∧ v = 4611686018427387904) := fun i v hv => by
    rw [List.getElem?_set] at hv
    by_cases hi : s = i
    · rw [if_pos hi] at hv
      split at hv
      · exact .inl ⟨hi.symm, (Option.some.inj hv).symm⟩
      · cases hv
    · rw [if_neg hi, List.getElem?_replicate] at hv
      split at hv
      · exact .inr ⟨fun e => hi e.symm, (Option.some.inj hv).symm⟩
      · cases hv
  have h0 : ((List.replicate n (4611686018427387904 : Int)).set s 0)[s]? = some 0 := by rw [List.getElem?_set, if_pos rfl, if_pos (by simpa using hs)]
  refine ⟨by simp, h0, fun i v hv => ?_, fun i v w hv hw => ?_, fun i w hw hwt hr => ?_, fun e he => by simp at he⟩
  · rcases hget i v hv with ⟨_, rfl⟩ | ⟨_, rfl⟩
    · exact .inr ⟨by decide, by decide⟩
    · exact .inl rfl
  · rcases hget i v hv with ⟨rfl, rfl⟩ | ⟨_, rfl⟩
    · rw [h.s0] at hw; cases hw; exact Int.le_refl _
    · rcases h.rng i w hw with h1 | h1 <;> omega
  · by_cases hi : i = s
    · subst hi
      rw [h.s0] at hw; cases hw; exact h0
    · exfalso
      obtain ⟨e, he, e2, p, u, e1, hp, hsum⟩ := h.sup i w hi hw hwt
      have hlo := (hl e he).2.2.2.2.2.1
      have := rank_lt (show u < w by omega) (List.mem_of_getElem? hp)
      omega
variable {e : Ed} {a b : Nat} {x y : Int}
theorem BF.skip (h : BF n l s D r j d) (hl : EdsOk n l) (hD : IsDist n l s D) (he : l[j]? = some e) (ea : e.1 = (a : Int)) (eb : e.2.1 = (b : Int)) (hx : d[a]? = some x) (hy : d[b]? = some y) (hno : 1099511627776 - e.2.2 < x ∨ y ≤ x + e.2.2) : BF n l s D r (j + 1) d := by
  refine ⟨h.len, h.s0, h.rng, h.low, h.ex, fun f hf i p w u hi hp hw hu hwt hr hs => ?_⟩
  rw [B.take_at he, List.mem_append] at hf
  rcases hf with hf | hf
  · exact h.nx f hf i p w u hi hp hw hu hwt hr hs
  · simp only [List.mem_singleton] at hf
    subst hf
    have hlo := (hl f (List.mem_of_getElem? he)).2.2.2.2.2.1
    obtain rfl : a = p := by omega
    obtain rfl : b = i := by omega
    have hru := hD.rng a u hu
    have hrk := rank_lt (show u < w by omega) (List.mem_of_getElem? hu)
    have h1 := h.ex a u hu (by omega) (by omega)
    rw [hx] at h1
    obtain rfl := Option.some.inj h1
    have h2 := h.low b y w hy hw
    obtain rfl : y = w := by omega
    exact hy
theorem BF.turn (h : BF n l s D r j d) (hl : EdsOk n l) (hD : IsDist n l s D) (he : l[j]? = some e) (ea : e.1 = (a : Int)) (eb : e.2.1 = (b : Int)) (hx : d[a]? = some x) (hy : d[b]? = some y) (h1 : x ≤ 1099511627776 - e.2.2) (h2 : x + e.2.2 < y) : BF n l s D r (j + 1) (d.set b (x + e.2.2)) := by
  have hb := hl e (List.mem_of_getElem? he)
  have hrx := h.rng a x hx
  have hbn : b < d.length := (List.getElem?_eq_some_iff.1 hy).1
  have hbs : b ≠ s := fun e => by
    subst e
    rw [h.s0] at hy; cases hy; omega
  have hget : ∀ (i : Nat) (v : Int), (d.set b (x + e.2.2))[i]? = some v → (i = b ∧ v = x + e.2.2) ∨ (i ≠ b ∧ d[i]? = some v) := fun i v hv => by
    rw [List.getElem?_set] at hv
    by_cases hi : b = i
    · rw [if_pos hi, if_pos hbn] at hv
      exact .inl ⟨hi.symm, (Option.some.inj hv).symm⟩
    · rw [if_neg hi] at hv
      exact .inr ⟨fun e => hi e.symm, hv⟩
  -- what lies below it
  have hlowx : ∀ w, D[b]? = some w → w ≤ x + e.2.2 := fun w hw => by
    obtain ⟨u, hu⟩ := hD.get (i := a) (by omega)
    have := h.low a x u hx hu
    have hr := hD.rel e (List.mem_of_getElem? he) a b u w ea eb hu hw (by omega)
    omega
  have hkeep : ∀ (i : Nat) (w : Int), D[i]? = some w → d[i]? = some w → (d.set b (x + e.2.2))[i]? = some w := fun i w hw hd => by
    by_cases hi : i = b
    · subst hi
      rw [hy] at hd
      cases hd
      have := hlowx y hw
      omega
    · rw [List.getElem?_set, if_neg (fun e => hi e.symm)]; exact hd
  refine ⟨by rw [List.length_set]; exact h.len, by rw [List.getElem?_set, if_neg hbs]; exact h.s0, fun i v hv => ?_, fun i v w hv hw => ?_, fun i w hw hwt hr => hkeep i w hw (h.ex i w hw hwt hr), fun f hf i p w u hi hp hw hu hwt hr hs => ?_⟩
  · rcases hget i v hv with ⟨_, rfl⟩ | ⟨_, hv⟩
    · exact .inr ⟨by omega, by omega⟩
    · exact h.rng i v hv
  · rcases hget i v hv with ⟨rfl, rfl⟩ | ⟨_, hv⟩
    · exact hlowx w hw
    · exact h.low i v w hv hw
  · rw [B.take_at he, List.mem_append] at hf
    rcases hf with hf | hf
    · exact hkeep i w hw (h.nx f hf i p w u hi hp hw hu hwt hr hs)
    · simp only [List.mem_singleton] at hf
      subst hf
      obtain rfl : a = p := by omega
      obtain rfl : b = i := by omega
      have hru := hD.rng a u hu
      have hrk := rank_lt (show u < w by omega) (List.mem_of_getElem? hu)
      have h3 := h.ex a u hu (by omega) (by omega)
      rw [hx] at h3
      obtain rfl := Option.some.inj h3
      rw [List.getElem?_set, if_pos rfl, if_pos hbn, hs]
theorem BF.roll (h : BF n l s D r l.length d) (hl : EdsOk n l) (hD : IsDist n l s D) : BF n l s D (r + 1) 0 d := by
  refine ⟨h.len, h.s0, h.rng, h.low, fun i w hw hwt hr => ?_, fun e he => by simp at he⟩
  by_cases hi : i = s
  · subst hi
    rw [hD.s0] at hw; cases hw; exact h.s0
  · obtain ⟨e, he, e2, p, u, e1, hp, hsum⟩ := hD.sup i w hi hw hwt
    exact h.nx e (by rw [List.take_length]; exact he) i p w u e2 e1 hw hp hwt hr hsum
theorem BF.fin (h : BF n l s D n 0 d) (hD : IsDist n l s D) : d = D := by
  refine List.ext_getElem? fun i => ?_
  by_cases hi : i < n
  · obtain ⟨w, hw⟩ := hD.get hi
    obtain ⟨v, hv⟩ : ∃ v, d[i]? = some v := ⟨d[i]'(by rw [h.len]; exact hi), List.getElem?_eq_getElem _⟩
    rcases hD.rng i w hw with rfl | h1
    · have h2 := h.low i v _ hv hw
      have h3 := h.rng i v hv
      rw [hv, hw]
      congr 1
      omega
    · have h2 := rank_len (List.mem_of_getElem? hw)
      rw [hD.len] at h2
      rw [hw]
      exact h.ex i w hw h1.2 (by omega)
  · rw [List.getElem?_eq_none (by rw [h.len]; omega), List.getElem?_eq_none (by rw [hD.len]; omega)]
end
end Go.Proofs.Ytonkkibnigdfbaa
namespace Go.Proofs.Ytonkkibnigdfbaa
open Go.RowKit Go.Shelf B K
set_option linter.unusedVariables false
set_option linter.unusedSimpArgs false
set_option maxHeartbeats 4000000
theorem chkE_bad {n : Int} {l : List Ed} {e : Ed} (h : l.length ≤ 4096) (he : e ∈ l) (ho : okE n e = false) : chkE n l = 2 := by
  unfold chkE
  rw [if_neg (by omega), if_pos (.inr (.inr (List.any_eq_true.2 ⟨e, he, by rw [ho]; rfl⟩)))]
set_option maxRecDepth 100000 in
theorem rchk_any (n : Int) (A : Option Addr) (m c : Nat) (l : List Ed) (w : World) (hr : Rd w 3 tripE A m l) (hm : m ≤ 1099511627776) :
    Calls Try.prog 71 #[.int .i64 n, .slice A m c] w fun e w' => e = .returned (.int .i64 (chkE n l)) ∧ Below w.heap.size w w' := by
  have hl := hr.len
  by_cases h1 : 4096 < m
  · have hv : chkE n l = 3 := by unfold chkE; rw [if_pos (by omega)]
    rw [hv]
    have hd1 : decide (4096 < (m : Int)) = true := decide_eq_true (by omega)
    clear hr hl hv
    go_enter Try.func71, Try.ntmps71
    go_wp2_with fail
    go_returns
    exact ⟨rfl, Below.refl _ _⟩
  have hd1 : decide (4096 < (m : Int)) = false := decide_eq_false (by omega)
  by_cases h2 : n < 0
  · have hv : chkE n l = 2 := by unfold chkE; rw [if_neg (by omega), if_pos (.inl h2)]
    rw [hv]
    have hd2 : decide (n < 0) = true := decide_eq_true h2
    clear hr hl hv
    go_enter Try.func71, Try.ntmps71
    go_wp2_with fail
    go_returns
    exact ⟨rfl, Below.refl _ _⟩
  have hd2 : decide (n < 0) = false := decide_eq_false h2
  by_cases h3 : 256 < n
  · have hv : chkE n l = 2 := by unfold chkE; rw [if_neg (by omega), if_pos (.inr (.inl h3))]
    rw [hv]
    have hd3 : decide (256 < n) = true := decide_eq_true h3
    clear hr hl hv
    go_enter Try.func71, Try.ntmps71
    go_wp2_with fail
    go_returns
    exact ⟨rfl, Below.refl _ _⟩
  have hd3 : decide (256 < n) = false := decide_eq_false h3
  obtain ⟨q, hq⟩ : ∃ q, chkE n l = q := ⟨_, rfl⟩
  rw [hq]
  have hqh := Lib.hid hq
  have hrh := Lib.hid hr
  have hlh := Lib.hid hl
  clear hq hr hl
  go_enter Try.func71, Try.ntmps71
  go_wp2_with fail
  go_loopw [5] (fun i wr => ∃ (k : Nat), k ≤ m ∧ i = .int .i64 k ∧ Below w.heap.size w wr ∧ Hid (∀ e ∈ l.take k, okE n e = true)) (fun i _ => m - (intOf i).toNat)
  case atStart => exact ⟨0, Nat.zero_le _, rfl, Below.refl _ _, fun e he => by simp at he⟩
  case round =>
    obtain ⟨k, hk, rfl, hb, hok⟩ := hrel
    by_cases hlt : k < m
    · obtain ⟨b, o, x1, x2, x3, rfl, hbs, hx, p1, p2, p3⟩ := (hrh.out.below hb).trip hlt
      have hbh := Lib.hid hb
      have hkm : (k : Int) < (m : Int) := by omega
      have hxh := Lib.hid hx
      have hokd : Hid (okE n (x1, x2, x3) = decide (0 ≤ x1 ∧ x1 < n ∧ 0 ≤ x2 ∧ x2 < n ∧ x1 ≠ x2 ∧ 1 ≤ x3 ∧ x3 ≤ 1099511627776)) := rfl
      clear hb hx
      by_cases g0 : x1 < 0
      · have d0 : decide (x1 < 0) = true := decide_eq_true g0
        have hq2 : q = 2 := by rw [← hqh.out]; exact chkE_bad (by have := hlh.out; omega) (List.mem_of_getElem? hxh.out) (by rw [hokd.out]; exact decide_eq_false (by omega))
        subst hq2
        clear g0 hok
        go_wp2_with fail
        go_upto_region 8 with fail
        refine wp_region_below wr.heap.size (by kernel_rfl) (by kernel_rfl) ?_
        intro C hC
        repeat (go_big_quiet_step (first
          | ((intro _; with_reducible rfl))
          | (intro hc; have m0 := (hc.cell (p := ⟨b, o + k * 3, none⟩) hbs).trans p1; have m1 := (hc.cell (p := ⟨b, o + k * 3 + 1, none⟩) hbs).trans p2; have m2 := (hc.cell (p := ⟨b, o + k * 3 + 2, none⟩) hbs).trans p3; simp only [m0, m1, m2, Result.andThen]; exact ⟨trivial, rfl⟩)))
        refine wpQuiet_nil ?_
        intro w9 hb9
        clear hC
        have hfin : Hid (Below w.heap.size w w9) := hbh.out.trans (hb9.mono hbh.out.size)
        clear hb9
        go_wp2_with fail
        go_returns
        exact ⟨rfl, hfin.out⟩
      have d0 : decide (x1 < 0) = false := decide_eq_false g0
      by_cases g1 : n ≤ x1
      · have d1 : decide (n ≤ x1) = true := decide_eq_true g1
        have hq2 : q = 2 := by rw [← hqh.out]; exact chkE_bad (by have := hlh.out; omega) (List.mem_of_getElem? hxh.out) (by rw [hokd.out]; exact decide_eq_false (by omega))
        subst hq2
        clear g0 g1 hok
        go_wp2_with fail
        go_upto_region 8 with fail
        refine wp_region_below wr.heap.size (by kernel_rfl) (by kernel_rfl) ?_
        intro C hC
        repeat (go_big_quiet_step (first
          | ((intro _; with_reducible rfl))
          | (intro hc; have m0 := (hc.cell (p := ⟨b, o + k * 3, none⟩) hbs).trans p1; have m1 := (hc.cell (p := ⟨b, o + k * 3 + 1, none⟩) hbs).trans p2; have m2 := (hc.cell (p := ⟨b, o + k * 3 + 2, none⟩) hbs).trans p3; simp only [m0, m1, m2, Result.andThen]; exact ⟨trivial, rfl⟩)))
        refine wpQuiet_nil ?_
        intro w9 hb9
        clear hC
        have hfin : Hid (Below w.heap.size w w9) := hbh.out.trans (hb9.mono hbh.out.size)
        clear hb9
        go_wp2_with fail
        go_returns
        exact ⟨rfl, hfin.out⟩
      have d1 : decide (n ≤ x1) = false := decide_eq_false g1
      by_cases g2 : x2 < 0
      · have d2 : decide (x2 < 0) = true := decide_eq_true g2
        have hq2 : q = 2 := by rw [← hqh.out]; exact chkE_bad (by have := hlh.out; omega) (List.mem_of_getElem? hxh.out) (by rw [hokd.out]; exact decide_eq_false (by omega))
        subst hq2
        clear g0 g1 g2 hok
        go_wp2_with fail
        go_upto_region 8 with fail
        refine wp_region_below wr.heap.size (by kernel_rfl) (by kernel_rfl) ?_
        intro C hC
        repeat (go_big_quiet_step (first
          | ((intro _; with_reducible rfl))
          | (intro hc; have m0 := (hc.cell (p := ⟨b, o + k * 3, none⟩) hbs).trans p1; have m1 := (hc.cell (p := ⟨b, o + k * 3 + 1, none⟩) hbs).trans p2; have m2 := (hc.cell (p := ⟨b, o + k * 3 + 2, none⟩) hbs).trans p3; simp only [m0, m1, m2, Result.andThen]; exact ⟨trivial, rfl⟩)))
        refine wpQuiet_nil ?_
        intro w9 hb9
        clear hC
        have hfin : Hid (Below w.heap.size w w9) := hbh.out.trans (hb9.mono hbh.out.size)
        clear hb9
        go_wp2_with fail
        go_returns
        exact ⟨rfl, hfin.out⟩
      have d2 : decide (x2 < 0) = false := decide_eq_false g2
      by_cases g3 : n ≤ x2
      · have d3 : decide (n ≤ x2) = true := decide_eq_true g3
        have hq2 : q = 2 := by rw [← hqh.out]; exact chkE_bad (by have := hlh.out; omega) (List.mem_of_getElem? hxh.out) (by rw [hokd.out]; exact decide_eq_false (by omega))
        subst hq2
        clear g0 g1 g2 g3 hok
        go_wp2_with fail
        go_upto_region 8 with fail
        refine wp_region_below wr.heap.size (by kernel_rfl) (by kernel_rfl) ?_
        intro C hC
        repeat (go_big_quiet_step (first
          | ((intro _; with_reducible rfl))
          | (intro hc; have m0 := (hc.cell (p := ⟨b, o + k * 3, none⟩) hbs).trans p1; have m1 := (hc.cell (p := ⟨b, o + k * 3 + 1, none⟩) hbs).trans p2; have m2 := (hc.cell (p := ⟨b, o + k * 3 + 2, none⟩) hbs).trans p3; simp only [m0, m1, m2, Result.andThen]; exact ⟨trivial, rfl⟩)))
        refine wpQuiet_nil ?_
        intro w9 hb9
        clear hC
        have hfin : Hid (Below w.heap.size w w9) := hbh.out.trans (hb9.mono hbh.out.size)
        clear hb9
        go_wp2_with fail
        go_returns
        exact ⟨rfl, hfin.out⟩
      have d3 : decide (n ≤ x2) = false := decide_eq_false g3
      by_cases g4 : x1 = x2
      · have d4 : (x1 == x2) = true := by simpa using g4
        have hq2 : q = 2 := by rw [← hqh.out]; exact chkE_bad (by have := hlh.out; omega) (List.mem_of_getElem? hxh.out) (by rw [hokd.out]; exact decide_eq_false (by omega))
        subst hq2
        clear g0 g1 g2 g3 g4 hok
        go_wp2_with fail
        go_upto_region 8 with fail
        refine wp_region_below wr.heap.size (by kernel_rfl) (by kernel_rfl) ?_
        intro C hC
        repeat (go_big_quiet_step (first
          | ((intro _; with_reducible rfl))
          | (intro hc; have m0 := (hc.cell (p := ⟨b, o + k * 3, none⟩) hbs).trans p1; have m1 := (hc.cell (p := ⟨b, o + k * 3 + 1, none⟩) hbs).trans p2; have m2 := (hc.cell (p := ⟨b, o + k * 3 + 2, none⟩) hbs).trans p3; simp only [m0, m1, m2, Result.andThen]; exact ⟨trivial, rfl⟩)))
        refine wpQuiet_nil ?_
        intro w9 hb9
        clear hC
        have hfin : Hid (Below w.heap.size w w9) := hbh.out.trans (hb9.mono hbh.out.size)
        clear hb9
        go_wp2_with fail
        go_returns
        exact ⟨rfl, hfin.out⟩
      have d4 : (x1 == x2) = false := by simpa using g4
      by_cases g5 : x3 < 1
      · have d5 : decide (x3 < 1) = true := decide_eq_true g5
        have hq2 : q = 2 := by rw [← hqh.out]; exact chkE_bad (by have := hlh.out; omega) (List.mem_of_getElem? hxh.out) (by rw [hokd.out]; exact decide_eq_false (by omega))
        subst hq2
        clear g0 g1 g2 g3 g4 g5 hok
        go_wp2_with fail
        go_upto_region 8 with fail
        refine wp_region_below wr.heap.size (by kernel_rfl) (by kernel_rfl) ?_
        intro C hC
        repeat (go_big_quiet_step (first
          | ((intro _; with_reducible rfl))
          | (intro hc; have m0 := (hc.cell (p := ⟨b, o + k * 3, none⟩) hbs).trans p1; have m1 := (hc.cell (p := ⟨b, o + k * 3 + 1, none⟩) hbs).trans p2; have m2 := (hc.cell (p := ⟨b, o + k * 3 + 2, none⟩) hbs).trans p3; simp only [m0, m1, m2, Result.andThen]; exact ⟨trivial, rfl⟩)))
        refine wpQuiet_nil ?_
        intro w9 hb9
        clear hC
        have hfin : Hid (Below w.heap.size w w9) := hbh.out.trans (hb9.mono hbh.out.size)
        clear hb9
        go_wp2_with fail
        go_returns
        exact ⟨rfl, hfin.out⟩
      have d5 : decide (x3 < 1) = false := decide_eq_false g5
      by_cases g6 : 1099511627776 < x3
      · have d6 : decide (1099511627776 < x3) = true := decide_eq_true g6
        have hq2 : q = 2 := by rw [← hqh.out]; exact chkE_bad (by have := hlh.out; omega) (List.mem_of_getElem? hxh.out) (by rw [hokd.out]; exact decide_eq_false (by omega))
        subst hq2
        clear g0 g1 g2 g3 g4 g5 g6 hok
        go_wp2_with fail
        go_upto_region 8 with fail
        refine wp_region_below wr.heap.size (by kernel_rfl) (by kernel_rfl) ?_
        intro C hC
        repeat (go_big_quiet_step (first
          | ((intro _; with_reducible rfl))
          | (intro hc; have m0 := (hc.cell (p := ⟨b, o + k * 3, none⟩) hbs).trans p1; have m1 := (hc.cell (p := ⟨b, o + k * 3 + 1, none⟩) hbs).trans p2; have m2 := (hc.cell (p := ⟨b, o + k * 3 + 2, none⟩) hbs).trans p3; simp only [m0, m1, m2, Result.andThen]; exact ⟨trivial, rfl⟩)))
        refine wpQuiet_nil ?_
        intro w9 hb9
        clear hC
        have hfin : Hid (Below w.heap.size w w9) := hbh.out.trans (hb9.mono hbh.out.size)
        clear hb9
        go_wp2_with fail
        go_returns
        exact ⟨rfl, hfin.out⟩
      have d6 : decide (1099511627776 < x3) = false := decide_eq_false g6
      have hnx : Hid (∀ e ∈ l.take (k + 1), okE n e = true) := fun e he => by
        rw [take_at hxh.out, List.mem_append] at he
        rcases he with he | he
        · exact hok.out e he
        · simp at he; subst he; rw [hokd.out]; exact decide_eq_true (by omega)
      clear g0 g1 g2 g3 g4 g5 g6 hok
      go_wp2_with fail
      go_upto_region 8 with fail
      refine wp_region_below wr.heap.size (by kernel_rfl) (by kernel_rfl) ?_
      intro C hC
      repeat (go_big_quiet_step (first
        | ((intro _; with_reducible rfl))
        | (intro hc; have m0 := (hc.cell (p := ⟨b, o + k * 3, none⟩) hbs).trans p1; have m1 := (hc.cell (p := ⟨b, o + k * 3 + 1, none⟩) hbs).trans p2; have m2 := (hc.cell (p := ⟨b, o + k * 3 + 2, none⟩) hbs).trans p3; simp only [m0, m1, m2, Result.andThen]; exact ⟨trivial, rfl⟩)))
      refine wpQuiet_nil ?_
      intro w9 hb9
      clear hC
      have hfin : Hid (Below w.heap.size w w9) := hbh.out.trans (hb9.mono hbh.out.size)
      clear hb9
      go_wp2_with fail
      go_roundw
      case rel => exact ⟨k + 1, by omega, by go_num, hfin.out, hnx⟩
      case measure => simp [intOf]; omega
    · have hbh := Lib.hid hb
      have hkm : decide ((k : Int) < (m : Int)) = false := decide_eq_false (by omega)
      have hq0 : q = 0 := by
        rw [← hqh.out]
        unfold chkE
        rw [if_neg (by have := hlh.out; omega), if_neg]
        rintro (h | h | h)
        · omega
        · omega
        · obtain ⟨e, he, hke⟩ := List.any_eq_true.1 h
          have h5 := hok.out
          rw [List.take_of_length_le (by rw [hlh.out]; omega)] at h5
          rw [h5 e he] at hke
          cases hke
      subst hq0
      clear hb hok
      go_wp2_with fail
      go_returns
      exact ⟨rfl, hbh.out⟩
end Go.Proofs.Ytonkkibnigdfbaa
namespace Go.Proofs.Ytonkkibnigdfbaa
open Go.RowKit Go.Shelf B K
set_option linter.unusedVariables false
set_option linter.unusedSimpArgs false
set_option maxHeartbeats 4000000
def ivs (l : List Int) : Array Value := (l.map (Value.int .i64)).toArray
theorem ivs_set (l : List Int) (i : Nat) (b : Int) : (ivs l).setIfInBounds i (.int .i64 b) = ivs (l.set i b) := by
  unfold ivs
  rw [List.map_set]
  simp
theorem cell_put {w : World} {b i : Nat} {cs : Array Value} {t : TypeId} {v : Value} (h : w.heap[b]? = some (.cells cs t (0, 0))) : (w.setCell ⟨b, i, none⟩ v).heap[b]? = some (.cells (cs.setIfInBounds i v) t (0, 0)) := by
  have hlt := (Array.getElem?_eq_some_iff.1 h).1
  have e : w.heap[b] = .cells cs t (0, 0) := by rw [Array.getElem?_eq_getElem hlt] at h; exact Option.some.inj h
  simp [World.setCell, hlt, Array.getElem_modify, e]
theorem ivs_cell {w : World} {b i : Nat} {l : List Int} {v : Int} (h : w.heap[b]? = some (.cells (ivs l) 2 (0, 0))) (hv : l[i]? = some v) : w.cell? ⟨b, i, none⟩ = some (.int .i64 v) := by
  rw [cell_of_row _ _ _ _ _ _ h]; simp [ivs, hv]
theorem ivs_free {w : World} {b i : Nat} {l : List Int} (h : w.heap[b]? = some (.cells (ivs l) 2 (0, 0))) : w.frozen? ⟨b, i, none⟩ = false := by simp [World.frozen?, h]
theorem make_i64s (n : Nat) (hn : n ≤ 4096) (W : World) : (Instr.makeSlice 40 (.int .i64 (n : Int)) (.int .i64 (n : Int))).run Try.prog W = .ok (.slice (some ⟨W.heap.size, 0, none⟩) n n) (W.alloc (.cells (ivs (List.replicate n 0)) 2)) := by
  obtain ⟨i, hi, hz, hs, hb⟩ := info_parts (show (Try.prog.info? 2).map (fun i => (i.zero, i.size, i.bytes)) = some (some (.int .i64 0), 1, 8) by kernel_rfl)
  have := run_make W 40 2 i _ Try.underlying40 hi hz .i64 .i64 (n : Int) (n : Int) (by omega) (Int.le_refl _) (by rw [hb]; omega) (by omega)
  rw [hs] at this
  have e : ivs (List.replicate n 0) = madeCells #[.int .i64 0] n := by
    unfold ivs
    rw [List.map_replicate, ← toList_madeCells_one]
  rw [e]
  simpa [Value.cells] using this
def filL (n k : Nat) (v : Int) : List Int := List.replicate k v ++ List.replicate (n - k) 0
theorem filL_at {n k : Nat} {v : Int} (h : k < n) : (filL n k v)[k]? = some 0 := by
  unfold filL
  rw [List.getElem?_append_right (by simp), List.getElem?_replicate, if_pos (by simp only [List.length_replicate]; omega)]
theorem filL_set {n k : Nat} {v : Int} (h : k < n) : (filL n k v).set k v = filL n (k + 1) v := by
  unfold filL
  rw [List.set_append_right _ _ (by simp)]
  obtain ⟨q, hq⟩ : ∃ q, n - k = q + 1 := ⟨n - k - 1, by omega⟩
  have hq2 : n - (k + 1) = q := by omega
  rw [hq, hq2, List.length_replicate, Nat.sub_self, List.replicate_succ, List.set_cons_zero, List.replicate_succ' (n := k), List.append_assoc]
  rfl
set_option maxRecDepth 100000 in
theorem rfrom_any (N s : Nat) (A : Option Addr) (m c : Nat) (l : List Ed) (D : List Int) (w : World) (hr : Rd w 3 tripE A m l) (hm : m ≤ 4096) (hE : EdsOk N l) (hs : s < N) (hN : N ≤ 256) (hD : IsDist N l s D) :
    Calls Try.prog 72 #[.int .i64 N, .slice A m c, .int .i64 s] w fun e w' => ∃ fb, e = .returned (.slice (some ⟨fb, 0, none⟩) N N) ∧ w.heap.size ≤ fb ∧ w'.heap[fb]? = some (.cells (ivs D) 2 (0, 0)) ∧ Below w.heap.size w w' := by
  have hmk := make_i64s N (by omega) w
  have ha := (Below.refl _ w).alloc (Nat.le_refl w.heap.size) (.cells (ivs (List.replicate N 0)) 2)
  have hn := heap_alloc_new w (.cells (ivs (List.replicate N 0)) 2)
  obtain ⟨fb, hfb⟩ : ∃ q, w.heap.size = q := ⟨_, rfl⟩
  obtain ⟨W1, hW1⟩ : ∃ q, w.alloc (.cells (ivs (List.replicate N 0)) 2) = q := ⟨_, rfl⟩
  rw [hW1] at hmk ha hn
  rw [hfb] at hmk hn
  have hle : w.heap.size ≤ fb := by omega
  have hrh := Lib.hid hr
  have hDh := Lib.hid hD
  have hEh := Lib.hid hE
  have hlh := Lib.hid hr.len
  have hnh := Lib.hid hn
  have hah := Lib.hid ha
  have hfbh := Lib.hid hfb
  clear hr hD hE hn ha hW1 hfb
  go_enter Try.func72, Try.ntmps72
  go_wp2_with fail
  clear hmk
  go_loopw [8] (fun i wr => ∃ (k : Nat), k ≤ N ∧ i = .int .i64 k ∧ Hid (wr.heap[fb]? = some (.cells (ivs (filL N k 4611686018427387904)) 2 (0, 0)) ∧ Below w.heap.size w wr)) (fun i _ => N - (intOf i).toNat)
  case atStart => exact ⟨0, Nat.zero_le _, rfl, hnh.out, hah.out⟩
  case round =>
    clear hnh hah
    obtain ⟨k, hk, rfl, hH⟩ := hrel
    obtain ⟨hcs, hb⟩ := hH.out
    clear hH
    by_cases hlt : k < N
    · have m0 := ivs_cell hcs (filL_at hlt)
      have f0 : wr.frozen? ⟨fb, k, none⟩ = false := ivs_free hcs
      have hkN : (k : Int) < (N : Int) := by omega
      have hfin : Hid ((wr.setCell ⟨fb, k, none⟩ (.int .i64 4611686018427387904)).heap[fb]? = some (.cells (ivs (filL N (k + 1) 4611686018427387904)) 2 (0, 0)) ∧ Below w.heap.size w (wr.setCell ⟨fb, k, none⟩ (.int .i64 4611686018427387904))) :=
        ⟨by rw [← filL_set hlt, ← ivs_set]; exact cell_put hcs, hb.setCell hle _⟩
      clear hcs hb
      go_wp2_with fail
      go_roundw
      case rel => exact ⟨k + 1, by omega, by go_num, hfin⟩
      case measure => simp [intOf]; omega
    · obtain rfl : k = N := by omega
      have hfl : filL k k 4611686018427387904 = List.replicate k (4611686018427387904 : Int) := by unfold filL; rw [Nat.sub_self, List.replicate_zero, List.append_nil]
      rw [hfl] at hcs
      have m0 : wr.cell? ⟨fb, s, none⟩ = some (.int .i64 4611686018427387904) := ivs_cell hcs (by rw [List.getElem?_replicate, if_pos hs])
      have f0 : wr.frozen? ⟨fb, s, none⟩ = false := ivs_free hcs
      have hsN : (s : Int) < (k : Int) := by omega
      have hkN : decide ((k : Int) < (k : Int)) = false := decide_eq_false (by omega)
      have hst : Hid ((wr.setCell ⟨fb, s, none⟩ (.int .i64 0)).heap[fb]? = some (.cells (ivs ((List.replicate k (4611686018427387904 : Int)).set s 0)) 2 (0, 0)) ∧ Below w.heap.size w (wr.setCell ⟨fb, s, none⟩ (.int .i64 0))) :=
        ⟨by rw [← ivs_set]; exact cell_put hcs, hb.setCell hle _⟩
      clear hcs hb hfl
      go_wp2_with fail
      go_loopw [9] (fun i wq => ∃ (r : Nat) (d : List Int), r ≤ k ∧ i = .int .i64 r ∧ Hid (BF k l s D r 0 d ∧ wq.heap[fb]? = some (.cells (ivs d) 2 (0, 0)) ∧ Below w.heap.size w wq)) (fun i _ => k - (intOf i).toNat)
      case atStart => exact ⟨0, _, Nat.zero_le _, rfl, BF.start hDh.out hEh.out hs, hst.out.1, hst.out.2⟩
      case round =>
        clear hst m0 f0 hkN
        obtain ⟨r, d, hrk, rfl, hH⟩ := hrel
        by_cases hrlt : r < k
        · have hrN : (r : Int) < (k : Int) := by omega
          go_wp2_with fail
          go_loopw [10] (fun i wc => ∃ (j : Nat) (d : List Int), j ≤ m ∧ i = .int .i64 j ∧ Hid (BF k l s D r j d ∧ wc.heap[fb]? = some (.cells (ivs d) 2 (0, 0)) ∧ Below w.heap.size w wc)) (fun i _ => m - (intOf i).toNat)
          case atStart => exact ⟨0, d, Nat.zero_le _, rfl, hH.out⟩
          case round =>
            clear hH
            clear d
            obtain ⟨j, d, hj, rfl, hH⟩ := hrel
            obtain ⟨hB, hcs, hb⟩ := hH.out
            clear hH
            by_cases hjm : j < m
            · obtain ⟨b, o, x1, x2, x3, rfl, hbs, hx, p1, p2, p3⟩ := (hrh.out.below hb).trip hjm
              have hbE := hEh.out _ (List.mem_of_getElem? hx)
              simp only at hbE
              obtain ⟨i1, rfl⟩ : ∃ i1 : Nat, x1 = i1 := ⟨x1.toNat, by omega⟩
              obtain ⟨i2, rfl⟩ : ∃ i2 : Nat, x2 = i2 := ⟨x2.toNat, by omega⟩
              have hjN : (j : Int) < (m : Int) := by omega
              have hbx := (Below.refl _ wr).alloc (Nat.le_refl wr.heap.size) (.cells #[.int .i64 (i1 : Int), .int .i64 (i2 : Int), .int .i64 x3] 85)
              have bx := Bx3.new wr 85 (i1 : Int) (i2 : Int) x3
              obtain ⟨wc, hwc⟩ : ∃ q, wr.alloc (.cells #[.int .i64 (i1 : Int), .int .i64 (i2 : Int), .int .i64 x3] 85) = q := ⟨_, rfl⟩
              obtain ⟨eb, heb⟩ : ∃ q, wr.heap.size = q := ⟨_, rfl⟩
              have hfl : fb < eb := by rw [← heb]; exact (Array.getElem?_eq_some_iff.1 hcs).1
              rw [hwc] at hbx bx
              rw [heb] at hbx bx
              obtain ⟨x, hx1⟩ : ∃ x, d[i1]? = some x := ⟨d[i1]'(by rw [hB.len]; omega), List.getElem?_eq_getElem _⟩
              obtain ⟨y, hy1⟩ : ∃ y, d[i2]? = some y := ⟨d[i2]'(by rw [hB.len]; omega), List.getElem?_eq_getElem _⟩
              have hcsc := (hbx.block fb hfl).trans hcs
              have mx := ivs_cell hcsc hx1
              have my := ivs_cell hcsc hy1
              have hrx := hB.rng i1 x hx1
              have zeb := bx.lt
              have zfb : fb < wc.heap.size := by omega
              have e0 := bx.c0
              have e1 := bx.c1
              have e2 := bx.c2
              have hi1 : (i1 : Int) < (k : Int) := hbE.2.1
              have hi2 : (i2 : Int) < (k : Int) := hbE.2.2.2.1
              have hbc := hb.trans (hbx.mono (by have := hb.size; omega))
              have w1 : IntKind.i64.wrap (1099511627776 - x3) = 1099511627776 - x3 := by rw [IntKind.wrap_i64]; omega
              have hxh := Lib.hid hx
              have hBh := Lib.hid hB
              have hcsh := Lib.hid hcsc
              have hbch := Lib.hid hbc
              have hx1h := Lib.hid hx1
              have hy1h := Lib.hid hy1
              have hbEh := Lib.hid hbE.2.2.2.2.1
              have hlo := hbE.2.2.2.2.2
              clear hx hB hcs hcsc hb hbc hbx bx hx1 hy1 hbE
              by_cases hg1 : x ≤ 1099511627776 - x3
              · have g1 : decide (x ≤ 1099511627776 - x3) = true := decide_eq_true hg1
                have w2 : IntKind.i64.wrap (x + x3) = x + x3 := by rw [IntKind.wrap_i64]; omega
                by_cases hg2 : x + x3 < y
                · have g2 : decide (x + x3 < y) = true := decide_eq_true hg2
                  have hnx := Lib.hid (hBh.out.turn hEh.out hDh.out hxh.out rfl rfl hx1h.out hy1h.out hg1 hg2)
                  clear hrx hg1 hg2 hlo
                  go_wp2_with fail
                  go_upto_region 14 with fail
                  refine wp_region_below wc.heap.size (by kernel_rfl) (by kernel_rfl) ?_
                  intro C hC
                  repeat (go_big_quiet_step (first
                    | ((intro _; with_reducible rfl))
                    | (intro hc; have m0 := (hc.cell (p := ⟨eb, 0, none⟩) zeb).trans e0; have m1 := (hc.cell (p := ⟨eb, 1, none⟩) zeb).trans e1; have m2 := (hc.cell (p := ⟨eb, 2, none⟩) zeb).trans e2; have m3 := (hc.cell (p := ⟨fb, i1, none⟩) zfb).trans mx; have m4 := (hc.cell (p := ⟨fb, i2, none⟩) zfb).trans my; simp only [m0, m1, m2, m3, m4, Result.andThen]; exact ⟨trivial, rfl⟩)))
                  refine wpQuiet_nil ?_
                  intro w9 hb9
                  clear hC
                  have zeb9 := Nat.lt_of_lt_of_le zeb hb9.size
                  have e09 := (hb9.cell (p := ⟨eb, 0, none⟩) zeb).trans e0
                  have e19 := (hb9.cell (p := ⟨eb, 1, none⟩) zeb).trans e1
                  have e29 := (hb9.cell (p := ⟨eb, 2, none⟩) zeb).trans e2
                  have hcs9 := (hb9.block fb zfb).trans hcsh.out
                  have hbw9 := Lib.hid (hbch.out.trans (hb9.mono hbch.out.size))
                  have nef : eb ∉ [fb] := by simp; omega
                  have hcel : Hid (∀ w : World, w.heap[fb]? = some (.cells (ivs d) 2 (0, 0)) → w.cell? ⟨fb, i1, none⟩ = some (.int .i64 x)) := fun w hw => ivs_cell hw hx1h.out
                  have hcel2 : Hid (∀ w : World, w.heap[fb]? = some (.cells (ivs d) 2 (0, 0)) → w.cell? ⟨fb, i2, none⟩ = some (.int .i64 y)) := fun w hw => ivs_cell hw hy1h.out
                  have hset : Hid (∀ w : World, w.heap[fb]? = some (.cells (ivs d) 2 (0, 0)) → (w.setCell ⟨fb, i2, none⟩ (.int .i64 (x + x3))).heap[fb]? = some (.cells (ivs (d.set i2 (x + x3))) 2 (0, 0))) := fun w hw => by rw [← ivs_set]; exact cell_put hw
                  obtain ⟨cs, hcsq⟩ : ∃ cs, ivs d = cs := ⟨_, rfl⟩
                  obtain ⟨cs', hcsq'⟩ : ∃ cs', ivs (d.set i2 (x + x3)) = cs' := ⟨_, rfl⟩
                  rw [hcsq] at hcel hcel2 hset hcs9
                  rw [hcsq'] at hset
                  have hcs9h := Lib.hid hcs9
                  have hq' := Lib.hid hcsq'
                  clear hb9 e0 e1 e2 hcs9 hcsq hcsq' mx my zeb
                  go_wp2_with fail
                  go_upto_region 15 with fail
                  refine wp_region_ghost (fun fl x w => But w9 w [fb] ∧ (fl 12 = false → w.heap[fb]? = some (.cells cs 2 (0, 0))) ∧ (fl 12 = true → fl 7 = true) ∧ (fl 12 = true → w.heap[fb]? = some (.cells cs' 2 (0, 0)))) (by kernel_rfl) (by kernel_rfl) (by kernel_rfl) (by kernel_rfl) (by kernel_rfl) ?_ ?_
                  · intro x0
                    exact ⟨⟨rfl, rfl, rfl, Nat.le_refl _, fun _ _ _ => rfl⟩, fun _ => hcs9h.out, (fun h => by cases h), fun h => by cases h⟩
                  intro base O hbase hO
                  have kx7 : Hid (∀ xs, evX base O xs (.tmp 7) = .slice (some ⟨fb, 0, none⟩) k k) := fun xs => by rw [hbase, hO]; rfl
                  have kx11 : Hid (∀ xs, evX base O xs (.tmp 11) = .pointer (some ⟨eb, 0, none⟩)) := fun xs => by rw [hbase, hO]; rfl
                  have kx65 : Hid (∀ xs, evX base O xs (.tmp 65) = xs 0) := fun xs => by rw [hO]; rfl
                  have kx66 : Hid (∀ xs, evX base O xs (.tmp 66) = xs 1) := fun xs => by rw [hO]; rfl
                  have kx67 : Hid (∀ xs, evX base O xs (.tmp 67) = xs 2) := fun xs => by rw [hO]; rfl
                  have kx68 : Hid (∀ xs, evX base O xs (.tmp 68) = xs 3) := fun xs => by rw [hO]; rfl
                  have kx69 : Hid (∀ xs, evX base O xs (.tmp 69) = xs 4) := fun xs => by rw [hO]; rfl
                  have kx70 : Hid (∀ xs, evX base O xs (.tmp 70) = xs 5) := fun xs => by rw [hO]; rfl
                  have kx71 : Hid (∀ xs, evX base O xs (.tmp 71) = xs 6) := fun xs => by rw [hO]; rfl
                  have kx72 : Hid (∀ xs, evX base O xs (.tmp 72) = xs 7) := fun xs => by rw [hO]; rfl
                  have kx73 : Hid (∀ xs, evX base O xs (.tmp 73) = xs 8) := fun xs => by rw [hO]; rfl
                  have kx74 : Hid (∀ xs, evX base O xs (.tmp 74) = xs 9) := fun xs => by rw [hO]; rfl
                  have kx75 : Hid (∀ xs, evX base O xs (.tmp 75) = xs 10) := fun xs => by rw [hO]; rfl
                  have kx76 : Hid (∀ xs, evX base O xs (.tmp 76) = xs 11) := fun xs => by rw [hO]; rfl
                  clear hbase hO
                  apply gh_det (n := 0)
                  · intro fl xs w ev hG hD hl hdone hev K hK
                    have e7 := (hev (.tmp 7)).trans (kx7.out xs)
                    rw [if_pos (wantedX_none rfl)]
                    have ef : ∀ f, ev (.func f) = .func (.func f) #[] #[] := fun f => (hev _).trans rfl
                    clear hev hD
                    go_simp
                    exact hK _ _ rfl hG
                  apply gh_det (n := 1)
                  · intro fl xs w ev hG hD hl hdone hev K hK
                    have e11 := (hev (.tmp 11)).trans (kx11.out xs)
                    rw [if_pos (wantedX_none rfl)]
                    have ef : ∀ f, ev (.func f) = .func (.func f) #[] #[] := fun f => (hev _).trans rfl
                    clear hev hD
                    go_simp
                    exact hK _ _ rfl hG
                  apply gh_det (n := 2)
                  · intro fl xs w ev hG hD hl hdone hev K hK
                    have e66 := (hev (.tmp 66)).trans (kx66.out xs)
                    have d1 := hD.at_ 1 rfl rfl
                    replace e66 := e66.trans d1
                    rw [if_pos (wantedX_none rfl)]
                    have ef : ∀ f, ev (.func f) = .func (.func f) #[] #[] := fun f => (hev _).trans rfl
                    clear hev hD
                    have m0 := (hG.1.cell (p := ⟨eb, 1, none⟩) zeb9 nef).trans e19
                    go_simp
                    exact hK _ _ rfl hG
                  apply gh_det (n := 3)
                  · intro fl xs w ev hG hD hl hdone hev K hK
                    have e7 := (hev (.tmp 7)).trans (kx7.out xs)
                    rw [if_pos (wantedX_none rfl)]
                    have ef : ∀ f, ev (.func f) = .func (.func f) #[] #[] := fun f => (hev _).trans rfl
                    clear hev hD
                    go_simp
                    exact hK _ _ rfl hG
                  apply gh_det (n := 4)
                  · intro fl xs w ev hG hD hl hdone hev K hK
                    have e11 := (hev (.tmp 11)).trans (kx11.out xs)
                    rw [if_pos (wantedX_none rfl)]
                    have ef : ∀ f, ev (.func f) = .func (.func f) #[] #[] := fun f => (hev _).trans rfl
                    clear hev hD
                    go_simp
                    exact hK _ _ rfl hG
                  apply gh_det (n := 5)
                  · intro fl xs w ev hG hD hl hdone hev K hK
                    have e69 := (hev (.tmp 69)).trans (kx69.out xs)
                    have d4 := hD.at_ 4 rfl rfl
                    replace e69 := e69.trans d4
                    rw [if_pos (wantedX_none rfl)]
                    have ef : ∀ f, ev (.func f) = .func (.func f) #[] #[] := fun f => (hev _).trans rfl
                    clear hev hD
                    have m0 := (hG.1.cell (p := ⟨eb, 0, none⟩) zeb9 nef).trans e09
                    go_simp
                    exact hK _ _ rfl hG
                  apply gh_det (n := 6)
                  · intro fl xs w ev hG hD hl hdone hev K hK
                    have e68 := (hev (.tmp 68)).trans (kx68.out xs)
                    have d3 := hD.at_ 3 rfl rfl
                    replace e68 := e68.trans d3
                    have e70 := (hev (.tmp 70)).trans (kx70.out xs)
                    have d5 := hD.at_ 5 rfl rfl
                    replace e70 := e70.trans d5
                    rw [if_pos (wantedX_none rfl)]
                    have ef : ∀ f, ev (.func f) = .func (.func f) #[] #[] := fun f => (hev _).trans rfl
                    clear hev hD
                    go_simp
                    exact hK _ _ rfl hG
                  apply gh_det (n := 7)
                  · intro fl xs w ev hG hD hl hdone hev K hK
                    have e71 := (hev (.tmp 71)).trans (kx71.out xs)
                    have d6 := hD.at_ 6 rfl rfl
                    replace e71 := e71.trans d6
                    rw [if_pos (wantedX_none rfl)]
                    have ef : ∀ f, ev (.func f) = .func (.func f) #[] #[] := fun f => (hev _).trans rfl
                    clear hev hD
                    have m0 := hcel.out _ (hG.2.1 (by cases h12 : fl 12 with | false => rfl | true => exact absurd (hG.2.2.1 h12) (by rw [hl]; decide)))
                    go_simp
                    exact hK _ _ rfl ⟨hG.1, hG.2.1, fun _ => rfl, hG.2.2.2⟩
                  apply gh_det (n := 8)
                  · intro fl xs w ev hG hD hl hdone hev K hK
                    have e11 := (hev (.tmp 11)).trans (kx11.out xs)
                    rw [if_pos (wantedX_none rfl)]
                    have ef : ∀ f, ev (.func f) = .func (.func f) #[] #[] := fun f => (hev _).trans rfl
                    clear hev hD
                    go_simp
                    exact hK _ _ rfl hG
                  apply gh_det (n := 9)
                  · intro fl xs w ev hG hD hl hdone hev K hK
                    have e73 := (hev (.tmp 73)).trans (kx73.out xs)
                    have d8 := hD.at_ 8 rfl rfl
                    replace e73 := e73.trans d8
                    rw [if_pos (wantedX_none rfl)]
                    have ef : ∀ f, ev (.func f) = .func (.func f) #[] #[] := fun f => (hev _).trans rfl
                    clear hev hD
                    have m0 := (hG.1.cell (p := ⟨eb, 2, none⟩) zeb9 nef).trans e29
                    go_simp
                    exact hK _ _ rfl hG
                  apply gh_det (n := 10)
                  · intro fl xs w ev hG hD hl hdone hev K hK
                    have e72 := (hev (.tmp 72)).trans (kx72.out xs)
                    have d7 := hD.at_ 7 rfl rfl
                    replace e72 := e72.trans d7
                    have e74 := (hev (.tmp 74)).trans (kx74.out xs)
                    have d9 := hD.at_ 9 rfl rfl
                    replace e74 := e74.trans d9
                    rw [if_pos (wantedX_none rfl)]
                    have ef : ∀ f, ev (.func f) = .func (.func f) #[] #[] := fun f => (hev _).trans rfl
                    clear hev hD
                    go_simp
                    exact hK _ _ rfl hG
                  apply gh_det (n := 11)
                  · intro fl xs w ev hG hD hl hdone hev K hK
                    have e65 := (hev (.tmp 65)).trans (kx65.out xs)
                    have d0 := hD.at_ 0 rfl rfl
                    replace e65 := e65.trans d0
                    have e67 := (hev (.tmp 67)).trans (kx67.out xs)
                    have d2 := hD.at_ 2 rfl rfl
                    replace e67 := e67.trans d2
                    rw [if_pos (wantedX_none rfl)]
                    have ef : ∀ f, ev (.func f) = .func (.func f) #[] #[] := fun f => (hev _).trans rfl
                    clear hev hD
                    go_simp
                    exact hK _ _ rfl hG
                  refine gh_any (n := 12) (fun _ => True) ?_ ?_
                  · intro fl xs w ev hG hD hl hdone hev K hK
                    have e76 := (hev (.tmp 76)).trans (kx76.out xs)
                    have d11 := hD.at_ 11 rfl rfl
                    replace e76 := e76.trans d11
                    have e75 := (hev (.tmp 75)).trans (kx75.out xs)
                    have d10 := hD.at_ 10 rfl rfl
                    replace e75 := e75.trans d10
                    rw [if_pos (wantedX_none rfl)]
                    have ef : ∀ f, ev (.func f) = .func (.func f) #[] #[] := fun f => (hev _).trans rfl
                    clear hev hD
                    have hcw := hG.2.1 hl
                    have m0 := hcel2.out _ hcw
                    have f0 : w.frozen? ⟨fb, i2, none⟩ = false := by simp [World.frozen?, hcw]
                    have hgo := hset.out _ hcw
                    go_simp
                    exact hK _ _ trivial ⟨hG.1.trans (But.of_set _ _ _ (by simp)), (fun h => by cases h), fun _ => done_of hdone 7 rfl, fun _ => hgo⟩
                  intro xs w10 hG hxx
                  obtain ⟨hGb, _, _, hG2⟩ := hG
                  have hG3 := hG2 rfl
                  rw [← hq'.out] at hG3
                  have hfin : Hid (w10.heap[fb]? = some (.cells (ivs (d.set i2 (x + x3))) 2 (0, 0)) ∧ Below w.heap.size w w10) := ⟨hG3, hbw9.out.trans (hGb.below hbw9.out.size (by simpa using hle))⟩
                  clear hG2 hG3 hGb hxx
                  simp only [List.append_eq, List.cons_append, List.nil_append, setAll, List.setIfInBounds_toArray, List.set_cons_zero, List.set_cons_succ]
                  go_wp2_with fail
                  go_roundw
                  case rel => exact ⟨j + 1, _, by omega, by go_num, hnx.out, hfin.out⟩
                  case measure => simp [intOf]; omega
                · have g2 : decide (x + x3 < y) = false := decide_eq_false hg2
                  have hnx := Lib.hid (hBh.out.skip hEh.out hDh.out hxh.out rfl rfl hx1h.out hy1h.out (.inr (by simp only; omega)))
                  clear hrx hg1 hg2 hlo
                  go_wp2_with fail
                  go_upto_region 14 with fail
                  refine wp_region_below wc.heap.size (by kernel_rfl) (by kernel_rfl) ?_
                  intro C hC
                  repeat (go_big_quiet_step (first
                    | ((intro _; with_reducible rfl))
                    | (intro hc; have m0 := (hc.cell (p := ⟨eb, 0, none⟩) zeb).trans e0; have m1 := (hc.cell (p := ⟨eb, 1, none⟩) zeb).trans e1; have m2 := (hc.cell (p := ⟨eb, 2, none⟩) zeb).trans e2; have m3 := (hc.cell (p := ⟨fb, i1, none⟩) zfb).trans mx; have m4 := (hc.cell (p := ⟨fb, i2, none⟩) zfb).trans my; simp only [m0, m1, m2, m3, m4, Result.andThen]; exact ⟨trivial, rfl⟩)))
                  refine wpQuiet_nil ?_
                  intro w9 hb9
                  clear hC
                  have hcs9 := (hb9.block fb zfb).trans hcsh.out
                  have hfin := Lib.hid (And.intro hcs9 (hbch.out.trans (hb9.mono hbch.out.size)))
                  clear hb9 hcs9
                  go_wp2_with fail
                  go_roundw
                  case rel => exact ⟨j + 1, _, by omega, by go_num, hnx.out, hfin.out⟩
                  case measure => simp [intOf]; omega
              · have g1 : decide (x ≤ 1099511627776 - x3) = false := decide_eq_false hg1
                have hnx := Lib.hid (hBh.out.skip hEh.out hDh.out hxh.out rfl rfl hx1h.out hy1h.out (.inl (by simp only; omega)))
                clear hrx hg1 hlo
                go_wp2_with fail
                go_upto_region 14 with fail
                refine wp_region_below wc.heap.size (by kernel_rfl) (by kernel_rfl) ?_
                intro C hC
                repeat (go_big_quiet_step (first
                  | ((intro _; with_reducible rfl))
                  | (intro hc; have m0 := (hc.cell (p := ⟨eb, 0, none⟩) zeb).trans e0; have m1 := (hc.cell (p := ⟨eb, 1, none⟩) zeb).trans e1; have m2 := (hc.cell (p := ⟨eb, 2, none⟩) zeb).trans e2; have m3 := (hc.cell (p := ⟨fb, i1, none⟩) zfb).trans mx; have m4 := (hc.cell (p := ⟨fb, i2, none⟩) zfb).trans my; simp only [m0, m1, m2, m3, m4, Result.andThen]; exact ⟨trivial, rfl⟩)))
                refine wpQuiet_nil ?_
                intro w9 hb9
                clear hC
                have hcs9 := (hb9.block fb zfb).trans hcsh.out
                have hfin := Lib.hid (And.intro hcs9 (hbch.out.trans (hb9.mono hbch.out.size)))
                clear hb9 hcs9
                go_wp2_with fail
                go_roundw
                case rel => exact ⟨j + 1, _, by omega, by go_num, hnx.out, hfin.out⟩
                case measure => simp [intOf]; omega
            · obtain rfl : j = m := by omega
              rw [← hlh.out] at hB
              have hnx := Lib.hid (hB.roll hEh.out hDh.out)
              have hfin := Lib.hid (And.intro hcs hb)
              have hjN : decide ((j : Int) < (j : Int)) = false := decide_eq_false (by omega)
              clear hB hcs hb
              go_wp2_with fail
              go_roundw
              case rel => exact ⟨r + 1, d, by omega, by go_num, hnx.out, hfin.out⟩
              case measure => simp [intOf]; omega
        · obtain rfl : r = k := by omega
          obtain ⟨hB, hcs, hb⟩ := hH.out
          obtain rfl := hB.fin hDh.out
          have hfin := Lib.hid (And.intro hcs hb)
          have hjN : decide ((r : Int) < (r : Int)) = false := decide_eq_false (by omega)
          clear hB hcs hb hH
          go_wp2_with fail
          go_returns
          exact ⟨fb, rfl, hle, hfin.out.1, hfin.out.2⟩
end Go.Proofs.Ytonkkibnigdfbaa
namespace Go.Proofs.Ytonkkibnigdfbaa
open Go.RowKit Go.Shelf B K
set_option linter.unusedVariables false
set_option linter.unusedSimpArgs false
set_option maxHeartbeats 2000000
section
variable {A : Option Addr} {m c : Nat} {l : List Ed} {w : World}
theorem rAll_bad (n : Int) (hr : Rd w 3 tripE A m l) (hm : m ≤ 1099511627776) (hc : chkE n l ≠ 0) :
    Calls Try.prog 54 #[.int .i64 n, .slice A m c] w fun e w' => e = .returned (.tuple #[.slice none 0 0, .int .i64 (chkE n l)]) ∧ Below w.heap.size w w' := by
  have hC := Lib.hid (rchk_any n A m c l w hr hm)
  obtain ⟨q, hq⟩ : ∃ q, chkE n l = q := ⟨_, rfl⟩
  rw [hq] at hC hc ⊢
  have hd : (q != 0) = true := by simpa using hc
  clear hr hq
  go_enter Try.func54, Try.ntmps54
  go_wp2_with (go_at_call 71; refine hC.out.mono ?_; rintro e w1 ⟨rfl, hb⟩)
  go_returns
  exact ⟨rfl, hb⟩
theorem rAll_ok (n : Nat) (D : Nat → List Int) (hr : Rd w 3 tripE A m l) (hm : m ≤ 1099511627776) (hc : chkE n l = 0) (hD : ∀ i, i < n → IsDist n l i (D i)) :
    Calls Try.prog 54 #[.int .i64 n, .slice A m c] w fun e w' => ∃ A' c' L, e = .returned (.tuple #[.slice A' n c', .int .i64 0]) ∧ Rd w' 1 (rowE n) A' n L ∧ RowsOk w' w.heap.size n l L ∧ Below w.heap.size w w' := by
  have hC := Lib.hid (rchk_any n A m c l w hr hm)
  rw [hc] at hC
  obtain ⟨hll, _, hn⟩ := chk_len hc
  have hE := eds_ok hc
  have hml := hr.len
  have hF0 : Hid (∀ W k, k < n → Below w.heap.size w W → Calls Try.prog 72 #[.int .i64 n, .slice A m c, .int .i64 k] W fun e w' => ∃ fb, e = .returned (.slice (some ⟨fb, 0, none⟩) n n) ∧ W.heap.size ≤ fb ∧ w'.heap[fb]? = some (.cells (ivs (D k)) 2 (0, 0)) ∧ Below W.heap.size W w') := fun W k hk hW =>
    rfrom_any n k A m c l (D k) W (hr.below hW) (by omega) hE hk (by omega) (hD k hk)
  have hDh := Lib.hid hD
  have hn' : n ≤ 256 := by omega
  clear hr hc hml hE hD
  go_enter Try.func54, Try.ntmps54
  go_wp2_with (go_at_call 71; refine hC.out.mono ?_; rintro e w2 ⟨rfl, hb12⟩)
  clear hC
  go_loopw [7, 8] (fun v i wr => ∃ (k : Nat) (L : List Nat), k ≤ n ∧ L.length = k ∧ i = .int .i64 k ∧ wr.ownsRow w2.heap.size 40 1 v L.length (L.flatMap (rowE n)) ∧ RowsOk wr w2.heap.size n l L ∧ Below w2.heap.size w2 wr) (fun _ i _ => n - (intOf i).toNat)
  case atStart => exact ⟨0, [], Nat.zero_le _, rfl, rfl, World.ownsRow_nil _ _ _ _, fun i fb h => (by simp at h), Below.refl _ _⟩
  case round =>
    obtain ⟨k, L, hk, hL, rfl, own, hR, hb⟩ := hrel
    by_cases hlt : k < n
    · have hbw : Below w.heap.size w wr := hb12.trans (hb.mono hb12.size)
      have hF := Lib.hid (hF0.out wr k hlt hbw)
      have hLk := Lib.hid hL
      have ownh := Lib.hid own
      have hkn : (k : Int) < (n : Int) := by omega
      clear own hL
      go_wp2_with fail
      refine hF.out.mono ?_; rintro e w3 ⟨fb, rfl, hfb, hf, hb3⟩
      have hf : w3.heap[fb]? = some (.cells ((D k).map (Value.int .i64)).toArray 2 (0, 0)) := hf
      have own3 := own_up ownh.out hb3
      have hR3 := hR.below hb3
      have hb23 := hb.trans (hb3.mono hb.size)
      obtain ⟨gg, cc, w4, hrun, own4, hgr, hg⟩ := append_one (enc := rowE n) Try.underlying86 infoI64s rfl (by decide) (rowE_len n) (rowE_one n) w3 w2.heap.size _ L fb own3 (by rw [hLk.out]; omega) (by decide) hb23.size
      have ha3 : Below w3.heap.size w3 (w3.alloc (.cells (rowE n fb).toArray 40)) := (Below.refl _ w3).alloc (Nat.le_refl _) _
      have hfa := (ha3.block fb (Array.getElem?_eq_some_iff.1 hf).1).trans hf
      have hRa : RowsOk (w3.alloc (.cells (rowE n fb).toArray 40)) w2.heap.size n l (L ++ [fb]) := (hR3.below ha3).snoc (Nat.le_trans hb.size hfb) hfa (by rw [hLk.out]; exact hDh.out k hlt)
      have hR4 := hRa.grown (own3.alloc _) hgr
      have hb4 : Below w2.heap.size w2 w4 := (hb23.trans (ha3.mono hb23.size)).grown hgr (by have := hb23.size; have := ha3.size; omega) (fun g hg => (own3.lt g hg).1)
      have hpost : Hid (w4.ownsRow w2.heap.size 40 1 (.slice (some ⟨gg, 0, none⟩) (L.length + 1) cc) (L ++ [fb]).length ((L ++ [fb]).flatMap (rowE n)) ∧ RowsOk w4 w2.heap.size n l (L ++ [fb]) ∧ Below w2.heap.size w2 w4) := ⟨own4, hR4, hb4⟩
      clear own3 hR3 hb23 ha3 hfa hRa hR4 hb4 own4 hgr hg hR hF hfb hf hb3 hb hbw
      simp only [rowE] at hrun
      go_wp2_with (at_builtin; refine wpList_append_run ?a1 (.tmp 20) (.tmp 25) 86 ?a2 ?a3 ?a4 hrun ?_)
      case a1 => rfl
      case a2 => rfl
      try (case a3 => rfl)
      try (case a4 => rfl)
      go_roundw
      case rel => exact ⟨k + 1, L ++ [fb], by omega, by rw [List.length_append, hLk.out]; rfl, by go_num, hpost.out.1, hpost.out.2⟩
      case measure => simp [intOf]; omega
    · obtain rfl : k = n := by omega
      rw [hL] at own
      obtain ⟨A', c', rfl, r1, r2, r3⟩ := Rd.of_own (rowE_len k) hL own
      have hLh := Lib.hid hL
      clear hL
      have hr1 := Lib.hid r1
      have hbw : Below w.heap.size w wr := hb12.trans (hb.mono hb12.size)
      have hkn : decide ((k : Int) < (k : Int)) = false := decide_eq_false (by omega)
      clear r1 own
      go_wp2_with fail
      go_returns
      exact ⟨A', c', L, rfl, hr1.out, fun i f hx => ⟨Nat.le_trans hb12.size (hR i f hx).1, (hR i f hx).2⟩, hbw⟩
end
end Go.Proofs.Ytonkkibnigdfbaa
namespace Go.Proofs.Ytonkkibnigdfbaa
open Go.RowKit Go.Shelf B K
set_option linter.unusedVariables false
set_option linter.unusedSimpArgs false
set_option maxHeartbeats 4000000
theorem IsDist.tri {n : Nat} {l : List Ed} {a b : Nat} {da db : List Int} (hl : EdsOk n l) (ha : IsDist n l a da) (hb : IsDist n l b db) {u : Int} (hu : da[b]? = some u) : ∀ (k : Nat) (c : Nat) (v x : Int), v.toNat ≤ k → db[c]? = some v → v ≤ 1099511627776 → u + v ≤ 1099511627776 → da[c]? = some x → x ≤ u + v
  | k, c, v, x, hk, hv, hvt, hs, hx => by
    have hru := ha.rng b u hu
    have hrv := hb.rng c v hv
    by_cases hc : c = b
    · subst hc
      rw [hb.s0] at hv
      rw [hu] at hx
      cases hv; cases hx; omega
    · obtain ⟨e, he, e2, p, v', e1, hp, hsum⟩ := hb.sup c v hc hv hvt
      obtain ⟨_, _, _, _, _, hlo, _⟩ := hl e he
      have hv0 := hb.rng p v' hp
      have hpn : p < da.length := by
        have := (List.getElem?_eq_some_iff.1 hp).1
        rw [ha.len, ← hb.len]; exact this
      obtain ⟨y, hy⟩ : ∃ y, da[p]? = some y := ⟨da[p], List.getElem?_eq_getElem _⟩
      have ih := IsDist.tri hl ha hb hu (k - 1) p v' y (by omega) hp (by omega) (by omega) hy
      have := ha.rel e he p c y x e1 e2 hy hx (by omega)
      omega
termination_by k => k
decreasing_by omega
theorem B.Rd.row {w : World} {N n k : Nat} {A : Option Addr} {L : List Nat} (h : Rd w 1 (rowE N) A n L) (hk : k < n) : ∃ b o fb, A = some ⟨b, o, none⟩ ∧ b < w.heap.size ∧ L[k]? = some fb ∧ w.cell? ⟨b, o + k, none⟩ = some (.slice (some ⟨fb, 0, none⟩) N N) := by
  obtain ⟨b, o, rfl, hb, hc⟩ := h.cells (by omega)
  have hl : k < L.length := by rw [h.len]; exact hk
  have hx : L[k]? = some L[k] := List.getElem?_eq_getElem hl
  have := hc k _ hx 0 _ rfl
  rw [Nat.mul_one, Nat.add_zero] at this
  exact ⟨b, o, L[k], rfl, hb, hx, this⟩
end Go.Proofs.Ytonkkibnigdfbaa
namespace Go.Proofs.Ytonkkibnigdfbaa
open Go.RowKit Go.Shelf B K
set_option linter.unusedVariables false
set_option linter.unusedSimpArgs false
set_option maxHeartbeats 2000000
/-- row i reads D i -/
def RowsD (w : World) (n : Nat) (D : Nat → List Int) (L : List Nat) : Prop := ∀ (i fb : Nat), L[i]? = some fb → w.heap[fb]? = some (.cells ((D i).map (Value.int .i64)).toArray 2 (0, 0)) ∧ (D i).length = n
theorem RowsD.below {w w' : World} {n : Nat} {D : Nat → List Int} {L : List Nat} (h : RowsD w n D L) (hb : Below w.heap.size w w') : RowsD w' n D L := fun i fb hx => by
  obtain ⟨h1, h2⟩ := h i fb hx
  exact ⟨(hb.block fb (Array.getElem?_eq_some_iff.1 h1).1).trans h1, h2⟩
theorem RowsOk.rows {w : World} {base n : Nat} {l : List Ed} {L : List Nat} (h : RowsOk w base n l L) (hL : L.length = n) : ∃ D : Nat → List Int, RowsD w n D L ∧ ∀ i, i < n → IsDist n l i (D i) := by
  have key : ∀ i : Nat, ∃ d : List Int, ∀ fb, L[i]? = some fb → w.heap[fb]? = some (.cells (d.map (Value.int .i64)).toArray 2 (0, 0)) ∧ IsDist n l i d := fun i => by
    cases hx : L[i]? with
    | none => exact ⟨[], fun fb h => by cases h⟩
    | some fb =>
      obtain ⟨_, d, h2, h3⟩ := h i fb hx
      exact ⟨d, fun f hf => by cases hf; exact ⟨h2, h3⟩⟩
  obtain ⟨D, hD⟩ := Classical.axiomOfChoice key
  refine ⟨D, fun i fb hx => ⟨(hD i fb hx).1, (hD i fb hx).2.len⟩, fun i hi => ?_⟩
  exact (hD i (L[i]'(by omega)) (List.getElem?_eq_getElem _)).2
theorem rd_block {w : World} {fb : Nat} {d : List Int} {n : Nat} (h : w.heap[fb]? = some (.cells (d.map (Value.int .i64)).toArray 2 (0, 0))) (hn : d.length = n) : Rd w 1 (numE .i64) (some ⟨fb, 0, none⟩) n d :=
  ⟨hn, fun _ => ⟨fb, 0, rfl, (Array.getElem?_eq_some_iff.1 h).1, fun i x hx j u hu => by
    rw [cell_of_row _ _ _ _ _ _ h]
    cases j with
    | zero =>
      simp [numE] at hu
      subst hu
      simp [hx]
    | succ j => simp [numE] at hu⟩⟩
end Go.Proofs.Ytonkkibnigdfbaa
