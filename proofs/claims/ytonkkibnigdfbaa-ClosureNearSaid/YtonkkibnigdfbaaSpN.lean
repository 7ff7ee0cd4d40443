/-
  Texts of one chain, merged.
-/
import Derived.Test.YtonkkibnigdfbaaSpW
import Derived.Test.YtonkkibnigdfbaaSpH
import Derived.Test.YtonkkibnigdfbaaSpB
import Derived.Laws.EntriesVeiled
import Derived.Shelf.Abstract
import Derived.BigQuiet
import Derived.Deep.DeepCutAuto
namespace Go.Proofs.Ytonkkibnigdfbaa
set_option linter.unusedVariables false
set_option linter.unusedSimpArgs false
structure Lk where
  a : Int
  b : Int
  len : Int
  door : Bool
  no : Int
  op : W.Row
  cl : W.Row
structure NetP where
  hz : Int
  cs : List W.Row
  ls : List Lk
def okL (n : Nat) (l : Lk) : Bool := decide ((0 ≤ l.a ∧ l.a < n) ∧ (0 ≤ l.b ∧ l.b < n) ∧ l.a ≠ l.b ∧ 1 ≤ l.len ∧ l.len ≤ 1099511627776 ∧ W.good l.op = true ∧ W.good l.cl = true ∧ (l.door = true → l.cl.length = 0) ∧ (l.door = false → l.op.length = 0))
theorem okL_iff {n : Nat} {l : Lk} : okL n l = true ↔ (0 ≤ l.a ∧ l.a < n) ∧ (0 ≤ l.b ∧ l.b < n) ∧ l.a ≠ l.b ∧ 1 ≤ l.len ∧ l.len ≤ 1099511627776 ∧ W.good l.op = true ∧ W.good l.cl = true ∧ (l.door = true → l.cl.length = 0) ∧ (l.door = false → l.op.length = 0) := by
  unfold okL; rw [decide_eq_true_iff]
def chkN (N : NetP) : Int := if W.chk N.hz ≠ 0 ∨ 256 < N.cs.length ∨ 2304 < N.ls.length ∨ N.ls.any (fun l => !okL N.cs.length l) = true ∨ N.cs.any (fun c => !W.good c) = true then 2 else 0
structure OkN (N : NetP) : Prop where
  hz : 0 ≤ N.hz ∧ N.hz ≤ 1099511627776
  cn : N.cs.length ≤ 256
  ln : N.ls.length ≤ 2304
  lk : ∀ l ∈ N.ls, okL N.cs.length l = true
  gd : ∀ c ∈ N.cs, W.good c = true
theorem chkN_cases (N : NetP) : chkN N = 0 ∨ chkN N = 2 := by unfold chkN; split <;> simp
theorem chkN_iff {N : NetP} : chkN N = 0 ↔ OkN N := by
  unfold chkN
  constructor
  · intro h
    split at h
    · omega
    · rename_i hn
      refine ⟨W.chk_zero ?_, ?_, ?_, fun l hl => ?_, fun c hc => ?_⟩
      · rcases W.chk_cases N.hz with h1 | h1
        · exact h1
        · exact absurd (.inl (by omega)) hn
      · rcases Nat.lt_or_ge 256 N.cs.length with h1 | h1
        · exact absurd (.inr (.inl h1)) hn
        · exact h1
      · rcases Nat.lt_or_ge 2304 N.ls.length with h1 | h1
        · exact absurd (.inr (.inr (.inl h1))) hn
        · exact h1
      · cases hk : okL N.cs.length l with
        | true => rfl
        | false => exact absurd (.inr (.inr (.inr (.inl (List.any_eq_true.2 ⟨l, hl, by rw [hk]; rfl⟩))))) hn
      · cases hk : W.good c with
        | true => rfl
        | false => exact absurd (.inr (.inr (.inr (.inr (List.any_eq_true.2 ⟨c, hc, by rw [hk]; rfl⟩))))) hn
  · intro h
    rw [if_neg]
    rintro (h1 | h1 | h1 | h1 | h1)
    · exact h1 (W.chk_ok h.hz)
    · have := h.cn; omega
    · have := h.ln; omega
    · obtain ⟨l, hl, h2⟩ := List.any_eq_true.1 h1
      rw [h.lk l hl] at h2; cases h2
    · obtain ⟨c, hc, h2⟩ := List.any_eq_true.1 h1
      rw [h.gd c hc] at h2; cases h2
/-- what a link's A is closed by -/
def shutL (N : NetP) (l : Lk) : W.Row := (N.cs[l.a.toNat]?).getD []
def mayL (N : NetP) (l : Lk) (t : Int) : Bool := decide (l.len ≤ N.hz) && decide (t ≤ N.hz - l.len) && !W.has (shutL N l) t && (if l.door then W.has l.op t else decide (W.gap l.cl t l.len = t))
def candL (N : NetP) (l : Lk) (t : Int) : List Int := t :: ((shutL N l).map Prod.snd ++ l.op.map Prod.fst ++ l.cl.map Prod.snd)
def pickL (N : NetP) (l : Lk) (t : Int) (best y : Int) : Int := if t ≤ y ∧ y < best ∧ mayL N l y = true then y else best
def firstL (N : NetP) (l : Lk) (t : Int) : Int := (candL N l t).foldl (pickL N l t) W.inf
def toL (N : NetP) (l : Lk) (t : Int) : Int := if firstL N l t = W.inf then W.inf else firstL N l t + l.len
/-- what the function answers -/
def askF (N : NetP) (i t : Int) : Bool := decide (chkN N = 0 ∧ (0 ≤ i ∧ i < N.ls.length) ∧ W.chk t = 0)
def atF (N : NetP) (i t : Int) : Int := if askF N i t then (match N.ls[i.toNat]? with | some l => firstL N l t | none => W.inf) else W.inf
def toF (N : NetP) (i t : Int) : Int := if askF N i t then (match N.ls[i.toNat]? with | some l => toL N l t | none => W.inf) else W.inf
def mayF (N : NetP) (i t : Int) : Bool := decide (atF N i t = t ∧ atF N i t ≠ W.inf)
theorem good_nil : W.good [] = true := rfl
section
variable {N : NetP} {l : Lk} {t y z : Int}
theorem shut_good (h : OkN N) (l : Lk) : W.good (shutL N l) = true := by
  unfold shutL
  cases hc : N.cs[l.a.toNat]? with
  | none => rfl
  | some c => exact h.gd c (List.mem_of_getElem? hc)
/-- when a link may be taken -/
theorem may_iff (h : OkN N) (hl : okL N.cs.length l = true) (ht : 0 ≤ t) : mayL N l t = true ↔ t + l.len ≤ N.hz ∧ ¬ W.inRow (shutL N l) t ∧ (l.door = true → W.inRow l.op t) ∧ (l.door = false → ∀ (i : Nat) (a b : Int), l.cl[i]? = some (a, b) → ¬ (a < t + l.len ∧ t < b)) := by
  obtain ⟨_, _, _, k1, k2, k3, k4, _, _⟩ := okL_iff.1 hl
  have hz := h.hz
  by_cases h1 : t + l.len ≤ N.hz
  · have htt : 0 ≤ t ∧ t ≤ 1099511627776 := ⟨ht, by omega⟩
    have e1 : mayL N l t = (!W.has (shutL N l) t && (if l.door then W.has l.op t else decide (W.gap l.cl t l.len = t))) := by
      unfold mayL
      rw [decide_eq_true (by omega : l.len ≤ N.hz), decide_eq_true (by omega : t ≤ N.hz - l.len)]
      rfl
    rw [e1, Bool.and_eq_true, Bool.not_eq_true']
    have s1 : W.has (shutL N l) t = false ↔ ¬ W.inRow (shutL N l) t := by
      rw [← W.has_iff (shut_good h l) htt]; simp
    rw [s1]
    have s2 : (if l.door then W.has l.op t else decide (W.gap l.cl t l.len = t)) = true ↔ (l.door = true → W.inRow l.op t) ∧ (l.door = false → ∀ (i : Nat) (a b : Int), l.cl[i]? = some (a, b) → ¬ (a < t + l.len ∧ t < b)) := by
      cases hd : l.door with
      | true =>
        rw [if_pos rfl, W.has_iff k3 htt]
        exact ⟨fun h => ⟨fun _ => h, fun e => by cases e⟩, fun h => h.1 rfl⟩
      | false =>
        rw [if_neg (by simp), decide_eq_true_iff]
        obtain ⟨g1, g2, g3, _⟩ := W.gap_spec k4 htt (n := l.len) ⟨k1, k2⟩
        refine ⟨fun e => ⟨fun e => (by cases e), fun _ i a b hi => ?_⟩, fun hh => ?_⟩
        · have := g2 i a b hi
          rw [e] at this
          exact this
        · rcases Int.lt_or_le t (W.gap l.cl t l.len) with h2 | h2
          · obtain ⟨i, a, b, h3, h4, h5⟩ := g3 t (Int.le_refl _) h2
            exact absurd ⟨h4, h5⟩ (hh.2 rfl i a b h3)
          · omega
    rw [s2]
    exact ⟨fun h => ⟨h1, h.1, h.2⟩, fun h => ⟨h.2.1, h.2.2⟩⟩
  · constructor
    · intro hm
      exfalso
      unfold mayL at hm
      simp only [Bool.and_eq_true, decide_eq_true_iff] at hm
      omega
    · intro hh; exact absurd hh.1 h1
/-- where a link comes to be open a window ends or begins -/
theorem may_cand (h : OkN N) (hl : okL N.cs.length l = true) (ht : 0 ≤ t) (hty : t < y) (hm : mayL N l y = true) (hn : mayL N l (y - 1) = false) : y ∈ candL N l t := by
  have hy0 : 0 ≤ y := by omega
  obtain ⟨m1, m2, m3, m4⟩ := (may_iff h hl hy0).1 hm
  have hn' : ¬ mayL N l (y - 1) = true := by rw [hn]; simp
  rw [may_iff h hl (by omega : 0 ≤ y - 1)] at hn'
  unfold candL
  rw [List.mem_cons]
  right
  rw [List.mem_append, List.mem_append]
  by_cases s1 : W.inRow (shutL N l) (y - 1)
  · obtain ⟨i, a, b, hi, h1, h2⟩ := s1
    have hb : b = y := by
      have : ¬ (a ≤ y ∧ y < b) := fun hh => m2 ⟨i, a, b, hi, hh.1, hh.2⟩
      omega
    subst hb
    exact .inl (.inl (List.mem_map.2 ⟨(a, b), List.mem_of_getElem? hi, rfl⟩))
  · cases hd : l.door with
    | true =>
      obtain ⟨i, a, b, hi, h1, h2⟩ := m3 hd
      by_cases ha : a = y
      · subst ha
        exact .inl (.inr (List.mem_map.2 ⟨(a, b), List.mem_of_getElem? hi, rfl⟩))
      · exact absurd ⟨by omega, s1, fun _ => ⟨i, a, b, hi, by omega, by omega⟩, fun e => by rw [hd] at e; cases e⟩ hn'
    | false =>
      right
      by_cases s2 : ∃ (i : Nat) (a b : Int), l.cl[i]? = some (a, b) ∧ a < y - 1 + l.len ∧ y - 1 < b
      · obtain ⟨i, a, b, hi, h1, h2⟩ := s2
        have := m4 hd i a b hi
        have hb : b = y := by omega
        subst hb
        exact List.mem_map.2 ⟨(a, b), List.mem_of_getElem? hi, rfl⟩
      · exact absurd ⟨by omega, s1, fun e => (by rw [hd] at e; cases e), fun _ i a b hi hh => s2 ⟨i, a, b, hi, hh.1, hh.2⟩⟩ hn'
theorem may_down (h : OkN N) (hl : okL N.cs.length l = true) (ht : 0 ≤ t) : ∀ (k : Nat) (y : Int), t ≤ y → (y - t).toNat ≤ k → mayL N l y = true → ∃ z ∈ candL N l t, t ≤ z ∧ z ≤ y ∧ mayL N l z = true
  | 0, y, hy, hk, hm => ⟨y, by unfold candL; rw [List.mem_cons]; left; omega, hy, Int.le_refl _, hm⟩
  | k + 1, y, hy, hk, hm => by
    by_cases he : y = t
    · exact ⟨y, by unfold candL; rw [List.mem_cons]; left; exact he, hy, Int.le_refl _, hm⟩
    · cases hp : mayL N l (y - 1) with
      | true =>
        obtain ⟨z, h1, h2, h3, h4⟩ := may_down h hl ht k (y - 1) (by omega) (by omega) hp
        exact ⟨z, h1, h2, by omega, h4⟩
      | false => exact ⟨y, may_cand h hl ht (by omega) hm hp, hy, Int.le_refl _, hm⟩
theorem pick_spec (N : NetP) (l : Lk) (t : Int) : ∀ (c : List Int) (b : Int), (c.foldl (pickL N l t) b = b ∨ (c.foldl (pickL N l t) b ∈ c ∧ t ≤ c.foldl (pickL N l t) b ∧ mayL N l (c.foldl (pickL N l t) b) = true)) ∧ c.foldl (pickL N l t) b ≤ b ∧ ∀ y ∈ c, t ≤ y → mayL N l y = true → c.foldl (pickL N l t) b ≤ y
  | [], b => ⟨.inl rfl, Int.le_refl _, fun y hy => by cases hy⟩
  | x :: c, b => by
    rw [List.foldl_cons]
    obtain ⟨i1, i2, i3⟩ := pick_spec N l t c (pickL N l t b x)
    by_cases hx : t ≤ x ∧ x < b ∧ mayL N l x = true
    · have e : pickL N l t b x = x := if_pos hx
      rw [e] at i1 i2 i3 ⊢
      refine ⟨.inr ?_, by omega, fun y hy h1 h2 => ?_⟩
      · rcases i1 with i1 | ⟨i1, i4, i5⟩
        · rw [i1]; exact ⟨List.mem_cons_self .., hx.1, hx.2.2⟩
        · exact ⟨List.mem_cons_of_mem _ i1, i4, i5⟩
      · rcases List.mem_cons.1 hy with rfl | hy
        · exact i2
        · exact i3 y hy h1 h2
    · have e : pickL N l t b x = b := if_neg hx
      rw [e] at i1 i2 i3 ⊢
      refine ⟨?_, i2, fun y hy h1 h2 => ?_⟩
      · rcases i1 with i1 | ⟨i1, i4⟩
        · exact .inl i1
        · exact .inr ⟨List.mem_cons_of_mem _ i1, i4⟩
      · rcases List.mem_cons.1 hy with rfl | hy
        · have : ¬ y < b := fun hh => hx ⟨h1, hh, h2⟩
          omega
        · exact i3 y hy h1 h2
theorem inf_big : (1099511627776 : Int) < W.inf := by decide
theorem may_top (h : OkN N) (hl : okL N.cs.length l = true) (ht : 0 ≤ t) (hm : mayL N l t = true) : t + l.len ≤ N.hz := ((may_iff h hl ht).1 hm).1
/-- the first tick at which it may be taken -/
theorem first_spec (h : OkN N) (hl : okL N.cs.length l = true) (ht : 0 ≤ t) :
    (firstL N l t = W.inf ∧ ∀ y, t ≤ y → mayL N l y = false) ∨ (t ≤ firstL N l t ∧ firstL N l t + l.len ≤ N.hz ∧ mayL N l (firstL N l t) = true ∧ ∀ y, t ≤ y → y < firstL N l t → mayL N l y = false) := by
  obtain ⟨i1, i2, i3⟩ := pick_spec N l t (candL N l t) W.inf
  have key : ∀ y, t ≤ y → mayL N l y = true → firstL N l t ≤ y := fun y hy hm => by
    obtain ⟨z, h1, h2, h3, h4⟩ := may_down h hl ht _ y hy (Nat.le_refl _) hm
    have := i3 z h1 h2 h4
    unfold firstL
    omega
  have hlen := (okL_iff.1 hl).2.2.2.1
  have hz := h.hz
  rcases i1 with i1 | ⟨_, i4, i5⟩
  · refine .inl ⟨i1, fun y hy => ?_⟩
    cases hm : mayL N l y with
    | false => rfl
    | true =>
      have h1 := key y hy hm
      have h2 := may_top h hl (by omega) hm
      have h3 := inf_big
      unfold firstL at h1
      rw [i1] at h1
      omega
  · refine .inr ⟨i4, may_top h hl (Int.le_trans ht i4) i5, i5, fun y hy hlt => ?_⟩
    cases hm : mayL N l y with
    | false => rfl
    | true => have h1 := key y hy hm; omega
/-- told from what is so of it -/
theorem first_at (h : OkN N) (hl : okL N.cs.length l = true) (ht : 0 ≤ t) (hty : t ≤ y) (hm : mayL N l y = true) (hn : ∀ z, t ≤ z → z < y → mayL N l z = false) : firstL N l t = y := by
  rcases first_spec h hl ht with ⟨_, h1⟩ | ⟨h1, _, h2, h3⟩
  · rw [h1 y hty] at hm; cases hm
  · rcases Int.lt_trichotomy (firstL N l t) y with h4 | h4 | h4
    · rw [hn _ h1 h4] at h2; cases h2
    · exact h4
    · rw [h3 y hty h4] at hm; cases hm
theorem first_no (h : OkN N) (hl : okL N.cs.length l = true) (ht : 0 ≤ t) (hn : ∀ z, t ≤ z → mayL N l z = false) : firstL N l t = W.inf := by
  rcases first_spec h hl ht with ⟨h1, _⟩ | ⟨h1, _, h2, _⟩
  · exact h1
  · rw [hn _ h1] at h2; cases h2
theorem first_mono (h : OkN N) (hl : okL N.cs.length l = true) (ht : 0 ≤ t) (hty : t ≤ y) : firstL N l t ≤ firstL N l y := by
  have hz := h.hz
  have hlen := (okL_iff.1 hl).2.2.2.1
  have h9 := inf_big
  rcases first_spec h hl (t := y) (by omega) with ⟨h1, _⟩ | ⟨h1, h1b, h2, _⟩
  · rw [h1]
    rcases first_spec h hl ht with ⟨h3, _⟩ | ⟨_, h4, _⟩ <;> omega
  · rcases first_spec h hl ht with ⟨_, h4⟩ | ⟨_, _, _, h4⟩
    · rw [h4 _ (by omega)] at h2; cases h2
    · rcases Int.lt_or_le (firstL N l y) (firstL N l t) with h5 | h5
      · rw [h4 _ (by omega) h5] at h2; cases h2
      · exact h5
theorem to_spec (h : OkN N) (hl : okL N.cs.length l = true) (ht : 0 ≤ t) : (toL N l t = W.inf ∧ firstL N l t = W.inf) ∨ (toL N l t = firstL N l t + l.len ∧ t ≤ firstL N l t ∧ t < toL N l t ∧ toL N l t ≤ N.hz ∧ firstL N l t ≠ W.inf) := by
  have hz := h.hz
  have hlen := (okL_iff.1 hl).2.2.2.1
  have h9 := inf_big
  unfold toL
  rcases first_spec h hl ht with ⟨h1, _⟩ | ⟨h1, h2, _⟩
  · rw [if_pos h1]; exact .inl ⟨rfl, h1⟩
  · rw [if_neg (by omega)]; exact .inr ⟨rfl, h1, by omega, h2, by omega⟩
theorem to_mono (h : OkN N) (hl : okL N.cs.length l = true) (ht : 0 ≤ t) (hty : t ≤ y) : toL N l t ≤ toL N l y := by
  have hz := h.hz
  have h9 := inf_big
  have h1 := first_mono h hl ht hty
  rcases to_spec h hl ht with ⟨h2, h3⟩ | ⟨h2, _, _, h3, _⟩
  · rcases to_spec h hl (t := y) (by omega) with ⟨h4, _⟩ | ⟨h4, _, _, h5, h6⟩
    · omega
    · have : firstL N l y < W.inf := by have := (okL_iff.1 hl).2.2.2.1; omega
      omega
  · rcases to_spec h hl (t := y) (by omega) with ⟨h4, _⟩ | ⟨h4, _, _, h5, h6⟩ <;> omega
theorem to_gt (h : OkN N) (hl : okL N.cs.length l = true) (ht : 0 ≤ t) (ht2 : t ≤ 1099511627776) : t < toL N l t := by
  have h9 := inf_big
  rcases to_spec h hl ht with ⟨h2, h3⟩ | ⟨h2, _, h4, _⟩ <;> omega
/-- what the movers of the search do -/
theorem mv_shut (h : OkN N) (hl : okL N.cs.length l = true) (ht : 0 ≤ t ∧ t ≤ 1099511627776) (hty : t ≤ y) (hy : y < W.free (shutL N l) t) : mayL N l y = false := by
  cases hm : mayL N l y with
  | false => rfl
  | true =>
    obtain ⟨_, h2, _⟩ := (may_iff h hl (by omega)).1 hm
    have := W.free_least (shut_good h l) ht hty h2
    omega
theorem mv_open (h : OkN N) (hl : okL N.cs.length l = true) (hd : l.door = true) (ht : 0 ≤ t ∧ t ≤ 1099511627776) (hty : t ≤ y) (hy : y < W.next l.op t) : mayL N l y = false := by
  cases hm : mayL N l y with
  | false => rfl
  | true =>
    obtain ⟨_, _, h2, _⟩ := (may_iff h hl (by omega)).1 hm
    have := W.next_least (okL_iff.1 hl).2.2.2.2.2.1 ht hty (h2 hd)
    omega
theorem mv_gap (h : OkN N) (hl : okL N.cs.length l = true) (hd : l.door = false) (ht : 0 ≤ t ∧ t ≤ 1099511627776) (hty : t ≤ y) (hy : y < W.gap l.cl t l.len) : mayL N l y = false := by
  cases hm : mayL N l y with
  | false => rfl
  | true =>
    obtain ⟨_, _, _, h2⟩ := (may_iff h hl (by omega)).1 hm
    obtain ⟨_, _, _, k1, k2, _, k4, _⟩ := okL_iff.1 hl
    obtain ⟨i, a, b, h3, h4⟩ := (W.gap_spec k4 ht (n := l.len) ⟨k1, k2⟩).2.2.1 y hty hy
    exact absurd h4 (h2 hd i a b h3)
theorem mv_end (h : OkN N) (hl : okL N.cs.length l = true) (ht : 0 ≤ t) (hlast : t ≤ N.hz - l.len) (h1 : W.free (shutL N l) t = t) (h2 : l.door = true → W.next l.op t = t) (h3 : l.door = false → W.gap l.cl t l.len = t) : mayL N l t = true := by
  obtain ⟨_, _, _, k1, k2, k3, k4, _⟩ := okL_iff.1 hl
  have hz := h.hz
  have htt : 0 ≤ t ∧ t ≤ 1099511627776 := ⟨ht, by omega⟩
  rw [may_iff h hl ht]
  refine ⟨by omega, ?_, fun hd => ?_, fun hd i a b hi => ?_⟩
  · have := W.free_not (shut_good h l) htt
    rwa [h1] at this
  · have := W.next_has k3 htt (by rw [h2 hd]; exact htt.2)
    rw [h2 hd] at this
    exact (W.has_iff k3 htt).1 this
  · have := (W.gap_spec k4 htt (n := l.len) ⟨k1, k2⟩).2.1 i a b hi
    rw [h3 hd] at this
    exact this
theorem may_late (h : OkN N) (hl : okL N.cs.length l = true) (ht : 0 ≤ t) (hlast : N.hz - l.len < t) : mayL N l t = false := by
  cases hm : mayL N l t with
  | false => rfl
  | true => have := may_top h hl ht hm; omega
end
end Go.Proofs.Ytonkkibnigdfbaa
namespace Go.Proofs.Ytonkkibnigdfbaa
set_option linter.unusedVariables false
set_option linter.unusedSimpArgs false
def lab (D : List Int) (s : Nat) : Int := (D[s]?).getD W.inf
theorem lab_at {D : List Int} {s : Nat} {x : Int} (h : D[s]? = some x) : lab D s = x := by unfold lab; rw [h]; rfl
theorem lab_no {D : List Int} {s : Nat} (h : D.length ≤ s) : lab D s = W.inf := by unfold lab; rw [List.getElem?_eq_none h]; rfl
theorem lab_get {D : List Int} {s : Nat} (h : s < D.length) : D[s]? = some (lab D s) := by unfold lab; rw [List.getElem?_eq_getElem h]; rfl
theorem lab_set {D : List Int} {s i : Nat} {v : Int} (h : s < D.length) : lab (D.set s v) i = if i = s then v else lab D i := by
  unfold lab
  rw [List.getElem?_set]
  by_cases hi : s = i
  · subst hi; rw [if_pos rfl, if_pos h, if_pos rfl]; rfl
  · rw [if_neg hi, if_neg (fun e => hi e.symm)]
theorem lab_ext {D E : List Int} (hl : D.length = E.length) (h : ∀ s, lab D s = lab E s) : D = E := by
  refine List.ext_getElem? fun i => ?_
  by_cases hi : i < D.length
  · rw [lab_get hi, lab_get (by omega), h i]
  · rw [List.getElem?_eq_none (by omega), List.getElem?_eq_none (by omega)]
def LabsOk (N : NetP) (D : List Int) : Prop := D.length = N.cs.length ∧ ∀ x ∈ D, x = W.inf ∨ (0 ≤ x ∧ x ≤ N.hz)
theorem LabsOk.at {N : NetP} {D : List Int} (h : LabsOk N D) (s : Nat) : lab D s = W.inf ∨ (0 ≤ lab D s ∧ lab D s ≤ N.hz) := by
  by_cases hs : s < D.length
  · exact h.2 _ (List.mem_of_getElem? (lab_get hs))
  · exact .inl (lab_no (by omega))
theorem LabsOk.fin {N : NetP} {D : List Int} (h : LabsOk N D) {s : Nat} (hne : lab D s ≠ W.inf) : 0 ≤ lab D s ∧ lab D s ≤ N.hz := (h.at s).resolve_left hne
theorem LabsOk.set {N : NetP} {D : List Int} (h : LabsOk N D) {s : Nat} {v : Int} (hv : v = W.inf ∨ (0 ≤ v ∧ v ≤ N.hz)) : LabsOk N (D.set s v) :=
  ⟨by rw [List.length_set]; exact h.1, fun x hx => (List.mem_or_eq_of_mem_set hx).elim (h.2 x) (fun e => e ▸ hv)⟩
def ClosedN (N : NetP) (D : List Int) : Prop := ∀ l ∈ N.ls, lab D l.a.toNat ≠ W.inf → lab D l.b.toNat ≤ toL N l (lab D l.a.toNat)
/-- labels spread: the greatest row that is closed, and nowhere above -/
structure Spr (N : NetP) (arr D : List Int) : Prop where
  ok : LabsOk N D
  le : ∀ s, lab D s ≤ lab arr s
  cl : ClosedN N D
  gr : ∀ E, LabsOk N E → ClosedN N E → (∀ s, lab E s ≤ lab arr s) → ∀ s, lab E s ≤ lab D s
structure Sea (N : NetP) (arr D : List Int) (S : List It) (a : Int) (j : Nat) : Prop where
  ok : LabsOk N D
  le : ∀ s, lab D s ≤ lab arr s
  gr : ∀ E, LabsOk N E → ClosedN N E → (∀ s, lab E s ≤ lab arr s) → ∀ s, lab E s ≤ lab D s
  it : ∀ x ∈ S, ∃ i : Nat, x.2 = (i : Int) ∧ D[i]? = some x.1 ∧ x.1 ≠ W.inf
  nd : (S.map Prod.snd).Nodup
  pop : ∀ (i : Nat) (l : Lk), N.ls[i]? = some l → lab D l.a.toNat ≠ W.inf → (lab D l.a.toNat, l.a) ∈ S ∨ lab D l.b.toNat ≤ toL N l (lab D l.a.toNat) ∨ (l.a = a ∧ j ≤ i)
def potN (N : NetP) (D : List Int) : Nat := (D.map fun x => (min x (N.hz + 1)).toNat).sum
theorem sum_set : ∀ (f : Int → Nat) (D : List Int) (s : Nat) (x v : Int), D[s]? = some x → f v < f x → ((D.set s v).map f).sum + 1 ≤ (D.map f).sum
  | f, [], s, x, v, h, hf => by simp at h
  | f, y :: D, 0, x, v, h, hf => by
    simp at h; subst h
    simp only [List.set_cons_zero, List.map_cons, List.sum_cons]
    omega
  | f, y :: D, s + 1, x, v, h, hf => by
    have := sum_set f D s x v (by simpa using h) hf
    simp only [List.set_cons_succ, List.map_cons, List.sum_cons]
    omega
/-- the finite ones of the first k, as items -/
def itemsTo (arr : List Int) (k : Nat) : List It := (List.range k).filterMap fun s => if lab arr s = W.inf then none else some (lab arr s, (s : Int))
theorem itemsTo_snoc (arr : List Int) (k : Nat) : itemsTo arr (k + 1) = itemsTo arr k ++ (if lab arr k = W.inf then [] else [(lab arr k, (k : Int))]) := by
  unfold itemsTo
  rw [List.range_succ, List.filterMap_append]
  congr 1
  by_cases h : lab arr k = W.inf <;> simp [h]
theorem itemsTo_mem {arr : List Int} {k : Nat} {x : It} : x ∈ itemsTo arr k ↔ ∃ s : Nat, s < k ∧ lab arr s ≠ W.inf ∧ x = (lab arr s, (s : Int)) := by
  unfold itemsTo
  rw [List.mem_filterMap]
  constructor
  · rintro ⟨s, hs, h⟩
    rw [List.mem_range] at hs
    by_cases hi : lab arr s = W.inf
    · rw [if_pos hi] at h; cases h
    · rw [if_neg hi] at h; exact ⟨s, hs, hi, (Option.some.inj h).symm⟩
  · rintro ⟨s, hs, hi, rfl⟩
    exact ⟨s, List.mem_range.2 hs, by rw [if_neg hi]⟩
theorem itemsTo_nd (arr : List Int) : ∀ k, ((itemsTo arr k).map Prod.snd).Nodup
  | 0 => by simp [itemsTo]
  | k + 1 => by
    rw [itemsTo_snoc, List.map_append, List.nodup_append]
    refine ⟨itemsTo_nd arr k, by split <;> simp, fun a ha b hb => ?_⟩
    obtain ⟨x, hx, rfl⟩ := List.mem_map.1 ha
    obtain ⟨s, hs, _, rfl⟩ := itemsTo_mem.1 hx
    split at hb
    · simp at hb
    · simp at hb; subst hb; simp only; omega
theorem itemsTo_len (arr : List Int) : ∀ k, (itemsTo arr k).length ≤ k
  | 0 => by simp [itemsTo]
  | k + 1 => by
    rw [itemsTo_snoc, List.length_append]
    have := itemsTo_len arr k
    split <;> simp <;> omega
theorem itemsTo_new {arr : List Int} {k : Nat} : ∀ x ∈ itemsTo arr k, x.2 ≠ (k : Int) := fun x hx => by
  obtain ⟨s, hs, _, rfl⟩ := itemsTo_mem.1 hx
  simp only
  omega
section
variable {N : NetP} {arr D : List Int} {S S2 : List It} {a : Int} {j : Nat}
theorem Sea.start (h : OkN N) (hk : LabsOk N arr) : Sea N arr arr (itemsTo arr arr.length) (-1) 0 := by
  refine ⟨hk, fun s => Int.le_refl _, fun E _ _ h => h, fun x hx => ?_, itemsTo_nd arr _, fun i l hl hne => ?_⟩
  · obtain ⟨s, hs, hi, rfl⟩ := itemsTo_mem.1 hx
    exact ⟨s, rfl, lab_get hs, hi⟩
  · left
    have hok := okL_iff.1 (h.lk l (List.mem_of_getElem? hl))
    refine itemsTo_mem.2 ⟨l.a.toNat, ?_, hne, by rw [Int.toNat_of_nonneg hok.1.1]⟩
    rcases Nat.lt_or_ge l.a.toNat arr.length with h1 | h1
    · exact h1
    · exact absurd (lab_no h1) hne
theorem Sea.perm (h : Sea N arr D S a j) (hp : S.Perm S2) : Sea N arr D S2 a j :=
  ⟨h.ok, h.le, h.gr, fun x hx => h.it x (hp.mem_iff.2 hx), (hp.map _).nodup_iff.1 h.nd, fun i l hl hne => (h.pop i l hl hne).imp hp.mem_iff.1 id⟩
theorem Sea.out {x : It} (h : Sea N arr D (x :: S) (-1) 0) (hN : OkN N) : ∃ a : Nat, x.2 = (a : Int) ∧ a < N.cs.length ∧ D[a]? = some x.1 ∧ x.1 ≠ W.inf ∧ (∀ y ∈ S, y.2 ≠ (a : Int)) ∧ Sea N arr D S a 0 := by
  obtain ⟨a, ha, hd, hne⟩ := h.it x (List.mem_cons_self ..)
  have hnd := h.nd
  rw [List.map_cons, List.nodup_cons] at hnd
  refine ⟨a, ha, by rw [← h.ok.1]; exact (List.getElem?_eq_some_iff.1 hd).1, hd, hne, fun y hy e => hnd.1 (List.mem_map.2 ⟨y, hy, by rw [e, ha]⟩), h.ok, h.le, h.gr, fun y hy => h.it y (List.mem_cons_of_mem _ hy), hnd.2, fun i l hl hl2 => ?_⟩
  rcases h.pop i l hl hl2 with h1 | h1 | ⟨h1, _⟩
  · rcases List.mem_cons.1 h1 with h1 | h1
    · refine .inr (.inr ⟨?_, Nat.zero_le _⟩)
      have := congrArg Prod.snd h1
      simp only at this
      omega
    · exact .inl h1
  · exact .inr (.inl h1)
  · have := (okL_iff.1 (hN.lk l (List.mem_of_getElem? hl))).1.1
    omega
theorem Sea.skip {l : Lk} (h : Sea N arr D S a j) (hl : N.ls[j]? = some l) (hs : l.a ≠ a ∨ lab D l.b.toNat ≤ toL N l (lab D l.a.toNat)) : Sea N arr D S a (j + 1) := by
  refine ⟨h.ok, h.le, h.gr, h.it, h.nd, fun i l' hl' hne => ?_⟩
  rcases h.pop i l' hl' hne with h1 | h1 | ⟨h1, h2⟩
  · exact .inl h1
  · exact .inr (.inl h1)
  · by_cases hi : i = j
    · subst hi
      rw [hl] at hl'; cases hl'
      rcases hs with hs | hs
      · exact absurd h1 hs
      · exact .inr (.inl hs)
    · exact .inr (.inr ⟨h1, by omega⟩)
theorem Sea.fin (h : Sea N arr D S a N.ls.length) : Sea N arr D S (-1) 0 := by
  refine ⟨h.ok, h.le, h.gr, h.it, h.nd, fun i l hl hne => ?_⟩
  rcases h.pop i l hl hne with h1 | h1 | ⟨_, h1⟩
  · exact .inl h1
  · exact .inr (.inl h1)
  · have := (List.getElem?_eq_some_iff.1 hl).1
    omega
theorem Sea.done (h : Sea N arr D [] (-1) 0) (hN : OkN N) : Spr N arr D :=
  ⟨h.ok, h.le, fun l hl hne => by
    obtain ⟨i, hi⟩ := List.getElem?_of_mem hl
    rcases h.pop i l hi hne with h1 | h1 | ⟨h1, _⟩
    · cases h1
    · exact h1
    · have := (okL_iff.1 (hN.lk l hl)).1.1
      omega, h.gr⟩
/-- where a stop stands in the heap -/
theorem Sea.where {b : Nat} (h : Sea N arr D S a j) : (∀ x ∈ S, x.2 ≠ (b : Int)) ∨ ∃ S0, S.Perm ((lab D b, (b : Int)) :: S0) ∧ ∀ y ∈ S0, y.2 ≠ (b : Int) := by
  by_cases hx : ∃ x ∈ S, x.2 = (b : Int)
  · right
    obtain ⟨x, hx, hxb⟩ := hx
    obtain ⟨i, h1, h2, h3⟩ := h.it x hx
    have hib : i = b := by omega
    subst hib
    have hxe : x = (lab D i, (i : Int)) := by rw [lab_at h2]; exact Prod.ext rfl h1
    obtain ⟨S1, S2, rfl⟩ := List.append_of_mem hx
    rw [hxe] at *
    have hp : (S1 ++ (lab D i, (i : Int)) :: S2).Perm ((lab D i, (i : Int)) :: (S1 ++ S2)) := List.perm_middle
    refine ⟨S1 ++ S2, hp, fun y hy e => ?_⟩
    have hnd := (hp.map Prod.snd).nodup_iff.1 h.nd
    rw [List.map_cons, List.nodup_cons] at hnd
    exact hnd.1 (List.mem_map.2 ⟨y, hy, e⟩)
  · exact .inl fun x hx' e => hx ⟨x, hx', e⟩
/-- a link by which a label falls -/
theorem Sea.low {l : Lk} {S0 : List It} (h : Sea N arr D S a j) (hN : OkN N) (hl : N.ls[j]? = some l) (hla : l.a = a) (hne : lab D l.a.toNat ≠ W.inf) (hlt : toL N l (lab D l.a.toNat) < lab D l.b.toNat)
    (hS : ∀ y ∈ S, y.2 ≠ l.b → y ∈ S0) (hS2 : ∀ y ∈ S0, y ∈ S ∧ y.2 ≠ l.b) (hnd : (S0.map Prod.snd).Nodup) (hlen : S0.length ≤ S.length) :
    Sea N arr (D.set l.b.toNat (toL N l (lab D l.a.toNat))) ((toL N l (lab D l.a.toNat), l.b) :: S0) a (j + 1) ∧
    2 * potN N (D.set l.b.toNat (toL N l (lab D l.a.toNat))) + (((toL N l (lab D l.a.toNat), l.b) :: S0 : List It).length) + 1 ≤ 2 * potN N D + S.length ∧ lab (D.set l.b.toNat (toL N l (lab D l.a.toNat))) l.a.toNat = lab D l.a.toNat ∧ 0 ≤ toL N l (lab D l.a.toNat) ∧ toL N l (lab D l.a.toNat) ≤ N.hz ∧ l.b.toNat < D.length := by
  have hmem := List.mem_of_getElem? hl
  have hok := hN.lk l hmem
  obtain ⟨⟨a1, a2⟩, ⟨b1, b2⟩, hab, k1, k2, _⟩ := okL_iff.1 hok
  have hz := hN.hz
  have h9 := inf_big
  have hk : 0 ≤ lab D l.a.toNat ∧ lab D l.a.toNat ≤ N.hz := h.ok.fin hne
  have hlb : lab D l.b.toNat ≤ W.inf := by rcases h.ok.at l.b.toNat with h1 | h1 <;> omega
  obtain ⟨e1, e2, e3, e4, e5⟩ : toL N l (lab D l.a.toNat) = firstL N l (lab D l.a.toNat) + l.len ∧ lab D l.a.toNat ≤ firstL N l (lab D l.a.toNat) ∧ lab D l.a.toNat < toL N l (lab D l.a.toNat) ∧ toL N l (lab D l.a.toNat) ≤ N.hz ∧ firstL N l (lab D l.a.toNat) ≠ W.inf := by
    rcases to_spec hN hok hk.1 with ⟨h1, _⟩ | h1
    · omega
    · exact h1
  have hbn : l.b.toNat < D.length := by rw [h.ok.1]; omega
  have hDb := lab_get hbn
  have hnab : l.a.toNat ≠ l.b.toNat := by omega
  obtain ⟨v, hv⟩ : ∃ v, toL N l (lab D l.a.toNat) = v := ⟨_, rfl⟩
  have hvm : ∀ E, LabsOk N E → ClosedN N E → (∀ s, lab E s ≤ lab arr s) → lab E l.b.toNat ≤ v := fun E hE hC hle => by
    have h1 := h.gr E hE hC hle l.a.toNat
    have h2 : lab E l.a.toNat ≠ W.inf := by omega
    have h3 : 0 ≤ lab E l.a.toNat := (hE.fin h2).1
    have h4 := hC l hmem h2
    have h5 := to_mono hN hok h3 h1
    omega
  rw [hv] at e1 e3 e4 hlt ⊢
  have hls : ∀ i, lab (D.set l.b.toNat v) i = if i = l.b.toNat then v else lab D i := fun i => lab_set hbn
  refine ⟨⟨h.ok.set (.inr ⟨by omega, e4⟩), fun s => ?_, fun E hE hC hle s => ?_, fun x hx => ?_, ?_, fun i l' hl' hne' => ?_⟩, ?_, by rw [hls, if_neg hnab], by omega, e4, hbn⟩
  · rw [hls]
    have := h.le s
    split
    · rename_i hs; subst hs; omega
    · exact this
  · rw [hls]
    split
    · rename_i hs; subst hs; exact hvm E hE hC hle
    · exact h.gr E hE hC hle s
  · rcases List.mem_cons.1 hx with rfl | hx
    · exact ⟨l.b.toNat, by show l.b = _; rw [Int.toNat_of_nonneg b1], by rw [List.getElem?_set, if_pos rfl, if_pos hbn], by show v ≠ W.inf; omega⟩
    · obtain ⟨hxS, hxb⟩ := hS2 x hx
      obtain ⟨i, h1, h2, h3⟩ := h.it x hxS
      exact ⟨i, h1, by rw [List.getElem?_set, if_neg (by omega)]; exact h2, h3⟩
  · rw [List.map_cons, List.nodup_cons]
    refine ⟨fun hm => ?_, hnd⟩
    obtain ⟨y, hy, hyb⟩ := List.mem_map.1 hm
    exact (hS2 y hy).2 hyb
  · rw [hls, hls]
    rw [hls] at hne'
    have hok' := okL_iff.1 (hN.lk l' (List.mem_of_getElem? hl'))
    by_cases hA : l'.a.toNat = l.b.toNat
    · left
      rw [if_pos hA]
      have : l'.a = l.b := by have := hok'.1.1; omega
      rw [this]
      exact List.mem_cons_self ..
    · rw [if_neg hA] at hne' ⊢
      have key : ∀ u, lab D l'.b.toNat ≤ u → (if l'.b.toNat = l.b.toNat then v else lab D l'.b.toNat) ≤ u := fun u hu => by
        split
        · rename_i hs; rw [hs] at hu; omega
        · exact hu
      rcases h.pop i l' hl' hne' with h1 | h1 | ⟨h1, h2⟩
      · left
        exact List.mem_cons_of_mem _ (hS _ h1 (fun e => hA (by simp only at e; rw [e])))
      · exact .inr (.inl (key _ h1))
      · by_cases hi : i = j
        · subst hi
          rw [hl] at hl'; cases hl'
          right; left
          rw [if_pos rfl, hv]
          exact Int.le_refl _
        · exact .inr (.inr ⟨h1, by omega⟩)
  · have hsum := sum_set (fun x => (min x (N.hz + 1)).toNat) D l.b.toNat _ v hDb (by omega)
    unfold potN
    simp only [List.length_cons]
    omega
end
section
variable {N N' : NetP} {arr arr' D D' E : List Int}
theorem Spr.uniq (h : Spr N arr D) (h' : Spr N arr D') : D = D' := by
  refine lab_ext (by rw [h.ok.1, h'.ok.1]) fun s => ?_
  have h1 := h.gr D' h'.ok h'.cl h'.le s
  have h2 := h'.gr D h.ok h.cl h.le s
  omega
/-- each label that fell is come to by a link -/
theorem Spr.sup (h : Spr N arr D) (hN : OkN N) (ha : LabsOk N arr) {s : Nat} (hs : s < D.length) (hlt : lab D s ≠ lab arr s) :
    ∃ (i : Nat) (l : Lk), N.ls[i]? = some l ∧ l.b = (s : Int) ∧ lab D l.a.toNat ≠ W.inf ∧ toL N l (lab D l.a.toNat) = lab D s := by
  by_cases hx : ∃ (i : Nat) (l : Lk), N.ls[i]? = some l ∧ l.b = (s : Int) ∧ lab D l.a.toNat ≠ W.inf ∧ toL N l (lab D l.a.toNat) = lab D s
  · exact hx
  exfalso
  have hz := hN.hz
  have h9 := inf_big
  have hle := h.le s
  have hfin : 0 ≤ lab D s ∧ lab D s ≤ N.hz := by
    rcases h.ok.at s with h1 | h1
    · rcases ha.at s with h2 | h2 <;> omega
    · exact h1
  obtain ⟨v, hv⟩ : ∃ v, (if lab D s + 1 ≤ N.hz then lab D s + 1 else W.inf) = v := ⟨_, rfl⟩
  have hv1 : (v = lab D s + 1 ∧ lab D s + 1 ≤ N.hz) ∨ (v = W.inf ∧ N.hz < lab D s + 1) := by
    rw [← hv]; split <;> omega
  have hls : ∀ i, lab (D.set s v) i = if i = s then v else lab D i := fun i => lab_set hs
  have hv2 : v ≤ lab arr s := by rcases ha.at s with h2 | h2 <;> omega
  have hE : LabsOk N (D.set s v) := h.ok.set (by omega)
  have hbig : lab (D.set s v) s ≤ lab D s := by
    refine h.gr _ hE (fun l hl hne => ?_) (fun i => ?_) s
    · have hok := hN.lk l hl
      obtain ⟨⟨a1, a2⟩, ⟨b1, b2⟩, hab, _⟩ := okL_iff.1 hok
      have hnab : l.a.toNat ≠ l.b.toNat := by omega
      rw [hls] at hne
      rw [hls, hls]
      by_cases hb : l.b.toNat = s
      · rw [if_pos hb, if_neg (by omega : l.a.toNat ≠ s)]
        rw [if_neg (by omega : l.a.toNat ≠ s)] at hne
        have h1 := h.cl l hl hne
        rw [hb] at h1
        have hk : 0 ≤ lab D l.a.toNat := (h.ok.fin hne).1
        have h2 : toL N l (lab D l.a.toNat) ≠ lab D s := fun e => by
          obtain ⟨i, hi⟩ := List.getElem?_of_mem hl
          exact hx ⟨i, l, hi, by omega, hne, e⟩
        rcases to_spec hN hok hk with ⟨h3, _⟩ | ⟨_, _, _, h3, _⟩ <;> omega
      · rw [if_neg hb]
        by_cases ha' : l.a.toNat = s
        · rw [if_pos ha'] at hne ⊢
          have h1 := h.cl l hl (by rw [ha']; omega)
          rw [ha'] at h1
          have h2 := to_mono hN hok hfin.1 (show lab D s ≤ v by omega)
          omega
        · rw [if_neg ha'] at hne ⊢
          exact h.cl l hl hne
    · rw [hls]
      split
      · rename_i hi; subst hi; exact hv2
      · exact h.le i
  rw [hls, if_pos rfl] at hbig
  omega
/-- earlier labels are never spread to later ones -/
theorem Spr.mono (h : Spr N arr D) (h' : Spr N arr' D') (hle : ∀ s, lab arr s ≤ lab arr' s) : ∀ s, lab D s ≤ lab D' s :=
  h'.gr D h.ok h.cl fun s => Int.le_trans (h.le s) (hle s)
/-- what is spread is still -/
theorem Spr.still (h : Spr N arr D) : Spr N D D := ⟨h.ok, fun _ => Int.le_refl _, h.cl, fun E _ _ h => h⟩
theorem spr_still_iff (ok : LabsOk N D) : Spr N D D ↔ ClosedN N D := ⟨fun h => h.cl, fun h => ⟨ok, fun _ => Int.le_refl _, h, fun E _ _ h => h⟩⟩
end
end Go.Proofs.Ytonkkibnigdfbaa
namespace Go.Proofs.Ytonkkibnigdfbaa
open Go.RowKit B
set_option linter.unusedVariables false
set_option linter.unusedSimpArgs false
/-- a net's slices read as a net -/
structure RNet (w : World) (N : NetP) (A : Option Addr) (n : Nat) (B : Option Addr) (m : Nat) : Prop where
  nn : N.cs.length = n
  mm : N.ls.length = m
  cs : ∀ (k : Nat) (l : W.Row), N.cs[k]? = some l → ∃ b o sA sn sc, A = some ⟨b, o, none⟩ ∧ b < w.heap.size ∧ w.cell? ⟨b, o + k, none⟩ = some (.slice sA sn sc) ∧ Rd w 2 pairE sA sn l ∧ sn ≤ sc ∧ sc ≤ 9223372036854775807
  ls : ∀ (k : Nat) (l : Lk), N.ls[k]? = some l → ∃ b o pA pn pc kA kn kc, B = some ⟨b, o, none⟩ ∧ b < w.heap.size ∧
    (Rd w 2 pairE pA pn l.op ∧ pn ≤ pc ∧ pc ≤ 9223372036854775807) ∧ (Rd w 2 pairE kA kn l.cl ∧ kn ≤ kc ∧ kc ≤ 9223372036854775807) ∧
    w.cell? ⟨b, o + k * 7, none⟩ = some (.int .i64 l.a) ∧ w.cell? ⟨b, o + k * 7 + 1, none⟩ = some (.int .i64 l.b) ∧ w.cell? ⟨b, o + k * 7 + 2, none⟩ = some (.int .i64 l.len) ∧ w.cell? ⟨b, o + k * 7 + 3, none⟩ = some (.bool l.door) ∧
    w.cell? ⟨b, o + k * 7 + 4, none⟩ = some (.int .i64 l.no) ∧ w.cell? ⟨b, o + k * 7 + 5, none⟩ = some (.slice pA pn pc) ∧ w.cell? ⟨b, o + k * 7 + 6, none⟩ = some (.slice kA kn kc)
section
variable {w w' : World} {N : NetP} {A B : Option Addr} {n m k : Nat}
theorem RNet.below (h : RNet w N A n B m) (hb : Below w.heap.size w w') : RNet w' N A n B m := by
  refine ⟨h.nn, h.mm, fun k l hl => ?_, fun k l hl => ?_⟩
  · obtain ⟨b, o, sA, sn, sc, e, h1, h2, h3, h4⟩ := h.cs k l hl
    exact ⟨b, o, sA, sn, sc, e, Nat.lt_of_lt_of_le h1 hb.size, (hb.cell (p := ⟨b, _, none⟩) h1).trans h2, h3.below hb, h4⟩
  · obtain ⟨b, o, pA, pn, pc, kA, kn, kc, e, h1, ⟨h2, h2'⟩, ⟨h3, h3'⟩, c0, c1, c2, c3, c4, c5, c6⟩ := h.ls k l hl
    have key : ∀ (i : Nat) (v : Value), w.cell? ⟨b, i, none⟩ = some v → w'.cell? ⟨b, i, none⟩ = some v := fun i v hv => (hb.cell (p := ⟨b, i, none⟩) h1).trans hv
    exact ⟨b, o, pA, pn, pc, kA, kn, kc, e, Nat.lt_of_lt_of_le h1 hb.size, ⟨h2.below hb, h2'⟩, ⟨h3.below hb, h3'⟩, key _ _ c0, key _ _ c1, key _ _ c2, key _ _ c3, key _ _ c4, key _ _ c5, key _ _ c6⟩
theorem RNet.clo (h : RNet w N A n B m) (hk : k < n) : ∃ b o sA sn sc l, A = some ⟨b, o, none⟩ ∧ b < w.heap.size ∧ N.cs[k]? = some l ∧ w.cell? ⟨b, o + k, none⟩ = some (.slice sA sn sc) ∧ Rd w 2 pairE sA sn l ∧ sn ≤ sc ∧ sc ≤ 9223372036854775807 := by
  have hl : N.cs[k]? = some (N.cs[k]'(by rw [h.nn]; exact hk)) := List.getElem?_eq_getElem _
  obtain ⟨b, o, sA, sn, sc, e, h1, h2, h3⟩ := h.cs k _ hl
  exact ⟨b, o, sA, sn, sc, _, e, h1, hl, h2, h3⟩
theorem RNet.lnk (h : RNet w N A n B m) (hk : k < m) : ∃ l, N.ls[k]? = some l ∧ ∃ b o pA pn pc kA kn kc, B = some ⟨b, o, none⟩ ∧ b < w.heap.size ∧
    (Rd w 2 pairE pA pn l.op ∧ pn ≤ pc ∧ pc ≤ 9223372036854775807) ∧ (Rd w 2 pairE kA kn l.cl ∧ kn ≤ kc ∧ kc ≤ 9223372036854775807) ∧
    w.cell? ⟨b, o + k * 7, none⟩ = some (.int .i64 l.a) ∧ w.cell? ⟨b, o + k * 7 + 1, none⟩ = some (.int .i64 l.b) ∧ w.cell? ⟨b, o + k * 7 + 2, none⟩ = some (.int .i64 l.len) ∧ w.cell? ⟨b, o + k * 7 + 3, none⟩ = some (.bool l.door) ∧
    w.cell? ⟨b, o + k * 7 + 4, none⟩ = some (.int .i64 l.no) ∧ w.cell? ⟨b, o + k * 7 + 5, none⟩ = some (.slice pA pn pc) ∧ w.cell? ⟨b, o + k * 7 + 6, none⟩ = some (.slice kA kn kc) := by
  have hl : N.ls[k]? = some (N.ls[k]'(by rw [h.mm]; exact hk)) := List.getElem?_eq_getElem _
  exact ⟨_, hl, h.ls k _ hl⟩
end
/-- the place of the first that is so, else -1 -/
def fidx {α : Type} (p : α → Bool) (l : List α) : Int := match l.findIdx? p with | some k => k | none => -1
theorem fidx_at {α : Type} {p : α → Bool} {l : List α} {k : Nat} {x : α} (hx : l[k]? = some x) (hno : ∀ y ∈ l.take k, p y = false) (hp : p x = true) : fidx p l = k := by
  unfold fidx
  have : l.findIdx? p = some k := by
    obtain ⟨hlt, rfl⟩ := List.getElem?_eq_some_iff.1 hx
    rw [List.findIdx?_eq_some_iff_getElem]
    refine ⟨hlt, hp, fun j hj => ?_⟩
    rw [hno _ (List.mem_take_iff_getElem.2 ⟨j, by omega, rfl⟩)]; simp
  rw [this]
theorem fidx_no {α : Type} {p : α → Bool} {l : List α} (hno : ∀ y ∈ l, p y = false) : fidx p l = -1 := by
  unfold fidx
  rw [List.findIdx?_eq_none_iff.2 hno]
theorem fidx_any {α : Type} (p : α → Bool) (l : List α) : decide (0 ≤ fidx p l) = l.any p := by
  unfold fidx
  cases h : l.findIdx? p with
  | none =>
    rw [List.findIdx?_eq_none_iff] at h
    symm
    rw [decide_eq_false (by simp), List.any_eq_false]
    intro x hx; rw [h x hx]; simp
  | some k =>
    rw [List.findIdx?_eq_some_iff_getElem] at h
    obtain ⟨hlt, hp, _⟩ := h
    symm
    rw [decide_eq_true (by simp), List.any_eq_true]
    exact ⟨_, List.getElem_mem hlt, hp⟩
theorem take_no {α : Type} {p : α → Bool} {l : List α} {k : Nat} {x : α} (hx : l[k]? = some x) (hno : ∀ y ∈ l.take k, p y = false) (hq : p x = false) : ∀ y ∈ l.take (k + 1), p y = false := by
  intro y hy
  rw [take_at hx, List.mem_append] at hy
  rcases hy with hy | hy
  · exact hno y hy
  · simp at hy; subst hy; exact hq
theorem idxL_any (g : Nat) (lb : Array Value) (eg : ∀ args w, (callFunc g args).run Try.prog w = .ok (.enter g args) w) (p : Lk → Bool) (A : Option Addr) (n : Nat) (B : Option Addr) (m d : Nat) (N : NetP) (w : World) (hr : RNet w N A n B m) (hm : m ≤ 1099511627776)
    (hp : ∀ (W : World) (l : Lk) pA pn pc kA kn kc, l ∈ N.ls → Below w.heap.size w W → Rd W 2 pairE pA pn l.op → Rd W 2 pairE kA kn l.cl → Calls Try.prog g (#[.agg #[.int .i64 l.a, .int .i64 l.b, .int .i64 l.len, .bool l.door, .int .i64 l.no, .slice pA pn pc, .slice kA kn kc]] ++ lb) W fun e w' => e = .returned (.bool (p l)) ∧ Below W.heap.size W w') :
    Calls Try.prog 99 #[.slice B m d, .func (.func g) #[] lb] w fun e w' => e = .returned (.int .i64 (fidx p N.ls)) ∧ Below w.heap.size w w' := by
  go_enter Try.func99, Try.ntmps99
  go_wp2_with fail
  go_loopw [8] (fun i wr => ∃ (k : Nat), k ≤ m ∧ i = .int .i64 k ∧ Below w.heap.size w wr ∧ Hid (∀ y ∈ N.ls.take k, p y = false)) (fun i _ => m - (intOf i).toNat)
  case atStart => exact ⟨0, Nat.zero_le _, rfl, Below.refl _ _, fun y hy => by simp at hy⟩
  case round =>
    obtain ⟨k, hk, rfl, hb, hno⟩ := hrel
    by_cases hlt : k < m
    · obtain ⟨l, hx, b, o, pA, pn, pc, kA, kn, kc, rfl, hbs, ⟨ro, _⟩, ⟨rk, _⟩, c0, c1, c2, c3, c4, c5, c6⟩ := (hr.below hb).lnk hlt
      have hcall := hp wr l pA pn pc kA kn kc (List.mem_of_getElem? hx) hb ro rk
      have hx := Lib.hid hx
      rename_i hx0; clear hx0
      clear hp ro rk
      cases hq : p l with
      | true =>
        rw [hq] at hcall
        have hi : Hid (fidx p N.ls = k) := fidx_at hx.out hno.out hq
        clear hq
        go_wp2_with fail
        refine hcall.mono ?_; rintro e w2 ⟨rfl, hb2⟩
        go_wp2_with fail
        go_returns
        exact ⟨ret_int hi.out.symm, hb.trans (hb2.mono hb.size)⟩
      | false =>
        rw [hq] at hcall
        have hno' : Hid (∀ y ∈ N.ls.take (k + 1), p y = false) := take_no hx.out hno.out hq
        clear hq
        go_wp2_with fail
        refine hcall.mono ?_; rintro e w2 ⟨rfl, hb2⟩
        go_wp2_with fail
        go_roundw
        case rel => exact ⟨k + 1, by omega, by go_num, hb.trans (hb2.mono hb.size), hno'⟩
        case measure => simp [intOf]; omega
    · go_wp2
      go_returns
      exact ⟨ret_int (by rw [fidx_no]; intro y hy; exact hno.out y (by rwa [List.take_of_length_le (by rw [hr.mm]; omega)])), hb⟩
theorem contL_any (g : Nat) (lb : Array Value) (eg : ∀ args w, (callFunc g args).run Try.prog w = .ok (.enter g args) w) (p : Lk → Bool) (A : Option Addr) (n : Nat) (B : Option Addr) (m d : Nat) (N : NetP) (w : World) (hr : RNet w N A n B m) (hm : m ≤ 1099511627776)
    (hp : ∀ (W : World) (l : Lk) pA pn pc kA kn kc, l ∈ N.ls → Below w.heap.size w W → Rd W 2 pairE pA pn l.op → Rd W 2 pairE kA kn l.cl → Calls Try.prog g (#[.agg #[.int .i64 l.a, .int .i64 l.b, .int .i64 l.len, .bool l.door, .int .i64 l.no, .slice pA pn pc, .slice kA kn kc]] ++ lb) W fun e w' => e = .returned (.bool (p l)) ∧ Below W.heap.size W w') :
    Calls Try.prog 77 #[.slice B m d, .func (.func g) #[] lb] w fun e w' => e = .returned (.bool (N.ls.any p)) ∧ Below w.heap.size w w' := by
  go_enter Try.func77, Try.ntmps77
  go_wp2_with fail
  refine (idxL_any g lb eg p A n B m d N _ hr hm hp).mono ?_; rintro e w1 ⟨rfl, hb⟩
  go_wp2_with fail
  go_returns
  exact ⟨ret_bool (fidx_any p N.ls), hb⟩
theorem idxW_any (g : Nat) (lb : Array Value) (eg : ∀ args w, (callFunc g args).run Try.prog w = .ok (.enter g args) w) (p : W.Row → Bool) (A : Option Addr) (n c : Nat) (B : Option Addr) (m : Nat) (N : NetP) (w : World) (hr : RNet w N A n B m) (hn : n ≤ 1099511627776)
    (hp : ∀ (U : World) (l : W.Row) sA sn sc, l ∈ N.cs → Below w.heap.size w U → Rd U 2 pairE sA sn l → Calls Try.prog g (#[.slice sA sn sc] ++ lb) U fun e w' => e = .returned (.bool (p l)) ∧ Below U.heap.size U w') :
    Calls Try.prog 100 #[.slice A n c, .func (.func g) #[] lb] w fun e w' => e = .returned (.int .i64 (fidx p N.cs)) ∧ Below w.heap.size w w' := by
  go_enter Try.func100, Try.ntmps100
  go_wp2_with fail
  go_loopw [8] (fun i wr => ∃ (k : Nat), k ≤ n ∧ i = .int .i64 k ∧ Below w.heap.size w wr ∧ Hid (∀ y ∈ N.cs.take k, p y = false)) (fun i _ => n - (intOf i).toNat)
  case atStart => exact ⟨0, Nat.zero_le _, rfl, Below.refl _ _, fun y hy => by simp at hy⟩
  case round =>
    obtain ⟨k, hk, rfl, hb, hno⟩ := hrel
    by_cases hlt : k < n
    · obtain ⟨b, o, sA, sn, sc, l, rfl, hbs, hx, c0, rs, _⟩ := (hr.below hb).clo hlt
      have hcall := hp wr l sA sn sc (List.mem_of_getElem? hx) hb rs
      have hx := Lib.hid hx
      rename_i hx0; clear hx0
      clear hp rs
      cases hq : p l with
      | true =>
        rw [hq] at hcall
        have hi : Hid (fidx p N.cs = k) := fidx_at hx.out hno.out hq
        clear hq
        go_wp2_with fail
        refine hcall.mono ?_; rintro e w2 ⟨rfl, hb2⟩
        go_wp2_with fail
        go_returns
        exact ⟨ret_int hi.out.symm, hb.trans (hb2.mono hb.size)⟩
      | false =>
        rw [hq] at hcall
        have hno' : Hid (∀ y ∈ N.cs.take (k + 1), p y = false) := take_no hx.out hno.out hq
        clear hq
        go_wp2_with fail
        refine hcall.mono ?_; rintro e w2 ⟨rfl, hb2⟩
        go_wp2_with fail
        go_roundw
        case rel => exact ⟨k + 1, by omega, by go_num, hb.trans (hb2.mono hb.size), hno'⟩
        case measure => simp [intOf]; omega
    · go_wp2
      go_returns
      exact ⟨ret_int (by rw [fidx_no]; intro y hy; exact hno.out y (by rwa [List.take_of_length_le (by rw [hr.nn]; omega)])), hb⟩
theorem contW_any (g : Nat) (lb : Array Value) (eg : ∀ args w, (callFunc g args).run Try.prog w = .ok (.enter g args) w) (p : W.Row → Bool) (A : Option Addr) (n c : Nat) (B : Option Addr) (m : Nat) (N : NetP) (w : World) (hr : RNet w N A n B m) (hn : n ≤ 1099511627776)
    (hp : ∀ (U : World) (l : W.Row) sA sn sc, l ∈ N.cs → Below w.heap.size w U → Rd U 2 pairE sA sn l → Calls Try.prog g (#[.slice sA sn sc] ++ lb) U fun e w' => e = .returned (.bool (p l)) ∧ Below U.heap.size U w') :
    Calls Try.prog 78 #[.slice A n c, .func (.func g) #[] lb] w fun e w' => e = .returned (.bool (N.cs.any p)) ∧ Below w.heap.size w w' := by
  go_enter Try.func78, Try.ntmps78
  go_wp2_with fail
  refine (idxW_any g lb eg p A n c B m N _ hr hn hp).mono ?_; rintro e w1 ⟨rfl, hb⟩
  go_wp2_with fail
  go_returns
  exact ⟨ret_bool (fidx_any p N.cs), hb⟩
end Go.Proofs.Ytonkkibnigdfbaa
namespace Go.Proofs.Ytonkkibnigdfbaa
open Go.RowKit B
set_option linter.unusedVariables false
set_option linter.unusedSimpArgs false
set_option maxHeartbeats 1000000
theorem lck1_any {bn : Nat} {n : Nat} {A : Option Addr} {c : Nat} (i : Int) (w : World) (hn : w.cell? ⟨bn, 1, none⟩ = some (.slice A n c)) :
    Calls Try.prog 73 #[.int .i64 i, .pointer (some ⟨bn, 0, none⟩)] w fun e w' => e = .returned (.bool (decide (0 ≤ i ∧ i < (n : Int)))) ∧ w' = w := by
  by_cases h1 : 0 ≤ i
  · by_cases h2 : i < (n : Int)
    · rw [decide_eq_true (⟨h1, h2⟩ : 0 ≤ i ∧ i < (n : Int))]
      go_enter Try.func73, Try.ntmps73
      go_wp2
      go_returns
      exact ⟨rfl, rfl⟩
    · rw [decide_eq_false (by omega : ¬ (0 ≤ i ∧ i < (n : Int)))]
      have hd : decide (i < (n : Int)) = false := decide_eq_false h2
      go_enter Try.func73, Try.ntmps73
      go_wp2
      go_returns
      exact ⟨rfl, rfl⟩
  · rw [decide_eq_false (by omega : ¬ (0 ≤ i ∧ i < (n : Int)))]
    have hd : decide (0 ≤ i) = false := decide_eq_false h1
    go_enter Try.func73, Try.ntmps73
    go_wp2
    go_returns
    exact ⟨rfl, rfl⟩
theorem lck3_any (A : Option Addr) (n c : Nat) (l : W.Row) (w : World) (hr : Rd w 2 pairE A n l) (hn : n ≤ 9223372036854775807) :
    Calls Try.prog 79 #[.slice A n c] w fun e w' => e = .returned (.bool (!W.good l)) ∧ Below w.heap.size w w' := by
  go_enter Try.func79, Try.ntmps79
  have h := good_any A n c l w hr hn
  cases hg : W.good l with
  | true =>
    rw [hg] at h
    go_wp2_with fail
    refine h.mono ?_; rintro e w1 ⟨rfl, hb⟩
    go_wp2_with fail
    go_returns
    exact ⟨rfl, hb⟩
  | false =>
    rw [hg] at h
    go_wp2_with fail
    refine h.mono ?_; rintro e w1 ⟨rfl, hb⟩
    go_wp2_with fail
    go_returns
    exact ⟨rfl, hb⟩
theorem rowBx7 (w : World) (t : TypeId) (v0 v1 v2 v3 v4 v5 v6 : Value) : (w.alloc (.cells #[v0, v1, v2, v3, v4, v5, v6] t)).cell? ⟨w.heap.size, 0, none⟩ = some v0 ∧ (w.alloc (.cells #[v0, v1, v2, v3, v4, v5, v6] t)).cell? ⟨w.heap.size, 1, none⟩ = some v1 ∧ (w.alloc (.cells #[v0, v1, v2, v3, v4, v5, v6] t)).cell? ⟨w.heap.size, 2, none⟩ = some v2 ∧ (w.alloc (.cells #[v0, v1, v2, v3, v4, v5, v6] t)).cell? ⟨w.heap.size, 3, none⟩ = some v3 ∧ (w.alloc (.cells #[v0, v1, v2, v3, v4, v5, v6] t)).cell? ⟨w.heap.size, 4, none⟩ = some v4 ∧ (w.alloc (.cells #[v0, v1, v2, v3, v4, v5, v6] t)).cell? ⟨w.heap.size, 5, none⟩ = some v5 ∧ (w.alloc (.cells #[v0, v1, v2, v3, v4, v5, v6] t)).cell? ⟨w.heap.size, 6, none⟩ = some v6 := by
  have h := heap_alloc_new w (.cells #[v0, v1, v2, v3, v4, v5, v6] t)
  refine ⟨?_, ?_, ?_, ?_, ?_, ?_, ?_⟩ <;> (rw [cell_of_row _ _ _ _ _ _ h]; rfl)
theorem rowBx3 (w : World) (t : TypeId) (v0 v1 v2 : Value) : (w.alloc (.cells #[v0, v1, v2] t)).cell? ⟨w.heap.size, 0, none⟩ = some v0 ∧ (w.alloc (.cells #[v0, v1, v2] t)).cell? ⟨w.heap.size, 1, none⟩ = some v1 ∧ (w.alloc (.cells #[v0, v1, v2] t)).cell? ⟨w.heap.size, 2, none⟩ = some v2 := by
  have h := heap_alloc_new w (.cells #[v0, v1, v2] t)
  refine ⟨?_, ?_, ?_⟩ <;> (rw [cell_of_row _ _ _ _ _ _ h]; rfl)
set_option maxRecDepth 100000 in
theorem lck2_any {bf bn n : Nat} {A : Option Addr} {c : Nat} (la lb ln : Int) (ld : Bool) (lo : Int) (pA : Option Addr) (pn pc : Nat) (op : W.Row) (kA : Option Addr) (kn kc : Nat) (cl : W.Row) (w : World) (hf : w.cell? ⟨bf, 0, none⟩ = some (.func (.func 73) #[] #[.pointer (some ⟨bn, 0, none⟩)])) (hn : w.cell? ⟨bn, 1, none⟩ = some (.slice A n c)) (hbf : bf < w.heap.size) (hbn : bn < w.heap.size)
    (ro : Rd w 2 pairE pA pn op) (rk : Rd w 2 pairE kA kn cl) (hpn : pn ≤ 9223372036854775807) (hkn : kn ≤ 9223372036854775807) :
    Calls Try.prog 74 #[.agg #[.int .i64 la, .int .i64 lb, .int .i64 ln, .bool ld, .int .i64 lo, .slice pA pn pc, .slice kA kn kc], .pointer (some ⟨bf, 0, none⟩)] w fun e w' => e = .returned (.bool (!okL n ⟨la, lb, ln, ld, lo, op, cl⟩)) ∧ Below w.heap.size w w' := by
  have hb1 : Below w.heap.size w (w.alloc (.cells #[.int .i64 la, .int .i64 lb, .int .i64 ln, .bool ld, .int .i64 lo, .slice pA pn pc, .slice kA kn kc] 38)) := (Below.refl _ w).alloc (Nat.le_refl _) _
  obtain ⟨c0, c1, c2, c3, c4, c5, c6⟩ := rowBx7 w 38 (.int .i64 la) (.int .i64 lb) (.int .i64 ln) (.bool ld) (.int .i64 lo) (.slice pA pn pc) (.slice kA kn kc)
  have hf1 := (hb1.cell (p := ⟨bf, 0, none⟩) hbf).trans hf
  have hn1 := (hb1.cell (p := ⟨bn, 1, none⟩) hbn).trans hn
  have ro1 := ro.below hb1
  have rk1 := rk.below hb1
  have hsz : w.heap.size < (w.alloc (.cells #[.int .i64 la, .int .i64 lb, .int .i64 ln, .bool ld, .int .i64 lo, .slice pA pn pc, .slice kA kn kc] 38)).heap.size := by simp
  obtain ⟨U, hW⟩ : ∃ q, w.alloc (.cells #[.int .i64 la, .int .i64 lb, .int .i64 ln, .bool ld, .int .i64 lo, .slice pA pn pc, .slice kA kn kc] 38) = q := ⟨_, rfl⟩
  rw [hW] at hb1 hf1 hn1 ro1 rk1 hsz c0 c1 c2 c3 c4 c5 c6
  obtain ⟨bk, hbk⟩ : ∃ q, w.heap.size = q := ⟨_, rfl⟩
  rw [hbk] at c0 c1 c2 c3 c4 c5 c6 hsz
  have k1 := Lib.hid (lck1_any la U hn1)
  have k2 := Lib.hid (lck1_any lb U hn1)
  have k3 := Lib.hid (good_any pA pn pc op U ro1 hpn)
  have hlo := ro.len
  have hlk := rk.len
  have hiff := Lib.hid (@okL_iff n ⟨la, lb, ln, ld, lo, op, cl⟩)
  obtain ⟨okB, hokB⟩ : ∃ q, okL n ⟨la, lb, ln, ld, lo, op, cl⟩ = q := ⟨_, rfl⟩
  rw [hokB]
  rw [hokB] at hiff
  have hone := Lib.hid hb1
  have hro := Lib.hid ro1
  have hrk := Lib.hid rk1
  have hlo := Lib.hid hlo
  have hlk := Lib.hid hlk
  clear hf hn ro rk ro1 rk1 hb1 hokB
  by_cases h1 : 0 ≤ la ∧ la < (n : Int)
  rotate_left
  · rw [decide_eq_false h1] at k1
    have h2 := trivial
    have hv : okB = false := Bool.eq_false_iff.2 fun h => by
      have hh := hiff.out.1 h
      exact h1 hh.1
    subst hv
    clear hiff h1 h2
    go_enter Try.func74, Try.ntmps74
    go_wp2_with (first | (with_reducible refine k1.out.mono ?_; rintro e w' ⟨rfl, rfl⟩) | (with_reducible refine k2.out.mono ?_; rintro e w' ⟨rfl, rfl⟩))
    go_returns
    exact ⟨rfl, hone.out⟩
  rw [decide_eq_true h1] at k1
  by_cases h2 : 0 ≤ lb ∧ lb < (n : Int)
  rotate_left
  · rw [decide_eq_false h2] at k2
    have hv : okB = false := Bool.eq_false_iff.2 fun h => by
      have hh := hiff.out.1 h
      exact h2 hh.2.1
    subst hv
    clear hiff h1 h2
    go_enter Try.func74, Try.ntmps74
    go_wp2_with (first | (with_reducible refine k1.out.mono ?_; rintro e w' ⟨rfl, rfl⟩) | (with_reducible refine k2.out.mono ?_; rintro e w' ⟨rfl, rfl⟩))
    go_returns
    exact ⟨rfl, hone.out⟩
  rw [decide_eq_true h2] at k2
  by_cases h3 : la = lb
  · have he : (la == lb) = true := by simp [h3]
    have hv : okB = false := Bool.eq_false_iff.2 fun h => by
      have hh := hiff.out.1 h
      exact hh.2.2.1 h3
    subst hv
    clear hiff h1 h2 h3
    go_enter Try.func74, Try.ntmps74
    go_wp2_with (first | (with_reducible refine k1.out.mono ?_; rintro e w' ⟨rfl, rfl⟩) | (with_reducible refine k2.out.mono ?_; rintro e w' ⟨rfl, rfl⟩))
    go_returns
    exact ⟨rfl, hone.out⟩
  have he : (la == lb) = false := by simp [h3]
  by_cases h4 : ln < 1
  · have d4 : decide (ln < 1) = true := decide_eq_true h4
    have hv : okB = false := Bool.eq_false_iff.2 fun h => by
      have hh := hiff.out.1 h
      have := hh.2.2.2.1; simp only at this; omega
    subst hv
    clear hiff h1 h2 h3
    go_enter Try.func74, Try.ntmps74
    go_wp2_with (first | (with_reducible refine k1.out.mono ?_; rintro e w' ⟨rfl, rfl⟩) | (with_reducible refine k2.out.mono ?_; rintro e w' ⟨rfl, rfl⟩))
    go_returns
    exact ⟨rfl, hone.out⟩
  have d4 : decide (ln < 1) = false := decide_eq_false h4
  by_cases h5 : 1099511627776 < ln
  · have d5 : decide (1099511627776 < ln) = true := decide_eq_true h5
    have hv : okB = false := Bool.eq_false_iff.2 fun h => by
      have hh := hiff.out.1 h
      have := hh.2.2.2.2.1; simp only at this; omega
    subst hv
    clear hiff h1 h2 h3
    go_enter Try.func74, Try.ntmps74
    go_wp2_with (first | (with_reducible refine k1.out.mono ?_; rintro e w' ⟨rfl, rfl⟩) | (with_reducible refine k2.out.mono ?_; rintro e w' ⟨rfl, rfl⟩))
    go_returns
    exact ⟨rfl, hone.out⟩
  have d5 : decide (1099511627776 < ln) = false := decide_eq_false h5
  cases hg6 : W.good op with
  | false =>
    rw [hg6] at k3
    have hv : okB = false := Bool.eq_false_iff.2 fun h => by
      have hh := hiff.out.1 h
      have := hh.2.2.2.2.2.1; rw [hg6] at this; cases this
    subst hv
    clear hiff h1 h2 h3 hg6
    go_enter Try.func74, Try.ntmps74
    go_wp2_with (first | (with_reducible refine k1.out.mono ?_; rintro e w' ⟨rfl, rfl⟩) | (with_reducible refine k2.out.mono ?_; rintro e w' ⟨rfl, rfl⟩))
    refine k3.out.mono ?_; rintro e w3 ⟨rfl, hb3⟩
    have m3 := (hb3.cell (p := ⟨bk, 3, none⟩) hsz).trans c3
    have m5 := (hb3.cell (p := ⟨bk, 5, none⟩) hsz).trans c5
    have m6 := (hb3.cell (p := ⟨bk, 6, none⟩) hsz).trans c6
    have hone := Lib.hid (hone.out.trans (hb3.mono hone.out.size))
    clear hb3 c0 c1 c2 c3 c4 c5 c6
    go_wp2_with fail
    go_returns
    exact ⟨rfl, hone.out⟩
  | true =>
    rw [hg6] at k3
    cases hg7 : W.good cl with
    | false =>
      have hv : okB = false := Bool.eq_false_iff.2 fun h => by
        have hh := hiff.out.1 h
        have := hh.2.2.2.2.2.2.1; rw [hg7] at this; cases this
      subst hv
      clear hiff h1 h2 h3 hg6
      go_enter Try.func74, Try.ntmps74
      go_wp2_with (first | (with_reducible refine k1.out.mono ?_; rintro e w' ⟨rfl, rfl⟩) | (with_reducible refine k2.out.mono ?_; rintro e w' ⟨rfl, rfl⟩))
      refine k3.out.mono ?_; rintro e w3 ⟨rfl, hb3⟩
      have m3 := (hb3.cell (p := ⟨bk, 3, none⟩) hsz).trans c3
      have m5 := (hb3.cell (p := ⟨bk, 5, none⟩) hsz).trans c5
      have m6 := (hb3.cell (p := ⟨bk, 6, none⟩) hsz).trans c6
      have k4 := Lib.hid (good_any kA kn kc cl w3 (hrk.out.below hb3) hkn)
      rw [hg7] at k4
      have hone := Lib.hid (hone.out.trans (hb3.mono hone.out.size))
      have hsz3 := Nat.lt_of_lt_of_le hsz hb3.size
      clear hb3 c0 c1 c2 c3 c4 c5 c6 hg7
      go_wp2_with fail
      refine k4.out.mono ?_; rintro e w4 ⟨rfl, hb4⟩
      have n3 := (hb4.cell (p := ⟨bk, 3, none⟩) hsz3).trans m3
      have n5 := (hb4.cell (p := ⟨bk, 5, none⟩) hsz3).trans m5
      have n6 := (hb4.cell (p := ⟨bk, 6, none⟩) hsz3).trans m6
      have hone := Lib.hid (hone.out.trans (hb4.mono hone.out.size))
      clear hb4 m3 m5 m6
      go_wp2_with fail
      go_returns
      exact ⟨rfl, hone.out⟩
    | true =>
      cases ld with
      | true =>
        by_cases h8 : 0 < kn
        · have d8 : decide ((0 : Int) < (kn : Int)) = true := decide_eq_true (by omega)
          have d8' : decide (0 < kn) = true := decide_eq_true h8
          have hv : okB = false := Bool.eq_false_iff.2 fun h => by
            have hh := hiff.out.1 h
            have := hh.2.2.2.2.2.2.2.1 rfl; have := hlk.out; simp only at *; omega
          subst hv
          clear hiff h1 h2 h3 hg6 h8
          go_enter Try.func74, Try.ntmps74
          go_wp2_with (first | (with_reducible refine k1.out.mono ?_; rintro e w' ⟨rfl, rfl⟩) | (with_reducible refine k2.out.mono ?_; rintro e w' ⟨rfl, rfl⟩))
          refine k3.out.mono ?_; rintro e w3 ⟨rfl, hb3⟩
          have m3 := (hb3.cell (p := ⟨bk, 3, none⟩) hsz).trans c3
          have m5 := (hb3.cell (p := ⟨bk, 5, none⟩) hsz).trans c5
          have m6 := (hb3.cell (p := ⟨bk, 6, none⟩) hsz).trans c6
          have k4 := Lib.hid (good_any kA kn kc cl w3 (hrk.out.below hb3) hkn)
          rw [hg7] at k4
          have hone := Lib.hid (hone.out.trans (hb3.mono hone.out.size))
          have hsz3 := Nat.lt_of_lt_of_le hsz hb3.size
          clear hb3 c0 c1 c2 c3 c4 c5 c6 hg7
          go_wp2_with fail
          refine k4.out.mono ?_; rintro e w4 ⟨rfl, hb4⟩
          have n3 := (hb4.cell (p := ⟨bk, 3, none⟩) hsz3).trans m3
          have n5 := (hb4.cell (p := ⟨bk, 5, none⟩) hsz3).trans m5
          have n6 := (hb4.cell (p := ⟨bk, 6, none⟩) hsz3).trans m6
          have hone := Lib.hid (hone.out.trans (hb4.mono hone.out.size))
          clear hb4 m3 m5 m6
          go_wp2_with fail
          go_returns
          exact ⟨rfl, hone.out⟩
        · have d8 : decide ((0 : Int) < (kn : Int)) = false := decide_eq_false (by omega)
          have d8' : decide (0 < kn) = false := decide_eq_false h8
          have hv : okB = true := hiff.out.2 (by
            exact ⟨h1, h2, h3, by show 1 ≤ ln; omega, by show ln ≤ 1099511627776; omega, hg6, hg7, fun _ => (by have := hlk.out; show cl.length = 0; omega), fun h => by cases h⟩)
          subst hv
          clear hiff h1 h2 h3 hg6 h8
          go_enter Try.func74, Try.ntmps74
          go_wp2_with (first | (with_reducible refine k1.out.mono ?_; rintro e w' ⟨rfl, rfl⟩) | (with_reducible refine k2.out.mono ?_; rintro e w' ⟨rfl, rfl⟩))
          refine k3.out.mono ?_; rintro e w3 ⟨rfl, hb3⟩
          have m3 := (hb3.cell (p := ⟨bk, 3, none⟩) hsz).trans c3
          have m5 := (hb3.cell (p := ⟨bk, 5, none⟩) hsz).trans c5
          have m6 := (hb3.cell (p := ⟨bk, 6, none⟩) hsz).trans c6
          have k4 := Lib.hid (good_any kA kn kc cl w3 (hrk.out.below hb3) hkn)
          rw [hg7] at k4
          have hone := Lib.hid (hone.out.trans (hb3.mono hone.out.size))
          have hsz3 := Nat.lt_of_lt_of_le hsz hb3.size
          clear hb3 c0 c1 c2 c3 c4 c5 c6 hg7
          go_wp2_with fail
          refine k4.out.mono ?_; rintro e w4 ⟨rfl, hb4⟩
          have n3 := (hb4.cell (p := ⟨bk, 3, none⟩) hsz3).trans m3
          have n5 := (hb4.cell (p := ⟨bk, 5, none⟩) hsz3).trans m5
          have n6 := (hb4.cell (p := ⟨bk, 6, none⟩) hsz3).trans m6
          have hone := Lib.hid (hone.out.trans (hb4.mono hone.out.size))
          clear hb4 m3 m5 m6
          go_wp2_with fail
          go_returns
          exact ⟨rfl, hone.out⟩
      | false =>
        by_cases h8 : 0 < pn
        · have d8 : decide ((0 : Int) < (pn : Int)) = true := decide_eq_true (by omega)
          have d8' : decide (0 < pn) = true := decide_eq_true h8
          have hv : okB = false := Bool.eq_false_iff.2 fun h => by
            have hh := hiff.out.1 h
            have := hh.2.2.2.2.2.2.2.2 rfl; have := hlo.out; simp only at *; omega
          subst hv
          clear hiff h1 h2 h3 hg6 h8
          go_enter Try.func74, Try.ntmps74
          go_wp2_with (first | (with_reducible refine k1.out.mono ?_; rintro e w' ⟨rfl, rfl⟩) | (with_reducible refine k2.out.mono ?_; rintro e w' ⟨rfl, rfl⟩))
          refine k3.out.mono ?_; rintro e w3 ⟨rfl, hb3⟩
          have m3 := (hb3.cell (p := ⟨bk, 3, none⟩) hsz).trans c3
          have m5 := (hb3.cell (p := ⟨bk, 5, none⟩) hsz).trans c5
          have m6 := (hb3.cell (p := ⟨bk, 6, none⟩) hsz).trans c6
          have k4 := Lib.hid (good_any kA kn kc cl w3 (hrk.out.below hb3) hkn)
          rw [hg7] at k4
          have hone := Lib.hid (hone.out.trans (hb3.mono hone.out.size))
          have hsz3 := Nat.lt_of_lt_of_le hsz hb3.size
          clear hb3 c0 c1 c2 c3 c4 c5 c6 hg7
          go_wp2_with fail
          refine k4.out.mono ?_; rintro e w4 ⟨rfl, hb4⟩
          have n3 := (hb4.cell (p := ⟨bk, 3, none⟩) hsz3).trans m3
          have n5 := (hb4.cell (p := ⟨bk, 5, none⟩) hsz3).trans m5
          have n6 := (hb4.cell (p := ⟨bk, 6, none⟩) hsz3).trans m6
          have hone := Lib.hid (hone.out.trans (hb4.mono hone.out.size))
          clear hb4 m3 m5 m6
          go_wp2_with fail
          go_returns
          exact ⟨rfl, hone.out⟩
        · have d8 : decide ((0 : Int) < (pn : Int)) = false := decide_eq_false (by omega)
          have d8' : decide (0 < pn) = false := decide_eq_false h8
          have hv : okB = true := hiff.out.2 (by
            exact ⟨h1, h2, h3, by show 1 ≤ ln; omega, by show ln ≤ 1099511627776; omega, hg6, hg7, fun h => (by cases h), fun _ => by have := hlo.out; show op.length = 0; omega⟩)
          subst hv
          clear hiff h1 h2 h3 hg6 h8
          go_enter Try.func74, Try.ntmps74
          go_wp2_with (first | (with_reducible refine k1.out.mono ?_; rintro e w' ⟨rfl, rfl⟩) | (with_reducible refine k2.out.mono ?_; rintro e w' ⟨rfl, rfl⟩))
          refine k3.out.mono ?_; rintro e w3 ⟨rfl, hb3⟩
          have m3 := (hb3.cell (p := ⟨bk, 3, none⟩) hsz).trans c3
          have m5 := (hb3.cell (p := ⟨bk, 5, none⟩) hsz).trans c5
          have m6 := (hb3.cell (p := ⟨bk, 6, none⟩) hsz).trans c6
          have k4 := Lib.hid (good_any kA kn kc cl w3 (hrk.out.below hb3) hkn)
          rw [hg7] at k4
          have hone := Lib.hid (hone.out.trans (hb3.mono hone.out.size))
          have hsz3 := Nat.lt_of_lt_of_le hsz hb3.size
          clear hb3 c0 c1 c2 c3 c4 c5 c6 hg7
          go_wp2_with fail
          refine k4.out.mono ?_; rintro e w4 ⟨rfl, hb4⟩
          have n3 := (hb4.cell (p := ⟨bk, 3, none⟩) hsz3).trans m3
          have n5 := (hb4.cell (p := ⟨bk, 5, none⟩) hsz3).trans m5
          have n6 := (hb4.cell (p := ⟨bk, 6, none⟩) hsz3).trans m6
          have hone := Lib.hid (hone.out.trans (hb4.mono hone.out.size))
          clear hb4 m3 m5 m6
          go_wp2_with fail
          go_returns
          exact ⟨rfl, hone.out⟩
end Go.Proofs.Ytonkkibnigdfbaa
namespace Go.Proofs.Ytonkkibnigdfbaa
open Go.RowKit Go.Shelf B
set_option linter.unusedVariables false
set_option linter.unusedSimpArgs false
set_option maxHeartbeats 1000000
/-- little in a net -/
structure LightN (N : NetP) (s l k : Nat) : Prop where
  cn : N.cs.length ≤ s
  cw : ∀ c ∈ N.cs, c.length ≤ k
  ln : N.ls.length ≤ l
  lw : ∀ x ∈ N.ls, x.op.length ≤ k ∧ x.cl.length ≤ k
abbrev Small (N : NetP) : Prop := LightN N 1000 1000 1000
theorem LightN.small {N : NetP} {s l k : Nat} (h : LightN N s l k) (h1 : s ≤ 1000) (h2 : l ≤ 1000) (h3 : k ≤ 1000) : Small N :=
  ⟨Nat.le_trans h.cn h1, fun c hc => Nat.le_trans (h.cw c hc) h3, Nat.le_trans h.ln h2, fun x hx => ⟨Nat.le_trans (h.lw x hx).1 h3, Nat.le_trans (h.lw x hx).2 h3⟩⟩
set_option maxRecDepth 100000 in
theorem lcheck_any {N : NetP} {A B : Option Addr} {n c m d : Nat} (hs : Small N) (w : World) (hr : RNet w N A n B m) :
    Calls Try.prog 55 #[.agg #[.int .i64 N.hz, .slice A n c, .slice B m d]] w fun e w' => e = .returned (.int .i64 (chkN N)) ∧ Below w.heap.size w w' := by
  obtain ⟨hz, hhz⟩ : ∃ q, N.hz = q := ⟨_, rfl⟩
  have hn := hr.nn
  have hm := hr.mm
  have hs1 := hs.cn
  have hs2 := hs.ln
  rw [hhz]
  have hb1 : Below w.heap.size w (w.alloc (.cells #[.int .i64 hz, .slice A n c, .slice B m d] 25)) := (Below.refl _ w).alloc (Nat.le_refl _) _
  obtain ⟨x0, x1, x2⟩ := rowBx3 w 25 (.int .i64 hz) (.slice A n c) (.slice B m d)
  have hsz1 : (w.alloc (.cells #[.int .i64 hz, .slice A n c, .slice B m d] 25)).heap.size = w.heap.size + 1 := by simp
  obtain ⟨w1, hw1⟩ : ∃ q, w.alloc (.cells #[.int .i64 hz, .slice A n c, .slice B m d] 25) = q := ⟨_, rfl⟩
  rw [hw1] at hb1 x0 x1 x2 hsz1
  obtain ⟨bn, hbn⟩ : ∃ q, w.heap.size = q := ⟨_, rfl⟩
  rw [hbn] at x0 x1 x2
  have hw2 := alloc_one w1 .nilFunc 107
  have hb2 : Below w1.heap.size w1 (w1.alloc (.cells #[.nilFunc] 107)) := (Below.refl _ _).alloc (Nat.le_refl _) _
  have hm2 : ¬ 2304 < m := by omega
  have hsz2 : (w1.alloc (.cells #[.nilFunc] 107)).heap.size = w.heap.size + 2 := by simp [hsz1]
  obtain ⟨fb, hfb⟩ : ∃ q, w1.heap.size = q := ⟨_, rfl⟩
  rw [hfb] at hw2
  have hfb1 : fb = w.heap.size + 1 := by omega
  have hfbh := Lib.hid hfb1
  have hfle : w.heap.size ≤ fb := by omega
  have hfne : bn ≠ fb := by omega
  obtain ⟨U, hU⟩ : ∃ q, w1.alloc (.cells #[.nilFunc] 107) = q := ⟨_, rfl⟩
  rw [hU] at hw2 hb2 hsz2
  have hcU2 := cell_of_one hw2
  have hfU2 := free_of_one hw2
  have hw3 := one_setCell (u := .func (.func 73) #[] #[.pointer (some ⟨bn, 0, none⟩)]) hw2
  have hbut : But U (U.setCell ⟨fb, 0, none⟩ (.func (.func 73) #[] #[.pointer (some ⟨bn, 0, none⟩)])) [fb] := But.of_set _ _ _ (by simp)
  have hlt1 : bn < w1.heap.size := by omega
  have key : ∀ (i : Nat) (v : Value), w1.cell? ⟨bn, i, none⟩ = some v → (U.setCell ⟨fb, 0, none⟩ (.func (.func 73) #[] #[.pointer (some ⟨bn, 0, none⟩)])).cell? ⟨bn, i, none⟩ = some v := fun i v hv =>
    (hbut.cell (p := ⟨bn, i, none⟩) (show bn < U.heap.size by omega) (by simp; omega)).trans ((hb2.cell (p := ⟨bn, i, none⟩) hlt1).trans hv)
  have y0 := key _ _ x0
  have y1 := key _ _ x1
  have y2 := key _ _ x2
  have hc2 := cell_of_one hw3
  have hb3 : Below w.heap.size w (U.setCell ⟨fb, 0, none⟩ (.func (.func 73) #[] #[.pointer (some ⟨bn, 0, none⟩)])) := (hb1.trans (hb2.mono (by omega))).setCell (by simp; omega) _
  obtain ⟨V, hV⟩ : ∃ q, U.setCell ⟨fb, 0, none⟩ (.func (.func 73) #[] #[.pointer (some ⟨bn, 0, none⟩)]) = q := ⟨_, rfl⟩
  have hsz : V.heap.size = w.heap.size + 2 := by rw [← hV]; simp [hsz2]
  rw [hV] at hb3 y0 y1 y2 hc2
  have hrV := hr.below hb3
  have hC := Lib.hid (contL_any 74 #[.pointer (some ⟨fb, 0, none⟩)] (enters_of Try.func74 (by kernel_rfl) rfl) (fun l => !okL n l) A n B m d N V hrV (by omega) (fun Y l pA pn pc kA kn kc hl hY ro rk => by
    have h2 := hs.lw l hl
    have h3 := ro.len
    have h4 := rk.len
    exact lck2_any l.a l.b l.len l.door l.no pA pn pc l.op kA kn kc l.cl Y ((hY.cell (p := ⟨fb, 0, none⟩) (show fb < V.heap.size by omega)).trans hc2) ((hY.cell (p := ⟨bn, 1, none⟩) (show bn < V.heap.size by omega)).trans y1) (by have := hY.size; omega) (by have := hY.size; omega) ro rk (by omega) (by omega)))
  have hW : Hid (∀ Y, Below V.heap.size V Y → Calls Try.prog 78 #[.slice A n c, .func (.func 79) #[] #[]] Y fun e w' => e = .returned (.bool (N.cs.any fun c => !W.good c)) ∧ Below Y.heap.size Y w') := fun Y hY =>
    contW_any 79 #[] (enters_of Try.func79 (by kernel_rfl) rfl) (fun c => !W.good c) A n c B m N Y (hrV.below hY) (by omega) (fun Z l sA sn sc hl hZ rs => by
      have h2 := hs.cw l hl
      have h3 := rs.len
      exact lck3_any sA sn sc l Z rs (by omega))
  have hb3 := Lib.hid hb3
  have hchk : Hid (chkN N = if W.chk hz ≠ 0 ∨ 256 < n ∨ 2304 < m ∨ N.ls.any (fun l => !okL n l) = true ∨ N.cs.any (fun c => !W.good c) = true then 2 else 0) := by
    show _ = _
    unfold chkN
    rw [hn, hm, hhz]
  have htc := Lib.hid (tcheckW_any hz V)
  rw [hchk.out]
  have hbnV : bn < V.heap.size := by omega
  clear hb1 hb2 x0 x1 x2 key hbut hlt1 hw3 hsz1 hsz2 hsz hn hm hrV hchk hhz hr hs hfb1 hfbh
  rcases W.chk_cases hz with h1 | h1
  rotate_left
  · rw [h1] at htc
    rw [if_pos (.inl (by omega))]
    clear hC hW
    go_enter Try.func55, Try.ntmps55
    go_wp2_with fail
    refine htc.out.mono ?_; rintro e w' ⟨rfl, rfl⟩
    go_wp2_with fail
    go_returns
    exact ⟨rfl, hb3.out⟩
  rw [h1] at htc
  have dm : decide ((2304 : Int) < (m : Int)) = false := decide_eq_false (by omega)
  have dm' : decide (2304 < m) = false := decide_eq_false (by omega)
  by_cases h2 : 256 < n
  · rw [if_pos (.inr (.inl h2))]
    have dn : decide ((256 : Int) < (n : Int)) = true := decide_eq_true (by omega)
    have dn' : decide (256 < n) = true := decide_eq_true (by omega)
    clear hC hW
    go_enter Try.func55, Try.ntmps55
    go_wp2_with fail
    refine htc.out.mono ?_; rintro e w' ⟨rfl, rfl⟩
    go_wp2_with fail
    go_returns
    exact ⟨rfl, hb3.out⟩
  have dn : decide ((256 : Int) < (n : Int)) = false := decide_eq_false (by omega)
  have dn' : decide (256 < n) = false := decide_eq_false (by omega)
  cases ha : N.ls.any (fun l => !okL n l) with
  | true =>
    rw [if_pos (.inr (.inr (.inr (.inl rfl))))]
    rw [ha] at hC
    clear hW ha
    go_enter Try.func55, Try.ntmps55
    go_wp2_with fail
    refine htc.out.mono ?_; rintro e w' ⟨rfl, rfl⟩
    go_wp2_with fail
    refine hC.out.mono ?_; rintro e w4 ⟨rfl, hb4⟩
    go_wp2_with fail
    go_returns
    exact ⟨rfl, hb3.out.trans (hb4.mono hb3.out.size)⟩
  | false =>
    rw [ha] at hC
    cases hg : N.cs.any (fun c => !W.good c) with
    | true =>
      rw [if_pos (.inr (.inr (.inr (.inr rfl))))]
      rw [hg] at hW
      clear ha hg
      go_enter Try.func55, Try.ntmps55
      go_wp2_with fail
      refine htc.out.mono ?_; rintro e w' ⟨rfl, rfl⟩
      go_wp2_with fail
      refine hC.out.mono ?_; rintro e w4 ⟨rfl, hb4⟩
      have y1 := (hb4.cell (p := ⟨bn, 1, none⟩) hbnV).trans y1
      go_wp2_with fail
      refine (hW.out _ hb4).mono ?_; rintro e w5 ⟨rfl, hb5⟩
      go_wp2_with fail
      go_returns
      exact ⟨rfl, (hb3.out.trans (hb4.mono hb3.out.size)).trans (hb5.mono (Nat.le_trans hb3.out.size hb4.size))⟩
    | false =>
      rw [if_neg (by simp; omega)]
      rw [hg] at hW
      clear ha hg
      go_enter Try.func55, Try.ntmps55
      go_wp2_with fail
      refine htc.out.mono ?_; rintro e w' ⟨rfl, rfl⟩
      go_wp2_with fail
      refine hC.out.mono ?_; rintro e w4 ⟨rfl, hb4⟩
      have y1 := (hb4.cell (p := ⟨bn, 1, none⟩) hbnV).trans y1
      go_wp2_with fail
      refine (hW.out _ hb4).mono ?_; rintro e w5 ⟨rfl, hb5⟩
      go_wp2_with fail
      go_returns
      exact ⟨rfl, (hb3.out.trans (hb4.mono hb3.out.size)).trans (hb5.mono (Nat.le_trans hb3.out.size hb4.size))⟩
end Go.Proofs.Ytonkkibnigdfbaa
namespace Go.Proofs.Ytonkkibnigdfbaa
open Go.RowKit Go.Shelf B
set_option linter.unusedVariables false
set_option linter.unusedSimpArgs false
set_option maxHeartbeats 1000000
/-- an edge's cells -/
structure EdgeC (w : World) (g : Nat) (la lb ln : Int) (ld : Bool) (lo : Int) (pA : Option Addr) (pn pc : Nat) (kA : Option Addr) (kn kc : Nat) (sA : Option Addr) (sn sc : Nat) : Prop where
  lt : g < w.heap.size
  c0 : w.cell? ⟨g, 0, none⟩ = some (.int .i64 la)
  c1 : w.cell? ⟨g, 1, none⟩ = some (.int .i64 lb)
  c2 : w.cell? ⟨g, 2, none⟩ = some (.int .i64 ln)
  c3 : w.cell? ⟨g, 3, none⟩ = some (.bool ld)
  c4 : w.cell? ⟨g, 4, none⟩ = some (.int .i64 lo)
  c5 : w.cell? ⟨g, 5, none⟩ = some (.slice pA pn pc)
  c6 : w.cell? ⟨g, 6, none⟩ = some (.slice kA kn kc)
  c7 : w.cell? ⟨g, 7, none⟩ = some (.slice sA sn sc)
section
variable {w w' : World} {g : Nat} {la lb ln : Int} {ld : Bool} {lo : Int} {pA : Option Addr} {pn pc : Nat} {kA : Option Addr} {kn kc : Nat} {sA : Option Addr} {sn sc : Nat} {op cl s : W.Row}
theorem EdgeC.below (h : EdgeC w g la lb ln ld lo pA pn pc kA kn kc sA sn sc) (hb : Below w.heap.size w w') : EdgeC w' g la lb ln ld lo pA pn pc kA kn kc sA sn sc := by
  have key : ∀ (i : Nat) (v : Value), w.cell? ⟨g, i, none⟩ = some v → w'.cell? ⟨g, i, none⟩ = some v := fun i v hv => (hb.cell (p := ⟨g, i, none⟩) h.lt).trans hv
  exact ⟨Nat.lt_of_lt_of_le h.lt hb.size, key _ _ h.c0, key _ _ h.c1, key _ _ h.c2, key _ _ h.c3, key _ _ h.c4, key _ _ h.c5, key _ _ h.c6, key _ _ h.c7⟩
theorem EdgeC.of_row (t : TypeId) (h : w.heap[g]? = some (.cells #[.int .i64 la, .int .i64 lb, .int .i64 ln, .bool ld, .int .i64 lo, .slice pA pn pc, .slice kA kn kc, .slice sA sn sc] t (0, 0))) : EdgeC w g la lb ln ld lo pA pn pc kA kn kc sA sn sc := by
  refine ⟨(Array.getElem?_eq_some_iff.1 h).1, ?_, ?_, ?_, ?_, ?_, ?_, ?_, ?_⟩ <;> (rw [cell_of_row _ _ _ _ _ _ h]; rfl)
theorem mov1_any (h : EdgeC w g la lb ln ld lo pA pn pc kA kn kc sA sn sc) (hr : Rd w 2 pairE sA sn s) (hn : sn ≤ 1000) (hc : sn ≤ sc ∧ sc ≤ 9223372036854775807) (t : Int) :
    Calls Try.prog 128 #[.int .i64 t, .pointer (some ⟨g, 0, none⟩)] w fun e w' => e = .returned (.int .i64 (W.free s t)) ∧ Below w.heap.size w w' := by
  have c7 := h.c7
  have k := Lib.hid (free_any sA sn sc s t w hr (by omega) hc.1 hc.2)
  clear h hr
  go_enter Try.func128, Try.ntmps128
  go_wp2_with fail
  refine k.out.mono ?_; rintro e w1 ⟨rfl, hb⟩
  go_wp2_with fail
  go_returns
  exact ⟨rfl, hb⟩
theorem mov2_any (h : EdgeC w g la lb ln ld lo pA pn pc kA kn kc sA sn sc) (hr : Rd w 2 pairE pA pn op) (hn : pn ≤ 1000) (t : Int) :
    Calls Try.prog 130 #[.int .i64 t, .pointer (some ⟨g, 0, none⟩)] w fun e w' => e = .returned (.int .i64 (if ld then W.next op t else t)) ∧ Below w.heap.size w w' := by
  have c3 := h.c3
  have c5 := h.c5
  have k := Lib.hid (next_any pA pn pc op t w hr (by omega))
  clear h hr
  cases ld with
  | true =>
    rw [if_pos rfl]
    go_enter Try.func130, Try.ntmps130
    go_wp2_with fail
    refine k.out.mono ?_; rintro e w1 ⟨rfl, hb⟩
    go_wp2_with fail
    go_returns
    exact ⟨rfl, hb⟩
  | false =>
    rw [if_neg (by simp)]
    go_enter Try.func130, Try.ntmps130
    go_wp2_with fail
    go_returns
    exact ⟨rfl, Below.refl _ _⟩
theorem mov3_any (h : EdgeC w g la lb ln ld lo pA pn pc kA kn kc sA sn sc) (hr : Rd w 2 pairE kA kn cl) (hn : kn ≤ 1000) (hc : kn ≤ kc ∧ kc ≤ 9223372036854775807) (t : Int) :
    Calls Try.prog 132 #[.int .i64 t, .pointer (some ⟨g, 0, none⟩)] w fun e w' => e = .returned (.int .i64 (if ld then t else W.gap cl t ln)) ∧ Below w.heap.size w w' := by
  have c2 := h.c2
  have c3 := h.c3
  have c6 := h.c6
  have k := Lib.hid (gap_any kA kn kc cl t ln w hr (by omega) hc.1 hc.2)
  clear h hr
  cases ld with
  | true =>
    rw [if_pos rfl]
    go_enter Try.func132, Try.ntmps132
    go_wp2_with fail
    go_returns
    exact ⟨rfl, Below.refl _ _⟩
  | false =>
    rw [if_neg (by simp)]
    go_enter Try.func132, Try.ntmps132
    go_wp2_with fail
    refine k.out.mono ?_; rintro e w1 ⟨rfl, hb⟩
    go_wp2_with fail
    go_returns
    exact ⟨rfl, hb⟩
end
theorem set3 {w : World} {g : Nat} {t : TypeId} {z0 z1 z2 : Value} (u0 u1 u2 : Value) (h : w.heap[g]? = some (.cells #[z0, z1, z2] t (0, 0))) :
    (w.frozen? ⟨g, 0, none⟩ = false ∧ w.frozen? ⟨g, 1, none⟩ = false ∧ w.frozen? ⟨g, 2, none⟩ = false) ∧
    (((w.setCell ⟨g, 0, none⟩ u0).setCell ⟨g, 1, none⟩ u1).setCell ⟨g, 2, none⟩ u2).heap[g]? = some (.cells #[u0, u1, u2] t (0, 0)) := by
  have hb := (Array.getElem?_eq_some_iff.1 h).1
  refine ⟨⟨by simp [World.frozen?, h], by simp [World.frozen?, h], by simp [World.frozen?, h]⟩, ?_⟩
  have e : w.heap[g] = .cells #[z0, z1, z2] t (0, 0) := by rw [Array.getElem?_eq_getElem hb] at h; exact Option.some.inj h
  simp [World.setCell, h, hb, Array.getElem_modify, e]
set_option maxRecDepth 100000 in
theorem movers_any (la lb ln : Int) (ld : Bool) (lo : Int) (pA : Option Addr) (pn pc : Nat) (kA : Option Addr) (kn kc : Nat) (sA : Option Addr) (sn sc : Nat) (w : World) :
    Calls Try.prog 107 #[.agg #[.int .i64 la, .int .i64 lb, .int .i64 ln, .bool ld, .int .i64 lo, .slice pA pn pc, .slice kA kn kc, .slice sA sn sc]] w fun e w' =>
      ∃ g, e = .returned (.agg #[.func (.func 128) #[] #[.pointer (some ⟨g, 0, none⟩)], .func (.func 130) #[] #[.pointer (some ⟨g, 0, none⟩)], .func (.func 132) #[] #[.pointer (some ⟨g, 0, none⟩)]]) ∧ EdgeC w' g la lb ln ld lo pA pn pc kA kn kc sA sn sc ∧ Below w.heap.size w w' := by
  have hb1 : Below w.heap.size w (w.alloc (.cells #[.int .i64 la, .int .i64 lb, .int .i64 ln, .bool ld, .int .i64 lo, .slice pA pn pc, .slice kA kn kc, .slice sA sn sc] 154)) := (Below.refl _ w).alloc (Nat.le_refl _) _
  have hn1 := heap_alloc_new w (.cells #[.int .i64 la, .int .i64 lb, .int .i64 ln, .bool ld, .int .i64 lo, .slice pA pn pc, .slice kA kn kc, .slice sA sn sc] 154)
  have hs1 : (w.alloc (.cells #[.int .i64 la, .int .i64 lb, .int .i64 ln, .bool ld, .int .i64 lo, .slice pA pn pc, .slice kA kn kc, .slice sA sn sc] 154)).heap.size = w.heap.size + 1 := by simp
  obtain ⟨w1, hw1⟩ : ∃ q, w.alloc (.cells #[.int .i64 la, .int .i64 lb, .int .i64 ln, .bool ld, .int .i64 lo, .slice pA pn pc, .slice kA kn kc, .slice sA sn sc] 154) = q := ⟨_, rfl⟩
  rw [hw1] at hb1 hn1 hs1
  obtain ⟨g, hg⟩ : ∃ q, w.heap.size = q := ⟨_, rfl⟩
  rw [hg] at hn1
  have hb2 : Below w1.heap.size w1 (w1.alloc (.cells #[.nilFunc, .nilFunc, .nilFunc] 156)) := (Below.refl _ _).alloc (Nat.le_refl _) _
  have hn2 := heap_alloc_new w1 (.cells #[.nilFunc, .nilFunc, .nilFunc] 156)
  have hs2 : (w1.alloc (.cells #[.nilFunc, .nilFunc, .nilFunc] 156)).heap.size = w1.heap.size + 1 := by simp
  obtain ⟨w2, hw2⟩ : ∃ q, w1.alloc (.cells #[.nilFunc, .nilFunc, .nilFunc] 156) = q := ⟨_, rfl⟩
  rw [hw2] at hb2 hn2 hs2
  obtain ⟨ab, hab⟩ : ∃ q, w1.heap.size = q := ⟨_, rfl⟩
  rw [hab] at hn2
  have hga : g < ab := by omega
  have q0 : w2.cell? ⟨ab, 0, none⟩ = some .nilFunc := by rw [cell_of_row _ _ _ _ _ _ hn2]; rfl
  have q1 : w2.cell? ⟨ab, 1, none⟩ = some .nilFunc := by rw [cell_of_row _ _ _ _ _ _ hn2]; rfl
  have q2 : w2.cell? ⟨ab, 2, none⟩ = some .nilFunc := by rw [cell_of_row _ _ _ _ _ _ hn2]; rfl
  obtain ⟨⟨f0, f1, f2⟩, hn3⟩ := set3 (.func (.func 128) #[] #[.pointer (some ⟨g, 0, none⟩)]) (.func (.func 130) #[] #[.pointer (some ⟨g, 0, none⟩)]) (.func (.func 132) #[] #[.pointer (some ⟨g, 0, none⟩)]) hn2
  have hgl : g < w1.heap.size := by omega
  have hle : w.heap.size ≤ ab := by omega
  have hb3 : Below w1.heap.size w1 (((w2.setCell ⟨ab, 0, none⟩ (.func (.func 128) #[] #[.pointer (some ⟨g, 0, none⟩)])).setCell ⟨ab, 1, none⟩ (.func (.func 130) #[] #[.pointer (some ⟨g, 0, none⟩)])).setCell ⟨ab, 2, none⟩ (.func (.func 132) #[] #[.pointer (some ⟨g, 0, none⟩)])) :=
    ((hb2.setCell (by simp; omega) _).setCell (by simp; omega) _).setCell (by simp; omega) _
  obtain ⟨w3, hw3⟩ : ∃ q, ((w2.setCell ⟨ab, 0, none⟩ (.func (.func 128) #[] #[.pointer (some ⟨g, 0, none⟩)])).setCell ⟨ab, 1, none⟩ (.func (.func 130) #[] #[.pointer (some ⟨g, 0, none⟩)])).setCell ⟨ab, 2, none⟩ (.func (.func 132) #[] #[.pointer (some ⟨g, 0, none⟩)]) = q := ⟨_, rfl⟩
  rw [hw3] at hn3 hb3
  have r0 : w3.cell? ⟨ab, 0, none⟩ = some (.func (.func 128) #[] #[.pointer (some ⟨g, 0, none⟩)]) := by rw [cell_of_row _ _ _ _ _ _ hn3]; rfl
  have r1 : w3.cell? ⟨ab, 1, none⟩ = some (.func (.func 130) #[] #[.pointer (some ⟨g, 0, none⟩)]) := by rw [cell_of_row _ _ _ _ _ _ hn3]; rfl
  have r2 : w3.cell? ⟨ab, 2, none⟩ = some (.func (.func 132) #[] #[.pointer (some ⟨g, 0, none⟩)]) := by rw [cell_of_row _ _ _ _ _ _ hn3]; rfl
  have hE := Lib.hid (EdgeC.of_row _ ((hb3.block g hgl).trans hn1))
  have hB := Lib.hid (hb1.trans (hb3.mono (by omega)))
  clear hb1 hn1 hs1 hb2 hn2 hs2 hn3 hb3
  go_enter Try.func107, Try.ntmps107
  go_wp2_with fail
  refine bodyPost_ret (by simp [results, Try.results107, go_sem, r0, r1, r2]; try rfl) rfl ?_
  exact ⟨g, rfl, hE.out, hB.out⟩
theorem set8 {w : World} {g : Nat} {t : TypeId} {z0 z1 z2 z3 z4 z5 z6 z7 : Value} (u0 u1 u2 u3 u4 u5 u6 u7 : Value) (h : w.heap[g]? = some (.cells #[z0, z1, z2, z3, z4, z5, z6, z7] t (0, 0))) :
    (w.frozen? ⟨g, 0, none⟩ = false ∧ w.frozen? ⟨g, 1, none⟩ = false ∧ w.frozen? ⟨g, 2, none⟩ = false ∧ w.frozen? ⟨g, 3, none⟩ = false ∧ w.frozen? ⟨g, 4, none⟩ = false ∧ w.frozen? ⟨g, 5, none⟩ = false ∧ w.frozen? ⟨g, 6, none⟩ = false ∧ w.frozen? ⟨g, 7, none⟩ = false) ∧
    ((((((((w.setCell ⟨g, 0, none⟩ u0).setCell ⟨g, 1, none⟩ u1).setCell ⟨g, 2, none⟩ u2).setCell ⟨g, 3, none⟩ u3).setCell ⟨g, 4, none⟩ u4).setCell ⟨g, 5, none⟩ u5).setCell ⟨g, 6, none⟩ u6).setCell ⟨g, 7, none⟩ u7).heap[g]? = some (.cells #[u0, u1, u2, u3, u4, u5, u6, u7] t (0, 0)) := by
  have hb := (Array.getElem?_eq_some_iff.1 h).1
  refine ⟨by simp [World.frozen?, h], ?_⟩
  have e : w.heap[g] = .cells #[z0, z1, z2, z3, z4, z5, z6, z7] t (0, 0) := by rw [Array.getElem?_eq_getElem hb] at h; exact Option.some.inj h
  simp [World.setCell, h, hb, Array.getElem_modify, e]
/-- one block made and written -/
def GO (w0 : World) (t : TypeId) (za vs : Array Value) (fa fs : Bool) (xa : Value) (w : World) : Prop :=
  Below w0.heap.size w0 w ∧ (fs = true → fa = true) ∧ (fa = true → ∃ g, xa = .pointer (some ⟨g, 0, none⟩) ∧ w0.heap.size ≤ g ∧ w.heap[g]? = some (.cells (if fs then vs else za) t (0, 0)))
section
variable {w0 w w' : World} {t : TypeId} {za vs : Array Value} {fa fs : Bool} {xa : Value}
theorem GO.start (e1 : fa = false) (e2 : fs = false) : GO w0 t za vs fa fs xa { w0 with drawn := w0.drawn + 1 } := by
  subst e1 e2
  exact ⟨⟨rfl, rfl, rfl, Nat.le_refl _, fun _ _ => rfl⟩, id, fun h => by cases h⟩
theorem GO.alloc (h : GO w0 t za vs fa fs xa w) (e : fa = false) : GO w0 t za vs true fs (.pointer (some ⟨w.heap.size, 0, none⟩)) (w.alloc (.cells za t)) := by
  have efs : fs = false := by cases hfs : fs with
    | false => rfl
    | true => rw [h.2.1 hfs] at e; cases e
  subst efs
  exact ⟨h.1.alloc h.1.size _, fun _ => rfl, fun _ => ⟨_, rfl, h.1.size, heap_alloc_new w _⟩⟩
theorem GO.store {g : Nat} (h : GO w0 t za vs fa fs xa w) (ha : fa = true) (hx : xa = .pointer (some ⟨g, 0, none⟩)) (hb : Below w0.heap.size w w') (hg : w'.heap[g]? = some (.cells vs t (0, 0))) : GO w0 t za vs fa true xa w' := by
  obtain ⟨g', e, hg', _⟩ := h.2.2 ha
  exact ⟨h.1.trans hb, fun _ => ha, fun _ => ⟨g', e, hg', by rw [hx] at e; cases e; exact hg⟩⟩
end
end Go.Proofs.Ytonkkibnigdfbaa
namespace Go.Proofs.Ytonkkibnigdfbaa
set_option linter.unusedVariables false
set_option linter.unusedSimpArgs false
def mvL (N : NetP) (l : Lk) (j : Nat) (x : Int) : Int := match j with
  | 0 => W.free (shutL N l) x
  | 1 => if l.door then W.next l.op x else x
  | _ => if l.door then x else W.gap l.cl x l.len
section
variable {N : NetP} {l : Lk} {t x y : Int} {j : Nat}
theorem mvL_ge (h : OkN N) (hl : okL N.cs.length l = true) (hx : 0 ≤ x ∧ x ≤ 1099511627776) : x ≤ mvL N l j x := by
  obtain ⟨_, _, _, k1, k2, k3, k4, _⟩ := okL_iff.1 hl
  match j with
  | 0 => exact (W.gap_spec (shut_good h l) hx (n := 1) (by omega)).1
  | 1 =>
    unfold mvL
    cases hd : l.door with
    | true => rw [if_pos rfl]; exact W.next_ge k3 hx
    | false => rw [if_neg (by simp)]; exact Int.le_refl _
  | _ + 2 =>
    unfold mvL
    cases hd : l.door with
    | true => rw [if_pos rfl]; exact Int.le_refl _
    | false => rw [if_neg (by simp)]; exact (W.gap_spec k4 hx (n := l.len) (by omega)).1
theorem mvL_skip (h : OkN N) (hl : okL N.cs.length l = true) (hx : 0 ≤ x ∧ x ≤ 1099511627776) (hxy : x ≤ y) (hy : y < mvL N l j x) : mayL N l y = false := by
  match j with
  | 0 => exact mv_shut h hl hx hxy hy
  | 1 =>
    replace hy : y < (if l.door then W.next l.op x else x) := hy
    cases hd : l.door with
    | true => rw [hd, if_pos rfl] at hy; exact mv_open h hl hd hx hxy hy
    | false => rw [hd, if_neg (by simp)] at hy; omega
  | _ + 2 =>
    replace hy : y < (if l.door then x else W.gap l.cl x l.len) := hy
    cases hd : l.door with
    | true => rw [hd, if_pos rfl] at hy; omega
    | false => rw [hd, if_neg (by simp)] at hy; exact mv_gap h hl hd hx hxy hy
theorem mvL_end (h : OkN N) (hl : okL N.cs.length l = true) (ht : 0 ≤ t) (hlast : t ≤ N.hz - l.len) (hm : ∀ j, j < 3 → mvL N l j t = t) : mayL N l t = true := by
  refine mv_end h hl ht hlast (hm 0 (by omega)) (fun hd => ?_) (fun hd => ?_)
  · have := hm 1 (by omega)
    unfold mvL at this
    rwa [hd, if_pos rfl] at this
  · have := hm 2 (by omega)
    unfold mvL at this
    rwa [hd, if_neg (by simp)] at this
/-- what the search holds -/
structure Fs (N : NetP) (l : Lk) (t x : Int) : Prop where
  ge : t ≤ x
  no : ∀ y, t ≤ y → y < x → mayL N l y = false
theorem Fs.start : Fs N l t t := ⟨Int.le_refl _, fun y h1 h2 => by omega⟩
theorem Fs.step (h : OkN N) (hl : okL N.cs.length l = true) (ht : 0 ≤ t) (hf : Fs N l t x) (hx : x ≤ 1099511627776) : Fs N l t (mvL N l j x) := by
  have h0 : 0 ≤ x := Int.le_trans ht hf.ge
  refine ⟨Int.le_trans hf.ge (mvL_ge h hl ⟨h0, hx⟩), fun y h1 h2 => ?_⟩
  rcases Int.lt_or_le y x with h3 | h3
  · exact hf.no y h1 h3
  · exact mvL_skip h hl ⟨h0, hx⟩ h3 h2
theorem Fs.late (h : OkN N) (hl : okL N.cs.length l = true) (ht : 0 ≤ t) (hf : Fs N l t x) (hx : N.hz - l.len < x) : firstL N l t = W.inf := by
  refine first_no h hl ht fun z hz => ?_
  rcases Int.lt_or_le z x with h3 | h3
  · exact hf.no z hz h3
  · exact may_late h hl (by omega) (by omega)
theorem Fs.at (h : OkN N) (hl : okL N.cs.length l = true) (ht : 0 ≤ t) (hf : Fs N l t x) (hx : x ≤ N.hz - l.len) (hm : ∀ j, j < 3 → mvL N l j x = x) : firstL N l t = x :=
  first_at h hl ht hf.ge (mvL_end h hl (Int.le_trans ht hf.ge) hx hm) hf.no
end
theorem atF_bad {N : NetP} {i t : Int} (h : askF N i t = false) : atF N i t = W.inf := by unfold atF; rw [h]; rfl
theorem toF_bad {N : NetP} {i t : Int} (h : askF N i t = false) : toF N i t = W.inf := by unfold toF; rw [h]; rfl
theorem askF_iff {N : NetP} {i t : Int} : askF N i t = true ↔ OkN N ∧ (0 ≤ i ∧ i < N.ls.length) ∧ (0 ≤ t ∧ t ≤ 1099511627776) := by
  unfold askF
  rw [decide_eq_true_iff, chkN_iff]
  exact ⟨fun h => ⟨h.1, h.2.1, W.chk_zero h.2.2⟩, fun h => ⟨h.1, h.2.1, W.chk_ok h.2.2⟩⟩
theorem atF_ok {N : NetP} {k : Nat} {t : Int} {l : Lk} (h : OkN N) (hl : N.ls[k]? = some l) (ht : 0 ≤ t ∧ t ≤ 1099511627776) : atF N k t = firstL N l t := by
  unfold atF
  rw [askF_iff.2 ⟨h, ⟨by omega, by have := (List.getElem?_eq_some_iff.1 hl).1; omega⟩, ht⟩, if_pos rfl, Int.toNat_natCast, hl]
theorem toF_ok {N : NetP} {k : Nat} {t : Int} {l : Lk} (h : OkN N) (hl : N.ls[k]? = some l) (ht : 0 ≤ t ∧ t ≤ 1099511627776) : toF N k t = toL N l t := by
  unfold toF
  rw [askF_iff.2 ⟨h, ⟨by omega, by have := (List.getElem?_eq_some_iff.1 hl).1; omega⟩, ht⟩, if_pos rfl, Int.toNat_natCast, hl]
end Go.Proofs.Ytonkkibnigdfbaa
namespace Go.Proofs.Ytonkkibnigdfbaa
open Go.RowKit Go.Shelf B
set_option linter.unusedVariables false
set_option linter.unusedSimpArgs false
set_option maxHeartbeats 2000000
def meaF (last : Int) (vt vm : Value) : Nat := 2 * (last + 1 - min (intOf vt) (last + 1)).toNat + (match vm with | .bool true => 1 | _ => 0)
set_option maxRecDepth 100000 in
theorem lfirst_any {N : NetP} {A B : Option Addr} {n c m d : Nat} (hs : Small N) (i t : Int) (w : World) (hr : RNet w N A n B m) :
    Calls Try.prog 86 #[.agg #[.int .i64 N.hz, .slice A n c, .slice B m d], .int .i64 i, .int .i64 t] w fun e w' => e = .returned (.tuple #[.int .i64 (atF N i t), .int .i64 (toF N i t)]) ∧ Below w.heap.size w w' := by
  obtain ⟨hz, hhz⟩ : ∃ q, N.hz = q := ⟨_, rfl⟩
  have hm := hr.mm
  have hn := hr.nn
  have hs2 := hs.ln
  have hs1 := hs.cn
  rw [hhz]
  have hb1 : Below w.heap.size w (w.alloc (.cells #[.int .i64 hz, .slice A n c, .slice B m d] 25)) := (Below.refl _ w).alloc (Nat.le_refl _) _
  obtain ⟨x0, x1, x2⟩ := rowBx3 w 25 (.int .i64 hz) (.slice A n c) (.slice B m d)
  have hbn1 : w.heap.size < (w.alloc (.cells #[.int .i64 hz, .slice A n c, .slice B m d] 25)).heap.size := by simp
  obtain ⟨w1, hw1⟩ : ∃ q, w.alloc (.cells #[.int .i64 hz, .slice A n c, .slice B m d] 25) = q := ⟨_, rfl⟩
  rw [hw1] at hb1 x0 x1 x2 hbn1
  obtain ⟨bn, hbn⟩ : ∃ q, w.heap.size = q := ⟨_, rfl⟩
  rw [hbn] at x0 x1 x2 hbn1
  have hr1 := hr.below hb1
  have hC := Lib.hid (lcheck_any (c := c) (d := d) hs w1 hr1)
  rw [hhz] at hC
  have hup : Hid (∀ w2, Below w1.heap.size w1 w2 → Below w.heap.size w w2) := fun w2 h => hb1.trans (h.mono hb1.size)
  clear hb1 hr
  rcases chkN_cases N with hk | hk
  rotate_left
  · have hask : askF N i t = false := Bool.eq_false_iff.2 fun h => by have := chkN_iff.2 (askF_iff.1 h).1; omega
    rw [atF_bad hask, toF_bad hask]
    rw [hk] at hC
    clear hask hk hm hn hs2 hs1 hr1 hs
    go_enter Try.func86, Try.ntmps86
    go_wp2_with fail
    refine hC.out.mono ?_; rintro e w2 ⟨rfl, hb2⟩
    clear hC
    go_wp2_with fail
    go_returns
    exact ⟨rfl, hup.out _ hb2⟩
  rw [hk] at hC
  by_cases hi0 : i < 0
  · have hask : askF N i t = false := Bool.eq_false_iff.2 fun h => by have := (askF_iff.1 h).2.1; omega
    rw [atF_bad hask, toF_bad hask]
    have dl : decide (i < 0) = true := decide_eq_true hi0
    clear hask hk hm hn hs2 hs1 hr1 hs hi0
    go_enter Try.func86, Try.ntmps86
    go_wp2_with fail
    refine hC.out.mono ?_; rintro e w2 ⟨rfl, hb2⟩
    clear hC
    go_wp2_with fail
    go_returns
    exact ⟨rfl, hup.out _ hb2⟩
  obtain ⟨k, rfl⟩ : ∃ k : Nat, i = k := ⟨i.toNat, by omega⟩
  have dl : decide ((k : Int) < 0) = false := decide_eq_false hi0
  by_cases hkm : m ≤ k
  · have hask : askF N k t = false := Bool.eq_false_iff.2 fun h => by have := (askF_iff.1 h).2.1; omega
    rw [atF_bad hask, toF_bad hask]
    have dk : decide ((m : Int) ≤ (k : Int)) = true := decide_eq_true (by omega)
    have dk' : decide (m ≤ k) = true := decide_eq_true hkm
    clear hask hk hm hn hs2 hs1 hr1 hs hi0 hkm
    go_enter Try.func86, Try.ntmps86
    go_wp2_with fail
    refine hC.out.mono ?_; rintro e w2 ⟨rfl, hb2⟩
    have x2 := (hb2.cell (p := ⟨bn, 2, none⟩) hbn1).trans x2
    clear hC
    go_wp2_with fail
    go_returns
    exact ⟨rfl, hup.out _ hb2⟩
  have dk : decide ((m : Int) ≤ (k : Int)) = false := decide_eq_false (by omega)
  have dk' : decide (m ≤ k) = false := decide_eq_false hkm
  rcases W.chk_cases t with ht | ht
  rotate_left
  · have hask : askF N k t = false := Bool.eq_false_iff.2 fun h => by have := W.chk_ok (askF_iff.1 h).2.2; omega
    rw [atF_bad hask, toF_bad hask]
    have htc : Hid (∀ Y, Calls Try.prog 76 #[.int .i64 t] Y fun e w' => e = .returned (.int .i64 9) ∧ Y = w') := fun Y => by have := tcheckW_any t Y; rwa [ht] at this
    clear hask hk hm hn hs2 hs1 hr1 hs hi0 hkm ht
    go_enter Try.func86, Try.ntmps86
    go_wp2_with fail
    refine hC.out.mono ?_; rintro e w2 ⟨rfl, hb2⟩
    have x2 := (hb2.cell (p := ⟨bn, 2, none⟩) hbn1).trans x2
    clear hC
    go_wp2_with (refine (htc.out _).mono ?_; rintro e w' ⟨rfl, rfl⟩)
    go_returns
    exact ⟨rfl, hup.out _ hb2⟩
  have htc : Hid (∀ Y, Calls Try.prog 76 #[.int .i64 t] Y fun e w' => e = .returned (.int .i64 0) ∧ Y = w') := fun Y => by have := tcheckW_any t Y; rwa [ht] at this
  have htt := W.chk_zero ht
  have hN := chkN_iff.1 hk
  obtain ⟨l, hl, _⟩ := hr1.lnk (show k < m by omega)
  rw [atF_ok hN hl htt, toF_ok hN hl htt]
  have hlo := hN.lk l (List.mem_of_getElem? hl)
  have hlw := hs.lw l (List.mem_of_getElem? hl)
  obtain ⟨⟨ha0, han⟩, _, _, hl1, hl2, _⟩ := okL_iff.1 hlo
  rw [hn] at han
  obtain ⟨a, ha⟩ : ∃ a : Nat, l.a = a := ⟨l.a.toNat, by omega⟩
  obtain ⟨ln, hln⟩ : ∃ q, l.len = q := ⟨_, rfl⟩
  have hhz2 := hN.hz
  rw [hhz] at hhz2
  rw [hln] at hl1 hl2
  have hNH := Lib.hid hN
  have hLH := Lib.hid hlo
  have hKH := Lib.hid hl
  have hsH := Lib.hid hs
  clear hk hi0 ht hN hlo hl hs
  go_enter Try.func86, Try.ntmps86
  go_wp2_with fail
  refine hC.out.mono ?_; rintro e w2 ⟨rfl, hb2⟩
  have x0 := (hb2.cell (p := ⟨bn, 0, none⟩) hbn1).trans x0
  have x1 := (hb2.cell (p := ⟨bn, 1, none⟩) hbn1).trans x1
  have x2 := (hb2.cell (p := ⟨bn, 2, none⟩) hbn1).trans x2
  have hbn2 := Nat.lt_of_lt_of_le hbn1 hb2.size
  have hr2 := hr1.below hb2
  have hup2 := Lib.hid (hup.out _ hb2)
  clear hb2 hC hr1 hup hbn1
  go_wp2_with (refine (htc.out _).mono ?_; rintro e w' ⟨rfl, rfl⟩)
  obtain ⟨l2, hl2', b, o, pA, pn, pc, kA, kn, kc, rfl, hbl, ⟨ro, hro⟩, ⟨rk, hrk⟩, c0, c1, c2, c3, c4, c5, c6⟩ := hr2.lnk (show k < m by omega)
  obtain rfl : l2 = l := by have := hl2'.symm.trans hKH.out; exact Option.some.inj this
  obtain ⟨sb, so, sA, sn, sc, s, rfl, hsl, hsx, cs, rs, hsc⟩ := hr2.clo (show a < n by omega)
  have hshut : shutL N l2 = s := by unfold shutL; rw [ha, Int.toNat_natCast, hsx]; rfl
  have hsw := hsH.out.cw s (List.mem_of_getElem? hsx)
  rw [ha] at c0
  rw [hln] at c2
  obtain ⟨lb, hlb⟩ : ∃ q, l2.b = q := ⟨_, rfl⟩
  obtain ⟨ld, hld⟩ : ∃ q, l2.door = q := ⟨_, rfl⟩
  obtain ⟨lo, hlo⟩ : ∃ q, l2.no = q := ⟨_, rfl⟩
  rw [hlb] at c1; rw [hld] at c3; rw [hlo] at c4
  have hroL := ro.len
  have hrkL := rk.len
  have hrsL := rs.len
  have ro := Lib.hid ro
  have rk := Lib.hid rk
  have rs := Lib.hid rs
  have hkm2 : k < m := by omega
  have hkmI : (k : Int) < (m : Int) := by omega
  have hanI : (a : Int) < (n : Int) := by omega
  have han2 : a < n := by omega
  clear hr2 hKH hl2' hsx hsH
  go_upto_region 3 with fail
  refine wp_region_ghost (fun fl x w => GO w2 154 #[.int .i64 0, .int .i64 0, .int .i64 0, .bool false, .int .i64 0, .slice none 0 0, .slice none 0 0, .slice none 0 0] #[.int .i64 (a : Int), .int .i64 lb, .int .i64 ln, .bool ld, .int .i64 lo, .slice pA pn pc, .slice kA kn kc, .slice sA sn sc] (fl 16) (fl 17) (x 16) w) (by kernel_rfl) (by kernel_rfl) (by kernel_rfl) (by kernel_rfl) (by kernel_rfl) ?_ ?_
  · intro x
    exact GO.start rfl rfl
  intro base O hbase hO
  have kx1 : Hid (∀ xs, evX base O xs (.tmp 1) = .int .i64 (k : Int)) := fun xs => by rw [hbase, hO]; rfl
  have kx3 : Hid (∀ xs, evX base O xs (.tmp 3) = .pointer (some ⟨bn, 0, none⟩)) := fun xs => by rw [hbase, hO]; rfl
  have kx8 : Hid (∀ xs, evX base O xs (.tmp 8) = xs 16) := fun xs => by rw [hO]; rfl
  have kx33 : Hid (∀ xs, evX base O xs (.tmp 33) = xs 0) := fun xs => by rw [hO]; rfl
  have kx34 : Hid (∀ xs, evX base O xs (.tmp 34) = xs 1) := fun xs => by rw [hO]; rfl
  have kx35 : Hid (∀ xs, evX base O xs (.tmp 35) = xs 2) := fun xs => by rw [hO]; rfl
  have kx36 : Hid (∀ xs, evX base O xs (.tmp 36) = xs 3) := fun xs => by rw [hO]; rfl
  have kx37 : Hid (∀ xs, evX base O xs (.tmp 37) = xs 4) := fun xs => by rw [hO]; rfl
  have kx38 : Hid (∀ xs, evX base O xs (.tmp 38) = xs 5) := fun xs => by rw [hO]; rfl
  have kx39 : Hid (∀ xs, evX base O xs (.tmp 39) = xs 6) := fun xs => by rw [hO]; rfl
  have kx40 : Hid (∀ xs, evX base O xs (.tmp 40) = xs 7) := fun xs => by rw [hO]; rfl
  have kx41 : Hid (∀ xs, evX base O xs (.tmp 41) = xs 8) := fun xs => by rw [hO]; rfl
  have kx42 : Hid (∀ xs, evX base O xs (.tmp 42) = xs 9) := fun xs => by rw [hO]; rfl
  have kx43 : Hid (∀ xs, evX base O xs (.tmp 43) = xs 10) := fun xs => by rw [hO]; rfl
  have kx44 : Hid (∀ xs, evX base O xs (.tmp 44) = xs 11) := fun xs => by rw [hO]; rfl
  have kx45 : Hid (∀ xs, evX base O xs (.tmp 45) = xs 12) := fun xs => by rw [hO]; rfl
  have kx46 : Hid (∀ xs, evX base O xs (.tmp 46) = xs 13) := fun xs => by rw [hO]; rfl
  have kx47 : Hid (∀ xs, evX base O xs (.tmp 47) = xs 14) := fun xs => by rw [hO]; rfl
  have kx48 : Hid (∀ xs, evX base O xs (.tmp 48) = xs 15) := fun xs => by rw [hO]; rfl
  clear hbase hO
  apply gh_det (n := 0)
  · intro fl xs w ev hG hD hl hdone hev K hK
    have e3 := (hev (.tmp 3)).trans (kx3.out xs)
    rw [if_pos (wantedX_none rfl)]
    have ef : ∀ f, ev (.func f) = .func (.func f) #[] #[] := fun f => (hev _).trans rfl
    clear hev hD
    go_simp
    exact hK _ _ rfl hG
  apply gh_det (n := 1)
  · intro fl xs w ev hG hD hl hdone hev K hK
    have e33 := (hev (.tmp 33)).trans (kx33.out xs)
    have d0 := hD.at_ 0 rfl rfl
    replace e33 := e33.trans d0
    rw [if_pos (wantedX_none rfl)]
    have ef : ∀ f, ev (.func f) = .func (.func f) #[] #[] := fun f => (hev _).trans rfl
    clear hev hD
    have hbw := hG.1
    have mx2 := (hbw.cell (p := ⟨bn, _, none⟩) hbn2).trans x2
    go_simp
    exact hK _ _ rfl hG
  apply gh_det (n := 2)
  · intro fl xs w ev hG hD hl hdone hev K hK
    have e1 := (hev (.tmp 1)).trans (kx1.out xs)
    rw [if_pos (wantedX_none rfl)]
    have ef : ∀ f, ev (.func f) = .func (.func f) #[] #[] := fun f => (hev _).trans rfl
    clear hev hD
    go_simp
    exact hK _ _ rfl hG
  apply gh_det (n := 3)
  · intro fl xs w ev hG hD hl hdone hev K hK
    have e34 := (hev (.tmp 34)).trans (kx34.out xs)
    have d1 := hD.at_ 1 rfl rfl
    replace e34 := e34.trans d1
    have e35 := (hev (.tmp 35)).trans (kx35.out xs)
    have d2 := hD.at_ 2 rfl rfl
    replace e35 := e35.trans d2
    rw [if_pos (wantedX_none rfl)]
    have ef : ∀ f, ev (.func f) = .func (.func f) #[] #[] := fun f => (hev _).trans rfl
    clear hev hD
    go_simp
    exact hK _ _ rfl hG
  apply gh_det (n := 4)
  · intro fl xs w ev hG hD hl hdone hev K hK
    have e36 := (hev (.tmp 36)).trans (kx36.out xs)
    have d3 := hD.at_ 3 rfl rfl
    replace e36 := e36.trans d3
    rw [if_pos (wantedX_none rfl)]
    have ef : ∀ f, ev (.func f) = .func (.func f) #[] #[] := fun f => (hev _).trans rfl
    clear hev hD
    have hbw := hG.1
    have mc0 := (hbw.cell (p := ⟨b, _, none⟩) hbl).trans c0
    have mc1 := (hbw.cell (p := ⟨b, _, none⟩) hbl).trans c1
    have mc2 := (hbw.cell (p := ⟨b, _, none⟩) hbl).trans c2
    have mc3 := (hbw.cell (p := ⟨b, _, none⟩) hbl).trans c3
    have mc4 := (hbw.cell (p := ⟨b, _, none⟩) hbl).trans c4
    have mc5 := (hbw.cell (p := ⟨b, _, none⟩) hbl).trans c5
    have mc6 := (hbw.cell (p := ⟨b, _, none⟩) hbl).trans c6
    go_simp
    exact hK _ _ rfl hG
  apply gh_det (n := 5)
  · intro fl xs w ev hG hD hl hdone hev K hK
    have e3 := (hev (.tmp 3)).trans (kx3.out xs)
    rw [if_pos (wantedX_none rfl)]
    have ef : ∀ f, ev (.func f) = .func (.func f) #[] #[] := fun f => (hev _).trans rfl
    clear hev hD
    go_simp
    exact hK _ _ rfl hG
  apply gh_det (n := 6)
  · intro fl xs w ev hG hD hl hdone hev K hK
    have e38 := (hev (.tmp 38)).trans (kx38.out xs)
    have d5 := hD.at_ 5 rfl rfl
    replace e38 := e38.trans d5
    rw [if_pos (wantedX_none rfl)]
    have ef : ∀ f, ev (.func f) = .func (.func f) #[] #[] := fun f => (hev _).trans rfl
    clear hev hD
    have hbw := hG.1
    have mx1 := (hbw.cell (p := ⟨bn, _, none⟩) hbn2).trans x1
    go_simp
    exact hK _ _ rfl hG
  apply gh_det (n := 7)
  · intro fl xs w ev hG hD hl hdone hev K hK
    have e3 := (hev (.tmp 3)).trans (kx3.out xs)
    rw [if_pos (wantedX_none rfl)]
    have ef : ∀ f, ev (.func f) = .func (.func f) #[] #[] := fun f => (hev _).trans rfl
    clear hev hD
    go_simp
    exact hK _ _ rfl hG
  apply gh_det (n := 8)
  · intro fl xs w ev hG hD hl hdone hev K hK
    have e40 := (hev (.tmp 40)).trans (kx40.out xs)
    have d7 := hD.at_ 7 rfl rfl
    replace e40 := e40.trans d7
    rw [if_pos (wantedX_none rfl)]
    have ef : ∀ f, ev (.func f) = .func (.func f) #[] #[] := fun f => (hev _).trans rfl
    clear hev hD
    have hbw := hG.1
    have mx2 := (hbw.cell (p := ⟨bn, _, none⟩) hbn2).trans x2
    go_simp
    exact hK _ _ rfl hG
  apply gh_det (n := 9)
  · intro fl xs w ev hG hD hl hdone hev K hK
    have e1 := (hev (.tmp 1)).trans (kx1.out xs)
    rw [if_pos (wantedX_none rfl)]
    have ef : ∀ f, ev (.func f) = .func (.func f) #[] #[] := fun f => (hev _).trans rfl
    clear hev hD
    go_simp
    exact hK _ _ rfl hG
  apply gh_det (n := 10)
  · intro fl xs w ev hG hD hl hdone hev K hK
    have e41 := (hev (.tmp 41)).trans (kx41.out xs)
    have d8 := hD.at_ 8 rfl rfl
    replace e41 := e41.trans d8
    have e42 := (hev (.tmp 42)).trans (kx42.out xs)
    have d9 := hD.at_ 9 rfl rfl
    replace e42 := e42.trans d9
    rw [if_pos (wantedX_none rfl)]
    have ef : ∀ f, ev (.func f) = .func (.func f) #[] #[] := fun f => (hev _).trans rfl
    clear hev hD
    go_simp
    exact hK _ _ rfl hG
  apply gh_det (n := 11)
  · intro fl xs w ev hG hD hl hdone hev K hK
    have e43 := (hev (.tmp 43)).trans (kx43.out xs)
    have d10 := hD.at_ 10 rfl rfl
    replace e43 := e43.trans d10
    rw [if_pos (wantedX_none rfl)]
    have ef : ∀ f, ev (.func f) = .func (.func f) #[] #[] := fun f => (hev _).trans rfl
    clear hev hD
    go_simp
    exact hK _ _ rfl hG
  apply gh_det (n := 12)
  · intro fl xs w ev hG hD hl hdone hev K hK
    have e44 := (hev (.tmp 44)).trans (kx44.out xs)
    have d11 := hD.at_ 11 rfl rfl
    replace e44 := e44.trans d11
    rw [if_pos (wantedX_none rfl)]
    have ef : ∀ f, ev (.func f) = .func (.func f) #[] #[] := fun f => (hev _).trans rfl
    clear hev hD
    have hbw := hG.1
    have mc0 := (hbw.cell (p := ⟨b, _, none⟩) hbl).trans c0
    go_simp
    exact hK _ _ rfl hG
  apply gh_det (n := 13)
  · intro fl xs w ev hG hD hl hdone hev K hK
    have e39 := (hev (.tmp 39)).trans (kx39.out xs)
    have d6 := hD.at_ 6 rfl rfl
    replace e39 := e39.trans d6
    have e45 := (hev (.tmp 45)).trans (kx45.out xs)
    have d12 := hD.at_ 12 rfl rfl
    replace e45 := e45.trans d12
    rw [if_pos (wantedX_none rfl)]
    have ef : ∀ f, ev (.func f) = .func (.func f) #[] #[] := fun f => (hev _).trans rfl
    clear hev hD
    go_simp
    exact hK _ _ rfl hG
  apply gh_det (n := 14)
  · intro fl xs w ev hG hD hl hdone hev K hK
    have e46 := (hev (.tmp 46)).trans (kx46.out xs)
    have d13 := hD.at_ 13 rfl rfl
    replace e46 := e46.trans d13
    rw [if_pos (wantedX_none rfl)]
    have ef : ∀ f, ev (.func f) = .func (.func f) #[] #[] := fun f => (hev _).trans rfl
    clear hev hD
    have hbw := hG.1
    have mcs := (hbw.cell (p := ⟨sb, _, none⟩) hsl).trans cs
    go_simp
    exact hK _ _ rfl hG
  apply gh_det (n := 15)
  · intro fl xs w ev hG hD hl hdone hev K hK
    have e37 := (hev (.tmp 37)).trans (kx37.out xs)
    have d4 := hD.at_ 4 rfl rfl
    replace e37 := e37.trans d4
    have e47 := (hev (.tmp 47)).trans (kx47.out xs)
    have d14 := hD.at_ 14 rfl rfl
    replace e47 := e47.trans d14
    rw [if_pos (wantedX_none rfl)]
    have ef : ∀ f, ev (.func f) = .func (.func f) #[] #[] := fun f => (hev _).trans rfl
    clear hev hD
    go_simp
    exact hK _ _ rfl hG
  refine gh_any (n := 16) (fun _ => True) ?_ ?_
  · intro fl xs w ev hG hD hl hdone hev K hK
    rw [if_pos (wantedX_none rfl)]
    have ef : ∀ f, ev (.func f) = .func (.func f) #[] #[] := fun f => (hev _).trans rfl
    clear hev hD
    go_simp
    exact hK _ _ trivial (hG.alloc hl)
  refine gh_any (n := 17) (fun _ => True) ?_ ?_
  · intro fl xs w ev hG hD hl hdone hev K hK
    have e8 := (hev (.tmp 8)).trans (kx8.out xs)
    have e48 := (hev (.tmp 48)).trans (kx48.out xs)
    have d15 := hD.at_ 15 rfl rfl
    replace e48 := e48.trans d15
    rw [if_pos (wantedX_none rfl)]
    have ef : ∀ f, ev (.func f) = .func (.func f) #[] #[] := fun f => (hev _).trans rfl
    clear hev hD
    obtain ⟨g, eg, hg, hgc⟩ := hG.2.2 (done_of hdone 16 rfl)
    have hl17 := hl
    rw [show fl 17 = false from hl, if_neg (by simp)] at hgc
    obtain ⟨⟨f0, f1, f2, f3, f4, f5, f6, f7⟩, hnew⟩ := set8 (.int .i64 (a : Int)) (.int .i64 lb) (.int .i64 ln) (.bool ld) (.int .i64 lo) (.slice pA pn pc) (.slice kA kn kc) (.slice sA sn sc) hgc
    have hst := hG.store (done_of hdone 16 rfl) eg ((((((((((Below.refl _ _).setCell hg _).setCell hg _).setCell hg _).setCell hg _).setCell hg _).setCell hg _).setCell hg _).setCell hg _)) hnew
    rw [eg] at e8
    have q0 : w.cell? ⟨g, 0, none⟩ = some (.int .i64 0) := by rw [cell_of_row _ _ _ _ _ _ hgc]; rfl
    have q1 : w.cell? ⟨g, 1, none⟩ = some (.int .i64 0) := by rw [cell_of_row _ _ _ _ _ _ hgc]; rfl
    have q2 : w.cell? ⟨g, 2, none⟩ = some (.int .i64 0) := by rw [cell_of_row _ _ _ _ _ _ hgc]; rfl
    have q3 : w.cell? ⟨g, 3, none⟩ = some (.bool false) := by rw [cell_of_row _ _ _ _ _ _ hgc]; rfl
    have q4 : w.cell? ⟨g, 4, none⟩ = some (.int .i64 0) := by rw [cell_of_row _ _ _ _ _ _ hgc]; rfl
    have q5 : w.cell? ⟨g, 5, none⟩ = some (.slice none 0 0) := by rw [cell_of_row _ _ _ _ _ _ hgc]; rfl
    have q6 : w.cell? ⟨g, 6, none⟩ = some (.slice none 0 0) := by rw [cell_of_row _ _ _ _ _ _ hgc]; rfl
    have q7 : w.cell? ⟨g, 7, none⟩ = some (.slice none 0 0) := by rw [cell_of_row _ _ _ _ _ _ hgc]; rfl
    go_simp
    exact hK _ _ trivial hst
  intro xs w4 hG hI
  clear hI
  obtain ⟨hb4, _, hgf⟩ := hG
  obtain ⟨g0, eg, hg0, hgc⟩ := hgf rfl
  rw [if_pos rfl] at hgc
  have hE := EdgeC.of_row _ hgc
  simp only [List.append_eq, List.cons_append, List.nil_append, setAll, List.setIfInBounds_toArray, List.set_cons_zero, List.set_cons_succ]
  rw [eg]
  have x0 := (hb4.cell (p := ⟨bn, 0, none⟩) hbn2).trans x0
  have d2 := hE.c2
  have roH := Lib.hid (ro.out.below hb4)
  have rkH := Lib.hid (rk.out.below hb4)
  have rsH := Lib.hid (rs.out.below hb4)
  have hup4 : Hid (∀ w5, Below w4.heap.size w4 w5 → Below w.heap.size w w5) := fun w5 h => hup2.out.trans ((hb4.trans (h.mono hb4.size)).mono (by have := hup2.out.size; omega))
  have hgl := hE.lt
  have hE := Lib.hid hE
  have hop := hlw.1
  have hcp := hlw.2
  have hStep : Hid (∀ j x, Fs N l2 t x → x ≤ hz - ln → Fs N l2 t (mvL N l2 j x) ∧ x ≤ mvL N l2 j x) := fun j x hF hx => ⟨hF.step hNH.out hLH.out htt.1 (by omega), mvL_ge hNH.out hLH.out ⟨Int.le_trans htt.1 hF.ge, by omega⟩⟩
  have hLate : Hid (∀ x, Fs N l2 t x → hz - ln < x → firstL N l2 t = W.inf ∧ toL N l2 t = W.inf) := fun x hF hx => by
    have h1 := hF.late hNH.out hLH.out htt.1 (by rw [hhz, hln]; exact hx)
    exact ⟨h1, by unfold toL; rw [if_pos h1]⟩
  have hAt : Hid (∀ x, Fs N l2 t x → x ≤ hz - ln → (∀ j, j < 3 → mvL N l2 j x = x) → firstL N l2 t = x ∧ toL N l2 t = x + ln) := fun x hF hx hm => by
    have h1 := hF.at hNH.out hLH.out htt.1 (by rw [hhz, hln]; exact hx) hm
    have h9 := inf_big
    exact ⟨h1, by unfold toL; rw [if_neg (by omega), h1, hln]⟩
  have hmvE : Hid (∀ (w5 : World) (g : Nat), EdgeC w5 g (a : Int) lb ln ld lo pA pn pc kA kn kc sA sn sc → Below w4.heap.size w4 w5 → ∀ Y, Below w5.heap.size w5 Y → ∀ x,
      (Calls Try.prog 128 #[.int .i64 x, .pointer (some ⟨g, 0, none⟩)] Y fun e w' => e = .returned (.int .i64 (mvL N l2 0 x)) ∧ Below Y.heap.size Y w') ∧
      (Calls Try.prog 130 #[.int .i64 x, .pointer (some ⟨g, 0, none⟩)] Y fun e w' => e = .returned (.int .i64 (mvL N l2 1 x)) ∧ Below Y.heap.size Y w') ∧
      (Calls Try.prog 132 #[.int .i64 x, .pointer (some ⟨g, 0, none⟩)] Y fun e w' => e = .returned (.int .i64 (mvL N l2 2 x)) ∧ Below Y.heap.size Y w')) := fun w5 g hEE h5 Y hY x => by
    have hEY := hEE.below hY
    have r1 := ((roH.out.below h5).below hY)
    have r2 := ((rkH.out.below h5).below hY)
    have r3 := ((rsH.out.below h5).below hY)
    refine ⟨?_, ?_, ?_⟩
    · show Calls _ _ _ _ fun e w' => e = .returned (.int .i64 (W.free (shutL N l2) x)) ∧ _
      rw [hshut]
      exact mov1_any hEY r3 (by omega) hsc x
    · show Calls _ _ _ _ fun e w' => e = .returned (.int .i64 (if l2.door then W.next l2.op x else x)) ∧ _
      rw [hld]
      exact mov2_any hEY r1 (by omega) x
    · show Calls _ _ _ _ fun e w' => e = .returned (.int .i64 (if l2.door then x else W.gap l2.cl x l2.len)) ∧ _
      rw [hld, hln]
      exact mov3_any hEY r2 (by omega) hrk x
  clear hgf hgc eg hb4 ro rk rs roH rkH rsH hNH hLH hlw hup2 x1 x2 c0 c1 c2 c3 c4 c5 c6 cs hhz hln hshut hld
  go_wp2_with fail
  go_loopw [2, 10] (fun vt vm wr => ∃ (x : Int) (b : Bool), vt = .int .i64 x ∧ vm = .bool b ∧ Below w4.heap.size w4 wr ∧ Hid (Fs N l2 t x ∧ (b = false → x ≤ hz - ln ∧ ∀ j, j < 3 → mvL N l2 j x = x))) (fun vt vm _ => meaF (hz - ln) vt vm)
  case atStart => exact ⟨t, true, rfl, rfl, Below.refl _ _, Fs.start, fun h => by cases h⟩
  case round =>
    obtain ⟨x, b, rfl, rfl, hbr, hI⟩ := hrel
    have hEr := hE.out.below hbr
    have d2 := hEr.c2
    have hgr := hEr.lt
    cases b with
    | true =>
      have d0 := hEr.c0
      have d1 := hEr.c1
      have d3 := hEr.c3
      have d4 := hEr.c4
      have d5 := hEr.c5
      have d6 := hEr.c6
      have d7 := hEr.c7
      have hmov := Lib.hid (movers_any (a : Int) lb ln ld lo pA pn pc kA kn kc sA sn sc wr)
      clear hEr
      go_wp2_with fail
      refine hmov.out.mono ?_; rintro e w5 ⟨g, rfl, hEg, hb5⟩
      have hb45 := hbr.trans (hb5.mono hbr.size)
      have hM := Lib.hid (hmvE.out w5 g hEg hb45)
      clear d0 d1 d2 d3 d4 d5 d6 d7 hb5 hEg hmov
      have ix : ∀ (j : Int) (v : Value), (j = 0 ∧ v = .func (.func 128) #[] #[.pointer (some ⟨g, 0, none⟩)]) ∨ (j = 1 ∧ v = .func (.func 130) #[] #[.pointer (some ⟨g, 0, none⟩)]) ∨ (j = 2 ∧ v = .func (.func 132) #[] #[.pointer (some ⟨g, 0, none⟩)]) →
          ∀ U, (Instr.index 156 (.agg #[.func (.func 128) #[] #[.pointer (some ⟨g, 0, none⟩)], .func (.func 130) #[] #[.pointer (some ⟨g, 0, none⟩)], .func (.func 132) #[] #[.pointer (some ⟨g, 0, none⟩)]]) (.int .i64 j)).run Try.prog U = .ok v U := by
        rintro j v (⟨rfl, rfl⟩ | ⟨rfl, rfl⟩ | ⟨rfl, rfl⟩) U <;> kernel_rfl
      have ix0 := ix 0 _ (.inl ⟨rfl, rfl⟩)
      have ix1 := ix 1 _ (.inr (.inl ⟨rfl, rfl⟩))
      have ix2 := ix 2 _ (.inr (.inr ⟨rfl, rfl⟩))
      clear ix
      go_wp2_with fail
      go_loopw [2, 10, 58] (fun vt vm vj wq => ∃ (y : Int) (b' : Bool) (j : Int), vt = .int .i64 y ∧ vm = .bool b' ∧ vj = .int .i64 j ∧ (j = 0 ∨ j = 1 ∨ j = 2 ∨ j = 3) ∧ Below w5.heap.size w5 wq ∧ Hid (Fs N l2 t y ∧ (b' = false → y = x ∧ ∀ i : Nat, (i : Int) < j → mvL N l2 i x = x) ∧ (b' = true → x < y ∧ x ≤ hz - ln) ∧ (0 < j → x ≤ hz - ln))) (fun _ _ vj _ => (3 - intOf vj).toNat)
      case atStart => exact ⟨x, false, 0, rfl, rfl, rfl, .inl rfl, Below.refl _ _, hI.out.1, fun _ => ⟨rfl, fun i hi => by omega⟩, (fun h => by cases h), fun h => by omega⟩
      case round =>
        obtain ⟨y, b', j, rfl, rfl, rfl, hj, hbq, hJ⟩ := hrel
        rcases hj with rfl | rfl | rfl | rfl
        · have j1 := hJ.out.1
          rcases Int.lt_or_le (hz - ln) y with hx | hx
          · have dx : decide (hz - ln < y) = true := decide_eq_true hx
            obtain ⟨a1, a2⟩ := hLate.out y j1 hx
            clear hJ hM hx
            go_wp2_with fail
            go_returns
            refine ⟨?_, hup4.out _ (hb45.trans (hbq.mono hb45.size))⟩
            rw [a1, a2]; rfl
          · have dx : decide (hz - ln < y) = false := decide_eq_false (by omega)
            have hmv := Lib.hid (hM.out wr hbq y).1
            have hst := hStep.out 0 y j1 hx
            obtain ⟨z, hz2⟩ : ∃ z, mvL N l2 0 y = z := ⟨_, rfl⟩
            rw [hz2] at hmv hst
            obtain ⟨hf, hge⟩ := hst
            by_cases hyx : z = y
            · subst hyx
              have dn : (z != z) = false := by simp
              have hJ2 : Hid (Fs N l2 t z ∧ (b' = false → z = x ∧ ∀ i : Nat, (i : Int) < 1 → mvL N l2 i x = x) ∧ (b' = true → x < z ∧ x ≤ hz - ln) ∧ ((0 : Int) < 1 → x ≤ hz - ln)) := by
                obtain ⟨k1, k2, k3, k4⟩ := hJ.out
                refine ⟨k1, fun h => ?_, k3, fun _ => ?_⟩
                · obtain ⟨rfl, h2⟩ := k2 h
                  refine ⟨rfl, fun i hi => ?_⟩
                  rcases Nat.lt_or_ge i 0 with h3 | h3
                  · exact h2 i (by omega)
                  · obtain rfl : i = 0 := by omega
                    exact hz2
                · cases hb : b' with
                  | true => exact (k3 hb).2
                  | false => obtain ⟨rfl, _⟩ := k2 hb; exact hx
              clear hJ hf hge j1 hz2
              go_wp2_with fail
              refine hmv.out.mono ?_; rintro e w7 ⟨rfl, hb7⟩
              go_wp2_with fail
              go_roundw
              case rel => exact ⟨z, b', 1, rfl, rfl, rfl, by omega, hbq.trans (hb7.mono hbq.size), hJ2.out⟩
              case measure => simp [intOf]
            · have dn : (z != y) = true := by simp [hyx]
              have hJ2 : Hid (Fs N l2 t z ∧ x < z ∧ x ≤ hz - ln) := by
                obtain ⟨k1, k2, k3, k4⟩ := hJ.out
                have hxx : x ≤ hz - ln ∧ x ≤ y := by
                  cases hb : b' with
                  | true => have := k3 hb; omega
                  | false => obtain ⟨rfl, _⟩ := k2 hb; omega
                exact ⟨hf, by omega, hxx.1⟩
              clear hJ hf hge j1 hz2 hyx
              go_wp2_with fail
              refine hmv.out.mono ?_; rintro e w7 ⟨rfl, hb7⟩
              go_wp2_with fail
              go_roundw
              case rel =>
                obtain ⟨q1, q2, q3⟩ := hJ2.out
                exact ⟨z, true, 1, rfl, rfl, rfl, by omega, hbq.trans (hb7.mono hbq.size), q1, (fun h => by cases h), fun _ => ⟨q2, q3⟩, fun _ => q3⟩
              case measure => simp [intOf]
        · have j1 := hJ.out.1
          rcases Int.lt_or_le (hz - ln) y with hx | hx
          · have dx : decide (hz - ln < y) = true := decide_eq_true hx
            obtain ⟨a1, a2⟩ := hLate.out y j1 hx
            clear hJ hM hx
            go_wp2_with fail
            go_returns
            refine ⟨?_, hup4.out _ (hb45.trans (hbq.mono hb45.size))⟩
            rw [a1, a2]; rfl
          · have dx : decide (hz - ln < y) = false := decide_eq_false (by omega)
            have hmv := Lib.hid (hM.out wr hbq y).2.1
            have hst := hStep.out 1 y j1 hx
            obtain ⟨z, hz2⟩ : ∃ z, mvL N l2 1 y = z := ⟨_, rfl⟩
            rw [hz2] at hmv hst
            obtain ⟨hf, hge⟩ := hst
            by_cases hyx : z = y
            · subst hyx
              have dn : (z != z) = false := by simp
              have hJ2 : Hid (Fs N l2 t z ∧ (b' = false → z = x ∧ ∀ i : Nat, (i : Int) < 2 → mvL N l2 i x = x) ∧ (b' = true → x < z ∧ x ≤ hz - ln) ∧ ((0 : Int) < 2 → x ≤ hz - ln)) := by
                obtain ⟨k1, k2, k3, k4⟩ := hJ.out
                refine ⟨k1, fun h => ?_, k3, fun _ => ?_⟩
                · obtain ⟨rfl, h2⟩ := k2 h
                  refine ⟨rfl, fun i hi => ?_⟩
                  rcases Nat.lt_or_ge i 1 with h3 | h3
                  · exact h2 i (by omega)
                  · obtain rfl : i = 1 := by omega
                    exact hz2
                · cases hb : b' with
                  | true => exact (k3 hb).2
                  | false => obtain ⟨rfl, _⟩ := k2 hb; exact hx
              clear hJ hf hge j1 hz2
              go_wp2_with fail
              refine hmv.out.mono ?_; rintro e w7 ⟨rfl, hb7⟩
              go_wp2_with fail
              go_roundw
              case rel => exact ⟨z, b', 2, rfl, rfl, rfl, by omega, hbq.trans (hb7.mono hbq.size), hJ2.out⟩
              case measure => simp [intOf]
            · have dn : (z != y) = true := by simp [hyx]
              have hJ2 : Hid (Fs N l2 t z ∧ x < z ∧ x ≤ hz - ln) := by
                obtain ⟨k1, k2, k3, k4⟩ := hJ.out
                have hxx : x ≤ hz - ln ∧ x ≤ y := by
                  cases hb : b' with
                  | true => have := k3 hb; omega
                  | false => obtain ⟨rfl, _⟩ := k2 hb; omega
                exact ⟨hf, by omega, hxx.1⟩
              clear hJ hf hge j1 hz2 hyx
              go_wp2_with fail
              refine hmv.out.mono ?_; rintro e w7 ⟨rfl, hb7⟩
              go_wp2_with fail
              go_roundw
              case rel =>
                obtain ⟨q1, q2, q3⟩ := hJ2.out
                exact ⟨z, true, 2, rfl, rfl, rfl, by omega, hbq.trans (hb7.mono hbq.size), q1, (fun h => by cases h), fun _ => ⟨q2, q3⟩, fun _ => q3⟩
              case measure => simp [intOf]
        · have j1 := hJ.out.1
          rcases Int.lt_or_le (hz - ln) y with hx | hx
          · have dx : decide (hz - ln < y) = true := decide_eq_true hx
            obtain ⟨a1, a2⟩ := hLate.out y j1 hx
            clear hJ hM hx
            go_wp2_with fail
            go_returns
            refine ⟨?_, hup4.out _ (hb45.trans (hbq.mono hb45.size))⟩
            rw [a1, a2]; rfl
          · have dx : decide (hz - ln < y) = false := decide_eq_false (by omega)
            have hmv := Lib.hid (hM.out wr hbq y).2.2
            have hst := hStep.out 2 y j1 hx
            obtain ⟨z, hz2⟩ : ∃ z, mvL N l2 2 y = z := ⟨_, rfl⟩
            rw [hz2] at hmv hst
            obtain ⟨hf, hge⟩ := hst
            by_cases hyx : z = y
            · subst hyx
              have dn : (z != z) = false := by simp
              have hJ2 : Hid (Fs N l2 t z ∧ (b' = false → z = x ∧ ∀ i : Nat, (i : Int) < 3 → mvL N l2 i x = x) ∧ (b' = true → x < z ∧ x ≤ hz - ln) ∧ ((0 : Int) < 3 → x ≤ hz - ln)) := by
                obtain ⟨k1, k2, k3, k4⟩ := hJ.out
                refine ⟨k1, fun h => ?_, k3, fun _ => ?_⟩
                · obtain ⟨rfl, h2⟩ := k2 h
                  refine ⟨rfl, fun i hi => ?_⟩
                  rcases Nat.lt_or_ge i 2 with h3 | h3
                  · exact h2 i (by omega)
                  · obtain rfl : i = 2 := by omega
                    exact hz2
                · cases hb : b' with
                  | true => exact (k3 hb).2
                  | false => obtain ⟨rfl, _⟩ := k2 hb; exact hx
              clear hJ hf hge j1 hz2
              go_wp2_with fail
              refine hmv.out.mono ?_; rintro e w7 ⟨rfl, hb7⟩
              go_wp2_with fail
              go_roundw
              case rel => exact ⟨z, b', 3, rfl, rfl, rfl, by omega, hbq.trans (hb7.mono hbq.size), hJ2.out⟩
              case measure => simp [intOf]
            · have dn : (z != y) = true := by simp [hyx]
              have hJ2 : Hid (Fs N l2 t z ∧ x < z ∧ x ≤ hz - ln) := by
                obtain ⟨k1, k2, k3, k4⟩ := hJ.out
                have hxx : x ≤ hz - ln ∧ x ≤ y := by
                  cases hb : b' with
                  | true => have := k3 hb; omega
                  | false => obtain ⟨rfl, _⟩ := k2 hb; omega
                exact ⟨hf, by omega, hxx.1⟩
              clear hJ hf hge j1 hz2 hyx
              go_wp2_with fail
              refine hmv.out.mono ?_; rintro e w7 ⟨rfl, hb7⟩
              go_wp2_with fail
              go_roundw
              case rel =>
                obtain ⟨q1, q2, q3⟩ := hJ2.out
                exact ⟨z, true, 3, rfl, rfl, rfl, by omega, hbq.trans (hb7.mono hbq.size), q1, (fun h => by cases h), fun _ => ⟨q2, q3⟩, fun _ => q3⟩
              case measure => simp [intOf]
        · obtain ⟨j1, j2, j3, j4⟩ := hJ.out
          have hfin : Hid (∃ b2, b2 = b' ∧ Fs N l2 t y ∧ (b2 = false → y ≤ hz - ln ∧ ∀ j, j < 3 → mvL N l2 j y = y)) := ⟨b', rfl, j1, fun h => by
            obtain ⟨rfl, h2⟩ := j2 h
            exact ⟨j4 (by omega), fun i hi => h2 i (by omega)⟩⟩
          have hmea : Hid (meaF (hz - ln) (.int .i64 y) (.bool b') < meaF (hz - ln) (.int .i64 x) (.bool true)) := by
            show _ < _
            cases b' with
            | true => obtain ⟨h1, h2⟩ := j3 rfl; simp only [meaF, intOf]; omega
            | false => obtain ⟨rfl, _⟩ := j2 rfl; simp only [meaF, intOf]; omega
          clear j1 j2 j3 j4 hJ hM
          go_wp2_with fail
          go_roundw
          case rel =>
            obtain ⟨b2, rfl, h1, h2⟩ := hfin.out
            exact ⟨y, b2, rfl, rfl, hb45.trans (hbq.mono hb45.size), h1, h2⟩
          case measure => exact hmea.out
    | false =>
      obtain ⟨h1, h2⟩ := hI.out
      obtain ⟨h3, h4⟩ := h2 rfl
      obtain ⟨a1, a2⟩ := hAt.out x h1 h3 h4
      have ht0 := h1.ge
      have dx : decide (hz - ln < x) = false := decide_eq_false (by omega)
      clear hEr hI h1 h2 h4
      go_upto_region 19 with fail
      refine wp_region_below wr.heap.size (by kernel_rfl) (by kernel_rfl) ?_
      intro C hC
      repeat (go_big_quiet_step (first
        | ((intro _; with_reducible rfl))
        | (intro hc; have m0 := (hc.cell (p := ⟨g0, _, none⟩) hgr).trans d2; simp only [m0, Result.andThen]; exact ⟨trivial, rfl⟩)))
      refine wpQuiet_nil ?_
      intro w6 hb6
      clear hC
      go_wp2_with fail
      go_returns
      refine ⟨?_, hup4.out _ (hbr.trans (hb6.mono hbr.size))⟩
      rw [a1, a2]; rfl
end Go.Proofs.Ytonkkibnigdfbaa
