/-
  Walk: spread.Trail.
-/
import Derived.Test.YtonkkibnigdfbaaRevV
namespace Go.Proofs.Ytonkkibnigdfbaa
open Go.RowKit Go.Shelf B K
set_option linter.unusedVariables false
set_option linter.unusedSimpArgs false
set_option maxHeartbeats 4000000
theorem but_below {B : Nat} {a b c : World} {X : List Nat} (h : But a b X) (k : Below B b c) (hB : a.heap.size ≤ B) : But a c X :=
  ⟨by first | exact h.os.trans k.os | exact k.os.trans h.os, by first | exact h.tape.trans k.tape | exact k.tape.trans h.tape, by first | exact h.output.trans k.output | exact k.output.trans h.output, Nat.le_trans h.size k.size, fun i hi hx => (k.block i (Nat.lt_of_lt_of_le hi hB)).trans (h.keep i hi hx)⟩
/-- one store behind all the rest -/
structure Then1 (G : World → Prop) (fl : Nat → Bool) (n : Nat) (p : Addr) (y : Value) (w : World) : Prop where
  c : fl n = true → ∀ k, k < n → fl k = true
  ahead : fl n = false → G w
  behind : fl n = true → ∃ w', G w' ∧ w = w'.setCell p y
section
variable {G : World → Prop} {fl : Nat → Bool} {n k : Nat} {p : Addr} {y : Value} {w : World}
theorem Then1.stf (h : Then1 G fl n p y w) (hk : k < n) (hl : fl k = false) : fl n = false := by
  cases e : fl n with
  | false => rfl
  | true => rw [h.c e k hk] at hl; cases hl
theorem Then1.mk0 (hs : fl n = false) (h : G w) : Then1 G fl n p y w := ⟨fun e => (by rw [hs] at e; cases e), fun _ => h, fun e => (by rw [hs] at e; cases e)⟩
theorem Then1.put (hall : ∀ k, k < n → fl k = true) (h : G w) : Then1 G (updB fl n) n p y (w.setCell p y) :=
  ⟨fun _ k hk => by unfold updB; rw [if_neg (by omega)]; exact hall k hk, fun e => (by unfold updB at e; rw [if_pos rfl] at e; cases e), fun _ => ⟨w, h, rfl⟩⟩
end
/-- the way back from a stop, link by link -/
inductive Tr (N : NetP) (V : List (Int × Int)) : Nat → List (Int × Int) → Prop
  | stop {s : Nat} {x : Int × Int} : V[s]? = some x → x.1 < 0 → Tr N V s []
  | step {s i : Nat} {f : Int} {l : Lk} {r : List (Int × Int)} : V[s]? = some ((i : Int), f) → N.ls[i]? = some l → Tr N V l.a.toNat r → Tr N V s (((i : Int), f) :: r)
theorem Tr.uniq {N : NetP} {V : List (Int × Int)} {s : Nat} {r : List (Int × Int)} (h : Tr N V s r) : ∀ {r' : List (Int × Int)}, Tr N V s r' → r = r' := by
  induction h with
  | stop h1 h2 =>
    intro r' h'
    cases h' with
    | stop _ _ => rfl
    | step h3 _ _ => rw [h1] at h3; cases h3; omega
  | step h1 h2 h3 ih =>
    intro r' h'
    cases h' with
    | stop h4 h5 => rw [h1] at h4; cases h4; omega
    | step h4 h5 h6 =>
      rw [h1] at h4
      simp only [Option.some.injEq, Prod.mk.injEq] at h4
      obtain ⟨h7, h8⟩ := h4
      have h7 : _ = _ := Int.ofNat.inj h7
      subst h7 h8
      rw [h2] at h5; cases h5
      rw [ih h6]
/-- a via that is one leads to an earlier label -/
theorem via_step {N : NetP} {arr D : List Int} {s : Nat} {x1 x2 : Int} (hN : OkN N) (hD : LabsOk N D) (hv : viaF N arr D s = (x1, x2)) (h0 : 0 ≤ x1) :
    ∃ (i : Nat) (l : Lk), x1 = (i : Int) ∧ N.ls[i]? = some l ∧ l.b = (s : Int) ∧ lab D l.a.toNat ≠ W.inf ∧ toL N l (lab D l.a.toNat) = lab D s ∧ x2 = firstL N l (lab D l.a.toNat) ∧ lab D l.a.toNat < lab D s ∧ 0 ≤ lab D l.a.toNat := by
  rcases viaF_cases N arr D s with ⟨h1, _⟩ | ⟨i, l, h1, h2, h3, h4⟩
  · rw [hv] at h1; cases h1; omega
  · rw [hv] at h4
    simp only [Prod.mk.injEq] at h4
    obtain ⟨h5, h6, h7⟩ := viaP_iff.1 h3
    have h8 := hD.fin h6
    have hz := hN.hz
    have h9 := to_gt hN (hN.lk l (List.mem_of_getElem? h2)) h8.1 (by omega)
    exact ⟨i, l, h4.1, h2, h5, h6, h7, h4.2, by omega, h8.1⟩
theorem strail1_any {t9 tb n cv s : Nat} {bv ov : Nat} {x1 : Int} (w : World) (h9 : w.cell? ⟨t9, 0, none⟩ = some (.slice (some ⟨bv, ov, none⟩) n cv)) (h5 : w.cell? ⟨tb, 0, none⟩ = some (.int .i64 (s : Int))) (hs : s < n) (hx : w.cell? ⟨bv, ov + s * 2, none⟩ = some (.int .i64 x1)) :
    Calls Try.prog 65 #[.pointer (some ⟨t9, 0, none⟩), .pointer (some ⟨tb, 0, none⟩)] w fun e w' => e = .returned (.bool (decide (0 ≤ x1))) ∧ w = w' := by
  have hsI : (s : Int) < (n : Int) := by omega
  go_enter Try.func65, Try.ntmps65
  go_wp2
  go_returns
  exact ⟨rfl, rfl⟩
/-- what Trail hands back -/
def tckN (N : NetP) (arr D : List Int) (tg : Int) : Int := if tg < 0 ∨ (N.cs.length : Int) ≤ tg then 2 else if lab D tg.toNat = W.inf then 5 else 0
def RetTrail (N : NetP) (arr : List Int) (n : Nat) (tg : Int) (w : World) (e : Ending) (w' : World) : Prop :=
  ∃ D, Spr N arr D ∧ Below w.heap.size w w' ∧ ((tckN N arr D tg ≠ 0 ∧ e = .returned (.tuple #[.slice none 0 0, .int .i64 (tckN N arr D tg)])) ∨
    (tckN N arr D tg = 0 ∧ ∃ A c L, e = .returned (.tuple #[.slice A L.length c, .int .i64 0]) ∧ Tr N (viasL N arr D) tg.toNat L.reverse ∧ Rd w' 2 pairE A L.length L ∧ L.length ≤ c ∧ c ≤ 9223372036854775807))
theorem trail_bad {N : NetP} {A B Ar : Option Addr} {n c m d na ca : Nat} {arr : List Int} {tg : Int} {w : World} (hs : Small N) (hr : RNet w N A n B m) (hra : Rd w 1 (numE .i64) Ar na arr) (hna : na ≤ 1099511627776) (hb : sckN N arr ≠ 0) :
    Calls Try.prog 32 #[.agg #[.int .i64 N.hz, .slice A n c, .slice B m d], .slice Ar na ca, .int .i64 tg] w fun e w' => e = .returned (.tuple #[.slice none 0 0, .int .i64 (sckN N arr)]) ∧ Below w.heap.size w w' := by
  have hb1 : Below w.heap.size w ((w.alloc (.cells #[.int .i64 N.hz, .slice A n c, .slice B m d] 25)).alloc (.cells #[.int .i64 tg] 3)) := ((Below.refl _ w).alloc (Nat.le_refl _) _).alloc (by simp) _
  have hbx : Below (w.alloc (.cells #[.int .i64 N.hz, .slice A n c, .slice B m d] 25)).heap.size (w.alloc (.cells #[.int .i64 N.hz, .slice A n c, .slice B m d] 25)) ((w.alloc (.cells #[.int .i64 N.hz, .slice A n c, .slice B m d] 25)).alloc (.cells #[.int .i64 tg] 3)) := (Below.refl _ _).alloc (Nat.le_refl _) _
  obtain ⟨x0, x1, x2⟩ := rowBx3 w 25 (.int .i64 N.hz) (.slice A n c) (.slice B m d)
  have hlt : w.heap.size < (w.alloc (.cells #[.int .i64 N.hz, .slice A n c, .slice B m d] 25)).heap.size := by simp
  have x0 := (hbx.cell (p := ⟨w.heap.size, 0, none⟩) hlt).trans x0
  have x1 := (hbx.cell (p := ⟨w.heap.size, 1, none⟩) hlt).trans x1
  have x2 := (hbx.cell (p := ⟨w.heap.size, 2, none⟩) hlt).trans x2
  obtain ⟨w1, hw1⟩ : ∃ q, (w.alloc (.cells #[.int .i64 N.hz, .slice A n c, .slice B m d] 25)).alloc (.cells #[.int .i64 tg] 3) = q := ⟨_, rfl⟩
  rw [hw1] at hb1 x0 x1 x2
  have hup : Hid (∀ w2, Below w1.heap.size w1 w2 → Below w.heap.size w w2) := fun w2 h => hb1.trans (h.mono hb1.size)
  have hA := Lib.hid (all_bad (c := c) (d := d) (ca := ca) hs (hr.below hb1) (hra.below hb1) hna hb)
  obtain ⟨e, he⟩ : ∃ e, sckN N arr = e := ⟨_, rfl⟩
  rw [he] at hA hb ⊢
  have hne : (e != 0) = true := by simp [hb]
  clear hb1 hr hra hs he hb hbx hlt
  go_enter Try.func32, Try.ntmps32
  go_wp2_with fail
  refine hA.out.mono ?_; rintro e' w2 ⟨rfl, hb2⟩
  go_wp2_with fail
  go_returns
  refine ⟨rfl, ?_⟩
  exact (hup.out _ hb2).alloc (hup.out _ hb2).size _
set_option maxRecDepth 100000 in
theorem trail_ok {N : NetP} {A B Ar : Option Addr} {n c m d ca : Nat} {arr : List Int} {tg : Int} {w : World} (hs : Small N) (hr : RNet w N A n B m) (hra : Rd w 1 (numE .i64) Ar n arr) (hN : OkN N) (hk : LabsOk N arr) :
    Calls Try.prog 32 #[.agg #[.int .i64 N.hz, .slice A n c, .slice B m d], .slice Ar n ca, .int .i64 tg] w (RetTrail N arr n tg w) := by
  have hn1 : n ≤ 1000 := by rw [← hr.nn]; exact hs.cn
  have hnn : Hid (N.cs.length = n) := hr.nn
  have hb1 : Below w.heap.size w ((w.alloc (.cells #[.int .i64 N.hz, .slice A n c, .slice B m d] 25)).alloc (.cells #[.int .i64 tg] 3)) := ((Below.refl _ w).alloc (Nat.le_refl _) _).alloc (by simp) _
  have hbx : Below (w.alloc (.cells #[.int .i64 N.hz, .slice A n c, .slice B m d] 25)).heap.size (w.alloc (.cells #[.int .i64 N.hz, .slice A n c, .slice B m d] 25)) ((w.alloc (.cells #[.int .i64 N.hz, .slice A n c, .slice B m d] 25)).alloc (.cells #[.int .i64 tg] 3)) := (Below.refl _ _).alloc (Nat.le_refl _) _
  obtain ⟨x0, x1, x2⟩ := rowBx3 w 25 (.int .i64 N.hz) (.slice A n c) (.slice B m d)
  have hlt : w.heap.size < (w.alloc (.cells #[.int .i64 N.hz, .slice A n c, .slice B m d] 25)).heap.size := by simp
  have x0 := (hbx.cell (p := ⟨w.heap.size, 0, none⟩) hlt).trans x0
  have x1 := (hbx.cell (p := ⟨w.heap.size, 1, none⟩) hlt).trans x1
  have x2 := (hbx.cell (p := ⟨w.heap.size, 2, none⟩) hlt).trans x2
  have ht := alloc_one (w.alloc (.cells #[.int .i64 N.hz, .slice A n c, .slice B m d] 25)) (.int .i64 tg) 3
  have hsz : ((w.alloc (.cells #[.int .i64 N.hz, .slice A n c, .slice B m d] 25)).alloc (.cells #[.int .i64 tg] 3)).heap.size = w.heap.size + 2 := by simp
  obtain ⟨w1, hw1⟩ : ∃ q, (w.alloc (.cells #[.int .i64 N.hz, .slice A n c, .slice B m d] 25)).alloc (.cells #[.int .i64 tg] 3) = q := ⟨_, rfl⟩
  rw [hw1] at hb1 x0 x1 x2 ht hsz
  have htbE : (w.alloc (.cells #[.int .i64 N.hz, .slice A n c, .slice B m d] 25)).heap.size = w.heap.size + 1 := by simp
  rw [htbE] at ht
  have hup : Hid (∀ w2, Below w1.heap.size w1 w2 → Below w.heap.size w w2) := fun w2 h => hb1.trans (h.mono hb1.size)
  obtain ⟨bn, hbn⟩ : ∃ q, w.heap.size = q := ⟨_, rfl⟩
  have hbnH := Lib.hid hbn
  rw [hbn] at x0 x1 x2 ht
  obtain ⟨tb, htb0⟩ : ∃ q, bn + 1 = q := ⟨_, rfl⟩
  rw [htb0] at ht
  have htb1 : tb < w1.heap.size := by omega
  have hbn1 : bn < w1.heap.size := by omega
  have hbt : bn ≠ tb := by omega
  have htbw : w.heap.size ≤ tb := by omega
  have htbH := Lib.hid htb0
  have hA := Lib.hid (all_ok (c := c) (d := d) (ca := ca) hs (hr.below hb1) (hra.below hb1) hN hk)
  have hR := Lib.hid hr
  have hNH := Lib.hid hN
  have hKH := Lib.hid hk
  have hX : Hid (∀ U, Below w1.heap.size w1 U → U.cell? ⟨bn, 2, none⟩ = some (.slice B m d) ∧ U.heap[tb]? = some (.cells #[.int .i64 tg] 3 (0, 0))) := fun U hU =>
    ⟨(hU.cell (p := ⟨bn, 2, none⟩) hbn1).trans x2, (hU.block tb htb1).trans ht⟩
  clear hb1 hr hra hs hbx hlt hN hk hsz htbE
  go_enter Try.func32, Try.ntmps32
  go_wp2_with fail
  refine hA.out.mono ?_; rintro e w2 ⟨A2, c2, D, Av, cv, rfl, hS, hI, _, _, hrv, hv1, hv2, hb2⟩
  have hl2 : w2.heap.size < (w2.alloc (.cells #[.slice Av n cv] 46)).heap.size := by simp
  have hb3 : Below w2.heap.size w2 (w2.alloc (.cells #[.slice Av n cv] 46)) := (Below.refl _ w2).alloc (Nat.le_refl _) _
  have hrow9 := alloc_one w2 (.slice Av n cv) 46
  obtain ⟨w3, hw3⟩ : ∃ q, w2.alloc (.cells #[.slice Av n cv] 46) = q := ⟨_, rfl⟩
  rw [hw3] at hl2 hb3 hrow9
  have hb13 := hb2.trans (hb3.mono hb2.size)
  obtain ⟨y2, hrt⟩ := hX.out _ hb13
  have hct := cell_of_one hrt
  have ht91 := hb2.size
  obtain ⟨t9, ht9e⟩ : ∃ q, w2.heap.size = q := ⟨_, rfl⟩
  rw [ht9e] at hrow9 hl2
  have hv9 := cell_of_one hrow9
  have ht9t : t9 ≠ tb := by omega
  have hS := Lib.hid hS
  have hI3 := Lib.hid (hI.rd.below hb3)
  have hrv3 := Lib.hid (hrv.below hb3)
  have hb13h := Lib.hid hb13
  have hlD : Hid (D.length = n) := hI.len
  rename_i hS0; clear hS0
  clear hI hrv hb13 hb2 hb3 hA
  by_cases h1 : tg < 0
  · have d1 : decide (tg < 0) = true := decide_eq_true h1
    have hk2 : Hid (tckN N arr D tg = 2) := by show _ = _; unfold tckN; rw [if_pos (.inl h1)]
    clear h1
    go_wp2_with fail
    go_returns
    exact ⟨D, hS.out, hup.out _ hb13h.out, .inl ⟨by rw [hk2.out]; decide, by rw [hk2.out]; rfl⟩⟩
  obtain ⟨s0, rfl⟩ : ∃ s0 : Nat, tg = s0 := ⟨tg.toNat, by omega⟩
  have d1 : decide ((s0 : Int) < 0) = false := decide_eq_false h1
  by_cases h2 : n ≤ s0
  · have d2 : decide ((n : Int) ≤ (s0 : Int)) = true := decide_eq_true (by omega)
    have d2' : decide (n ≤ s0) = true := decide_eq_true h2
    have hk2 : Hid (tckN N arr D s0 = 2) := by show _ = _; unfold tckN; rw [if_pos (.inr (by have := hnn.out; omega))]
    clear h2
    go_wp2_with fail
    go_returns
    exact ⟨D, hS.out, hup.out _ hb13h.out, .inl ⟨by rw [hk2.out]; decide, by rw [hk2.out]; rfl⟩⟩
  have d2 : decide ((n : Int) ≤ (s0 : Int)) = false := decide_eq_false (by omega)
  have d2' : decide (n ≤ s0) = false := decide_eq_false h2
  have hs0 : s0 < n := by omega
  have hs0I : (s0 : Int) < (n : Int) := by omega
  obtain ⟨bd, od, xd, rfl, hbd, hDx, hcd⟩ := hI3.out.num hs0
  have hDs : Hid (lab D s0 = xd) := lab_at hDx
  clear hDx
  by_cases h3 : xd = 4611686018427387904
  · have d3 : (xd == 4611686018427387904) = true := by simp [h3]
    have hk2 : Hid (tckN N arr D s0 = 5) := by show _ = _; unfold tckN; rw [if_neg (by have := hnn.out; omega), Int.toNat_natCast, if_pos (by rw [hDs.out]; exact h3)]
    clear h3
    go_wp2_with fail
    go_returns
    exact ⟨D, hS.out, hup.out _ hb13h.out, .inl ⟨by rw [hk2.out]; decide, by rw [hk2.out]; rfl⟩⟩
  have d3 : (xd == 4611686018427387904) = false := by simp [h3]
  have hk2 : Hid (tckN N arr D s0 = 0) := by show _ = _; unfold tckN; rw [if_neg (by have := hnn.out; omega), Int.toNat_natCast, if_neg (by rw [hDs.out]; exact h3)]
  have hlab0 : Hid (lab D s0 ≤ 1099511627776) := by
    have := hS.out.ok.fin (s := s0) (by rw [hDs.out]; exact h3)
    have := hNH.out.hz
    show _ ≤ _; omega
  clear h3 h1 h2
  have htb3 : tb < w3.heap.size := Nat.lt_of_lt_of_le htb1 hb13h.out.size
  have hbn3 : bn < w3.heap.size := Nat.lt_of_lt_of_le hbn1 hb13h.out.size
  have hbw3 := Lib.hid (hup.out _ hb13h.out)
  have hrtH := Lib.hid hrt
  have hF3 : Hid (w3.cell? ⟨bn, 2, none⟩ = some (.slice B m d) ∧ w3.cell? ⟨t9, 0, none⟩ = some (.slice Av n cv)) := ⟨y2, hv9⟩
  clear hX hup x0 x1 x2 ht
  go_wp2_with fail
  clear y2 hrt hct hv9 hcd hrow9 hw3 ht9e hw1
  go_loopg [11] ((lab D s0).toNat) (fun gk v wr => ∃ (s : Nat) (acc : List (Int × Int)), s < n ∧ Hid (wr.heap[tb]? = some (.cells #[.int .i64 s] 3 (0, 0))) ∧ Hid (wr.ownsRow w3.heap.size 59 2 v acc.length (acc.flatMap pairE)) ∧ Hid (But w3 wr [tb]) ∧ Hid ((∀ r, Tr N (viasL N arr D) s r → Tr N (viasL N arr D) s0 (acc ++ r)) ∧ (acc.length : Int) + lab D s ≤ lab D s0) ∧ Hid ((lab D s).toNat ≤ gk))
  case atStart => exact ⟨s0, [], hs0, hrtH, World.ownsRow_nil _ _ _ _, But.refl _ _, ⟨fun r h => h, by simp⟩, Nat.le_refl _⟩
  case round =>
    obtain ⟨s, acc, hsn, hrow, own, hbut, hTr, hg⟩ := hrel
    have hrtr := hrow.out
    have hct := cell_of_one hrtr
    have y2 := (hbut.out.cell (p := ⟨bn, 2, none⟩) hbn3 (by simpa using hbt)).trans hF3.out.1
    have hv9 := (hbut.out.cell (p := ⟨t9, 0, none⟩) hl2 (by simpa using ht9t)).trans hF3.out.2
    obtain ⟨bv, ov, z1, z2, rfl, hbv, hVs, hc0', hc1'⟩ := hrv3.out.pair hsn
    have hbvt : bv ≠ tb := fun e => by
      subst e
      rw [cell_of_row _ _ _ _ _ _ hrtH.out] at hc1'
      simp at hc1'
    have hc0 := (hbut.out.cell (p := ⟨bv, ov + s * 2, none⟩) hbv (by simpa using hbvt)).trans hc0'
    have hc1 := (hbut.out.cell (p := ⟨bv, ov + s * 2 + 1, none⟩) hbv (by simpa using hbvt)).trans hc1'
    have hcl := Lib.hid (strail1_any (cv := cv) wr hv9 hct hsn hc0)
    have hVsH := Lib.hid hVs
    have hsI : (s : Int) < (n : Int) := by omega
    clear hc0' hc1' hVs
    by_cases hx : 0 ≤ z1
    · have hvia : viaF N arr D s = (z1, z2) := by
        have h1 := viasL_at N arr D (s := s) (by have := hlD.out; omega)
        rw [hVsH.out] at h1
        exact (Option.some.inj h1).symm
      obtain ⟨i, l, rfl, hl, hlb, hla, hto, hx2, hlt2, hge⟩ := via_step hNH.out hS.out.ok hvia hx
      have him : i < m := by rw [← hR.out.mm]; exact (List.getElem?_eq_some_iff.1 hl).1
      obtain ⟨l2, hl2', b, o, pA, pn, pc, kA, kn, kc, rfl, hblw, _, _, c0', _⟩ := hR.out.lnk him
      have hll : l2 = l := by rw [hl] at hl2'; exact (Option.some.inj hl2').symm
      subst hll
      obtain ⟨⟨la0, la1⟩, _⟩ := okL_iff.1 (hNH.out.lk l2 (List.mem_of_getElem? hl))
      obtain ⟨a', ha'⟩ : ∃ a' : Nat, l2.a = a' := ⟨l2.a.toNat, by omega⟩
      rw [ha'] at c0' la1
      have han : a' < n := by have := hnn.out; omega
      have hbw : Below w.heap.size w wr := hbw3.out.trans (hbut.out.below hbw3.out.size (by simpa using htbw))
      have c0 := (hbw.cell (p := ⟨b, o + i * 7, none⟩) hblw).trans c0'
      have hbl3 : b < w3.heap.size := Nat.lt_of_lt_of_le hblw hbw3.out.size
      rw [ha', Int.toNat_natCast] at hlt2 hge
      have hTr2 : Hid ((∀ r, Tr N (viasL N arr D) a' r → Tr N (viasL N arr D) s0 ((acc ++ [((i : Int), z2)]) ++ r)) ∧ ((acc ++ [((i : Int), z2)]).length : Int) + lab D a' ≤ lab D s0) := by
        obtain ⟨h1, h2⟩ := hTr.out
        refine ⟨fun r hr => ?_, by simp; omega⟩
        have h3 := h1 (((i : Int), z2) :: r) (Tr.step hVsH.out hl (by rw [ha', Int.toNat_natCast]; exact hr))
        simpa using h3
      have hmea : Hid ((lab D a').toNat < gk) := by have := hg.out; show _ < _; omega
      obtain ⟨La, hLa⟩ : ∃ q, acc = q := ⟨_, rfl⟩
      have hlen : Hid (La.length + 1 ≤ 1099511627776) := by
        have h1 := hTr.out.2
        have h2 := hlab0.out
        have h3 := hS.out.ok.at s
        rw [hLa] at h1
        show _ ≤ _
        have h4 : 0 ≤ lab D s := by have := inf_big; omega
        omega
      rw [hLa] at own hTr2
      have ownh := own
      have hbase : w3.heap.size ≤ wr.heap.size := hbut.out.size
      have hdx : decide ((0 : Int) ≤ (i : Int)) = true := decide_eq_true hx
      have hmI : (i : Int) < (m : Int) := by omega
      clear hx hvia hl hlb hla hto hx2 hlt2 hge hl2' la0 la1 ha' hbw c0' own hTr hg hLa
      go_wp2_with fail
      refine hcl.out.mono ?_; rintro e w' ⟨rfl, rfl⟩
      go_upto_region 11 with fail
      have ht9 := hl2
      have htb := htb3
      have hbnl := hbn3
      have hbl := hbl3
      refine wp_region_ghost2 (fun fl x w => Then1 (fun w => GB1 (pairE) 59 2 wr w3.heap.size u11 La ((i : Int), z2) (fl 0) (fl 5) (fl 6) (fl 17) (x 5) (x 6) (x 17) w) fl 18 (⟨tb, 0, none⟩) (.int .i64 (a' : Int)) w) (by kernel_rfl) (by kernel_rfl) (by kernel_rfl) (by kernel_rfl) (by kernel_rfl) ?_ ?_
      · intro x0 hx0
        exact Then1.mk0 rfl (GB1.start rfl rfl rfl (hx0 17 11 rfl) ownh.out)
      intro base O hbase hO
      have kx3 : Hid (∀ xs, evX base O xs (.tmp 3) = .pointer (some ⟨bn, 0, none⟩)) := fun xs => by rw [hbase, hO]; rfl
      have kx5 : Hid (∀ xs, evX base O xs (.tmp 5) = .pointer (some ⟨tb, 0, none⟩)) := fun xs => by rw [hbase, hO]; rfl
      have kx9 : Hid (∀ xs, evX base O xs (.tmp 9) = .pointer (some ⟨t9, 0, none⟩)) := fun xs => by rw [hbase, hO]; rfl
      have kx11 : Hid (∀ xs, evX base O xs (.tmp 11) = xs 17) := fun xs => by rw [hO]; rfl
      have kx42 : Hid (∀ xs, evX base O xs (.tmp 42) = xs 0) := fun xs => by rw [hO]; rfl
      have kx43 : Hid (∀ xs, evX base O xs (.tmp 43) = xs 1) := fun xs => by rw [hO]; rfl
      have kx44 : Hid (∀ xs, evX base O xs (.tmp 44) = xs 2) := fun xs => by rw [hO]; rfl
      have kx45 : Hid (∀ xs, evX base O xs (.tmp 45) = xs 3) := fun xs => by rw [hO]; rfl
      have kx46 : Hid (∀ xs, evX base O xs (.tmp 46) = xs 4) := fun xs => by rw [hO]; rfl
      have kx47 : Hid (∀ xs, evX base O xs (.tmp 47) = xs 5) := fun xs => by rw [hO]; rfl
      have kx48 : Hid (∀ xs, evX base O xs (.tmp 48) = xs 6) := fun xs => by rw [hO]; rfl
      have kx49 : Hid (∀ xs, evX base O xs (.tmp 49) = xs 7) := fun xs => by rw [hO]; rfl
      have kx50 : Hid (∀ xs, evX base O xs (.tmp 50) = xs 8) := fun xs => by rw [hO]; rfl
      have kx51 : Hid (∀ xs, evX base O xs (.tmp 51) = xs 9) := fun xs => by rw [hO]; rfl
      have kx52 : Hid (∀ xs, evX base O xs (.tmp 52) = xs 10) := fun xs => by rw [hO]; rfl
      have kx53 : Hid (∀ xs, evX base O xs (.tmp 53) = xs 11) := fun xs => by rw [hO]; rfl
      have kx54 : Hid (∀ xs, evX base O xs (.tmp 54) = xs 12) := fun xs => by rw [hO]; rfl
      have kx55 : Hid (∀ xs, evX base O xs (.tmp 55) = xs 13) := fun xs => by rw [hO]; rfl
      have kx56 : Hid (∀ xs, evX base O xs (.tmp 56) = xs 14) := fun xs => by rw [hO]; rfl
      have kx57 : Hid (∀ xs, evX base O xs (.tmp 57) = xs 15) := fun xs => by rw [hO]; rfl
      have kx58 : Hid (∀ xs, evX base O xs (.tmp 58) = xs 16) := fun xs => by rw [hO]; rfl
      clear hbase hO
      apply gh_det (n := 0)
      · intro fl xs w ev hG hD hl hdone hev K hK
        have e11 := (hev (.tmp 11)).trans (kx11.out xs)
        rw [if_pos (wantedX_none rfl)]
        have ef : ∀ f, ev (.func f) = .func (.func f) #[] #[] := fun f => (hev _).trans rfl
        clear hev hD
        have hs := hG.stf (show 0 < 18 by decide) hl
        replace hG := hG.ahead hs
        replace hK := fun v w' hJ h => hK v w' hJ (Then1.mk0 hs h)
        obtain ⟨ev0, hG0⟩ := hG.rdS hl
        rw [ev0] at e11
        go_simp
        exact hK _ _ rfl hG0
      apply gh_det (n := 1)
      · intro fl xs w ev hG hD hl hdone hev K hK
        have e9 := (hev (.tmp 9)).trans (kx9.out xs)
        rw [if_pos (wantedX_none rfl)]
        have ef : ∀ f, ev (.func f) = .func (.func f) #[] #[] := fun f => (hev _).trans rfl
        clear hev hD
        have hs := hG.stf (show 1 < 18 by decide) hl
        replace hG := hG.ahead hs
        replace hK := fun v w' hJ h => hK v w' hJ (Then1.mk0 hs h)
        have hbw := hG.bel
        have mm0 := (hbw.cell (p := ⟨t9, 0, none⟩) ht9).trans hv9
        go_simp
        exact hK _ _ rfl hG
      apply gh_det (n := 2)
      · intro fl xs w ev hG hD hl hdone hev K hK
        have e5 := (hev (.tmp 5)).trans (kx5.out xs)
        rw [if_pos (wantedX_none rfl)]
        have ef : ∀ f, ev (.func f) = .func (.func f) #[] #[] := fun f => (hev _).trans rfl
        clear hev hD
        have hs := hG.stf (show 2 < 18 by decide) hl
        replace hG := hG.ahead hs
        replace hK := fun v w' hJ h => hK v w' hJ (Then1.mk0 hs h)
        have hbw := hG.bel
        have mm0 := (hbw.cell (p := ⟨tb, 0, none⟩) htb).trans hct
        go_simp
        exact hK _ _ rfl hG
      apply gh_det (n := 3)
      · intro fl xs w ev hG hD hl hdone hev K hK
        have e43 := (hev (.tmp 43)).trans (kx43.out xs)
        have d1 := hD.at_ 1 rfl rfl
        replace e43 := e43.trans d1
        have e44 := (hev (.tmp 44)).trans (kx44.out xs)
        have d2 := hD.at_ 2 rfl rfl
        replace e44 := e44.trans d2
        rw [if_pos (wantedX_none rfl)]
        have ef : ∀ f, ev (.func f) = .func (.func f) #[] #[] := fun f => (hev _).trans rfl
        clear hev hD
        have hs := hG.stf (show 3 < 18 by decide) hl
        replace hG := hG.ahead hs
        replace hK := fun v w' hJ h => hK v w' hJ (Then1.mk0 hs h)
        go_simp
        exact hK _ _ rfl hG
      apply gh_det (n := 4)
      · intro fl xs w ev hG hD hl hdone hev K hK
        have e45 := (hev (.tmp 45)).trans (kx45.out xs)
        have d3 := hD.at_ 3 rfl rfl
        replace e45 := e45.trans d3
        rw [if_pos (wantedX_none rfl)]
        have ef : ∀ f, ev (.func f) = .func (.func f) #[] #[] := fun f => (hev _).trans rfl
        clear hev hD
        have hs := hG.stf (show 4 < 18 by decide) hl
        replace hG := hG.ahead hs
        replace hK := fun v w' hJ h => hK v w' hJ (Then1.mk0 hs h)
        have hbw := hG.bel
        have mm0 := (hbw.cell (p := ⟨bv, ov + s * 2, none⟩) hbv).trans hc0
        have mm1 := (hbw.cell (p := ⟨bv, ov + s * 2 + 1, none⟩) hbv).trans hc1
        go_simp
        exact hK _ _ rfl hG
      refine gh_any (n := 5) (fun _ => True) ?_ ?_
      · intro fl xs w ev hG hD hl hdone hev K hK
        have e46 := (hev (.tmp 46)).trans (kx46.out xs)
        have d4 := hD.at_ 4 rfl rfl
        replace e46 := e46.trans d4
        rw [if_pos (wantedX_none rfl)]
        have ef : ∀ f, ev (.func f) = .func (.func f) #[] #[] := fun f => (hev _).trans rfl
        clear hev hD
        have hs := hG.stf (show 5 < 18 by decide) hl
        replace hG := hG.ahead hs
        replace hK := fun v w' hJ h => hK v w' hJ (Then1.mk0 hs h)
        go_simp
        exact hK _ _ trivial (hG.litS hl hbase pairE_len2)
      refine gh_any (n := 6) (fun _ => True) ?_ ?_
      · intro fl xs w ev hG hD hl hdone hev K hK
        have e42 := (hev (.tmp 42)).trans (kx42.out xs)
        have d0 := hD.at_ 0 rfl rfl
        replace e42 := e42.trans d0
        have e47 := (hev (.tmp 47)).trans (kx47.out xs)
        rw [if_pos (wantedX_none rfl)]
        have ef : ∀ f, ev (.func f) = .func (.func f) #[] #[] := fun f => (hev _).trans rfl
        clear hev hD
        have hs := hG.stf (show 6 < 18 by decide) hl
        replace hG := hG.ahead hs
        replace hK := fun v w' hJ h => hK v w' hJ (Then1.mk0 hs h)
        obtain ⟨k5, c5, e5, r5⟩ := hG.lit (done_of hdone 5 rfl) hl
        have own := hG.own hl
        rw [e5] at e47
        obtain ⟨v', w1', hrun, own1, hgr, hnew⟩ := own_append (enc := pairE) Try.underlying46 infoVia rfl (by decide) pairE_len2 pairE_one c5 own r5 hlen.out (by decide) (Nat.le_trans hbase hG.bel.size)
        rw [show La.length + 1 = (La ++ [((i : Int), z2)]).length from by simp] at own1
        exact outcome_append (.tmp 42) (.tmp 47) 46 rfl e42 e47 hrun (hK _ _ trivial (hG.appS hl (done_of hdone 0 rfl) (done_of hdone 5 rfl) own1 ((Below.refl _ w).grown hgr (Nat.le_trans hbase hG.bel.size) fun g hg => (own.lt g hg).1)))
      apply gh_det (n := 7)
      · intro fl xs w ev hG hD hl hdone hev K hK
        have e3 := (hev (.tmp 3)).trans (kx3.out xs)
        rw [if_pos (wantedX_none rfl)]
        have ef : ∀ f, ev (.func f) = .func (.func f) #[] #[] := fun f => (hev _).trans rfl
        clear hev hD
        have hs := hG.stf (show 7 < 18 by decide) hl
        replace hG := hG.ahead hs
        replace hK := fun v w' hJ h => hK v w' hJ (Then1.mk0 hs h)
        go_simp
        exact hK _ _ rfl hG
      apply gh_det (n := 8)
      · intro fl xs w ev hG hD hl hdone hev K hK
        have e49 := (hev (.tmp 49)).trans (kx49.out xs)
        have d7 := hD.at_ 7 rfl rfl
        replace e49 := e49.trans d7
        rw [if_pos (wantedX_none rfl)]
        have ef : ∀ f, ev (.func f) = .func (.func f) #[] #[] := fun f => (hev _).trans rfl
        clear hev hD
        have hs := hG.stf (show 8 < 18 by decide) hl
        replace hG := hG.ahead hs
        replace hK := fun v w' hJ h => hK v w' hJ (Then1.mk0 hs h)
        have hbw := hG.bel
        have mm0 := (hbw.cell (p := ⟨bn, 2, none⟩) hbnl).trans y2
        go_simp
        exact hK _ _ rfl hG
      apply gh_det (n := 9)
      · intro fl xs w ev hG hD hl hdone hev K hK
        have e9 := (hev (.tmp 9)).trans (kx9.out xs)
        rw [if_pos (wantedX_none rfl)]
        have ef : ∀ f, ev (.func f) = .func (.func f) #[] #[] := fun f => (hev _).trans rfl
        clear hev hD
        have hs := hG.stf (show 9 < 18 by decide) hl
        replace hG := hG.ahead hs
        replace hK := fun v w' hJ h => hK v w' hJ (Then1.mk0 hs h)
        have hbw := hG.bel
        have mm0 := (hbw.cell (p := ⟨t9, 0, none⟩) ht9).trans hv9
        go_simp
        exact hK _ _ rfl hG
      apply gh_det (n := 10)
      · intro fl xs w ev hG hD hl hdone hev K hK
        have e5 := (hev (.tmp 5)).trans (kx5.out xs)
        rw [if_pos (wantedX_none rfl)]
        have ef : ∀ f, ev (.func f) = .func (.func f) #[] #[] := fun f => (hev _).trans rfl
        clear hev hD
        have hs := hG.stf (show 10 < 18 by decide) hl
        replace hG := hG.ahead hs
        replace hK := fun v w' hJ h => hK v w' hJ (Then1.mk0 hs h)
        have hbw := hG.bel
        have mm0 := (hbw.cell (p := ⟨tb, 0, none⟩) htb).trans hct
        go_simp
        exact hK _ _ rfl hG
      apply gh_det (n := 11)
      · intro fl xs w ev hG hD hl hdone hev K hK
        have e51 := (hev (.tmp 51)).trans (kx51.out xs)
        have d9 := hD.at_ 9 rfl rfl
        replace e51 := e51.trans d9
        have e52 := (hev (.tmp 52)).trans (kx52.out xs)
        have d10 := hD.at_ 10 rfl rfl
        replace e52 := e52.trans d10
        rw [if_pos (wantedX_none rfl)]
        have ef : ∀ f, ev (.func f) = .func (.func f) #[] #[] := fun f => (hev _).trans rfl
        clear hev hD
        have hs := hG.stf (show 11 < 18 by decide) hl
        replace hG := hG.ahead hs
        replace hK := fun v w' hJ h => hK v w' hJ (Then1.mk0 hs h)
        go_simp
        exact hK _ _ rfl hG
      apply gh_det (n := 12)
      · intro fl xs w ev hG hD hl hdone hev K hK
        have e53 := (hev (.tmp 53)).trans (kx53.out xs)
        have d11 := hD.at_ 11 rfl rfl
        replace e53 := e53.trans d11
        rw [if_pos (wantedX_none rfl)]
        have ef : ∀ f, ev (.func f) = .func (.func f) #[] #[] := fun f => (hev _).trans rfl
        clear hev hD
        have hs := hG.stf (show 12 < 18 by decide) hl
        replace hG := hG.ahead hs
        replace hK := fun v w' hJ h => hK v w' hJ (Then1.mk0 hs h)
        go_simp
        exact hK _ _ rfl hG
      apply gh_det (n := 13)
      · intro fl xs w ev hG hD hl hdone hev K hK
        have e54 := (hev (.tmp 54)).trans (kx54.out xs)
        have d12 := hD.at_ 12 rfl rfl
        replace e54 := e54.trans d12
        rw [if_pos (wantedX_none rfl)]
        have ef : ∀ f, ev (.func f) = .func (.func f) #[] #[] := fun f => (hev _).trans rfl
        clear hev hD
        have hs := hG.stf (show 13 < 18 by decide) hl
        replace hG := hG.ahead hs
        replace hK := fun v w' hJ h => hK v w' hJ (Then1.mk0 hs h)
        have hbw := hG.bel
        have mm0 := (hbw.cell (p := ⟨bv, ov + s * 2, none⟩) hbv).trans hc0
        go_simp
        exact hK _ _ rfl hG
      apply gh_det (n := 14)
      · intro fl xs w ev hG hD hl hdone hev K hK
        have e50 := (hev (.tmp 50)).trans (kx50.out xs)
        have d8 := hD.at_ 8 rfl rfl
        replace e50 := e50.trans d8
        have e55 := (hev (.tmp 55)).trans (kx55.out xs)
        have d13 := hD.at_ 13 rfl rfl
        replace e55 := e55.trans d13
        rw [if_pos (wantedX_none rfl)]
        have ef : ∀ f, ev (.func f) = .func (.func f) #[] #[] := fun f => (hev _).trans rfl
        clear hev hD
        have hs := hG.stf (show 14 < 18 by decide) hl
        replace hG := hG.ahead hs
        replace hK := fun v w' hJ h => hK v w' hJ (Then1.mk0 hs h)
        go_simp
        exact hK _ _ rfl hG
      apply gh_det (n := 15)
      · intro fl xs w ev hG hD hl hdone hev K hK
        have e56 := (hev (.tmp 56)).trans (kx56.out xs)
        have d14 := hD.at_ 14 rfl rfl
        replace e56 := e56.trans d14
        rw [if_pos (wantedX_none rfl)]
        have ef : ∀ f, ev (.func f) = .func (.func f) #[] #[] := fun f => (hev _).trans rfl
        clear hev hD
        have hs := hG.stf (show 15 < 18 by decide) hl
        replace hG := hG.ahead hs
        replace hK := fun v w' hJ h => hK v w' hJ (Then1.mk0 hs h)
        go_simp
        exact hK _ _ rfl hG
      apply gh_det (n := 16)
      · intro fl xs w ev hG hD hl hdone hev K hK
        have e57 := (hev (.tmp 57)).trans (kx57.out xs)
        have d15 := hD.at_ 15 rfl rfl
        replace e57 := e57.trans d15
        rw [if_pos (wantedX_none rfl)]
        have ef : ∀ f, ev (.func f) = .func (.func f) #[] #[] := fun f => (hev _).trans rfl
        clear hev hD
        have hs := hG.stf (show 16 < 18 by decide) hl
        replace hG := hG.ahead hs
        replace hK := fun v w' hJ h => hK v w' hJ (Then1.mk0 hs h)
        have hbw := hG.bel
        have mm0 := (hbw.cell (p := ⟨b, o + i * 7, none⟩) hbl).trans c0
        go_simp
        exact hK _ _ rfl hG
      refine gh_any (n := 17) (fun _ => True) ?_ ?_
      · intro fl xs w ev hG hD hl hdone hev K hK
        have e48 := (hev (.tmp 48)).trans (kx48.out xs)
        rw [if_pos (wantedX_none rfl)]
        have ef : ∀ f, ev (.func f) = .func (.func f) #[] #[] := fun f => (hev _).trans rfl
        clear hev hD
        have hs := hG.stf (show 17 < 18 by decide) hl
        replace hG := hG.ahead hs
        replace hK := fun v w' hJ h => hK v w' hJ (Then1.mk0 hs h)
        have own := hG.app (done_of hdone 6 rfl)
        obtain ⟨A7, c7, e7, _⟩ := Rd.of_own pairE_len2 rfl own
        have hG0 := hG.asS (done_of hdone 6 rfl)
        generalize (La ++ [((i : Int), z2)]).length = n7 at e7
        rw [e7] at e48
        go_simp
        refine hK _ _ trivial ?_
        rw [← e7]
        exact hG0
      refine gh_any (n := 18) (fun _ => True) ?_ ?_
      · intro fl xs w ev hG hD hl hdone hev K hK
        have e5 := (hev (.tmp 5)).trans (kx5.out xs)
        have e58 := (hev (.tmp 58)).trans (kx58.out xs)
        have d16 := hD.at_ 16 rfl rfl
        replace e58 := e58.trans d16
        rw [if_pos (wantedX_none rfl)]
        have ef : ∀ f, ev (.func f) = .func (.func f) #[] #[] := fun f => (hev _).trans rfl
        clear hev hD
        have hG1 := hG.ahead hl
        have hall : ∀ k, k < 18 → fl k = true := fun k hk => by
          match k, hk with
          | 0, _ => exact done_of hdone 0 rfl
          | 1, _ => exact done_of hdone 1 rfl
          | 2, _ => exact done_of hdone 2 rfl
          | 3, _ => exact done_of hdone 3 rfl
          | 4, _ => exact done_of hdone 4 rfl
          | 5, _ => exact done_of hdone 5 rfl
          | 6, _ => exact done_of hdone 6 rfl
          | 7, _ => exact done_of hdone 7 rfl
          | 8, _ => exact done_of hdone 8 rfl
          | 9, _ => exact done_of hdone 9 rfl
          | 10, _ => exact done_of hdone 10 rfl
          | 11, _ => exact done_of hdone 11 rfl
          | 12, _ => exact done_of hdone 12 rfl
          | 13, _ => exact done_of hdone 13 rfl
          | 14, _ => exact done_of hdone 14 rfl
          | 15, _ => exact done_of hdone 15 rfl
          | 16, _ => exact done_of hdone 16 rfl
          | 17, _ => exact done_of hdone 17 rfl
          | k + 18, h => omega
        have hrow := (hG1.bel.block tb htb).trans hrtr
        have mc := cell_of_one hrow
        have mf := free_of_one hrow
        go_simp
        exact hK _ _ trivial (Then1.put hall hG1)
      clear kx3 kx5 kx9 kx11 kx42 kx43 kx44 kx45 kx46 kx47 kx48 kx49 kx50 kx51 kx52 kx53 kx54 kx55 kx56 kx57 kx58
      intro xs w9 hG hI
      obtain ⟨w8, hG, hw98⟩ := hG.behind rfl
      have own9 := hG.app rfl
      have e9 := hG.asg rfl
      have hb9 := hG.bel
      clear hG hI
      rw [← e9] at own9
      clear e9
      simp only [List.append_eq, List.cons_append, List.nil_append, setAll, List.setIfInBounds_toArray, List.set_cons_zero, List.set_cons_succ]
      have q1 : Hid (w9.heap[tb]? = some (.cells #[.int .i64 (a' : Int)] 3 (0, 0))) := by
        rw [hw98]; exact heap_set_one ((hb9.block tb htb).trans hrtr)
      have q2 : Hid (w9.ownsRow w3.heap.size 59 2 (xs 17) (La ++ [((i : Int), z2)]).length ((La ++ [((i : Int), z2)]).flatMap pairE)) := by
        rw [hw98]; exact own_set_other own9 htb _
      have q3 : Hid (But w3 w9 [tb]) := by
        rw [hw98]; exact (but_below hbut.out hb9 (Nat.le_refl _)).trans (But.of_set _ _ _ (by simp))
      clear own9 hb9 hw98 hrtr hct y2 hv9 hc0 hc1 c0
      go_wp2_with fail
      go_roundg ((lab D a').toNat)
      case measure => exact hmea.out
      case rel => exact ⟨a', La ++ [((i : Int), z2)], han, q1, q2, q3, hTr2, Nat.le_refl _⟩
    · have hdx : decide ((0 : Int) ≤ z1) = false := decide_eq_false hx
      have hT : Hid (Tr N (viasL N arr D) s0 acc) := by
        have h1 := hTr.out.1 [] (Tr.stop hVsH.out (by omega))
        rwa [List.append_nil] at h1
      obtain ⟨A', c', rfl, _, hc1a, hc2a⟩ := Rd.of_own pairE_len2 rfl own.out
      have hal : acc.length ≤ 1099511627776 := by
        have h1 := hTr.out.2
        have h2 := hlab0.out
        have h3 := hS.out.ok.at s
        have h4 : 0 ≤ lab D s := by have := inf_big; omega
        omega
      have hRv := Lib.hid (revV_own own.out hal)
      have hbw := Lib.hid (hbw3.out.trans (hbut.out.below hbw3.out.size (by simpa using htbw)))
      have hbs : w.heap.size ≤ w3.heap.size := hbw3.out.size
      clear hx hTr hc0 hc1 hg own hrow
      go_wp2_with fail
      refine hcl.out.mono ?_; rintro e w' ⟨rfl, rfl⟩
      go_wp2_with fail
      refine hRv.out.mono ?_; rintro e w5 ⟨rfl, own5, hb5⟩
      obtain ⟨A5, c5, e5, r5, _, _⟩ := Rd.of_own pairE_len2 (by simp) own5
      cases e5
      have r5h := Lib.hid r5
      clear own5 r5 y2 hv9 hct hrtr
      go_wp2_with fail
      go_returns
      refine ⟨D, hS.out, hbw.out.trans (hb5.mono hbs), .inr ⟨hk2.out, A', c', acc.reverse, by rw [List.length_reverse]; rfl, by rw [List.reverse_reverse, Int.toNat_natCast]; exact hT.out, by rw [List.length_reverse]; exact r5h.out, by rw [List.length_reverse]; exact hc1a, hc2a⟩⟩
end Go.Proofs.Ytonkkibnigdfbaa
