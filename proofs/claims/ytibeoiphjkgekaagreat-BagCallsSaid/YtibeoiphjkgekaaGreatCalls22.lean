/-
  Walk: timetablelaw22.BagCalls (gen19.py).
-/
import Derived.Test.YtibeoiphjkgekaaGreatRef22E
import Derived.Deep.DeepCutAuto
namespace Go.Proofs.YtibeoiphjkgekaaGreat
open Go.RowKit B K Go.Shelf
set_option linter.unusedVariables false
set_option linter.unusedSimpArgs false
set_option maxHeartbeats 8000000
def RS {α : Type} (size : Nat) (enc : α → List Value) (K : List α) (v : Value) (w : World) : Prop := ∃ A c, v = .slice A K.length c ∧ Rd w size enc A K.length K
structure G4 (W : World) (KO : List P3) (KB : List P2) (f1 f2 f3 f4 : Bool) (x1 x2 x3 x4 : Value) (w : World) : Prop where
  bel : Below W.heap.size W w
  a1 : f1 = true → RS 3 tripE KO x1 w
  a2 : f2 = true → RS 3 tripE KO x2 w
  a3 : f3 = true → RS 2 pairE KB x3 w
  a4 : f4 = true → RS 2 pairE KB x4 w
section
variable {W w w' : World} {KO : List P3} {KB : List P2} {f1 f2 f3 f4 : Bool} {x1 x2 x3 x4 v : Value}
theorem RS.below {α : Type} {size : Nat} {enc : α → List Value} {K : List α} (h : RS size enc K v w) (hb : Below w.heap.size w w') : RS size enc K v w' := by
  obtain ⟨A, c, e, r⟩ := h
  exact ⟨A, c, e, r.below hb⟩
theorem G4.start (e1 : f1 = false) (e2 : f2 = false) (e3 : f3 = false) (e4 : f4 = false) : G4 W KO KB f1 f2 f3 f4 x1 x2 x3 x4 { W with drawn := W.drawn + 1 } := by
  subst e1 e2 e3 e4
  exact ⟨⟨rfl, rfl, rfl, Nat.le_refl _, fun _ _ => rfl⟩, fun h => (by cases h), fun h => (by cases h), fun h => (by cases h), fun h => (by cases h)⟩
theorem G4.below (h : G4 W KO KB f1 f2 f3 f4 x1 x2 x3 x4 w) (hb : Below w.heap.size w w') : G4 W KO KB f1 f2 f3 f4 x1 x2 x3 x4 w' :=
  ⟨h.bel.trans (hb.mono h.bel.size), fun e => (h.a1 e).below hb, fun e => (h.a2 e).below hb, fun e => (h.a3 e).below hb, fun e => (h.a4 e).below hb⟩
theorem G4.s1 (h : G4 W KO KB f1 f2 f3 f4 x1 x2 x3 x4 w) (r : RS 3 tripE KO v w) : G4 W KO KB true f2 f3 f4 v x2 x3 x4 w := ⟨h.bel, fun _ => r, h.a2, h.a3, h.a4⟩
theorem G4.s2 (h : G4 W KO KB f1 f2 f3 f4 x1 x2 x3 x4 w) (r : RS 3 tripE KO v w) : G4 W KO KB f1 true f3 f4 x1 v x3 x4 w := ⟨h.bel, h.a1, fun _ => r, h.a3, h.a4⟩
theorem G4.s3 (h : G4 W KO KB f1 f2 f3 f4 x1 x2 x3 x4 w) (r : RS 2 pairE KB v w) : G4 W KO KB f1 f2 true f4 x1 x2 v x4 w := ⟨h.bel, h.a1, h.a2, fun _ => r, h.a4⟩
theorem G4.s4 (h : G4 W KO KB f1 f2 f3 f4 x1 x2 x3 x4 w) (r : RS 2 pairE KB v w) : G4 W KO KB f1 f2 f3 true x1 x2 x3 v w := ⟨h.bel, h.a1, h.a2, h.a3, fun _ => r⟩
end
theorem sameP_self (A : Option Addr) (c : Nat) (A' : Option Addr) (c' : Nat) (l : List P2) (w : World) (hr : Rd w 2 pairE A l.length l) (hr' : Rd w 2 pairE A' l.length l) (hn : l.length ≤ 1099511627776) :
    Calls Tryz.prog 11 #[.slice A l.length c, .slice A' l.length c'] w fun e w' => e = .returned (.bool true) ∧ Below w.heap.size w w' := by
  have h := sameP_any A l.length c l A' l.length c' l w hr hr' hn hn
  rw [decide_eq_true rfl] at h
  exact h
theorem sameT_self (A : Option Addr) (c : Nat) (A' : Option Addr) (c' : Nat) (l : List P3) (w : World) (hr : Rd w 3 tripE A l.length l) (hr' : Rd w 3 tripE A' l.length l) (hn : l.length ≤ 1099511627776) :
    Calls Tryz.prog 12 #[.slice A l.length c, .slice A' l.length c'] w fun e w' => e = .returned (.bool true) ∧ Below w.heap.size w w' := by
  have h := sameT_any A l.length c l A' l.length c' l w hr hr' hn hn
  rw [decide_eq_true rfl] at h
  exact h
set_option maxRecDepth 100000 in
theorem lawCalls22_any (A : Option Addr) (n c : Nat) (l : List P2) (p1 p2 : Int) (A' : Option Addr) (n' c' : Nat) (m : List P3) (t1 t2 t3 boards at_ : Int) (w0 : World) (hr : Rd w0 2 pairE A n l) (hr' : Rd w0 3 tripE A' n' m) :
    Calls Tryz.prog 3 #[.slice A n c, .agg #[.int .i64 p1, .int .i64 p2], .slice A' n' c', .agg #[.int .i64 t1, .int .i64 t2, .int .i64 t3], .int .i64 boards, .int .i64 at_] w0 fun e w' => e = .returned (.bool true) ∧ Below w0.heap.size w0 w' := by
  have hba : Below w0.heap.size w0 (w0.alloc (.cells #[.int .i64 p1, .int .i64 p2] 24)) := (Below.refl _ w0).alloc (Nat.le_refl _) _
  have bpx := Bx2.new w0 24 p1 p2
  obtain ⟨Wa, hWa⟩ : ∃ q, w0.alloc (.cells #[.int .i64 p1, .int .i64 p2] 24) = q := ⟨_, rfl⟩
  obtain ⟨bp, hbpe⟩ : ∃ q, w0.heap.size = q := ⟨_, rfl⟩
  rw [hWa] at hba bpx
  rw [hbpe] at bpx
  have hbb : Below Wa.heap.size Wa (Wa.alloc (.cells #[.int .i64 t1, .int .i64 t2, .int .i64 t3] 27)) := (Below.refl _ Wa).alloc (Nat.le_refl _) _
  have btx := Bx3.new Wa 27 t1 t2 t3
  have bpx := bpx.below hbb
  have hb0 := hba.trans (hbb.mono hba.size)
  obtain ⟨Wb, hWb⟩ : ∃ q, Wa.alloc (.cells #[.int .i64 t1, .int .i64 t2, .int .i64 t3] 27) = q := ⟨_, rfl⟩
  obtain ⟨bt, hbte⟩ : ∃ q, Wa.heap.size = q := ⟨_, rfl⟩
  rw [hWb] at btx bpx hb0
  rw [hbte] at btx
  have rl0 := Lib.hid (hr.below hb0)
  have rm0 := Lib.hid (hr'.below hb0)
  have bpx0 := Lib.hid bpx
  have btx0 := Lib.hid btx
  have hb0h := Lib.hid hb0
  have hll := Lib.hid hr.len
  have hml := Lib.hid hr'.len
  clear hr hr' hba hbb bpx btx hb0
  go_enter Tryz.func3, Tryz.ntmps3
  go_wp2_with fail
  refine (lives_any _).mono ?_; rintro e W1 ⟨rfl, hb1⟩
  have rl := Lib.hid (rl0.out.below hb1)
  have rm := Lib.hid (rm0.out.below hb1)
  have bpx := Lib.hid (bpx0.out.below hb1)
  have btx := Lib.hid (btx0.out.below hb1)
  have hb01 := Lib.hid (hb0h.out.trans (hb1.mono hb0h.out.size))
  clear rl0 rm0 bpx0 btx0 hb0h hb1
  by_cases h1 : 60 < n
  · have hd1 : decide ((60 : Int) < (n : Int)) = true := decide_eq_true (by omega)
    go_wp2_with fail
    go_returns
    exact ⟨rfl, hb01.out⟩
  have hd1 : decide ((60 : Int) < (n : Int)) = false := decide_eq_false (by omega)
  by_cases h2 : 60 < n'
  · have hd2 : decide ((60 : Int) < (n' : Int)) = true := decide_eq_true (by omega)
    go_wp2_with fail
    go_returns
    exact ⟨rfl, hb01.out⟩
  have hd2 : decide ((60 : Int) < (n' : Int)) = false := decide_eq_false (by omega)
  obtain ⟨K2, hK2⟩ : ∃ K2, L2 (l ++ [(p1, p2)]) = K2 := ⟨_, rfl⟩
  obtain ⟨bb2, hbb2⟩ : ∃ bb, (decide ((p1, p2) ∈ K2) && !decide ((p1, p2) ∈ l)) = bb := ⟨_, rfl⟩
  have hK2l : K2.length ≤ 1000 := by
    rw [← hK2]
    have := L2_len (l ++ [(p1, p2)])
    rw [List.length_append, hll.out] at this
    simp only [List.length_cons, List.length_nil] at this
    omega
  have hK2h := Lib.hid hK2
  have hbb2h := Lib.hid hbb2
  clear hK2 hbb2
  have hT : Hid (∀ W, Below W1.heap.size W1 W → Calls Tryz.prog 6 #[.slice A n c] W fun e w' => ∃ A1 c1, e = .returned (.slice A1 n c1) ∧ Rd w' 2 pairE A1 n l ∧ (A1 = none → n = 0) ∧ Below W.heap.size W w') := fun W hW => by
    refine (ownP_any A n c l W (rl.out.below hW) (by omega)).mono ?_
    rintro e w' ⟨v, rfl, own, hb⟩
    obtain ⟨A1, c1, rfl, r, _, _⟩ := Rd.of_own (enc := pairE) pairE_len2 rfl own
    rw [hll.out] at r
    exact ⟨A1, c1, by rw [hll.out], r, r.some2, hb⟩
  have hP : Hid (∀ W, Below W1.heap.size W1 W → ∀ A1 c1, Rd W 2 pairE A1 n l → (A1 = none → n = 0) → Calls Tryz.prog 5 #[.slice A1 n c1, .agg #[.int .i64 p1, .int .i64 p2]] W fun e w' => ∃ A2 c2, e = .returned (.tuple #[.slice A2 K2.length c2, .bool bb2]) ∧ Rd w' 2 pairE A2 K2.length K2 ∧ Below W.heap.size W w') := fun W hW A1 c1 hA hz => by
    have := Put2_any p1 p2 A1 n c1 l W hA (by omega) hz
    rw [hK2h.out, hbb2h.out] at this
    refine this.mono ?_
    rintro e w' ⟨A2, c2, he, r, _, _, hb⟩
    exact ⟨A2, c2, he, r, hb⟩
  have zbp := bpx.out.lt
  have bp0 := bpx.out.c0
  have bp1 := bpx.out.c1
  go_wp2_with fail
  go_upto_region 5 with fail
  refine wp_region_ghost (fun fl x w => Below W1.heap.size W1 w ∧ (fl 1 = true → ∃ A1 c1, x 1 = .slice A1 n c1 ∧ Rd w 2 pairE A1 n l ∧ (A1 = none → n = 0)) ∧ (fl 3 = true → ∃ A2 c2, x 3 = .tuple #[.slice A2 K2.length c2, .bool bb2] ∧ Rd w 2 pairE A2 K2.length K2 ∧ (fl 4 = true → x 4 = x 3) ∧ (fl 5 = true → x 5 = .slice A2 K2.length c2) ∧ (fl 7 = true → x 7 = .slice A2 K2.length c2)) ∧ (fl 4 = true → fl 3 = true) ∧ (fl 5 = true → fl 3 = true) ∧ (fl 7 = true → fl 3 = true)) (by kernel_rfl) (by kernel_rfl) (by kernel_rfl) (by kernel_rfl) (by kernel_rfl) ?_ ?_
  · intro x0
    exact ⟨⟨rfl, rfl, rfl, Nat.le_refl _, fun _ _ => rfl⟩, (fun h => by cases h), (fun h => by cases h), (fun h => by cases h), (fun h => by cases h), fun h => by cases h⟩
  intro base O hbase hO
  have kx0 : Hid (∀ xs, evX base O xs (.tmp 0) = .slice A n c) := fun xs => by rw [hbase, hO]; rfl
  have kx7 : Hid (∀ xs, evX base O xs (.tmp 7) = .pointer (some ⟨bp, 0, none⟩)) := fun xs => by rw [hbase, hO]; rfl
  have kx31 : Hid (∀ xs, evX base O xs (.tmp 31) = xs 4) := fun xs => by rw [hO]; rfl
  have kx32 : Hid (∀ xs, evX base O xs (.tmp 32) = xs 0) := fun xs => by rw [hO]; rfl
  have kx33 : Hid (∀ xs, evX base O xs (.tmp 33) = xs 1) := fun xs => by rw [hO]; rfl
  have kx34 : Hid (∀ xs, evX base O xs (.tmp 34) = xs 2) := fun xs => by rw [hO]; rfl
  have kx35 : Hid (∀ xs, evX base O xs (.tmp 35) = xs 3) := fun xs => by rw [hO]; rfl
  have kx36 : Hid (∀ xs, evX base O xs (.tmp 36) = xs 5) := fun xs => by rw [hO]; rfl
  have kx37 : Hid (∀ xs, evX base O xs (.tmp 37) = xs 6) := fun xs => by rw [hO]; rfl
  clear hbase hO
  apply gh_det (n := 0)
  · intro fl xs w ev hG hD hl hdone hev K hK
    have e0 := (hev (.tmp 0)).trans (kx0.out xs)
    rw [if_pos (wantedX_none rfl)]
    have ef : ∀ f, ev (.func f) = .func (.func f) #[] #[] := fun f => (hev _).trans rfl
    clear hev hD
    go_simp
    exact hK _ _ rfl hG
  refine gh_any (n := 1) (fun _ => True) ?_ ?_
  · intro fl xs w ev hG hD hl hdone hev K hK
    have e32 := (hev (.tmp 32)).trans (kx32.out xs)
    have d0 := hD.at_ 0 rfl rfl
    replace e32 := e32.trans d0
    rw [if_pos (wantedX_none rfl)]
    have ef : ∀ f, ev (.func f) = .func (.func f) #[] #[] := fun f => (hev _).trans rfl
    clear hev hD
    go_simp
    refine (hT.out _ hG.1).mono ?_; rintro e w' ⟨A1, c1, rfl, r1, hA1, hb1⟩
    refine ⟨_, rfl, hK _ _ trivial ⟨hG.1.trans (hb1.mono hG.1.size), fun _ => ⟨A1, c1, rfl, r1, hA1⟩, fun h => ?_, hG.2.2.2⟩⟩
    obtain ⟨A2, c2, e2, r2, z⟩ := hG.2.2.1 h
    exact ⟨A2, c2, e2, r2.below hb1, z⟩
  apply gh_det (n := 2)
  · intro fl xs w ev hG hD hl hdone hev K hK
    have e7 := (hev (.tmp 7)).trans (kx7.out xs)
    rw [if_pos (wantedX_none rfl)]
    have ef : ∀ f, ev (.func f) = .func (.func f) #[] #[] := fun f => (hev _).trans rfl
    clear hev hD
    have m0 := (hG.1.cell (p := ⟨bp, 0, none⟩) zbp).trans bp0
    have m1 := (hG.1.cell (p := ⟨bp, 1, none⟩) zbp).trans bp1
    go_simp
    exact hK _ _ rfl hG
  refine gh_any (n := 3) (fun _ => True) ?_ ?_
  · intro fl xs w ev hG hD hl hdone hev K hK
    have e33 := (hev (.tmp 33)).trans (kx33.out xs)
    have e34 := (hev (.tmp 34)).trans (kx34.out xs)
    have d2 := hD.at_ 2 rfl rfl
    replace e34 := e34.trans d2
    rw [if_pos (wantedX_none rfl)]
    have ef : ∀ f, ev (.func f) = .func (.func f) #[] #[] := fun f => (hev _).trans rfl
    clear hev hD
    obtain ⟨A1, c1, e1, r1, hA1⟩ := hG.2.1 (done_of hdone 1 rfl)
    rw [e1] at e33
    go_simp
    refine (hP.out _ hG.1 A1 c1 r1 hA1).mono ?_; rintro e w' ⟨A2, c2, rfl, r2, hb2⟩
    exact ⟨_, rfl, hK _ _ trivial ⟨hG.1.trans (hb2.mono hG.1.size), fun h => ⟨A1, c1, e1, r1.below hb2, hA1⟩, fun _ => ⟨A2, c2, rfl, r2, (fun h => Bool.noConfusion (hl.symm.trans (hG.2.2.2.1 h))), (fun h => Bool.noConfusion (hl.symm.trans (hG.2.2.2.2.1 h))), fun h => Bool.noConfusion (hl.symm.trans (hG.2.2.2.2.2 h))⟩, fun _ => rfl, fun _ => rfl, fun _ => rfl⟩⟩
  refine gh_any (n := 4) (fun _ => True) ?_ ?_
  · intro fl xs w ev hG hD hl hdone hev K hK
    have e35 := (hev (.tmp 35)).trans (kx35.out xs)
    rw [if_pos (wantedX_none rfl)]
    have ef : ∀ f, ev (.func f) = .func (.func f) #[] #[] := fun f => (hev _).trans rfl
    clear hev hD
    have h7 := done_of hdone 3 rfl
    obtain ⟨A2, c2, e2, r2, z1, z2, z3⟩ := hG.2.2.1 h7
    go_simp
    exact hK _ _ trivial ⟨hG.1, hG.2.1, fun _ => ⟨A2, c2, e2, r2, fun _ => e2.symm, z2, z3⟩, fun _ => h7, hG.2.2.2.2⟩
  refine gh_any (n := 5) (fun _ => True) ?_ ?_
  · intro fl xs w ev hG hD hl hdone hev K hK
    have e31 := (hev (.tmp 31)).trans (kx31.out xs)
    rw [if_pos (wantedX_none rfl)]
    have ef : ∀ f, ev (.func f) = .func (.func f) #[] #[] := fun f => (hev _).trans rfl
    clear hev hD
    have h8 := done_of hdone 4 rfl
    have h7 := hG.2.2.2.1 h8
    obtain ⟨A2, c2, e2, r2, z1, z2, z3⟩ := hG.2.2.1 h7
    rw [z1 h8, e2] at e31
    go_simp
    exact hK _ _ trivial ⟨hG.1, hG.2.1, fun _ => ⟨A2, c2, e2, r2, z1, fun _ => rfl, z3⟩, hG.2.2.2.1, fun _ => h7, hG.2.2.2.2.2⟩
  apply gh_det (n := 6)
  · intro fl xs w ev hG hD hl hdone hev K hK
    have e31 := (hev (.tmp 31)).trans (kx31.out xs)
    rw [if_pos (wantedX_none rfl)]
    have ef : ∀ f, ev (.func f) = .func (.func f) #[] #[] := fun f => (hev _).trans rfl
    clear hev hD
    have h8 := done_of hdone 4 rfl
    have h7 := hG.2.2.2.1 h8
    obtain ⟨A2, c2, e2, r2, z1, z2, z3⟩ := hG.2.2.1 h7
    rw [z1 h8, e2] at e31
    go_simp
    exact hK _ _ rfl hG
  refine gh_any (n := 7) (fun _ => True) ?_ ?_
  · intro fl xs w ev hG hD hl hdone hev K hK
    have e36 := (hev (.tmp 36)).trans (kx36.out xs)
    rw [if_pos (wantedX_none rfl)]
    have ef : ∀ f, ev (.func f) = .func (.func f) #[] #[] := fun f => (hev _).trans rfl
    clear hev hD
    have h9 := done_of hdone 5 rfl
    have h7 := hG.2.2.2.2.1 h9
    obtain ⟨A2, c2, e2, r2, z1, z2, z3⟩ := hG.2.2.1 h7
    rw [z2 h9] at e36
    go_simp
    exact hK _ _ trivial ⟨hG.1, hG.2.1, fun _ => ⟨A2, c2, e2, r2, z1, z2, fun _ => rfl⟩, hG.2.2.2.1, hG.2.2.2.2.1, fun _ => h7⟩
  apply gh_det (n := 8)
  · intro fl xs w ev hG hD hl hdone hev K hK
    have e37 := (hev (.tmp 37)).trans (kx37.out xs)
    have d6 := hD.at_ 6 rfl rfl
    replace e37 := e37.trans d6
    rw [if_pos (wantedX_none rfl)]
    have ef : ∀ f, ev (.func f) = .func (.func f) #[] #[] := fun f => (hev _).trans rfl
    clear hev hD
    go_simp
    exact hK _ _ rfl hG
  clear kx0 kx7 kx31 kx32 kx33 kx34 kx35 kx36 kx37
  intro xs w9 hG hI
  have hz := hI 8 _ rfl
  obtain ⟨A9, c9, _, r9, _, _, e9⟩ := hG.2.2.1 rfl
  replace e9 := e9 rfl
  have hb9 := hG.1
  clear hG hI
  simp only [List.append_eq, List.cons_append, List.nil_append, setAll, List.setIfInBounds_toArray, List.set_cons_zero, List.set_cons_succ]
  rw [hz, e9]
  clear hz e9
  clear hT hP zbp bp0 bp1
  obtain ⟨Aa, hAa⟩ : ∃ q, A9 = q := ⟨_, rfl⟩
  obtain ⟨ca, hca⟩ : ∃ q, c9 = q := ⟨_, rfl⟩
  rw [hAa] at r9 ⊢
  rw [hca]
  have hra := Lib.hid r9
  have rl2 := Lib.hid (rl.out.below hb9)
  have rm2 := Lib.hid (rm.out.below hb9)
  have bpx2 := Lib.hid (bpx.out.below hb9)
  have btx2 := Lib.hid (btx.out.below hb9)
  have hb02 := Lib.hid (hb01.out.trans (hb9.mono hb01.out.size))
  clear r9 hb9 hAa hca rl rm bpx btx hb01
  have bp0 := bpx2.out.c0
  have bp1 := bpx2.out.c1
  have hRP := Lib.hid (rPut2_any p1 p2 A n c l w9 rl2.out (by omega))
  rw [hK2h.out, hbb2h.out] at hRP
  go_wp2_with fail
  refine hRP.out.mono ?_; rintro e W1 ⟨Ac, cc, rfl, rc, _, _, hb3⟩
  have hra := Lib.hid (hra.out.below hb3)
  have hrc := Lib.hid rc
  have rl := Lib.hid (rl2.out.below hb3)
  have rm := Lib.hid (rm2.out.below hb3)
  have bpx := Lib.hid (bpx2.out.below hb3)
  have btx := Lib.hid (btx2.out.below hb3)
  have hb01 := Lib.hid (hb02.out.trans (hb3.mono hb02.out.size))
  clear rc hb3 rl2 rm2 bpx2 btx2 hb02 bp0 bp1 hRP
  obtain ⟨K3, hK3⟩ : ∃ K3, L3 (m ++ [(t1, t2, t3)]) = K3 := ⟨_, rfl⟩
  obtain ⟨bb3, hbb3⟩ : ∃ bb, (decide ((t1, t2, t3) ∈ K3) && !decide ((t1, t2, t3) ∈ m)) = bb := ⟨_, rfl⟩
  have hK3l : K3.length ≤ 1000 := by
    rw [← hK3]
    have := L3_len (m ++ [(t1, t2, t3)])
    rw [List.length_append, hml.out] at this
    simp only [List.length_cons, List.length_nil] at this
    omega
  have hK3h := Lib.hid hK3
  have hbb3h := Lib.hid hbb3
  clear hK3 hbb3
  have hT : Hid (∀ W, Below W1.heap.size W1 W → Calls Tryz.prog 9 #[.slice A' n' c'] W fun e w' => ∃ A1 c1, e = .returned (.slice A1 n' c1) ∧ Rd w' 3 tripE A1 n' m ∧ (A1 = none → n' = 0) ∧ Below W.heap.size W w') := fun W hW => by
    refine (ownT_any A' n' c' m W (rm.out.below hW) (by omega)).mono ?_
    rintro e w' ⟨v, rfl, own, hb⟩
    obtain ⟨A1, c1, rfl, r, _, _⟩ := Rd.of_own (enc := tripE) tripE_len rfl own
    rw [hml.out] at r
    exact ⟨A1, c1, by rw [hml.out], r, r.some2, hb⟩
  have hP : Hid (∀ W, Below W1.heap.size W1 W → ∀ A1 c1, Rd W 3 tripE A1 n' m → (A1 = none → n' = 0) → Calls Tryz.prog 8 #[.slice A1 n' c1, .agg #[.int .i64 t1, .int .i64 t2, .int .i64 t3]] W fun e w' => ∃ A2 c2, e = .returned (.tuple #[.slice A2 K3.length c2, .bool bb3]) ∧ Rd w' 3 tripE A2 K3.length K3 ∧ Below W.heap.size W w') := fun W hW A1 c1 hA hz => by
    have := Put3_any t1 t2 t3 A1 n' c1 m W hA (by omega) hz
    rw [hK3h.out, hbb3h.out] at this
    refine this.mono ?_
    rintro e w' ⟨A2, c2, he, r, _, _, hb⟩
    exact ⟨A2, c2, he, r, hb⟩
  have zbt := btx.out.lt
  have bt0 := btx.out.c0
  have bt1 := btx.out.c1
  have bt2 := btx.out.c2
  go_wp2_with fail
  go_upto_region 7 with fail
  refine wp_region_ghost (fun fl x w => Below W1.heap.size W1 w ∧ (fl 1 = true → ∃ A1 c1, x 1 = .slice A1 n' c1 ∧ Rd w 3 tripE A1 n' m ∧ (A1 = none → n' = 0)) ∧ (fl 3 = true → ∃ A2 c2, x 3 = .tuple #[.slice A2 K3.length c2, .bool bb3] ∧ Rd w 3 tripE A2 K3.length K3 ∧ (fl 4 = true → x 4 = x 3) ∧ (fl 5 = true → x 5 = .slice A2 K3.length c2) ∧ (fl 7 = true → x 7 = .slice A2 K3.length c2)) ∧ (fl 4 = true → fl 3 = true) ∧ (fl 5 = true → fl 3 = true) ∧ (fl 7 = true → fl 3 = true)) (by kernel_rfl) (by kernel_rfl) (by kernel_rfl) (by kernel_rfl) (by kernel_rfl) ?_ ?_
  · intro x0
    exact ⟨⟨rfl, rfl, rfl, Nat.le_refl _, fun _ _ => rfl⟩, (fun h => by cases h), (fun h => by cases h), (fun h => by cases h), (fun h => by cases h), fun h => by cases h⟩
  intro base O hbase hO
  have kx2 : Hid (∀ xs, evX base O xs (.tmp 2) = .slice A' n' c') := fun xs => by rw [hbase, hO]; rfl
  have kx9 : Hid (∀ xs, evX base O xs (.tmp 9) = .pointer (some ⟨bt, 0, none⟩)) := fun xs => by rw [hbase, hO]; rfl
  have kx44 : Hid (∀ xs, evX base O xs (.tmp 44) = xs 4) := fun xs => by rw [hO]; rfl
  have kx45 : Hid (∀ xs, evX base O xs (.tmp 45) = xs 0) := fun xs => by rw [hO]; rfl
  have kx46 : Hid (∀ xs, evX base O xs (.tmp 46) = xs 1) := fun xs => by rw [hO]; rfl
  have kx47 : Hid (∀ xs, evX base O xs (.tmp 47) = xs 2) := fun xs => by rw [hO]; rfl
  have kx48 : Hid (∀ xs, evX base O xs (.tmp 48) = xs 3) := fun xs => by rw [hO]; rfl
  have kx49 : Hid (∀ xs, evX base O xs (.tmp 49) = xs 5) := fun xs => by rw [hO]; rfl
  have kx50 : Hid (∀ xs, evX base O xs (.tmp 50) = xs 6) := fun xs => by rw [hO]; rfl
  clear hbase hO
  apply gh_det (n := 0)
  · intro fl xs w ev hG hD hl hdone hev K hK
    have e2 := (hev (.tmp 2)).trans (kx2.out xs)
    rw [if_pos (wantedX_none rfl)]
    have ef : ∀ f, ev (.func f) = .func (.func f) #[] #[] := fun f => (hev _).trans rfl
    clear hev hD
    go_simp
    exact hK _ _ rfl hG
  refine gh_any (n := 1) (fun _ => True) ?_ ?_
  · intro fl xs w ev hG hD hl hdone hev K hK
    have e45 := (hev (.tmp 45)).trans (kx45.out xs)
    have d0 := hD.at_ 0 rfl rfl
    replace e45 := e45.trans d0
    rw [if_pos (wantedX_none rfl)]
    have ef : ∀ f, ev (.func f) = .func (.func f) #[] #[] := fun f => (hev _).trans rfl
    clear hev hD
    go_simp
    refine (hT.out _ hG.1).mono ?_; rintro e w' ⟨A1, c1, rfl, r1, hA1, hb1⟩
    refine ⟨_, rfl, hK _ _ trivial ⟨hG.1.trans (hb1.mono hG.1.size), fun _ => ⟨A1, c1, rfl, r1, hA1⟩, fun h => ?_, hG.2.2.2⟩⟩
    obtain ⟨A2, c2, e2, r2, z⟩ := hG.2.2.1 h
    exact ⟨A2, c2, e2, r2.below hb1, z⟩
  apply gh_det (n := 2)
  · intro fl xs w ev hG hD hl hdone hev K hK
    have e9 := (hev (.tmp 9)).trans (kx9.out xs)
    rw [if_pos (wantedX_none rfl)]
    have ef : ∀ f, ev (.func f) = .func (.func f) #[] #[] := fun f => (hev _).trans rfl
    clear hev hD
    have m0 := (hG.1.cell (p := ⟨bt, 0, none⟩) zbt).trans bt0
    have m1 := (hG.1.cell (p := ⟨bt, 1, none⟩) zbt).trans bt1
    have m2 := (hG.1.cell (p := ⟨bt, 2, none⟩) zbt).trans bt2
    go_simp
    exact hK _ _ rfl hG
  refine gh_any (n := 3) (fun _ => True) ?_ ?_
  · intro fl xs w ev hG hD hl hdone hev K hK
    have e46 := (hev (.tmp 46)).trans (kx46.out xs)
    have e47 := (hev (.tmp 47)).trans (kx47.out xs)
    have d2 := hD.at_ 2 rfl rfl
    replace e47 := e47.trans d2
    rw [if_pos (wantedX_none rfl)]
    have ef : ∀ f, ev (.func f) = .func (.func f) #[] #[] := fun f => (hev _).trans rfl
    clear hev hD
    obtain ⟨A1, c1, e1, r1, hA1⟩ := hG.2.1 (done_of hdone 1 rfl)
    rw [e1] at e46
    go_simp
    refine (hP.out _ hG.1 A1 c1 r1 hA1).mono ?_; rintro e w' ⟨A2, c2, rfl, r2, hb2⟩
    exact ⟨_, rfl, hK _ _ trivial ⟨hG.1.trans (hb2.mono hG.1.size), fun h => ⟨A1, c1, e1, r1.below hb2, hA1⟩, fun _ => ⟨A2, c2, rfl, r2, (fun h => Bool.noConfusion (hl.symm.trans (hG.2.2.2.1 h))), (fun h => Bool.noConfusion (hl.symm.trans (hG.2.2.2.2.1 h))), fun h => Bool.noConfusion (hl.symm.trans (hG.2.2.2.2.2 h))⟩, fun _ => rfl, fun _ => rfl, fun _ => rfl⟩⟩
  refine gh_any (n := 4) (fun _ => True) ?_ ?_
  · intro fl xs w ev hG hD hl hdone hev K hK
    have e48 := (hev (.tmp 48)).trans (kx48.out xs)
    rw [if_pos (wantedX_none rfl)]
    have ef : ∀ f, ev (.func f) = .func (.func f) #[] #[] := fun f => (hev _).trans rfl
    clear hev hD
    have h7 := done_of hdone 3 rfl
    obtain ⟨A2, c2, e2, r2, z1, z2, z3⟩ := hG.2.2.1 h7
    go_simp
    exact hK _ _ trivial ⟨hG.1, hG.2.1, fun _ => ⟨A2, c2, e2, r2, fun _ => e2.symm, z2, z3⟩, fun _ => h7, hG.2.2.2.2⟩
  refine gh_any (n := 5) (fun _ => True) ?_ ?_
  · intro fl xs w ev hG hD hl hdone hev K hK
    have e44 := (hev (.tmp 44)).trans (kx44.out xs)
    rw [if_pos (wantedX_none rfl)]
    have ef : ∀ f, ev (.func f) = .func (.func f) #[] #[] := fun f => (hev _).trans rfl
    clear hev hD
    have h8 := done_of hdone 4 rfl
    have h7 := hG.2.2.2.1 h8
    obtain ⟨A2, c2, e2, r2, z1, z2, z3⟩ := hG.2.2.1 h7
    rw [z1 h8, e2] at e44
    go_simp
    exact hK _ _ trivial ⟨hG.1, hG.2.1, fun _ => ⟨A2, c2, e2, r2, z1, fun _ => rfl, z3⟩, hG.2.2.2.1, fun _ => h7, hG.2.2.2.2.2⟩
  apply gh_det (n := 6)
  · intro fl xs w ev hG hD hl hdone hev K hK
    have e44 := (hev (.tmp 44)).trans (kx44.out xs)
    rw [if_pos (wantedX_none rfl)]
    have ef : ∀ f, ev (.func f) = .func (.func f) #[] #[] := fun f => (hev _).trans rfl
    clear hev hD
    have h8 := done_of hdone 4 rfl
    have h7 := hG.2.2.2.1 h8
    obtain ⟨A2, c2, e2, r2, z1, z2, z3⟩ := hG.2.2.1 h7
    rw [z1 h8, e2] at e44
    go_simp
    exact hK _ _ rfl hG
  refine gh_any (n := 7) (fun _ => True) ?_ ?_
  · intro fl xs w ev hG hD hl hdone hev K hK
    have e49 := (hev (.tmp 49)).trans (kx49.out xs)
    rw [if_pos (wantedX_none rfl)]
    have ef : ∀ f, ev (.func f) = .func (.func f) #[] #[] := fun f => (hev _).trans rfl
    clear hev hD
    have h9 := done_of hdone 5 rfl
    have h7 := hG.2.2.2.2.1 h9
    obtain ⟨A2, c2, e2, r2, z1, z2, z3⟩ := hG.2.2.1 h7
    rw [z2 h9] at e49
    go_simp
    exact hK _ _ trivial ⟨hG.1, hG.2.1, fun _ => ⟨A2, c2, e2, r2, z1, z2, fun _ => rfl⟩, hG.2.2.2.1, hG.2.2.2.2.1, fun _ => h7⟩
  apply gh_det (n := 8)
  · intro fl xs w ev hG hD hl hdone hev K hK
    have e50 := (hev (.tmp 50)).trans (kx50.out xs)
    have d6 := hD.at_ 6 rfl rfl
    replace e50 := e50.trans d6
    rw [if_pos (wantedX_none rfl)]
    have ef : ∀ f, ev (.func f) = .func (.func f) #[] #[] := fun f => (hev _).trans rfl
    clear hev hD
    go_simp
    exact hK _ _ rfl hG
  clear kx2 kx9 kx44 kx45 kx46 kx47 kx48 kx49 kx50
  intro xs w9 hG hI
  have hz := hI 8 _ rfl
  obtain ⟨A9, c9, _, r9, _, _, e9⟩ := hG.2.2.1 rfl
  replace e9 := e9 rfl
  have hb9 := hG.1
  clear hG hI
  simp only [List.append_eq, List.cons_append, List.nil_append, setAll, List.setIfInBounds_toArray, List.set_cons_zero, List.set_cons_succ]
  rw [hz, e9]
  clear hz e9
  clear hT hP zbt bt0 bt1 bt2
  obtain ⟨Ax, hAx⟩ : ∃ q, A9 = q := ⟨_, rfl⟩
  obtain ⟨cx, hcx⟩ : ∃ q, c9 = q := ⟨_, rfl⟩
  rw [hAx] at r9 ⊢
  rw [hcx]
  have hrx2 := Lib.hid r9
  have hra2 := Lib.hid (hra.out.below hb9)
  have hrc2 := Lib.hid (hrc.out.below hb9)
  have rl2 := Lib.hid (rl.out.below hb9)
  have rm2 := Lib.hid (rm.out.below hb9)
  have bpx2 := Lib.hid (bpx.out.below hb9)
  have btx2 := Lib.hid (btx.out.below hb9)
  have hb02 := Lib.hid (hb01.out.trans (hb9.mono hb01.out.size))
  clear r9 hb9 hAx hcx hra hrc rl rm bpx btx hb01
  have bt0 := btx2.out.c0
  have bt1 := btx2.out.c1
  have bt2 := btx2.out.c2
  have hRP := Lib.hid (rPut3_any t1 t2 t3 A' n' c' m w9 rm2.out (by omega))
  rw [hK3h.out, hbb3h.out] at hRP
  have eb2 : (bb2 != bb2) = false := by simp
  have eb3 : (bb3 != bb3) = false := by simp
  go_wp2_with fail
  refine hRP.out.mono ?_; rintro e W1 ⟨Au, cu, rfl, ru, _, _, hb3⟩
  have hrx := Lib.hid (hrx2.out.below hb3)
  have hru := Lib.hid ru
  have hra := Lib.hid (hra2.out.below hb3)
  have hrc := Lib.hid (hrc2.out.below hb3)
  have rl := Lib.hid (rl2.out.below hb3)
  have rm := Lib.hid (rm2.out.below hb3)
  have bpx := Lib.hid (bpx2.out.below hb3)
  have btx := Lib.hid (btx2.out.below hb3)
  have hb01 := Lib.hid (hb02.out.trans (hb3.mono hb02.out.size))
  clear ru hb3 hrx2 hra2 hrc2 rl2 rm2 bpx2 btx2 hb02 bt0 bt1 bt2 hRP
  obtain ⟨K4, hK4⟩ : ∃ K4, L2 l = K4 := ⟨_, rfl⟩
  obtain ⟨K5, hK5⟩ : ∃ K5, L3 m = K5 := ⟨_, rfl⟩
  have hK4l : K4.length ≤ 1000 := by
    rw [← hK4]
    have := L2_len l
    rw [hll.out] at this
    omega
  have hK5l : K5.length ≤ 1000 := by
    rw [← hK5]
    have := L3_len m
    rw [hml.out] at this
    omega
  have hK4h := Lib.hid hK4
  have hK5h := Lib.hid hK5
  clear hK4 hK5
  have hS1 := Lib.hid (sameP_self Aa ca Ac cc K2 W1 hra.out hrc.out (by omega))
  go_wp2_with fail
  refine hS1.out.mono ?_; rintro e W2 ⟨rfl, hq⟩
  clear hS1
  have hqc := Lib.hid hq
  clear hq
  have hS1 := Lib.hid (sameT_self Ax cx Au cu K3 W2 (hrx.out.below hqc.out) (hru.out.below hqc.out) (by omega))
  go_wp2_with fail
  refine hS1.out.mono ?_; rintro e W3 ⟨rfl, hq⟩
  have hqc := Lib.hid (hqc.out.trans (hq.mono hqc.out.size))
  clear hS1 hq
  have hS1 := Lib.hid (Least2_any A n c l W3 (rl.out.below hqc.out) (by omega))
  rw [hK4h.out] at hS1
  go_wp2_with fail
  refine hS1.out.mono ?_; rintro e W4 ⟨A4, c4, rfl, r4, _, _, hq⟩
  have hr4 := Lib.hid r4
  have hqc := Lib.hid (hqc.out.trans (hq.mono hqc.out.size))
  clear hS1 hq r4
  have hS1 := Lib.hid (rLeast2_any A n c l W4 (rl.out.below hqc.out) (by omega))
  rw [hK4h.out] at hS1
  go_wp2_with fail
  refine hS1.out.mono ?_; rintro e W5 ⟨A5, c5, rfl, r5, _, _, hq⟩
  have hr4 := Lib.hid (hr4.out.below hq)
  have hr5 := Lib.hid r5
  have hqc := Lib.hid (hqc.out.trans (hq.mono hqc.out.size))
  clear hS1 hq r5
  have hS1 := Lib.hid (sameP_self A4 c4 A5 c5 K4 W5 hr4.out hr5.out (by omega))
  go_wp2_with fail
  refine hS1.out.mono ?_; rintro e W6 ⟨rfl, hq⟩
  have hqc := Lib.hid (hqc.out.trans (hq.mono hqc.out.size))
  clear hS1 hq hr4 hr5
  have hS1 := Lib.hid (Least3_any A' n' c' m W6 (rm.out.below hqc.out) (by omega))
  rw [hK5h.out] at hS1
  go_wp2_with fail
  refine hS1.out.mono ?_; rintro e W7 ⟨A6, c6, rfl, r4, _, _, hq⟩
  have hr4 := Lib.hid r4
  have hqc := Lib.hid (hqc.out.trans (hq.mono hqc.out.size))
  clear hS1 hq r4
  have hS1 := Lib.hid (rLeast3_any A' n' c' m W7 (rm.out.below hqc.out) (by omega))
  rw [hK5h.out] at hS1
  go_wp2_with fail
  refine hS1.out.mono ?_; rintro e W8 ⟨A7, c7, rfl, r5, _, _, hq⟩
  have hr4 := Lib.hid (hr4.out.below hq)
  have hr5 := Lib.hid r5
  have hqc := Lib.hid (hqc.out.trans (hq.mono hqc.out.size))
  clear hS1 hq r5
  have hS1 := Lib.hid (sameT_self A6 c6 A7 c7 K5 W8 hr4.out hr5.out (by omega))
  go_wp2_with fail
  refine hS1.out.mono ?_; rintro e W9 ⟨rfl, hq⟩
  have hqc := Lib.hid (hqc.out.trans (hq.mono hqc.out.size))
  clear hS1 hq hr4 hr5
  have hra2 := Lib.hid (hra.out.below hqc.out)
  have rl2 := Lib.hid (rl.out.below hqc.out)
  have rm2 := Lib.hid (rm.out.below hqc.out)
  have bpx2 := Lib.hid (bpx.out.below hqc.out)
  have btx2 := Lib.hid (btx.out.below hqc.out)
  have hb02 := Lib.hid (hb01.out.trans (hqc.out.mono hb01.out.size))
  clear hra hrc hrx hru rl rm bpx btx hb01 hqc
  go_upto_region 11 with fail
  go_cut [126] (fun s wx => ∃ V, V = wx ∧ s = .bool false ∧ Below W9.heap.size W9 V)
  case first =>
    have zbp := bpx2.out.lt
    have bp0 := bpx2.out.c0
    have bp1 := bpx2.out.c1
    have zbt := btx2.out.lt
    have bt0 := btx2.out.c0
    have bt1 := btx2.out.c1
    have bt2 := btx2.out.c2
    by_cases e1 : 0 < n
    · have d1 : decide ((0 : Int) < (n : Int)) = true := decide_eq_true (by omega)
      have d1' : decide (0 < n) = true := decide_eq_true e1
      obtain ⟨b1, o1, x1, x2, rfl, zb1, _, u0, u1⟩ := rl2.out.pair e1
      simp only [Nat.zero_mul, Nat.add_zero] at u0 u1
      obtain ⟨q1, hq1⟩ : ∃ q, beats2 (x1, x2) (p1, p2) = q := ⟨_, rfl⟩
      have hBp : Hid (∀ W, Calls Tryz.prog 17 #[.agg #[.int .i64 x1, .int .i64 x2], .agg #[.int .i64 p1, .int .i64 p2]] W fun e w' => e = .returned (.bool q1) ∧ Below W.heap.size W w') := fun W => by
        have h := Beats2_any x1 x2 p1 p2 W
        rw [hq1] at h
        exact h
      have hRp : Hid (∀ W, Calls Tryz.prog 18 #[.agg #[.int .i64 x1, .int .i64 x2], .agg #[.int .i64 p1, .int .i64 p2]] W fun e w' => e = .returned (.bool q1) ∧ Below W.heap.size W w') := fun W => by
        have h := rBt2_any x1 x2 p1 p2 W
        rw [hq1] at h
        exact h
      have eq1 : (q1 != q1) = false := by simp
      clear hq1
      by_cases e2 : 0 < n'
      · have d2 : decide ((0 : Int) < (n' : Int)) = true := decide_eq_true (by omega)
        have d2' : decide (0 < n') = true := decide_eq_true e2
        obtain ⟨b2, o2, y1, y2, y3, rfl, zb2, _, v0, v1, v2⟩ := rm2.out.trip e2
        simp only [Nat.zero_mul, Nat.add_zero] at v0 v1 v2
        obtain ⟨q2, hq2⟩ : ∃ q, beats3 (y1, y2, y3) (t1, t2, t3) = q := ⟨_, rfl⟩
        have hBt : Hid (∀ W, Calls Tryz.prog 19 #[.agg #[.int .i64 y1, .int .i64 y2, .int .i64 y3], .agg #[.int .i64 t1, .int .i64 t2, .int .i64 t3]] W fun e w' => e = .returned (.bool q2) ∧ Below W.heap.size W w') := fun W => by
          have h := Beats3_any y1 y2 y3 t1 t2 t3 W
          rw [hq2] at h
          exact h
        have hRt : Hid (∀ W, Calls Tryz.prog 20 #[.agg #[.int .i64 y1, .int .i64 y2, .int .i64 y3], .agg #[.int .i64 t1, .int .i64 t2, .int .i64 t3]] W fun e w' => e = .returned (.bool q2) ∧ Below W.heap.size W w') := fun W => by
          have h := rBt3_any y1 y2 y3 t1 t2 t3 W
          rw [hq2] at h
          exact h
        have eq2 : (q2 != q2) = false := by simp
        clear hq2
        refine wp_region_below W9.heap.size (by kernel_rfl) (by kernel_rfl) ?_
        intro C hC
        repeat (go_big_quiet_step (first
          | ((intro _; with_reducible rfl))
          | (intro hc; have m0 := (hc.cell (p := ⟨b1, o1, none⟩) zb1).trans u0; have m1 := (hc.cell (p := ⟨b1, o1 + 1, none⟩) zb1).trans u1; have m2 := (hc.cell (p := ⟨bp, 0, none⟩) zbp).trans bp0; have m3 := (hc.cell (p := ⟨bp, 1, none⟩) zbp).trans bp1; have m4 := (hc.cell (p := ⟨b2, o2, none⟩) zb2).trans v0; have m5 := (hc.cell (p := ⟨b2, o2 + 1, none⟩) zb2).trans v1; have m6 := (hc.cell (p := ⟨b2, o2 + 2, none⟩) zb2).trans v2; have m7 := (hc.cell (p := ⟨bt, 0, none⟩) zbt).trans bt0; have m8 := (hc.cell (p := ⟨bt, 1, none⟩) zbt).trans bt1; have m9 := (hc.cell (p := ⟨bt, 2, none⟩) zbt).trans bt2; simp only [m0, m1, m2, m3, m4, m5, m6, m7, m8, m9, Result.andThen]; exact ⟨trivial, rfl⟩)
          | (intro hc; refine (hBp.out _).mono ?_; rintro e w' ⟨rfl, hb⟩; exact ⟨rfl, hc.trans (hb.mono hc.size)⟩)
          | (intro hc; refine (hRp.out _).mono ?_; rintro e w' ⟨rfl, hb⟩; exact ⟨rfl, hc.trans (hb.mono hc.size)⟩)
          | (intro hc; refine (hBt.out _).mono ?_; rintro e w' ⟨rfl, hb⟩; exact ⟨rfl, hc.trans (hb.mono hc.size)⟩)
          | (intro hc; refine (hRt.out _).mono ?_; rintro e w' ⟨rfl, hb⟩; exact ⟨rfl, hc.trans (hb.mono hc.size)⟩)))
        refine wpQuiet_nil ?_
        intro w9 hb9
        clear hC
        go_wp2_with fail
        go_meet
        case rel => exact ⟨_, rfl, rfl, hb9⟩
      · have d2 : decide ((0 : Int) < (n' : Int)) = false := decide_eq_false (by omega)
        have d2' : decide (0 < n') = false := decide_eq_false e2
        refine wp_region_below W9.heap.size (by kernel_rfl) (by kernel_rfl) ?_
        intro C hC
        repeat (go_big_quiet_step (first
          | ((intro _; with_reducible rfl))
          | (intro hc; have m0 := (hc.cell (p := ⟨b1, o1, none⟩) zb1).trans u0; have m1 := (hc.cell (p := ⟨b1, o1 + 1, none⟩) zb1).trans u1; have m2 := (hc.cell (p := ⟨bp, 0, none⟩) zbp).trans bp0; have m3 := (hc.cell (p := ⟨bp, 1, none⟩) zbp).trans bp1; simp only [m0, m1, m2, m3, Result.andThen]; exact ⟨trivial, rfl⟩)
          | (intro hc; refine (hBp.out _).mono ?_; rintro e w' ⟨rfl, hb⟩; exact ⟨rfl, hc.trans (hb.mono hc.size)⟩)
          | (intro hc; refine (hRp.out _).mono ?_; rintro e w' ⟨rfl, hb⟩; exact ⟨rfl, hc.trans (hb.mono hc.size)⟩)))
        refine wpQuiet_nil ?_
        intro w9 hb9
        clear hC
        go_wp2_with fail
        go_meet
        case rel => exact ⟨_, rfl, rfl, hb9⟩
    · have d1 : decide ((0 : Int) < (n : Int)) = false := decide_eq_false (by omega)
      have d1' : decide (0 < n) = false := decide_eq_false e1
      by_cases e2 : 0 < n'
      · have d2 : decide ((0 : Int) < (n' : Int)) = true := decide_eq_true (by omega)
        have d2' : decide (0 < n') = true := decide_eq_true e2
        obtain ⟨b2, o2, y1, y2, y3, rfl, zb2, _, v0, v1, v2⟩ := rm2.out.trip e2
        simp only [Nat.zero_mul, Nat.add_zero] at v0 v1 v2
        obtain ⟨q2, hq2⟩ : ∃ q, beats3 (y1, y2, y3) (t1, t2, t3) = q := ⟨_, rfl⟩
        have hBt : Hid (∀ W, Calls Tryz.prog 19 #[.agg #[.int .i64 y1, .int .i64 y2, .int .i64 y3], .agg #[.int .i64 t1, .int .i64 t2, .int .i64 t3]] W fun e w' => e = .returned (.bool q2) ∧ Below W.heap.size W w') := fun W => by
          have h := Beats3_any y1 y2 y3 t1 t2 t3 W
          rw [hq2] at h
          exact h
        have hRt : Hid (∀ W, Calls Tryz.prog 20 #[.agg #[.int .i64 y1, .int .i64 y2, .int .i64 y3], .agg #[.int .i64 t1, .int .i64 t2, .int .i64 t3]] W fun e w' => e = .returned (.bool q2) ∧ Below W.heap.size W w') := fun W => by
          have h := rBt3_any y1 y2 y3 t1 t2 t3 W
          rw [hq2] at h
          exact h
        have eq2 : (q2 != q2) = false := by simp
        clear hq2
        refine wp_region_below W9.heap.size (by kernel_rfl) (by kernel_rfl) ?_
        intro C hC
        repeat (go_big_quiet_step (first
          | ((intro _; with_reducible rfl))
          | (intro hc; have m0 := (hc.cell (p := ⟨b2, o2, none⟩) zb2).trans v0; have m1 := (hc.cell (p := ⟨b2, o2 + 1, none⟩) zb2).trans v1; have m2 := (hc.cell (p := ⟨b2, o2 + 2, none⟩) zb2).trans v2; have m3 := (hc.cell (p := ⟨bt, 0, none⟩) zbt).trans bt0; have m4 := (hc.cell (p := ⟨bt, 1, none⟩) zbt).trans bt1; have m5 := (hc.cell (p := ⟨bt, 2, none⟩) zbt).trans bt2; simp only [m0, m1, m2, m3, m4, m5, Result.andThen]; exact ⟨trivial, rfl⟩)
          | (intro hc; refine (hBt.out _).mono ?_; rintro e w' ⟨rfl, hb⟩; exact ⟨rfl, hc.trans (hb.mono hc.size)⟩)
          | (intro hc; refine (hRt.out _).mono ?_; rintro e w' ⟨rfl, hb⟩; exact ⟨rfl, hc.trans (hb.mono hc.size)⟩)))
        refine wpQuiet_nil ?_
        intro w9 hb9
        clear hC
        go_wp2_with fail
        go_meet
        case rel => exact ⟨_, rfl, rfl, hb9⟩
      · have d2 : decide ((0 : Int) < (n' : Int)) = false := decide_eq_false (by omega)
        have d2' : decide (0 < n') = false := decide_eq_false e2
        refine wp_region_below W9.heap.size (by kernel_rfl) (by kernel_rfl) ?_
        intro C hC
        repeat (go_big_quiet_step (first
          | ((intro _; with_reducible rfl))
          | (intro hc; have m0 := (hc.cell (p := ⟨bp, 0, none⟩) zbp).trans bp0; simp only [m0, Result.andThen]; exact ⟨trivial, rfl⟩)))
        refine wpQuiet_nil ?_
        intro w9 hb9
        clear hC
        go_wp2_with fail
        go_meet
        case rel => exact ⟨_, rfl, rfl, hb9⟩
  case rest =>
    obtain ⟨W1, rfl, rfl, hbx⟩ := hcut
    have hra := Lib.hid (hra2.out.below hbx)
    have rl := Lib.hid (rl2.out.below hbx)
    have rm := Lib.hid (rm2.out.below hbx)
    have bpx := Lib.hid (bpx2.out.below hbx)
    have btx := Lib.hid (btx2.out.below hbx)
    have hb01 := Lib.hid (hb02.out.trans (hbx.mono hb02.out.size))
    clear hra2 rl2 rm2 bpx2 btx2 hb02 hbx
    have zbp := bpx.out.lt
    have bp0 := bpx.out.c0
    have bp1 := bpx.out.c1
    have zbt := btx.out.lt
    have bt0 := btx.out.c0
    have bt1 := btx.out.c1
    have bt2 := btx.out.c2
    obtain ⟨j2, hj2⟩ : ∃ q, chkB (may2 (p1, p2)) = q := ⟨_, rfl⟩
    obtain ⟨j3, hj3⟩ : ∃ q, chkB (may3 (t1, t2, t3)) = q := ⟨_, rfl⟩
    obtain ⟨g1, hg1⟩ : ∃ q, decide (L2 l = l) = q := ⟨_, rfl⟩
    obtain ⟨g2, hg2x⟩ : ∃ q, decide (L2 K2 = K2) = q := ⟨_, rfl⟩
    obtain ⟨g3, hg3x⟩ : ∃ q, decide (L3 m = m) = q := ⟨_, rfl⟩
    obtain ⟨j4, hj4⟩ : ∃ q, bestF boards l = q := ⟨_, rfl⟩
    obtain ⟨KO, hKO⟩ : ∃ q, ofF at_ l = q := ⟨_, rfl⟩
    obtain ⟨KB, hKB⟩ : ∃ q, L2 (behindF at_ m) = q := ⟨_, rfl⟩
    have hKOl : KO.length ≤ 1099511627776 := by
      have := hll.out
      rw [← hKO, ofF_len]
      omega
    have hKBl : KB.length ≤ 1099511627776 := by
      have h1 := L2_len (behindF at_ m)
      have h2 := behindF_len at_ m
      have := hml.out
      rw [← hKB]
      omega
    have hC2 : Hid (∀ W, Below W1.heap.size W1 W → Calls Tryz.prog 21 #[.agg #[.int .i64 p1, .int .i64 p2]] W fun e w' => e = .returned (.int .i64 j2) ∧ Below W.heap.size W w') := fun W hW => by
      have h := Check2_any p1 p2 W
      rw [hj2] at h
      exact h
    have hR2 : Hid (∀ W, Below W1.heap.size W1 W → Calls Tryz.prog 22 #[.agg #[.int .i64 p1, .int .i64 p2]] W fun e w' => e = .returned (.int .i64 j2) ∧ Below W.heap.size W w') := fun W hW => by
      have h := rChk2_any p1 p2 W
      rw [hj2] at h
      exact h
    have hC3 : Hid (∀ W, Below W1.heap.size W1 W → Calls Tryz.prog 23 #[.agg #[.int .i64 t1, .int .i64 t2, .int .i64 t3]] W fun e w' => e = .returned (.int .i64 j3) ∧ Below W.heap.size W w') := fun W hW => by
      have h := Check3_any t1 t2 t3 W
      rw [hj3] at h
      exact h
    have hR3 : Hid (∀ W, Below W1.heap.size W1 W → Calls Tryz.prog 24 #[.agg #[.int .i64 t1, .int .i64 t2, .int .i64 t3]] W fun e w' => e = .returned (.int .i64 j3) ∧ Below W.heap.size W w') := fun W hW => by
      have h := rChk3_any t1 t2 t3 W
      rw [hj3] at h
      exact h
    have hg2 : Hid (∀ W, Below W1.heap.size W1 W → Calls Tryz.prog 25 #[.slice A n c] W fun e w' => e = .returned (.bool g1) ∧ Below W.heap.size W w') := fun W hW => by
      have h := Good2_any A n c l W (rl.out.below hW) (by omega)
      rw [hg1] at h
      exact h
    have hr2 : Hid (∀ W, Below W1.heap.size W1 W → Calls Tryz.prog 26 #[.slice A n c] W fun e w' => e = .returned (.bool g1) ∧ Below W.heap.size W w') := fun W hW => by
      have h := rGood2_any A n c l W (rl.out.below hW) (by omega)
      rw [hg1] at h
      exact h
    have hg2a : Hid (∀ W, Below W1.heap.size W1 W → Calls Tryz.prog 25 #[.slice Aa K2.length ca] W fun e w' => e = .returned (.bool g2) ∧ Below W.heap.size W w') := fun W hW => by
      have h := Good2_any Aa K2.length ca K2 W (hra.out.below hW) (by omega)
      rw [hg2x] at h
      exact h
    have hr2a : Hid (∀ W, Below W1.heap.size W1 W → Calls Tryz.prog 26 #[.slice Aa K2.length ca] W fun e w' => e = .returned (.bool g2) ∧ Below W.heap.size W w') := fun W hW => by
      have h := rGood2_any Aa K2.length ca K2 W (hra.out.below hW) (by omega)
      rw [hg2x] at h
      exact h
    have hg3 : Hid (∀ W, Below W1.heap.size W1 W → Calls Tryz.prog 27 #[.slice A' n' c'] W fun e w' => e = .returned (.bool g3) ∧ Below W.heap.size W w') := fun W hW => by
      have h := Good3_any A' n' c' m W (rm.out.below hW) (by omega)
      rw [hg3x] at h
      exact h
    have hr3 : Hid (∀ W, Below W1.heap.size W1 W → Calls Tryz.prog 28 #[.slice A' n' c'] W fun e w' => e = .returned (.bool g3) ∧ Below W.heap.size W w') := fun W hW => by
      have h := rGood3_any A' n' c' m W (rm.out.below hW) (by omega)
      rw [hg3x] at h
      exact h
    have hbe : Hid (∀ W, Below W1.heap.size W1 W → Calls Tryz.prog 29 #[.slice A n c, .int .i64 boards] W fun e w' => e = .returned (.int .i64 j4) ∧ Below W.heap.size W w') := fun W hW => by
      have h := Best_any A n c l boards W (rl.out.below hW) (by omega)
      rw [hj4] at h
      exact h
    have hrb : Hid (∀ W, Below W1.heap.size W1 W → Calls Tryz.prog 30 #[.slice A n c, .int .i64 boards] W fun e w' => e = .returned (.int .i64 j4) ∧ Below W.heap.size W w') := fun W hW => by
      have h := rBest_any A n c l boards W (rl.out.below hW) (by omega)
      rw [hj4] at h
      exact h
    have hOf : Hid (∀ W, Below W1.heap.size W1 W → Calls Tryz.prog 31 #[.int .i64 at_, .slice A n c] W fun e w' => RetR 3 tripE W KO e w') := fun W hW => by
      have h := Of_any A n c l at_ W (rl.out.below hW) (by omega)
      rw [hKO] at h
      exact h
    have hrOf : Hid (∀ W, Below W1.heap.size W1 W → Calls Tryz.prog 32 #[.int .i64 at_, .slice A n c] W fun e w' => RetR 3 tripE W KO e w') := fun W hW => by
      have h := rOf_any A n c l at_ W (rl.out.below hW) (by omega)
      rw [hKO] at h
      exact h
    have hBh : Hid (∀ W, Below W1.heap.size W1 W → Calls Tryz.prog 33 #[.slice A' n' c', .int .i64 at_] W fun e w' => RetR 2 pairE W KB e w') := fun W hW => by
      have h := Behind_any A' n' c' m at_ W (rm.out.below hW) (by omega)
      rw [hKB] at h
      exact h
    have hrBh : Hid (∀ W, Below W1.heap.size W1 W → Calls Tryz.prog 34 #[.slice A' n' c', .int .i64 at_] W fun e w' => RetR 2 pairE W KB e w') := fun W hW => by
      have h := rBehind_any A' n' c' m at_ W (rm.out.below hW) (by omega)
      rw [hKB] at h
      exact h
    clear hj2 hj3 hg1 hg2x hg3x hj4 hKO hKB
    have i1 : (j2 == j2) = true := by simp
    have i2 : (j3 == j3) = true := by simp
    have i3 : (g1 == g1) = true := by simp
    have i4 : (g2 == g2) = true := by simp
    have i5 : (g3 == g3) = true := by simp
    have i6 : (j4 == j4) = true := by simp
    go_upto_region 13 with fail
    refine wp_region_ghost (fun fl x w => G4 W1 KO KB (fl 45) (fl 48) (fl 54) (fl 57) (x 45) (x 48) (x 54) (x 57) w) (by kernel_rfl) (by kernel_rfl) (by kernel_rfl) (by kernel_rfl) (by kernel_rfl) ?_ ?_
    · intro x0
      exact G4.start rfl rfl rfl rfl
    intro base O hbase hO
    have kx0 : Hid (∀ xs, evX base O xs (.tmp 0) = .slice A n c) := fun xs => by rw [hbase, hO]; rfl
    have kx2 : Hid (∀ xs, evX base O xs (.tmp 2) = .slice A' n' c') := fun xs => by rw [hbase, hO]; rfl
    have kx4 : Hid (∀ xs, evX base O xs (.tmp 4) = .int .i64 boards) := fun xs => by rw [hbase, hO]; rfl
    have kx5 : Hid (∀ xs, evX base O xs (.tmp 5) = .int .i64 at_) := fun xs => by rw [hbase, hO]; rfl
    have kx7 : Hid (∀ xs, evX base O xs (.tmp 7) = .pointer (some ⟨bp, 0, none⟩)) := fun xs => by rw [hbase, hO]; rfl
    have kx9 : Hid (∀ xs, evX base O xs (.tmp 9) = .pointer (some ⟨bt, 0, none⟩)) := fun xs => by rw [hbase, hO]; rfl
    have kx13 : Hid (∀ xs, evX base O xs (.tmp 13) = .slice Aa K2.length ca) := fun xs => by rw [hbase, hO]; rfl
    have kx127 : Hid (∀ xs, evX base O xs (.tmp 127) = xs 0) := fun xs => by rw [hO]; rfl
    have kx128 : Hid (∀ xs, evX base O xs (.tmp 128) = xs 1) := fun xs => by rw [hO]; rfl
    have kx129 : Hid (∀ xs, evX base O xs (.tmp 129) = xs 2) := fun xs => by rw [hO]; rfl
    have kx130 : Hid (∀ xs, evX base O xs (.tmp 130) = xs 3) := fun xs => by rw [hO]; rfl
    have kx131 : Hid (∀ xs, evX base O xs (.tmp 131) = xs 4) := fun xs => by rw [hO]; rfl
    have kx132 : Hid (∀ xs, evX base O xs (.tmp 132) = xs 5) := fun xs => by rw [hO]; rfl
    have kx133 : Hid (∀ xs, evX base O xs (.tmp 133) = xs 6) := fun xs => by rw [hO]; rfl
    have kx134 : Hid (∀ xs, evX base O xs (.tmp 134) = xs 7) := fun xs => by rw [hO]; rfl
    have kx135 : Hid (∀ xs, evX base O xs (.tmp 135) = xs 8) := fun xs => by rw [hO]; rfl
    have kx136 : Hid (∀ xs, evX base O xs (.tmp 136) = xs 9) := fun xs => by rw [hO]; rfl
    have kx137 : Hid (∀ xs, evX base O xs (.tmp 137) = xs 10) := fun xs => by rw [hO]; rfl
    have kx138 : Hid (∀ xs, evX base O xs (.tmp 138) = xs 11) := fun xs => by rw [hO]; rfl
    have kx139 : Hid (∀ xs, evX base O xs (.tmp 139) = xs 12) := fun xs => by rw [hO]; rfl
    have kx140 : Hid (∀ xs, evX base O xs (.tmp 140) = xs 13) := fun xs => by rw [hO]; rfl
    have kx141 : Hid (∀ xs, evX base O xs (.tmp 141) = xs 14) := fun xs => by rw [hO]; rfl
    have kx142 : Hid (∀ xs, evX base O xs (.tmp 142) = xs 15) := fun xs => by rw [hO]; rfl
    have kx143 : Hid (∀ xs, evX base O xs (.tmp 143) = xs 16) := fun xs => by rw [hO]; rfl
    have kx144 : Hid (∀ xs, evX base O xs (.tmp 144) = xs 17) := fun xs => by rw [hO]; rfl
    have kx145 : Hid (∀ xs, evX base O xs (.tmp 145) = xs 18) := fun xs => by rw [hO]; rfl
    have kx146 : Hid (∀ xs, evX base O xs (.tmp 146) = xs 19) := fun xs => by rw [hO]; rfl
    have kx147 : Hid (∀ xs, evX base O xs (.tmp 147) = xs 20) := fun xs => by rw [hO]; rfl
    have kx148 : Hid (∀ xs, evX base O xs (.tmp 148) = xs 21) := fun xs => by rw [hO]; rfl
    have kx149 : Hid (∀ xs, evX base O xs (.tmp 149) = xs 22) := fun xs => by rw [hO]; rfl
    have kx150 : Hid (∀ xs, evX base O xs (.tmp 150) = xs 23) := fun xs => by rw [hO]; rfl
    have kx151 : Hid (∀ xs, evX base O xs (.tmp 151) = xs 24) := fun xs => by rw [hO]; rfl
    have kx152 : Hid (∀ xs, evX base O xs (.tmp 152) = xs 25) := fun xs => by rw [hO]; rfl
    have kx153 : Hid (∀ xs, evX base O xs (.tmp 153) = xs 26) := fun xs => by rw [hO]; rfl
    have kx154 : Hid (∀ xs, evX base O xs (.tmp 154) = xs 27) := fun xs => by rw [hO]; rfl
    have kx155 : Hid (∀ xs, evX base O xs (.tmp 155) = xs 28) := fun xs => by rw [hO]; rfl
    have kx156 : Hid (∀ xs, evX base O xs (.tmp 156) = xs 29) := fun xs => by rw [hO]; rfl
    have kx157 : Hid (∀ xs, evX base O xs (.tmp 157) = xs 30) := fun xs => by rw [hO]; rfl
    have kx158 : Hid (∀ xs, evX base O xs (.tmp 158) = xs 31) := fun xs => by rw [hO]; rfl
    have kx159 : Hid (∀ xs, evX base O xs (.tmp 159) = xs 32) := fun xs => by rw [hO]; rfl
    have kx160 : Hid (∀ xs, evX base O xs (.tmp 160) = xs 33) := fun xs => by rw [hO]; rfl
    have kx161 : Hid (∀ xs, evX base O xs (.tmp 161) = xs 34) := fun xs => by rw [hO]; rfl
    have kx162 : Hid (∀ xs, evX base O xs (.tmp 162) = xs 35) := fun xs => by rw [hO]; rfl
    have kx163 : Hid (∀ xs, evX base O xs (.tmp 163) = xs 36) := fun xs => by rw [hO]; rfl
    have kx164 : Hid (∀ xs, evX base O xs (.tmp 164) = xs 37) := fun xs => by rw [hO]; rfl
    have kx165 : Hid (∀ xs, evX base O xs (.tmp 165) = xs 38) := fun xs => by rw [hO]; rfl
    have kx166 : Hid (∀ xs, evX base O xs (.tmp 166) = xs 39) := fun xs => by rw [hO]; rfl
    have kx167 : Hid (∀ xs, evX base O xs (.tmp 167) = xs 40) := fun xs => by rw [hO]; rfl
    have kx168 : Hid (∀ xs, evX base O xs (.tmp 168) = xs 41) := fun xs => by rw [hO]; rfl
    have kx169 : Hid (∀ xs, evX base O xs (.tmp 169) = xs 42) := fun xs => by rw [hO]; rfl
    have kx170 : Hid (∀ xs, evX base O xs (.tmp 170) = xs 43) := fun xs => by rw [hO]; rfl
    have kx171 : Hid (∀ xs, evX base O xs (.tmp 171) = xs 44) := fun xs => by rw [hO]; rfl
    have kx172 : Hid (∀ xs, evX base O xs (.tmp 172) = xs 45) := fun xs => by rw [hO]; rfl
    have kx173 : Hid (∀ xs, evX base O xs (.tmp 173) = xs 46) := fun xs => by rw [hO]; rfl
    have kx174 : Hid (∀ xs, evX base O xs (.tmp 174) = xs 47) := fun xs => by rw [hO]; rfl
    have kx175 : Hid (∀ xs, evX base O xs (.tmp 175) = xs 48) := fun xs => by rw [hO]; rfl
    have kx176 : Hid (∀ xs, evX base O xs (.tmp 176) = xs 49) := fun xs => by rw [hO]; rfl
    have kx177 : Hid (∀ xs, evX base O xs (.tmp 177) = xs 50) := fun xs => by rw [hO]; rfl
    have kx178 : Hid (∀ xs, evX base O xs (.tmp 178) = xs 51) := fun xs => by rw [hO]; rfl
    have kx179 : Hid (∀ xs, evX base O xs (.tmp 179) = xs 52) := fun xs => by rw [hO]; rfl
    have kx180 : Hid (∀ xs, evX base O xs (.tmp 180) = xs 53) := fun xs => by rw [hO]; rfl
    have kx181 : Hid (∀ xs, evX base O xs (.tmp 181) = xs 54) := fun xs => by rw [hO]; rfl
    have kx182 : Hid (∀ xs, evX base O xs (.tmp 182) = xs 55) := fun xs => by rw [hO]; rfl
    have kx183 : Hid (∀ xs, evX base O xs (.tmp 183) = xs 56) := fun xs => by rw [hO]; rfl
    have kx184 : Hid (∀ xs, evX base O xs (.tmp 184) = xs 57) := fun xs => by rw [hO]; rfl
    have kx185 : Hid (∀ xs, evX base O xs (.tmp 185) = xs 58) := fun xs => by rw [hO]; rfl
    have kx186 : Hid (∀ xs, evX base O xs (.tmp 186) = xs 59) := fun xs => by rw [hO]; rfl
    clear hbase hO
    apply gh_det (n := 0)
    · intro fl xs w ev hG hD hl hdone hev K hK
      have e7 := (hev (.tmp 7)).trans (kx7.out xs)
      rw [if_pos (wantedX_none rfl)]
      have ef : ∀ f, ev (.func f) = .func (.func f) #[] #[] := fun f => (hev _).trans rfl
      clear hev hD
      have m0 := (hG.bel.cell (p := ⟨bp, 0, none⟩) zbp).trans bp0
      have m1 := (hG.bel.cell (p := ⟨bp, 1, none⟩) zbp).trans bp1
      go_simp
      exact hK _ _ rfl hG
    apply gh_det (n := 1)
    · intro fl xs w ev hG hD hl hdone hev K hK
      have e127 := (hev (.tmp 127)).trans (kx127.out xs)
      have d0 := hD.at_ 0 rfl rfl
      replace e127 := e127.trans d0
      rw [if_pos (wantedX_none rfl)]
      have ef : ∀ f, ev (.func f) = .func (.func f) #[] #[] := fun f => (hev _).trans rfl
      clear hev hD
      go_simp
      refine (hC2.out _ hG.bel).mono ?_; rintro e w' ⟨rfl, hb⟩
      exact ⟨_, rfl, hK _ _ rfl (hG.below hb)⟩
    apply gh_det (n := 2)
    · intro fl xs w ev hG hD hl hdone hev K hK
      have e7 := (hev (.tmp 7)).trans (kx7.out xs)
      rw [if_pos (wantedX_none rfl)]
      have ef : ∀ f, ev (.func f) = .func (.func f) #[] #[] := fun f => (hev _).trans rfl
      clear hev hD
      have m0 := (hG.bel.cell (p := ⟨bp, 0, none⟩) zbp).trans bp0
      have m1 := (hG.bel.cell (p := ⟨bp, 1, none⟩) zbp).trans bp1
      go_simp
      exact hK _ _ rfl hG
    apply gh_det (n := 3)
    · intro fl xs w ev hG hD hl hdone hev K hK
      have e129 := (hev (.tmp 129)).trans (kx129.out xs)
      have d2 := hD.at_ 2 rfl rfl
      replace e129 := e129.trans d2
      rw [if_pos (wantedX_none rfl)]
      have ef : ∀ f, ev (.func f) = .func (.func f) #[] #[] := fun f => (hev _).trans rfl
      clear hev hD
      go_simp
      refine (hR2.out _ hG.bel).mono ?_; rintro e w' ⟨rfl, hb⟩
      exact ⟨_, rfl, hK _ _ rfl (hG.below hb)⟩
    apply gh_det (n := 4)
    · intro fl xs w ev hG hD hl hdone hev K hK
      have e128 := (hev (.tmp 128)).trans (kx128.out xs)
      have d1 := hD.at_ 1 rfl rfl
      replace e128 := e128.trans d1
      have e130 := (hev (.tmp 130)).trans (kx130.out xs)
      have d3 := hD.at_ 3 rfl rfl
      replace e130 := e130.trans d3
      rw [if_pos (wantedX_none rfl)]
      have ef : ∀ f, ev (.func f) = .func (.func f) #[] #[] := fun f => (hev _).trans rfl
      clear hev hD
      go_simp
      exact hK _ _ rfl hG
    apply gh_det (n := 5)
    · intro fl xs w ev hG hD hl hdone hev K hK
      have e131 := (hev (.tmp 131)).trans (kx131.out xs)
      have d4 := hD.at_ 4 rfl rfl
      replace e131 := e131.trans d4
      rw [if_pos (wantedX_none rfl)]
      have ef : ∀ f, ev (.func f) = .func (.func f) #[] #[] := fun f => (hev _).trans rfl
      clear hev hD
      go_simp
      exact hK _ _ rfl hG
    apply gh_det (n := 6)
    · intro fl xs w ev hG hD hl hdone hev K hK
      have e9 := (hev (.tmp 9)).trans (kx9.out xs)
      have dg := hD.at_ 5 rfl rfl
      rw [if_pos (wantedX_yes 5 true rfl dg)]
      have ef : ∀ f, ev (.func f) = .func (.func f) #[] #[] := fun f => (hev _).trans rfl
      clear hev hD
      have m0 := (hG.bel.cell (p := ⟨bt, 0, none⟩) zbt).trans bt0
      have m1 := (hG.bel.cell (p := ⟨bt, 1, none⟩) zbt).trans bt1
      have m2 := (hG.bel.cell (p := ⟨bt, 2, none⟩) zbt).trans bt2
      go_simp
      exact hK _ _ rfl hG
    apply gh_det (n := 7)
    · intro fl xs w ev hG hD hl hdone hev K hK
      have e133 := (hev (.tmp 133)).trans (kx133.out xs)
      have d6 := hD.at_ 6 rfl rfl
      replace e133 := e133.trans d6
      have dg := hD.at_ 5 rfl rfl
      rw [if_pos (wantedX_yes 5 true rfl dg)]
      have ef : ∀ f, ev (.func f) = .func (.func f) #[] #[] := fun f => (hev _).trans rfl
      clear hev hD
      go_simp
      refine (hC3.out _ hG.bel).mono ?_; rintro e w' ⟨rfl, hb⟩
      exact ⟨_, rfl, hK _ _ rfl (hG.below hb)⟩
    apply gh_det (n := 8)
    · intro fl xs w ev hG hD hl hdone hev K hK
      have e9 := (hev (.tmp 9)).trans (kx9.out xs)
      have dg := hD.at_ 5 rfl rfl
      rw [if_pos (wantedX_yes 5 true rfl dg)]
      have ef : ∀ f, ev (.func f) = .func (.func f) #[] #[] := fun f => (hev _).trans rfl
      clear hev hD
      have m0 := (hG.bel.cell (p := ⟨bt, 0, none⟩) zbt).trans bt0
      have m1 := (hG.bel.cell (p := ⟨bt, 1, none⟩) zbt).trans bt1
      have m2 := (hG.bel.cell (p := ⟨bt, 2, none⟩) zbt).trans bt2
      go_simp
      exact hK _ _ rfl hG
    apply gh_det (n := 9)
    · intro fl xs w ev hG hD hl hdone hev K hK
      have e135 := (hev (.tmp 135)).trans (kx135.out xs)
      have d8 := hD.at_ 8 rfl rfl
      replace e135 := e135.trans d8
      have dg := hD.at_ 5 rfl rfl
      rw [if_pos (wantedX_yes 5 true rfl dg)]
      have ef : ∀ f, ev (.func f) = .func (.func f) #[] #[] := fun f => (hev _).trans rfl
      clear hev hD
      go_simp
      refine (hR3.out _ hG.bel).mono ?_; rintro e w' ⟨rfl, hb⟩
      exact ⟨_, rfl, hK _ _ rfl (hG.below hb)⟩
    apply gh_det (n := 10)
    · intro fl xs w ev hG hD hl hdone hev K hK
      have e134 := (hev (.tmp 134)).trans (kx134.out xs)
      have d7 := hD.at_ 7 rfl rfl
      replace e134 := e134.trans d7
      have e136 := (hev (.tmp 136)).trans (kx136.out xs)
      have d9 := hD.at_ 9 rfl rfl
      replace e136 := e136.trans d9
      have dg := hD.at_ 5 rfl rfl
      rw [if_pos (wantedX_yes 5 true rfl dg)]
      have ef : ∀ f, ev (.func f) = .func (.func f) #[] #[] := fun f => (hev _).trans rfl
      clear hev hD
      go_simp
      exact hK _ _ rfl hG
    apply gh_det (n := 11)
    · intro fl xs w ev hG hD hl hdone hev K hK
      have e132 := (hev (.tmp 132)).trans (kx132.out xs)
      have d5 := hD.at_ 5 rfl rfl
      replace e132 := e132.trans d5
      have e137 := (hev (.tmp 137)).trans (kx137.out xs)
      have d10 := hD.at_ 10 rfl rfl
      replace e137 := e137.trans d10
      rw [if_pos (wantedX_none rfl)]
      have ef : ∀ f, ev (.func f) = .func (.func f) #[] #[] := fun f => (hev _).trans rfl
      have ec : ∀ v, ev (.const v) = v := fun v => (hev _).trans rfl
      clear hev hD
      go_simp
      exact hK _ _ rfl hG
    apply gh_det (n := 12)
    · intro fl xs w ev hG hD hl hdone hev K hK
      have e138 := (hev (.tmp 138)).trans (kx138.out xs)
      have d11 := hD.at_ 11 rfl rfl
      replace e138 := e138.trans d11
      rw [if_pos (wantedX_none rfl)]
      have ef : ∀ f, ev (.func f) = .func (.func f) #[] #[] := fun f => (hev _).trans rfl
      clear hev hD
      go_simp
      exact hK _ _ rfl hG
    apply gh_det (n := 13)
    · intro fl xs w ev hG hD hl hdone hev K hK
      have e0 := (hev (.tmp 0)).trans (kx0.out xs)
      have dg := hD.at_ 12 rfl rfl
      rw [if_pos (wantedX_yes 12 true rfl dg)]
      have ef : ∀ f, ev (.func f) = .func (.func f) #[] #[] := fun f => (hev _).trans rfl
      clear hev hD
      go_simp
      exact hK _ _ rfl hG
    apply gh_det (n := 14)
    · intro fl xs w ev hG hD hl hdone hev K hK
      have e140 := (hev (.tmp 140)).trans (kx140.out xs)
      have d13 := hD.at_ 13 rfl rfl
      replace e140 := e140.trans d13
      have dg := hD.at_ 12 rfl rfl
      rw [if_pos (wantedX_yes 12 true rfl dg)]
      have ef : ∀ f, ev (.func f) = .func (.func f) #[] #[] := fun f => (hev _).trans rfl
      clear hev hD
      go_simp
      refine (hg2.out _ hG.bel).mono ?_; rintro e w' ⟨rfl, hb⟩
      exact ⟨_, rfl, hK _ _ rfl (hG.below hb)⟩
    apply gh_det (n := 15)
    · intro fl xs w ev hG hD hl hdone hev K hK
      have e0 := (hev (.tmp 0)).trans (kx0.out xs)
      have dg := hD.at_ 12 rfl rfl
      rw [if_pos (wantedX_yes 12 true rfl dg)]
      have ef : ∀ f, ev (.func f) = .func (.func f) #[] #[] := fun f => (hev _).trans rfl
      clear hev hD
      go_simp
      exact hK _ _ rfl hG
    apply gh_det (n := 16)
    · intro fl xs w ev hG hD hl hdone hev K hK
      have e142 := (hev (.tmp 142)).trans (kx142.out xs)
      have d15 := hD.at_ 15 rfl rfl
      replace e142 := e142.trans d15
      have dg := hD.at_ 12 rfl rfl
      rw [if_pos (wantedX_yes 12 true rfl dg)]
      have ef : ∀ f, ev (.func f) = .func (.func f) #[] #[] := fun f => (hev _).trans rfl
      clear hev hD
      go_simp
      refine (hr2.out _ hG.bel).mono ?_; rintro e w' ⟨rfl, hb⟩
      exact ⟨_, rfl, hK _ _ rfl (hG.below hb)⟩
    apply gh_det (n := 17)
    · intro fl xs w ev hG hD hl hdone hev K hK
      have e141 := (hev (.tmp 141)).trans (kx141.out xs)
      have d14 := hD.at_ 14 rfl rfl
      replace e141 := e141.trans d14
      have e143 := (hev (.tmp 143)).trans (kx143.out xs)
      have d16 := hD.at_ 16 rfl rfl
      replace e143 := e143.trans d16
      have dg := hD.at_ 12 rfl rfl
      rw [if_pos (wantedX_yes 12 true rfl dg)]
      have ef : ∀ f, ev (.func f) = .func (.func f) #[] #[] := fun f => (hev _).trans rfl
      clear hev hD
      go_simp
      exact hK _ _ rfl hG
    apply gh_det (n := 18)
    · intro fl xs w ev hG hD hl hdone hev K hK
      have e139 := (hev (.tmp 139)).trans (kx139.out xs)
      have d12 := hD.at_ 12 rfl rfl
      replace e139 := e139.trans d12
      have e144 := (hev (.tmp 144)).trans (kx144.out xs)
      have d17 := hD.at_ 17 rfl rfl
      replace e144 := e144.trans d17
      rw [if_pos (wantedX_none rfl)]
      have ef : ∀ f, ev (.func f) = .func (.func f) #[] #[] := fun f => (hev _).trans rfl
      have ec : ∀ v, ev (.const v) = v := fun v => (hev _).trans rfl
      clear hev hD
      go_simp
      exact hK _ _ rfl hG
    apply gh_det (n := 19)
    · intro fl xs w ev hG hD hl hdone hev K hK
      have e145 := (hev (.tmp 145)).trans (kx145.out xs)
      have d18 := hD.at_ 18 rfl rfl
      replace e145 := e145.trans d18
      rw [if_pos (wantedX_none rfl)]
      have ef : ∀ f, ev (.func f) = .func (.func f) #[] #[] := fun f => (hev _).trans rfl
      clear hev hD
      go_simp
      exact hK _ _ rfl hG
    apply gh_det (n := 20)
    · intro fl xs w ev hG hD hl hdone hev K hK
      have e13 := (hev (.tmp 13)).trans (kx13.out xs)
      have dg := hD.at_ 19 rfl rfl
      rw [if_pos (wantedX_yes 19 true rfl dg)]
      have ef : ∀ f, ev (.func f) = .func (.func f) #[] #[] := fun f => (hev _).trans rfl
      clear hev hD
      go_simp
      exact hK _ _ rfl hG
    apply gh_det (n := 21)
    · intro fl xs w ev hG hD hl hdone hev K hK
      have e147 := (hev (.tmp 147)).trans (kx147.out xs)
      have d20 := hD.at_ 20 rfl rfl
      replace e147 := e147.trans d20
      have dg := hD.at_ 19 rfl rfl
      rw [if_pos (wantedX_yes 19 true rfl dg)]
      have ef : ∀ f, ev (.func f) = .func (.func f) #[] #[] := fun f => (hev _).trans rfl
      clear hev hD
      go_simp
      refine (hg2a.out _ hG.bel).mono ?_; rintro e w' ⟨rfl, hb⟩
      exact ⟨_, rfl, hK _ _ rfl (hG.below hb)⟩
    apply gh_det (n := 22)
    · intro fl xs w ev hG hD hl hdone hev K hK
      have e13 := (hev (.tmp 13)).trans (kx13.out xs)
      have dg := hD.at_ 19 rfl rfl
      rw [if_pos (wantedX_yes 19 true rfl dg)]
      have ef : ∀ f, ev (.func f) = .func (.func f) #[] #[] := fun f => (hev _).trans rfl
      clear hev hD
      go_simp
      exact hK _ _ rfl hG
    apply gh_det (n := 23)
    · intro fl xs w ev hG hD hl hdone hev K hK
      have e149 := (hev (.tmp 149)).trans (kx149.out xs)
      have d22 := hD.at_ 22 rfl rfl
      replace e149 := e149.trans d22
      have dg := hD.at_ 19 rfl rfl
      rw [if_pos (wantedX_yes 19 true rfl dg)]
      have ef : ∀ f, ev (.func f) = .func (.func f) #[] #[] := fun f => (hev _).trans rfl
      clear hev hD
      go_simp
      refine (hr2a.out _ hG.bel).mono ?_; rintro e w' ⟨rfl, hb⟩
      exact ⟨_, rfl, hK _ _ rfl (hG.below hb)⟩
    apply gh_det (n := 24)
    · intro fl xs w ev hG hD hl hdone hev K hK
      have e148 := (hev (.tmp 148)).trans (kx148.out xs)
      have d21 := hD.at_ 21 rfl rfl
      replace e148 := e148.trans d21
      have e150 := (hev (.tmp 150)).trans (kx150.out xs)
      have d23 := hD.at_ 23 rfl rfl
      replace e150 := e150.trans d23
      have dg := hD.at_ 19 rfl rfl
      rw [if_pos (wantedX_yes 19 true rfl dg)]
      have ef : ∀ f, ev (.func f) = .func (.func f) #[] #[] := fun f => (hev _).trans rfl
      clear hev hD
      go_simp
      exact hK _ _ rfl hG
    apply gh_det (n := 25)
    · intro fl xs w ev hG hD hl hdone hev K hK
      have e146 := (hev (.tmp 146)).trans (kx146.out xs)
      have d19 := hD.at_ 19 rfl rfl
      replace e146 := e146.trans d19
      have e151 := (hev (.tmp 151)).trans (kx151.out xs)
      have d24 := hD.at_ 24 rfl rfl
      replace e151 := e151.trans d24
      rw [if_pos (wantedX_none rfl)]
      have ef : ∀ f, ev (.func f) = .func (.func f) #[] #[] := fun f => (hev _).trans rfl
      have ec : ∀ v, ev (.const v) = v := fun v => (hev _).trans rfl
      clear hev hD
      go_simp
      exact hK _ _ rfl hG
    apply gh_det (n := 26)
    · intro fl xs w ev hG hD hl hdone hev K hK
      have e152 := (hev (.tmp 152)).trans (kx152.out xs)
      have d25 := hD.at_ 25 rfl rfl
      replace e152 := e152.trans d25
      rw [if_pos (wantedX_none rfl)]
      have ef : ∀ f, ev (.func f) = .func (.func f) #[] #[] := fun f => (hev _).trans rfl
      clear hev hD
      go_simp
      exact hK _ _ rfl hG
    apply gh_det (n := 27)
    · intro fl xs w ev hG hD hl hdone hev K hK
      have e2 := (hev (.tmp 2)).trans (kx2.out xs)
      have dg := hD.at_ 26 rfl rfl
      rw [if_pos (wantedX_yes 26 true rfl dg)]
      have ef : ∀ f, ev (.func f) = .func (.func f) #[] #[] := fun f => (hev _).trans rfl
      clear hev hD
      go_simp
      exact hK _ _ rfl hG
    apply gh_det (n := 28)
    · intro fl xs w ev hG hD hl hdone hev K hK
      have e154 := (hev (.tmp 154)).trans (kx154.out xs)
      have d27 := hD.at_ 27 rfl rfl
      replace e154 := e154.trans d27
      have dg := hD.at_ 26 rfl rfl
      rw [if_pos (wantedX_yes 26 true rfl dg)]
      have ef : ∀ f, ev (.func f) = .func (.func f) #[] #[] := fun f => (hev _).trans rfl
      clear hev hD
      go_simp
      refine (hg3.out _ hG.bel).mono ?_; rintro e w' ⟨rfl, hb⟩
      exact ⟨_, rfl, hK _ _ rfl (hG.below hb)⟩
    apply gh_det (n := 29)
    · intro fl xs w ev hG hD hl hdone hev K hK
      have e2 := (hev (.tmp 2)).trans (kx2.out xs)
      have dg := hD.at_ 26 rfl rfl
      rw [if_pos (wantedX_yes 26 true rfl dg)]
      have ef : ∀ f, ev (.func f) = .func (.func f) #[] #[] := fun f => (hev _).trans rfl
      clear hev hD
      go_simp
      exact hK _ _ rfl hG
    apply gh_det (n := 30)
    · intro fl xs w ev hG hD hl hdone hev K hK
      have e156 := (hev (.tmp 156)).trans (kx156.out xs)
      have d29 := hD.at_ 29 rfl rfl
      replace e156 := e156.trans d29
      have dg := hD.at_ 26 rfl rfl
      rw [if_pos (wantedX_yes 26 true rfl dg)]
      have ef : ∀ f, ev (.func f) = .func (.func f) #[] #[] := fun f => (hev _).trans rfl
      clear hev hD
      go_simp
      refine (hr3.out _ hG.bel).mono ?_; rintro e w' ⟨rfl, hb⟩
      exact ⟨_, rfl, hK _ _ rfl (hG.below hb)⟩
    apply gh_det (n := 31)
    · intro fl xs w ev hG hD hl hdone hev K hK
      have e155 := (hev (.tmp 155)).trans (kx155.out xs)
      have d28 := hD.at_ 28 rfl rfl
      replace e155 := e155.trans d28
      have e157 := (hev (.tmp 157)).trans (kx157.out xs)
      have d30 := hD.at_ 30 rfl rfl
      replace e157 := e157.trans d30
      have dg := hD.at_ 26 rfl rfl
      rw [if_pos (wantedX_yes 26 true rfl dg)]
      have ef : ∀ f, ev (.func f) = .func (.func f) #[] #[] := fun f => (hev _).trans rfl
      clear hev hD
      go_simp
      exact hK _ _ rfl hG
    apply gh_det (n := 32)
    · intro fl xs w ev hG hD hl hdone hev K hK
      have e153 := (hev (.tmp 153)).trans (kx153.out xs)
      have d26 := hD.at_ 26 rfl rfl
      replace e153 := e153.trans d26
      have e158 := (hev (.tmp 158)).trans (kx158.out xs)
      have d31 := hD.at_ 31 rfl rfl
      replace e158 := e158.trans d31
      rw [if_pos (wantedX_none rfl)]
      have ef : ∀ f, ev (.func f) = .func (.func f) #[] #[] := fun f => (hev _).trans rfl
      have ec : ∀ v, ev (.const v) = v := fun v => (hev _).trans rfl
      clear hev hD
      go_simp
      exact hK _ _ rfl hG
    apply gh_det (n := 33)
    · intro fl xs w ev hG hD hl hdone hev K hK
      have e159 := (hev (.tmp 159)).trans (kx159.out xs)
      have d32 := hD.at_ 32 rfl rfl
      replace e159 := e159.trans d32
      rw [if_pos (wantedX_none rfl)]
      have ef : ∀ f, ev (.func f) = .func (.func f) #[] #[] := fun f => (hev _).trans rfl
      clear hev hD
      go_simp
      exact hK _ _ rfl hG
    apply gh_det (n := 34)
    · intro fl xs w ev hG hD hl hdone hev K hK
      have e0 := (hev (.tmp 0)).trans (kx0.out xs)
      have dg := hD.at_ 33 rfl rfl
      rw [if_pos (wantedX_yes 33 true rfl dg)]
      have ef : ∀ f, ev (.func f) = .func (.func f) #[] #[] := fun f => (hev _).trans rfl
      clear hev hD
      go_simp
      exact hK _ _ rfl hG
    apply gh_det (n := 35)
    · intro fl xs w ev hG hD hl hdone hev K hK
      have e4 := (hev (.tmp 4)).trans (kx4.out xs)
      have dg := hD.at_ 33 rfl rfl
      rw [if_pos (wantedX_yes 33 true rfl dg)]
      have ef : ∀ f, ev (.func f) = .func (.func f) #[] #[] := fun f => (hev _).trans rfl
      clear hev hD
      go_simp
      exact hK _ _ rfl hG
    apply gh_det (n := 36)
    · intro fl xs w ev hG hD hl hdone hev K hK
      have e161 := (hev (.tmp 161)).trans (kx161.out xs)
      have d34 := hD.at_ 34 rfl rfl
      replace e161 := e161.trans d34
      have e162 := (hev (.tmp 162)).trans (kx162.out xs)
      have d35 := hD.at_ 35 rfl rfl
      replace e162 := e162.trans d35
      have dg := hD.at_ 33 rfl rfl
      rw [if_pos (wantedX_yes 33 true rfl dg)]
      have ef : ∀ f, ev (.func f) = .func (.func f) #[] #[] := fun f => (hev _).trans rfl
      clear hev hD
      go_simp
      refine (hbe.out _ hG.bel).mono ?_; rintro e w' ⟨rfl, hb⟩
      exact ⟨_, rfl, hK _ _ rfl (hG.below hb)⟩
    apply gh_det (n := 37)
    · intro fl xs w ev hG hD hl hdone hev K hK
      have e0 := (hev (.tmp 0)).trans (kx0.out xs)
      have dg := hD.at_ 33 rfl rfl
      rw [if_pos (wantedX_yes 33 true rfl dg)]
      have ef : ∀ f, ev (.func f) = .func (.func f) #[] #[] := fun f => (hev _).trans rfl
      clear hev hD
      go_simp
      exact hK _ _ rfl hG
    apply gh_det (n := 38)
    · intro fl xs w ev hG hD hl hdone hev K hK
      have e4 := (hev (.tmp 4)).trans (kx4.out xs)
      have dg := hD.at_ 33 rfl rfl
      rw [if_pos (wantedX_yes 33 true rfl dg)]
      have ef : ∀ f, ev (.func f) = .func (.func f) #[] #[] := fun f => (hev _).trans rfl
      clear hev hD
      go_simp
      exact hK _ _ rfl hG
    apply gh_det (n := 39)
    · intro fl xs w ev hG hD hl hdone hev K hK
      have e164 := (hev (.tmp 164)).trans (kx164.out xs)
      have d37 := hD.at_ 37 rfl rfl
      replace e164 := e164.trans d37
      have e165 := (hev (.tmp 165)).trans (kx165.out xs)
      have d38 := hD.at_ 38 rfl rfl
      replace e165 := e165.trans d38
      have dg := hD.at_ 33 rfl rfl
      rw [if_pos (wantedX_yes 33 true rfl dg)]
      have ef : ∀ f, ev (.func f) = .func (.func f) #[] #[] := fun f => (hev _).trans rfl
      clear hev hD
      go_simp
      refine (hrb.out _ hG.bel).mono ?_; rintro e w' ⟨rfl, hb⟩
      exact ⟨_, rfl, hK _ _ rfl (hG.below hb)⟩
    apply gh_det (n := 40)
    · intro fl xs w ev hG hD hl hdone hev K hK
      have e163 := (hev (.tmp 163)).trans (kx163.out xs)
      have d36 := hD.at_ 36 rfl rfl
      replace e163 := e163.trans d36
      have e166 := (hev (.tmp 166)).trans (kx166.out xs)
      have d39 := hD.at_ 39 rfl rfl
      replace e166 := e166.trans d39
      have dg := hD.at_ 33 rfl rfl
      rw [if_pos (wantedX_yes 33 true rfl dg)]
      have ef : ∀ f, ev (.func f) = .func (.func f) #[] #[] := fun f => (hev _).trans rfl
      clear hev hD
      go_simp
      exact hK _ _ rfl hG
    apply gh_det (n := 41)
    · intro fl xs w ev hG hD hl hdone hev K hK
      have e160 := (hev (.tmp 160)).trans (kx160.out xs)
      have d33 := hD.at_ 33 rfl rfl
      replace e160 := e160.trans d33
      have e167 := (hev (.tmp 167)).trans (kx167.out xs)
      have d40 := hD.at_ 40 rfl rfl
      replace e167 := e167.trans d40
      rw [if_pos (wantedX_none rfl)]
      have ef : ∀ f, ev (.func f) = .func (.func f) #[] #[] := fun f => (hev _).trans rfl
      have ec : ∀ v, ev (.const v) = v := fun v => (hev _).trans rfl
      clear hev hD
      go_simp
      exact hK _ _ rfl hG
    apply gh_det (n := 42)
    · intro fl xs w ev hG hD hl hdone hev K hK
      have e168 := (hev (.tmp 168)).trans (kx168.out xs)
      have d41 := hD.at_ 41 rfl rfl
      replace e168 := e168.trans d41
      rw [if_pos (wantedX_none rfl)]
      have ef : ∀ f, ev (.func f) = .func (.func f) #[] #[] := fun f => (hev _).trans rfl
      clear hev hD
      go_simp
      exact hK _ _ rfl hG
    apply gh_det (n := 43)
    · intro fl xs w ev hG hD hl hdone hev K hK
      have e5 := (hev (.tmp 5)).trans (kx5.out xs)
      have dg := hD.at_ 42 rfl rfl
      rw [if_pos (wantedX_yes 42 true rfl dg)]
      have ef : ∀ f, ev (.func f) = .func (.func f) #[] #[] := fun f => (hev _).trans rfl
      clear hev hD
      go_simp
      exact hK _ _ rfl hG
    apply gh_det (n := 44)
    · intro fl xs w ev hG hD hl hdone hev K hK
      have e0 := (hev (.tmp 0)).trans (kx0.out xs)
      have dg := hD.at_ 42 rfl rfl
      rw [if_pos (wantedX_yes 42 true rfl dg)]
      have ef : ∀ f, ev (.func f) = .func (.func f) #[] #[] := fun f => (hev _).trans rfl
      clear hev hD
      go_simp
      exact hK _ _ rfl hG
    refine gh_any (n := 45) (fun _ => True) ?_ ?_
    · intro fl xs w ev hG hD hl hdone hev K hK
      have e170 := (hev (.tmp 170)).trans (kx170.out xs)
      have d43 := hD.at_ 43 rfl rfl
      replace e170 := e170.trans d43
      have e171 := (hev (.tmp 171)).trans (kx171.out xs)
      have d44 := hD.at_ 44 rfl rfl
      replace e171 := e171.trans d44
      have dg := hD.at_ 42 rfl rfl
      rw [if_pos (wantedX_yes 42 true rfl dg)]
      have ef : ∀ f, ev (.func f) = .func (.func f) #[] #[] := fun f => (hev _).trans rfl
      clear hev hD
      go_simp
      refine (hOf.out _ hG.bel).mono ?_; rintro e w' ⟨Aq, cq, rfl, rq, _, _, hb⟩
      exact ⟨_, rfl, hK _ _ trivial ((hG.below hb).s1 ⟨Aq, cq, rfl, rq⟩)⟩
    apply gh_det (n := 46)
    · intro fl xs w ev hG hD hl hdone hev K hK
      have e5 := (hev (.tmp 5)).trans (kx5.out xs)
      have dg := hD.at_ 42 rfl rfl
      rw [if_pos (wantedX_yes 42 true rfl dg)]
      have ef : ∀ f, ev (.func f) = .func (.func f) #[] #[] := fun f => (hev _).trans rfl
      clear hev hD
      go_simp
      exact hK _ _ rfl hG
    apply gh_det (n := 47)
    · intro fl xs w ev hG hD hl hdone hev K hK
      have e0 := (hev (.tmp 0)).trans (kx0.out xs)
      have dg := hD.at_ 42 rfl rfl
      rw [if_pos (wantedX_yes 42 true rfl dg)]
      have ef : ∀ f, ev (.func f) = .func (.func f) #[] #[] := fun f => (hev _).trans rfl
      clear hev hD
      go_simp
      exact hK _ _ rfl hG
    refine gh_any (n := 48) (fun _ => True) ?_ ?_
    · intro fl xs w ev hG hD hl hdone hev K hK
      have e173 := (hev (.tmp 173)).trans (kx173.out xs)
      have d46 := hD.at_ 46 rfl rfl
      replace e173 := e173.trans d46
      have e174 := (hev (.tmp 174)).trans (kx174.out xs)
      have d47 := hD.at_ 47 rfl rfl
      replace e174 := e174.trans d47
      have dg := hD.at_ 42 rfl rfl
      rw [if_pos (wantedX_yes 42 true rfl dg)]
      have ef : ∀ f, ev (.func f) = .func (.func f) #[] #[] := fun f => (hev _).trans rfl
      clear hev hD
      go_simp
      refine (hrOf.out _ hG.bel).mono ?_; rintro e w' ⟨Aq, cq, rfl, rq, _, _, hb⟩
      exact ⟨_, rfl, hK _ _ trivial ((hG.below hb).s2 ⟨Aq, cq, rfl, rq⟩)⟩
    apply gh_det (n := 49)
    · intro fl xs w ev hG hD hl hdone hev K hK
      have e172 := (hev (.tmp 172)).trans (kx172.out xs)
      have e175 := (hev (.tmp 175)).trans (kx175.out xs)
      have dg := hD.at_ 42 rfl rfl
      rw [if_pos (wantedX_yes 42 true rfl dg)]
      have ef : ∀ f, ev (.func f) = .func (.func f) #[] #[] := fun f => (hev _).trans rfl
      clear hev hD
      obtain ⟨Aq, cq, eq, rq⟩ := hG.a1 (done_of hdone 45 rfl)
      obtain ⟨As, cs, es, rs⟩ := hG.a2 (done_of hdone 48 rfl)
      have hS := Lib.hid (sameT_self Aq cq As cs KO w rq rs hKOl)
      rw [eq] at e172
      rw [es] at e175
      clear rq rs eq es
      go_simp
      refine hS.out.mono ?_; rintro e w' ⟨rfl, hb⟩
      exact ⟨_, rfl, hK _ _ rfl (hG.below hb)⟩
    apply gh_det (n := 50)
    · intro fl xs w ev hG hD hl hdone hev K hK
      have e169 := (hev (.tmp 169)).trans (kx169.out xs)
      have d42 := hD.at_ 42 rfl rfl
      replace e169 := e169.trans d42
      have e176 := (hev (.tmp 176)).trans (kx176.out xs)
      have d49 := hD.at_ 49 rfl rfl
      replace e176 := e176.trans d49
      rw [if_pos (wantedX_none rfl)]
      have ef : ∀ f, ev (.func f) = .func (.func f) #[] #[] := fun f => (hev _).trans rfl
      have ec : ∀ v, ev (.const v) = v := fun v => (hev _).trans rfl
      clear hev hD
      go_simp
      exact hK _ _ rfl hG
    apply gh_det (n := 51)
    · intro fl xs w ev hG hD hl hdone hev K hK
      have e177 := (hev (.tmp 177)).trans (kx177.out xs)
      have d50 := hD.at_ 50 rfl rfl
      replace e177 := e177.trans d50
      rw [if_pos (wantedX_none rfl)]
      have ef : ∀ f, ev (.func f) = .func (.func f) #[] #[] := fun f => (hev _).trans rfl
      clear hev hD
      go_simp
      exact hK _ _ rfl hG
    apply gh_det (n := 52)
    · intro fl xs w ev hG hD hl hdone hev K hK
      have e2 := (hev (.tmp 2)).trans (kx2.out xs)
      have dg := hD.at_ 51 rfl rfl
      rw [if_pos (wantedX_yes 51 true rfl dg)]
      have ef : ∀ f, ev (.func f) = .func (.func f) #[] #[] := fun f => (hev _).trans rfl
      clear hev hD
      go_simp
      exact hK _ _ rfl hG
    apply gh_det (n := 53)
    · intro fl xs w ev hG hD hl hdone hev K hK
      have e5 := (hev (.tmp 5)).trans (kx5.out xs)
      have dg := hD.at_ 51 rfl rfl
      rw [if_pos (wantedX_yes 51 true rfl dg)]
      have ef : ∀ f, ev (.func f) = .func (.func f) #[] #[] := fun f => (hev _).trans rfl
      clear hev hD
      go_simp
      exact hK _ _ rfl hG
    refine gh_any (n := 54) (fun _ => True) ?_ ?_
    · intro fl xs w ev hG hD hl hdone hev K hK
      have e179 := (hev (.tmp 179)).trans (kx179.out xs)
      have d52 := hD.at_ 52 rfl rfl
      replace e179 := e179.trans d52
      have e180 := (hev (.tmp 180)).trans (kx180.out xs)
      have d53 := hD.at_ 53 rfl rfl
      replace e180 := e180.trans d53
      have dg := hD.at_ 51 rfl rfl
      rw [if_pos (wantedX_yes 51 true rfl dg)]
      have ef : ∀ f, ev (.func f) = .func (.func f) #[] #[] := fun f => (hev _).trans rfl
      clear hev hD
      go_simp
      refine (hBh.out _ hG.bel).mono ?_; rintro e w' ⟨Aq, cq, rfl, rq, _, _, hb⟩
      exact ⟨_, rfl, hK _ _ trivial ((hG.below hb).s3 ⟨Aq, cq, rfl, rq⟩)⟩
    apply gh_det (n := 55)
    · intro fl xs w ev hG hD hl hdone hev K hK
      have e2 := (hev (.tmp 2)).trans (kx2.out xs)
      have dg := hD.at_ 51 rfl rfl
      rw [if_pos (wantedX_yes 51 true rfl dg)]
      have ef : ∀ f, ev (.func f) = .func (.func f) #[] #[] := fun f => (hev _).trans rfl
      clear hev hD
      go_simp
      exact hK _ _ rfl hG
    apply gh_det (n := 56)
    · intro fl xs w ev hG hD hl hdone hev K hK
      have e5 := (hev (.tmp 5)).trans (kx5.out xs)
      have dg := hD.at_ 51 rfl rfl
      rw [if_pos (wantedX_yes 51 true rfl dg)]
      have ef : ∀ f, ev (.func f) = .func (.func f) #[] #[] := fun f => (hev _).trans rfl
      clear hev hD
      go_simp
      exact hK _ _ rfl hG
    refine gh_any (n := 57) (fun _ => True) ?_ ?_
    · intro fl xs w ev hG hD hl hdone hev K hK
      have e182 := (hev (.tmp 182)).trans (kx182.out xs)
      have d55 := hD.at_ 55 rfl rfl
      replace e182 := e182.trans d55
      have e183 := (hev (.tmp 183)).trans (kx183.out xs)
      have d56 := hD.at_ 56 rfl rfl
      replace e183 := e183.trans d56
      have dg := hD.at_ 51 rfl rfl
      rw [if_pos (wantedX_yes 51 true rfl dg)]
      have ef : ∀ f, ev (.func f) = .func (.func f) #[] #[] := fun f => (hev _).trans rfl
      clear hev hD
      go_simp
      refine (hrBh.out _ hG.bel).mono ?_; rintro e w' ⟨Aq, cq, rfl, rq, _, _, hb⟩
      exact ⟨_, rfl, hK _ _ trivial ((hG.below hb).s4 ⟨Aq, cq, rfl, rq⟩)⟩
    apply gh_det (n := 58)
    · intro fl xs w ev hG hD hl hdone hev K hK
      have e181 := (hev (.tmp 181)).trans (kx181.out xs)
      have e184 := (hev (.tmp 184)).trans (kx184.out xs)
      have dg := hD.at_ 51 rfl rfl
      rw [if_pos (wantedX_yes 51 true rfl dg)]
      have ef : ∀ f, ev (.func f) = .func (.func f) #[] #[] := fun f => (hev _).trans rfl
      clear hev hD
      obtain ⟨Aq, cq, eq, rq⟩ := hG.a3 (done_of hdone 54 rfl)
      obtain ⟨As, cs, es, rs⟩ := hG.a4 (done_of hdone 57 rfl)
      have hS := Lib.hid (sameP_self Aq cq As cs KB w rq rs hKBl)
      rw [eq] at e181
      rw [es] at e184
      clear rq rs eq es
      go_simp
      refine hS.out.mono ?_; rintro e w' ⟨rfl, hb⟩
      exact ⟨_, rfl, hK _ _ rfl (hG.below hb)⟩
    apply gh_det (n := 59)
    · intro fl xs w ev hG hD hl hdone hev K hK
      have e178 := (hev (.tmp 178)).trans (kx178.out xs)
      have d51 := hD.at_ 51 rfl rfl
      replace e178 := e178.trans d51
      have e185 := (hev (.tmp 185)).trans (kx185.out xs)
      have d58 := hD.at_ 58 rfl rfl
      replace e185 := e185.trans d58
      rw [if_pos (wantedX_none rfl)]
      have ef : ∀ f, ev (.func f) = .func (.func f) #[] #[] := fun f => (hev _).trans rfl
      have ec : ∀ v, ev (.const v) = v := fun v => (hev _).trans rfl
      clear hev hD
      go_simp
      exact hK _ _ rfl hG
    apply gh_det (n := 60)
    · intro fl xs w ev hG hD hl hdone hev K hK
      have e186 := (hev (.tmp 186)).trans (kx186.out xs)
      have d59 := hD.at_ 59 rfl rfl
      replace e186 := e186.trans d59
      rw [if_pos (wantedX_none rfl)]
      have ef : ∀ f, ev (.func f) = .func (.func f) #[] #[] := fun f => (hev _).trans rfl
      clear hev hD
      go_simp
      exact hK _ _ rfl hG
    clear kx0 kx2 kx4 kx5 kx7 kx9 kx13 kx127 kx128 kx129 kx130 kx131 kx132 kx133 kx134 kx135 kx136 kx137 kx138 kx139 kx140 kx141 kx142 kx143 kx144 kx145 kx146 kx147 kx148 kx149 kx150 kx151 kx152 kx153 kx154 kx155 kx156 kx157 kx158 kx159 kx160 kx161 kx162 kx163 kx164 kx165 kx166 kx167 kx168 kx169 kx170 kx171 kx172 kx173 kx174 kx175 kx176 kx177 kx178 kx179 kx180 kx181 kx182 kx183 kx184 kx185 kx186
    intro xs w9 hG hI
    have hz := hI 60 _ rfl
    have hb9 := hG.bel
    clear hG hI
    simp only [List.append_eq, List.cons_append, List.nil_append, setAll, List.setIfInBounds_toArray, List.set_cons_zero, List.set_cons_succ]
    rw [hz]
    clear hz
    go_wp2_with fail
    go_returns
    exact ⟨rfl, hb01.out.trans (hb9.mono hb01.out.size)⟩
end Go.Proofs.YtibeoiphjkgekaaGreat
