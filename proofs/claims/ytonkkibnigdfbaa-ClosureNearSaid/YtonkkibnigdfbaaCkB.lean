/-
  Texts of the walk chapter, merged (clo/merge.py).
-/
import Derived.Test.YtonkkibnigdfbaaCkA
import Derived.Laws.EntriesVeiled
import Derived.BigQuiet
import Derived.Deep.LoopGhost
namespace Go.Proofs.Ytonkkibnigdfbaa
open Go.RowKit Go.Shelf B K
set_option linter.unusedVariables false
set_option linter.unusedSimpArgs false
set_option maxHeartbeats 2000000
section
variable {w w' : World} {base h m : Nat} {sv : Value} {l l2 : List It} {X : List Nat}
/-- the first one is known -/
theorem Pop_min (H : HQ w base h X l) {x : It} {l0 : List It} (hp : l.Perm (x :: l0)) (hmin : ∀ y ∈ l0, ltI x y = true) (hbase : base ≤ w.heap.size) (hXl : ∀ b ∈ X, b < w.heap.size) :
    Calls Try.prog 84 #[.pointer (some ⟨h, 0, none⟩)] w fun e w' => e = .returned (.tuple #[.agg #[.int .i64 x.1, .int .i64 x.2], .bool true]) ∧ HPost w w' base h X l0 := by
  refine (Pop_any H (fun e => by rw [e] at hp; have := hp.length_eq; simp at this) hbase hXl).mono ?_
  rintro e w' ⟨x', l0', hp', hmin', rfl, hpost⟩
  have hx : x' = x := by
    have h1 : x' ∈ x :: l0 := (hp'.symm.trans hp).mem_iff.1 (List.mem_cons_self ..)
    have h2 : x ∈ x' :: l0' := (hp.symm.trans hp').mem_iff.1 (List.mem_cons_self ..)
    rcases List.mem_cons.1 h1 with h1 | h1
    · exact h1
    · rcases List.mem_cons.1 h2 with h2 | h2
      · exact h2.symm
      · have a1 := hmin x' h1
        have a2 := hmin' x h2
        rw [a1] at a2; cases a2
  subst hx
  exact ⟨rfl, hpost.1.perm (List.Perm.cons_inv (hp'.symm.trans hp)), hpost.2⟩
end
end Go.Proofs.Ytonkkibnigdfbaa
namespace Go.Proofs.Ytonkkibnigdfbaa
open Go.RowKit Go.Shelf B K
set_option linter.unusedVariables false
set_option linter.unusedSimpArgs false
set_option maxHeartbeats 2000000
abbrev ptrV (b : Nat) : Value := .pointer (some ⟨b, 0, none⟩)
/-- a search in memory: its struct sb, its row fb, its heap h; ob: the edges by stop -/
structure SQ (w : World) (base h : Nat) (X : List Nat) (sb fb ob n : Nat) (d : List Int) (S : List It) : Prop where
  q : HQ w base h X S
  sx : sb ∈ X
  fx : fb ∈ X
  ne : sb ≠ fb
  s : w.heap[sb]? = some (.cells #[.slice (some ⟨ob, 0, none⟩) n n, .slice (some ⟨fb, 0, none⟩) n n, .func (.func 83) #[.pointer (some ⟨h, 0, none⟩)] #[], .func (.func 84) #[.pointer (some ⟨h, 0, none⟩)] #[], .func (.func 85) #[.pointer (some ⟨h, 0, none⟩)] #[]] 162 (0, 0))
  f : w.heap[fb]? = some (.cells (d.map (Value.int .i64)).toArray 2 (0, 0))
  len : d.length = n
  sb0 : base ≤ sb
  fb0 : base ≤ fb
def SPost (w w' : World) (base h : Nat) (X : List Nat) (sb fb ob n : Nat) (d : List Int) (S : List It) : Prop :=
  SQ w' base h X sb fb ob n d S ∧ Below base w w' ∧ ∀ b ∈ X, b ≠ fb → b < w.heap.size → w'.heap[b]? = w.heap[b]?
section
variable {w w' w6 : World} {base h sb fb ob n : Nat} {X : List Nat} {d : List Int} {S S2 : List It}
theorem SQ.c0 (H : SQ w base h X sb fb ob n d S) : w.cell? ⟨sb, 0, none⟩ = some (.slice (some ⟨ob, 0, none⟩) n n) := by rw [cell_of_row _ _ _ _ _ _ H.s]; rfl
theorem SQ.c1 (H : SQ w base h X sb fb ob n d S) : w.cell? ⟨sb, 1, none⟩ = some (.slice (some ⟨fb, 0, none⟩) n n) := by rw [cell_of_row _ _ _ _ _ _ H.s]; rfl
theorem SQ.c2 (H : SQ w base h X sb fb ob n d S) : w.cell? ⟨sb, 2, none⟩ = some (.func (.func 83) #[.pointer (some ⟨h, 0, none⟩)] #[]) := by rw [cell_of_row _ _ _ _ _ _ H.s]; rfl
theorem SQ.c3 (H : SQ w base h X sb fb ob n d S) : w.cell? ⟨sb, 3, none⟩ = some (.func (.func 84) #[.pointer (some ⟨h, 0, none⟩)] #[]) := by rw [cell_of_row _ _ _ _ _ _ H.s]; rfl
theorem SQ.c4 (H : SQ w base h X sb fb ob n d S) : w.cell? ⟨sb, 4, none⟩ = some (.func (.func 85) #[.pointer (some ⟨h, 0, none⟩)] #[]) := by rw [cell_of_row _ _ _ _ _ _ H.s]; rfl
theorem SQ.at_ (H : SQ w base h X sb fb ob n d S) {i : Nat} {u : Int} (hu : d[i]? = some u) : w.cell? ⟨fb, i, none⟩ = some (.int .i64 u) := by rw [cell_of_row _ _ _ _ _ _ H.f]; simp [hu]
theorem SQ.slt (H : SQ w base h X sb fb ob n d S) : sb < w.heap.size := (Array.getElem?_eq_some_iff.1 H.s).1
theorem SQ.flt (H : SQ w base h X sb fb ob n d S) : fb < w.heap.size := (Array.getElem?_eq_some_iff.1 H.f).1
theorem SQ.lt (H : SQ w base h X sb fb ob n d S) {i : Nat} {u : Int} (hu : d[i]? = some u) : i < n := by rw [← H.len]; exact (List.getElem?_eq_some_iff.1 hu).1
theorem SQ.below (H : SQ w base h X sb fb ob n d S) (hb : Below w.heap.size w w') : SQ w' base h X sb fb ob n d S :=
  ⟨H.q.below hb, H.sx, H.fx, H.ne, (hb.block _ H.slt).trans H.s, (hb.block _ H.flt).trans H.f, H.len, H.sb0, H.fb0⟩
theorem SQ.more (H : SQ w base h X sb fb ob n d S) {Y : List Nat} (hX : ∀ x ∈ X, x ∈ Y) (hY : ∀ y ∈ Y, y ∈ X ∨ w.heap.size ≤ y) : SQ w base h Y sb fb ob n d S :=
  ⟨H.q.more hY, hX _ H.sx, hX _ H.fx, H.ne, H.s, H.f, H.len, H.sb0, H.fb0⟩
theorem SQ.less (H : SQ w base h X sb fb ob n d S) {Y : List Nat} (hs : sb ∈ Y) (hf : fb ∈ Y) (hY : ∀ y ∈ Y, y ∈ X) : SQ w base h Y sb fb ob n d S :=
  ⟨H.q.more fun y hy => .inl (hY y hy), hs, hf, H.ne, H.s, H.f, H.len, H.sb0, H.fb0⟩
theorem SQ.but (H : SQ w base h X sb fb ob n d S) {Z : List Nat} (hb : But w w' Z) (hZ : ∀ z ∈ Z, z ∈ X ∧ z ≠ sb ∧ z ≠ fb) : SQ w' base h X sb fb ob n d S :=
  ⟨H.q.but hb fun z hz => (hZ z hz).1, H.sx, H.fx, H.ne, (hb.keep _ H.slt (fun hx => (hZ _ hx).2.1 rfl)).trans H.s, (hb.keep _ H.flt (fun hx => (hZ _ hx).2.2 rfl)).trans H.f, H.len, H.sb0, H.fb0⟩
/-- the heap has turned -/
theorem SQ.turn (H : SQ w base h X sb fb ob n d S) (hp : HPost w w' base h X S2) : SQ w' base h X sb fb ob n d S2 :=
  ⟨hp.1, H.sx, H.fx, H.ne, (hp.2.2 _ H.sx H.slt).trans H.s, (hp.2.2 _ H.fx H.flt).trans H.f, H.len, H.sb0, H.fb0⟩
/-- .. and the row's one cell -/
theorem SQ.put (H : SQ w base h X sb fb ob n d S) (hp : HPost w w6 base h X S2) {i : Nat} {u far : Int} (hu : d[i]? = some u) (hbase : base ≤ w.heap.size) :
    SPost w (w6.setCell ⟨fb, i, none⟩ (.int .i64 far)) base h X sb fb ob n (d.set i far) S2 := by
  have H6 := H.turn hp
  have hbut : But w6 (w6.setCell ⟨fb, i, none⟩ (.int .i64 far)) [fb] := But.of_set _ _ _ (by simp)
  refine ⟨⟨H6.q.but hbut (by simpa using H.fx), H.sx, H.fx, H.ne, (hbut.keep _ H6.slt (by simpa using H.ne)).trans H6.s, ?_, by rw [List.length_set]; exact H.len, H.sb0, H.fb0⟩, hp.2.1.trans (hbut.below (Nat.le_trans hbase hp.2.1.size) (by simpa using H.fb0)), fun b hb hne hlt => ?_⟩
  · have hlt := H6.flt
    have e : w6.heap[fb] = .cells (d.map (Value.int .i64)).toArray 2 (0, 0) := by
      have := H6.f
      rw [Array.getElem?_eq_getElem hlt] at this; exact Option.some.inj this
    simp [World.setCell, hlt, Array.getElem_modify, e]
  · rw [hbut.keep b (Nat.lt_of_lt_of_le hlt hp.2.1.size) (by simpa using hne)]
    exact hp.2.2 b hb hlt
theorem better_low (H : SQ w base h X sb fb ob n d S) {i : Nat} {u far : Int} (hu : d[i]? = some u) (hle : u ≤ far) :
    Calls Try.prog 112 #[.pointer (some ⟨sb, 0, none⟩), .int .i64 i, .int .i64 far] w fun e w' => e = .returned (.tuple #[]) ∧ w = w' := by
  have c1 := H.c1
  have cu := H.at_ hu
  have hi := H.lt hu
  have hi2 : (i : Int) < (n : Int) := by omega
  have hd : decide (u ≤ far) = true := decide_eq_true hle
  clear H hu
  go_enter Try.func112, Try.ntmps112
  go_wp2_with fail
  go_returns
  exact ⟨rfl, rfl⟩
theorem better_new (H : SQ w base h X sb fb ob n d S) {i : Nat} {far : Int} (hu : d[i]? = some 4611686018427387904) (hlt : far < 4611686018427387904) (hS : ∀ y ∈ S, y.2 ≠ (i : Int)) (hlen : S.length + 1 ≤ n) (hn : n ≤ 256) (hbase : base ≤ w.heap.size) (hXl : ∀ b ∈ X, b < w.heap.size) :
    Calls Try.prog 112 #[.pointer (some ⟨sb, 0, none⟩), .int .i64 i, .int .i64 far] w fun e w' => e = .returned (.tuple #[]) ∧ SPost w w' base h X sb fb ob n (d.set i far) ((far, (i : Int)) :: S) := by
  have c1 := H.c1
  have c2 := H.c2
  have cu := H.at_ hu
  have hi := H.lt hu
  have hi2 : (i : Int) < (n : Int) := by omega
  have hd : decide ((4611686018427387904 : Int) ≤ far) = false := decide_eq_false (by omega)
  have hP := Lib.hid (Push_new (kx := far) (ix := (i : Int)) H.q (WalkArith.wf_i64 (by omega)) hS hbase hXl (by omega))
  have hfin : Hid (∀ w6 : World, HPost w w6 base h X ((far, (i : Int)) :: S) → (w6.cell? ⟨sb, 1, none⟩ = some (.slice (some ⟨fb, 0, none⟩) n n) ∧ w6.cell? ⟨fb, i, none⟩ = some (.int .i64 4611686018427387904) ∧ w6.frozen? ⟨fb, i, none⟩ = false) ∧
      SPost w (w6.setCell ⟨fb, i, none⟩ (.int .i64 far)) base h X sb fb ob n (d.set i far) ((far, (i : Int)) :: S)) := fun w6 hp =>
    ⟨⟨(H.turn hp).c1, (H.turn hp).at_ hu, by simp [World.frozen?, (H.turn hp).f]⟩, H.put hp hu hbase⟩
  clear H hu hS hXl
  go_enter Try.func112, Try.ntmps112
  go_wp2_with (refine hP.out.mono ?_; rintro e w6 ⟨rfl, hp⟩; obtain ⟨⟨q1, q2, q3⟩, hpost⟩ := hfin.out w6 hp)
  go_returns
  exact ⟨rfl, hpost⟩
theorem better_lower (H : SQ w base h X sb fb ob n d S) {i : Nat} {u far : Int} {S0 : List It} (hu : d[i]? = some u) (hne : u ≠ 4611686018427387904) (hlt : far < u) (hS : S.Perm ((u, (i : Int)) :: S0)) (hn : n ≤ 256) (hbase : base ≤ w.heap.size) (hXl : ∀ b ∈ X, b < w.heap.size) :
    Calls Try.prog 112 #[.pointer (some ⟨sb, 0, none⟩), .int .i64 i, .int .i64 far] w fun e w' => e = .returned (.tuple #[]) ∧ SPost w w' base h X sb fb ob n (d.set i far) ((far, (i : Int)) :: S0) := by
  have c1 := H.c1
  have c4 := H.c4
  have cu := H.at_ hu
  have hi := H.lt hu
  have hi2 : (i : Int) < (n : Int) := by omega
  have hd : decide (u ≤ far) = false := decide_eq_false (by omega)
  have hq : (u == 4611686018427387904) = false := by simpa using hne
  have hP := Lib.hid (Lower_any (id := (i : Int)) (key := far) (old := u) H.q (WalkArith.wf_i64 (by omega)) hS hlt hbase hXl)
  have hfin : Hid (∀ w6 : World, HPost w w6 base h X ((far, (i : Int)) :: S0) → (w6.cell? ⟨sb, 1, none⟩ = some (.slice (some ⟨fb, 0, none⟩) n n) ∧ w6.cell? ⟨fb, i, none⟩ = some (.int .i64 u) ∧ w6.frozen? ⟨fb, i, none⟩ = false) ∧
      SPost w (w6.setCell ⟨fb, i, none⟩ (.int .i64 far)) base h X sb fb ob n (d.set i far) ((far, (i : Int)) :: S0)) := fun w6 hp =>
    ⟨⟨(H.turn hp).c1, (H.turn hp).at_ hu, by simp [World.frozen?, (H.turn hp).f]⟩, H.put hp hu hbase⟩
  clear H hu hS hXl hne
  go_enter Try.func112, Try.ntmps112
  go_wp2_with (refine hP.out.mono ?_; rintro e w6 ⟨rfl, hp⟩; obtain ⟨⟨q1, q2, q3⟩, hpost⟩ := hfin.out w6 hp)
  go_returns
  exact ⟨rfl, hpost⟩
end
end Go.Proofs.Ytonkkibnigdfbaa
namespace Go.Proofs.Ytonkkibnigdfbaa
open Go.RowKit Go.Shelf B K
set_option linter.unusedVariables false
set_option linter.unusedSimpArgs false
section
variable {w w' : World} {base h sb fb ob n s c a b xb : Nat} {X : List Nat} {d : List Int} {S : List It} {l pend : List Ed} {m : Int} {e : Ed}
theorem SPost.refl (H : SQ w base h X sb fb ob n d S) : SPost w w base h X sb fb ob n d S := ⟨H, Below.refl _ _, fun _ _ _ _ => rfl⟩
theorem relax_any (H : SQ w base h X sb fb ob n d S) (hD : Dij n l s c d S m (e :: pend)) (he : e ∈ l) (hl : EdsOk n l) (ea : e.1 = (a : Int)) (eb : e.2.1 = (b : Int)) (hda : d[a]? = some m) (haS : (m, (a : Int)) ∉ S) (htop : m + e.2.2 ≤ 1099511627776)
    (hn : n ≤ 256) (hbase : base ≤ w.heap.size) (hXl : ∀ b ∈ X, b < w.heap.size) :
    Calls Try.prog 112 #[.pointer (some ⟨sb, 0, none⟩), .int .i64 b, .int .i64 (m + e.2.2)] w fun ee w' => ee = .returned (.tuple #[]) ∧ ∃ d' S', SPost w w' base h X sb fb ob n d' S' ∧ Dij n l s c d' S' m pend ∧ d'[a]? = some m ∧ (m, (a : Int)) ∉ S' := by
  obtain ⟨_, _, hb0, hbn, hab, hl1, _⟩ := hl e he
  have hbn : b < n := by omega
  have hab : a ≠ b := by omega
  obtain ⟨u, hu⟩ : ∃ u, d[b]? = some u := ⟨d[b]'(by rw [hD.len]; exact hbn), List.getElem?_eq_getElem _⟩
  have hset : (d.set b (m + e.2.2))[a]? = some m := by rw [List.getElem?_set, if_neg (fun h => hab h.symm)]; exact hda
  by_cases hlt : m + e.2.2 < u
  · rcases hD.where hl1 hu hlt with ⟨rfl, hno, hcn⟩ | ⟨hne, S0, hp, hno⟩
    · refine (better_new H hu hlt hno hcn hn hbase hXl).mono ?_
      rintro ee w' ⟨rfl, hpost⟩
      refine ⟨rfl, _, _, hpost, hD.nearer (S0 := S) he ea eb hl1 hda haS hu hlt htop (fun y => ⟨fun hy => ⟨hy, hno y hy⟩, fun hy => hy.1⟩) hD.nd (by simp), hset, fun hx => ?_⟩
      rcases List.mem_cons.1 hx with hx | hx
      · have := congrArg Prod.snd hx
        simp only at this
        omega
      · exact haS hx
    · refine (better_lower H hu hne hlt hp hn hbase hXl).mono ?_
      rintro ee w' ⟨rfl, hpost⟩
      have hnd := (hp.map Prod.snd).nodup_iff.1 hD.nd
      rw [List.map_cons, List.nodup_cons] at hnd
      refine ⟨rfl, _, _, hpost, hD.nearer (S0 := S0) he ea eb hl1 hda haS hu hlt htop (fun y => ⟨fun hy => ⟨hp.mem_iff.2 (List.mem_cons_of_mem _ hy), hno y hy⟩, fun hy => ?_⟩) hnd.2 ?_, hset, fun hx => ?_⟩
      · rcases List.mem_cons.1 (hp.mem_iff.1 hy.1) with rfl | h1
        · exact absurd rfl hy.2
        · exact h1
      · rw [if_neg hne, hp.length_eq]; simp
      · rcases List.mem_cons.1 hx with hx | hx
        · have := congrArg Prod.snd hx
          simp only at this
          omega
        · exact haS (hp.mem_iff.2 (List.mem_cons_of_mem _ hx))
  · refine (better_low H hu (by omega)).mono ?_
    rintro ee w' ⟨rfl, rfl⟩
    exact ⟨rfl, d, S, SPost.refl H, hD.skip ea eb hda (.inr ⟨u, hu, by omega⟩), hda, haS⟩
theorem byStop_mem {l : List Ed} {i : Nat} {e : Ed} (h : e ∈ byStop l i) : e ∈ l ∧ e.1 = (i : Int) := by
  unfold byStop at h
  rw [List.mem_filter] at h
  exact ⟨h.1, by simpa using h.2⟩
/-- two cells of a box are written -/
theorem box2_set {t : TypeId} {v0 v1 u0 u1 : Value} (hk : w.heap[xb]? = some (.cells #[v0, v1] t (0, 0))) :
    w.frozen? ⟨xb, 0, none⟩ = false ∧ w.frozen? ⟨xb, 1, none⟩ = false ∧ w.cell? ⟨xb, 0, none⟩ = some v0 ∧ w.cell? ⟨xb, 1, none⟩ = some v1 ∧ But w ((w.setCell ⟨xb, 0, none⟩ u0).setCell ⟨xb, 1, none⟩ u1) [xb] ∧
    ((w.setCell ⟨xb, 0, none⟩ u0).setCell ⟨xb, 1, none⟩ u1).heap[xb]? = some (.cells #[u0, u1] t (0, 0)) := by
  have hlt := (Array.getElem?_eq_some_iff.1 hk).1
  have e : w.heap[xb] = .cells #[v0, v1] t (0, 0) := by rw [Array.getElem?_eq_getElem hlt] at hk; exact Option.some.inj hk
  refine ⟨by simp [World.frozen?, hk], by simp [World.frozen?, hk], by rw [cell_of_row _ _ _ _ _ _ hk]; rfl, by rw [cell_of_row _ _ _ _ _ _ hk]; rfl, (But.of_set _ _ _ (by simp)).trans (But.of_set _ _ _ (by simp)), ?_⟩
  simp [World.setCell, hlt, Array.getElem_modify, e]
/-- what holds at the head of the search's loop -/
def FromInv (w : World) (h sb fb ob n : Nat) (l : List Ed) (s : Nat) (c : Nat) (p b : Value) (wr : World) : Prop :=
  ∃ (xb : Nat) (d : List Int), p = .pointer (some ⟨xb, 0, none⟩) ∧ w.heap.size ≤ xb ∧ Below w.heap.size w wr ∧ xb ≠ sb ∧ xb ≠ fb ∧
  ((b = .bool true ∧ ∃ (m : Int) (a : Nat) (S : List It) (c0 : Nat), c = c0 + 1 ∧ wr.heap[xb]? = some (.cells #[.int .i64 m, .int .i64 a] 120 (0, 0)) ∧ SQ wr w.heap.size h [xb, sb, fb] sb fb ob n d S ∧ Dij n l s c0 d S m (byStop l a) ∧ d[a]? = some m ∧ (m, (a : Int)) ∉ S ∧ a < n) ∨
   (b = .bool false ∧ SQ wr w.heap.size h [xb, sb, fb] sb fb ob n d [] ∧ IsDist n l s d))
end
end Go.Proofs.Ytonkkibnigdfbaa
namespace Go.Proofs.Ytonkkibnigdfbaa
open Go.RowKit Go.Shelf B K
set_option linter.unusedVariables false
set_option linter.unusedSimpArgs false
set_option maxHeartbeats 2000000
theorem map_replicate_int (n : Nat) (v : Int) : (List.replicate n v).map (Value.int .i64) = List.replicate n (.int .i64 v) := List.map_replicate
/-- a block that came later, behind a later world -/
theorem HQ.moreX {w w' : World} {base h : Nat} {l : List It} {f : Nat} (H : HQ w base h [] l) (hb : Below w.heap.size w w') (hf : w.heap.size ≤ f) : HQ w' base h [f] l := (H.more (Y := [f]) (by simpa using hf)).below hb
set_option maxRecDepth 100000 in
theorem from_any (n s ob : Nat) (l : List Ed) (w : World) (hO : OutR w ob n (byStop l)) (hs : s < n) (hn : n ≤ 256) (hl : EdsOk n l) (hll : l.length ≤ 4096) :
    Calls Try.prog 92 #[.slice (some ⟨ob, 0, none⟩) n n, .int .i64 s] w fun e w' => ∃ fb d, e = .returned (.slice (some ⟨fb, 0, none⟩) n n) ∧ IsDist n l s d ∧ w.heap.size ≤ fb ∧ w'.heap[fb]? = some (.cells (d.map (Value.int .i64)).toArray 2 (0, 0)) ∧ Below w.heap.size w w' := by
  go_enter Try.func92, Try.ntmps92
  go_wp2_with fail
  refine (New_any (base := w.heap.size) [] (by simp) (Nat.le_refl _)).mono ?_; rintro e w1 ⟨h, rfl, hh, H1, hb1⟩
  have ha1 : Below w1.heap.size w1 (w1.alloc (.cells #[.int .i64 4611686018427387904] 2)) := (Below.refl _ w1).alloc (Nat.le_refl _) _
  have hn1 := heap_alloc_new w1 (.cells #[.int .i64 4611686018427387904] 2)
  have hR := Lib.hid (rep_any 4611686018427387904 n w1.heap.size (w1.alloc (.cells #[.int .i64 4611686018427387904] 2)) (by omega) hn (by simp) (by rw [cell_of_row _ _ _ _ _ _ hn1]; rfl))
  have H2 := H1.below ha1
  have hb2 := hb1.trans (ha1.mono hb1.size)
  clear H1 hb1 ha1 hn1
  go_wp2_with fail
  refine hR.out.mono ?_; rintro e w3 ⟨fb, rfl, hfb, hf, hb3⟩
  have H3 := H2.below hb3
  have hb4 := hb2.trans (hb3.mono hb2.size)
  have hfb2 := Nat.le_trans hb2.size hfb
  have ha3 : Below w3.heap.size w3 (w3.alloc (.cells #[.slice (some ⟨ob, 0, none⟩) n n, .slice (some ⟨fb, 0, none⟩) n n, .func (.func 83) #[.pointer (some ⟨h, 0, none⟩)] #[], .func (.func 84) #[.pointer (some ⟨h, 0, none⟩)] #[], .func (.func 85) #[.pointer (some ⟨h, 0, none⟩)] #[]] 162)) := (Below.refl _ w3).alloc (Nat.le_refl _) _
  have hn3 := heap_alloc_new w3 (.cells #[.slice (some ⟨ob, 0, none⟩) n n, .slice (some ⟨fb, 0, none⟩) n n, .func (.func 83) #[.pointer (some ⟨h, 0, none⟩)] #[], .func (.func 84) #[.pointer (some ⟨h, 0, none⟩)] #[], .func (.func 85) #[.pointer (some ⟨h, 0, none⟩)] #[]] 162)
  have hfl := (Array.getElem?_eq_some_iff.1 hf).1
  have H4 : SQ (w3.alloc (.cells #[.slice (some ⟨ob, 0, none⟩) n n, .slice (some ⟨fb, 0, none⟩) n n, .func (.func 83) #[.pointer (some ⟨h, 0, none⟩)] #[], .func (.func 84) #[.pointer (some ⟨h, 0, none⟩)] #[], .func (.func 85) #[.pointer (some ⟨h, 0, none⟩)] #[]] 162)) w.heap.size h [w3.heap.size, fb] w3.heap.size fb ob n (List.replicate n 4611686018427387904) [] := by
    refine ⟨((H2.moreX hb3 hfb).more (Y := [w3.heap.size, fb]) (by simp)).below ha3, by simp, by simp, by omega, hn3, ?_, by simp, hb4.size, hfb2⟩
    rw [map_replicate_int]
    exact (ha3.block _ hfl).trans hf
  have hb5 := hb4.trans (ha3.mono hb4.size)
  have hsl : w3.heap.size < (w3.alloc (.cells #[.slice (some ⟨ob, 0, none⟩) n n, .slice (some ⟨fb, 0, none⟩) n n, .func (.func 83) #[.pointer (some ⟨h, 0, none⟩)] #[], .func (.func 84) #[.pointer (some ⟨h, 0, none⟩)] #[], .func (.func 85) #[.pointer (some ⟨h, 0, none⟩)] #[]] 162)).heap.size := by simp
  obtain ⟨W4, hW4⟩ : ∃ q, w3.alloc (.cells #[.slice (some ⟨ob, 0, none⟩) n n, .slice (some ⟨fb, 0, none⟩) n n, .func (.func 83) #[.pointer (some ⟨h, 0, none⟩)] #[], .func (.func 84) #[.pointer (some ⟨h, 0, none⟩)] #[], .func (.func 85) #[.pointer (some ⟨h, 0, none⟩)] #[]] 162) = q := ⟨_, rfl⟩
  obtain ⟨sb, hsb⟩ : ∃ q, w3.heap.size = q := ⟨_, rfl⟩
  rw [hW4, hsb] at H4 hsl
  rw [hW4] at hb5
  clear H2 hb2 hb3 hR H3 hn3 ha3 hf hb4
  have hB := Lib.hid (better_new (i := s) (far := 0) H4 (by rw [List.getElem?_replicate, if_pos hs]) (by decide) (by simp) (by simp; omega) hn hb5.size (by simp; have := H4.flt; omega))
  have hDs : Dij n l s n ((List.replicate n 4611686018427387904).set s 0) [(0, (s : Int))] 0 [] := Dij.start hs
  clear H4 hfl
  go_wp2_with fail
  refine hB.out.mono ?_; rintro e w5 ⟨rfl, H5, hb6, hX6⟩
  have hbb5 := hb5.trans hb6
  clear hB hb6 hX6 hW4 hsb
  obtain ⟨d, hd⟩ : ∃ q, (List.replicate n (4611686018427387904 : Int)).set s 0 = q := ⟨_, rfl⟩
  rw [hd] at H5 hDs
  clear hd hb5 hsl hfb
  have c3 := H5.c3
  have hP := Lib.hid (Pop_min H5.q (x := (0, (s : Int))) (l0 := []) (List.Perm.refl _) (by simp) hbb5.size (by simp; exact ⟨H5.slt, H5.flt⟩))
  go_wp2_with fail
  refine hP.out.mono ?_; rintro e w6 ⟨rfl, hp6⟩
  have H6 := H5.turn hp6
  have hbb6 := hbb5.trans hp6.2.1
  obtain ⟨a, ha, han, hda, haS, hc1, hD⟩ := hDs.out (by simp)
  clear hP hp6 H5 c3 hbb5 hDs
  obtain rfl : s = a := by have := ha; simp only at this; omega
  clear ha
  have ha6 : Below w6.heap.size w6 (w6.alloc (.cells #[.int .i64 0, .int .i64 s] 120)) := (Below.refl _ w6).alloc (Nat.le_refl _) _
  have hk6 := heap_alloc_new w6 (.cells #[.int .i64 0, .int .i64 s] 120)
  have hs6 := H6.slt
  have hf6 := H6.flt
  have hinv0 : FromInv w h sb fb ob n l s n (.pointer (some ⟨w6.heap.size, 0, none⟩)) (.bool true) (w6.alloc (.cells #[.int .i64 0, .int .i64 s] 120)) :=
    ⟨w6.heap.size, d, rfl, hbb6.size, hbb6.trans (ha6.mono hbb6.size), by omega, by omega, .inl ⟨rfl, 0, s, [], n - 1, by omega, hk6, (H6.more (Y := [w6.heap.size, sb, fb]) (by simp) (by simp)).below ha6, hD, hda, haS, hs⟩⟩
  clear ha6 hk6 hs6 hf6 H6 hbb6 hD hda haS hc1
  have hinv1 := Lib.hid hinv0
  clear hinv0
  go_wp2_with fail
  go_loopg [7, 8] n (fun k p b wr => FromInv w h sb fb ob n l s k p b wr)
  case atStart => exact hinv1.out
  case round =>
    clear hinv1
    obtain ⟨xb, d, rfl, hxb, hbb, hx1, hx2, ⟨rfl, m, a1, S, c0, rfl, hxk, H, hD, hda, haS, han1⟩ | ⟨rfl, H, hI⟩⟩ := hrel
    · obtain ⟨A1, cA, hcA0, hrA⟩ := hO.2 a1 han1
      have hcA := (hbb.cell (p := ⟨ob, a1, none⟩) hO.1).trans hcA0
      have hob := (hO.below hbb).1
      clear hcA0
      obtain ⟨r, hr⟩ : ∃ r, (byStop l a1).length = r := ⟨_, rfl⟩
      have hr4 : r ≤ 4096 := by rw [← hr]; exact Nat.le_trans (byStop_len _ _) hll
      rw [hr] at hcA hrA
      have hk0 : wr.cell? ⟨xb, 0, none⟩ = some (.int .i64 m) := by rw [cell_of_row _ _ _ _ _ _ hxk]; rfl
      have hk1 : wr.cell? ⟨xb, 1, none⟩ = some (.int .i64 a1) := by rw [cell_of_row _ _ _ _ _ _ hxk]; rfl
      have hs0 := H.c0
      have hsl := H.slt
      have hxl := (Array.getElem?_eq_some_iff.1 hxk).1
      have han2 : (a1 : Int) < (n : Int) := by omega
      have AS := Lib.hid (show SQ wr w.heap.size h [xb, sb, fb] sb fb ob n d S ∧ Dij n l s c0 d S m ((byStop l a1).drop 0) ∧ d[a1]? = some m ∧ (m, (a1 : Int)) ∉ S ∧ wr.heap[xb]? = some (.cells #[.int .i64 m, .int .i64 a1] 120 (0, 0)) ∧ Below w.heap.size w wr from ⟨H, hD, hda, haS, hxk, hbb⟩)
      clear H hD hda haS hbb hxk
      go_upto_region 7 with fail
      refine wp_region_below wr.heap.size (by kernel_rfl) (by kernel_rfl) ?_
      intro C hC
      repeat (go_big_quiet_step (first
        | ((intro _; with_reducible rfl))
        | (intro hc; have m0 := (hc.cell (p := ⟨xb, _, none⟩) hxl).trans hk1; have m1 := (hc.cell (p := ⟨sb, _, none⟩) hsl).trans hs0; have m2 := (hc.cell (p := ⟨ob, _, none⟩) hob).trans hcA; simp only [m0, m1, m2, Result.andThen]; exact ⟨trivial, rfl⟩)))
      refine wpQuiet_nil ?_
      intro w4 hb4
      clear hC
      go_wp2_with fail
      have AS2 : Hid (SQ w4 w.heap.size h [xb, sb, fb] sb fb ob n d S ∧ Dij n l s c0 d S m ((byStop l a1).drop 0) ∧ d[a1]? = some m ∧ (m, (a1 : Int)) ∉ S ∧ w4.heap[xb]? = some (.cells #[.int .i64 m, .int .i64 a1] 120 (0, 0)) ∧ Below w.heap.size w w4) := by
        obtain ⟨q1, q2, q3, q4, q5, q6⟩ := AS.out
        exact ⟨q1.below hb4, q2, q3, q4, (hb4.block _ hxl).trans q5, q6.trans (hb4.mono q6.size)⟩
      clear AS hb4 hcA hob hk0 hk1 hs0 hsl hxl
      go_loopw [56] (fun i wq => ∃ (k : Nat) (d : List Int) (S : List It), k ≤ r ∧ i = .int .i64 k ∧ Hid (SQ wq w.heap.size h [xb, sb, fb] sb fb ob n d S ∧ Dij n l s c0 d S m ((byStop l a1).drop k) ∧ d[a1]? = some m ∧ (m, (a1 : Int)) ∉ S ∧ wq.heap[xb]? = some (.cells #[.int .i64 m, .int .i64 a1] 120 (0, 0)) ∧ Below w.heap.size w wq)) (fun i _ => r - (intOf i).toNat)
      case atStart => exact ⟨0, d, S, Nat.zero_le _, rfl, AS2⟩
      case round =>
        clear AS2 d S
        obtain ⟨k, d, S, hk, rfl, hA⟩ := hrel
        obtain ⟨q1, q2, q3, q4, q5, q6⟩ := hA.out
        clear hA
        by_cases hlt : k < r
        · obtain ⟨b, o, x1, x2, x3, rfl, hbs, hx, h1, h2, h3⟩ := (hrA.below q6).trip hlt
          obtain ⟨hmem, hx1e⟩ := byStop_mem (List.mem_of_getElem? hx)
          obtain ⟨_, _, hb0, hbn, hab, hl1, hl2⟩ := hl _ hmem
          simp only at hb0 hbn hab hl1 hl2 hx1e
          obtain ⟨b2, rfl⟩ : ∃ b2 : Nat, x2 = b2 := ⟨x2.toNat, by omega⟩
          subst hx1e
          have q2' := q2
          rw [drop_at hx] at q2'
          have hm0 := q2.m0
          have hk0 : wr.cell? ⟨xb, 0, none⟩ = some (.int .i64 m) := by rw [cell_of_row _ _ _ _ _ _ q5]; rfl
          have hxl := (Array.getElem?_eq_some_iff.1 q5).1
          have ha := (Below.refl _ wr).alloc (Nat.le_refl wr.heap.size) (.cells #[.int .i64 a1, .int .i64 b2, .int .i64 x3] 85)
          have bx := Bx3.new wr 85 a1 b2 x3
          have hc0 := (ha.cell (p := ⟨xb, 0, none⟩) hxl).trans hk0
          have hxk2 := (ha.block _ hxl).trans q5
          have q1' := q1.below ha
          have q6' := q6.trans (ha.mono q6.size)
          obtain ⟨W2, hW2⟩ : ∃ q, wr.alloc (.cells #[.int .i64 a1, .int .i64 b2, .int .i64 x3] 85) = q := ⟨_, rfl⟩
          obtain ⟨eb, heb⟩ : ∃ q, wr.heap.size = q := ⟨_, rfl⟩
          have hbe := Lib.hid hbs
          rw [hW2] at bx hc0 q1' q6' ha hxk2
          rw [heb] at bx hbs
          have bc1 := bx.c1
          have bc2 := bx.c2
          have hadd := Lib.hid (addT_any (a := m) (b := x3) hm0 ⟨by omega, hl2⟩ W2)
          have hrl := hrA.len
          by_cases htop : m + x3 ≤ 1099511627776
          · have hB := Lib.hid (relax_any q1' q2' hmem hl rfl rfl q3 q4 htop hn q6'.size (by have := q1'.slt; have := q1'.flt; have := (Array.getElem?_eq_some_iff.1 hxk2).1; simp; omega))
            have hfin : Hid (∀ w9, (∃ d' S', SPost W2 w9 w.heap.size h [xb, sb, fb] sb fb ob n d' S' ∧ Dij n l s c0 d' S' m ((byStop l a1).drop (k + 1)) ∧ d'[a1]? = some m ∧ (m, (a1 : Int)) ∉ S') → ∃ d' S', SQ w9 w.heap.size h [xb, sb, fb] sb fb ob n d' S' ∧ Dij n l s c0 d' S' m ((byStop l a1).drop (k + 1)) ∧ d'[a1]? = some m ∧ (m, (a1 : Int)) ∉ S' ∧ w9.heap[xb]? = some (.cells #[.int .i64 m, .int .i64 a1] 120 (0, 0)) ∧ Below w.heap.size w w9) := by
              rintro w9 ⟨d', S', p1, p2, p3, p4⟩
              exact ⟨d', S', p1.1, p2, p3, p4, (p1.2.2 xb (by simp) hx2 (Array.getElem?_eq_some_iff.1 hxk2).1).trans hxk2, q6'.trans p1.2.1⟩
            rw [if_pos htop, if_pos htop] at hadd
            clear q1 q2 q3 q4 q5 q6 q1' q2' q6' hx hmem ha bx hk0 hxl hxk2 htop hb0 hbn hab hl1 hl2 hm0
            go_wp2_with (first | (go_at_call 113; refine hadd.out.mono ?_; rintro e w8 ⟨rfl, rfl⟩) | (go_at_call 112; refine hB.out.mono ?_; rintro e w9 ⟨rfl, hpost⟩; have hpo := Lib.hid (hfin.out _ hpost); clear hpost))
            go_roundw
            case rel =>
              obtain ⟨d', S', p1, p2, p3, p4, p5, p6⟩ := hpo.out
              exact ⟨k + 1, d', S', by omega, by go_num, p1, p2, p3, p4, p5, p6⟩
            case measure => simp [intOf]; omega
          · have hfin : Hid (SQ W2 w.heap.size h [xb, sb, fb] sb fb ob n d S ∧ Dij n l s c0 d S m ((byStop l a1).drop (k + 1)) ∧ d[a1]? = some m ∧ (m, (a1 : Int)) ∉ S ∧ W2.heap[xb]? = some (.cells #[.int .i64 m, .int .i64 a1] 120 (0, 0)) ∧ Below w.heap.size w W2) :=
              ⟨q1', q2'.skip rfl rfl q3 (.inl (by show 1099511627776 < m + x3; omega)), q3, q4, hxk2, q6'⟩
            rw [if_neg htop, if_neg htop] at hadd
            clear q1 q2 q3 q4 q5 q6 q1' q2' q6' hx hmem ha bx hk0 hxl hxk2 htop hb0 hbn hab hl1 hl2 hm0
            go_wp2_with (go_at_call 113; refine hadd.out.mono ?_; rintro e w8 ⟨rfl, rfl⟩)
            go_roundw
            case rel => exact ⟨k + 1, d, S, by omega, by go_num, hfin⟩
            case measure => simp [intOf]; omega
        · obtain rfl : k = r := by omega
          rw [List.drop_eq_nil_of_le (by omega)] at q2
          have hxl := (Array.getElem?_eq_some_iff.1 q5).1
          have hk0 : wr.cell? ⟨xb, 0, none⟩ = some (.int .i64 m) := by rw [cell_of_row _ _ _ _ _ _ q5]; rfl
          have hk1 : wr.cell? ⟨xb, 1, none⟩ = some (.int .i64 a1) := by rw [cell_of_row _ _ _ _ _ _ q5]; rfl
          have ha := (Below.refl _ wr).alloc (Nat.le_refl wr.heap.size) (.cells #[.int .i64 m, .int .i64 a1] 120)
          have hnk := heap_alloc_new wr (.cells #[.int .i64 m, .int .i64 a1] 120)
          have q1' := ((q1.less (Y := [sb, fb]) (by simp) (by simp) (by simp)).more (Y := [wr.heap.size, sb, fb]) (by simp) (by simp)).below ha
          have hn1 : wr.heap.size ≠ sb := by have := q1.slt; omega
          have hn2 : wr.heap.size ≠ fb := by have := q1.flt; omega
          have hbx := q6.size
          have q6' := q6.trans (ha.mono q6.size)
          have hyl : wr.heap.size < (wr.alloc (.cells #[.int .i64 m, .int .i64 a1] 120)).heap.size := by simp
          obtain ⟨W2, hW2⟩ : ∃ q, wr.alloc (.cells #[.int .i64 m, .int .i64 a1] 120) = q := ⟨_, rfl⟩
          obtain ⟨yb, hyb⟩ : ∃ q, wr.heap.size = q := ⟨_, rfl⟩
          rw [hW2] at q1' q6' hnk hyl
          rw [hyb] at q1' hnk hn1 hn2 hbx hyl
          have c3 := q1'.c3
          have hlts : ∀ b ∈ [yb, sb, fb], b < W2.heap.size := by have := q1'.slt; have := q1'.flt; simp; omega
          clear q1 q6 q5 q4 q3 ha hxl
          cases S with
          | nil =>
            have hP := Lib.hid (Pop_zero (w := W2) (p := .pointer (some ⟨h, 0, none⟩)) fun W hW => Len_any (q1'.q.below hW))
            have hfin : Hid (∀ w7 : World, Below W2.heap.size W2 w7 → (w7.frozen? ⟨yb, 0, none⟩ = false ∧ w7.frozen? ⟨yb, 1, none⟩ = false ∧ w7.cell? ⟨yb, 0, none⟩ = some (.int .i64 m) ∧ w7.cell? ⟨yb, 1, none⟩ = some (.int .i64 a1)) ∧
                FromInv w h sb fb ob n l s 0 (.pointer (some ⟨yb, 0, none⟩)) (.bool false) ((w7.setCell ⟨yb, 0, none⟩ (.int .i64 0)).setCell ⟨yb, 1, none⟩ (.int .i64 0))) := fun w7 hb7 => by
              obtain ⟨f0, f1, g0, g1, hbut, hnew⟩ := box2_set (u0 := .int .i64 0) (u1 := .int .i64 0) ((hb7.block _ hyl).trans hnk)
              have hb7' := q6'.trans (hb7.mono q6'.size)
              exact ⟨⟨f0, f1, g0, g1⟩, yb, d, rfl, hbx, hb7'.trans (hbut.below hb7'.size (by simpa using hbx)), hn1, hn2, .inr ⟨rfl, (q1'.below hb7).but hbut (by simpa using ⟨hn1, hn2⟩), q2.fin hl⟩⟩
            clear q1' q2 q6' hnk hlts hyl
            go_wp2_with (refine hP.out.mono ?_; rintro e w7 ⟨rfl, hb7⟩; obtain ⟨⟨f0, f1, g0, g1⟩, hinv⟩ := hfin.out w7 hb7; have hinv := Lib.hid hinv; clear hb7)
            go_roundg 0
            case measure => omega
            case rel => exact hinv.out
          | cons y0 S0 =>
            have hP := Lib.hid (Pop_any q1'.q (by simp) q6'.size hlts)
            have hfin : Hid (∀ (w7 : World) (x : It) (l0 : List It), (y0 :: S0).Perm (x :: l0) → (∀ y ∈ l0, ltI y x = false) → HPost W2 w7 w.heap.size h [yb, sb, fb] l0 → (w7.frozen? ⟨yb, 0, none⟩ = false ∧ w7.frozen? ⟨yb, 1, none⟩ = false ∧ w7.cell? ⟨yb, 0, none⟩ = some (.int .i64 m) ∧ w7.cell? ⟨yb, 1, none⟩ = some (.int .i64 a1)) ∧
                FromInv w h sb fb ob n l s c0 (.pointer (some ⟨yb, 0, none⟩)) (.bool true) ((w7.setCell ⟨yb, 0, none⟩ (.int .i64 x.1)).setCell ⟨yb, 1, none⟩ (.int .i64 x.2))) := fun w7 x l0 hp hmin hp7 => by
              obtain ⟨f0, f1, g0, g1, hbut, hnew⟩ := box2_set (u0 := .int .i64 x.1) (u1 := .int .i64 x.2) ((hp7.2.2 _ (by simp) hyl).trans hnk)
              have hb7' := q6'.trans hp7.2.1
              obtain ⟨a, ha, han, hda, haS, hc1, hD⟩ := (q2.perm hp).out hmin
              rw [ha] at hnew hbut ⊢
              exact ⟨⟨f0, f1, g0, g1⟩, yb, d, rfl, hbx, hb7'.trans (hbut.below hb7'.size (by simpa using hbx)), hn1, hn2, .inl ⟨rfl, x.1, a, l0, c0 - 1, by omega, hnew, (q1'.turn hp7).but hbut (by simpa using ⟨hn1, hn2⟩), hD, hda, haS, han⟩⟩
            clear q1' q2 q6' hnk hlts hyl
            go_wp2_with (refine hP.out.mono ?_; rintro e w7 ⟨x, l0, hp0, hmin, rfl, hp7⟩; obtain ⟨⟨f0, f1, g0, g1⟩, hinv⟩ := hfin.out w7 x l0 hp0 hmin hp7; have hinv := Lib.hid hinv; clear hp7 hp0 hmin)
            go_roundg c0
            case measure => omega
            case rel => exact hinv.out
    · have hs1 := H.c1
      have hff := H.f
      have hfl := H.fb0
      clear H
      go_wp2_with fail
      go_returns
      exact ⟨fb, d, rfl, hI, hfl, hff, hbb⟩
end Go.Proofs.Ytonkkibnigdfbaa
namespace Go.Proofs.Ytonkkibnigdfbaa
open Go.RowKit Go.Shelf B K
set_option linter.unusedVariables false
set_option linter.unusedSimpArgs false
set_option maxHeartbeats 1000000
theorem rd_ints {w : World} {fb n : Nat} {d : List Int} (h : w.heap[fb]? = some (.cells (d.map (Value.int .i64)).toArray 2 (0, 0))) (hl : d.length = n) : Rd w 1 (numE .i64) (some ⟨fb, 0, none⟩) n d :=
  ⟨hl, fun _ => ⟨fb, 0, rfl, (Array.getElem?_eq_some_iff.1 h).1, fun i x hx j u hu => by
    have hj : j = 0 := by
      have := (List.getElem?_eq_some_iff.1 hu).1
      simp [numE] at this; exact this
    subst hj
    simp [numE] at hu
    subst hu
    rw [cell_of_row _ _ _ _ _ _ h]
    simp [hx]⟩⟩
theorem chk_pos {n : Int} {l : List Ed} : (chkE n l == 0) = decide (chkE n l = 0) := by
  by_cases h : chkE n l = 0 <;> simp [h]
section
variable {A : Option Addr} {m c : Nat} {l : List Ed} {w : World}
end
end Go.Proofs.Ytonkkibnigdfbaa
namespace Go.Proofs.Ytonkkibnigdfbaa
open Go.RowKit Go.Shelf B K
set_option linter.unusedVariables false
set_option linter.unusedSimpArgs false
set_option maxHeartbeats 1000000
def rowE (n : Nat) (fb : Nat) : List Value := [.slice (some ⟨fb, 0, none⟩) n n]
theorem rowE_len (n fb : Nat) : (rowE n fb).length = 1 := rfl
theorem rowE_one (n fb : Nat) : ∀ u ∈ rowE n fb, u.oneCell' = true := fun u hu => by simp [rowE] at hu; subst hu; rfl
theorem infoI64s : (Try.prog.info? 40).map (fun i => (i.zero, i.size, i.bytes)) = some (some (.slice none 0 0), 1, 24) := by kernel_rfl
/-- rows told so far: row i is how far all are from i -/
def RowsOk (w : World) (base n : Nat) (l : List Ed) (L : List Nat) : Prop := ∀ (i fb : Nat), L[i]? = some fb → base ≤ fb ∧ ∃ d, w.heap[fb]? = some (.cells (d.map (Value.int .i64)).toArray 2 (0, 0)) ∧ IsDist n l i d
theorem RowsOk.lt {w : World} {base n : Nat} {l : List Ed} {L : List Nat} (h : RowsOk w base n l L) {i fb : Nat} (hx : L[i]? = some fb) : fb < w.heap.size := by
  obtain ⟨_, d, hd, _⟩ := h i fb hx
  exact (Array.getElem?_eq_some_iff.1 hd).1
theorem RowsOk.below {w w' : World} {base n : Nat} {l : List Ed} {L : List Nat} (h : RowsOk w base n l L) (hb : Below w.heap.size w w') : RowsOk w' base n l L := fun i fb hx => by
  have hlt := h.lt hx
  obtain ⟨h1, d, h2, h3⟩ := h i fb hx
  exact ⟨h1, d, (hb.block fb hlt).trans h2, h3⟩
theorem RowsOk.grown {w w' : World} {base n : Nat} {l : List Ed} {L L' : List Nat} {v : Value} {k : Nat} (h : RowsOk w base n l L) (own : w.ownsRow base 40 1 v k (L'.flatMap (rowE n))) (hg : w.grownBy w' v.ownBlock) : RowsOk w' base n l L := fun i fb hx => by
  have hlt := h.lt hx
  obtain ⟨h1, d, h2, h3⟩ := h i fb hx
  refine ⟨h1, d, (hg.block fb hlt fun e => ?_).trans h2, h3⟩
  rcases own.2 with ⟨h0, _⟩ | ⟨g, cap, cur, h0, _, hh, _⟩
  · rw [h0] at e; cases e
  · rw [h0] at e
    simp only [Value.ownBlock, Option.some.injEq] at e
    rw [← e, h2] at hh; simp at hh
theorem RowsOk.snoc {w : World} {base n : Nat} {l : List Ed} {L : List Nat} {fb : Nat} {d : List Int} (h : RowsOk w base n l L) (hb : base ≤ fb) (hf : w.heap[fb]? = some (.cells (d.map (Value.int .i64)).toArray 2 (0, 0))) (hD : IsDist n l L.length d) : RowsOk w base n l (L ++ [fb]) := fun i f hx => by
  rw [List.getElem?_append] at hx
  split at hx
  · exact h i f hx
  · rename_i hi
    have hi2 : i = L.length := by
      have := (List.getElem?_eq_some_iff.1 hx).1
      simp at this; omega
    subst hi2
    simp at hx; subst hx
    exact ⟨hb, d, hf, hD⟩
section
variable {A : Option Addr} {m c : Nat} {l : List Ed} {w : World}
theorem All_bad (n : Int) (hr : Rd w 3 tripE A m l) (hm : m ≤ 1099511627776) (hc : chkE n l ≠ 0) :
    Calls Try.prog 68 #[.int .i64 n, .slice A m c] w fun e w' => e = .returned (.tuple #[.slice none 0 0, .int .i64 (chkE n l)]) ∧ Below w.heap.size w w' := by
  have hC := Lib.hid (chk_any n A m c l w hr hm)
  obtain ⟨q, hq⟩ : ∃ q, chkE n l = q := ⟨_, rfl⟩
  rw [hq] at hC hc ⊢
  have hd : (q == 0) = false := by simpa using hc
  clear hr hq
  go_enter Try.func68, Try.ntmps68
  go_wp2_with (go_at_call 90; refine hC.out.mono ?_; rintro e w1 ⟨rfl, hb⟩)
  go_returns
  exact ⟨rfl, hb⟩
theorem All_ok (n : Nat) (hr : Rd w 3 tripE A m l) (hm : m ≤ 1099511627776) (hc : chkE n l = 0) :
    Calls Try.prog 68 #[.int .i64 n, .slice A m c] w fun e w' => ∃ A' c' L, e = .returned (.tuple #[.slice A' n c', .int .i64 0]) ∧ Rd w' 1 (rowE n) A' n L ∧ RowsOk w' w.heap.size n l L ∧ Below w.heap.size w w' := by
  have hC := Lib.hid (chk_any n A m c l w hr hm)
  rw [hc] at hC
  obtain ⟨hll, _, hn⟩ := chk_len hc
  have hE := eds_ok hc
  have hml := hr.len
  have hN : Hid (∀ W, Below w.heap.size w W → Calls Try.prog 91 #[.int .i64 n, .slice A m c] W fun e w' => ∃ ob, e = .returned (.slice (some ⟨ob, 0, none⟩) n n) ∧ OutR w' ob n (byStop l) ∧ Below W.heap.size W w') := fun W hW =>
    near_any n A m c l W (hr.below hW) (by omega) (by omega) fun e he => ⟨(hE e he).1, (hE e he).2.1⟩
  have hn' : n ≤ 256 := by omega
  clear hr hc hml
  go_enter Try.func68, Try.ntmps68
  go_wp2_with (first | (go_at_call 90; refine hC.out.mono ?_; rintro e w1 ⟨rfl, hb⟩) | (go_at_call 91; refine (hN.out _ hb).mono ?_; rintro e w2 ⟨ob, rfl, hO, hb2⟩))
  have hb12 := hb.trans (hb2.mono hb.size)
  have hOw := Lib.hid hO
  clear hb hb2 hC hN hO
  have hOl := hOw.out.1
  go_loopw [8, 20] (fun v i wr => ∃ (k : Nat) (L : List Nat), k ≤ n ∧ L.length = k ∧ i = .int .i64 k ∧ wr.ownsRow w2.heap.size 40 1 v L.length (L.flatMap (rowE n)) ∧ RowsOk wr w2.heap.size n l L ∧ Below w2.heap.size w2 wr) (fun _ i _ => n - (intOf i).toNat)
  case atStart => exact ⟨0, [], Nat.zero_le _, rfl, rfl, World.ownsRow_nil _ _ _ _, fun i fb h => (by simp at h), Below.refl _ _⟩
  case round =>
    obtain ⟨k, L, hk, hL, rfl, own, hR, hb⟩ := hrel
    by_cases hlt : k < n
    · have hbw : Below w.heap.size w wr := hb12.trans (hb.mono hb12.size)
      have hF := Lib.hid (from_any n k ob l wr (hOw.out.below hb) hlt hn' hE hll)
      have hLk := Lib.hid hL
      have ownh := Lib.hid own
      clear own hL
      go_wp2_with fail
      refine hF.out.mono ?_; rintro e w3 ⟨fb, d, rfl, hD, hfb, hf, hb3⟩
      have own3 := own_up ownh.out hb3
      have hR3 := hR.below hb3
      have hb23 := hb.trans (hb3.mono hb.size)
      have hbw3 := hbw.trans (hb3.mono hbw.size)
      obtain ⟨gg, cc, w4, hrun, own4, hgr, hg⟩ := append_one (enc := rowE n) Try.underlying86 infoI64s rfl (by decide) (rowE_len n) (rowE_one n) w3 w2.heap.size _ L fb own3 (by rw [hLk.out]; omega) (by decide) hb23.size
      have ha3 : Below w3.heap.size w3 (w3.alloc (.cells (rowE n fb).toArray 40)) := (Below.refl _ w3).alloc (Nat.le_refl _) _
      have hfa := (ha3.block fb (Array.getElem?_eq_some_iff.1 hf).1).trans hf
      have hRa : RowsOk (w3.alloc (.cells (rowE n fb).toArray 40)) w2.heap.size n l (L ++ [fb]) := (hR3.below ha3).snoc (Nat.le_trans hb.size hfb) hfa (by rw [hLk.out]; exact hD)
      have hR4 := hRa.grown (own3.alloc _) hgr
      have hb4 : Below w2.heap.size w2 w4 := (hb23.trans (ha3.mono hb23.size)).grown hgr (by have := hb23.size; have := ha3.size; omega) (fun g hg => (own3.lt g hg).1)
      have hpost : Hid (w4.ownsRow w2.heap.size 40 1 (.slice (some ⟨gg, 0, none⟩) (L.length + 1) cc) (L ++ [fb]).length ((L ++ [fb]).flatMap (rowE n)) ∧ RowsOk w4 w2.heap.size n l (L ++ [fb]) ∧ Below w2.heap.size w2 w4) := ⟨own4, hR4, hb4⟩
      clear own3 hR3 hb23 hbw3 ha3 hfa hRa hR4 hb4 own4 hgr hg hR hF hD hfb hf hb3 hb hbw
      simp only [rowE] at hrun
      go_wp2_with (at_builtin; refine wpList_append_run ?a1 (.tmp 23) (.tmp 27) 86 ?a2 ?a3 ?a4 hrun ?_)
      case a1 => rfl
      case a2 => rfl
      try (case a3 => rfl)
      try (case a4 => rfl)
      go_roundw
      case rel => exact ⟨k + 1, L ++ [fb], by omega, by rw [List.length_append, hLk.out]; rfl, by go_num, hpost.out.1, hpost.out.2⟩
      case measure => simp [intOf]; omega
    · obtain rfl : k = n := by omega
      rw [hL] at own
      obtain ⟨A', c', rfl, r1, r2, r3⟩ := Rd.of_own (rowE_len k) hL own
      have hLh := Lib.hid hL
      clear hL
      have hr1 := Lib.hid r1
      have hbw : Below w.heap.size w wr := hb12.trans (hb.mono hb12.size)
      clear r1 own
      go_wp2_with fail
      go_returns
      exact ⟨A', c', L, rfl, hr1.out, fun i f hx => ⟨Nat.le_trans hb12.size (hR i f hx).1, (hR i f hx).2⟩, hbw⟩
end
end Go.Proofs.Ytonkkibnigdfbaa
