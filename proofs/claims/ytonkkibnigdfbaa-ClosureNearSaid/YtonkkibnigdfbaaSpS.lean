/-
  Texts of one chain, merged.
-/
import Derived.Test.YtonkkibnigdfbaaSpB
import Derived.Test.YtonkkibnigdfbaaSpH
import Derived.Lib.SliceRun
import Derived.Test.YtonkkibnigdfbaaSpN
import Derived.Deep.LoopGhost
import Derived.WalkMore
import Derived.BigQuiet
import Derived.Deep.DeepCutAuto
import Derived.Test.YtonkkibnigdfbaaShelf2
import Derived.Laws.CopyOwn
namespace Go.Proofs.Ytonkkibnigdfbaa
open Go.RowKit Go.Shelf B K
set_option linter.unusedVariables false
set_option linter.unusedSimpArgs false
set_option maxHeartbeats 1000000
theorem B.Rd.num {w : World} {n k : Nat} {A : Option Addr} {l : List Int} (h : Rd w 1 (numE .i64) A n l) (hk : k < n) : ∃ b o x, A = some ⟨b, o, none⟩ ∧ b < w.heap.size ∧ l[k]? = some x ∧ w.cell? ⟨b, o + k, none⟩ = some (.int .i64 x) := by
  obtain ⟨b, o, rfl, hb, hc⟩ := h.cells (by omega)
  have hl : k < l.length := by rw [h.len]; exact hk
  have hx : l[k]? = some l[k] := List.getElem?_eq_getElem hl
  have := hc k _ hx 0 _ rfl
  rw [Nat.mul_one, Nat.add_zero] at this
  exact ⟨b, o, l[k], rfl, hb, hx, this⟩
theorem infoT : (Try.prog.info? 2).map (fun i => (i.zero, i.size, i.bytes)) = some (some (.int .i64 0), 1, 8) := by kernel_rfl
theorem nume_len (x : Int) : (numE .i64 x).length = 1 := rfl
theorem nume_one (x : Int) : ∀ u ∈ numE .i64 x, u.oneCell' = true := fun u hu => by simp [numE] at hu; subst hu; rfl
theorem nume_flat (l : List Int) (i : Nat) : (l.flatMap (numE .i64))[i]? = (l[i]?).map (Value.int .i64) := by
  induction l generalizing i with
  | nil => simp
  | cons x r ih =>
    cases i with
    | zero => simp [numE]
    | succ i => rw [List.flatMap_cons]; simpa [numE] using ih i
/-- a row of ticks that lies behind base, from its block's first cell on -/
structure RowI (w : World) (base : Nat) (A : Option Addr) (n : Nat) (D : List Int) : Prop where
  len : D.length = n
  blk : ∀ a, A = some a → a.block < w.heap.size ∧ base ≤ a.block
  cells : 0 < n → ∃ (g : Nat) (cur : Array Value), A = some ⟨g, 0, none⟩ ∧ w.heap[g]? = some (.cells cur 2 (0, 0)) ∧ ∀ (i : Nat) (x : Int), D[i]? = some x → cur[i]? = some (.int .i64 x)
abbrev blks (A : Option Addr) : List Nat := (A.map Addr.block).toList
theorem mem_blks {A : Option Addr} {b : Nat} : b ∈ blks A ↔ ∃ a, A = some a ∧ a.block = b := by cases A <;> simp [blks, eq_comm]
section
variable {w w' : World} {base n : Nat} {A : Option Addr} {D : List Int}
theorem RowI.lt (h : RowI w base A n D) : ∀ b ∈ blks A, b < w.heap.size := fun b hb => by
  obtain ⟨a, rfl, rfl⟩ := mem_blks.1 hb; exact (h.blk a rfl).1
theorem RowI.ge (h : RowI w base A n D) : ∀ b ∈ blks A, base ≤ b := fun b hb => by
  obtain ⟨a, rfl, rfl⟩ := mem_blks.1 hb; exact (h.blk a rfl).2
theorem RowI.keep (h : RowI w base A n D) (hs : w.heap.size ≤ w'.heap.size) (hk : ∀ b ∈ blks A, w'.heap[b]? = w.heap[b]?) : RowI w' base A n D := by
  refine ⟨h.len, fun a ha => ⟨Nat.lt_of_lt_of_le (h.blk a ha).1 hs, (h.blk a ha).2⟩, fun hn => ?_⟩
  obtain ⟨g, cur, e, hg, hc⟩ := h.cells hn
  exact ⟨g, cur, e, (hk g (mem_blks.2 ⟨_, e, rfl⟩)).trans hg, hc⟩
theorem RowI.below (h : RowI w base A n D) (hb : Below w.heap.size w w') : RowI w' base A n D := h.keep hb.size fun b hb' => hb.block b (h.lt b hb')
theorem RowI.post {hp : Nat} {l : List It} (h : RowI w base A n D) (hP : HPost w w' base hp (blks A) l) : RowI w' base A n D := h.keep hP.2.1.size fun b hb' => hP.2.2 b hb' (h.lt b hb')
theorem RowI.rd (h : RowI w base A n D) : Rd w 1 (numE .i64) A n D := ⟨h.len, fun hn => by
  obtain ⟨g, cur, e, hg, hc⟩ := h.cells hn
  refine ⟨g, 0, e, (Array.getElem?_eq_some_iff.1 hg).1, fun i x hx j u hu => ?_⟩
  have hj : j = 0 := by
    have := (List.getElem?_eq_some_iff.1 hu).1
    simpa [numE] using this
  subst hj
  rw [cell_of_row _ _ _ _ _ _ hg, Nat.mul_one, Nat.zero_add, Nat.add_zero, hc i x hx]
  simpa [numE] using hu⟩
theorem RowI.at_ (h : RowI w base A n D) {i : Nat} {x : Int} (hx : D[i]? = some x) : ∃ g, A = some ⟨g, 0, none⟩ ∧ w.cell? ⟨g, i, none⟩ = some (.int .i64 x) ∧ w.frozen? ⟨g, i, none⟩ = false := by
  obtain ⟨g, cur, e, hg, hc⟩ := h.cells (by have := (List.getElem?_eq_some_iff.1 hx).1; have := h.len; omega)
  exact ⟨g, e, by rw [cell_of_row _ _ _ _ _ _ hg]; exact hc i x hx, by simp [World.frozen?, hg]⟩
/-- a store into it -/
theorem RowI.set {g i : Nat} {x y : Int} (h : RowI w base (some ⟨g, 0, none⟩) n D) (hx : D[i]? = some x) : RowI (w.setCell ⟨g, i, none⟩ (.int .i64 y)) base (some ⟨g, 0, none⟩) n (D.set i y) := by
  obtain ⟨g', cur, e, hg, hc⟩ := h.cells (by have := (List.getElem?_eq_some_iff.1 hx).1; have := h.len; omega)
  cases e
  have hlt := (Array.getElem?_eq_some_iff.1 hg).1
  have e2 : w.heap[g] = .cells cur 2 (0, 0) := by rw [Array.getElem?_eq_getElem hlt] at hg; exact Option.some.inj hg
  refine ⟨by rw [List.length_set]; exact h.len, fun a ha => ?_, fun _ => ⟨g, cur.setIfInBounds i (.int .i64 y), rfl, ?_, fun j z hz => ?_⟩⟩
  · have := h.blk a ha
    simpa using this
  · simp [World.setCell, hlt, Array.getElem_modify, e2]
  · rw [List.getElem?_set] at hz
    have hci := hc i x hx
    have hil := (Array.getElem?_eq_some_iff.1 hci).1
    by_cases hij : i = j
    · subst hij
      rw [if_pos rfl] at hz
      split at hz
      · cases hz; simp [hil]
      · cases hz
    · rw [if_neg hij] at hz
      rw [Array.getElem?_setIfInBounds_ne (by omega)]
      exact hc j z hz
theorem RowI.of_own {v : Value} (hl : D.length = n) (h : w.ownsRow base 2 1 v n (D.flatMap (numE .i64))) : ∃ A c, v = .slice A n c ∧ RowI w base A n D ∧ n ≤ c ∧ c ≤ 9223372036854775807 := by
  rcases h.2 with ⟨rfl, rfl⟩ | ⟨g, cap, cur, rfl, hb, hh, hn, hc, hsz, ht⟩
  · exact ⟨none, 0, rfl, ⟨hl, fun a ha => (by cases ha), fun h => absurd h (by omega)⟩, Nat.le_refl _, by omega⟩
  · have hlt := (Array.getElem?_eq_some_iff.1 hh).1
    refine ⟨_, cap, rfl, ⟨hl, fun a ha => (by cases ha; exact ⟨hlt, hb⟩), fun _ => ⟨g, cur, rfl, hh, fun i x hx => ?_⟩⟩, hn, by rw [← maxLen_num]; exact hc⟩
    have h1 := nume_flat D i
    rw [hx, ← ht, List.getElem?_take] at h1
    split at h1
    · simpa using h1
    · cases h1
end
/-- a row of ticks copied -/
def OwnI (w : World) (n : Nat) (D : List Int) (e : Ending) (w' : World) : Prop := ∃ A c, e = .returned (.slice A n c) ∧ RowI w' w.heap.size A n D ∧ n ≤ c ∧ c ≤ 9223372036854775807 ∧ Below w.heap.size w w'
theorem own_copy {w : World} {A : Option Addr} {n c : Nat} {l : List Int} (hr : Rd w 1 (numE .i64) A n l) (hn : n ≤ 1099511627776) :
    ∃ A' c' w1, (Builtin.append_ #[40, 40] 40 #[.slice (some ⟨w.heap.size, 0, none⟩) 0 0, .slice A n c]).run Try.prog (w.alloc (.cells #[] 2)) = .ok (.slice A' n c') w1 ∧ RowI w1 w.heap.size A' n l ∧ n ≤ c' ∧ c' ≤ 9223372036854775807 ∧ Below w.heap.size w w1 := by
  obtain ⟨v, w1, hrun, own, hg, _⟩ := own_append (enc := numE .i64) Try.underlying40 infoT rfl (by decide) nume_len nume_one c (l := []) (own_lit0 w w.heap.size 2 1 (Nat.le_refl _)) (hr.below ((Below.refl _ w).alloc (Nat.le_refl _) _)) (by simpa using hn) (by decide) (by simp)
  have hb : Below w.heap.size w w1 := ((Below.refl _ w).alloc (Nat.le_refl _) _).grown hg (by simp) (fun k hk => by simp [Value.ownBlock] at hk; omega)
  simp only [List.length_nil, Nat.zero_add, List.nil_append] at own
  obtain ⟨A', c', rfl, h1, h2, h3⟩ := RowI.of_own hr.len own
  exact ⟨A', c', w1, hrun, h1, h2, h3, hb⟩
theorem ownT_any {A : Option Addr} {n : Nat} (c : Nat) {l : List Int} {w : World} (hr : Rd w 1 (numE .i64) A n l) (hn : n ≤ 1099511627776) :
    Calls Try.prog 28 #[.slice A n c] w (OwnI w n l) := by
  obtain ⟨A', c', w1, hrun, h⟩ := own_copy (c := c) hr hn
  have hh := Lib.hid h
  clear h
  go_enter Try.func28, Try.ntmps28
  go_wp2_with (at_builtin; refine wpList_append_run ?a1 (.tmp 3) (.tmp 4) 40 ?a2 ?a3 ?a4 hrun ?_)
  case a1 => rfl
  case a2 => rfl
  try (case a3 => rfl)
  try (case a4 => rfl)
  go_returns
  exact ⟨A', c', rfl, hh.out⟩
set_option maxRecDepth 100000 in
theorem cloneT_any {A : Option Addr} {n : Nat} (c : Nat) {l : List Int} {w : World} (hr : Rd w 1 (numE .i64) A n l) (hn : n ≤ 1099511627776) :
    Calls Try.prog 81 #[.slice A n c] w (OwnI w n l) := by
  cases A with
  | none =>
    have hn0 : n = 0 := by
      rcases Nat.eq_zero_or_pos n with h | h
      · exact h
      · obtain ⟨_, _, e, _⟩ := hr.cells h; cases e
    subst hn0
    have hl : Hid (l.length = 0) := hr.len
    clear hr
    have qT : ∀ (w : World) (a : Option Addr) (n c n' c' : Nat), (binOp .eql 40 (.slice a n c) (.slice none n' c')).run Try.prog w = .ok (.bool a.isNone) w := fun w a n c n' c' => Lib.run_eql_slice_nil w _ _ a n c n' c' Try.underlying40
    go_enter Try.func81, Try.ntmps81
    go_wp2
    go_returns
    exact ⟨none, 0, rfl, ⟨hl.out, fun a h => (by cases h), fun h => absurd h (by omega)⟩, by omega, by omega, Below.refl _ _⟩
  | some a =>
    obtain ⟨A', c', w1, hrun, h⟩ := own_copy (c := c) hr hn
    have hh := Lib.hid h
    clear h hr
    have qT : ∀ (w : World) (a : Option Addr) (n c n' c' : Nat), (binOp .eql 40 (.slice a n c) (.slice none n' c')).run Try.prog w = .ok (.bool a.isNone) w := fun w a n c n' c' => Lib.run_eql_slice_nil w _ _ a n c n' c' Try.underlying40
    go_enter Try.func81, Try.ntmps81
    go_wp2_with (at_builtin; refine wpList_append_run ?a1 (.tmp 5) (.tmp 6) 40 ?a2 ?a3 ?a4 hrun ?_)
    case a1 => rfl
    case a2 => rfl
    try (case a3 => rfl)
    try (case a4 => rfl)
    go_returns
    exact ⟨A', c', rfl, hh.out⟩
end Go.Proofs.Ytonkkibnigdfbaa
namespace Go.Proofs.Ytonkkibnigdfbaa
open Go.RowKit Go.Shelf B K
set_option linter.unusedVariables false
set_option linter.unusedSimpArgs false
set_option maxHeartbeats 1000000
theorem nodup_le : ∀ (n : Nat) (l : List Int), l.Nodup → (∀ x ∈ l, 0 ≤ x ∧ x < (n : Int)) → l.length ≤ n
  | 0, l, _, h => by
    cases l with
    | nil => exact Nat.le_refl _
    | cons x r => have := h x (List.mem_cons_self ..); omega
  | n + 1, l, hn, h => by
    by_cases hm : (n : Int) ∈ l
    · have h1 := List.length_erase_of_mem hm
      have h2 := nodup_le n (l.erase (n : Int)) (hn.erase _) fun x hx => by
        have h3 := (hn.mem_erase_iff).1 hx
        have h4 := h x h3.2
        have := h3.1
        omega
      omega
    · have := nodup_le n l hn fun x hx => by
        have h4 := h x hx
        have : x ≠ (n : Int) := fun e => hm (e ▸ hx)
        omega
      omega
theorem Sea.len {N : NetP} {arr D : List Int} {S : List It} {a : Int} {j : Nat} (h : Sea N arr D S a j) : S.length ≤ N.cs.length := by
  have := nodup_le N.cs.length (S.map Prod.snd) h.nd fun x hx => by
    obtain ⟨y, hy, rfl⟩ := List.mem_map.1 hx
    obtain ⟨i, h1, h2, _⟩ := h.it y hy
    have h3 := (List.getElem?_eq_some_iff.1 h2).1
    have h4 := h.ok.1
    omega
  simpa using this
/-- a link by which a label falls, whether its stop stands in the heap or not -/
theorem Sea.low2 {N : NetP} {arr D : List Int} {S : List It} {a : Int} {j : Nat} {l : Lk} {x v : Int} (h : Sea N arr D S a j) (hN : OkN N) (hl : N.ls[j]? = some l) (hla : l.a = a) (hx : D[l.a.toNat]? = some x) (hne : x ≠ W.inf) (hv : toL N l x = v) (hlt : v < lab D l.b.toNat) :
    ((∀ y ∈ S, y.2 ≠ l.b) ∧ Sea N arr (D.set l.b.toNat v) ((v, l.b) :: S) a (j + 1) ∧ 2 * potN N (D.set l.b.toNat v) + ((v, l.b) :: S : List It).length + 1 ≤ 2 * potN N D + S.length ∧ (D.set l.b.toNat v)[l.a.toNat]? = some x) ∨
    (∃ S0, S.Perm ((lab D l.b.toNat, l.b) :: S0) ∧ Sea N arr (D.set l.b.toNat v) ((v, l.b) :: S0) a (j + 1) ∧ 2 * potN N (D.set l.b.toNat v) + ((v, l.b) :: S0 : List It).length + 1 ≤ 2 * potN N D + S.length ∧ (D.set l.b.toNat v)[l.a.toNat]? = some x) := by
  have hb := (okL_iff.1 (hN.lk l (List.mem_of_getElem? hl))).2.1
  have hab := (okL_iff.1 (hN.lk l (List.mem_of_getElem? hl)))
  have hlx : lab D l.a.toNat = x := lab_at hx
  have hset : (D.set l.b.toNat v)[l.a.toNat]? = some x := by
    rw [List.getElem?_set, if_neg (by omega)]; exact hx
  subst hv
  have hw := h.where (b := l.b.toNat)
  rw [Int.toNat_of_nonneg hb.1] at hw
  rw [← hlx] at hne hlt ⊢
  rcases hw with hw | ⟨S0, hp, hw⟩
  · obtain ⟨h1, h2, _⟩ := h.low hN hl hla hne hlt (fun y hy _ => hy) (fun y hy => ⟨hy, hw y hy⟩) h.nd (Nat.le_refl _)
    exact .inl ⟨hw, h1, h2, by rw [← hlx] at hset; exact hset⟩
  · have hnd := (hp.map Prod.snd).nodup_iff.1 h.nd
    rw [List.map_cons, List.nodup_cons] at hnd
    obtain ⟨h1, h2, _⟩ := h.low (S0 := S0) hN hl hla hne hlt (fun y hy hyb => by
      rcases List.mem_cons.1 (hp.mem_iff.1 hy) with h3 | h3
      · rw [h3] at hyb; exact absurd rfl hyb
      · exact h3) (fun y hy => ⟨hp.mem_iff.2 (List.mem_cons_of_mem _ hy), hw y hy⟩) hnd.2 (by have := hp.length_eq; simp at this; omega)
    exact .inr ⟨S0, hp, h1, h2, by rw [← hlx] at hset; exact hset⟩
/-- the heap and the row -/
structure ST (base h : Nat) (X : List Nat) (A : Option Addr) (n : Nat) (D : List Int) (S : List It) (w : World) : Prop where
  q : HQ w base h X S
  r : RowI w base A n D
  ax : ∀ b ∈ blks A, b ∈ X
section
variable {w w' : World} {base h n : Nat} {X Y : List Nat} {A : Option Addr} {D : List Int} {S S2 : List It}
theorem ST.below (H : ST base h X A n D S w) (hb : Below w.heap.size w w') : ST base h X A n D S w' := ⟨H.q.below hb, H.r.below hb, H.ax⟩
theorem ST.turn (H : ST base h X A n D S w) (hp : HPost w w' base h X S2) : ST base h X A n D S2 w' :=
  ⟨hp.1, H.r.keep hp.2.1.size fun b hb => hp.2.2 b (H.ax b hb) (H.r.lt b hb), H.ax⟩
theorem ST.more (H : ST base h X A n D S w) (hX : ∀ x ∈ X, x ∈ Y) (hY : ∀ y ∈ Y, y ∈ X ∨ w.heap.size ≤ y) : ST base h Y A n D S w := ⟨H.q.more hY, H.r, fun b hb => hX b (H.ax b hb)⟩
theorem ST.less (H : ST base h X A n D S w) (hX : ∀ b ∈ blks A, b ∈ Y) (hY : ∀ y ∈ Y, y ∈ X) : ST base h Y A n D S w := ⟨H.q.more fun y hy => .inl (hY y hy), H.r, hX⟩
theorem ST.perm (H : ST base h X A n D S w) (hp : S.Perm S2) : ST base h X A n D S2 w := ⟨H.q.perm hp, H.r, H.ax⟩
theorem ST.put {g i : Nat} {x y : Int} (H : ST base h X (some ⟨g, 0, none⟩) n D S w) (hx : D[i]? = some x) :
    ST base h X (some ⟨g, 0, none⟩) n (D.set i y) S (w.setCell ⟨g, i, none⟩ (.int .i64 y)) ∧ (∀ b, b ≠ g → (w.setCell ⟨g, i, none⟩ (.int .i64 y)).heap[b]? = w.heap[b]?) ∧ Below base w (w.setCell ⟨g, i, none⟩ (.int .i64 y)) := by
  have hg : g ∈ X := H.ax g (mem_blks.2 ⟨_, rfl, rfl⟩)
  refine ⟨⟨H.q.but (But.of_set w ⟨g, i, none⟩ _ (X := [g]) (by simp)) (by simpa using hg), H.r.set hx, H.ax⟩, fun b hb => Below.heap_setCell _ _ _ _ (by simpa using hb), (Below.refl _ w).setCell (H.r.ge g (mem_blks.2 ⟨_, rfl, rfl⟩)) _⟩
end
end Go.Proofs.Ytonkkibnigdfbaa
namespace Go.Proofs.Ytonkkibnigdfbaa
open Go.RowKit Go.Shelf B K
set_option linter.unusedVariables false
set_option linter.unusedSimpArgs false
set_option maxHeartbeats 2000000
theorem i64wf {a : Int} (h : 0 ≤ a ∧ a ≤ 1099511627776) : (Lit.int .i64 a).wf = true := wf64 (by omega) (by omega)
theorem RowI.mono {w : World} {base base' n : Nat} {A : Option Addr} {D : List Int} (h : RowI w base A n D) (hb : base' ≤ base) : RowI w base' A n D := ⟨h.len, fun a ha => ⟨(h.blk a ha).1, Nat.le_trans hb (h.blk a ha).2⟩, h.cells⟩
/-- labels spread, handed back in a row of the call's own -/
def RetSpr (N : NetP) (arr : List Int) (n : Nat) (w : World) (e : Ending) (w' : World) : Prop :=
  ∃ A c D, e = .returned (.slice A n c) ∧ Spr N arr D ∧ RowI w' w.heap.size A n D ∧ n ≤ c ∧ c ≤ 9223372036854775807 ∧ Below w.heap.size w w'
set_option maxRecDepth 100000 in
theorem settle_any {N : NetP} {A B Ar : Option Addr} {n c m d ca : Nat} {arr : List Int} (hs : Small N) (hN : OkN N) (hk : LabsOk N arr) (w : World) (hr : RNet w N A n B m) (hra : Rd w 1 (numE .i64) Ar n arr) :
    Calls Try.prog 57 #[.agg #[.int .i64 N.hz, .slice A n c, .slice B m d], .slice Ar n ca] w (RetSpr N arr n w) := by
  have hn1 : n ≤ 1000 := by rw [← hr.nn]; exact hs.cn
  have hm1 : m ≤ 1000 := by rw [← hr.mm]; exact hs.ln
  have hnn : Hid (N.cs.length = n) := hr.nn
  have hmm : Hid (N.ls.length = m) := hr.mm
  have hb1 : Below w.heap.size w (w.alloc (.cells #[.int .i64 N.hz, .slice A n c, .slice B m d] 25)) := (Below.refl _ w).alloc (Nat.le_refl _) _
  obtain ⟨x0, x1, x2⟩ := rowBx3 w 25 (.int .i64 N.hz) (.slice A n c) (.slice B m d)
  have hbn0 : w.heap.size < (w.alloc (.cells #[.int .i64 N.hz, .slice A n c, .slice B m d] 25)).heap.size := by simp
  obtain ⟨w1, hw1⟩ : ∃ q, w.alloc (.cells #[.int .i64 N.hz, .slice A n c, .slice B m d] 25) = q := ⟨_, rfl⟩
  rw [hw1] at hb1 x0 x1 x2 hbn0
  have hbn9 := Nat.le_of_lt hbn0
  obtain ⟨bn, hbn⟩ : ∃ q, w.heap.size = q := ⟨_, rfl⟩
  have hbn1 := hbn0
  rw [hbn] at x0 x1 x2 hbn1
  have hr1 := hr.below hb1
  have hup : Hid (∀ w2, Below w1.heap.size w1 w2 → Below w.heap.size w w2) := fun w2 h => hb1.trans (h.mono hb1.size)
  have hcl := Lib.hid (cloneT_any ca (hra.below hb1) (by omega))
  have hF : Hid (∀ (i t : Int) (U : World), Below w1.heap.size w1 U → Calls Try.prog 86 #[.agg #[.int .i64 N.hz, .slice A n c, .slice B m d], .int .i64 i, .int .i64 t] U fun e w' => e = .returned (.tuple #[.int .i64 (atF N i t), .int .i64 (toF N i t)]) ∧ Below U.heap.size U w') := fun i t U hU => lfirst_any hs i t U (hr1.below hU)
  have hR : Hid (RNet w1 N A n B m) := hr1
  have hX : Hid (w1.cell? ⟨bn, 0, none⟩ = some (.int .i64 N.hz) ∧ w1.cell? ⟨bn, 1, none⟩ = some (.slice A n c) ∧ w1.cell? ⟨bn, 2, none⟩ = some (.slice B m d)) := ⟨x0, x1, x2⟩
  have hNH := Lib.hid hN
  have hKH := Lib.hid hk
  have hlen : Hid (arr.length = n) := hra.len
  clear hb1 hr1 hr hra hs hN hk x0 x1 x2
  go_enter Try.func57, Try.ntmps57
  go_wp2_with fail
  go_step3
  go_wp2_with fail
  refine hcl.out.mono ?_; rintro e w2 ⟨A1, c1, rfl, R2, hc1, hc2, hb2⟩
  clear hcl
  go_wp2_with fail
  refine (New_any (base := w1.heap.size) (blks A1) R2.lt hb2.size).mono ?_; rintro e w3 ⟨h, rfl, hh, H3, hb3⟩
  have T3 : ST w1.heap.size h (blks A1) A1 n arr [] w3 := ⟨H3, R2.below hb3, fun b hb => hb⟩
  have hb13 := hb2.trans (hb3.mono hb2.size)
  clear H3 R2 hb2 hb3 hh hw1
  go_wp2_with fail
  go_loopw [31] (fun i wr => ∃ (k : Nat), k ≤ n ∧ i = .int .i64 k ∧ Hid (ST w1.heap.size h (blks A1) A1 n arr (itemsTo arr k) wr) ∧ Hid (Below w1.heap.size w1 wr)) (fun i _ => n - (intOf i).toNat)
  case atStart => exact ⟨0, Nat.zero_le _, rfl, T3, hb13⟩
  case round =>
    clear T3 hb13
    obtain ⟨k, hkn, rfl, T, hb⟩ := hrel
    by_cases hlt : k < n
    · have hget := lab_get (D := arr) (s := k) (by have := hlen.out; omega)
      obtain ⟨g, rfl, hc, _⟩ := T.out.r.at_ hget
      obtain ⟨x, hx⟩ : ∃ x, lab arr k = x := ⟨_, rfl⟩
      rw [hx] at hc hget
      have hltI : (k : Int) < (n : Int) := by omega
      by_cases hi : x = 4611686018427387904
      · have hd : (x != 4611686018427387904) = false := by simp [hi]
        have hit : Hid (itemsTo arr (k + 1) = itemsTo arr k) := by
          show _ = _
          rw [itemsTo_snoc, if_pos (by rw [hx, hi]; rfl), List.append_nil]
        clear hi
        go_wp2_with fail
        go_roundw
        case rel => exact ⟨k + 1, by omega, by go_num, by rw [hit.out]; exact T, hb⟩
        case measure => simp [intOf]; omega
      · have hd : (x != 4611686018427387904) = true := by simp [hi]
        have hit : Hid (((x, (k : Int)) :: itemsTo arr k).Perm (itemsTo arr (k + 1))) := by
          show List.Perm _ _
          rw [itemsTo_snoc, if_neg (by rw [hx]; exact hi), hx]
          exact (List.perm_append_comm (l₁ := [(x, (k : Int))]))
        have hP := Lib.hid (Push_new (kx := x) T.out.q (i64wf (a := (k : Int)) (by omega)) itemsTo_new hb.out.size T.out.r.lt (by have := itemsTo_len arr k; omega))
        clear hi
        go_wp2_with fail
        refine hP.out.mono ?_; rintro e w4 ⟨rfl, hp⟩
        have T4 : Hid (ST w1.heap.size h (blks (some ⟨g, 0, none⟩)) (some ⟨g, 0, none⟩) n arr (itemsTo arr (k + 1)) w4) := (T.out.turn hp).perm hit.out
        have hb4 := Lib.hid (hb.out.trans hp.2.1)
        clear hp hit T hb hP
        go_wp2_with fail
        go_roundw
        case rel => exact ⟨k + 1, by omega, by go_num, T4, hb4⟩
        case measure => simp [intOf]; omega
    · obtain rfl : k = n := by omega
      have hst : Hid (Sea N arr arr (itemsTo arr k) (-1) 0) := by
        have := Sea.start hNH.out hKH.out
        rw [hlen.out] at this; exact this
      obtain ⟨S0, hS0⟩ : ∃ q, itemsTo arr k = q := ⟨_, rfl⟩
      rw [hS0] at T hst
      clear hS0 hlt hlen hKH
      go_wp2_with fail
      go_step3
      go_wp2_with fail
      go_loopg [13] (2 * potN N arr + S0.length) (fun gg a wr => ∃ D S, Hid (ST w1.heap.size h (blks A1) A1 k D S wr) ∧ Hid (Below w1.heap.size w1 wr) ∧ Hid (Sea N arr D S (-1) 0) ∧ Hid (2 * potN N D + S.length ≤ gg))
      case atStart => exact ⟨arr, S0, T, hb, hst, Nat.le_refl _⟩
      case round =>
        clear T hb hst S0
        obtain ⟨D, S, T, hb, hSea, hg⟩ := hrel
        cases S with
        | nil =>
          have hP := Lib.hid (Pop_zero (w := wr) (p := .pointer (some ⟨h, 0, none⟩)) fun U hU => Len_any (T.out.q.below hU))
          go_wp2_with fail
          refine hP.out.mono ?_; rintro e w7 ⟨rfl, hb7⟩
          go_wp2_with fail
          go_returns
          have hb8 : Below wr.heap.size wr (w7.alloc (.cells #[.int .i64 0, .int .i64 0] 120)) := hb7.alloc hb7.size _
          exact ⟨A1, c1, D, rfl, hSea.out.done hNH.out, (T.out.r.below hb8).mono hbn9, hc1, hc2, hup.out _ (hb.out.trans (hb8.mono hb.out.size))⟩
        | cons y0 S1 =>
          have hP := Lib.hid (Pop_any T.out.q (by simp) hb.out.size T.out.r.lt)
          go_wp2_with fail
          refine hP.out.mono ?_; rintro e w7 ⟨⟨x1, x2⟩, S2, hp0, hmin, rfl, hp7⟩
          obtain ⟨a, ha, han, hda, hne, hSn, hSea2⟩ := (hSea.out.perm hp0).out hNH.out
          simp only at ha hda hne
          subst ha
          have hkk := hSea.out.ok.fin (s := a) (by rw [lab_at hda]; exact hne)
          rw [lab_at hda] at hkk
          have hz2 := hNH.out.hz
          have hx1 : 0 ≤ x1 ∧ x1 ≤ 1099511627776 := by omega
          have hS2 : S2.length + 1 = (y0 :: S1).length := by have := hp0.length_eq; simp at this ⊢; omega
          have hg2 : Hid (2 * potN N D + S2.length + 1 ≤ gk) := by have := hg.out; show _ ≤ _; omega
          have T7 := T.out.turn hp7
          have hb17 := hb.out.trans hp7.2.1
          have ha8 : Below w7.heap.size w7 (w7.alloc (.cells #[.int .i64 x1, .int .i64 (a : Int)] 120)) := (Below.refl _ w7).alloc (Nat.le_refl _) _
          have hk8 := heap_alloc_new w7 (.cells #[.int .i64 x1, .int .i64 (a : Int)] 120)
          have T8 := (T7.more (Y := w7.heap.size :: blks A1) (fun x hx => List.mem_cons_of_mem _ hx) (fun y hy => by
            rcases List.mem_cons.1 hy with rfl | hy
            · exact .inr (Nat.le_refl _)
            · exact .inl hy)).below ha8
          have hb18 := hb17.trans (ha8.mono hb17.size)
          obtain ⟨w8, hw8⟩ : ∃ q, w7.alloc (.cells #[.int .i64 x1, .int .i64 (a : Int)] 120) = q := ⟨_, rfl⟩
          rw [hw8] at hk8 T8 hb18
          obtain ⟨xb, hxb⟩ : ∃ q, w7.heap.size = q := ⟨_, rfl⟩
          rw [hxb] at hk8 T8
          have hxA : Hid (∀ b ∈ blks A1, xb ≠ b) := fun b hb e => by have := T7.r.lt b hb; omega
          have x2 := (hb18.cell (p := ⟨bn, 2, none⟩) hbn1).trans hX.out.2.2
          have T8h := Lib.hid T8
          have hb18h := Lib.hid hb18
          have hk8h := Lib.hid hk8
          have hI8 : Hid (Sea N arr D S2 a 0 ∧ D[a]? = some x1) := ⟨hSea2, hda⟩
          have hne := Lib.hid hne
          clear T8 hb18 hk8 T hb hSea hg hP hp0 hmin hp7 hda hSn hSea2 hkk hz2 hS2 T7 hb17 ha8
          go_wp2_with fail
          go_loopw [54] (fun i wq => ∃ (j : Nat) (D : List Int) (S : List It), j ≤ m ∧ i = .int .i64 j ∧ Hid (ST w1.heap.size h (xb :: blks A1) A1 k D S wq) ∧ Hid (Below w1.heap.size w1 wq) ∧ Hid (Sea N arr D S a j ∧ D[a]? = some x1) ∧ Hid (2 * potN N D + S.length + 1 ≤ gk) ∧ Hid (wq.heap[xb]? = some (.cells #[.int .i64 x1, .int .i64 (a : Int)] 120 (0, 0)))) (fun i _ => m - (intOf i).toNat)
          case atStart => exact ⟨0, D, S2, Nat.zero_le _, rfl, T8h, hb18h, hI8, hg2, hk8h⟩
          case round =>
            clear T8h hb18h hI8 hg2 hk8h hw8 hxb x2 D
            obtain ⟨j, D, S, hj, rfl, T, hb, hI, hg, hk⟩ := hrel
            by_cases hlt : j < m
            · obtain ⟨l, hl, b, o, pA, pn, pc, kA, kn, kc, rfl, hbl, _, _, c0, c1, c2, c3, c4, c5, c6⟩ := (hR.out.below hb.out).lnk hlt
              obtain ⟨⟨la0, la1⟩, ⟨lb0, lb1⟩, _⟩ := okL_iff.1 (hNH.out.lk l (List.mem_of_getElem? hl))
              obtain ⟨a', ha'⟩ : ∃ a' : Nat, l.a = a' := ⟨l.a.toNat, by omega⟩
              obtain ⟨b', hb'⟩ : ∃ b' : Nat, l.b = b' := ⟨l.b.toNat, by omega⟩
              obtain ⟨ln, hln⟩ : ∃ q, l.len = q := ⟨_, rfl⟩
              obtain ⟨ld, hld⟩ : ∃ q, l.door = q := ⟨_, rfl⟩
              obtain ⟨lo, hlo⟩ : ∃ q, l.no = q := ⟨_, rfl⟩
              rw [ha'] at c0; rw [hb'] at c1; rw [hln] at c2; rw [hld] at c3; rw [hlo] at c4
              have hl := Lib.hid hl
              rename_i hl0; clear hl0
              have hab := Lib.hid ha'
              have hbb := Lib.hid hb'
              have hb'k : b' < k := by have := hnn.out; omega
              have ha9 : Below wr.heap.size wr (wr.alloc (.cells #[.int .i64 a', .int .i64 b', .int .i64 ln, .bool ld, .int .i64 lo, .slice pA pn pc, .slice kA kn kc] 38)) := (Below.refl _ wr).alloc (Nat.le_refl _) _
              obtain ⟨d0, d1, d2, d3, d4, d5, d6⟩ := rowBx7 wr 38 (.int .i64 a') (.int .i64 b') (.int .i64 ln) (.bool ld) (.int .i64 lo) (.slice pA pn pc) (.slice kA kn kc)
              have hlb9 : wr.heap.size < (wr.alloc (.cells #[.int .i64 a', .int .i64 b', .int .i64 ln, .bool ld, .int .i64 lo, .slice pA pn pc, .slice kA kn kc] 38)).heap.size := by simp
              have T9 := T.out.below ha9
              have hb9 := hb.out.trans (ha9.mono hb.out.size)
              have hxl := (Array.getElem?_eq_some_iff.1 hk.out).1
              have hk9 := (ha9.block _ hxl).trans hk.out
              have hlx : ∀ b ∈ blks A1, wr.heap.size ≠ b := fun b hb e => by have := T.out.r.lt b hb; omega
              obtain ⟨w9, hw9⟩ : ∃ q, wr.alloc (.cells #[.int .i64 a', .int .i64 b', .int .i64 ln, .bool ld, .int .i64 lo, .slice pA pn pc, .slice kA kn kc] 38) = q := ⟨_, rfl⟩
              rw [hw9] at d0 d1 d2 d3 d4 d5 d6 T9 hb9 hk9 hlb9
              obtain ⟨lb, hlbe⟩ : ∃ q, wr.heap.size = q := ⟨_, rfl⟩
              rw [hlbe] at d0 d1 d2 d3 d4 d5 d6 hlb9 hlx
              have kx0 : w9.cell? ⟨xb, 0, none⟩ = some (.int .i64 x1) := by rw [cell_of_row _ _ _ _ _ _ hk9]; rfl
              have kx1 : w9.cell? ⟨xb, 1, none⟩ = some (.int .i64 (a : Int)) := by rw [cell_of_row _ _ _ _ _ _ hk9]; rfl
              have T9h := Lib.hid T9
              have hb9h := Lib.hid hb9
              have hk9h := Lib.hid hk9
              have hltI : (j : Int) < (m : Int) := by omega
              clear T9 hb9 hk9 ha9 hxl T hb hk la0 la1 lb0 lb1 ha' hb' hln hld hlo d2 d3 d4 d5 d6
              by_cases haa : a' = a
              · have hn : ((a' : Int) != (a : Int)) = false := by simp [haa]
                have hla : Hid (l.a = (a : Int)) := by have := hab.out; show _ = _; omega
                have hlan : l.a.toNat = a := by have := hla.out; omega
                have hlbn : l.b.toNat = b' := by have := hbb.out; omega
                have hFc := Lib.hid (hF.out (j : Int) x1 w9 hb9h.out)
                obtain ⟨v, hv⟩ : ∃ v, toF N (j : Int) x1 = v := ⟨_, rfl⟩
                obtain ⟨u, hu⟩ : ∃ u, atF N (j : Int) x1 = u := ⟨_, rfl⟩
                rw [hv, hu] at hFc
                have hvL : Hid (toL N l x1 = v) := (toF_ok hNH.out hl.out hx1).symm.trans hv
                obtain ⟨y, hy⟩ : ∃ y, lab D b' = y := ⟨_, rfl⟩
                have hDy : Hid (D[b']? = some y) := by
                  have h1 := lab_get (D := D) (s := b') (by have := T9h.out.r.len; omega)
                  rw [hy] at h1; exact h1
                have hlby : Hid (lab D l.b.toNat = y) := by show _ = _; rw [hlbn]; exact hy
                have hDx : Hid (D[l.a.toNat]? = some x1) := by show _ = _; rw [hlan]; exact hI.out.2
                have n0 := (hb9h.out.cell (p := ⟨bn, 0, none⟩) hbn1).trans hX.out.1
                have n1 := (hb9h.out.cell (p := ⟨bn, 1, none⟩) hbn1).trans hX.out.2.1
                have n2 := (hb9h.out.cell (p := ⟨bn, 2, none⟩) hbn1).trans hX.out.2.2
                clear hv hu hy hlan hlbn haa
                go_wp2_with fail
                refine hFc.out.mono ?_; rintro e w10 ⟨rfl, hb10⟩
                have T10 := T9h.out.below hb10
                have hb110 := hb9h.out.trans (hb10.mono hb9h.out.size)
                have hk10 := (hb10.block xb (Array.getElem?_eq_some_iff.1 hk9h.out).1).trans hk9h.out
                have d1 := (hb10.cell (p := ⟨lb, 1, none⟩) hlb9).trans d1
                obtain ⟨g, rfl, hyc, hyf⟩ := T10.r.at_ hDy.out
                have hlg : lb ≠ g := hlx g (mem_blks.2 ⟨_, rfl, rfl⟩)
                have T10h := Lib.hid T10
                have hb110h := Lib.hid hb110
                have hk10h := Lib.hid hk10
                have hlb10 := Nat.lt_of_lt_of_le hlb9 hb10.size
                have hb'kI : (b' : Int) < (k : Int) := by omega
                have hwf : Hid ((Lit.int .i64 (b' : Int)).wf = true) := i64wf (by omega)
                clear T9h hb9h hk9h hFc hb10 kx0 kx1 n0 n1 n2 d0 T10 hb110 hk10
                by_cases hle : y ≤ v
                · have dle : decide (y ≤ v) = true := decide_eq_true hle
                  have hI2 : Hid (Sea N arr D S a (j + 1) ∧ D[a]? = some x1) := ⟨hI.out.1.skip hl.out (.inr (by rw [lab_at hDx.out, hlby.out, hvL.out]; exact hle)), hI.out.2⟩
                  clear hI hDy hlby hDx hvL hlb10 hlg hle
                  go_wp2_with fail
                  go_roundw
                  case rel => exact ⟨j + 1, D, S, by omega, by go_num, T10h, hb110h, hI2, hg, hk10h⟩
                  case measure => simp [intOf]; omega
                · have dle : decide (y ≤ v) = false := decide_eq_false hle
                  have hlow := hI.out.1.low2 hNH.out hl.out hla.out hDx.out hne.out hvL.out (by rw [hlby.out]; omega)
                  rw [hlby.out, hbb.out, Int.toNat_natCast, hla.out, Int.toNat_natCast] at hlow
                  obtain ⟨T11, hoth, hb11⟩ := T10h.out.put (y := v) hDy.out
                  have hb111 := hb110h.out.trans hb11
                  have hxg : xb ≠ g := hxA.out g (mem_blks.2 ⟨_, rfl, rfl⟩)
                  have hk11 := (hoth xb hxg).trans hk10h.out
                  have d1' : (w10.setCell ⟨g, b', none⟩ (.int .i64 v)).cell? ⟨lb, 1, none⟩ = some (.int .i64 (b' : Int)) := (World.cell?_of_block (hoth lb hlg)).trans d1
                  obtain ⟨w11, hw11⟩ : ∃ q, w10.setCell ⟨g, b', none⟩ (.int .i64 v) = q := ⟨_, rfl⟩
                  rw [hw11] at T11 hb111 hk11 d1'
                  have hXl : ∀ b ∈ xb :: blks (some ⟨g, 0, none⟩), b < w11.heap.size := fun b hb => by
                    rcases List.mem_cons.1 hb with rfl | hb
                    · exact (Array.getElem?_eq_some_iff.1 hk11).1
                    · exact T11.r.lt b hb
                  have hfin : Hid (∀ (w12 : World) (S' : List It), HPost w11 w12 w1.heap.size h (xb :: blks (some ⟨g, 0, none⟩)) S' → ST w1.heap.size h (xb :: blks (some ⟨g, 0, none⟩)) (some ⟨g, 0, none⟩) k (D.set b' v) S' w12 ∧ Below w1.heap.size w1 w12 ∧ w12.heap[xb]? = some (.cells #[.int .i64 x1, .int .i64 (a : Int)] 120 (0, 0))) := fun w12 S' hp =>
                    ⟨T11.turn hp, hb111.trans hp.2.1, (hp.2.2 xb (List.mem_cons_self ..) (Array.getElem?_eq_some_iff.1 hk11).1).trans hk11⟩
                  rcases hlow with ⟨hno, hS1, hS2, hS3⟩ | ⟨S0, hp0, hS1, hS2, hS3⟩
                  · have hL : Hid (Calls Try.prog 85 #[.pointer (some ⟨h, 0, none⟩), .int .i64 (b' : Int), .int .i64 v] w11 fun e w' => e = .returned (.tuple #[.bool false, .int .i64 5]) ∧ w11 = w') := (Lower_none T11.q hwf.out hno).mono fun e w' h => ⟨h.1, h.2.symm⟩
                    have hPu := Lib.hid (Push_new (kx := v) T11.q hwf.out hno hb111.size hXl (by have := hI.out.1.len; have := hnn.out; omega))
                    have hI2 : Hid (Sea N arr (D.set b' v) ((v, (b' : Int)) :: S) a (j + 1) ∧ (D.set b' v)[a]? = some x1) := ⟨hS1, hS3⟩
                    have hg2 : Hid (2 * potN N (D.set b' v) + ((v, (b' : Int)) :: S : List It).length + 1 ≤ gk) := by have := hg.out; show _ ≤ _; omega
                    clear hno hS1 hS2 hS3 T11 hb111 hk11 hXl hI hDy hlby hDx hvL hlb10 hlg hle hoth hb11 hxg T10h hb110h hk10h hg
                    go_wp2_with fail
                    refine hL.out.mono ?_; rintro e w' ⟨rfl, rfl⟩
                    go_wp2_with fail
                    refine hPu.out.mono ?_; rintro e w12 ⟨rfl, hpost⟩
                    obtain ⟨q1, q2, q3⟩ := hfin.out w12 _ hpost
                    have q1 := Lib.hid q1
                    have q2 := Lib.hid q2
                    have q3 := Lib.hid q3
                    clear hpost hfin hL hPu
                    go_wp2_with fail
                    go_roundw
                    case rel => exact ⟨j + 1, _, _, by omega, by go_num, q1, q2, hI2, hg2, q3⟩
                    case measure => simp [intOf]; omega
                  · have hL := Lib.hid (Lower_any (key := v) T11.q hwf.out hp0 (by omega) hb111.size hXl)
                    have hI2 : Hid (Sea N arr (D.set b' v) ((v, (b' : Int)) :: S0) a (j + 1) ∧ (D.set b' v)[a]? = some x1) := ⟨hS1, hS3⟩
                    have hg2 : Hid (2 * potN N (D.set b' v) + ((v, (b' : Int)) :: S0 : List It).length + 1 ≤ gk) := by have := hg.out; show _ ≤ _; omega
                    clear hp0 hS1 hS2 hS3 T11 hb111 hk11 hXl hI hDy hlby hDx hvL hlb10 hlg hle hoth hb11 hxg T10h hb110h hk10h hg
                    go_wp2_with fail
                    refine hL.out.mono ?_; rintro e w12 ⟨rfl, hpost⟩
                    obtain ⟨q1, q2, q3⟩ := hfin.out w12 _ hpost
                    have q1 := Lib.hid q1
                    have q2 := Lib.hid q2
                    have q3 := Lib.hid q3
                    clear hpost hfin hL
                    go_wp2_with fail
                    go_roundw
                    case rel => exact ⟨j + 1, _, _, by omega, by go_num, q1, q2, hI2, hg2, q3⟩
                    case measure => simp [intOf]; omega
              · have hn : ((a' : Int) != (a : Int)) = true := by simp; omega
                have hI2 : Hid (Sea N arr D S a (j + 1) ∧ D[a]? = some x1) := ⟨hI.out.1.skip hl.out (.inl (by rw [hab.out]; omega)), hI.out.2⟩
                clear haa hI d1 kx0
                go_wp2_with fail
                go_roundw
                case rel => exact ⟨j + 1, D, S, by omega, by go_num, T9h, hb9h, hI2, hg, hk9h⟩
                case measure => simp [intOf]; omega
            · obtain rfl : j = m := by omega
              have hI2 : Hid (Sea N arr D S (-1) 0) := by
                have := hI.out.1
                rw [← hmm.out] at this
                exact this.fin
              have T2 : Hid (ST w1.heap.size h (blks A1) A1 k D S wr) := T.out.less (fun b hb => hb) (fun y hy => List.mem_cons_of_mem _ hy)
              clear T hI
              go_wp2_with fail
              go_roundg (2 * potN N D + S.length)
              case measure => have := hg.out; omega
              case rel => exact ⟨D, S, T2, hb, hI2, Nat.le_refl _⟩
end Go.Proofs.Ytonkkibnigdfbaa
namespace Go.Proofs.Ytonkkibnigdfbaa
open Go.RowKit Go.Shelf B K
set_option linter.unusedVariables false
set_option linter.unusedSimpArgs false
set_option maxHeartbeats 1000000
def badT (hz x : Int) : Bool := decide (x ≠ W.inf ∧ (x < 0 ∨ hz < x))
def sckN (N : NetP) (arr : List Int) : Int := if chkN N ≠ 0 then chkN N else if arr.length ≠ N.cs.length then 2 else if arr.any (badT N.hz) = true then 9 else 0
theorem sck_iff {N : NetP} {arr : List Int} : sckN N arr = 0 ↔ OkN N ∧ LabsOk N arr := by
  unfold sckN
  by_cases h1 : chkN N = 0
  · rw [if_neg (by omega)]
    by_cases h2 : arr.length = N.cs.length
    · rw [if_neg (by omega)]
      by_cases h3 : arr.any (badT N.hz) = true
      · rw [if_pos h3]
        refine ⟨fun h => by omega, fun h => ?_⟩
        obtain ⟨x, hx, hb⟩ := List.any_eq_true.1 h3
        unfold badT at hb
        rw [decide_eq_true_iff] at hb
        rcases h.2.2 x hx with h4 | h4
        · exact absurd h4 hb.1
        · have := hb.2; omega
      · rw [if_neg h3]
        refine ⟨fun _ => ⟨chkN_iff.1 h1, h2, fun x hx => ?_⟩, fun _ => rfl⟩
        have hb : badT N.hz x = false := by
          cases hb : badT N.hz x with
          | false => rfl
          | true => exact absurd (List.any_eq_true.2 ⟨x, hx, hb⟩) h3
        unfold badT at hb
        rw [decide_eq_false_iff_not] at hb
        by_cases hi : x = W.inf
        · exact .inl hi
        · right
          have : ¬ (x < 0 ∨ N.hz < x) := fun h => hb ⟨hi, h⟩
          omega
    · rw [if_pos h2]
      exact ⟨fun h => by omega, fun h => absurd h.2.1 h2⟩
  · rw [if_pos h1]
    exact ⟨fun h => absurd h h1, fun h => absurd (chkN_iff.2 h.1) h1⟩
theorem sck_cases (N : NetP) (arr : List Int) : sckN N arr = 0 ∨ sckN N arr = 2 ∨ sckN N arr = 9 := by
  have := chkN_cases N
  unfold sckN
  split
  · omega
  · split
    · omega
    · split <;> omega
theorem idxT_any (g : Nat) (lb : Array Value) (eg : ∀ args w, (callFunc g args).run Try.prog w = .ok (.enter g args) w) (p : Int → Bool) (A : Option Addr) (n c : Nat) (l : List Int) (w : World) (hr : Rd w 1 (numE .i64) A n l) (hn : n ≤ 1099511627776)
    (hp : ∀ (U : World) (x : Int), x ∈ l → Below w.heap.size w U → Calls Try.prog g (#[.int .i64 x] ++ lb) U fun e w' => e = .returned (.bool (p x)) ∧ Below U.heap.size U w') :
    Calls Try.prog 87 #[.slice A n c, .func (.func g) #[] lb] w fun e w' => e = .returned (.int .i64 (fidx p l)) ∧ Below w.heap.size w w' := by
  go_enter Try.func87, Try.ntmps87
  go_wp2_with fail
  go_loopw [8] (fun i wr => ∃ (k : Nat), k ≤ n ∧ i = .int .i64 k ∧ Below w.heap.size w wr ∧ Hid (∀ y ∈ l.take k, p y = false)) (fun i _ => n - (intOf i).toNat)
  case atStart => exact ⟨0, Nat.zero_le _, rfl, Below.refl _ _, fun y hy => by simp at hy⟩
  case round =>
    obtain ⟨k, hk, rfl, hb, hno⟩ := hrel
    by_cases hlt : k < n
    · obtain ⟨b, o, x, rfl, hbs, hx, c0⟩ := (hr.below hb).num hlt
      have hcall := hp wr x (List.mem_of_getElem? hx) hb
      have hx := Lib.hid hx
      rename_i hx0; clear hx0
      clear hp
      cases hq : p x with
      | true =>
        rw [hq] at hcall
        have hi : Hid (fidx p l = k) := fidx_at hx.out hno.out hq
        clear hq
        go_wp2_with fail
        refine hcall.mono ?_; rintro e w2 ⟨rfl, hb2⟩
        go_wp2_with fail
        go_returns
        exact ⟨ret_int hi.out.symm, hb.trans (hb2.mono hb.size)⟩
      | false =>
        rw [hq] at hcall
        have hno' : Hid (∀ y ∈ l.take (k + 1), p y = false) := take_no hx.out hno.out hq
        clear hq
        go_wp2_with fail
        refine hcall.mono ?_; rintro e w2 ⟨rfl, hb2⟩
        go_wp2_with fail
        go_roundw
        case rel => exact ⟨k + 1, by omega, by go_num, hb.trans (hb2.mono hb.size), hno'⟩
        case measure => simp [intOf]; omega
    · go_wp2
      go_returns
      exact ⟨ret_int (by rw [fidx_no]; intro y hy; exact hno.out y (by rwa [List.take_of_length_le (by rw [hr.len]; omega)])), hb⟩
theorem contT_any (g : Nat) (lb : Array Value) (eg : ∀ args w, (callFunc g args).run Try.prog w = .ok (.enter g args) w) (p : Int → Bool) (A : Option Addr) (n c : Nat) (l : List Int) (w : World) (hr : Rd w 1 (numE .i64) A n l) (hn : n ≤ 1099511627776)
    (hp : ∀ (U : World) (x : Int), x ∈ l → Below w.heap.size w U → Calls Try.prog g (#[.int .i64 x] ++ lb) U fun e w' => e = .returned (.bool (p x)) ∧ Below U.heap.size U w') :
    Calls Try.prog 58 #[.slice A n c, .func (.func g) #[] lb] w fun e w' => e = .returned (.bool (l.any p)) ∧ Below w.heap.size w w' := by
  go_enter Try.func58, Try.ntmps58
  go_wp2_with fail
  refine (idxT_any g lb eg p A n c l _ hr hn hp).mono ?_; rintro e w1 ⟨rfl, hb⟩
  go_wp2_with fail
  go_returns
  exact ⟨ret_bool (fidx_any p l), hb⟩
theorem scheck1_any {bn : Nat} {hz : Int} (x : Int) (w : World) (h0 : w.cell? ⟨bn, 0, none⟩ = some (.int .i64 hz)) :
    Calls Try.prog 59 #[.int .i64 x, .pointer (some ⟨bn, 0, none⟩)] w fun e w' => e = .returned (.bool (badT hz x)) ∧ Below w.heap.size w w' := by
  unfold badT
  by_cases h1 : x = 4611686018427387904
  · rw [decide_eq_false (show ¬ (x ≠ W.inf ∧ (x < 0 ∨ hz < x)) from fun h => h.1 h1)]
    subst h1
    go_enter Try.func59, Try.ntmps59
    go_wp2
    go_returns
    exact ⟨rfl, Below.refl _ _⟩
  · have d1 : (x != 4611686018427387904) = true := by simp [h1]
    by_cases h2 : x < 0
    · rw [decide_eq_true (show x ≠ W.inf ∧ (x < 0 ∨ hz < x) from ⟨h1, .inl h2⟩)]
      have d2 : decide (x < 0) = true := decide_eq_true h2
      go_enter Try.func59, Try.ntmps59
      go_wp2
      go_returns
      exact ⟨rfl, Below.refl _ _⟩
    · have d2 : decide (x < 0) = false := decide_eq_false h2
      have d3 : decide (x ≠ W.inf ∧ (x < 0 ∨ hz < x)) = decide (hz < x) := by
        apply decide_eq_decide.2
        exact ⟨fun h => h.2.resolve_left h2, fun h => ⟨h1, .inr h⟩⟩
      rw [d3]
      clear d3
      go_enter Try.func59, Try.ntmps59
      go_wp2
      go_returns
      exact ⟨rfl, Below.refl _ _⟩
set_option maxRecDepth 100000 in
theorem scheck_any {N : NetP} {A B Ar : Option Addr} {n c m d na ca : Nat} {arr : List Int} (hs : Small N) (w : World) (hr : RNet w N A n B m) (hra : Rd w 1 (numE .i64) Ar na arr) (hna : na ≤ 1099511627776) :
    Calls Try.prog 24 #[.agg #[.int .i64 N.hz, .slice A n c, .slice B m d], .slice Ar na ca] w fun e w' => e = .returned (.int .i64 (sckN N arr)) ∧ Below w.heap.size w w' := by
  have hs1 := hs.cn
  have hnn : Hid (N.cs.length = n) := hr.nn
  have hln : Hid (arr.length = na) := hra.len
  have hn1 : n ≤ 1000 := by have := hnn.out; omega
  have hb1 : Below w.heap.size w (w.alloc (.cells #[.int .i64 N.hz, .slice A n c, .slice B m d] 25)) := (Below.refl _ w).alloc (Nat.le_refl _) _
  obtain ⟨x0, x1, x2⟩ := rowBx3 w 25 (.int .i64 N.hz) (.slice A n c) (.slice B m d)
  have hbn1 : w.heap.size < (w.alloc (.cells #[.int .i64 N.hz, .slice A n c, .slice B m d] 25)).heap.size := by simp
  obtain ⟨w1, hw1⟩ : ∃ q, w.alloc (.cells #[.int .i64 N.hz, .slice A n c, .slice B m d] 25) = q := ⟨_, rfl⟩
  rw [hw1] at hb1 x0 x1 x2 hbn1
  have hup : Hid (∀ w2, Below w1.heap.size w1 w2 → Below w.heap.size w w2) := fun w2 h => hb1.trans (h.mono hb1.size)
  obtain ⟨bn, hbn⟩ : ∃ q, w.heap.size = q := ⟨_, rfl⟩
  rw [hbn] at x0 x1 x2 hbn1
  have hC := Lib.hid (lcheck_any (c := c) (d := d) hs w1 (hr.below hb1))
  have hcT : Hid (∀ U, Below w1.heap.size w1 U → Calls Try.prog 58 #[.slice Ar na ca, .func (.func 59) #[] #[.pointer (some ⟨bn, 0, none⟩)]] U fun e w' => e = .returned (.bool (arr.any (badT N.hz))) ∧ Below U.heap.size U w') := fun U hU =>
    contT_any 59 #[.pointer (some ⟨bn, 0, none⟩)] (enters_of Try.func59 (by kernel_rfl) rfl) (badT N.hz) Ar na ca arr U ((hra.below hb1).below hU) hna fun V x hx hV =>
      scheck1_any x V ((hV.cell (p := ⟨bn, 0, none⟩) (Nat.lt_of_lt_of_le hbn1 hU.size)).trans ((hU.cell (p := ⟨bn, 0, none⟩) hbn1).trans x0))
  have hX1 := Lib.hid x1
  clear hb1 hr hra hs hs1
  unfold sckN
  rcases chkN_cases N with h0 | h0
  · rw [h0] at hC ⊢
    rw [if_neg (by omega)]
    by_cases hl : arr.length = N.cs.length
    · rw [if_neg (by omega)]
      have hll : na = n := by rw [← hln.out, ← hnn.out]; exact hl
      subst hll
      have hne : ((na : Int) != (na : Int)) = false := by simp
      clear hl h0
      cases ha : arr.any (badT N.hz) with
      | true =>
        rw [ha] at hcT
        clear ha
        go_enter Try.func24, Try.ntmps24
        go_wp2_with fail
        refine hC.out.mono ?_; rintro e w2 ⟨rfl, hb2⟩
        have x1b := (hb2.cell (p := ⟨bn, 1, none⟩) hbn1).trans hX1.out
        go_wp2_with fail
        refine (hcT.out _ hb2).mono ?_; rintro e w3 ⟨rfl, hb3⟩
        go_wp2_with fail
        go_returns
        exact ⟨rfl, by rw [← hbn]; exact hup.out _ (hb2.trans (hb3.mono hb2.size))⟩
      | false =>
        rw [ha] at hcT
        clear ha
        go_enter Try.func24, Try.ntmps24
        go_wp2_with fail
        refine hC.out.mono ?_; rintro e w2 ⟨rfl, hb2⟩
        have x1b := (hb2.cell (p := ⟨bn, 1, none⟩) hbn1).trans hX1.out
        go_wp2_with fail
        refine (hcT.out _ hb2).mono ?_; rintro e w3 ⟨rfl, hb3⟩
        go_wp2_with fail
        go_returns
        exact ⟨rfl, by rw [← hbn]; exact hup.out _ (hb2.trans (hb3.mono hb2.size))⟩
    · rw [if_pos hl]
      have hne : ((na : Int) != (n : Int)) = true := by
        have := hln.out; have := hnn.out
        simp; omega
      clear hl h0 hcT
      go_enter Try.func24, Try.ntmps24
      go_wp2_with fail
      refine hC.out.mono ?_; rintro e w2 ⟨rfl, hb2⟩
      have x1b := (hb2.cell (p := ⟨bn, 1, none⟩) hbn1).trans hX1.out
      go_wp2_with fail
      go_returns
      exact ⟨rfl, hup.out _ hb2⟩
  · rw [h0] at hC ⊢
    rw [if_pos (by omega)]
    clear h0 hcT
    go_enter Try.func24, Try.ntmps24
    go_wp2_with fail
    refine hC.out.mono ?_; rintro e w2 ⟨rfl, hb2⟩
    go_wp2_with fail
    go_returns
    exact ⟨rfl, hup.out _ hb2⟩
end Go.Proofs.Ytonkkibnigdfbaa
namespace Go.Proofs.Ytonkkibnigdfbaa
set_option linter.unusedVariables false
set_option linter.unusedSimpArgs false
/-- a link by which a stop is come to at its label -/
def viaP (N : NetP) (D : List Int) (s : Nat) (l : Lk) : Bool := decide (l.b = (s : Int) ∧ lab D l.a.toNat ≠ W.inf ∧ toL N l (lab D l.a.toNat) = lab D s)
def viaF (N : NetP) (arr D : List Int) (s : Nat) : Int × Int :=
  if lab D s = lab arr s then (-1, 0) else
  match N.ls.findIdx? (viaP N D s) with
  | none => (-1, 0)
  | some i => ((i : Int), match N.ls[i]? with | some l => firstL N l (lab D l.a.toNat) | none => 0)
def viasL (N : NetP) (arr D : List Int) : List (Int × Int) := (List.range D.length).map (viaF N arr D)
theorem viasL_len (N : NetP) (arr D : List Int) : (viasL N arr D).length = D.length := by simp [viasL]
theorem viasL_at (N : NetP) (arr D : List Int) {s : Nat} (h : s < D.length) : (viasL N arr D)[s]? = some (viaF N arr D s) := by simp [viasL, h]
theorem viasL_take (N : NetP) (arr D : List Int) {k : Nat} (h : k < D.length) : (viasL N arr D).take (k + 1) = (viasL N arr D).take k ++ [viaF N arr D k] := by
  rw [List.take_add_one, viasL_at N arr D h]; rfl
theorem viaF_same {N : NetP} {arr D : List Int} {s : Nat} (h : lab D s = lab arr s) : viaF N arr D s = (-1, 0) := if_pos h
theorem viaF_none {N : NetP} {arr D : List Int} {s : Nat} (h : ∀ y ∈ N.ls, viaP N D s y = false) : viaF N arr D s = (-1, 0) := by
  unfold viaF
  split
  · rfl
  · rw [List.findIdx?_eq_none_iff.2 h]
theorem viaF_some {N : NetP} {arr D : List Int} {s i : Nat} {l : Lk} (hne : lab D s ≠ lab arr s) (hl : N.ls[i]? = some l) (hp : viaP N D s l = true) (hno : ∀ y ∈ N.ls.take i, viaP N D s y = false) : viaF N arr D s = ((i : Int), firstL N l (lab D l.a.toNat)) := by
  have h1 : N.ls.findIdx? (viaP N D s) = some i := by
    obtain ⟨hlt, rfl⟩ := List.getElem?_eq_some_iff.1 hl
    rw [List.findIdx?_eq_some_iff_getElem]
    refine ⟨hlt, hp, fun j hj => ?_⟩
    rw [hno _ (List.mem_take_iff_getElem.2 ⟨j, by omega, rfl⟩)]; simp
  unfold viaF
  rw [if_neg hne, h1]
  simp only [hl]
/-- what a via tells -/
theorem viaF_cases (N : NetP) (arr D : List Int) (s : Nat) : (viaF N arr D s = (-1, 0) ∧ (lab D s = lab arr s ∨ ∀ y ∈ N.ls, viaP N D s y = false)) ∨
    ∃ (i : Nat) (l : Lk), lab D s ≠ lab arr s ∧ N.ls[i]? = some l ∧ viaP N D s l = true ∧ viaF N arr D s = ((i : Int), firstL N l (lab D l.a.toNat)) := by
  by_cases h : lab D s = lab arr s
  · exact .inl ⟨viaF_same h, .inl h⟩
  · cases hf : N.ls.findIdx? (viaP N D s) with
    | none =>
      have h1 := List.findIdx?_eq_none_iff.1 hf
      exact .inl ⟨viaF_none h1, .inr h1⟩
    | some i =>
      have h1 := hf
      rw [List.findIdx?_eq_some_iff_getElem] at h1
      obtain ⟨hlt, hp, _⟩ := h1
      refine .inr ⟨i, N.ls[i], h, List.getElem?_eq_getElem hlt, hp, ?_⟩
      unfold viaF
      rw [if_neg h, hf]
      simp only [List.getElem?_eq_getElem hlt]
theorem viaP_iff {N : NetP} {D : List Int} {s : Nat} {l : Lk} : viaP N D s l = true ↔ l.b = (s : Int) ∧ lab D l.a.toNat ≠ W.inf ∧ toL N l (lab D l.a.toNat) = lab D s := by
  unfold viaP; rw [decide_eq_true_iff]
theorem viaP_no {N : NetP} {D : List Int} {s : Nat} {l : Lk} (h : ¬ (l.b = (s : Int) ∧ lab D l.a.toNat ≠ W.inf ∧ toL N l (lab D l.a.toNat) = lab D s)) : viaP N D s l = false := by
  unfold viaP; rw [decide_eq_false_iff_not]; exact h
end Go.Proofs.Ytonkkibnigdfbaa
namespace Go.Proofs.Ytonkkibnigdfbaa
open Go.RowKit Go.Shelf B K
set_option linter.unusedVariables false
set_option linter.unusedSimpArgs false
set_option maxHeartbeats 2000000
theorem infoVia : (Try.prog.info? 59).map (fun i => (i.zero, i.size, i.bytes)) = some (some (.agg #[.int .i64 0, .int .i64 0]), 2, 16) := by kernel_rfl
theorem row2_set {w : World} {b : Nat} {t : TypeId} {z0 z1 : Value} (u0 u1 : Value) (h : w.heap[b]? = some (.cells #[z0, z1] t (0, 0))) :
    w.cell? ⟨b, 0, none⟩ = some z0 ∧ w.cell? ⟨b, 1, none⟩ = some z1 ∧ w.frozen? ⟨b, 0, none⟩ = false ∧ w.frozen? ⟨b, 1, none⟩ = false ∧ ((w.setCell ⟨b, 0, none⟩ u0).setCell ⟨b, 1, none⟩ u1).heap[b]? = some (.cells #[u0, u1] t (0, 0)) := by
  have hb := (Array.getElem?_eq_some_iff.1 h).1
  have e : w.heap[b] = .cells #[z0, z1] t (0, 0) := by rw [Array.getElem?_eq_getElem hb] at h; exact Option.some.inj h
  refine ⟨by rw [cell_of_row _ _ _ _ _ _ h]; rfl, by rw [cell_of_row _ _ _ _ _ _ h]; rfl, by simp [World.frozen?, h], by simp [World.frozen?, h], ?_⟩
  simp [World.setCell, h, hb, Array.getElem_modify, e]
set_option maxRecDepth 100000 in
theorem vias_any {N : NetP} {A B Ar Ao : Option Addr} {n c m d ca co : Nat} {arr D : List Int} (hs : Small N) (hN : OkN N) (hk : LabsOk N D) (w : World) (hr : RNet w N A n B m) (hra : Rd w 1 (numE .i64) Ar n arr) (hro : Rd w 1 (numE .i64) Ao n D) :
    Calls Try.prog 60 #[.agg #[.int .i64 N.hz, .slice A n c, .slice B m d], .slice Ar n ca, .slice Ao n co] w (RetR 2 pairE w (viasL N arr D)) := by
  have hn1 : n ≤ 1000 := by rw [← hr.nn]; exact hs.cn
  have hm1 : m ≤ 1000 := by rw [← hr.mm]; exact hs.ln
  have hnn : Hid (N.cs.length = n) := hr.nn
  have hmm : Hid (N.ls.length = m) := hr.mm
  have hla : Hid (arr.length = n) := hra.len
  have hlo : Hid (D.length = n) := hro.len
  have hb1 : Below w.heap.size w (w.alloc (.cells #[.int .i64 N.hz, .slice A n c, .slice B m d] 25)) := (Below.refl _ w).alloc (Nat.le_refl _) _
  obtain ⟨x0, x1, x2⟩ := rowBx3 w 25 (.int .i64 N.hz) (.slice A n c) (.slice B m d)
  have hbn1 : w.heap.size < (w.alloc (.cells #[.int .i64 N.hz, .slice A n c, .slice B m d] 25)).heap.size := by simp
  obtain ⟨w1, hw1⟩ : ∃ q, w.alloc (.cells #[.int .i64 N.hz, .slice A n c, .slice B m d] 25) = q := ⟨_, rfl⟩
  rw [hw1] at hb1 x0 x1 x2 hbn1
  have hbn9 := Nat.le_of_lt hbn1
  obtain ⟨bn, hbn⟩ : ∃ q, w.heap.size = q := ⟨_, rfl⟩
  have hup : Hid (∀ w2, Below w1.heap.size w1 w2 → Below w.heap.size w w2) := fun w2 h => hb1.trans (h.mono hb1.size)
  rw [hbn] at x0 x1 x2 hbn1
  have hF : Hid (∀ (i t : Int) (U : World), Below w1.heap.size w1 U → Calls Try.prog 86 #[.agg #[.int .i64 N.hz, .slice A n c, .slice B m d], .int .i64 i, .int .i64 t] U fun e w' => e = .returned (.tuple #[.int .i64 (atF N i t), .int .i64 (toF N i t)]) ∧ Below U.heap.size U w') := fun i t U hU => lfirst_any hs i t U ((hr.below hb1).below hU)
  have hR := Lib.hid (hr.below hb1)
  have hRa := Lib.hid (hra.below hb1)
  have hRo := Lib.hid (hro.below hb1)
  have hX : Hid (w1.cell? ⟨bn, 0, none⟩ = some (.int .i64 N.hz) ∧ w1.cell? ⟨bn, 1, none⟩ = some (.slice A n c) ∧ w1.cell? ⟨bn, 2, none⟩ = some (.slice B m d)) := ⟨x0, x1, x2⟩
  have hNH := Lib.hid hN
  have hKH := Lib.hid hk
  have hbnH := Lib.hid hbn
  clear hb1 hr hra hro hs hN hk x0 x1 x2
  go_enter Try.func60, Try.ntmps60
  go_wp2_with fail
  clear hw1 hbn
  go_loopw [7, 17] (fun v i wr => ∃ (k : Nat), k ≤ n ∧ i = .int .i64 k ∧ Hid (wr.ownsRow w1.heap.size 59 2 v k (((viasL N arr D).take k).flatMap pairE)) ∧ Hid (Below w1.heap.size w1 wr)) (fun _ i _ => n - (intOf i).toNat)
  case atStart => exact ⟨0, Nat.zero_le _, rfl, World.ownsRow_nil _ _ _ _, Below.refl _ _⟩
  case round =>
    obtain ⟨k, hkn, rfl, own, hb⟩ := hrel
    by_cases hlt : k < n
    · obtain ⟨bo, oo, t, rfl, hbo, hDt, hct⟩ := (hRo.out.below hb.out).num hlt
      obtain ⟨ba, oa, ta, rfl, hba, hAt, hca⟩ := (hRa.out.below hb.out).num hlt
      have hDk : Hid (lab D k = t) := lab_at hDt
      have hAk : Hid (lab arr k = ta) := lab_at hAt
      rename_i hDt0 hAt0
      clear hDt hAt
      have hv1 : Below wr.heap.size wr (wr.alloc (.cells #[.int .i64 (-1), .int .i64 0] 59)) := (Below.refl _ wr).alloc (Nat.le_refl _) _
      have hvk := heap_alloc_new wr (.cells #[.int .i64 (-1), .int .i64 0] 59)
      have x2 := ((hb.out.trans (hv1.mono hb.out.size)).cell (p := ⟨bn, 2, none⟩) hbn1).trans hX.out.2.2
      obtain ⟨vb, hvb⟩ : ∃ q, wr.heap.size = q := ⟨_, rfl⟩
      rw [hvb] at hvk
      have hvkh := Lib.hid hvk
      have hv1h := Lib.hid hv1
      clear hvk hv1
      have hEnd : Hid (∀ (wq : World) (x y : Int), Below wr.heap.size wr wq → wq.heap[vb]? = some (.cells #[.int .i64 x, .int .i64 y] 59 (0, 0)) → viaF N arr D k = (x, y) →
          wq.cell? ⟨vb, 0, none⟩ = some (.int .i64 x) ∧ wq.cell? ⟨vb, 1, none⟩ = some (.int .i64 y) ∧
          ∃ g c w9, (Builtin.append_ #[46, 46] 46 #[u7, .slice (some ⟨wq.heap.size, 0, none⟩) 1 1]).run Try.prog (wq.alloc (.cells #[.int .i64 x, .int .i64 y] 59)) = .ok (.slice (some ⟨g, 0, none⟩) (k + 1) c) w9 ∧
            w9.ownsRow w1.heap.size 59 2 (.slice (some ⟨g, 0, none⟩) (k + 1) c) (k + 1) (((viasL N arr D).take (k + 1)).flatMap pairE) ∧ Below w1.heap.size w1 w9) := fun wq x y hq hrow hvia => by
        have hlk : ((viasL N arr D).take k).length = k := by rw [List.length_take, viasL_len]; have := hlo.out; omega
        obtain ⟨g, c, w9, hrun, own9, hb9, _⟩ := own_push (enc := pairE) (l := (viasL N arr D).take k) Try.underlying46 infoVia rfl (by decide) pairE_len2 pairE_one (x, y) (by rw [hlk]; exact own_up own.out hq) (by rw [hlk]; omega) (by decide) (hb.out.trans (hq.mono hb.out.size)) (Nat.le_trans hb.out.size hq.size) 0
        rw [hlk] at hrun own9
        refine ⟨by rw [cell_of_row _ _ _ _ _ _ hrow]; rfl, by rw [cell_of_row _ _ _ _ _ _ hrow]; rfl, g, c, w9, hrun, ?_, hb9⟩
        rw [viasL_take N arr D (by have := hlo.out; omega), hvia]
        exact own9
      have hbO := Lib.hid hb.out
      clear hb own hkn
      go_wp2_with fail
      obtain ⟨w2, hw2⟩ : ∃ q, wr.alloc (.cells #[.int .i64 (-1), .int .i64 0] 59) = q := ⟨_, rfl⟩
      rw [hw2] at hvkh hv1h x2 ⊢
      go_loopw [26] (fun j wq => ∃ (i : Nat), i ≤ m ∧ j = .int .i64 i ∧ Hid (Below wr.heap.size wr wq) ∧
        ((Hid (wq.heap[vb]? = some (.cells #[.int .i64 (-1), .int .i64 0] 59 (0, 0))) ∧ Hid (∀ y ∈ N.ls.take i, viaP N D k y = false)) ∨
         ∃ (l : Nat) (f : Int), Hid (wq.heap[vb]? = some (.cells #[.int .i64 l, .int .i64 f] 59 (0, 0))) ∧ Hid (t ≠ ta ∧ viaF N arr D k = ((l : Int), f)))) (fun j _ => m - (intOf j).toNat)
      case atStart => exact ⟨0, Nat.zero_le _, rfl, hv1h, .inl ⟨hvkh, fun y hy => by simp at hy⟩⟩
      case round =>
        clear hv1h hvkh hw2 x2
        obtain ⟨i, him, rfl, hbq, hst⟩ := hrel
        by_cases hlti : i < m
        · have hbw := hbO.out.trans (hbq.out.mono hbO.out.size)
          obtain ⟨l, hl, b, o, pA, pn, pc, kA, kn, kc, rfl, hbl, _, _, c0, c1, c2, c3, c4, c5, c6⟩ := (hR.out.below hbw).lnk hlti
          obtain ⟨⟨la0, la1⟩, ⟨lb0, lb1⟩, _⟩ := okL_iff.1 (hNH.out.lk l (List.mem_of_getElem? hl))
          obtain ⟨a', ha'⟩ : ∃ a' : Nat, l.a = a' := ⟨l.a.toNat, by omega⟩
          obtain ⟨b', hb'⟩ : ∃ b' : Nat, l.b = b' := ⟨l.b.toNat, by omega⟩
          obtain ⟨ln, hln⟩ : ∃ q, l.len = q := ⟨_, rfl⟩
          obtain ⟨ld, hld⟩ : ∃ q, l.door = q := ⟨_, rfl⟩
          obtain ⟨lo, hlo2⟩ : ∃ q, l.no = q := ⟨_, rfl⟩
          rw [ha'] at c0; rw [hb'] at c1; rw [hln] at c2; rw [hld] at c3; rw [hlo2] at c4
          have ha'n : a' < n := by have := hnn.out; omega
          have hl := Lib.hid hl
          rename_i hl0; clear hl0
          have hab := Lib.hid ha'
          have hbb := Lib.hid hb'
          have ha9 : Below wr.heap.size wr (wr.alloc (.cells #[.int .i64 a', .int .i64 b', .int .i64 ln, .bool ld, .int .i64 lo, .slice pA pn pc, .slice kA kn kc] 38)) := (Below.refl _ wr).alloc (Nat.le_refl _) _
          obtain ⟨d0, d1, d2, d3, d4, d5, d6⟩ := rowBx7 wr 38 (.int .i64 a') (.int .i64 b') (.int .i64 ln) (.bool ld) (.int .i64 lo) (.slice pA pn pc) (.slice kA kn kc)
          have hlb3 : wr.heap.size < (wr.alloc (.cells #[.int .i64 a', .int .i64 b', .int .i64 ln, .bool ld, .int .i64 lo, .slice pA pn pc, .slice kA kn kc] 38)).heap.size := by simp
          have hb3 := hbq.out.trans (ha9.mono hbq.out.size)
          have hv9' : ∀ (v0 v1 : Value), wr.heap[vb]? = some (.cells #[v0, v1] 59 (0, 0)) → (wr.alloc (.cells #[.int .i64 a', .int .i64 b', .int .i64 ln, .bool ld, .int .i64 lo, .slice pA pn pc, .slice kA kn kc] 38)).heap[vb]? = some (.cells #[v0, v1] 59 (0, 0)) := fun v0 v1 h => (ha9.block vb (Array.getElem?_eq_some_iff.1 h).1).trans h
          have hv9 := Lib.hid hv9'
          obtain ⟨w3, hw3⟩ : ∃ q, wr.alloc (.cells #[.int .i64 a', .int .i64 b', .int .i64 ln, .bool ld, .int .i64 lo, .slice pA pn pc, .slice kA kn kc] 38) = q := ⟨_, rfl⟩
          rw [hw3] at d0 d1 hlb3 hb3 hv9
          obtain ⟨lb, hlbe⟩ : ∃ q, wr.heap.size = q := ⟨_, rfl⟩
          rw [hlbe] at d0 d1 hlb3
          have hbw3 := Lib.hid (hbO.out.trans (hb3.mono hbO.out.size))
          have hb3 := Lib.hid hb3
          have hltI : (i : Int) < (m : Int) := by omega
          have hkI : (k : Int) < (n : Int) := by omega
          have hct3 := (hb3.out.cell (p := ⟨bo, oo + k, none⟩) hbo).trans hct
          have hca3 := (hb3.out.cell (p := ⟨ba, oa + k, none⟩) hba).trans hca
          obtain ⟨b9, o9, x, he9, hbx, hDa, hcx⟩ := (hRo.out.below hbw3.out).num ha'n
          cases he9
          have hDaH : Hid (lab D l.a.toNat = x) := by show _ = _; rw [hab.out, Int.toNat_natCast]; exact lab_at hDa
          have hk9 : Hid (lab D k = t) := hDk
          have hnoS : Hid (¬ (l.b = (k : Int) ∧ x ≠ W.inf ∧ toL N l x = t) → viaP N D k l = false) := fun h => viaP_no (by rw [hDaH.out, hk9.out]; exact h)
          have han9 : (a' : Int) < (n : Int) := by omega
          clear ha9 la0 la1 lb0 lb1 ha' hb' hln hld hlo2 hbw d2 d3 d4 d5 d6 hDa hv9'
          rcases hst with ⟨hrow, hno⟩ | ⟨lk, f, hrow, hfd⟩
          rotate_left
          · have hrow3 := Lib.hid (hv9.out _ _ hrow.out)
            have m0 : w3.cell? ⟨vb, 0, none⟩ = some (.int .i64 (lk : Int)) := by rw [cell_of_row _ _ _ _ _ _ hrow3.out]; rfl
            have hne : (t == ta) = false := by have := hfd.out.1; simp [this]
            have hnn0 : decide ((0 : Int) ≤ (lk : Int)) = true := decide_eq_true (by omega)
            clear hrow hv9 hcx
            obtain ⟨vc0, vc1, gg, cc, w9, hrun, own9, hb9⟩ := hEnd.out _ (lk) (f) hb3.out hrow3.out hfd.out.2
            have own9 := Lib.hid own9
            have hb9 := Lib.hid hb9
            go_wp2_with (at_builtin; refine wpList_append_run ?a1 (.tmp 72) (.tmp 74) 46 ?a2 ?a3 ?a4 hrun ?_)
            case a1 => rfl
            case a2 => rfl
            try (case a3 => rfl)
            try (case a4 => rfl)
            go_roundw
            case rel => exact ⟨k + 1, by omega, by go_num, own9, hb9⟩
            case measure => simp [intOf]; omega
          have hrow3 := Lib.hid (hv9.out _ _ hrow.out)
          have m0 : w3.cell? ⟨vb, 0, none⟩ = some (.int .i64 (-1)) := by rw [cell_of_row _ _ _ _ _ _ hrow3.out]; rfl
          clear hrow hv9
          by_cases htt : t = ta
          · subst htt
            have he : (t == t) = true := by simp
            have hvia : Hid (viaF N arr D k = (-1, 0)) := viaF_same (hDk.out.trans hAk.out.symm)
            clear hno hnoS
            obtain ⟨vc0, vc1, gg, cc, w9, hrun, own9, hb9⟩ := hEnd.out _ (-1) (0) hb3.out hrow3.out hvia.out
            have own9 := Lib.hid own9
            have hb9 := Lib.hid hb9
            go_wp2_with (at_builtin; refine wpList_append_run ?a1 (.tmp 72) (.tmp 74) 46 ?a2 ?a3 ?a4 hrun ?_)
            case a1 => rfl
            case a2 => rfl
            try (case a3 => rfl)
            try (case a4 => rfl)
            go_roundw
            case rel => exact ⟨k + 1, by omega, by go_num, own9, hb9⟩
            case measure => simp [intOf]; omega
          have hne : (t == ta) = false := by simp [htt]
          by_cases hbk : b' = k
          rotate_left
          · have hn : ((b' : Int) != (k : Int)) = true := by simp; omega
            have hno2 : Hid (∀ y ∈ N.ls.take (i + 1), viaP N D k y = false) := take_no hl.out hno.out (hnoS.out (by rw [hbb.out]; omega))
            clear hno hnoS
            go_wp2_with fail
            go_roundw
            case rel => exact ⟨i + 1, by omega, by go_num, hb3, .inl ⟨hrow3, hno2⟩⟩
            case measure => simp [intOf]; omega
          have hn : ((b' : Int) != (k : Int)) = false := by simp [hbk]
          by_cases hxi : x = 4611686018427387904
          · have hxe : (x == 4611686018427387904) = true := by simp [hxi]
            have hno2 : Hid (∀ y ∈ N.ls.take (i + 1), viaP N D k y = false) := take_no hl.out hno.out (hnoS.out (fun h => h.2.1 hxi))
            clear hno hnoS hxi hbk
            go_wp2_with fail
            go_roundw
            case rel => exact ⟨i + 1, by omega, by go_num, hb3, .inl ⟨hrow3, hno2⟩⟩
            case measure => simp [intOf]; omega
          have hxe : (x == 4611686018427387904) = false := by simp [hxi]
          have hkx := hKH.out.fin (s := l.a.toNat) (by rw [hDaH.out]; exact hxi)
          rw [hDaH.out] at hkx
          have hz2 := hNH.out.hz
          obtain ⟨v, hv⟩ : ∃ v, toF N (i : Int) x = v := ⟨_, rfl⟩
          obtain ⟨u, hu⟩ : ∃ u, atF N (i : Int) x = u := ⟨_, rfl⟩
          have hvL : Hid (toL N l x = v) := (toF_ok hNH.out hl.out (by omega)).symm.trans hv
          have huL : Hid (firstL N l x = u) := (atF_ok hNH.out hl.out (by omega)).symm.trans hu
          have hFc : Hid (∀ U, Below w3.heap.size w3 U → Calls Try.prog 86 #[.agg #[.int .i64 N.hz, .slice A n c, .slice (some ⟨b, o, none⟩) m d], .int .i64 (i : Int), .int .i64 x] U fun e w' => e = .returned (.tuple #[.int .i64 u, .int .i64 v]) ∧ Below U.heap.size U w') := fun U hU => by
            have := hF.out (i : Int) x U (hbw3.out.trans (hU.mono hbw3.out.size))
            rwa [hv, hu] at this
          have n0 := (hbw3.out.cell (p := ⟨bn, 0, none⟩) hbn1).trans hX.out.1
          have n1 := (hbw3.out.cell (p := ⟨bn, 1, none⟩) hbn1).trans hX.out.2.1
          have n2 := (hbw3.out.cell (p := ⟨bn, 2, none⟩) hbn1).trans hX.out.2.2
          have hbn3 := Nat.lt_of_lt_of_le hbn1 hbw3.out.size
          have hbk := Lib.hid hbk
          rename_i hbk0
          clear hbk0
          have hxi := Lib.hid hxi
          rename_i hxi0
          clear hxi0
          have htt := Lib.hid htt
          rename_i htt0
          clear htt0
          clear hv hu hz2 hkx
          go_upto_region 11 with fail
          refine wp_region_below w3.heap.size (by kernel_rfl) (by kernel_rfl) ?_
          intro C hC
          repeat (go_big_quiet_step (first
            | ((intro _; with_reducible rfl))
            | (intro hc; have z0 := (hc.cell (p := ⟨bn, _, none⟩) hbn3).trans n0; have z1 := (hc.cell (p := ⟨bn, _, none⟩) hbn3).trans n1; have z2 := (hc.cell (p := ⟨bn, _, none⟩) hbn3).trans n2; have z3 := (hc.cell (p := ⟨lb, _, none⟩) hlb3).trans d0; have z4 := (hc.cell (p := ⟨bo, _, none⟩) hbx).trans hcx; simp only [z0, z1, z2, z3, z4, Result.andThen]; exact ⟨trivial, rfl⟩)
            | (intro hc; refine (hFc.out _ hc).mono ?_; rintro e w'' ⟨rfl, hs⟩; exact ⟨rfl, hc.trans (hs.mono hc.size)⟩)))
          refine wpQuiet_nil ?_
          intro w4 hb4
          clear hC
          have hb4h := Lib.hid (hb3.out.trans (hb4.mono hb3.out.size))
          have hrow4 := (hb4.block vb (Array.getElem?_eq_some_iff.1 hrow3.out).1).trans hrow3.out
          obtain ⟨q0, q1, f0, f1, hnew⟩ := row2_set (.int .i64 (i : Int)) (.int .i64 u) hrow4
          have hb5 := Lib.hid ((hb4h.out.setCell (show _ ≤ (⟨vb, 0, none⟩ : Addr).block from Nat.le_of_eq hvb) (.int .i64 (i : Int))).setCell (show _ ≤ (⟨vb, 1, none⟩ : Addr).block from Nat.le_of_eq hvb) (.int .i64 u))
          have hnew := Lib.hid hnew
          have hrow4 := Lib.hid hrow4
          by_cases hvt : v = t
          · have hve : (v == t) = true := by simp [hvt]
            have hvia : Hid (t ≠ ta ∧ viaF N arr D k = ((i : Int), u)) := ⟨htt.out, by
              have h1 := viaF_some (arr := arr) (D := D) (s := k) (by rw [hDk.out, hAk.out]; exact htt.out) hl.out (viaP_iff.2 ⟨by rw [hbb.out, hbk.out], by rw [hDaH.out]; exact hxi.out, by rw [hDaH.out, hvL.out, hDk.out]; exact hvt⟩) hno.out
              rw [h1, hDaH.out, huL.out]⟩
            clear hno hnoS hvt hrow4
            go_wp2_with fail
            go_roundw
            case rel => exact ⟨i + 1, by omega, by go_num, hb5, .inr ⟨i, u, hnew, hvia⟩⟩
            case measure => simp [intOf]; omega
          · have hve : (v == t) = false := by simp [hvt]
            have hno2 : Hid (∀ y ∈ N.ls.take (i + 1), viaP N D k y = false) := take_no hl.out hno.out (hnoS.out (fun h => hvt (by rw [← hvL.out]; exact h.2.2)))
            clear hno hnoS hvt hnew hb5
            go_wp2_with fail
            go_roundw
            case rel => exact ⟨i + 1, by omega, by go_num, hb4h, .inl ⟨hrow4, hno2⟩⟩
            case measure => simp [intOf]; omega
        · obtain rfl : i = m := by omega
          have htake : Hid (N.ls.take i = N.ls) := by show _ = _; rw [List.take_of_length_le (by rw [hmm.out]; exact Nat.le_refl _)]
          rcases hst with ⟨hrow, hno⟩ | ⟨l, f, hrow, hfd⟩
          · have hno2 : Hid (viaF N arr D k = (-1, 0)) := viaF_none (by rw [htake.out] at hno; exact hno.out)
            obtain ⟨vc0, vc1, gg, cc, w9, hrun, own9, hb9⟩ := hEnd.out _ (-1) (0) hbq.out hrow.out hno2.out
            have own9 := Lib.hid own9
            have hb9 := Lib.hid hb9
            go_wp2_with (at_builtin; refine wpList_append_run ?a1 (.tmp 72) (.tmp 74) 46 ?a2 ?a3 ?a4 hrun ?_)
            case a1 => rfl
            case a2 => rfl
            try (case a3 => rfl)
            try (case a4 => rfl)
            go_roundw
            case rel => exact ⟨k + 1, by omega, by go_num, own9, hb9⟩
            case measure => simp [intOf]; omega
          · clear htake
            obtain ⟨vc0, vc1, gg, cc, w9, hrun, own9, hb9⟩ := hEnd.out _ (l) (f) hbq.out hrow.out hfd.out.2
            have own9 := Lib.hid own9
            have hb9 := Lib.hid hb9
            go_wp2_with (at_builtin; refine wpList_append_run ?a1 (.tmp 72) (.tmp 74) 46 ?a2 ?a3 ?a4 hrun ?_)
            case a1 => rfl
            case a2 => rfl
            try (case a3 => rfl)
            try (case a4 => rfl)
            go_roundw
            case rel => exact ⟨k + 1, by omega, by go_num, own9, hb9⟩
            case measure => simp [intOf]; omega
    · obtain rfl : k = n := by omega
      obtain ⟨A', c', rfl, r1, r2, r3⟩ := Rd.of_own pairE_len2 (by have := hlo.out; simp [viasL_len]; omega) own.out
      rw [List.take_of_length_le (by rw [viasL_len]; have := hlo.out; omega)] at r1
      have r1 := Lib.hid r1
      have hlen : Hid ((viasL N arr D).length = k) := by show _ = _; rw [viasL_len]; exact hlo.out
      go_wp2_with fail
      go_returns
      refine .mk A' c' (by rw [hlen.out]; rfl) (by rw [hlen.out]; exact r1.out) (by rw [hlen.out]; exact r2) r3 ?_
      exact hup.out _ hb.out
end Go.Proofs.Ytonkkibnigdfbaa
namespace Go.Proofs.Ytonkkibnigdfbaa
open Go.RowKit Go.Shelf B K
set_option linter.unusedVariables false
set_option linter.unusedSimpArgs false
set_option maxHeartbeats 2000000
/-- what All hands back where labels may be -/
def RetAll (N : NetP) (arr : List Int) (n : Nat) (w : World) (e : Ending) (w' : World) : Prop :=
  ∃ A c D Av cv, e = .returned (.tuple #[.slice A n c, .slice Av n cv, .int .i64 0]) ∧ Spr N arr D ∧ RowI w' w.heap.size A n D ∧ n ≤ c ∧ c ≤ 9223372036854775807 ∧ Rd w' 2 pairE Av n (viasL N arr D) ∧ n ≤ cv ∧ cv ≤ 9223372036854775807 ∧ Below w.heap.size w w'
theorem all_bad {N : NetP} {A B Ar : Option Addr} {n c m d na ca : Nat} {arr : List Int} {w : World} (hs : Small N) (hr : RNet w N A n B m) (hra : Rd w 1 (numE .i64) Ar na arr) (hna : na ≤ 1099511627776) (hb : sckN N arr ≠ 0) :
    Calls Try.prog 25 #[.agg #[.int .i64 N.hz, .slice A n c, .slice B m d], .slice Ar na ca] w fun e w' => e = .returned (.tuple #[.slice none 0 0, .slice none 0 0, .int .i64 (sckN N arr)]) ∧ Below w.heap.size w w' := by
  have hb1 : Below w.heap.size w (w.alloc (.cells #[.int .i64 N.hz, .slice A n c, .slice B m d] 25)) := (Below.refl _ w).alloc (Nat.le_refl _) _
  obtain ⟨x0, x1, x2⟩ := rowBx3 w 25 (.int .i64 N.hz) (.slice A n c) (.slice B m d)
  obtain ⟨w1, hw1⟩ : ∃ q, w.alloc (.cells #[.int .i64 N.hz, .slice A n c, .slice B m d] 25) = q := ⟨_, rfl⟩
  rw [hw1] at hb1 x0 x1 x2
  have hup : Hid (∀ w2, Below w1.heap.size w1 w2 → Below w.heap.size w w2) := fun w2 h => hb1.trans (h.mono hb1.size)
  obtain ⟨bn, hbn⟩ : ∃ q, w.heap.size = q := ⟨_, rfl⟩
  rw [hbn] at x0 x1 x2
  have hC := Lib.hid (scheck_any (c := c) (d := d) (ca := ca) hs w1 (hr.below hb1) (hra.below hb1) hna)
  obtain ⟨e, he⟩ : ∃ e, sckN N arr = e := ⟨_, rfl⟩
  rw [he] at hC hb ⊢
  have hne : (e != 0) = true := by simp [hb]
  have hbnH := Lib.hid hbn
  clear hb1 hr hra hs he hb
  go_enter Try.func25, Try.ntmps25
  go_wp2_with fail
  refine hC.out.mono ?_; rintro e' w2 ⟨rfl, hb2⟩
  go_wp2_with fail
  go_returns
  exact ⟨rfl, by first | exact hup.out _ hb2 | (rw [← hbnH.out]; exact hup.out _ hb2)⟩
set_option maxRecDepth 100000 in
theorem all_ok {N : NetP} {A B Ar : Option Addr} {n c m d ca : Nat} {arr : List Int} {w : World} (hs : Small N) (hr : RNet w N A n B m) (hra : Rd w 1 (numE .i64) Ar n arr) (hN : OkN N) (hk : LabsOk N arr) :
    Calls Try.prog 25 #[.agg #[.int .i64 N.hz, .slice A n c, .slice B m d], .slice Ar n ca] w (RetAll N arr n w) := by
  have hn : n ≤ 1000 := by rw [← hr.nn]; exact hs.cn
  have hb1 : Below w.heap.size w (w.alloc (.cells #[.int .i64 N.hz, .slice A n c, .slice B m d] 25)) := (Below.refl _ w).alloc (Nat.le_refl _) _
  obtain ⟨x0, x1, x2⟩ := rowBx3 w 25 (.int .i64 N.hz) (.slice A n c) (.slice B m d)
  have hbn1 : w.heap.size < (w.alloc (.cells #[.int .i64 N.hz, .slice A n c, .slice B m d] 25)).heap.size := by simp
  obtain ⟨w1, hw1⟩ : ∃ q, w.alloc (.cells #[.int .i64 N.hz, .slice A n c, .slice B m d] 25) = q := ⟨_, rfl⟩
  rw [hw1] at hb1 x0 x1 x2 hbn1
  have hbn9 := Nat.le_of_lt hbn1
  have hup : Hid (∀ w2, Below w1.heap.size w1 w2 → Below w.heap.size w w2) := fun w2 h => hb1.trans (h.mono hb1.size)
  obtain ⟨bn, hbn⟩ : ∃ q, w.heap.size = q := ⟨_, rfl⟩
  rw [hbn] at x0 x1 x2 hbn1
  have hC := Lib.hid (scheck_any (c := c) (d := d) (ca := ca) hs w1 (hr.below hb1) (hra.below hb1) (by omega))
  rw [sck_iff.2 ⟨hN, hk⟩] at hC
  have hR := Lib.hid (hr.below hb1)
  have hRa := Lib.hid (hra.below hb1)
  have hsH := Lib.hid hs
  have hNH := Lib.hid hN
  have hKH := Lib.hid hk
  have hln : Hid (N.cs.length = n) := hr.nn
  have hbnH := Lib.hid hbn
  clear hb1 hr hra hs hN hk
  go_enter Try.func25, Try.ntmps25
  go_wp2_with fail
  refine hC.out.mono ?_; rintro e w2 ⟨rfl, hb2⟩
  have y0 := (hb2.cell (p := ⟨bn, 0, none⟩) hbn1).trans x0
  have y1 := (hb2.cell (p := ⟨bn, 1, none⟩) hbn1).trans x1
  have y2 := (hb2.cell (p := ⟨bn, 2, none⟩) hbn1).trans x2
  go_wp2_with fail
  refine (settle_any (c := c) (d := d) (ca := ca) hsH.out hNH.out hKH.out w2 (hR.out.below hb2) (hRa.out.below hb2)).mono ?_; rintro e w3 ⟨A3, c3, D, rfl, hS, hI, hc1, hc2, hb3⟩
  have hb13 := hb2.trans (hb3.mono hb2.size)
  have z0 := (hb13.cell (p := ⟨bn, 0, none⟩) hbn1).trans x0
  have z1 := (hb13.cell (p := ⟨bn, 1, none⟩) hbn1).trans x1
  have z2 := (hb13.cell (p := ⟨bn, 2, none⟩) hbn1).trans x2
  have hV := Lib.hid (vias_any (c := c) (d := d) (ca := ca) (co := c3) hsH.out hNH.out hS.ok w3 (hR.out.below hb13) (hRa.out.below hb13) hI.rd)
  have hvl : (viasL N arr D).length = n := by rw [viasL_len]; exact hI.len
  have hV2 : Hid (Calls Try.prog 60 #[.agg #[.int .i64 N.hz, .slice A n c, .slice B m d], .slice Ar n ca, .slice A3 n c3] w3 fun e w' => ∃ Av cv, e = .returned (.slice Av n cv) ∧ Rd w' 2 pairE Av n (viasL N arr D) ∧ n ≤ cv ∧ cv ≤ 9223372036854775807 ∧ Below w3.heap.size w3 w') := by
    refine hV.out.mono ?_
    rintro e w' ⟨Av, cv, h1, h2, h3, h4, h5⟩
    rw [hvl] at h1 h2 h3
    exact ⟨Av, cv, h1, h2, h3, h4, h5⟩
  have hS := Lib.hid hS
  have hI := Lib.hid hI
  have hb13 := Lib.hid hb13
  clear hV hvl
  go_wp2_with fail
  refine hV2.out.mono ?_; rintro e w4 ⟨Av, cv, rfl, hrv, hv1, hv2, hb4⟩
  have hb14 := hb13.out.trans (hb4.mono hb13.out.size)
  have hrv := Lib.hid hrv
  clear y0 y1 y2 z0 z1 z2
  go_wp2_with fail
  go_returns
  have hI4 := (hI.out.below hb4).mono (show w.heap.size ≤ w2.heap.size by have := hup.out _ hb2; exact this.size)
  exact ⟨A3, c3, D, Av, cv, rfl, hS.out, hI4, hc1, hc2, hrv.out, hv1, hv2, hup.out _ hb14⟩
end Go.Proofs.Ytonkkibnigdfbaa
namespace Go.Proofs.Ytonkkibnigdfbaa
open Go.RowKit Go.Shelf B K
set_option linter.unusedVariables false
set_option linter.unusedSimpArgs false
set_option maxHeartbeats 2000000
/-- a row of n cells of which the first k hold v -/
def rowV (n k : Nat) (v : Int) : List Value := List.replicate k (.int .i64 v) ++ List.replicate (n - k) (.int .i64 0)
theorem rowV_size (n k : Nat) (v : Int) : (rowV n k v).toArray.size = k + (n - k) := by simp [rowV]
theorem rowV_step {n k : Nat} {v : Int} (hk : 0 < k) (hlt : k < n) : (rowV n k v).toArray.toList.take k ++ List.replicate (min k (n - k)) (.int .i64 v) ++ (rowV n k v).toArray.toList.drop (k + (List.replicate (min k (n - k)) (Value.int .i64 v)).length) = rowV n (k + min k (n - k)) v := by
  have e1 : ((List.replicate k (Value.int .i64 v)) ++ List.replicate (n - k) (Value.int .i64 0)).take k = List.replicate k (Value.int .i64 v) := by
    rw [List.take_append_of_le_length (by simp)]; simp
  have e2 : ((List.replicate k (Value.int .i64 v)) ++ List.replicate (n - k) (Value.int .i64 0)).drop (k + min k (n - k)) = List.replicate (n - (k + min k (n - k))) (Value.int .i64 0) := by
    rw [List.drop_append, List.drop_eq_nil_of_le (by simp), List.nil_append, List.drop_replicate, List.length_replicate]
    congr 1
    omega
  simp only [rowV, List.length_replicate]
  rw [e1, e2, List.replicate_append_replicate]
theorem rowV_src {w : World} {ob n k : Nat} {v : Int} (h : w.heap[ob]? = some (.cells (rowV n k v).toArray 2 (0, 0))) (hk : 0 < k) (hlt : k < n) : ∀ (j : Nat) (u : Value), (List.replicate (min k (n - k)) (Value.int .i64 v))[j]? = some u → w.cell? ((⟨ob, 0, none⟩ : Addr).add j) = some u := fun j u hu => by
  rw [List.getElem?_replicate] at hu
  split at hu
  · rename_i hj
    cases hu
    have e : ((⟨ob, 0, none⟩ : Addr).add j) = ⟨ob, j, none⟩ := by
      unfold Addr.add
      split <;> simp_all
    rw [e, cell_of_row _ _ _ _ _ _ h]
    simp only [rowV, List.getElem?_toArray]
    rw [List.getElem?_append_left (by simp; omega), List.getElem?_replicate, if_pos (by omega)]
  · cases hu
def GC (w0 : World) (ob n k : Nat) (v : Int) (fl : Nat → Bool) (xs : Nat → Value) (w : World) : Prop :=
  But w0 w [ob] ∧ (fl 7 = false → w.heap[ob]? = some (.cells (rowV n k v).toArray 2 (0, 0))) ∧ (fl 7 = true → w.heap[ob]? = some (.cells (rowV n (k + min k (n - k)) v).toArray 2 (0, 0))) ∧
  (fl 9 = false → xs 9 = .int .i64 (k : Int)) ∧ (fl 9 = true → xs 9 = .int .i64 ((k : Int) + ((min k (n - k) : Nat) : Int)) ∧ fl 0 = true ∧ fl 2 = true ∧ fl 5 = true)
section
variable {w0 w : World} {ob n k : Nat} {v : Int} {fl : Nat → Bool} {xs : Nat → Value} {x : Value}
theorem GC.start (h7 : fl 7 = false) (h9 : fl 9 = false) (hx : xs 9 = .int .i64 (k : Int)) (hob : w0.heap[ob]? = some (.cells (rowV n k v).toArray 2 (0, 0))) : GC w0 ob n k v fl xs { w0 with drawn := w0.drawn + 1 } :=
  ⟨⟨rfl, rfl, rfl, Nat.le_refl _, fun _ _ _ => rfl⟩, fun _ => hob, fun h => (by rw [h7] at h; cases h), fun _ => hx, fun h => (by rw [h9] at h; cases h)⟩
theorem GC.at9 (H : GC w0 ob n k v fl xs w) (h : fl 9 ≠ true) : xs 9 = .int .i64 (k : Int) := H.2.2.2.1 (by simpa using h)
theorem GC.rd0 (H : GC w0 ob n k v fl xs w) (h : fl 0 = false) : xs 9 = .int .i64 (k : Int) := H.at9 fun e => by rw [(H.2.2.2.2 e).2.1] at h; cases h
theorem GC.rd2 (H : GC w0 ob n k v fl xs w) (h : fl 2 = false) : xs 9 = .int .i64 (k : Int) := H.at9 fun e => by rw [(H.2.2.2.2 e).2.2.1] at h; cases h
theorem GC.rd5 (H : GC w0 ob n k v fl xs w) (h : fl 5 = false) : xs 9 = .int .i64 (k : Int) := H.at9 fun e => by rw [(H.2.2.2.2 e).2.2.2] at h; cases h
theorem GC.s0 (H : GC w0 ob n k v fl xs w) : GC w0 ob n k v (updB fl 0) (upd xs 0 x) w := ⟨H.1, H.2.1, H.2.2.1, H.2.2.2.1, fun h => ⟨(H.2.2.2.2 h).1, rfl, (H.2.2.2.2 h).2.2⟩⟩
theorem GC.s2 (H : GC w0 ob n k v fl xs w) : GC w0 ob n k v (updB fl 2) (upd xs 2 x) w := ⟨H.1, H.2.1, H.2.2.1, H.2.2.2.1, fun h => ⟨(H.2.2.2.2 h).1, (H.2.2.2.2 h).2.1, rfl, (H.2.2.2.2 h).2.2.2⟩⟩
theorem GC.s5 (H : GC w0 ob n k v fl xs w) : GC w0 ob n k v (updB fl 5) (upd xs 5 x) w := ⟨H.1, H.2.1, H.2.2.1, H.2.2.2.1, fun h => ⟨(H.2.2.2.2 h).1, (H.2.2.2.2 h).2.1, (H.2.2.2.2 h).2.2.1, rfl⟩⟩
theorem GC.s7 (H : GC w0 ob n k v fl xs w) (h7 : fl 7 = false) : GC w0 ob n k v (updB fl 7) (upd xs 7 x) (w.setRow ob (rowV n (k + min k (n - k)) v).toArray) := by
  obtain ⟨g1, g2, g3, g4, g5⟩ := H
  have hb : But w (w.setRow ob (rowV n (k + min k (n - k)) v).toArray) [ob] := ⟨rfl, rfl, rfl, by simp, fun b _ hx => setRow_other _ _ _ _ (by simpa using hx)⟩
  exact ⟨g1.trans hb, fun h => (by cases h), fun _ => setRow_heap _ _ _ _ _ _ (g2 h7), g4, g5⟩
theorem GC.s9 (H : GC w0 ob n k v fl xs w) (h0 : fl 0 = true) (h2 : fl 2 = true) (h5 : fl 5 = true) : GC w0 ob n k v (updB fl 9) (upd xs 9 (.int .i64 ((k : Int) + ((min k (n - k) : Nat) : Int)))) w :=
  ⟨H.1, H.2.1, H.2.2.1, fun h => (by cases h), fun _ => ⟨rfl, h0, h2, h5⟩⟩
end
set_option maxRecDepth 100000 in
theorem rep_any (v : Int) (n g : Nat) (w : World) (h1 : 1 ≤ n) (hn : n ≤ 256) (hg : g < w.heap.size) (hv : w.cell? ⟨g, 0, none⟩ = some (.int .i64 v)) :
    Calls Try.prog 56 #[.slice (some ⟨g, 0, none⟩) 1 1, .int .i64 n] w fun e w' => ∃ ob, e = .returned (.slice (some ⟨ob, 0, none⟩) n n) ∧ w.heap.size ≤ ob ∧ w'.heap[ob]? = some (.cells (List.replicate n (.int .i64 v)).toArray 2 (0, 0)) ∧ Below w.heap.size w w' := by
  obtain ⟨ob, hobe⟩ : ∃ q, w.heap.size = q := ⟨_, rfl⟩
  have hM : Hid (Calls Try.prog 80 #[.int .u64 1, .int .u64 n] w fun e w' => e = .returned (.tuple #[.int .u64 0, .int .u64 n]) ∧ w = w') := by
    have := Any.bits_Mul Ytonkkibnigdfbaa.mulL 1 n (by omega) (by omega) w
    rw [Nat.one_mul, Nat.div_eq_of_lt (by omega), Nat.mod_eq_of_lt (by omega)] at this
    exact this.mono fun e w' h => ⟨h.1, h.2.symm⟩
  have hmk : (Instr.makeSlice 40 (.int .i64 (n : Int)) (.int .i64 (n : Int))).run Try.prog w = .ok (.slice (some ⟨ob, 0, none⟩) n n) (w.alloc (.cells (madeCells #[.int .i64 0] n) 2)) := by
    rw [← hobe]
    obtain ⟨i, hi, hz, hs, hb⟩ := info_parts (show (Try.prog.info? 2).map (fun i => (i.zero, i.size, i.bytes)) = some (some (.int .i64 0), 1, 8) by kernel_rfl)
    have := run_make w 40 2 i _ Try.underlying40 hi hz .i64 .i64 (n : Int) (n : Int) (by omega) (Int.le_refl _) (by rw [hb]; omega) (by omega)
    rw [hs] at this
    simpa [Value.cells] using this
  have hwn : IntKind.u64.wrap (n : Int) = n := by rw [IntKind.wrap_u64]; omega
  have hwn2 : IntKind.i64.wrap (n : Int) = n := by rw [IntKind.wrap_i64]; omega
  have hd1 : decide ((9223372036854775807 : Int) < (n : Int)) = false := decide_eq_false (by omega)
  have hd0 : decide ((n : Int) < 0) = false := decide_eq_false (by omega)
  have hnew := heap_alloc_new w (.cells (madeCells #[.int .i64 0] n) 2)
  rw [hobe] at hnew
  have hb0 : Below w.heap.size w (w.alloc (.cells (madeCells #[.int .i64 0] n) 2)) := (Below.refl _ w).alloc (Nat.le_refl _) _
  have hv1 := (hb0.cell (p := ⟨g, 0, none⟩) hg).trans hv
  obtain ⟨W1, hW1⟩ : ∃ q, w.alloc (.cells (madeCells #[.int .i64 0] n) 2) = q := ⟨_, rfl⟩
  rw [hW1] at hnew hb0 hmk hv1
  have hcp : (Builtin.copy_ #[40, 40] 3 #[.slice (some ⟨ob, 0, none⟩) n n, .slice (some ⟨g, 0, none⟩) 1 1]).run Try.prog W1 = .ok (.int .i64 1) (W1.setRow ob (rowV n 1 v).toArray) := by
    have := run_copy_row (P := Try.prog) W1 40 40 3 2 ob 0 n n ⟨g, 0, none⟩ 1 1 (madeCells #[.int .i64 0] n) 2 [.int .i64 v] Try.underlying40 (by kernel_rfl) hnew (Nat.min_eq_left h1).symm (fun j u hu => by
      have hj : j = 0 := by
        have := (List.getElem?_eq_some_iff.1 hu).1
        simpa using this
      subst hj
      simp at hu; subst hu
      have e : ((⟨g, 0, none⟩ : Addr).add 0) = ⟨g, 0, none⟩ := by
        unfold Addr.add
        split <;> simp_all
      rw [e]; exact hv1) (by simp [size_madeCells]; omega) (fun u hu => by simp at hu; subst hu; rfl)
    rw [toList_madeCells_one] at this
    simpa [rowV, goInt] using this
  have hob1 : (W1.setRow ob (rowV n 1 v).toArray).heap[ob]? = some (.cells (rowV n 1 v).toArray 2 (0, 0)) := setRow_heap _ _ _ _ _ _ hnew
  have hb1 : Below w.heap.size w (W1.setRow ob (rowV n 1 v).toArray) := hb0.trans ⟨rfl, rfl, rfl, by simp, fun b hb => setRow_other _ _ _ _ (by omega)⟩
  obtain ⟨W2, hW2⟩ : ∃ q, W1.setRow ob (rowV n 1 v).toArray = q := ⟨_, rfl⟩
  rw [hW2] at hob1 hb1 hcp
  clear hW1 hW2 hnew hb0 hv1 hv
  have hobe2 := Lib.hid hobe
  clear hobe
  go_enter Try.func56, Try.ntmps56
  go_wp2_with (go_at_call 80; refine hM.out.mono ?_; rintro e w' ⟨rfl, rfl⟩)
  go_loopw [8] (fun i wr => ∃ (k : Nat), 0 < k ∧ k ≤ n ∧ i = .int .i64 k ∧ wr.heap[ob]? = some (.cells (rowV n k v).toArray 2 (0, 0)) ∧ Below w.heap.size w wr) (fun i _ => n - (intOf i).toNat)
  case atStart => exact ⟨1, by decide, h1, rfl, hob1, hb1⟩
  case round =>
    clear hob1 hb1 hmk hM hcp
    obtain ⟨k, hk1, hkn, rfl, hob, hb⟩ := hrel
    by_cases hlt : k < n
    · have hs1 : ∀ W : World, (Instr.slice 40 (.slice (some ⟨ob, 0, none⟩) n n) (some (.int .i64 (k : Int))) none none).run Try.prog W = .ok (.slice (some ⟨ob, k, none⟩) (n - k) (n - k)) W := fun W => by
        rw [run_cut Try.underlying40 (by kernel_rfl) (fun W => by kernel_rfl) (s := 1) _ n n k (by omega) .i64 W]
        unfold cutA
        rw [if_neg (by omega)]
        simp [Addr.add]
        omega
      have hs2 : ∀ W : World, (Instr.slice 40 (.slice (some ⟨ob, 0, none⟩) n n) none (some (.int .i64 (k : Int))) none).run Try.prog W = .ok (.slice (some ⟨ob, 0, none⟩) k n) W := fun W => by
        rw [run_head Try.underlying40 (by kernel_rfl) (fun W => by kernel_rfl) (s := 1) _ n n k (by omega) .i64 W, cutA_zero]
      have hwk : IntKind.i64.wrap ((k : Int) + ((min k (n - k) : Nat) : Int)) = (k : Int) + ((min k (n - k) : Nat) : Int) := by rw [IntKind.wrap_i64]; omega
      have hbx := Lib.hid hb
      have hobx := (Array.getElem?_eq_some_iff.1 hob).1
      clear hb
      go_upto_region 9 with fail
      refine wp_region_ghost2 (GC wr ob n k v) (by kernel_rfl) (by kernel_rfl) (by kernel_rfl) (by kernel_rfl) (by kernel_rfl) ?_ ?_
      · intro x0 hx0
        exact GC.start rfl rfl (hx0 9 8 rfl) hob
      intro base O hbase hO
      have kx7 : Hid (∀ xs, evX base O xs (.tmp 7) = .slice (some ⟨ob, 0, none⟩) n n) := fun xs => by rw [hbase, hO]; rfl
      have kx8 : Hid (∀ xs, evX base O xs (.tmp 8) = xs 9) := fun xs => by rw [hO]; rfl
      have kx38 : Hid (∀ xs, evX base O xs (.tmp 38) = xs 0) := fun xs => by rw [hO]; rfl
      have kx39 : Hid (∀ xs, evX base O xs (.tmp 39) = xs 1) := fun xs => by rw [hO]; rfl
      have kx40 : Hid (∀ xs, evX base O xs (.tmp 40) = xs 2) := fun xs => by rw [hO]; rfl
      have kx41 : Hid (∀ xs, evX base O xs (.tmp 41) = xs 3) := fun xs => by rw [hO]; rfl
      have kx42 : Hid (∀ xs, evX base O xs (.tmp 42) = xs 4) := fun xs => by rw [hO]; rfl
      have kx43 : Hid (∀ xs, evX base O xs (.tmp 43) = xs 5) := fun xs => by rw [hO]; rfl
      have kx44 : Hid (∀ xs, evX base O xs (.tmp 44) = xs 6) := fun xs => by rw [hO]; rfl
      have kx45 : Hid (∀ xs, evX base O xs (.tmp 45) = xs 7) := fun xs => by rw [hO]; rfl
      have kx46 : Hid (∀ xs, evX base O xs (.tmp 46) = xs 8) := fun xs => by rw [hO]; rfl
      clear hbase hO
      apply gh_det (n := 0)
      · intro fl xs w ev hG hD hl hdone hev K hK
        have e8 := (hev (.tmp 8)).trans (kx8.out xs)
        rw [if_pos (wantedX_none rfl)]
        have ef : ∀ f, ev (.func f) = .func (.func f) #[] #[] := fun f => (hev _).trans rfl
        clear hev hD
        rw [hG.rd0 hl] at e8
        go_simp
        exact hK _ _ rfl hG.s0
      apply gh_det (n := 1)
      · intro fl xs w ev hG hD hl hdone hev K hK
        have e7 := (hev (.tmp 7)).trans (kx7.out xs)
        rw [if_pos (wantedX_none rfl)]
        have ef : ∀ f, ev (.func f) = .func (.func f) #[] #[] := fun f => (hev _).trans rfl
        clear hev hD
        go_simp
        exact hK _ _ rfl hG
      apply gh_det (n := 2)
      · intro fl xs w ev hG hD hl hdone hev K hK
        have e8 := (hev (.tmp 8)).trans (kx8.out xs)
        rw [if_pos (wantedX_none rfl)]
        have ef : ∀ f, ev (.func f) = .func (.func f) #[] #[] := fun f => (hev _).trans rfl
        clear hev hD
        rw [hG.rd2 hl] at e8
        go_simp
        exact hK _ _ rfl hG.s2
      apply gh_det (n := 3)
      · intro fl xs w ev hG hD hl hdone hev K hK
        have e39 := (hev (.tmp 39)).trans (kx39.out xs)
        have d1 := hD.at_ 1 rfl rfl
        replace e39 := e39.trans d1
        have e40 := (hev (.tmp 40)).trans (kx40.out xs)
        have d2 := hD.at_ 2 rfl rfl
        replace e40 := e40.trans d2
        rw [if_pos (wantedX_none rfl)]
        have ef : ∀ f, ev (.func f) = .func (.func f) #[] #[] := fun f => (hev _).trans rfl
        clear hev hD
        go_simp
        exact hK _ _ rfl hG
      apply gh_det (n := 4)
      · intro fl xs w ev hG hD hl hdone hev K hK
        have e7 := (hev (.tmp 7)).trans (kx7.out xs)
        rw [if_pos (wantedX_none rfl)]
        have ef : ∀ f, ev (.func f) = .func (.func f) #[] #[] := fun f => (hev _).trans rfl
        clear hev hD
        go_simp
        exact hK _ _ rfl hG
      apply gh_det (n := 5)
      · intro fl xs w ev hG hD hl hdone hev K hK
        have e8 := (hev (.tmp 8)).trans (kx8.out xs)
        rw [if_pos (wantedX_none rfl)]
        have ef : ∀ f, ev (.func f) = .func (.func f) #[] #[] := fun f => (hev _).trans rfl
        clear hev hD
        rw [hG.rd5 hl] at e8
        go_simp
        exact hK _ _ rfl hG.s5
      apply gh_det (n := 6)
      · intro fl xs w ev hG hD hl hdone hev K hK
        have e42 := (hev (.tmp 42)).trans (kx42.out xs)
        have d4 := hD.at_ 4 rfl rfl
        replace e42 := e42.trans d4
        have e43 := (hev (.tmp 43)).trans (kx43.out xs)
        have d5 := hD.at_ 5 rfl rfl
        replace e43 := e43.trans d5
        rw [if_pos (wantedX_none rfl)]
        have ef : ∀ f, ev (.func f) = .func (.func f) #[] #[] := fun f => (hev _).trans rfl
        clear hev hD
        go_simp
        exact hK _ _ rfl hG
      apply gh_det (n := 7)
      · intro fl xs w ev hG hD hl hdone hev K hK
        have e41 := (hev (.tmp 41)).trans (kx41.out xs)
        have d3 := hD.at_ 3 rfl rfl
        replace e41 := e41.trans d3
        have e44 := (hev (.tmp 44)).trans (kx44.out xs)
        have d6 := hD.at_ 6 rfl rfl
        replace e44 := e44.trans d6
        rw [if_pos (wantedX_none rfl)]
        have ef : ∀ f, ev (.func f) = .func (.func f) #[] #[] := fun f => (hev _).trans rfl
        clear hev hD
        have hrun := run_copy_row (P := Try.prog) w 40 40 3 2 ob k (n - k) (n - k) ⟨ob, 0, none⟩ k n (rowV n k v).toArray 2 (List.replicate (min k (n - k)) (.int .i64 v)) Try.underlying40 (by kernel_rfl) (hG.2.1 hl) (by rw [List.length_replicate]) (rowV_src (hG.2.1 hl) hk1 hlt) (by rw [rowV_size, List.length_replicate]; omega) (fun u hu => by rw [(List.mem_replicate.1 hu).2]; rfl)
        rw [rowV_step hk1 hlt, List.length_replicate] at hrun
        go_simp
        exact hK _ _ rfl (hG.s7 hl)
      apply gh_det (n := 8)
      · intro fl xs w ev hG hD hl hdone hev K hK
        have e38 := (hev (.tmp 38)).trans (kx38.out xs)
        have d0 := hD.at_ 0 rfl rfl
        replace e38 := e38.trans d0
        have e45 := (hev (.tmp 45)).trans (kx45.out xs)
        have d7 := hD.at_ 7 rfl rfl
        replace e45 := e45.trans d7
        rw [if_pos (wantedX_none rfl)]
        have ef : ∀ f, ev (.func f) = .func (.func f) #[] #[] := fun f => (hev _).trans rfl
        clear hev hD
        go_simp
        exact hK _ _ rfl hG
      refine gh_any (n := 9) (fun _ => True) ?_ ?_
      · intro fl xs w ev hG hD hl hdone hev K hK
        have e46 := (hev (.tmp 46)).trans (kx46.out xs)
        have d8 := hD.at_ 8 rfl rfl
        replace e46 := e46.trans d8
        rw [if_pos (wantedX_none rfl)]
        have ef : ∀ f, ev (.func f) = .func (.func f) #[] #[] := fun f => (hev _).trans rfl
        clear hev hD
        go_simp
        exact hK _ _ trivial (hG.s9 (done_of hdone 0 rfl) (done_of hdone 2 rfl) (done_of hdone 5 rfl))
      intro xs w' hG hI
      clear hI
      obtain ⟨g1, g2, g3, _, g5⟩ := hG
      have hx9 := (g5 rfl).1
      clear g5
      have hob' := g3 rfl
      have hb' := hbx.out.trans (g1.below hbx.out.size (by have := hobe2.out; simp; omega))
      clear g1 g2 g3
      simp only [List.append_eq, List.cons_append, List.nil_append, setAll, List.setIfInBounds_toArray, List.set_cons_zero, List.set_cons_succ, hx9]
      clear hx9
      go_wp2_with fail
      go_roundw
      case rel => exact ⟨k + min k (n - k), by omega, by omega, by go_num, hob', hb'⟩
      case measure => simp [intOf]; omega
    · obtain rfl : k = n := by omega
      go_wp2_with fail
      go_returns
      refine ⟨ob, rfl, by have := hobe2.out; omega, ?_, hb⟩
      simpa [rowV] using hob
end Go.Proofs.Ytonkkibnigdfbaa
namespace Go.Proofs.Ytonkkibnigdfbaa
open Go.RowKit Go.Shelf B K
set_option linter.unusedVariables false
set_option linter.unusedSimpArgs false
set_option maxHeartbeats 2000000
/-- one label alone -/
def single (n s : Nat) (t : Int) : List Int := (List.replicate n W.inf).set s t
theorem single_len (n s : Nat) (t : Int) : (single n s t).length = n := by simp [single]
theorem single_lab {n s : Nat} {t : Int} (h : s < n) (i : Nat) : lab (single n s t) i = if i = s then t else W.inf := by
  unfold single
  rw [lab_set (by simpa using h)]
  split
  · rfl
  · unfold lab
    rw [List.getElem?_replicate]
    split <;> rfl
theorem single_ok {N : NetP} {s : Nat} {t : Int} (h : s < N.cs.length) (ht : 0 ≤ t ∧ t ≤ N.hz) : LabsOk N (single N.cs.length s t) := by
  refine ⟨single_len _ _ _, fun x hx => ?_⟩
  obtain ⟨i, hi⟩ := List.getElem?_of_mem hx
  have h1 := lab_at hi
  rw [single_lab h] at h1
  split at h1
  · right; omega
  · left; omega
def fckN (N : NetP) (s t : Int) : Int := if chkN N ≠ 0 then chkN N else if s < 0 ∨ (N.cs.length : Int) ≤ s then 2 else if t < 0 ∨ N.hz < t then 9 else 0
theorem fck_iff {N : NetP} {s t : Int} : fckN N s t = 0 ↔ OkN N ∧ (0 ≤ s ∧ s < N.cs.length) ∧ (0 ≤ t ∧ t ≤ N.hz) := by
  unfold fckN
  by_cases h1 : chkN N = 0
  · rw [if_neg (by omega)]
    have := chkN_iff.1 h1
    by_cases h2 : s < 0 ∨ (N.cs.length : Int) ≤ s
    · rw [if_pos h2]; exact ⟨fun h => by omega, fun h => by omega⟩
    · rw [if_neg h2]
      by_cases h3 : t < 0 ∨ N.hz < t
      · rw [if_pos h3]; exact ⟨fun h => by omega, fun h => by omega⟩
      · rw [if_neg h3]; exact ⟨fun _ => ⟨this, by omega, by omega⟩, fun _ => rfl⟩
  · rw [if_pos h1]; exact ⟨fun h => absurd h h1, fun h => absurd (chkN_iff.2 h.1) h1⟩
theorem fck_cases (N : NetP) (s t : Int) : fckN N s t = 0 ∨ fckN N s t = 2 ∨ fckN N s t = 9 := by
  have := chkN_cases N
  unfold fckN
  split
  · omega
  · split
    · omega
    · split <;> omega
set_option maxRecDepth 100000 in
theorem sfrom_bad {N : NetP} {A B : Option Addr} {n c m d : Nat} {s t : Int} {w : World} (hs : Small N) (hr : RNet w N A n B m) (hb : fckN N s t ≠ 0) :
    Calls Try.prog 22 #[.agg #[.int .i64 N.hz, .slice A n c, .slice B m d], .int .i64 s, .int .i64 t] w fun e w' => e = .returned (.tuple #[.slice none 0 0, .int .i64 (fckN N s t)]) ∧ Below w.heap.size w w' := by
  have hnn := hr.nn
  have hn1 : n ≤ 1000 := by rw [← hr.nn]; exact hs.cn
  obtain ⟨hz, hhz⟩ : ∃ q, N.hz = q := ⟨_, rfl⟩
  have hb1 : Below w.heap.size w (w.alloc (.cells #[.int .i64 hz, .slice A n c, .slice B m d] 25)) := (Below.refl _ w).alloc (Nat.le_refl _) _
  obtain ⟨x0, x1, x2⟩ := rowBx3 w 25 (.int .i64 hz) (.slice A n c) (.slice B m d)
  have hbn1 : w.heap.size < (w.alloc (.cells #[.int .i64 hz, .slice A n c, .slice B m d] 25)).heap.size := by simp
  obtain ⟨w1, hw1⟩ : ∃ q, w.alloc (.cells #[.int .i64 hz, .slice A n c, .slice B m d] 25) = q := ⟨_, rfl⟩
  rw [hw1] at hb1 x0 x1 x2 hbn1
  have hup : Hid (∀ w2, Below w1.heap.size w1 w2 → Below w.heap.size w w2) := fun w2 h => hb1.trans (h.mono hb1.size)
  obtain ⟨bn, hbn⟩ : ∃ q, w.heap.size = q := ⟨_, rfl⟩
  rw [hbn] at x0 x1 x2 hbn1
  have hC := Lib.hid (lcheck_any (c := c) (d := d) hs w1 (hr.below hb1))
  have hbnH := Lib.hid hbn
  rw [hhz] at hC ⊢
  unfold fckN at hb ⊢
  rw [hnn, hhz] at hb ⊢
  clear hb1 hr hs hnn hhz
  rcases chkN_cases N with h0 | h0
  · rw [h0] at hC hb ⊢
    rw [if_neg (by omega)] at hb ⊢
    by_cases h1 : s < 0
    · rw [if_pos (.inl h1)]
      have d1 : decide (s < 0) = true := decide_eq_true h1
      clear hb h0 h1
      go_enter Try.func22, Try.ntmps22
      go_wp2_with fail
      refine hC.out.mono ?_; rintro e w2 ⟨rfl, hb2⟩
      have y1 := (hb2.cell (p := ⟨bn, 1, none⟩) hbn1).trans x1
      go_wp2_with fail
      go_returns
      exact ⟨rfl, by first | exact hup.out _ hb2 | (rw [← hbnH.out]; exact hup.out _ hb2)⟩
    · have d1 : decide (s < 0) = false := decide_eq_false h1
      by_cases h2 : (n : Int) ≤ s
      · rw [if_pos (.inr h2)]
        have d2 : decide ((n : Int) ≤ s) = true := decide_eq_true h2
        clear hb h0 h1 h2
        go_enter Try.func22, Try.ntmps22
        go_wp2_with fail
        refine hC.out.mono ?_; rintro e w2 ⟨rfl, hb2⟩
        have y1 := (hb2.cell (p := ⟨bn, 1, none⟩) hbn1).trans x1
        go_wp2_with fail
        go_returns
        exact ⟨rfl, by first | exact hup.out _ hb2 | (rw [← hbnH.out]; exact hup.out _ hb2)⟩
      · have d2 : decide ((n : Int) ≤ s) = false := decide_eq_false h2
        rw [if_neg (by omega)] at hb ⊢
        by_cases h3 : t < 0
        · rw [if_pos (.inl h3)]
          have d3 : decide (t < 0) = true := decide_eq_true h3
          clear hb h0 h1 h2 h3
          go_enter Try.func22, Try.ntmps22
          go_wp2_with fail
          refine hC.out.mono ?_; rintro e w2 ⟨rfl, hb2⟩
          have y1 := (hb2.cell (p := ⟨bn, 1, none⟩) hbn1).trans x1
          have y0 := (hb2.cell (p := ⟨bn, 0, none⟩) hbn1).trans x0
          go_wp2_with fail
          go_returns
          exact ⟨rfl, by first | exact hup.out _ hb2 | (rw [← hbnH.out]; exact hup.out _ hb2)⟩
        · have d3 : decide (t < 0) = false := decide_eq_false h3
          have h4 : hz < t := by
            rcases Int.lt_or_le hz t with h | h
            · exact h
            · rw [if_neg (by omega)] at hb; exact absurd rfl hb
          rw [if_pos (.inr h4)]
          have d4 : decide (hz < t) = true := decide_eq_true h4
          clear hb h0 h1 h2 h3 h4
          go_enter Try.func22, Try.ntmps22
          go_wp2_with fail
          refine hC.out.mono ?_; rintro e w2 ⟨rfl, hb2⟩
          have y1 := (hb2.cell (p := ⟨bn, 1, none⟩) hbn1).trans x1
          have y0 := (hb2.cell (p := ⟨bn, 0, none⟩) hbn1).trans x0
          go_wp2_with fail
          go_returns
          exact ⟨rfl, by first | exact hup.out _ hb2 | (rw [← hbnH.out]; exact hup.out _ hb2)⟩
  · rw [h0] at hC ⊢
    rw [if_pos (by omega)]
    clear hb h0
    go_enter Try.func22, Try.ntmps22
    go_wp2_with fail
    refine hC.out.mono ?_; rintro e w2 ⟨rfl, hb2⟩
    go_wp2_with fail
    go_returns
    exact ⟨rfl, by first | exact hup.out _ hb2 | (rw [← hbnH.out]; exact hup.out _ hb2)⟩
/-- .. and what it hands back where they may be -/
def RetFrom (N : NetP) (n s : Nat) (t : Int) (w : World) (e : Ending) (w' : World) : Prop :=
  ∃ A c D, e = .returned (.tuple #[.slice A n c, .int .i64 0]) ∧ Spr N (single n s t) D ∧ RowI w' w.heap.size A n D ∧ n ≤ c ∧ c ≤ 9223372036854775807 ∧ Below w.heap.size w w'
set_option maxRecDepth 100000 in
theorem sfrom_ok {N : NetP} {A B : Option Addr} {n c m d : Nat} {s : Nat} {t : Int} {w : World} (hs : Small N) (hr : RNet w N A n B m) (hN : OkN N) (hsn : s < n) (ht : 0 ≤ t ∧ t ≤ N.hz) :
    Calls Try.prog 22 #[.agg #[.int .i64 N.hz, .slice A n c, .slice B m d], .int .i64 s, .int .i64 t] w (RetFrom N n s t w) := by
  have hnn : Hid (N.cs.length = n) := hr.nn
  have hn1 : n ≤ 256 := by rw [← hr.nn]; exact hN.cn
  obtain ⟨hz, hhz⟩ : ∃ q, N.hz = q := ⟨_, rfl⟩
  have hb1 : Below w.heap.size w (w.alloc (.cells #[.int .i64 hz, .slice A n c, .slice B m d] 25)) := (Below.refl _ w).alloc (Nat.le_refl _) _
  obtain ⟨x0, x1, x2⟩ := rowBx3 w 25 (.int .i64 hz) (.slice A n c) (.slice B m d)
  have hbn1 : w.heap.size < (w.alloc (.cells #[.int .i64 hz, .slice A n c, .slice B m d] 25)).heap.size := by simp
  obtain ⟨w1, hw1⟩ : ∃ q, w.alloc (.cells #[.int .i64 hz, .slice A n c, .slice B m d] 25) = q := ⟨_, rfl⟩
  rw [hw1] at hb1 x0 x1 x2 hbn1
  have hup : Hid (∀ w2, Below w1.heap.size w1 w2 → Below w.heap.size w w2) := fun w2 h => hb1.trans (h.mono hb1.size)
  have hbn9 := Nat.le_of_lt hbn1
  obtain ⟨bn, hbn⟩ : ∃ q, w.heap.size = q := ⟨_, rfl⟩
  have hbn2 := hbn1
  rw [hbn] at x0 x1 x2 hbn2
  have hC := Lib.hid (lcheck_any (c := c) (d := d) hs w1 (hr.below hb1))
  rw [chkN_iff.2 hN, hhz] at hC
  have hR := Lib.hid (hr.below hb1)
  have hok := Lib.hid (single_ok (N := N) (s := s) (t := t) (by have := hnn.out; omega) ht)
  have hokn : Hid (LabsOk N (single n s t)) := by
    have := hok.out
    rw [hnn.out] at this
    exact this
  have hNH := Lib.hid hN
  have hsH := Lib.hid hs
  have hhz2 := Lib.hid hhz
  have hbnH := Lib.hid hbn
  rw [hhz] at ht ⊢
  have d1 : decide ((s : Int) < 0) = false := decide_eq_false (by omega)
  have d2 : decide ((n : Int) ≤ (s : Int)) = false := decide_eq_false (by omega)
  have d2' : decide (n ≤ s) = false := decide_eq_false (by omega)
  have d3 : decide (t < 0) = false := decide_eq_false (by omega)
  have d4 : decide (hz < t) = false := decide_eq_false (by omega)
  have hsI : (s : Int) < (n : Int) := by omega
  clear hb1 hr hs hN hhz hok
  go_enter Try.func22, Try.ntmps22
  go_wp2_with fail
  refine hC.out.mono ?_; rintro e w2 ⟨rfl, hb2⟩
  have y1 := (hb2.cell (p := ⟨bn, 1, none⟩) hbn2).trans x1
  have y0 := (hb2.cell (p := ⟨bn, 0, none⟩) hbn2).trans x0
  have ha3 : Below w2.heap.size w2 (w2.alloc (.cells #[.int .i64 4611686018427387904] 2)) := (Below.refl _ w2).alloc (Nat.le_refl _) _
  have hn3 := heap_alloc_new w2 (.cells #[.int .i64 4611686018427387904] 2)
  have y1' := (ha3.cell (p := ⟨bn, 1, none⟩) (Nat.lt_of_lt_of_le hbn2 hb2.size)).trans y1
  have hRep := Lib.hid (rep_any 4611686018427387904 n w2.heap.size (w2.alloc (.cells #[.int .i64 4611686018427387904] 2)) (by omega) hn1 (by simp) (by rw [cell_of_row _ _ _ _ _ _ hn3]; rfl))
  have hb23 := Lib.hid (hb2.trans (ha3.mono hb2.size))
  clear hn3 hC
  go_wp2_with fail
  refine hRep.out.mono ?_; rintro e w4 ⟨ob, rfl, hob, hrow, hb4⟩
  have hb14 := hb23.out.trans (hb4.mono hb23.out.size)
  have hI4 : RowI w4 w1.heap.size (some ⟨ob, 0, none⟩) n (List.replicate n W.inf) := by
    refine ⟨by simp, fun a ha => ?_, fun _ => ⟨ob, _, rfl, hrow, fun i x hx => ?_⟩⟩
    · cases ha
      exact ⟨(Array.getElem?_eq_some_iff.1 hrow).1, Nat.le_trans hb23.out.size hob⟩
    · rw [List.getElem?_replicate] at hx
      split at hx
      · rename_i hi; cases hx; simp [hi]; rfl
      · cases hx
  obtain ⟨g', eg, hcs, hfs⟩ := hI4.at_ (i := s) (x := W.inf) (by rw [List.getElem?_replicate, if_pos hsn])
  cases eg
  have hI5 := hI4.set (i := s) (x := W.inf) (y := t) (by rw [List.getElem?_replicate, if_pos hsn])
  have hb15 := hb14.setCell (p := ⟨ob, s, none⟩) (Nat.le_trans hb23.out.size hob) (.int .i64 t)
  obtain ⟨w5, hw5⟩ : ∃ q, w4.setCell ⟨ob, s, none⟩ (.int .i64 t) = q := ⟨_, rfl⟩
  rw [hw5] at hI5 hb15
  have z0 := (hb15.cell (p := ⟨bn, 0, none⟩) hbn2).trans x0
  have z1 := (hb15.cell (p := ⟨bn, 1, none⟩) hbn2).trans x1
  have z2 := (hb15.cell (p := ⟨bn, 2, none⟩) hbn2).trans x2
  have hcall := Lib.hid (settle_any (n := n) (c := c) (m := m) (d := d) (ca := n) (arr := single n s t) hsH.out hNH.out hokn.out w5 (hR.out.below hb15) hI5.rd)
  rw [hhz2.out] at hcall
  have hb15h := Lib.hid hb15
  clear hb2 y0 y1 ha3 y1' hRep hb23 hrow hob hb4 hb14 hI4 hI5 hb15
  go_wp2_with fail
  refine hcall.out.mono ?_; rintro e w6 ⟨A6, c6, D, rfl, hS, hI, hc1, hc2, hb6⟩
  have hS := Lib.hid hS
  have hI := Lib.hid hI
  go_wp2_with fail
  go_returns
  exact ⟨A6, c6, D, rfl, hS.out, hI.out.mono (Nat.le_trans hbn9 hb15h.out.size), hc1, hc2, hup.out _ (hb15h.out.trans (hb6.mono hb15h.out.size))⟩
end Go.Proofs.Ytonkkibnigdfbaa
namespace Go.Proofs.Ytonkkibnigdfbaa
set_option linter.unusedVariables false
set_option linter.unusedSimpArgs false
section
variable {N : NetP} {arr x y z D Dx Dy E : List Int}
/-- labels that are closed, each handed in or come to by a link, are the labels spread -/
theorem Spr.of (hN : OkN N) (ok : LabsOk N D) (le : ∀ s, lab D s ≤ lab arr s) (cl : ClosedN N D) (hsup : ∀ s, s < D.length → lab D s = lab arr s ∨ ∃ l ∈ N.ls, l.b = (s : Int) ∧ lab D l.a.toNat ≠ W.inf ∧ toL N l (lab D l.a.toNat) = lab D s) : Spr N arr D := by
  refine ⟨ok, le, cl, fun E hE hC hle => ?_⟩
  have key : ∀ (k : Nat) (s : Nat), (lab D s).toNat ≤ k → lab E s ≤ lab D s := by
    intro k
    induction k using Nat.strongRecOn with
    | _ k ih =>
      intro s hk
      by_cases hs : s < D.length
      · rcases hsup s hs with h1 | ⟨l, hl, h1, h2, h3⟩
        · rw [h1]; exact hle s
        · have hok := hN.lk l hl
          have hka := ok.fin h2
          have hz := hN.hz
          have hlt := to_gt hN hok hka.1 (by omega)
          rw [h3] at hlt
          have h4 := ih (lab D l.a.toNat).toNat (by omega) l.a.toNat (Nat.le_refl _)
          have h9 := inf_big
          have h5 : lab E l.a.toNat ≠ W.inf := by omega
          have h6 := hC l hl h5
          have h7 := to_mono hN hok (hE.fin h5).1 h4
          rw [h3] at h7
          have h8 : l.b.toNat = s := by omega
          rw [h8] at h6
          omega
      · rw [lab_no (D := D) (by omega), lab_no (D := E) (by rw [hE.1, ← ok.1]; omega)]
        exact Int.le_refl _
  exact fun s => key _ s (Nat.le_refl _)
theorem Spr.mem_sup (h : Spr N arr D) (hN : OkN N) (ha : LabsOk N arr) : ∀ s, s < D.length → lab D s = lab arr s ∨ ∃ l ∈ N.ls, l.b = (s : Int) ∧ lab D l.a.toNat ≠ W.inf ∧ toL N l (lab D l.a.toNat) = lab D s := fun s hs => by
  by_cases he : lab D s = lab arr s
  · exact .inl he
  · obtain ⟨i, l, h1, h2⟩ := h.sup hN ha hs he
    exact .inr ⟨l, List.mem_of_getElem? h1, h2⟩
/-- .. as one can reckon -/
def sprB (N : NetP) (arr D : List Int) : Bool :=
  decide (D.length = N.cs.length) && decide (arr.length = N.cs.length) && D.all (fun v => decide (v = W.inf) || (decide (0 ≤ v) && decide (v ≤ N.hz))) &&
  (List.range D.length).all (fun s => decide (lab D s ≤ lab arr s)) &&
  N.ls.all (fun l => decide (lab D l.a.toNat = W.inf) || decide (lab D l.b.toNat ≤ toL N l (lab D l.a.toNat))) &&
  (List.range D.length).all (fun s => decide (lab D s = lab arr s) || N.ls.any (viaP N D s))
theorem Spr.of_B (hN : OkN N) (h : sprB N arr D = true) : Spr N arr D := by
  unfold sprB at h
  simp only [Bool.and_eq_true, decide_eq_true_iff, List.all_eq_true, Bool.or_eq_true, List.mem_range] at h
  obtain ⟨⟨⟨⟨⟨h1, h2⟩, h3⟩, h4⟩, h5⟩, h6⟩ := h
  refine Spr.of hN ⟨h1, fun v hv => h3 v hv⟩ (fun s => ?_) (fun l hl hne => (h5 l hl).resolve_left hne) (fun s hs => (h6 s hs).imp id fun hh => ?_)
  · by_cases hs : s < D.length
    · exact h4 s hs
    · rw [lab_no (D := D) (by omega), lab_no (D := arr) (by omega)]; exact Int.le_refl _
  · obtain ⟨l, hl, hp⟩ := List.any_eq_true.1 hh
    exact ⟨l, hl, viaP_iff.1 hp⟩
/-- the earlier of two rows, label by label -/
def minL (x y : List Int) : List Int := List.zipWith min x y
theorem minL_len (hl : x.length = y.length) : (minL x y).length = x.length := by simp [minL, hl]
theorem minL_lab (hl : x.length = y.length) (s : Nat) : lab (minL x y) s = min (lab x s) (lab y s) := by
  by_cases hs : s < x.length
  · have h1 : (minL x y)[s]? = some (min (lab x s) (lab y s)) := by
      unfold minL
      rw [List.getElem?_zipWith, lab_get hs, lab_get (D := y) (by omega)]
    exact lab_at h1
  · rw [lab_no (D := minL x y) (by rw [minL_len hl]; omega), lab_no (D := x) (by omega), lab_no (D := y) (by omega)]
    simp
theorem labsOk_of (hl : D.length = N.cs.length) (h : ∀ s, lab D s = W.inf ∨ (0 ≤ lab D s ∧ lab D s ≤ N.hz)) : LabsOk N D :=
  ⟨hl, fun v hv => by obtain ⟨i, hi⟩ := List.getElem?_of_mem hv; have := h i; rwa [lab_at hi] at this⟩
theorem LabsOk.min (hx : LabsOk N x) (hy : LabsOk N y) : LabsOk N (minL x y) := by
  have hl : x.length = y.length := by rw [hx.1, hy.1]
  refine labsOk_of (by rw [minL_len hl]; exact hx.1) fun s => ?_
  rw [minL_lab hl]
  have h1 := hx.at s
  have h2 := hy.at s
  omega
theorem closed_min (hN : OkN N) (hx : LabsOk N x) (hy : LabsOk N y) (cx : ClosedN N x) (cy : ClosedN N y) : ClosedN N (minL x y) := fun l hl hne => by
  have hll : x.length = y.length := by rw [hx.1, hy.1]
  rw [minL_lab hll] at hne ⊢
  rw [minL_lab hll]
  have h9 := inf_big
  have hz := hN.hz
  have ax := hx.at l.a.toNat
  have ay := hy.at l.a.toNat
  rcases Int.le_total (lab x l.a.toNat) (lab y l.a.toNat) with h | h
  · rw [Int.min_eq_left h] at hne ⊢
    have := cx l hl hne
    omega
  · rw [Int.min_eq_right h] at hne ⊢
    have := cy l hl hne
    omega
/-- of two rows the earlier of both is spread to the earlier of both -/
theorem Spr.min (hN : OkN N) (h : Spr N x Dx) (h' : Spr N y Dy) (hx : LabsOk N x) (hy : LabsOk N y) : Spr N (minL x y) (minL Dx Dy) := by
  have hl : x.length = y.length := by rw [hx.1, hy.1]
  have hD : Dx.length = Dy.length := by rw [h.ok.1, h'.ok.1]
  refine ⟨h.ok.min h'.ok, fun s => ?_, closed_min hN h.ok h'.ok h.cl h'.cl, fun E hE hC hle s => ?_⟩
  · rw [minL_lab hD, minL_lab hl]
    have h1 := h.le s
    have h2 := h'.le s
    omega
  · have h1 := h.gr E hE hC (fun s => by have := hle s; rw [minL_lab hl] at this; omega) s
    have h2 := h'.gr E hE hC (fun s => by have := hle s; rw [minL_lab hl] at this; omega) s
    rw [minL_lab hD]
    omega
/-- a label lowered to what comes of spreading changes nothing -/
theorem Spr.lower (h : Spr N arr D) {s : Nat} (hs : s < arr.length) : Spr N (arr.set s (lab D s)) D := by
  refine ⟨h.ok, fun i => ?_, h.cl, fun E hE hC hle => h.gr E hE hC fun i => ?_⟩
  · rw [lab_set hs]
    split
    · rename_i hi; subst hi; exact Int.le_refl _
    · exact h.le i
  · have h1 := hle i
    rw [lab_set hs] at h1
    split at h1
    · rename_i hi; subst hi; exact Int.le_trans h1 (h.le i)
    · exact h1
end
end Go.Proofs.Ytonkkibnigdfbaa
namespace Go.Proofs.Ytonkkibnigdfbaa
open Go.RowKit Go.Shelf B K
set_option linter.unusedVariables false
set_option linter.unusedSimpArgs false
set_option maxHeartbeats 2000000
theorem below_drewQ {w wr : World} (h : Below w.heap.size w wr) (n : Nat) : Below w.heap.size w (wr.drewN n) := ⟨h.os, h.tape, h.output, h.size, h.block⟩
theorem sameT_any (A : Option Addr) (n c : Nat) (l : List Int) (A' : Option Addr) (n' c' : Nat) (l' : List Int) (w : World) (hr : Rd w 1 (numE .i64) A n l) (hr' : Rd w 1 (numE .i64) A' n' l') (hn : n ≤ 1099511627776) (hn' : n' ≤ 1099511627776) :
    Calls Try.prog 27 #[.slice A n c, .slice A' n' c'] w fun e w' => e = .returned (.bool (decide (l = l'))) ∧ Below w.heap.size w w' := by
  go_enter Try.func27, Try.ntmps27
  by_cases hnn : n = n'
  · subst hnn
    go_wp2
    go_loopw [5] (fun i wr => ∃ (k : Nat), k ≤ n ∧ i = .int .i64 k ∧ Below w.heap.size w wr ∧ Hid (l.take k = l'.take k)) (fun i _ => n - (intOf i).toNat)
    case atStart => exact ⟨0, Nat.zero_le _, rfl, Below.refl _ _, rfl⟩
    case round =>
      obtain ⟨k, hk, rfl, hb, heq⟩ := hrel
      by_cases hlt : k < n
      · obtain ⟨b, o, x1, rfl, hbs, hl, h1⟩ := (hr.below hb).num hlt
        obtain ⟨b', o', y1, rfl, hbs', hl', g1⟩ := (hr'.below hb).num hlt
        have hl := Lib.hid hl
        have hl' := Lib.hid hl'
        rename_i hx1 hx2; clear hx1 hx2
        have hlt2 : (k : Int) < (n : Int) := by omega
        by_cases e1 : x1 = y1
        · subst e1
          go_wp2
          go_quiet (fail)
          go_wp2
          go_roundw
          case rel => exact ⟨k + 1, by omega, by go_num, below_drewQ hb _, by show _ = _; rw [take_at hl.out, take_at hl'.out, heq.out]⟩
          case measure => simp [intOf]; omega
        · have hn : (x1 == y1) = false := by simp [e1]
          have hll : Hid (l ≠ l') := by
            intro e
            apply e1
            have := hl.out; rw [e, hl'.out] at this
            exact (Option.some.inj this).symm
          clear e1
          go_wp2
          go_quiet (fail)
          go_wp2
          go_returns
          exact ⟨ret_bool (by symm; rw [decide_eq_false_iff_not]; exact hll.out), below_drewQ hb _⟩
      · go_wp2
        go_returns
        refine ⟨ret_bool ?_, hb⟩
        have h1 := heq.out
        rw [List.take_of_length_le (by rw [hr.len]; omega), List.take_of_length_le (by rw [hr'.len]; omega)] at h1
        rw [h1]; simp
  · have hll : Hid (l ≠ l') := by
      intro e
      apply hnn
      rw [← hr.len, ← hr'.len, e]
    go_wp2
    go_returns
    exact ⟨ret_bool (by symm; rw [decide_eq_false_iff_not]; exact hll.out), Below.refl _ _⟩
theorem lightW_any {N : NetP} {A B : Option Addr} {n c m : Nat} (w : World) (hr : RNet w N A n B m) :
    Calls Try.prog 50 #[.slice A n c, .int .i64 40, .int .i64 40] w fun e w' => ∃ b : Bool, e = .returned (.bool b) ∧ (b = true → n ≤ 40 ∧ ∀ l ∈ N.cs, l.length ≤ 40) ∧ Below w.heap.size w w' := by
  by_cases h40 : 40 < n
  · have d1 : decide ((40 : Int) < (n : Int)) = true := decide_eq_true (by omega)
    have d1' : decide (40 < n) = true := decide_eq_true h40
    go_enter Try.func50, Try.ntmps50
    go_wp2
    go_returns
    exact ⟨false, rfl, (fun h => by cases h), Below.refl _ _⟩
  · have d1 : decide ((40 : Int) < (n : Int)) = false := decide_eq_false (by omega)
    have d1' : decide (40 < n) = false := decide_eq_false h40
    go_enter Try.func50, Try.ntmps50
    go_wp2_with fail
    go_loopw [7] (fun i wr => ∃ (k : Nat), k ≤ n ∧ i = .int .i64 k ∧ Below w.heap.size w wr ∧ Hid (∀ l ∈ N.cs.take k, l.length ≤ 40)) (fun i _ => n - (intOf i).toNat)
    case atStart => exact ⟨0, Nat.zero_le _, rfl, Below.refl _ _, fun y hy => by simp at hy⟩
    case round =>
      obtain ⟨k, hk, rfl, hb, hno⟩ := hrel
      by_cases hlt : k < n
      · obtain ⟨b, o, sA, sn, sc, l, rfl, hbs, hx, c0, rs, _⟩ := (hr.below hb).clo hlt
        have hll := rs.len
        have hx := Lib.hid hx
        rename_i hx0; clear hx0
        have hltI : (k : Int) < (n : Int) := by omega
        by_cases h2 : 40 < sn
        · have d2 : decide ((40 : Int) < (sn : Int)) = true := decide_eq_true (by omega)
          have d2' : decide (40 < sn) = true := decide_eq_true h2
          clear rs hll
          go_wp2_with fail
          go_returns
          exact ⟨false, rfl, (fun h => by cases h), hb⟩
        · have d2 : decide ((40 : Int) < (sn : Int)) = false := decide_eq_false (by omega)
          have d2' : decide (40 < sn) = false := decide_eq_false h2
          have hno' : Hid (∀ y ∈ N.cs.take (k + 1), y.length ≤ 40) := by
            intro y hy
            rw [take_at hx.out, List.mem_append] at hy
            rcases hy with hy | hy
            · exact hno.out y hy
            · simp at hy; subst hy; omega
          clear rs hll
          go_wp2_with fail
          go_roundw
          case rel => exact ⟨k + 1, by omega, by go_num, hb, hno'⟩
          case measure => simp [intOf]; omega
      · have hall : Hid (∀ l ∈ N.cs, l.length ≤ 40) := fun l hl => hno.out l (by rwa [List.take_of_length_le (by rw [hr.nn]; omega)])
        go_wp2
        go_returns
        exact ⟨true, rfl, fun _ => ⟨by omega, hall.out⟩, hb⟩
set_option maxRecDepth 100000 in
theorem lightNet_any {N : NetP} {A B : Option Addr} {n c m d : Nat} {hz : Int} (w : World) (hr : RNet w N A n B m) :
    Calls Try.prog 17 #[.agg #[.int .i64 hz, .slice A n c, .slice B m d], .int .i64 40, .int .i64 40, .int .i64 40] w fun e w' => ∃ b : Bool, e = .returned (.bool b) ∧ (b = true → LightN N 40 40 40) ∧ Below w.heap.size w w' := by
  have hb1 : Below w.heap.size w (w.alloc (.cells #[.int .i64 hz, .slice A n c, .slice B m d] 25)) := (Below.refl _ w).alloc (Nat.le_refl _) _
  obtain ⟨x0, x1, x2⟩ := rowBx3 w 25 (.int .i64 hz) (.slice A n c) (.slice B m d)
  have hbn1 : w.heap.size < (w.alloc (.cells #[.int .i64 hz, .slice A n c, .slice B m d] 25)).heap.size := by simp
  obtain ⟨w1, hw1⟩ : ∃ q, w.alloc (.cells #[.int .i64 hz, .slice A n c, .slice B m d] 25) = q := ⟨_, rfl⟩
  rw [hw1] at hb1 x0 x1 x2 hbn1
  have hup : Hid (∀ w2, Below w1.heap.size w1 w2 → Below w.heap.size w w2) := fun w2 h => hb1.trans (h.mono hb1.size)
  obtain ⟨bn, hbn⟩ : ∃ q, w.heap.size = q := ⟨_, rfl⟩
  rw [hbn] at x0 x1 x2 hbn1
  have hbnH := Lib.hid hbn
  have hR := Lib.hid (hr.below hb1)
  have hW := Lib.hid (lightW_any (c := c) w1 (hr.below hb1))
  have hnn : Hid (N.cs.length = n) := hr.nn
  have hmm : Hid (N.ls.length = m) := hr.mm
  clear hb1 hr
  go_enter Try.func17, Try.ntmps17
  go_wp2_with fail
  refine hW.out.mono ?_; rintro e w2 ⟨b, rfl, hbt, hb2⟩
  clear hbn hw1
  have y2 := (hb2.cell (p := ⟨bn, 2, none⟩) hbn1).trans x2
  cases b with
  | false =>
    go_wp2_with fail
    go_returns
    exact ⟨false, rfl, (fun h => by cases h), hup.out _ hb2⟩
  | true =>
    obtain ⟨hn40, hcs⟩ := hbt rfl
    have hcs := Lib.hid hcs
    rename_i hcs0; clear hcs0 hbt
    by_cases h40 : 40 < m
    · have d1 : decide ((40 : Int) < (m : Int)) = true := decide_eq_true (by omega)
      have d1' : decide (40 < m) = true := decide_eq_true h40
      go_wp2_with fail
      go_returns
      exact ⟨false, rfl, (fun h => by cases h), hup.out _ hb2⟩
    · have d1 : decide ((40 : Int) < (m : Int)) = false := decide_eq_false (by omega)
      have d1' : decide (40 < m) = false := decide_eq_false h40
      have hb2 := Lib.hid hb2
      rename_i hb20; clear hb20
      go_wp2_with fail
      go_loopw [9] (fun i wr => ∃ (k : Nat), k ≤ m ∧ i = .int .i64 k ∧ Hid (Below w1.heap.size w1 wr) ∧ Hid (∀ l ∈ N.ls.take k, l.op.length ≤ 40 ∧ l.cl.length ≤ 40)) (fun i _ => m - (intOf i).toNat)
      case atStart => exact ⟨0, Nat.zero_le _, rfl, hb2, fun y hy => by simp at hy⟩
      case round =>
        obtain ⟨k, hk, rfl, hb, hno⟩ := hrel
        have z2 := (hb.out.cell (p := ⟨bn, 2, none⟩) hbn1).trans x2
        by_cases hlt : k < m
        · obtain ⟨l, hl, b, o, pA, pn, pc, kA, kn, kc, rfl, hbl, ⟨ro, _⟩, ⟨rk, _⟩, c0, c1, c2, c3, c4, c5, c6⟩ := (hR.out.below hb.out).lnk hlt
          have h1 := ro.len
          have h2 := rk.len
          have hl := Lib.hid hl
          rename_i hl0; clear hl0
          have h1 := Lib.hid h1
          have h2 := Lib.hid h2
          rename_i h10 h20; clear h10 h20 ro rk
          have hltI : (k : Int) < (m : Int) := by omega
          by_cases h3 : 40 < pn
          · have d3 : decide ((40 : Int) < (pn : Int)) = true := decide_eq_true (by omega)
            have d3' : decide (40 < pn) = true := decide_eq_true h3
            go_wp2_with fail
            go_returns
            exact ⟨false, rfl, (fun h => by cases h), hup.out _ hb.out⟩
          · have d3 : decide ((40 : Int) < (pn : Int)) = false := decide_eq_false (by omega)
            have d3' : decide (40 < pn) = false := decide_eq_false h3
            by_cases h4 : 40 < kn
            · have d4 : decide ((40 : Int) < (kn : Int)) = true := decide_eq_true (by omega)
              have d4' : decide (40 < kn) = true := decide_eq_true h4
              go_wp2_with fail
              go_returns
              exact ⟨false, rfl, (fun h => by cases h), hup.out _ hb.out⟩
            · have d4 : decide ((40 : Int) < (kn : Int)) = false := decide_eq_false (by omega)
              have d4' : decide (40 < kn) = false := decide_eq_false h4
              have hno' : Hid (∀ y ∈ N.ls.take (k + 1), y.op.length ≤ 40 ∧ y.cl.length ≤ 40) := by
                intro y hy
                rw [take_at hl.out, List.mem_append] at hy
                rcases hy with hy | hy
                · exact hno.out y hy
                · simp at hy; subst hy; have := h1.out; have := h2.out; omega
              go_wp2_with fail
              go_roundw
              case rel => exact ⟨k + 1, by omega, by go_num, hb, hno'⟩
              case measure => simp [intOf]; omega
        · have hall : Hid (LightN N 40 40 40) := ⟨by have := hnn.out; omega, hcs.out, by have := hmm.out; omega, fun l hl => hno.out l (by rwa [List.take_of_length_le (by rw [hmm.out]; omega)])⟩
          go_wp2_with fail
          go_returns
          exact ⟨true, rfl, fun _ => hall.out, hup.out _ hb.out⟩
end Go.Proofs.Ytonkkibnigdfbaa
namespace Go.Proofs.Ytonkkibnigdfbaa
open Go.RowKit Go.Shelf B K
set_option linter.unusedVariables false
set_option linter.unusedSimpArgs false
set_option maxHeartbeats 2000000
def exN : NetP := ⟨40, [[], [], []], [⟨0, 1, 3, true, 0, [(5, 7)], []⟩, ⟨1, 2, 4, false, 0, [], []⟩, ⟨2, 1, 4, false, 0, [], []⟩]⟩
theorem exN_ok : OkN exN := chkN_iff.1 (by decide)
theorem exN_small : Small exN := ⟨by decide, by decide, by decide, by decide⟩
theorem alloc4 (w : World) (a b c d : Obj) : ((((w.alloc a).alloc b).alloc c).alloc d).heap[w.heap.size]? = some a ∧ ((((w.alloc a).alloc b).alloc c).alloc d).heap[w.heap.size + 1]? = some b ∧
    ((((w.alloc a).alloc b).alloc c).alloc d).heap[w.heap.size + 1 + 1]? = some c ∧ ((((w.alloc a).alloc b).alloc c).alloc d).heap[w.heap.size + 1 + 1 + 1]? = some d ∧ Below w.heap.size w ((((w.alloc a).alloc b).alloc c).alloc d) := by
  have s1 : (w.alloc a).heap.size = w.heap.size + 1 := by simp
  have s2 : ((w.alloc a).alloc b).heap.size = w.heap.size + 1 + 1 := by simp
  have s3 : (((w.alloc a).alloc b).alloc c).heap.size = w.heap.size + 1 + 1 + 1 := by simp
  have b1 : Below w.heap.size w (w.alloc a) := (Below.refl _ w).alloc (Nat.le_refl _) _
  have b2 : Below (w.alloc a).heap.size (w.alloc a) ((w.alloc a).alloc b) := (Below.refl _ _).alloc (Nat.le_refl _) _
  have b3 : Below ((w.alloc a).alloc b).heap.size ((w.alloc a).alloc b) (((w.alloc a).alloc b).alloc c) := (Below.refl _ _).alloc (Nat.le_refl _) _
  have b4 : Below (((w.alloc a).alloc b).alloc c).heap.size (((w.alloc a).alloc b).alloc c) ((((w.alloc a).alloc b).alloc c).alloc d) := (Below.refl _ _).alloc (Nat.le_refl _) _
  refine ⟨?_, ?_, ?_, ?_, b1.trans ((b2.trans ((b3.trans (b4.mono (by omega))).mono (by omega))).mono (by omega))⟩
  · rw [b4.block _ (by omega), b3.block _ (by omega), b2.block _ (by omega)]; exact heap_alloc_new w a
  · rw [b4.block _ (by omega), b3.block _ (by omega), ← s1]; exact heap_alloc_new _ b
  · rw [b4.block _ (by omega), ← s2]; exact heap_alloc_new _ c
  · rw [← s3]; exact heap_alloc_new _ d
set_option maxRecDepth 100000 in
theorem sexample_any (w : World) : Calls Try.prog 33 #[] w fun e w' => ∃ A c B d, e = .returned (.agg #[.int .i64 40, .slice A 3 c, .slice B 3 d]) ∧ RNet w' exN A 3 B 3 ∧ Below w.heap.size w w' := by
  have hms : ∀ U : World, (Instr.makeSlice 22 (.int .i64 3) (.int .i64 3)).run Try.prog U = .ok (.slice (some ⟨U.heap.size, 0, none⟩) 3 3) (U.alloc (.cells #[.slice none 0 0, .slice none 0 0, .slice none 0 0] 36)) := fun U => by kernel_rfl
  go_enter Try.func33, Try.ntmps33
  go_wp2_with fail
  generalize hU : World.alloc (World.alloc (World.alloc (World.alloc w _) _) _) _ = U
  obtain ⟨r0, r1, r2, r3, hb⟩ := alloc4 w _ _ _ _
  rw [hU] at r0 r1 r2 r3 hb
  have q0 : U.cell? ⟨w.heap.size, 0, none⟩ = some (.int .i64 40) := by rw [cell_of_row _ _ _ _ _ _ r0]; rfl
  have q1 : U.cell? ⟨w.heap.size, 1, none⟩ = some (.slice (some ⟨w.heap.size + 1, 0, none⟩) 3 3) := by rw [cell_of_row _ _ _ _ _ _ r0]; rfl
  have q2 : U.cell? ⟨w.heap.size, 2, none⟩ = some (.slice (some ⟨w.heap.size + 1 + 1 + 1, 0, none⟩) 3 3) := by rw [cell_of_row _ _ _ _ _ _ r0]; rfl
  have rnil : Rd U 2 pairE none 0 [] ∧ 0 ≤ 0 ∧ 0 ≤ 9223372036854775807 := ⟨Rd.nil, by omega, by omega⟩
  have hlt2 := (Array.getElem?_eq_some_iff.1 r2).1
  have rone : Rd U 2 pairE (some ⟨w.heap.size + 1 + 1, 0, none⟩) 1 [(5, 7)] ∧ 1 ≤ 1 ∧ 1 ≤ 9223372036854775807 := by
    refine ⟨⟨rfl, fun _ => ⟨_, 0, rfl, hlt2, fun i x hx j u hu => ?_⟩⟩, by omega, by omega⟩
    have hi : i = 0 := by have := (List.getElem?_eq_some_iff.1 hx).1; simpa using this
    subst hi
    simp at hx; subst hx
    rw [cell_of_row _ _ _ _ _ _ r2]
    simpa [pairE] using hu
  have hnet : RNet U exN (some ⟨w.heap.size + 1, 0, none⟩) 3 (some ⟨w.heap.size + 1 + 1 + 1, 0, none⟩) 3 := by
    refine ⟨rfl, rfl, fun k l hl => ?_, fun k l hl => ?_⟩
    · have hk : k < 3 := (List.getElem?_eq_some_iff.1 hl).1
      have hlt := (Array.getElem?_eq_some_iff.1 r1).1
      have : k = 0 ∨ k = 1 ∨ k = 2 := by omega
      rcases this with rfl | rfl | rfl <;> (simp [exN] at hl; subst hl; exact ⟨_, 0, none, 0, 0, rfl, hlt, by rw [cell_of_row _ _ _ _ _ _ r1]; rfl, rnil.1, by omega, by omega⟩)
    · have hk : k < 3 := (List.getElem?_eq_some_iff.1 hl).1
      have hlt := (Array.getElem?_eq_some_iff.1 r3).1
      have : k = 0 ∨ k = 1 ∨ k = 2 := by omega
      rcases this with rfl | rfl | rfl
      · simp [exN] at hl; subst hl
        refine ⟨_, 0, _, 1, 1, none, 0, 0, rfl, hlt, rone, rnil, ?_, ?_, ?_, ?_, ?_, ?_, ?_⟩ <;> (rw [cell_of_row _ _ _ _ _ _ r3]; rfl)
      · simp [exN] at hl; subst hl
        refine ⟨_, 0, none, 0, 0, none, 0, 0, rfl, hlt, rnil, rnil, ?_, ?_, ?_, ?_, ?_, ?_, ?_⟩ <;> (rw [cell_of_row _ _ _ _ _ _ r3]; rfl)
      · simp [exN] at hl; subst hl
        refine ⟨_, 0, none, 0, 0, none, 0, 0, rfl, hlt, rnil, rnil, ?_, ?_, ?_, ?_, ?_, ?_, ?_⟩ <;> (rw [cell_of_row _ _ _ _ _ _ r3]; rfl)
  clear hU r0 r1 r2 r3 rone rnil hms
  refine bodyPost_ret (by simp [results, Try.results33, go_sem, q0, q1, q2]; try rfl) rfl ?_
  exact ⟨_, 3, _, 3, rfl, hnet, hb⟩
theorem live_spr : Spr exN (single 3 0 1) [1, 8, 12] := Spr.of_B exN_ok (by decide)
set_option maxRecDepth 100000 in
theorem slives_any (w : World) : Calls Try.prog 16 #[] w fun e w' => e = .returned (.bool true) ∧ Below w.heap.size w w' := by
  go_enter Try.func16, Try.ntmps16
  go_wp2_with fail
  refine (sexample_any _).mono ?_; rintro e w1 ⟨A, c, B, d, rfl, hr, hb1⟩
  have hF := Lib.hid (sfrom_ok (c := c) (d := d) (s := 0) (t := 1) exN_small hr exN_ok (by omega) (by decide))
  rw [show exN.hz = 40 from rfl] at hF
  clear hr
  go_wp2_with fail
  refine hF.out.mono ?_; rintro e w2 ⟨A2, c2, D, rfl, hS, hI, hc1, hc2, hb2⟩
  have hD : D = [1, 8, 12] := hS.uniq live_spr
  rw [hD] at hI
  have hb12 := hb1.trans (hb2.mono hb1.size)
  have ha : Below w2.heap.size w2 (w2.alloc (.cells #[.int .i64 1, .int .i64 8, .int .i64 12] 2)) := (Below.refl _ w2).alloc (Nat.le_refl _) _
  have hn := Rd.lit w2 1 (numE .i64) nume_len 2 [1, 8, 12]
  have hsm := Lib.hid (sameT_any A2 3 c2 [1, 8, 12] (some ⟨w2.heap.size, 0, none⟩) 3 3 [1, 8, 12] (w2.alloc (.cells #[.int .i64 1, .int .i64 8, .int .i64 12] 2)) (hI.rd.below ha) hn (by omega) (by omega))
  have hb13 := Lib.hid (hb12.trans (ha.mono hb12.size))
  clear hS hD hI hF hn ha
  go_wp2_with fail
  refine hsm.out.mono ?_; rintro e w3 ⟨rfl, hb3⟩
  go_wp2_with fail
  go_returns
  exact ⟨by simp, hb13.out.trans (hb3.mono hb13.out.size)⟩
end Go.Proofs.Ytonkkibnigdfbaa
namespace Go.Proofs.Ytonkkibnigdfbaa
namespace B
open Go.RowKit Go.ChangeShapes Go.WideShapes Go.Deep Go.Joins
set_option linter.unusedVariables false
instance : Inhabited Lk := ⟨⟨0, 0, 0, false, 0, [], []⟩⟩
section
variable {H : Type} {encH : TypeId × Value → H} {P : Program} {w : World} {base : Nat} {spare : Nat → Bool} {held : Bool}
/-- a slice, element by element -/
theorem eachC {t e : TypeId} {size fuel : Nat} {cs : List Value} {x : DataW H × List MemPlace} (ht : P.underlying t = some (.slice e)) (hC : P.cellsOf e = size) (hpos : 0 < size) (hf : DataW.trod encH P w base spare held fuel t cs = some x) :
    ∃ A n c, cs = [.slice A n c] ∧ n ≤ c ∧ c ≤ 9223372036854775807 ∧ ∀ i, i < n → ∃ (b o : Nat) (cs' : List Value) (fuel' : Nat) (x' : DataW H × List MemPlace), A = some ⟨b, o, none⟩ ∧ b < w.heap.size ∧ cs'.length = size ∧
      (∀ (j : Nat) (u : Value), cs'[j]? = some u → w.cell? ⟨b, o + i * size + j, none⟩ = some u) ∧ DataW.trod encH P w base spare held fuel' e cs' = some x' := by
  rcases open_slice ht hf with ⟨rfl, _⟩ | ⟨a, len, cap, m, n, D, Pl, rfl, hb, hl, hm, hmm, _, hi⟩
  · exact ⟨none, 0, 0, rfl, Nat.le_refl _, by omega, fun i hi => absurd hi (by omega)⟩
  · have hlm : len ≤ m := by rw [hmm]; split <;> omega
    refine ⟨some a, len, cap, rfl, hl, by rw [← maxLen_num]; exact hm, fun i hin => ?_⟩
    obtain ⟨cs', hc, ht'⟩ := hi i (by omega)
    rw [hC] at hc
    obtain ⟨_, hcl, hat⟩ := World.cells?_some hc
    obtain ⟨b, o, sp⟩ := a
    have h0 := hat 0 hpos
    rw [List.getElem?_eq_getElem (by omega : 0 < cs'.length), add_add] at h0
    have hsp : sp = none := by
      obtain ⟨cs0, hc0, _⟩ := hi 0 (by omega)
      rw [hC] at hc0
      obtain ⟨_, hcl0, hat0⟩ := World.cells?_some hc0
      have h1 := hat0 0 hpos
      rw [List.getElem?_eq_getElem (by omega : 0 < cs0.length)] at h1
      simpa [Addr.add] using World.cell?_spot (by simpa [Addr.add] using h1)
    subst hsp
    have hbl : b < w.heap.size := by
      have h1 := block_lt_of_cell h0
      unfold Addr.add at h1
      split at h1 <;> exact h1
    refine ⟨b, o, cs', _, _, rfl, hbl, hcl, fun j u hu => ?_, ht'⟩
    have hj := (List.getElem?_eq_some_iff.1 hu).1
    have := hat j (by omega)
    rw [hu, add_add] at this
    rw [← this]
    congr 1
    unfold Addr.add
    split
    · rename_i h0; simp; try omega
    · simp [Nat.add_assoc]
/-- a slice of pairs of numbers -/
theorem pairsC {t e : TypeId} {f0 f1 : Field} {fuel : Nat} {cs : List Value} {x : DataW H × List MemPlace} (ht : P.underlying t = some (.slice e)) (he : P.underlying e = some (.struct #[f0, f1])) (hone : oneCellFields P #[f0, f1] = true) (hC : P.cellsOf e = 2)
    (h0 : P.underlying f0.type = some (.int .i64)) (h1 : P.underlying f1.type = some (.int .i64)) (hf : DataW.trod encH P w base spare held fuel t cs = some x) :
    ∃ A n c l, cs = [.slice A n c] ∧ Rd w 2 pairE A n l ∧ n ≤ c ∧ c ≤ 9223372036854775807 := by
  obtain ⟨A, n, c, rfl, hc, hc2, hi⟩ := eachC ht hC (by omega) hf
  have key : ∀ i, i < n → ∃ y : Int × Int, ∀ (j : Nat) (u : Value), (pairE y)[j]? = some u → ∃ b o, A = some ⟨b, o, none⟩ ∧ b < w.heap.size ∧ w.cell? ⟨b, o + i * 2 + j, none⟩ = some u := by
    intro i hin
    obtain ⟨b, o, cs', fuel', x', rfl, hb, hcl, hat, ht'⟩ := hi i hin
    obtain ⟨a, z, rfl⟩ : ∃ a z, cs' = [a, z] := by
      match cs', hcl with
      | [a, z], _ => exact ⟨a, z, rfl⟩
    obtain ⟨y0, y1, n', _, _, s0, s1⟩ := trod_struct2 he ht'
    obtain ⟨o0, k0⟩ := hone_of hone 0 f0 rfl
    obtain ⟨o1, k1⟩ := hone_of hone 1 f1 rfl
    rw [o0, k0] at s0
    rw [o1, k1] at s1
    simp only [List.drop_zero, List.drop_succ_cons, List.take_succ_cons, List.take_zero] at s0 s1
    obtain ⟨u0, e0, _, _⟩ := DataW.trod_int h0 s0
    obtain ⟨u1, e1, _, _⟩ := DataW.trod_int h1 s1
    cases e0; cases e1
    exact ⟨(u0, u1), fun j u hu => ⟨b, o, rfl, hb, hat j u hu⟩⟩
  obtain ⟨L, hL⟩ := choose_lt key
  refine ⟨A, n, c, (List.range n).map L, rfl, ⟨by simp, fun hn => ?_⟩, hc, hc2⟩
  obtain ⟨b, o, _, _, _, rfl, hb, _⟩ := hi 0 hn
  refine ⟨b, o, rfl, hb, fun i y hy j u hu => ?_⟩
  rw [List.getElem?_map] at hy
  obtain ⟨i', hi', rfl⟩ := Option.map_eq_some_iff.1 hy
  obtain ⟨hlt, rfl⟩ := List.getElem?_eq_some_iff.1 hi'
  simp at hlt
  obtain ⟨b', o', e, _, h3⟩ := hL i hlt j u (by simpa using hu)
  cases e
  exact h3
/-- a net -/
theorem open_net {r : Reach} {b0 : Nat} {t tw tl wl tn wn : TypeId} {f0 f1 f2 p0 p1 q0 q1 q2 q3 q4 q5 q6 : Field} {v : Value} {d : DataW H} {p : List MemPlace}
    (ht : P.underlying t = some (.struct #[f0, f1, f2])) (hone : oneCellFields P #[f0, f1, f2] = true) (hC : P.cellsOf t = 3) (h0 : P.underlying f0.type = some (.int .i64)) (e1 : f1.type = tw) (e2 : f2.type = tl)
    (hw : P.underlying tw = some (.slice wl)) (hwl : P.underlying wl = some (.slice wn)) (hwn : P.underlying wn = some (.struct #[p0, p1])) (ow : oneCellFields P #[p0, p1] = true) (cw : (P.cellsOf wl, P.cellsOf wn) = (1, 2)) (hp0 : P.underlying p0.type = some (.int .i64)) (hp1 : P.underlying p1.type = some (.int .i64))
    (hl : P.underlying tl = some (.slice tn)) (hn : P.underlying tn = some (.struct #[q0, q1, q2, q3, q4, q5, q6])) (ol : oneCellFields P #[q0, q1, q2, q3, q4, q5, q6] = true) (cl : P.cellsOf tn = 7)
    (hq0 : P.underlying q0.type = some (.int .i64)) (hq1 : P.underlying q1.type = some (.int .i64)) (hq2 : P.underlying q2.type = some (.int .i64)) (hq3 : P.underlying q3.type = some .bool) (hq4 : P.underlying q4.type = some (.int .i64)) (hq5 : q5.type = wl) (hq6 : q6.type = wl)
    (hv : Value.okWide P w r b0 t v) (h : DataW.Trod encH P w base spare held t v d p) :
    ∃ (N : NetP) (A : Option Addr) (n c : Nat) (B : Option Addr) (m dc : Nat), v = .agg #[.int .i64 N.hz, .slice A n c, .slice B m dc] ∧ RNet w N A n B m ∧ (-9223372036854775808 ≤ N.hz ∧ N.hz ≤ 9223372036854775807) ∧ n ≤ c ∧ c ≤ 9223372036854775807 ∧ m ≤ dc ∧ dc ≤ 9223372036854775807 := by
  obtain ⟨v0, v1, v2, y0, y1, y2, nf, rfl, _, _, g0, g1, g2⟩ := open_agg3 ht hone hC hv h
  obtain ⟨hz, e0, _, w0⟩ := DataW.trod_int h0 g0
  cases e0
  rw [e1] at g1
  rw [e2] at g2
  simp only [Prod.mk.injEq] at cw
  obtain ⟨A, n, c, ea, hc, hc2, hi⟩ := eachC hw cw.1 (by omega) g1
  obtain ⟨B, m, dc, eb, hd, hd2, hj⟩ := eachC hl cl (by omega) g2
  cases ea; cases eb
  have keyA : ∀ i, i < n → ∃ l : W.Row, ∃ b o sA sn sc, A = some ⟨b, o, none⟩ ∧ b < w.heap.size ∧ w.cell? ⟨b, o + i, none⟩ = some (.slice sA sn sc) ∧ Rd w 2 pairE sA sn l ∧ sn ≤ sc ∧ sc ≤ 9223372036854775807 := by
    intro i hin
    obtain ⟨b, o, cs', fuel', x', rfl, hb, hcl, hat, ht'⟩ := hi i hin
    obtain ⟨sA, sn, sc, l, rfl, hr, h1, h2⟩ := pairsC hwl hwn ow cw.2 hp0 hp1 ht'
    refine ⟨l, b, o, sA, sn, sc, rfl, hb, ?_, hr, h1, h2⟩
    have := hat 0 _ rfl
    rwa [Nat.mul_one, Nat.add_zero] at this
  obtain ⟨LA, hLA⟩ := choose_lt keyA
  have keyB : ∀ i, i < m → ∃ l : Lk, ∃ b o pA pn pc kA kn kc, B = some ⟨b, o, none⟩ ∧ b < w.heap.size ∧
      (Rd w 2 pairE pA pn l.op ∧ pn ≤ pc ∧ pc ≤ 9223372036854775807) ∧ (Rd w 2 pairE kA kn l.cl ∧ kn ≤ kc ∧ kc ≤ 9223372036854775807) ∧
      w.cell? ⟨b, o + i * 7, none⟩ = some (.int .i64 l.a) ∧ w.cell? ⟨b, o + i * 7 + 1, none⟩ = some (.int .i64 l.b) ∧ w.cell? ⟨b, o + i * 7 + 2, none⟩ = some (.int .i64 l.len) ∧ w.cell? ⟨b, o + i * 7 + 3, none⟩ = some (.bool l.door) ∧
      w.cell? ⟨b, o + i * 7 + 4, none⟩ = some (.int .i64 l.no) ∧ w.cell? ⟨b, o + i * 7 + 5, none⟩ = some (.slice pA pn pc) ∧ w.cell? ⟨b, o + i * 7 + 6, none⟩ = some (.slice kA kn kc) := by
    intro i hin
    obtain ⟨b, o, cs', fuel', x', rfl, hb, hcl, hat, ht'⟩ := hj i hin
    obtain ⟨z0, z1, z2, z3, z4, z5, z6, rfl⟩ : ∃ z0 z1 z2 z3 z4 z5 z6, cs' = [z0, z1, z2, z3, z4, z5, z6] := by
      match cs', hcl with
      | [z0, z1, z2, z3, z4, z5, z6], _ => exact ⟨z0, z1, z2, z3, z4, z5, z6, rfl⟩
    obtain ⟨ys, n', _, _, _, hyl, hfl⟩ := DataW.trod_struct hn ht'
    have fld : ∀ (j : Nat) (f : Field) (z : Value), (#[q0, q1, q2, q3, q4, q5, q6] : Array Field)[j]? = some f → [z0, z1, z2, z3, z4, z5, z6][j]? = some z → ∃ y, DataW.trod encH P w base spare held n' f.type [z] = some y := by
      intro j f z hjf hz
      obtain ⟨oo, kk⟩ := hone_of ol j f hjf
      have s := hfl j f hjf
      rw [oo, kk] at s
      have hj7 := (List.getElem?_eq_some_iff.1 hz).1
      have e : (([z0, z1, z2, z3, z4, z5, z6] : List Value).drop j).take 1 = [z] := by
        rw [List.drop_eq_getElem_cons hj7]
        have := (List.getElem?_eq_some_iff.1 hz).2
        rw [this]; rfl
      rw [e, List.getElem?_eq_getElem (by rw [hyl]; simpa using hj7)] at s
      exact ⟨_, s⟩
    obtain ⟨_, s0⟩ := fld 0 q0 z0 rfl rfl
    obtain ⟨_, s1⟩ := fld 1 q1 z1 rfl rfl
    obtain ⟨_, s2⟩ := fld 2 q2 z2 rfl rfl
    obtain ⟨_, s3⟩ := fld 3 q3 z3 rfl rfl
    obtain ⟨_, s4⟩ := fld 4 q4 z4 rfl rfl
    obtain ⟨_, s5⟩ := fld 5 q5 z5 rfl rfl
    obtain ⟨_, s6⟩ := fld 6 q6 z6 rfl rfl
    obtain ⟨la, a0, _, _⟩ := DataW.trod_int hq0 s0
    obtain ⟨lb, a1, _, _⟩ := DataW.trod_int hq1 s1
    obtain ⟨ln, a2, _, _⟩ := DataW.trod_int hq2 s2
    obtain ⟨ld, a3, _⟩ := DataW.trod_bool hq3 s3
    obtain ⟨lo, a4, _, _⟩ := DataW.trod_int hq4 s4
    rw [hq5] at s5
    rw [hq6] at s6
    obtain ⟨pA, pn, pc, op, a5, r5, c5, k5⟩ := pairsC hwl hwn ow cw.2 hp0 hp1 s5
    obtain ⟨kA, kn, kc, cl', a6, r6, c6, k6⟩ := pairsC hwl hwn ow cw.2 hp0 hp1 s6
    cases a0; cases a1; cases a2; cases a3; cases a4; cases a5; cases a6
    exact ⟨⟨la, lb, ln, ld, lo, op, cl'⟩, b, o, pA, pn, pc, kA, kn, kc, rfl, hb, ⟨r5, c5, k5⟩, ⟨r6, c6, k6⟩, hat 0 _ rfl, hat 1 _ rfl, hat 2 _ rfl, hat 3 _ rfl, hat 4 _ rfl, hat 5 _ rfl, hat 6 _ rfl⟩
  obtain ⟨LB, hLB⟩ := choose_lt keyB
  refine ⟨⟨hz, (List.range n).map LA, (List.range m).map LB⟩, A, n, c, B, m, dc, rfl, ⟨by simp, by simp, fun k l hl => ?_, fun k l hl => ?_⟩, wf_bounds w0, hc, hc2, hd, hd2⟩
  · rw [List.getElem?_map] at hl
    obtain ⟨i', hi', rfl⟩ := Option.map_eq_some_iff.1 hl
    obtain ⟨hlt, rfl⟩ := List.getElem?_eq_some_iff.1 hi'
    simp at hlt
    have := hLA k hlt
    simpa using this
  · rw [List.getElem?_map] at hl
    obtain ⟨i', hi', rfl⟩ := Option.map_eq_some_iff.1 hl
    obtain ⟨hlt, rfl⟩ := List.getElem?_eq_some_iff.1 hi'
    simp at hlt
    have := hLB k hlt
    simpa using this
end
end B
end Go.Proofs.Ytonkkibnigdfbaa
