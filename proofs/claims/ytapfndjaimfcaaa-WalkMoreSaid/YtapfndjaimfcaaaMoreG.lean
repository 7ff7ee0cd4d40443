/-
  WalkMore in memory: what the world is while own(a), append(.., b...) and All are run in a drawn region; while an edge is appended to a row in a loop.
-/
import Derived.Test.YtapfndjaimfcaaaLists13
import Derived.Test.YtapfndjaimfcaaaMorePlain
import Derived.Test.YtapfndjaimfcaaaAnyGhost2
namespace Go.Proofs.Ytapfndjaimfcaaa
open Go.RowKit Go.Shelf B K
set_option linter.unusedVariables false
set_option linter.unusedSimpArgs false
theorem own_base {w : World} {b0 b1 size n : Nat} {e : TypeId} {v : Value} {xs : List Value} (h : w.ownsRow b1 e size v n xs) (hb : b0 ≤ b1) : w.ownsRow b0 e size v n xs := by
  refine ⟨h.1, ?_⟩
  rcases h.2 with h2 | ⟨g, cap, cur, rfl, h3, r⟩
  · exact .inl h2
  · exact .inr ⟨g, cap, cur, rfl, by omega, r⟩
structure GA (w0 : World) (N : Nat) (a b : List Ed) (ow li ap al mv ex sg : Bool) (xo xl xa xr xm xe xs : Value) (w : World) : Prop where
  bel : Below w0.heap.size w0 w
  apo : ap = true → ow = true
  apl : ap = true → li = true
  alp : al = true → ap = true
  mva : mv = true → al = true
  exa : ex = true → al = true
  asa : sg = true → al = true
  own : ow = true → ap = false → w.ownsRow w0.heap.size 32 3 xo a.length (a.flatMap tripE)
  lit : li = true → ap = false → ∃ A m c, xl = .slice A m c ∧ Rd w 3 tripE A m b
  app : ap = true → al = false → w.ownsRow w0.heap.size 32 3 xa (a ++ b).length ((a ++ b).flatMap tripE)
  all : al = true → ∃ A c L, xr = .tuple #[.slice A N c, .int .i64 0] ∧ Rd w 1 (rowE N) A N L ∧ RowsOk w w0.heap.size N (a ++ b) L ∧ (mv = true → xm = xr) ∧ (ex = true → xe = .slice A N c) ∧ (sg = true → xs = .slice A N c)
section
variable {w0 w w' : World} {N : Nat} {a b : List Ed} {ow li ap al mv ex sg : Bool} {xo xl xa xr xm xe xs v : Value}
theorem below_drawn (w : World) : Below w.heap.size w { w with drawn := w.drawn + 1 } := ⟨rfl, rfl, rfl, Nat.le_refl _, fun _ _ => rfl⟩
theorem GA.start (h1 : ow = false) (h3 : ap = false) (h4 : al = false) (h5 : mv = false) (h6 : ex = false) (h7 : sg = false) (hl : li = true → ∃ A m c, xl = .slice A m c ∧ Rd w0 3 tripE A m b) : GA w0 N a b ow li ap al mv ex sg xo xl xa xr xm xe xs { w0 with drawn := w0.drawn + 1 } := by
  subst h1 h3 h4 h5 h6 h7
  refine ⟨below_drawn _, fun h => (by cases h), fun h => (by cases h), fun h => (by cases h), fun h => (by cases h), fun h => (by cases h), fun h => (by cases h), fun h => (by cases h), fun h _ => ?_, fun h => (by cases h), fun h => (by cases h)⟩
  obtain ⟨A, m, c, e, r⟩ := hl h
  exact ⟨A, m, c, e, r.below (below_drawn _)⟩
theorem GA.no_ap (h : GA w0 N a b ow li ap al mv ex sg xo xl xa xr xm xe xs w) (hl : ow = false) : ap = false := by
  cases e : ap with
  | false => rfl
  | true => have := h.apo e; rw [hl] at this; cases this
theorem GA.no_ap' (h : GA w0 N a b ow li ap al mv ex sg xo xl xa xr xm xe xs w) (hl : li = false) : ap = false := by
  cases e : ap with
  | false => rfl
  | true => have := h.apl e; rw [hl] at this; cases this
theorem GA.no_al (h : GA w0 N a b ow li ap al mv ex sg xo xl xa xr xm xe xs w) (hl : ap = false) : al = false := by
  cases e : al with
  | false => rfl
  | true => have := h.alp e; rw [hl] at this; cases this
theorem GA.ownS (h : GA w0 N a b ow li ap al mv ex sg xo xl xa xr xm xe xs w) (hl : ow = false) (own : w'.ownsRow w.heap.size 32 3 v a.length (a.flatMap tripE)) (hb : Below w.heap.size w w') : GA w0 N a b true li ap al mv ex sg v xl xa xr xm xe xs w' := by
  have hap := h.no_ap hl
  have hal := h.no_al hap
  refine ⟨h.bel.trans (hb.mono h.bel.size), fun _ => rfl, h.apl, h.alp, h.mva, h.exa, h.asa, fun _ _ => own_base own h.bel.size, fun h1 h2 => ?_, fun h1 => (by rw [hap] at h1; cases h1), fun h1 => (by rw [hal] at h1; cases h1)⟩
  obtain ⟨A, m, c, e, r⟩ := h.lit h1 h2
  exact ⟨A, m, c, e, r.below hb⟩
theorem GA.litS {x : Ed} {c : Nat} (h : GA w0 N a [x] ow li ap al mv ex sg xo xl xa xr xm xe xs w) (hl : li = false) : GA w0 N a [x] ow true ap al mv ex sg xo (.slice (some ⟨w.heap.size, 0, none⟩) 1 c) xa xr xm xe xs (w.alloc (.cells #[.int .i64 x.1, .int .i64 x.2.1, .int .i64 x.2.2] 32)) := by
  have hap := h.no_ap' hl
  have hal := h.no_al hap
  have hb : Below w.heap.size w (w.alloc (.cells #[.int .i64 x.1, .int .i64 x.2.1, .int .i64 x.2.2] 32)) := (Below.refl _ w).alloc (Nat.le_refl _) _
  exact ⟨h.bel.trans (hb.mono h.bel.size), h.apo, fun _ => rfl, h.alp, h.mva, h.exa, h.asa, fun h1 h2 => (h.own h1 h2).alloc _, fun _ _ => ⟨_, _, _, rfl, rd_trip (heap_alloc_new w _)⟩, fun h1 => (by rw [hap] at h1; cases h1), fun h1 => (by rw [hal] at h1; cases h1)⟩
theorem GA.appS (h : GA w0 N a b ow li ap al mv ex sg xo xl xa xr xm xe xs w) (hl : ap = false) (ho : ow = true) (hi : li = true) (own : w'.ownsRow w0.heap.size 32 3 v (a ++ b).length ((a ++ b).flatMap tripE)) (hb : Below w0.heap.size w w') : GA w0 N a b ow li true al mv ex sg xo xl v xr xm xe xs w' := by
  have hal := h.no_al hl
  exact ⟨h.bel.trans hb, fun _ => ho, fun _ => hi, fun _ => rfl, h.mva, h.exa, h.asa, fun _ h2 => (by cases h2), fun _ h2 => (by cases h2), fun _ _ => own, fun h1 => (by rw [hal] at h1; cases h1)⟩
theorem GA.allS {A : Option Addr} {c : Nat} {L : List Nat} (h : GA w0 N a b ow li ap al mv ex sg xo xl xa xr xm xe xs w) (hl : al = false) (hp : ap = true) (hR : Rd w' 1 (rowE N) A N L) (hL : RowsOk w' w.heap.size N (a ++ b) L) (hb : Below w.heap.size w w') : GA w0 N a b ow li ap true mv ex sg xo xl xa (.tuple #[.slice A N c, .int .i64 0]) xm xe xs w' := by
  have h1 : mv = false := by
    cases e : mv with
    | false => rfl
    | true => have := h.mva e; rw [hl] at this; cases this
  have h2 : ex = false := by
    cases e : ex with
    | false => rfl
    | true => have := h.exa e; rw [hl] at this; cases this
  have h3 : sg = false := by
    cases e : sg with
    | false => rfl
    | true => have := h.asa e; rw [hl] at this; cases this
  refine ⟨h.bel.trans (hb.mono h.bel.size), h.apo, h.apl, fun _ => hp, fun _ => rfl, fun _ => rfl, fun _ => rfl, fun _ h4 => (by rw [hp] at h4; cases h4), fun _ h4 => (by rw [hp] at h4; cases h4), fun _ h4 => (by cases h4), fun _ => ⟨A, c, L, rfl, hR, fun i fb hx => ⟨Nat.le_trans h.bel.size (hL i fb hx).1, (hL i fb hx).2⟩, fun h4 => ?_, fun h4 => ?_, fun h4 => ?_⟩⟩
  · rw [h1] at h4; cases h4
  · rw [h2] at h4; cases h4
  · rw [h3] at h4; cases h4
theorem GA.mvS (h : GA w0 N a b ow li ap al mv ex sg xo xl xa xr xm xe xs w) (ha : al = true) : GA w0 N a b ow li ap al true ex sg xo xl xa xr xr xe xs w := by
  obtain ⟨A, c, L, e, hR, hL, h1, h2, h3⟩ := h.all ha
  exact ⟨h.bel, h.apo, h.apl, h.alp, fun _ => ha, h.exa, h.asa, h.own, h.lit, h.app, fun _ => ⟨A, c, L, e, hR, hL, fun _ => rfl, h2, h3⟩⟩
theorem GA.tup (h : GA w0 N a b ow li ap al mv ex sg xo xl xa xr xm xe xs w) (hm : mv = true) : ∃ A c, xm = .tuple #[.slice A N c, .int .i64 0] ∧ GA w0 N a b ow li ap al mv true sg xo xl xa xr xm (.slice A N c) xs w := by
  have ha := h.mva hm
  obtain ⟨A, c, L, e, hR, hL, h1, h2, h3⟩ := h.all ha
  exact ⟨A, c, by rw [h1 hm, e], h.bel, h.apo, h.apl, h.alp, h.mva, fun _ => ha, h.asa, h.own, h.lit, h.app, fun _ => ⟨A, c, L, e, hR, hL, h1, fun _ => rfl, h3⟩⟩
theorem GA.asS (h : GA w0 N a b ow li ap al mv ex sg xo xl xa xr xm xe xs w) (hx : ex = true) : ∃ A c, xe = .slice A N c ∧ GA w0 N a b ow li ap al mv ex true xo xl xa xr xm xe (.slice A N c) w := by
  have ha := h.exa hx
  obtain ⟨A, c, L, e, hR, hL, h1, h2, h3⟩ := h.all ha
  exact ⟨A, c, h2 hx, h.bel, h.apo, h.apl, h.alp, h.mva, h.exa, fun _ => ha, h.own, h.lit, h.app, fun _ => ⟨A, c, L, e, hR, hL, h1, h2, fun _ => rfl⟩⟩
theorem GA.fin (h : GA w0 N a b ow li ap al mv ex sg xo xl xa xr xm xe xs w) (hs : sg = true) : ∃ A c L, xs = .slice A N c ∧ Rd w 1 (rowE N) A N L ∧ RowsOk w w0.heap.size N (a ++ b) L ∧ Below w0.heap.size w0 w := by
  obtain ⟨A, c, L, e, hR, hL, h1, h2, h3⟩ := h.all (h.asa hs)
  exact ⟨A, c, L, h3 hs, hR, hL, h.bel⟩
end
structure GB (w0 : World) (base : Nat) (v0 : Value) (a : List Ed) (e : Ed) (rd li ap sg : Bool) (xl xa xs : Value) (w : World) : Prop where
  bel : Below base w0 w
  apr : ap = true → rd = true
  apl : ap = true → li = true
  asp : sg = true → ap = true
  ini : sg = false → xs = v0
  lit : li = true → ap = false → ∃ k c, xl = .slice (some ⟨k, 0, none⟩) 1 c ∧ Rd w 3 tripE (some ⟨k, 0, none⟩) 1 [e]
  own : ap = false → w.ownsRow base 32 3 v0 a.length (a.flatMap tripE)
  app : ap = true → w.ownsRow base 32 3 xa (a ++ [e]).length ((a ++ [e]).flatMap tripE)
  asg : sg = true → xs = xa
section
variable {w0 w w' : World} {base : Nat} {v0 xl xa xs v : Value} {a : List Ed} {e : Ed} {rd li ap sg : Bool}
theorem GB.start (h2 : li = false) (h3 : ap = false) (h4 : sg = false) (hx : xs = v0) (own : w0.ownsRow base 32 3 v0 a.length (a.flatMap tripE)) : GB w0 base v0 a e rd li ap sg xl xa xs { w0 with drawn := w0.drawn + 1 } := by
  subst h2 h3 h4
  exact ⟨⟨rfl, rfl, rfl, Nat.le_refl _, fun _ _ => rfl⟩, fun h => (by cases h), fun h => (by cases h), fun h => (by cases h), fun _ => hx, fun h => (by cases h), fun _ => own, fun h => (by cases h), fun h => (by cases h)⟩
theorem GB.rdS (h : GB w0 base v0 a e rd li ap sg xl xa xs w) (hl : rd = false) : xs = v0 ∧ GB w0 base v0 a e true li ap sg xl xa xs w := by
  have hap : ap = false := by
    cases e : ap with
    | false => rfl
    | true => have := h.apr e; rw [hl] at this; cases this
  have has : sg = false := by
    cases e : sg with
    | false => rfl
    | true => have := h.asp e; rw [hap] at this; cases this
  exact ⟨h.ini has, h.bel, fun _ => rfl, h.apl, h.asp, h.ini, h.lit, h.own, h.app, h.asg⟩
theorem GB.litS {c : Nat} (h : GB w0 base v0 a e rd li ap sg xl xa xs w) (hl : li = false) (hbase : base ≤ w0.heap.size) : GB w0 base v0 a e rd true ap sg (.slice (some ⟨w.heap.size, 0, none⟩) 1 c) xa xs (w.alloc (.cells #[.int .i64 e.1, .int .i64 e.2.1, .int .i64 e.2.2] 32)) := by
  have hap : ap = false := by
    cases e : ap with
    | false => rfl
    | true => have := h.apl e; rw [hl] at this; cases this
  have hb : Below w.heap.size w (w.alloc (.cells #[.int .i64 e.1, .int .i64 e.2.1, .int .i64 e.2.2] 32)) := (Below.refl _ w).alloc (Nat.le_refl _) _
  exact ⟨h.bel.trans (hb.mono (Nat.le_trans hbase h.bel.size)), h.apr, fun _ => rfl, h.asp, h.ini, fun _ _ => ⟨_, _, rfl, rd_trip (heap_alloc_new w _)⟩, fun h1 => (h.own h1).alloc _, fun h1 => (by rw [hap] at h1; cases h1), h.asg⟩
theorem GB.appS (h : GB w0 base v0 a e rd li ap sg xl xa xs w) (hl : ap = false) (hr : rd = true) (hi : li = true) (own : w'.ownsRow base 32 3 v (a ++ [e]).length ((a ++ [e]).flatMap tripE)) (hb : Below base w w') : GB w0 base v0 a e rd li true sg xl v xs w' := by
  have has : sg = false := by
    cases e : sg with
    | false => rfl
    | true => have := h.asp e; rw [hl] at this; cases this
  exact ⟨h.bel.trans hb, fun _ => hr, fun _ => hi, fun _ => rfl, h.ini, fun _ h1 => (by cases h1), fun h1 => (by cases h1), fun _ => own, fun h1 => (by rw [has] at h1; cases h1)⟩
theorem GB.asS (h : GB w0 base v0 a e rd li ap sg xl xa xs w) (hp : ap = true) : GB w0 base v0 a e rd li ap true xl xa xa w :=
  ⟨h.bel, h.apr, h.apl, fun _ => hp, fun h1 => (by cases h1), h.lit, h.own, h.app, fun _ => rfl⟩
end
theorem rows_at {w : World} {n i k : Nat} {A : Option Addr} {L : List Nat} {D : Nat → List Int} (hR : Rd w 1 (rowE n) A n L) (hD : RowsD w n D L) (hi : i < n) (hk : k < n) :
    ∃ b o fb v, A = some ⟨b, o, none⟩ ∧ b < w.heap.size ∧ fb < w.heap.size ∧ w.cell? ⟨b, o + i, none⟩ = some (.slice (some ⟨fb, 0, none⟩) n n) ∧ (D i)[k]? = some v ∧ w.cell? ⟨fb, k, none⟩ = some (.int .i64 v) := by
  obtain ⟨b, o, fb, rfl, hb, hl, h1⟩ := hR.row hi
  obtain ⟨hf, hlen⟩ := hD i fb hl
  obtain ⟨v, hv⟩ : ∃ v, (D i)[k]? = some v := ⟨(D i)[k]'(by omega), List.getElem?_eq_getElem _⟩
  exact ⟨b, o, fb, v, rfl, hb, (Array.getElem?_eq_some_iff.1 hf).1, h1, hv, by rw [cell_of_row _ _ _ _ _ _ hf]; simp [hv]⟩
end Go.Proofs.Ytapfndjaimfcaaa
