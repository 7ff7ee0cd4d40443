import Derived.WalkKit
import Derived.WalkSpells
import Derived.WalkSmall
import Derived.Lib.Hide
namespace Go.Proofs.YtibeoiphjkgekaaGreat
namespace B
open Go.RowKit
/-- where s[k:] begins -/
def cutA (A : Option Addr) (c k s : Nat) : Option Addr := if c = k then A else A.map (·.add (k * s))
theorem run_cut {P : Program} {t e : TypeId} {s : Nat} (ht : P.underlying t = some (.slice e)) (he : P.elem t = e) (hs : ∀ W, (sizeOf e).run P W = .ok s W) (A : Option Addr) (n c k : Nat) (hk : k ≤ n) (kl : IntKind) (W : World) :
    (Instr.slice t (.slice A n c) (some (.int kl (k : Int))) none none).run P W = .ok (.slice (cutA A c k s) (n - k) (c - k)) W := by
  subst he
  rw [run_slice_l W t A n c ht kl (k : Int) (by omega) (by omega), hs]
  simp [Result.andThen, sliced, cutA]
/-- a slice value `.slice A n c` reads as the list l, each element as `enc x` (of `size` cells) -/
structure Rd {α : Type} (w : World) (size : Nat) (enc : α → List Value) (A : Option Addr) (n : Nat) (l : List α) : Prop where
  len : l.length = n
  cells : 0 < n → ∃ b o, A = some ⟨b, o, none⟩ ∧ b < w.heap.size ∧ ∀ i x, l[i]? = some x → ∀ j u, (enc x)[j]? = some u → w.cell? ⟨b, o + i * size + j, none⟩ = some u
section
variable {α : Type} {w w' : World} {size n B : Nat} {enc : α → List Value} {A : Option Addr} {l : List α}
theorem Rd.nil : Rd w size enc A 0 ([] : List α) := ⟨rfl, fun h => absurd h (by omega)⟩
theorem Rd.keep (h : Rd w size enc A n l) (hs : w.heap.size ≤ w'.heap.size) (hk : ∀ b o, b < w.heap.size → w'.cell? ⟨b, o, none⟩ = w.cell? ⟨b, o, none⟩) : Rd w' size enc A n l :=
  ⟨h.len, fun hn => by
    obtain ⟨b, o, e, hb, hc⟩ := h.cells hn
    exact ⟨b, o, e, by omega, fun i x hx j u hu => (hk _ _ hb).trans (hc i x hx j u hu)⟩⟩
theorem Rd.below (h : Rd w size enc A n l) (hb : Below w.heap.size w w') : Rd w' size enc A n l := h.keep hb.size fun b o hlt => hb.cell (p := ⟨b, o, none⟩) hlt
theorem Rd.drop {k c : Nat} (h : Rd w size enc A n l) (hk : k ≤ n) (hc : n ≤ c) :
    Rd w size enc (cutA A c k size) (n - k) (l.drop k) := by
  unfold cutA
  refine ⟨by rw [List.length_drop, h.len], fun hn => ?_⟩
  obtain ⟨b, o, rfl, hb, hcell⟩ := h.cells (by omega)
  rw [if_neg (by omega)]
  refine ⟨b, o + k * size, by simp [Addr.add], hb, fun i x hx j u hu => ?_⟩
  have := hcell (k + i) x (by rw [← hx, List.getElem?_drop]) j u hu
  rw [← this, Nat.add_mul, Nat.add_assoc o]
end
theorem maxLen_num : maxLen = 9223372036854775807 := by unfold maxLen; rfl
/-- cells of a list of elements of one size -/
theorem flatMap_at {α : Type} {enc : α → List Value} {size : Nat} (hs : ∀ x, (enc x).length = size) : ∀ (l : List α) (i : Nat) (x : α), l[i]? = some x → ∀ (j : Nat) (u : Value), (enc x)[j]? = some u → (l.flatMap enc)[i * size + j]? = some u := by
  intro l
  induction l with
  | nil => intro i x h; simp at h
  | cons y r ih =>
    intro i x h j u hu
    cases i with
    | zero =>
      simp at h; subst h
      rw [List.flatMap_cons, Nat.zero_mul, Nat.zero_add, List.getElem?_append_left (by obtain ⟨h, _⟩ := List.getElem?_eq_some_iff.1 hu; exact h)]; exact hu
    | succ i =>
      rw [List.flatMap_cons, List.getElem?_append_right (by rw [hs, Nat.succ_mul]; omega), hs, show (i + 1) * size + j - size = i * size + j by rw [Nat.succ_mul]; omega]
      exact ih i x (by simpa using h) j u hu
theorem flatMap_len {α : Type} {enc : α → List Value} {size : Nat} (hs : ∀ x, (enc x).length = size) (l : List α) : (l.flatMap enc).length = l.length * size := by
  induction l with
  | nil => simp
  | cons y r ih => rw [List.flatMap_cons, List.length_append, ih, hs, List.length_cons, Nat.succ_mul]; omega
/-- an owned row reads as its list -/
theorem Rd.of_own {α : Type} {enc : α → List Value} {w : World} {base size n : Nat} {e : TypeId} {v : Value} {l : List α} (hs : ∀ x, (enc x).length = size) (hl : l.length = n)
    (h : w.ownsRow base e size v n (l.flatMap enc)) : ∃ A c, v = .slice A n c ∧ Rd w size enc A n l ∧ n ≤ c ∧ c ≤ 9223372036854775807 := by
  rcases h.2 with ⟨rfl, rfl⟩ | ⟨g, cap, cur, rfl, hb, hh, hn, hc, hsz, ht⟩
  · exact ⟨none, 0, rfl, ⟨hl, fun h => absurd h (by omega)⟩, Nat.le_refl _, by omega⟩
  · refine ⟨_, cap, rfl, ⟨hl, fun _ => ⟨g, 0, rfl, (Array.getElem?_eq_some_iff.1 hh).1, fun i x hx j u hu => ?_⟩⟩, hn, by rw [← maxLen_num]; exact hc⟩
    have := flatMap_at hs l i x hx j u hu
    rw [← ht] at this
    have h2 : cur.toList[i * size + j]? = some u := by
      rw [List.getElem?_take] at this; split at this
      · exact this
      · cases this
    simp [World.cell?, hh]
    simpa using h2
/-- a row written out in a new block -/
theorem Rd.lit {α : Type} (w : World) (size : Nat) (enc : α → List Value) (hs : ∀ x, (enc x).length = size) (e : TypeId) (l : List α) : Rd (w.alloc (.cells (l.flatMap enc).toArray e)) size enc (some ⟨w.heap.size, 0, none⟩) l.length l :=
  ⟨rfl, fun _ => ⟨w.heap.size, 0, rfl, by simp, fun i x hx j u hu => by
    rw [cell_of_row _ _ _ _ _ _ (heap_alloc_new w _), Nat.zero_add]
    simpa using flatMap_at hs l i x hx j u hu⟩⟩
/-- what owns a row owns it while its block lies as it lay -/
theorem own_keep {w w' : World} {base size n : Nat} {e : TypeId} {v : Value} {xs : List Value} (h : w.ownsRow base e size v n xs) (hk : ∀ k, v.ownBlock = some k → w'.heap[k]? = w.heap[k]?) : w'.ownsRow base e size v n xs := by
  refine ⟨h.1, ?_⟩
  rcases h.2 with h2 | ⟨g, cap, cur, rfl, hb, hh, r⟩
  · exact .inl h2
  · exact .inr ⟨g, cap, cur, rfl, hb, (hk g rfl).trans hh, r⟩
/-- a block of one cell -/
theorem alloc_one (w : World) (v : Value) (t : TypeId) : (w.alloc (.cells #[v] t)).heap[w.heap.size]? = some (.cells #[v] t (0, 0)) := heap_alloc_new w _
/-- an element at its place -/
theorem drop_at {α : Type} {l : List α} {k : Nat} {x : α} (h : l[k]? = some x) : l.drop k = x :: l.drop (k + 1) := by
  obtain ⟨hlt, rfl⟩ := List.getElem?_eq_some_iff.1 h
  exact List.drop_eq_getElem_cons hlt
theorem take_at {α : Type} {l : List α} {k : Nat} {x : α} (h : l[k]? = some x) : l.take (k + 1) = l.take k ++ [x] := by
  obtain ⟨hlt, rfl⟩ := List.getElem?_eq_some_iff.1 h
  rw [List.take_succ_eq_append_getElem hlt]
theorem ret_int {k : IntKind} {a b : Int} (h : a = b) : Ending.returned (.int k a) = .returned (.int k b) := by rw [h]
theorem ret_bool {a b : Bool} (h : a = b) : Ending.returned (.bool a) = .returned (.bool b) := by rw [h]
/-- two numbers a row: a pair's cells -/
def pairE (p : Int × Int) : List Value := [.int .i64 p.1, .int .i64 p.2]
section
variable {w : World} {n k : Nat} {A : Option Addr} {l : List (Int × Int)}
theorem Rd.pair (h : Rd w 2 pairE A n l) (hk : k < n) : ∃ b o x y, A = some ⟨b, o, none⟩ ∧ b < w.heap.size ∧ l[k]? = some (x, y) ∧
    w.cell? ⟨b, o + k * 2, none⟩ = some (.int .i64 x) ∧ w.cell? ⟨b, o + k * 2 + 1, none⟩ = some (.int .i64 y) := by
  obtain ⟨b, o, rfl, hb, hc⟩ := h.cells (by omega)
  have hl : k < l.length := by rw [h.len]; exact hk
  have hx : l[k]? = some l[k] := List.getElem?_eq_getElem hl
  exact ⟨b, o, l[k].1, l[k].2, rfl, hb, hx, hc k _ hx 0 _ rfl, hc k _ hx 1 _ rfl⟩
end
/-- a row of pairs handed back, in whatever memory; what was there is as it was -/
def RetRow1 (w : World) (l : List (Int × Int)) (e : Ending) (w' : World) : Prop :=
  ∃ A c, e = .returned (.slice A l.length c) ∧ Rd w' 2 pairE A l.length l ∧ l.length ≤ c ∧ c ≤ 9223372036854775807 ∧ Below w.heap.size w w'
/-- .. and a number beside it -/
def RetRow2 (w : World) (l : List (Int × Int)) (x : Int) (e : Ending) (w' : World) : Prop :=
  ∃ A c, e = .returned (.tuple #[.slice A l.length c, .int .i64 x]) ∧ Rd w' 2 pairE A l.length l ∧ l.length ≤ c ∧ c ≤ 9223372036854775807 ∧ Below w.heap.size w w'
theorem RetRow1.mk {w w' : World} {l : List (Int × Int)} {e : Ending} (A : Option Addr) (c : Nat) (h : e = .returned (.slice A l.length c)) (r : Rd w' 2 pairE A l.length l) (hc : l.length ≤ c) (hc2 : c ≤ 9223372036854775807) (hb : Below w.heap.size w w') :
    RetRow1 w l e w' := ⟨A, c, h, r, hc, hc2, hb⟩
theorem RetRow2.mk {w w' : World} {l : List (Int × Int)} {x : Int} {e : Ending} (A : Option Addr) (c : Nat) (h : e = .returned (.tuple #[.slice A l.length c, .int .i64 x])) (r : Rd w' 2 pairE A l.length l) (hc : l.length ≤ c) (hc2 : c ≤ 9223372036854775807) (hb : Below w.heap.size w w') :
    RetRow2 w l x e w' := ⟨A, c, h, r, hc, hc2, hb⟩
end B
end Go.Proofs.YtibeoiphjkgekaaGreat
