/-
  Two entries of a map of its own stored in one statement: each key is there already.
-/
import Derived.WideKeyEntry
import Derived.Test.YtapfndjaimfcaaaMapI
namespace Go.Proofs.Ytapfndjaimfcaaa
namespace B
open Go.RowKit Go.WideElems Go.ChangeShapes Go.WideShapes Go.MapKept Go.ChangeMaps
open Go.Maps (Keyed)
theorem setBlock_self {w : World} {b : Nat} {o : Obj} (hb : w.heap[b]? = some o) : setBlock w b o = w := by
  have e : w.heap.setIfInBounds b o = w.heap := by
    apply Array.ext_getElem?
    intro i
    by_cases hi : i = b
    · subst hi
      rw [Array.getElem?_setIfInBounds_self, hb]
      simp [(Array.getElem?_eq_some_iff.1 hb).1]
    · rw [Array.getElem?_setIfInBounds_ne (Ne.symm hi)]
  unfold setBlock
  rw [e]
section
variable {H : Type} {P : Program} {t k e : TypeId} {R : Value → Option (DataW H × List MemPlace)} {b : Nat} {es : Array MapEntry} {clock : Nat}
theorem entry_fix (K : Keyed P k) (ht : P.underlying t = some (.map k e)) (F : Fit P k R es clock) {key : Value} {kl : Lit} (hkey : keyOf P k key = some kl) (hth : ∃ x ∈ es.toList, x.key = key) :
    ∃ (v0 : Value) (st : Nat), (∀ W : World, W.heap[b]? = some (.map es clock) → (Instr.mapEntry t (.map (some b)) key).run P W = .ok (.tuple #[v0, goInt st]) W) ∧
      ∀ val : Value, ∃ es', ∀ W : World, W.heap[b]? = some (.map es clock) → (Instr.entryStore t (.map (some b)) (goInt st) val).run P W = .ok () (setBlock W b (.map es' clock)) ∧
        (Instr.mapUpdate t (.map (some b)) key val).run P W = .ok () (setBlock W b (.map es' clock)) := by
  obtain ⟨s1, s2, _⟩ := F.stamped
  have hdis : es.toList.Pairwise (fun x y => x.key ≠ y.key) := ((stamped_iff es clock).1 F.stamped).2.2
  obtain ⟨x, hx, hxk⟩ := hth
  obtain ⟨j, hj⟩ := List.getElem?_of_mem hx
  have found : ∀ W : World, (Instr.findKey k key es.toList).run P W = .ok (some (j, x.val)) W := fun W => by
    rcases K.find W hkey es.toList F.keys with ⟨_, h2⟩ | ⟨j', e0, h1, h2, h3⟩
    · exact absurd hxk (h2 x hx)
    · have : j' = j := by
        have hp := List.pairwise_iff_getElem.1 hdis
        obtain ⟨q1, q2⟩ := List.getElem?_eq_some_iff.1 h2
        obtain ⟨q3, q4⟩ := List.getElem?_eq_some_iff.1 hj
        rcases Nat.lt_trichotomy j' j with h | h | h
        · exact absurd (by rw [q2, q4, h3, hxk]) (hp j' j q1 q3 h)
        · exact h
        · exact absurd (by rw [q2, q4, h3, hxk]) (hp j j' q3 q1 h)
      subst this
      rw [hj] at h2; cases h2
      exact h1
  have hj' : es[j]? = some x := by simpa using hj
  have hsame : es.modify j (fun e => { e with key := key }) = es := by
    apply Array.ext'
    rw [Array.toList_modify, modify_eq_set _ _ _ _ hj]
    have : ({ x with key := key } : MapEntry) = x := by rw [← hxk]
    rw [this]
    exact set_self _ _ _ hj
  refine ⟨x.val, x.born, fun W hW => ?_, fun val => ⟨es.modify j (fun e' => { e' with key := key, val := val }), fun W hW => ⟨?_, ?_⟩⟩⟩
  · have := setBlock_self hW
    simp [Instr.mapEntry, run_underlying ht, MapKept.run_getObj_map hW, K.check W false hkey, found, hj', hxk, K.stays W hkey, hsame, MapKept.run_setObj_map _ hW, Result.andThen]
    exact this
  · have hidx : es.findIdx? (fun e => ((e.born : Nat) : Int) == ((x.born : Nat) : Int)) = some j := by
      rw [findIdx_arr]
      exact findIdx_born s2 hj
    have hmod : es.modify j (fun e => { e with val := val }) = es.modify j (fun e' => { e' with key := key, val := val }) := by
      apply Array.ext'
      rw [Array.toList_modify, Array.toList_modify, modify_eq_set _ _ _ _ hj, modify_eq_set _ _ _ _ hj, ← hxk]
    simp [Instr.entryStore, MapKept.run_getObj_map hW, asInt, asIntOf, goInt, hidx, hmod, MapKept.run_setObj_map _ hW, Result.andThen, setBlock]
  · simp [Instr.mapUpdate, run_underlying ht, MapKept.run_getObj_map hW, K.check W false hkey, found, hj', hxk, K.stays W hkey, MapKept.run_setObj_map _ hW, Result.andThen, setBlock]
end
section
variable {P : Program} {k e : TypeId}
theorem heap_setB {W : World} {m : Nat} {o o' : Obj} (h : W.heap[m]? = some o) : (setBlock W m o').heap[m]? = some o' := by
  simp [setBlock, (Array.getElem?_eq_some_iff.1 h).1]
theorem but_setB {W : World} {m : Nat} {o' : Obj} {X : List Nat} (hX : m ∈ X) : But W (setBlock W m o') X :=
  ⟨rfl, rfl, rfl, by simp [setBlock], fun i _ hx => by
    have : i ≠ m := fun e => hx (e ▸ hX)
    simp only [setBlock]
    rw [Array.getElem?_setIfInBounds_ne (Ne.symm this)]⟩
/-- a key that is there: what mapEntry hands back, and what is there behind the store, whatever else the world is -/
theorem MapI.entry {w : World} {m N : Nat} {f : Int → Option Int} (h : MapI P k e w m f N) {t : TypeId} (ht : P.underlying t = some (.map k e)) (hk : P.underlying k = some (.int .i64)) (he : P.underlying e = some (.int .i64))
    {a u : Int} (ha : (Lit.int .i64 a).wf = true) (hu : (Lit.int .i64 u).wf = true) (hf : (f a).isSome = true) (hN : N < 9223372036854775807) :
    ∃ (B0 B1 : Obj) (v0 : Value) (st : Nat), w.heap[m]? = some B0 ∧ (∀ W : World, W.heap[m]? = some B0 → (Instr.mapEntry t (.map (some m)) (.int .i64 a)).run P W = .ok (.tuple #[v0, .int .i64 st]) W) ∧
      (∀ W : World, W.heap[m]? = some B0 → (Instr.entryStore t (.map (some m)) (.int .i64 st) (.int .i64 u)).run P W = .ok () (setBlock W m B1)) ∧ (∀ W : World, W.heap[m]? = some B1 → MapI P k e W m (updI f a u) N) := by
  have hst := h.store ht hk he hN ha hu
  obtain ⟨D, ⟨es, clock, hb, F, hs, hD⟩, hsz, hfs⟩ := h
  have hkey := Maps.keyOf_int_mk hk ha
  have K := Maps.int_keyed hk
  have hth : ∃ x ∈ es.toList, x.key = .int .i64 a := by
    rcases K.find w hkey es.toList F.keys with ⟨_, h2⟩ | ⟨j, e0, _, h2, h3⟩
    · exfalso
      have h0 := (hfs a).1
      rw [hf, hD] at h0
      rw [Maps.has_eq, List.any_eq_true] at h0
      obtain ⟨p, hp, hpk⟩ := h0
      have hmem : ∀ (l : List (Lit × DataW Nat)) (q : Lit × DataW Nat), q ∈ l.foldr DataW.insert [] → q ∈ l := by
        intro l
        induction l with
        | nil => intro q hq; simp at hq
        | cons y r ih =>
          intro q hq
          rw [List.foldr_cons] at hq
          have ins : ∀ (l : List (Lit × DataW Nat)), q ∈ DataW.insert y l → q = y ∨ q ∈ l := by
            intro l
            induction l with
            | nil => intro h; simpa [DataW.insert] using h
            | cons z s ih2 =>
              intro h
              unfold DataW.insert at h
              split at h
              · simpa using h
              · rcases List.mem_cons.1 h with h | h
                · exact .inr (by simp [h])
                · rcases ih2 h with h | h
                  · exact .inl h
                  · exact .inr (by simp [h])
          rcases ins _ hq with h | h
          · simp [h]
          · simp [ih q h]
      obtain ⟨x, hx, rfl⟩ := List.mem_map.1 (hmem _ p hp)
      have hne := h2 x hx
      obtain ⟨y, hy⟩ := F.reads x hx
      obtain ⟨lx, hlx⟩ := F.keys x hx
      have hrg : (rg (H := Nat) P k (plainElem P e) x).1 = lx := by
        rw [rg_of hy]
        obtain ⟨z, _, hz⟩ := rd_val hy
        unfold WideElems.rd at hy
        rw [hlx] at hy
        simp at hy
        obtain ⟨_, _, rfl⟩ := hy
        rfl
      rw [hrg] at hpk
      have : lx = .int .i64 a := by
        apply Classical.byContradiction
        intro hc
        rw [Maps.sameKey_ne hc] at hpk; cases hpk
      rw [this] at hlx
      exact hne (K.inj hlx hkey)
    · exact ⟨e0, List.mem_of_getElem? h2, h3⟩
  obtain ⟨v0, st, h1, h2⟩ := entry_fix (b := m) K ht F hkey hth
  obtain ⟨es', h3⟩ := h2 (.int .i64 u)
  refine ⟨.map es clock, .map es' clock, v0, st, hb, h1, fun W hW => (h3 W hW).1, fun W hW => ?_⟩
  obtain ⟨w', hrun, hM, _⟩ := hst
  rw [(h3 w hb).2] at hrun
  cases hrun
  rw [hf] at hM
  exact MapI.keep hM (hW.trans (heap_setB hb).symm)
end
end B
end Go.Proofs.Ytapfndjaimfcaaa
