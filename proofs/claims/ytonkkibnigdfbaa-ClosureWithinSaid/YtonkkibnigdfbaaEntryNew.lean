/-
  A map's entry at a key that is not there: what mapEntry makes, what entryStore leaves.
-/
import Derived.Test.YtonkkibnigdfbaaSpS
namespace Go.Proofs.Ytonkkibnigdfbaa
open Go.RowKit Go.WideElems Go.ChangeShapes Go.WideShapes Go.MapKept Go.ChangeMaps
open Go.Maps (Keyed)
open B K
set_option linter.unusedVariables false
set_option linter.unusedSimpArgs false
set_option maxHeartbeats 2000000
theorem findIdx_last {l : List MapEntry} {x : MapEntry} {c : Nat} (h : ∀ y ∈ l, y.born < c) (hx : x.born = c) : (l ++ [x]).findIdx? (fun e => ((e.born : Nat) : Int) == (c : Int)) = some l.length := by
  induction l with
  | nil => simp [List.findIdx?_cons, hx]
  | cons y t ih =>
    have hy := h y (by simp)
    have : (((y.born : Nat) : Int) == (c : Int)) = false := by simp; omega
    rw [List.cons_append, List.findIdx?_cons, this, ih (fun z hz => h z (by simp [hz]))]
    simp
theorem push_modify (es : Array MapEntry) (x : MapEntry) (g : MapEntry → MapEntry) : (es.push x).modify es.size g = es.push (g x) := by
  refine Array.ext (by simp) fun i h1 h2 => ?_
  rw [Array.getElem_modify]
  by_cases hi : es.size = i
  · subst hi; simp
  · rw [if_neg hi]
    have : i < es.size := by simp at h2; omega
    rw [Array.getElem_push_lt this, Array.getElem_push_lt this]
theorem MapI.entryNew {P : Program} {k e : TypeId} {w : World} {m N : Nat} {f : Int → Option Int} (h : MapI P k e w m f N) {t : TypeId} (ht : P.underlying t = some (.map k e)) (hk : P.underlying k = some (.int .i64)) (he : P.underlying e = some (.int .i64))
    (hz : ∀ W : World, (zeroValue e).run P W = .ok (.int .i64 0) W) {a u : Int} (ha : (Lit.int .i64 a).wf = true) (hu : (Lit.int .i64 u).wf = true) (hf : f a = none) (hN : N < 9223372036854775807) :
    ∃ (B0 B1 B2 : Obj) (st : Nat), w.heap[m]? = some B0 ∧ (∀ W : World, W.heap[m]? = some B0 → (Instr.mapEntry t (.map (some m)) (.int .i64 a)).run P W = .ok (.tuple #[.int .i64 0, .int .i64 st]) (setBlock W m B1)) ∧
      (∀ W : World, W.heap[m]? = some B1 → (Instr.entryStore t (.map (some m)) (.int .i64 st) (.int .i64 u)).run P W = .ok () (setBlock W m B2)) ∧ (∀ W : World, W.heap[m]? = some B2 → MapI P k e W m (updI f a u) (N + 1)) := by
  have hst := h.store ht hk he hN ha hu
  have hlk := (h.look ht hk he (hz w) ha).1
  obtain ⟨D, ⟨es, clock, hb, F, hs, hD⟩, hsz, hfs⟩ := h
  have hkey := Maps.keyOf_int_mk hk ha
  have K := Maps.int_keyed hk
  obtain ⟨s1, s2, _⟩ := F.stamped
  have found : ∀ W : World, (Instr.findKey k (.int .i64 a) es.toList).run P W = .ok none W := fun W => by
    rcases K.find W hkey es.toList F.keys with ⟨h1, _⟩ | ⟨j, e0, h1, p2, p3⟩
    · exact h1
    · exfalso
      rcases K.find w hkey es.toList F.keys with ⟨_, g2⟩ | ⟨j', e1, g1, g2, g3⟩
      · exact absurd p3 (g2 e0 (List.mem_of_getElem? p2))
      · rw [hf] at hlk
        simp [Instr.lookup, run_underlying ht, MapKept.run_getObj_map hb, K.check w es.isEmpty hkey, g1, Result.andThen] at hlk
  have hmem : ∀ y ∈ es.toList, y.born < clock := s1
  refine ⟨.map es clock, .map (es.push { key := .int .i64 a, val := .int .i64 0, born := clock }) (clock + 1), .map (es.push { key := .int .i64 a, val := .int .i64 u, born := clock }) (clock + 1), clock, hb, fun W hW => ?_, fun W hW => ?_, fun W hW => ?_⟩
  · simp [Instr.mapEntry, run_underlying ht, MapKept.run_getObj_map hW, K.check W false hkey, found, hz, MapKept.run_setObj_map _ hW, Result.andThen, setBlock, goInt]
  · have hidx : (es.push { key := .int .i64 a, val := .int .i64 0, born := clock }).findIdx? (fun e => ((e.born : Nat) : Int) == (clock : Int)) = some es.size := by
      rw [findIdx_arr, Array.toList_push]
      exact findIdx_last hmem rfl
    simp [Instr.entryStore, MapKept.run_getObj_map hW, asInt, asIntOf, goInt, hidx, push_modify, MapKept.run_setObj_map _ hW, Result.andThen, setBlock]
  · obtain ⟨w', hrun, hM, _⟩ := hst
    simp [Instr.mapUpdate, run_underlying ht, MapKept.run_getObj_map hb, K.check w false hkey, found, MapKept.run_setObj_map _ hb, Result.andThen] at hrun
    subst hrun
    rw [hf] at hM
    refine MapI.keep hM (hW.trans ?_)
    simp [(Array.getElem?_eq_some_iff.1 hb).1]
end Go.Proofs.Ytonkkibnigdfbaa
