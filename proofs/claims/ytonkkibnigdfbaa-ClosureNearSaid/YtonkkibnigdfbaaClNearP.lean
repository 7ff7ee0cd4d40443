/-
  Plain law of ClosureNear: paths both ways.
-/
import Derived.Test.YtonkkibnigdfbaaClRow
import Derived.Test.YtonkkibnigdfbaaMoreP
namespace Go.Proofs.Ytonkkibnigdfbaa
open Go.RowKit Go.Shelf B K
set_option linter.unusedVariables false
set_option linter.unusedSimpArgs false
def rvL (l : Lk) : Lk := ⟨l.b, l.a, l.len, l.door, l.no, l.op, l.cl⟩
def twoTo (N : NetP) (i : Nat) : NetP := { N with ls := N.ls ++ (N.ls.take i).map rvL }
def twoN (N : NetP) : NetP := { N with ls := N.ls ++ N.ls.map rvL }
theorem twoTo_zero (N : NetP) : (twoTo N 0).ls = N.ls := by simp [twoTo]
theorem twoTo_snoc {N : NetP} {i : Nat} {l : Lk} (h : N.ls[i]? = some l) : (twoTo N i).ls ++ [rvL l] = (twoTo N (i + 1)).ls := by
  simp only [twoTo]
  rw [take_at h, List.map_append, List.append_assoc]; rfl
theorem twoTo_len {N : NetP} {i : Nat} (h : i ≤ N.ls.length) : (twoTo N i).ls.length = N.ls.length + i := by
  simp only [twoTo, List.length_append, List.length_map, List.length_take]; omega
theorem twoTo_all {N : NetP} : twoTo N N.ls.length = twoN N := by simp [twoTo, twoN]
theorem two_rev {N : NetP} {l : Lk} (h : l ∈ (twoN N).ls) : rvL l ∈ (twoN N).ls := by
  simp only [twoN, List.mem_append, List.mem_map] at h ⊢
  rcases h with h | ⟨y, hy, rfl⟩
  · exact .inr ⟨l, h, rfl⟩
  · exact .inl hy
theorem two_plain {N : NetP} {l : Lk} (hp : plainB (twoN N) l = true) : plainB (twoN N) (rvL l) = true := by
  obtain ⟨p1, p2, p3, p4⟩ := plainB_iff.1 hp
  exact plainB_iff.2 ⟨p1, p2, p4, p3⟩
theorem two_edges {N : NetP} : ∀ e ∈ plainE (twoN N), revE e ∈ plainE (twoN N) := fun e he => by
  obtain ⟨l, hl, hp, rfl⟩ := plainE_mem.1 he
  exact plainE_mem.2 ⟨rvL l, two_rev hl, two_plain hp, rfl⟩
theorem two_small {N : NetP} (hs : LightN N 40 40 40) : Small (twoN N) := by
  refine ⟨by have := hs.cn; show N.cs.length ≤ _; omega, fun c hc => by have := hs.cw c hc; omega, ?_, fun x hx => ?_⟩
  · have := hs.ln; simp only [twoN, List.length_append, List.length_map]; omega
  · simp only [twoN, List.mem_append, List.mem_map] at hx
    rcases hx with hx | ⟨y, hy, rfl⟩
    · have := hs.lw x hx; omega
    · have := hs.lw y hy
      show y.op.length ≤ 1000 ∧ y.cl.length ≤ 1000
      omega
theorem far_sym {N : NetP} (h : OkN (twoN N)) {a b : Nat} (ha : a < N.cs.length) (hb : b < N.cs.length) : farC (twoN N) a b = farC (twoN N) b a := by
  have hD : ∀ i, i < N.cs.length → IsDist N.cs.length (plainE (twoN N)) i (clD (twoN N) i) := fun i hi => clD_is h hi
  exact sym_eq (plainE_ok h) two_edges hD (lab_get (by rw [(hD a ha).len]; exact hb)) (lab_get (by rw [(hD b hb).len]; exact ha)) ha hb
theorem far_tri {N : NetP} (h : OkN N) {a b c : Nat} (ha : a < N.cs.length) (hb : b < N.cs.length) (hc : c < N.cs.length) (h1 : farC N b c ≠ W.inf) (h2 : farC N a b + farC N b c ≤ 1099511627776) : farC N a c ≤ farC N a b + farC N b c := by
  have hD : ∀ i, i < N.cs.length → IsDist N.cs.length (plainE N) i (clD N i) := fun i hi => clD_is h hi
  have ra := farC_rng h ha hb
  have rb := (farC_rng h hb hc).resolve_left h1
  exact IsDist.tri (plainE_ok h) (hD a ha) (hD b hb) (lab_get (by rw [(hD a ha).len]; exact hb)) (farC N b c).toNat c _ _ (Nat.le_refl _) (lab_get (by rw [(hD b hb).len]; exact hc)) rb.2 h2 (lab_get (by rw [(hD a ha).len]; exact hc))
theorem far_self {N : NetP} (h : OkN N) {a : Nat} (ha : a < N.cs.length) : farC N a a = 0 := lab_at (clD_is h ha).s0
theorem near_step {N : NetP} {a i : Nat} {x y z u : Int} {n : Nat} (h1 : (nearS (clD N a) n)[i - 1]? = some (x, y)) (h2 : (nearS (clD N a) n)[i]? = some (z, u)) (hi : 0 < i) : x ≤ z ∧ (x = z → y < u) := by
  have hs := srtI_sorted (itemsTo (clD N a) n)
  have hn : ((nearS (clD N a) n).map Prod.snd).Nodup := by
    unfold nearS
    exact ((srtI_perm _).map Prod.snd).nodup_iff.2 (itemsTo_nd _ _)
  obtain ⟨k1, e1⟩ := List.getElem?_eq_some_iff.1 h1
  obtain ⟨k2, e2⟩ := List.getElem?_eq_some_iff.1 h2
  have hlt := List.pairwise_iff_getElem.1 hs (i - 1) i k1 k2 (by omega)
  have hne := List.pairwise_iff_getElem.1 hn (i - 1) i (by simpa using k1) (by simpa using k2) (by omega)
  have e1' : (srtI (itemsTo (clD N a) n))[i - 1] = (x, y) := e1
  have e2' : (srtI (itemsTo (clD N a) n))[i] = (z, u) := e2
  rw [e1', e2'] at hlt
  simp only [List.getElem_map] at hne
  rw [e1, e2] at hne
  simp only at hne
  have : ¬ (ltI (z, u) (x, y) = true) := by rw [hlt]; simp
  rw [ltI_iff] at this
  simp only at this
  omega
end Go.Proofs.Ytonkkibnigdfbaa
