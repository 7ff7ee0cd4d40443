/-
  One element appended to a row of the call's own: in one word for a loop's round.
-/
import Derived.Test.YtibeoiphjkgekaaGreatMem
namespace Go.Proofs.YtibeoiphjkgekaaGreat
namespace B
open Go.RowKit
theorem own_push {α : Type} {P : Program} {enc : α → List Value} {t e : TypeId} {z : Value} {size bytes : Nat} (ht : P.underlying t = some (.slice e))
    (hi : (P.info? e).map (fun i => (i.zero, i.size, i.bytes)) = some (some z, size, bytes)) (hzs : z.cells.size = size) (hsz : 0 < size) (hes : ∀ x, (enc x).length = size) (h1 : ∀ x, ∀ u ∈ enc x, u.oneCell' = true)
    {B : Nat} {w wr : World} {v : Value} {l : List α} (x : α) (hown : wr.ownsRow B e size v l.length (l.flatMap enc)) (hlen : l.length + 1 ≤ 1099511627776) (hby : bytes ≤ 127) (hb : Below B w wr) (hB : B ≤ wr.heap.size) (nq : Nat) :
    ∃ g c w1, (Builtin.append_ #[t, t] t #[v, .slice (some ⟨wr.heap.size, 0, none⟩) 1 1]).run P ((wr.drewN nq).alloc (.cells (enc x).toArray e)) = .ok (.slice (some ⟨g, 0, none⟩) (l.length + 1) c) w1 ∧
      w1.ownsRow B e size (.slice (some ⟨g, 0, none⟩) (l.length + 1) c) (l.length + 1) ((l ++ [x]).flatMap enc) ∧ Below B w w1 ∧ wr.heap.size < w1.heap.size ∧ ((wr.drewN nq).alloc (.cells (enc x).toArray e)).grownBy w1 v.ownBlock ∧ (v.ownBlock = some g ∨ g = wr.heap.size + 1) := by
  obtain ⟨g, c, w1, hrun, own1, hgr, hg⟩ := append_one (enc := enc) ht hi hzs hsz hes h1 (wr.drewN nq) B v l x hown hlen hby hB
  have hb2 : Below B w ((wr.drewN nq).alloc (.cells (enc x).toArray e)) := Below.alloc (w := wr.drewN nq) ⟨hb.os, hb.tape, hb.output, hb.size, hb.block⟩ hB _
  refine ⟨g, c, w1, hrun, by simpa using own1, hb2.grown hgr (by simp; omega) (fun k hk => (hown.lt k hk).1), ?_, hgr, hg⟩
  have := hgr.size; simp at this; omega
end B
end Go.Proofs.YtibeoiphjkgekaaGreat
