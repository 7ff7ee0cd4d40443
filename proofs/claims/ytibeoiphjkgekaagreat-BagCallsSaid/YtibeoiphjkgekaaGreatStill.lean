/-
  A drawn region whose reads stand ahead of a tail that is walked in order: the kit's law in the world's own spelling.
-/
import Derived.StillTailTactics
import Derived.BigQuiet
import Derived.Deep.QuietTactic
import Derived.Test.YtibeoiphjkgekaaGreatBase
namespace Go.Proofs.YtibeoiphjkgekaaGreat
namespace B
open Go.RowKit
theorem wp_tailN {P : Program} {id : Nat} {Q : Exit → Act → World → Prop} {a : Act} {w : World} {l : List Oper} (n : Nat) {k : Nat} (hm : P.follows .mixedOrders = true) (hB : Region.lexTailB .any l.toArray n = true)
    (h : wpStill P l.toArray (w.drewN (k + 1)) (fun a' => wpList P l.toArray Q (l.drop n) a' (w.drewN (k + 1))) (l.take n) a) : (Code.region id l.toArray true).wp P Q a (w.drewN k) := wp_region_still_tail n hm hB h
theorem wp_tail0 {P : Program} {id : Nat} {Q : Exit → Act → World → Prop} {a : Act} {w : World} {l : List Oper} (n : Nat) (hm : P.follows .mixedOrders = true) (hB : Region.lexTailB .any l.toArray n = true)
    (h : wpStill P l.toArray (w.drewN 1) (fun a' => wpList P l.toArray Q (l.drop n) a' (w.drewN 1)) (l.take n) a) : (Code.region id l.toArray true).wp P Q a w := wp_region_still_tail n hm hB h
end B
end Go.Proofs.YtibeoiphjkgekaaGreat
