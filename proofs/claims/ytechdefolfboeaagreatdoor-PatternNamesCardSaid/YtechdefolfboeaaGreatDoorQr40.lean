/- Texts of one chain, merged. -/
import Derived.Laws.EntriesVeiled
import Derived.Test.YtechdefolfboeaaGreatDoorQr14
import Derived.Test.YtechdefolfboeaaGreatDoorQr38
import Derived.Test.YtechdefolfboeaaGreatDoorQr39
namespace Go.Proofs.YtechdefolfboeaaGreatDoor
open Go.RowKit B K
set_option linter.unusedVariables false
set_option linter.unusedSimpArgs false
set_option maxRecDepth 100000
set_option maxHeartbeats 2000000
theorem Rd.of_bx {α:Type} {enc:α→List Value} {size:Nat} {w:World} {b:Nat} {T:TypeId} {l:List α} (hs: ∀ x,(enc x).length =size) (h:Bx w b T (l.flatMap enc)):Rd w size enc (some ⟨b,0,none⟩) l.length l:=
 ⟨rfl,fun _=>⟨b,0,rfl,h.lt,fun i x hx j u hu=>by
   rw [Nat.zero_add]
   exact h.cell _ (flatMap_at hs l i x hx j u hu)⟩⟩
def M0:WorldP:=⟨99,[(⟨#[97]⟩:ByteArray),(⟨#[98]⟩:ByteArray),(⟨#[99]⟩:ByteArray)],[],[],[(⟨#[114]⟩:ByteArray)],[(⟨#[116]⟩:ByteArray),(⟨#[117]⟩:ByteArray)],[],[],[],[⟨[0,1,2],[3,3],[1]⟩],[⟨0,5,0,5⟩,⟨0,6,0,6⟩],[]⟩
def L0:List RunP:=[⟨0,0,[5,8,12],[5,9,12]⟩,⟨1,0,[6,7,9],[6,7,9]⟩]
def C0:List ConnP:=[⟨5,8,0,1,0,0⟩,⟨6,7,0,1,1,0⟩,⟨7,9,1,2,1,1⟩,⟨9,12,1,2,0,1⟩]
theorem few0:Few M0:=⟨by decide,by decide,by decide,by decide,by decide,by decide,by decide,by decide,by decide,by decide,by decide,fun r hr=>by
 have:r=⟨[0,1,2],[3,3],[1]⟩:=by simpa [M0] using hr
 subst this;decide⟩
theorem good0:goodB nameB M0=true:=by kernel_rfl
theorem fit0:L0.all (fitsR M0)=true:=by kernel_rfl
theorem err0:errC M0 L0=0:=errC_ok (by decide) good0 fit0
end Go.Proofs.YtechdefolfboeaaGreatDoor
namespace Go.Proofs.YtechdefolfboeaaGreatDoor
open Go.RowKit B K
set_option linter.unusedVariables false
set_option linter.unusedSimpArgs false
set_option maxRecDepth 100000
set_option maxHeartbeats 2000000
end Go.Proofs.YtechdefolfboeaaGreatDoor
