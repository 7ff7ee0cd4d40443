/- Texts of one chain, merged. -/
import Derived.Test.YtechdefolfboeaaGreatDoorNb5
import Derived.Test.YtechdefolfboeaaGreatDoorNb35
namespace Go.Proofs.YtechdefolfboeaaGreatDoor
namespace B
open Go.RowKit Go.ChangeShapes Go.WideShapes Go.Deep Go.Joins
set_option linter.unusedVariables false
set_option linter.unusedSimpArgs false
set_option maxRecDepth 100000
instance:Inhabited DoorP:=⟨⟨0,0,0,0,0,0⟩⟩
instance:Inhabited TripP:=⟨⟨0,0,0,0⟩⟩
instance:Inhabited HazP:=⟨⟨false,0,0,0,0⟩⟩
instance:Inhabited RouteP:=⟨⟨[],[],[]⟩⟩
section
variable {H:Type} {encH:TypeId×Value→H} {w:World} {base:Nat} {spare:Nat→Bool} {held:Bool}
end
end B
end Go.Proofs.YtechdefolfboeaaGreatDoor
