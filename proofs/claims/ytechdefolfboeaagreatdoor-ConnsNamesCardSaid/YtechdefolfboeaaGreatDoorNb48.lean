/- Texts of one chain, merged. -/
import Derived.Test.YtechdefolfboeaaGreatDoorNb36
import Derived.Test.YtechdefolfboeaaGreatDoorNb45
import Derived.Test.YtechdefolfboeaaGreatDoorNb47
namespace Go.Proofs.YtechdefolfboeaaGreatDoor
open Go.RowKit B K
set_option linter.unusedVariables false
set_option linter.unusedSimpArgs false
set_option maxRecDepth 100000
set_option maxHeartbeats 2000000
end Go.Proofs.YtechdefolfboeaaGreatDoor
namespace Go.Proofs.YtechdefolfboeaaGreatDoor
open Go.RowKit B K
set_option linter.unusedVariables false
set_option linter.unusedSimpArgs false
structure OkC (M:WorldP) (L:List RunP):Prop where
 good:GoodW M
 fit: ∀ r∈L,FitR M r
end Go.Proofs.YtechdefolfboeaaGreatDoor
