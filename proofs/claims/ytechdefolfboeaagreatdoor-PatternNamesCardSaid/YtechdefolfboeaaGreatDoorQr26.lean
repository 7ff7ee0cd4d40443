/- Texts of one chain, merged. -/
import Derived.Test.YtechdefolfboeaaGreatDoorQr4
namespace Go.Proofs.YtechdefolfboeaaGreatDoor
namespace B
open Go.RowKit
set_option linter.unusedVariables false
section
variable {P:Program} {Q:Exit→Act→World→Prop}
end
end B
end Go.Proofs.YtechdefolfboeaaGreatDoor
