/- Merged. -/
import Derived.Test.YtechdefolfboeaaGreatDoorProg
import Derived.Handy
import Derived.WalkLawsBesides
import Derived.Deep.DeepCutAuto
import Derived.Lib.MinMax
import Derived.Shelf.Abstract
import Derived.Test.YtechdefolfboeaaGreatDoorPd1
