/- Texts of one chain, merged. -/
import Derived.Test.YtechdefolfboeaaGreatDoorProg
import Derived.Handy
import Derived.WalkLawsBesides
import Derived.BigQuiet
import Derived.Deep.QuietTactic
import Derived.Deep.DeepCutAuto
import Derived.Deep.Cut
import Derived.Lib.MinMax
import Derived.IntWalk
import Derived.StillTailTactics
import Derived.Shelf.Abstract
import Derived.Test.YtechdefolfboeaaGreatDoorCc1
