/-
  The library's functions that this program calls bear the bodies that the shelf's contracts are proved of: by comparison, body by body.
-/
import Derived.Shelf.SlGeneric
import Derived.Shelf.Bits.Mul64
import Derived.Test.YtapfndjaimfcaaaProg
namespace Go.Proofs.Ytapfndjaimfcaaa
open Go.Shelf
def mulL_ren : Go.Shelf.Ren := ⟨fun | 212 => 70 | 263 => 78 | 264 => 79 | n => n, fun | 46 => 116 | 51 => 125 | 146 => 126 | 53 => 128 | 148 => 129 | n => n, fun | n => n⟩
theorem mulL : Go.Proofs.Lays.n212 Try.prog mulL_ren := {
  mixed := by kernel_rfl
  f212 := Try.func70.trans (congrArg some (by kernel_rfl))
  f263 := Try.func78.trans (congrArg some (by kernel_rfl))
  f264 := Try.func79.trans (congrArg some (by kernel_rfl))
  t46 := Try.underlying116
  a46 := Try.isAgg116
  z46 := Try.sizeOf116
  v46 := Try.zeroValue116
  t51 := Try.underlying125
  a51 := Try.isAgg125
  z51 := Try.sizeOf125
  v51 := Try.zeroValue125
  t53 := Try.underlying128
  a53 := Try.isAgg128
  z53 := Try.sizeOf128
  v53 := Try.zeroValue128
  t146 := Try.underlying126
  a146 := Try.isAgg126
  z146 := Try.sizeOf126
  v146 := Try.zeroValue126
  t148 := Try.underlying129
  a148 := Try.isAgg129
  z148 := Try.sizeOf129
  v148 := Try.zeroValue129 }
end Go.Proofs.Ytapfndjaimfcaaa
