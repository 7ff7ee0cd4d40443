/-
  The library's functions that this program calls bear the bodies that the shelf's contracts are proved of: by comparison, body by body.
-/
import Derived.Shelf.SlGeneric
import Derived.Shelf.Bits.Mul64
import Derived.Test.YtonkkibnigdfbaaProg
namespace Go.Proofs.Ytonkkibnigdfbaa
open Go.Shelf
def mulL_ren : Go.Shelf.Ren := ⟨fun | 212 => 80 | 263 => 101 | 264 => 102 | n => n, fun | 46 => 111 | 51 => 136 | 146 => 137 | 53 => 139 | 148 => 140 | n => n, fun | n => n⟩
theorem mulL : Go.Proofs.Lays.n212 Try.prog mulL_ren := {
  mixed := by kernel_rfl
  f212 := Try.func80.trans (congrArg some (by kernel_rfl))
  f263 := Try.func101.trans (congrArg some (by kernel_rfl))
  f264 := Try.func102.trans (congrArg some (by kernel_rfl))
  t46 := Try.underlying111
  a46 := Try.isAgg111
  z46 := Try.sizeOf111
  v46 := Try.zeroValue111
  t51 := Try.underlying136
  a51 := Try.isAgg136
  z51 := Try.sizeOf136
  v51 := Try.zeroValue136
  t53 := Try.underlying139
  a53 := Try.isAgg139
  z53 := Try.sizeOf139
  v53 := Try.zeroValue139
  t146 := Try.underlying137
  a146 := Try.isAgg137
  z146 := Try.sizeOf137
  v146 := Try.zeroValue137
  t148 := Try.underlying140
  a148 := Try.isAgg140
  z148 := Try.sizeOf140
  v148 := Try.zeroValue140 }
end Go.Proofs.Ytonkkibnigdfbaa
