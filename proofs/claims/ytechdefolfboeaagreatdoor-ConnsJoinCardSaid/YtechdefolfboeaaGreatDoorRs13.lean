/-
  Texts of one chain, merged.
-/
import Derived.Shelf.SlGeneric
import Derived.Shelf.Strings.Fields
import Derived.Test.YtechdefolfboeaaGreatDoorProg
namespace Go.Proofs.YtechdefolfboeaaGreatDoor
open Go.Shelf
def fieldsL_ren : Go.Shelf.Ren := ⟨fun | 157 => 247 | 229 => 255 | 199 => 256 | 261 => 262 | 311 => 264 | 312 => 265 | n => n, fun | 9 => 9 | 31 => 22 | 3 => 3 | 5 => 5 | 4 => 4 | 119 => 297 | 0 => 0 | 40 => 299 | 152 => 304 | 21 => 21 | 154 => 306 | 51 => 197 | 141 => 308 | 196 => 313 | 193 => 310 | 198 => 316 | 49 => 314 | 194 => 311 | 201 => 319 | 226 => 321 | 46 => 151 | 227 => 322 | n => n, fun | 0 => 0 | 6 => 1 | n => n⟩
theorem fieldsL : Go.Proofs.Lays.n157 Tryz.prog fieldsL_ren := {
  mixed := by kernel_rfl
  f157 := Tryz.func247.trans (congrArg some (by kernel_rfl))
  f199 := Tryz.func256.trans (congrArg some (by kernel_rfl))
  f229 := Tryz.func255.trans (congrArg some (by kernel_rfl))
  f261 := Tryz.func262.trans (congrArg some (by kernel_rfl))
  f311 := Tryz.func264.trans (congrArg some (by kernel_rfl))
  f312 := Tryz.func265.trans (congrArg some (by kernel_rfl))
  t0 := Tryz.underlying0
  a0 := Tryz.isAgg0
  z0 := Tryz.sizeOf0
  v0 := Tryz.zeroValue0
  t3 := Tryz.underlying3
  a3 := Tryz.isAgg3
  z3 := Tryz.sizeOf3
  v3 := Tryz.zeroValue3
  t4 := Tryz.underlying4
  a4 := Tryz.isAgg4
  z4 := Tryz.sizeOf4
  v4 := Tryz.zeroValue4
  t5 := Tryz.underlying5
  a5 := Tryz.isAgg5
  z5 := Tryz.sizeOf5
  v5 := Tryz.zeroValue5
  t9 := Tryz.underlying9
  a9 := Tryz.isAgg9
  z9 := Tryz.sizeOf9
  v9 := Tryz.zeroValue9
  t21 := Tryz.underlying21
  a21 := Tryz.isAgg21
  z21 := Tryz.sizeOf21
  v21 := Tryz.zeroValue21
  t31 := Tryz.underlying22
  a31 := Tryz.isAgg22
  z31 := Tryz.sizeOf22
  v31 := Tryz.zeroValue22
  t40 := Tryz.underlying299
  a40 := Tryz.isAgg299
  z40 := Tryz.sizeOf299
  v40 := Tryz.zeroValue299
  t46 := Tryz.underlying151
  a46 := Tryz.isAgg151
  z46 := Tryz.sizeOf151
  v46 := Tryz.zeroValue151
  t49 := Tryz.underlying314
  a49 := Tryz.isAgg314
  z49 := Tryz.sizeOf314
  v49 := Tryz.zeroValue314
  t51 := Tryz.underlying197
  a51 := Tryz.isAgg197
  z51 := Tryz.sizeOf197
  v51 := Tryz.zeroValue197
  t119 := Tryz.underlying297
  a119 := Tryz.isAgg297
  z119 := Tryz.sizeOf297
  t141 := Tryz.underlying308
  a141 := Tryz.isAgg308
  z141 := Tryz.sizeOf308
  v141 := Tryz.zeroValue308
  t152 := Tryz.underlying304
  a152 := Tryz.isAgg304
  z152 := Tryz.sizeOf304
  v152 := Tryz.zeroValue304
  t154 := Tryz.underlying306
  a154 := Tryz.isAgg306
  z154 := Tryz.sizeOf306
  v154 := Tryz.zeroValue306
  t193 := Tryz.underlying310
  a193 := Tryz.isAgg310
  z193 := Tryz.sizeOf310
  v193 := Tryz.zeroValue310
  t194 := Tryz.underlying311
  a194 := Tryz.isAgg311
  z194 := Tryz.sizeOf311
  v194 := Tryz.zeroValue311
  t196 := Tryz.underlying313
  a196 := Tryz.isAgg313
  z196 := Tryz.sizeOf313
  v196 := Tryz.zeroValue313
  t198 := Tryz.underlying316
  a198 := Tryz.isAgg316
  z198 := Tryz.sizeOf316
  v198 := Tryz.zeroValue316
  t201 := Tryz.underlying319
  a201 := Tryz.isAgg319
  z201 := Tryz.sizeOf319
  v201 := Tryz.zeroValue319
  t226 := Tryz.underlying321
  a226 := Tryz.isAgg321
  z226 := Tryz.sizeOf321
  v226 := Tryz.zeroValue321
  t227 := Tryz.underlying322
  a227 := Tryz.isAgg322
  z227 := Tryz.sizeOf322
  v227 := Tryz.zeroValue322
  g0 := by kernel_rfl
  g6 := by kernel_rfl }
end Go.Proofs.YtechdefolfboeaaGreatDoor

