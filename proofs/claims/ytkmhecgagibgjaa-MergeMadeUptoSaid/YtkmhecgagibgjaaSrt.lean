/- What the library's slices.Sort and slices.Compact do to rows of texts, of this program: the shelf's contracts, laid here. -/
import Derived.Test.YtkmhecgagibgjaaAwI3
import Derived.Test.YtkmhecgagibgjaaProg
import Derived.Shelf.Slices.In.SortAlone
import Derived.Shelf.Slices.In.SortNone
import Derived.Shelf.Slices.In.CompactS
namespace Go.Proofs
open Go.Shelf
def Try.laysSort_ren : Go.Shelf.Ren := ⟨fun | 190 => 68 | 125 => 81 | 258 => 80 | 128 => 96 | 129 => 97 | 302 => 87 | 303 => 88 | 304 => 89 | 305 => 90 | 306 => 91 | 307 => 92 | 308 => 93 | 309 => 94 | 310 => 95 | 333 => 99 | 329 => 100 | 330 => 101 | 334 => 102 | 335 => 103 | 336 => 104 | 344 => 106 | n => n, fun | 31 => 128 | 9 => 9 | 3 => 3 | 46 => 117 | 0 => 0 | 51 => 159 | 53 => 24 | 4 => 4 | 183 => 152 | 182 => 151 | 131 => 123 | 5 => 5 | 218 => 161 | 222 => 78 | 228 => 166 | 229 => 167 | n => n, fun | n => n⟩
theorem Try.laysSort : Go.Proofs.Lays.n190 Try.prog Try.laysSort_ren := {
  mixed := by kernel_rfl
  f125 := Try.func81.trans (congrArg some (by kernel_rfl))
  f128 := Try.func96.trans (congrArg some (by kernel_rfl))
  f129 := Try.func97.trans (congrArg some (by kernel_rfl))
  f190 := Try.func68.trans (congrArg some (by kernel_rfl))
  f258 := Try.func80.trans (congrArg some (by kernel_rfl))
  f302 := Try.func87.trans (congrArg some (by kernel_rfl))
  f303 := Try.func88.trans (congrArg some (by kernel_rfl))
  f304 := Try.func89.trans (congrArg some (by kernel_rfl))
  f305 := Try.func90.trans (congrArg some (by kernel_rfl))
  f306 := Try.func91.trans (congrArg some (by kernel_rfl))
  f307 := Try.func92.trans (congrArg some (by kernel_rfl))
  f308 := Try.func93.trans (congrArg some (by kernel_rfl))
  f309 := Try.func94.trans (congrArg some (by kernel_rfl))
  f310 := Try.func95.trans (congrArg some (by kernel_rfl))
  f329 := Try.func100.trans (congrArg some (by kernel_rfl))
  f330 := Try.func101.trans (congrArg some (by kernel_rfl))
  f333 := Try.func99.trans (congrArg some (by kernel_rfl))
  f334 := Try.func102.trans (congrArg some (by kernel_rfl))
  f335 := Try.func103.trans (congrArg some (by kernel_rfl))
  f336 := Try.func104.trans (congrArg some (by kernel_rfl))
  f344 := Try.func106.trans (congrArg some (by kernel_rfl))
  t0 := Try.underlying0
  a0 := Try.isAgg0
  z0 := Try.sizeOf0
  v0 := Try.zeroValue0
  t3 := Try.underlying3
  a3 := Try.isAgg3
  z3 := Try.sizeOf3
  v3 := Try.zeroValue3
  t4 := Try.underlying4
  a4 := Try.isAgg4
  z4 := Try.sizeOf4
  v4 := Try.zeroValue4
  t5 := Try.underlying5
  a5 := Try.isAgg5
  z5 := Try.sizeOf5
  v5 := Try.zeroValue5
  t9 := Try.underlying9
  a9 := Try.isAgg9
  z9 := Try.sizeOf9
  v9 := Try.zeroValue9
  t31 := Try.underlying128
  a31 := Try.isAgg128
  z31 := Try.sizeOf128
  v31 := Try.zeroValue128
  t46 := Try.underlying117
  a46 := Try.isAgg117
  z46 := Try.sizeOf117
  v46 := Try.zeroValue117
  t51 := Try.underlying159
  a51 := Try.isAgg159
  z51 := Try.sizeOf159
  v51 := Try.zeroValue159
  t53 := Try.underlying24
  a53 := Try.isAgg24
  z53 := Try.sizeOf24
  v53 := Try.zeroValue24
  t131 := Try.underlying123
  a131 := Try.isAgg123
  z131 := Try.sizeOf123
  v131 := Try.zeroValue123
  t182 := Try.underlying151
  a182 := Try.isAgg151
  z182 := Try.sizeOf151
  v182 := Try.zeroValue151
  t183 := Try.underlying152
  a183 := Try.isAgg152
  z183 := Try.sizeOf152
  v183 := Try.zeroValue152
  t218 := Try.underlying161
  a218 := Try.isAgg161
  z218 := Try.sizeOf161
  v218 := Try.zeroValue161
  t222 := Try.underlying78
  a222 := Try.isAgg78
  z222 := Try.sizeOf78
  v222 := Try.zeroValue78
  t228 := Try.underlying166
  a228 := Try.isAgg166
  z228 := Try.sizeOf166
  v228 := Try.zeroValue166
  t229 := Try.underlying167
  a229 := Try.isAgg167
  z229 := Try.sizeOf167
  v229 := Try.zeroValue167 }
def Try.laysComp_ren : Go.Shelf.Ren := ⟨fun | 194 => 69 | n => n, fun | 31 => 128 | 9 => 9 | 3 => 3 | 4 => 4 | 0 => 0 | n => n, fun | n => n⟩
theorem Try.laysComp : Go.Proofs.Lays.n194 Try.prog Try.laysComp_ren := {
  mixed := by kernel_rfl
  f194 := Try.func69.trans (congrArg some (by kernel_rfl))
  t0 := Try.underlying0
  a0 := Try.isAgg0
  z0 := Try.sizeOf0
  v0 := Try.zeroValue0
  t3 := Try.underlying3
  a3 := Try.isAgg3
  z3 := Try.sizeOf3
  v3 := Try.zeroValue3
  t4 := Try.underlying4
  a4 := Try.isAgg4
  z4 := Try.sizeOf4
  v4 := Try.zeroValue4
  t9 := Try.underlying9
  a9 := Try.isAgg9
  z9 := Try.sizeOf9
  v9 := Try.zeroValue9
  t31 := Try.underlying128
  a31 := Try.isAgg128
  z31 := Try.sizeOf128
  v31 := Try.zeroValue128 }
end Go.Proofs
namespace Go.Proofs.Ytkmhecgagibgjaa
open Go Aw
theorem sorts_68 : SortsS Try.prog 68 := ⟨fun b cap zs w h hb hz => calls_of_every_depth fun D => AnyS.slices_Sort_string_alone Try.laysSort D b 0 cap zs w h hb hz, fun p cap w => Any.slices_Sort_string_none Try.laysSort p cap w⟩
theorem compacts_69 : CompactsS Try.prog 69 := ⟨fun b cap zs w h hz hc => calls_of_every_depth fun D => AnyS.slices_Compact_string_in Try.laysComp D b 0 cap zs w h hz hc, fun p cap w => calls_of_every_depth fun D => AnyS.slices_Compact_string_empty_in Try.laysComp D p cap w⟩
end Go.Proofs.Ytkmhecgagibgjaa
