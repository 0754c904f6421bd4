/- What the library's slices.Sort and slices.Compact do to rows of texts, of this program: the shelf's contracts, laid here. -/
import Derived.Test.YtmoijodjgkfhgaaGreatAwI3
import Derived.Test.YtmoijodjgkfhgaaGreatProg
import Derived.Shelf.Slices.In.SortAlone
import Derived.Shelf.Slices.In.SortNone
import Derived.Shelf.Slices.In.CompactS
namespace Go.Proofs
open Go.Shelf
def Tryz.laysSort_ren : Go.Shelf.Ren := ⟨fun | 190 => 113 | 125 => 131 | 258 => 130 | 128 => 153 | 129 => 154 | 302 => 144 | 303 => 145 | 304 => 146 | 305 => 147 | 306 => 148 | 307 => 149 | 308 => 150 | 309 => 151 | 310 => 152 | 333 => 157 | 329 => 158 | 330 => 159 | 334 => 160 | 335 => 161 | 336 => 162 | 344 => 165 | n => n, fun | 31 => 158 | 9 => 9 | 3 => 3 | 46 => 186 | 0 => 0 | 51 => 230 | 53 => 24 | 4 => 4 | 183 => 223 | 182 => 222 | 131 => 178 | 5 => 5 | 218 => 232 | 222 => 107 | 228 => 238 | 229 => 239 | n => n, fun | n => n⟩
theorem Tryz.laysSort : Go.Proofs.Lays.n190 Tryz.prog Tryz.laysSort_ren := {
 mixed := by kernel_rfl
 f125 := Tryz.func131.trans (congrArg some (by kernel_rfl))
 f128 := Tryz.func153.trans (congrArg some (by kernel_rfl))
 f129 := Tryz.func154.trans (congrArg some (by kernel_rfl))
 f190 := Tryz.func113.trans (congrArg some (by kernel_rfl))
 f258 := Tryz.func130.trans (congrArg some (by kernel_rfl))
 f302 := Tryz.func144.trans (congrArg some (by kernel_rfl))
 f303 := Tryz.func145.trans (congrArg some (by kernel_rfl))
 f304 := Tryz.func146.trans (congrArg some (by kernel_rfl))
 f305 := Tryz.func147.trans (congrArg some (by kernel_rfl))
 f306 := Tryz.func148.trans (congrArg some (by kernel_rfl))
 f307 := Tryz.func149.trans (congrArg some (by kernel_rfl))
 f308 := Tryz.func150.trans (congrArg some (by kernel_rfl))
 f309 := Tryz.func151.trans (congrArg some (by kernel_rfl))
 f310 := Tryz.func152.trans (congrArg some (by kernel_rfl))
 f329 := Tryz.func158.trans (congrArg some (by kernel_rfl))
 f330 := Tryz.func159.trans (congrArg some (by kernel_rfl))
 f333 := Tryz.func157.trans (congrArg some (by kernel_rfl))
 f334 := Tryz.func160.trans (congrArg some (by kernel_rfl))
 f335 := Tryz.func161.trans (congrArg some (by kernel_rfl))
 f336 := Tryz.func162.trans (congrArg some (by kernel_rfl))
 f344 := Tryz.func165.trans (congrArg some (by kernel_rfl))
 t0 := Tryz.underlying0
 a0 := Tryz.isAgg0
 z0 := Tryz.sizeOf0
 v0 := Tryz.zeroValue0
 t3 := Tryz.underlying3
 a3 := Tryz.isAgg3
 z3 := Tryz.sizeOf3
 v3 := Tryz.zeroValue3
 t4 := Tryz.underlying4
 a4 := Tryz.isAgg4
 z4 := Tryz.sizeOf4
 v4 := Tryz.zeroValue4
 t5 := Tryz.underlying5
 a5 := Tryz.isAgg5
 z5 := Tryz.sizeOf5
 v5 := Tryz.zeroValue5
 t9 := Tryz.underlying9
 a9 := Tryz.isAgg9
 z9 := Tryz.sizeOf9
 v9 := Tryz.zeroValue9
 t31 := Tryz.underlying158
 a31 := Tryz.isAgg158
 z31 := Tryz.sizeOf158
 v31 := Tryz.zeroValue158
 t46 := Tryz.underlying186
 a46 := Tryz.isAgg186
 z46 := Tryz.sizeOf186
 v46 := Tryz.zeroValue186
 t51 := Tryz.underlying230
 a51 := Tryz.isAgg230
 z51 := Tryz.sizeOf230
 v51 := Tryz.zeroValue230
 t53 := Tryz.underlying24
 a53 := Tryz.isAgg24
 z53 := Tryz.sizeOf24
 v53 := Tryz.zeroValue24
 t131 := Tryz.underlying178
 a131 := Tryz.isAgg178
 z131 := Tryz.sizeOf178
 v131 := Tryz.zeroValue178
 t182 := Tryz.underlying222
 a182 := Tryz.isAgg222
 z182 := Tryz.sizeOf222
 v182 := Tryz.zeroValue222
 t183 := Tryz.underlying223
 a183 := Tryz.isAgg223
 z183 := Tryz.sizeOf223
 v183 := Tryz.zeroValue223
 t218 := Tryz.underlying232
 a218 := Tryz.isAgg232
 z218 := Tryz.sizeOf232
 v218 := Tryz.zeroValue232
 t222 := Tryz.underlying107
 a222 := Tryz.isAgg107
 z222 := Tryz.sizeOf107
 v222 := Tryz.zeroValue107
 t228 := Tryz.underlying238
 a228 := Tryz.isAgg238
 z228 := Tryz.sizeOf238
 v228 := Tryz.zeroValue238
 t229 := Tryz.underlying239
 a229 := Tryz.isAgg239
 z229 := Tryz.sizeOf239
 v229 := Tryz.zeroValue239 }
def Tryz.laysComp_ren : Go.Shelf.Ren := ⟨fun | 194 => 114 | n => n, fun | 31 => 158 | 9 => 9 | 3 => 3 | 4 => 4 | 0 => 0 | n => n, fun | n => n⟩
theorem Tryz.laysComp : Go.Proofs.Lays.n194 Tryz.prog Tryz.laysComp_ren := {
 mixed := by kernel_rfl
 f194 := Tryz.func114.trans (congrArg some (by kernel_rfl))
 t0 := Tryz.underlying0
 a0 := Tryz.isAgg0
 z0 := Tryz.sizeOf0
 v0 := Tryz.zeroValue0
 t3 := Tryz.underlying3
 a3 := Tryz.isAgg3
 z3 := Tryz.sizeOf3
 v3 := Tryz.zeroValue3
 t4 := Tryz.underlying4
 a4 := Tryz.isAgg4
 z4 := Tryz.sizeOf4
 v4 := Tryz.zeroValue4
 t9 := Tryz.underlying9
 a9 := Tryz.isAgg9
 z9 := Tryz.sizeOf9
 v9 := Tryz.zeroValue9
 t31 := Tryz.underlying158
 a31 := Tryz.isAgg158
 z31 := Tryz.sizeOf158
 v31 := Tryz.zeroValue158 }
end Go.Proofs
namespace Go.Proofs.YtmoijodjgkfhgaaGreat
open Go Aw
theorem zqs : Z07 Tryz.prog 113 := ⟨fun b cap zs w h hb hz => calls_of_every_depth fun D => AnyS.slices_Sort_string_alone Tryz.laysSort D b 0 cap zs w h hb hz, fun p cap w => Any.slices_Sort_string_none Tryz.laysSort p cap w⟩
theorem zk1 : zkd Tryz.prog 114 := ⟨fun b cap zs w h hz hc => calls_of_every_depth fun D => AnyS.slices_Compact_string_in Tryz.laysComp D b 0 cap zs w h hz hc, fun p cap w => calls_of_every_depth fun D => AnyS.slices_Compact_string_empty_in Tryz.laysComp D p cap w⟩
end Go.Proofs.YtmoijodjgkfhgaaGreat
