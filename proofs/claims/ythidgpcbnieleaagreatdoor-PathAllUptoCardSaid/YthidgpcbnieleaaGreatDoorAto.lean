/- What the library's strconv.Atoi answers at a short numeral, in this program: the shelf's contract, laid here. -/
import Derived.Test.YthidgpcbnieleaaGreatDoorD0
import Derived.Test.YthidgpcbnieleaaGreatDoorProg
import Derived.Shelf.Strconv.Atoi
namespace Go.Proofs
open Go.Shelf
def Tryz.laysAtoi_ren : Go.Shelf.Ren := ⟨fun | 172 => 75 | 244 => 104 | 245 => 105 | 247 => 121 | 279 => 122 | 280 => 123 | 281 => 124 | 282 => 125 | 287 => 133 | 316 => 134 | 171 => 41 | 205 => 135 | 321 => 139 | 322 => 140 | 243 => 73 | 246 => 102 | 283 => 116 | 284 => 117 | 285 => 118 | 286 => 119 | 129 => 128 | 317 => 127 | 318 => 129 | 319 => 130 | 320 => 131 | 337 => 137 | 338 => 138 | n => n, fun | 9 => 9 | 3 => 3 | 75 => 92 | 76 => 93 | 4 => 4 | 5 => 5 | 167 => 180 | 37 => 23 | 0 => 0 | 85 => 181 | 2 => 2 | 168 => 183 | 53 => 24 | 175 => 192 | 46 => 160 | 210 => 196 | 127 => 140 | 145 => 203 | 143 => 201 | 21 => 21 | 171 => 175 | 173 => 178 | 212 => 187 | 51 => 188 | 20 => 20 | 213 => 189 | 232 => 204 | 233 => 205 | 80 => 96 | n => n, fun | 15 => 2 | 16 => 3 | 17 => 1 | 18 => 5 | 19 => 6 | n => n⟩
theorem Tryz.laysAtoi : Go.Proofs.Lays.n172 Tryz.prog Tryz.laysAtoi_ren := {
 mixed := by kernel_rfl
 f129 := Tryz.func128.trans (congrArg some (by kernel_rfl))
 f171 := Tryz.func41.trans (congrArg some (by kernel_rfl))
 f172 := Tryz.func75.trans (congrArg some (by kernel_rfl))
 f205 := Tryz.func135.trans (congrArg some (by kernel_rfl))
 f243 := Tryz.func73.trans (congrArg some (by kernel_rfl))
 f244 := Tryz.func104.trans (congrArg some (by kernel_rfl))
 f245 := Tryz.func105.trans (congrArg some (by kernel_rfl))
 f246 := Tryz.func102.trans (congrArg some (by kernel_rfl))
 f247 := Tryz.func121.trans (congrArg some (by kernel_rfl))
 f279 := Tryz.func122.trans (congrArg some (by kernel_rfl))
 f280 := Tryz.func123.trans (congrArg some (by kernel_rfl))
 f281 := Tryz.func124.trans (congrArg some (by kernel_rfl))
 f282 := Tryz.func125.trans (congrArg some (by kernel_rfl))
 f283 := Tryz.func116.trans (congrArg some (by kernel_rfl))
 f284 := Tryz.func117.trans (congrArg some (by kernel_rfl))
 f285 := Tryz.func118.trans (congrArg some (by kernel_rfl))
 f286 := Tryz.func119.trans (congrArg some (by kernel_rfl))
 f287 := Tryz.func133.trans (congrArg some (by kernel_rfl))
 f316 := Tryz.func134.trans (congrArg some (by kernel_rfl))
 f317 := Tryz.func127.trans (congrArg some (by kernel_rfl))
 f318 := Tryz.func129.trans (congrArg some (by kernel_rfl))
 f319 := Tryz.func130.trans (congrArg some (by kernel_rfl))
 f320 := Tryz.func131.trans (congrArg some (by kernel_rfl))
 f321 := Tryz.func139.trans (congrArg some (by kernel_rfl))
 f322 := Tryz.func140.trans (congrArg some (by kernel_rfl))
 f337 := Tryz.func137.trans (congrArg some (by kernel_rfl))
 f338 := Tryz.func138.trans (congrArg some (by kernel_rfl))
 t0 := Tryz.underlying0
 a0 := Tryz.isAgg0
 z0 := Tryz.sizeOf0
 v0 := Tryz.zeroValue0
 t2 := Tryz.underlying2
 a2 := Tryz.isAgg2
 z2 := Tryz.sizeOf2
 v2 := Tryz.zeroValue2
 t3 := Tryz.underlying3
 a3 := Tryz.isAgg3
 z3 := Tryz.sizeOf3
 v3 := Tryz.zeroValue3
 t4 := Tryz.underlying4
 a4 := Tryz.isAgg4
 z4 := Tryz.sizeOf4
 v4 := Tryz.zeroValue4
 t5 := Tryz.underlying5
 a5 := Tryz.isAgg5
 z5 := Tryz.sizeOf5
 v5 := Tryz.zeroValue5
 t9 := Tryz.underlying9
 a9 := Tryz.isAgg9
 z9 := Tryz.sizeOf9
 v9 := Tryz.zeroValue9
 t20 := Tryz.underlying20
 a20 := Tryz.isAgg20
 z20 := Tryz.sizeOf20
 v20 := Tryz.zeroValue20
 t21 := Tryz.underlying21
 a21 := Tryz.isAgg21
 z21 := Tryz.sizeOf21
 v21 := Tryz.zeroValue21
 t37 := Tryz.underlying23
 a37 := Tryz.isAgg23
 z37 := Tryz.sizeOf23
 v37 := Tryz.zeroValue23
 t46 := Tryz.underlying160
 a46 := Tryz.isAgg160
 z46 := Tryz.sizeOf160
 v46 := Tryz.zeroValue160
 t51 := Tryz.underlying188
 a51 := Tryz.isAgg188
 z51 := Tryz.sizeOf188
 v51 := Tryz.zeroValue188
 t53 := Tryz.underlying24
 a53 := Tryz.isAgg24
 z53 := Tryz.sizeOf24
 v53 := Tryz.zeroValue24
 t75 := Tryz.underlying92
 a75 := Tryz.isAgg92
 z75 := Tryz.sizeOf92
 v75 := Tryz.zeroValue92
 t76 := Tryz.underlying93
 a76 := Tryz.isAgg93
 z76 := Tryz.sizeOf93
 v76 := Tryz.zeroValue93
 t85 := Tryz.underlying181
 a85 := Tryz.isAgg181
 z85 := Tryz.sizeOf181
 v85 := Tryz.zeroValue181
 t127 := Tryz.underlying140
 a127 := Tryz.isAgg140
 z127 := Tryz.sizeOf140
 v127 := Tryz.zeroValue140
 t143 := Tryz.underlying201
 a143 := Tryz.isAgg201
 z143 := Tryz.sizeOf201
 v143 := Tryz.zeroValue201
 t145 := Tryz.underlying203
 a145 := Tryz.isAgg203
 z145 := Tryz.sizeOf203
 v145 := Tryz.zeroValue203
 t167 := Tryz.underlying180
 a167 := Tryz.isAgg180
 z167 := Tryz.sizeOf180
 v167 := Tryz.zeroValue180
 t168 := Tryz.underlying183
 a168 := Tryz.isAgg183
 z168 := Tryz.sizeOf183
 v168 := Tryz.zeroValue183
 t171 := Tryz.underlying175
 a171 := Tryz.isAgg175
 z171 := Tryz.sizeOf175
 v171 := Tryz.zeroValue175
 t173 := Tryz.underlying178
 a173 := Tryz.isAgg178
 z173 := Tryz.sizeOf178
 v173 := Tryz.zeroValue178
 t175 := Tryz.underlying192
 a175 := Tryz.isAgg192
 z175 := Tryz.sizeOf192
 v175 := Tryz.zeroValue192
 t210 := Tryz.underlying196
 a210 := Tryz.isAgg196
 z210 := Tryz.sizeOf196
 v210 := Tryz.zeroValue196
 t212 := Tryz.underlying187
 a212 := Tryz.isAgg187
 z212 := Tryz.sizeOf187
 v212 := Tryz.zeroValue187
 t213 := Tryz.underlying189
 a213 := Tryz.isAgg189
 z213 := Tryz.sizeOf189
 t232 := Tryz.underlying204
 a232 := Tryz.isAgg204
 z232 := Tryz.sizeOf204
 v232 := Tryz.zeroValue204
 t233 := Tryz.underlying205
 a233 := Tryz.isAgg205
 z233 := Tryz.sizeOf205
 v233 := Tryz.zeroValue205
 g15 := by kernel_rfl
 g16 := by kernel_rfl
 g17 := by kernel_rfl
 g18 := by kernel_rfl
 g19 := by kernel_rfl }
end Go.Proofs
namespace Go.Proofs.YthidgpcbnieleaaGreatDoor
open Go Aw
set_option linter.unusedVariables false
set_option linter.unusedSimpArgs false
def Z0o (s : Str) : Option Int := bif Nat.ble s.length 18 then Lib.atoi s else none
theorem Z23 (s : Str) (n : Int) (h : Z0o s = some n) : z0m Tryz.prog 75 [z0i s] (PV.tup [.v (.int .i64 n), .v .nilIface]) := by
 intro F g vargs w hr hv
 obtain ⟨hl, h1⟩ : s.length ≤ 18 ∧ Lib.atoi s = some n := by
  unfold Z0o at h
  cases hb : Nat.ble s.length 18 with
  | false => rw [hb] at h; cases h
  | true => rw [hb] at h; exact ⟨Nat.le_of_ble_eq_true hb, h⟩
 obtain ⟨hz, hx⟩ := hv
 obtain ⟨u, hu, hs⟩ := hx 0 _ rfl
 obtain rfl := vr_v.1 hs
 obtain rfl : vargs = #[.string ⟨s.toArray⟩] := by
  obtain ⟨l⟩ := vargs
  match l, hz, hu with
  | [x], _, hu => simpa using hu
 refine (Any.strconv_Atoi Tryz.laysAtoi ⟨s.toArray⟩ n (by simpa [ByteArray.size] using hl) (by simpa using h1) w).mono fun e w' ⟨he, t, ht⟩ => ?_
 subst he; subst ht
 have hs : w.heap.size ≤ (Lib.bytesWorld w (Tryz.laysAtoi_ren.t 5) t).heap.size := by rw [Lib.bytesWorld_size]; omega
 have ho : ∀ k, k < w.heap.size → (Lib.bytesWorld w (Tryz.laysAtoi_ren.t 5) t).heap[k]? = w.heap[k]? := fun k hk => Lib.bytesWorld_at_old w _ t k hk
 refine ⟨.ret _, [], g, ?_, zbu hr hs ho, zby hr hs ho rfl rfl rfl, rfl, rfl⟩
 refine vr_tup.2 ⟨[.int .i64 n, .nilIface], rfl, rfl, fun i y hy => ?_⟩
 match i with
 | 0 => simp only [List.getElem?_cons_zero, Option.some.injEq] at hy; subst hy; exact ⟨_, rfl, vr_v.2 rfl⟩
 | 1 => simp only [List.getElem?_cons_succ, List.getElem?_cons_zero, Option.some.injEq] at hy; subst hy; exact ⟨_, rfl, vr_v.2 rfl⟩
 | i + 2 => simp at hy
end Go.Proofs.YthidgpcbnieleaaGreatDoor
