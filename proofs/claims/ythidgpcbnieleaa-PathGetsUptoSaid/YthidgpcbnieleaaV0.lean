/- The facts of the program that the walks lean on: zero values, sizes, fields, which function is there. Written by walk.py. -/
import Derived.Test.YthidgpcbnieleaaProg
import Derived.KernelRfl
import Derived.Test.YthidgpcbnieleaaAwT
namespace Go.Proofs.Ythidgpcbnieleaa
open Go Aw
set_option linter.unusedVariables false
theorem zrt : Inf Try.prog 2 (.int .i64 0) 1 8 := show (Try.prog.info? 2).map (fun i => (i.zero, i.size, i.bytes)) = _ from by kernel_rfl
theorem zg8 : Inf Try.prog 3 (.int .i64 0) 1 8 := show (Try.prog.info? 3).map (fun i => (i.zero, i.size, i.bytes)) = _ from by kernel_rfl
theorem zrq : Inf Try.prog 4 (.bool false) 1 1 := show (Try.prog.info? 4).map (fun i => (i.zero, i.size, i.bytes)) = _ from by kernel_rfl
theorem inf_5 : Inf Try.prog 5 (.int .u8 0) 1 1 := show (Try.prog.info? 5).map (fun i => (i.zero, i.size, i.bytes)) = _ from by kernel_rfl
theorem zk3 : Inf Try.prog 9 (.string ⟨#[]⟩) 1 16 := show (Try.prog.info? 9).map (fun i => (i.zero, i.size, i.bytes)) = _ from by kernel_rfl
theorem z2g : Inf Try.prog 20 (.nilIface) 1 16 := show (Try.prog.info? 20).map (fun i => (i.zero, i.size, i.bytes)) = _ from by kernel_rfl
theorem zj2 : Inf Try.prog 22 (.float .f64 0) 1 8 := show (Try.prog.info? 22).map (fun i => (i.zero, i.size, i.bytes)) = _ from by kernel_rfl
theorem zf2 : Inf Try.prog 23 (.slice none 0 0) 1 24 := show (Try.prog.info? 23).map (fun i => (i.zero, i.size, i.bytes)) = _ from by kernel_rfl
theorem zj1 : Inf Try.prog 25 (.int .u64 0) 1 8 := show (Try.prog.info? 25).map (fun i => (i.zero, i.size, i.bytes)) = _ from by kernel_rfl
theorem zrs : Inf Try.prog 26 (.slice none 0 0) 1 24 := show (Try.prog.info? 26).map (fun i => (i.zero, i.size, i.bytes)) = _ from by kernel_rfl
theorem zrr : Inf Try.prog 27 (.slice none 0 0) 1 24 := show (Try.prog.info? 27).map (fun i => (i.zero, i.size, i.bytes)) = _ from by kernel_rfl
theorem z0v : Inf Try.prog 29 (.agg #[.int .i64 0, .bool false, .int .i64 0, .float .f64 0, .string ⟨#[]⟩, .slice none 0 0, .int .u64 0, .slice none 0 0, .slice none 0 0, .string ⟨#[]⟩, .int .i64 0]) 11 152 := show (Try.prog.info? 29).map (fun i => (i.zero, i.size, i.bytes)) = _ from by kernel_rfl
theorem zw3 : Inf Try.prog 32 (.int .i64 0) 1 8 := show (Try.prog.info? 32).map (fun i => (i.zero, i.size, i.bytes)) = _ from by kernel_rfl
theorem zj0 : Inf Try.prog 62 (.slice none 0 0) 1 24 := show (Try.prog.info? 62).map (fun i => (i.zero, i.size, i.bytes)) = _ from by kernel_rfl
theorem ziz : Inf Try.prog 64 (.slice none 0 0) 1 24 := show (Try.prog.info? 64).map (fun i => (i.zero, i.size, i.bytes)) = _ from by kernel_rfl
theorem ziy : Inf Try.prog 66 (.pointer none) 1 8 := show (Try.prog.info? 66).map (fun i => (i.zero, i.size, i.bytes)) = _ from by kernel_rfl
theorem zix : Inf Try.prog 68 (.agg #[.string ⟨#[]⟩, .int .i64 0, .slice none 0 0]) 3 48 := show (Try.prog.info? 68).map (fun i => (i.zero, i.size, i.bytes)) = _ from by kernel_rfl
theorem z1w : Inf Try.prog 76 (.agg #[.string ⟨#[]⟩, .bool false, .int .i64 0]) 3 32 := show (Try.prog.info? 76).map (fun i => (i.zero, i.size, i.bytes)) = _ from by kernel_rfl
theorem z9o : Inf Try.prog 81 (.agg #[.int .i64 0, .int .i64 0, .int .i64 0, .int .i64 0]) 4 32 := show (Try.prog.info? 81).map (fun i => (i.zero, i.size, i.bytes)) = _ from by kernel_rfl
theorem z22 : Inf Try.prog 94 (.agg #[.string ⟨#[]⟩, .int .i64 0, .bool false, .int .i64 0, .float .f64 0, .string ⟨#[]⟩, .slice none 0 0, .int .u64 0, .slice none 0 0, .slice none 0 0, .string ⟨#[]⟩, .int .i64 0]) 12 168 := show (Try.prog.info? 94).map (fun i => (i.zero, i.size, i.bytes)) = _ from by kernel_rfl
theorem z1c : Inf Try.prog 96 (.agg #[.string ⟨#[]⟩, .nilIface]) 2 32 := show (Try.prog.info? 96).map (fun i => (i.zero, i.size, i.bytes)) = _ from by kernel_rfl
theorem Z13 : Inf Try.prog 99 (.agg #[.slice none 0 0]) 1 24 := show (Try.prog.info? 99).map (fun i => (i.zero, i.size, i.bytes)) = _ from by kernel_rfl
theorem zy0 : Inf Try.prog 104 (.agg #[.int .i64 0, .int .i64 0]) 2 16 := show (Try.prog.info? 104).map (fun i => (i.zero, i.size, i.bytes)) = _ from by kernel_rfl
theorem zxz : Inf Try.prog 133 (.agg #[.int .i64 0, .int .i64 0, .int .i64 0]) 3 24 := show (Try.prog.info? 133).map (fun i => (i.zero, i.size, i.bytes)) = _ from by kernel_rfl
theorem z81 : IsStruct Try.prog 29 #[{ name := "Kind", type := 3, offset := 0, embedded := false, tag := "", pkgPath := "", byteOffset := 0 }, { name := "Bool", type := 4, offset := 1, embedded := false, tag := "", pkgPath := "", byteOffset := 8 }, { name := "Int", type := 2, offset := 2, embedded := false, tag := "", pkgPath := "", byteOffset := 16 }, { name := "Float", type := 22, offset := 3, embedded := false, tag := "", pkgPath := "", byteOffset := 24 }, { name := "Text", type := 9, offset := 4, embedded := false, tag := "", pkgPath := "", byteOffset := 32 }, { name := "Bytes", type := 23, offset := 5, embedded := false, tag := "", pkgPath := "", byteOffset := 48 }, { name := "Ref", type := 25, offset := 6, embedded := false, tag := "", pkgPath := "", byteOffset := 72 }, { name := "List", type := 26, offset := 7, embedded := false, tag := "", pkgPath := "", byteOffset := 80 }, { name := "Fields", type := 27, offset := 8, embedded := false, tag := "", pkgPath := "", byteOffset := 104 }, { name := "Class", type := 9, offset := 9, embedded := false, tag := "", pkgPath := "", byteOffset := 128 }, { name := "Version", type := 3, offset := 10, embedded := false, tag := "", pkgPath := "", byteOffset := 144 }] [(0, 1), (1, 1), (2, 1), (3, 1), (4, 1), (5, 1), (6, 1), (7, 1), (8, 1), (9, 1), (10, 1)] := ⟨Try.underlying29, by kernel_rfl, by kernel_rfl⟩
theorem zbi : IsStruct Try.prog 68 #[{ name := "Class", type := 9, offset := 0, embedded := false, tag := "", pkgPath := "", byteOffset := 0 }, { name := "Version", type := 3, offset := 1, embedded := false, tag := "", pkgPath := "", byteOffset := 16 }, { name := "Fields", type := 64, offset := 2, embedded := false, tag := "", pkgPath := "", byteOffset := 24 }] [(0, 1), (1, 1), (2, 1)] := ⟨Try.underlying68, by kernel_rfl, by kernel_rfl⟩
theorem zww : IsStruct Try.prog 76 #[{ name := "Name", type := 9, offset := 0, embedded := false, tag := "", pkgPath := "", byteOffset := 0 }, { name := "At", type := 4, offset := 1, embedded := false, tag := "", pkgPath := "", byteOffset := 16 }, { name := "Index", type := 3, offset := 2, embedded := false, tag := "", pkgPath := "", byteOffset := 24 }] [(0, 1), (1, 1), (2, 1)] := ⟨Try.underlying76, by kernel_rfl, by kernel_rfl⟩
theorem zzr : IsStruct Try.prog 81 #[{ name := "n", type := 3, offset := 0, embedded := false, tag := "", pkgPath := "tenon/tenonref01", byteOffset := 0 }, { name := "deep", type := 3, offset := 1, embedded := false, tag := "", pkgPath := "tenon/tenonref01", byteOffset := 8 }, { name := "at", type := 3, offset := 2, embedded := false, tag := "", pkgPath := "tenon/tenonref01", byteOffset := 16 }, { name := "why", type := 32, offset := 3, embedded := false, tag := "", pkgPath := "tenon/tenonref01", byteOffset := 24 }] [(0, 1), (1, 1), (2, 1), (3, 1)] := ⟨Try.underlying81, by kernel_rfl, by kernel_rfl⟩
theorem zt4 : IsStruct Try.prog 94 #[{ name := "Name", type := 9, offset := 0, embedded := false, tag := "", pkgPath := "", byteOffset := 0 }, { name := "Value", type := 29, offset := 1, embedded := false, tag := "", pkgPath := "", byteOffset := 16 }] [(0, 1), (1, 11)] := ⟨Try.underlying94, by kernel_rfl, by kernel_rfl⟩
theorem zgv : IsStruct Try.prog 96 #[{ name := "Name", type := 9, offset := 0, embedded := false, tag := "", pkgPath := "", byteOffset := 0 }, { name := "Value", type := 20, offset := 1, embedded := false, tag := "", pkgPath := "", byteOffset := 16 }] [(0, 1), (1, 1)] := ⟨Try.underlying96, by kernel_rfl, by kernel_rfl⟩
theorem zzq : IsStruct Try.prog 99 #[{ name := "L", type := 30, offset := 0, embedded := false, tag := "", pkgPath := "", byteOffset := 0 }] [(0, 1)] := ⟨Try.underlying99, by kernel_rfl, by kernel_rfl⟩
theorem zzs : IsStruct Try.prog 133 #[{ name := "n", type := 3, offset := 0, embedded := false, tag := "", pkgPath := "tenon/value", byteOffset := 0 }, { name := "deep", type := 3, offset := 1, embedded := false, tag := "", pkgPath := "tenon/value", byteOffset := 8 }, { name := "why", type := 32, offset := 2, embedded := false, tag := "", pkgPath := "tenon/value", byteOffset := 16 }] [(0, 1), (1, 1), (2, 1)] := ⟨Try.underlying133, by kernel_rfl, by kernel_rfl⟩
theorem Z2q : z0x Try.prog 7 := ⟨_, Try.func7, by kernel_rfl, rfl⟩
theorem zym : z0x Try.prog 10 := ⟨_, Try.func10, by kernel_rfl, rfl⟩
theorem zum : z0x Try.prog 13 := ⟨_, Try.func13, by kernel_rfl, rfl⟩
theorem Z23 : z0x Try.prog 14 := ⟨_, Try.func14, by kernel_rfl, rfl⟩
theorem Z4u : z0x Try.prog 17 := ⟨_, Try.func17, by kernel_rfl, rfl⟩
theorem Z4t : z0x Try.prog 18 := ⟨_, Try.func18, by kernel_rfl, rfl⟩
theorem Z4s : z0x Try.prog 19 := ⟨_, Try.func19, by kernel_rfl, rfl⟩
theorem Z4r : z0x Try.prog 20 := ⟨_, Try.func20, by kernel_rfl, rfl⟩
theorem Z4q : z0x Try.prog 21 := ⟨_, Try.func21, by kernel_rfl, rfl⟩
theorem Z4p : z0x Try.prog 22 := ⟨_, Try.func22, by kernel_rfl, rfl⟩
theorem Z4o : z0x Try.prog 23 := ⟨_, Try.func23, by kernel_rfl, rfl⟩
theorem Z4n : z0x Try.prog 24 := ⟨_, Try.func24, by kernel_rfl, rfl⟩
theorem Z22 : z0x Try.prog 26 := ⟨_, Try.func26, by kernel_rfl, rfl⟩
theorem Z4m : z0x Try.prog 27 := ⟨_, Try.func27, by kernel_rfl, rfl⟩
theorem Z21 : z0x Try.prog 28 := ⟨_, Try.func28, by kernel_rfl, rfl⟩
theorem Z20 : z0x Try.prog 30 := ⟨_, Try.func30, by kernel_rfl, rfl⟩
theorem zul : z0x Try.prog 31 := ⟨_, Try.func31, by kernel_rfl, rfl⟩
theorem zyl : z0x Try.prog 32 := ⟨_, Try.func32, by kernel_rfl, rfl⟩
theorem Z4l : z0x Try.prog 33 := ⟨_, Try.func33, by kernel_rfl, rfl⟩
theorem Z1z : z0x Try.prog 36 := ⟨_, Try.func36, by kernel_rfl, rfl⟩
theorem zyk : z0x Try.prog 38 := ⟨_, Try.func38, by kernel_rfl, rfl⟩
theorem Z4k : z0x Try.prog 39 := ⟨_, Try.func39, by kernel_rfl, rfl⟩
theorem zuk : z0x Try.prog 40 := ⟨_, Try.func40, by kernel_rfl, rfl⟩
theorem zyj : z0x Try.prog 41 := ⟨_, Try.func41, by kernel_rfl, rfl⟩
theorem zas : z0x Try.prog 42 := ⟨_, Try.func42, by kernel_rfl, rfl⟩
theorem Z1y : z0x Try.prog 43 := ⟨_, Try.func43, by kernel_rfl, rfl⟩
theorem zuj : z0x Try.prog 44 := ⟨_, Try.func44, by kernel_rfl, rfl⟩
theorem Z4j : z0x Try.prog 45 := ⟨_, Try.func45, by kernel_rfl, rfl⟩
theorem zyi : z0x Try.prog 46 := ⟨_, Try.func46, by kernel_rfl, rfl⟩
theorem Z1x : z0x Try.prog 47 := ⟨_, Try.func47, by kernel_rfl, rfl⟩
theorem zyh : z0x Try.prog 48 := ⟨_, Try.func48, by kernel_rfl, rfl⟩
theorem Z4i : z0x Try.prog 49 := ⟨_, Try.func49, by kernel_rfl, rfl⟩
theorem Z1w : z0x Try.prog 52 := ⟨_, Try.func52, by kernel_rfl, rfl⟩
theorem zyg : z0x Try.prog 60 := ⟨_, Try.func60, by kernel_rfl, rfl⟩
theorem Z4h : z0x Try.prog 61 := ⟨_, Try.func61, by kernel_rfl, rfl⟩
theorem Z1v : z0x Try.prog 62 := ⟨_, Try.func62, by kernel_rfl, rfl⟩
theorem Z1u : z0x Try.prog 63 := ⟨_, Try.func63, by kernel_rfl, rfl⟩
theorem Z4g : z0x Try.prog 64 := ⟨_, Try.func64, by kernel_rfl, rfl⟩
theorem Z4f : z0x Try.prog 65 := ⟨_, Try.func65, by kernel_rfl, rfl⟩
theorem Z4e : z0x Try.prog 66 := ⟨_, Try.func66, by kernel_rfl, rfl⟩
theorem zs5 : z0x Try.prog 67 := ⟨_, Try.func67, by kernel_rfl, rfl⟩
theorem zyf : z0x Try.prog 68 := ⟨_, Try.func68, by kernel_rfl, rfl⟩
theorem Z4d : z0x Try.prog 69 := ⟨_, Try.func69, by kernel_rfl, rfl⟩
theorem Z1t : z0x Try.prog 70 := ⟨_, Try.func70, by kernel_rfl, rfl⟩
theorem zye : z0x Try.prog 71 := ⟨_, Try.func71, by kernel_rfl, rfl⟩
theorem Z1s : z0x Try.prog 72 := ⟨_, Try.func72, by kernel_rfl, rfl⟩
theorem Z1r : z0x Try.prog 73 := ⟨_, Try.func73, by kernel_rfl, rfl⟩
theorem Z1q : z0x Try.prog 74 := ⟨_, Try.func74, by kernel_rfl, rfl⟩
theorem Z1p : z0x Try.prog 75 := ⟨_, Try.func75, by kernel_rfl, rfl⟩
theorem zyd : z0x Try.prog 76 := ⟨_, Try.func76, by kernel_rfl, rfl⟩
theorem Z4c : z0x Try.prog 77 := ⟨_, Try.func77, by kernel_rfl, rfl⟩
theorem Z1o : z0x Try.prog 78 := ⟨_, Try.func78, by kernel_rfl, rfl⟩
theorem Z4b : z0x Try.prog 79 := ⟨_, Try.func79, by kernel_rfl, rfl⟩
theorem Z1n : z0x Try.prog 80 := ⟨_, Try.func80, by kernel_rfl, rfl⟩
theorem zyc : z0x Try.prog 81 := ⟨_, Try.func81, by kernel_rfl, rfl⟩
theorem Z4a : z0x Try.prog 83 := ⟨_, Try.func83, by kernel_rfl, rfl⟩
theorem Z49 : z0x Try.prog 85 := ⟨_, Try.func85, by kernel_rfl, rfl⟩
theorem Z1m : z0x Try.prog 86 := ⟨_, Try.func86, by kernel_rfl, rfl⟩
theorem zyb : z0x Try.prog 87 := ⟨_, Try.func87, by kernel_rfl, rfl⟩
theorem zui : z0x Try.prog 88 := ⟨_, Try.func88, by kernel_rfl, rfl⟩
theorem Z48 : z0x Try.prog 89 := ⟨_, Try.func89, by kernel_rfl, rfl⟩
theorem Z1l : z0x Try.prog 90 := ⟨_, Try.func90, by kernel_rfl, rfl⟩
theorem Z47 : z0x Try.prog 91 := ⟨_, Try.func91, by kernel_rfl, rfl⟩
theorem Z46 : z0x Try.prog 92 := ⟨_, Try.func92, by kernel_rfl, rfl⟩
theorem Z1k : z0x Try.prog 93 := ⟨_, Try.func93, by kernel_rfl, rfl⟩
theorem Z45 : z0x Try.prog 94 := ⟨_, Try.func94, by kernel_rfl, rfl⟩
theorem Z1j : z0x Try.prog 95 := ⟨_, Try.func95, by kernel_rfl, rfl⟩
theorem Z1i : z0x Try.prog 96 := ⟨_, Try.func96, by kernel_rfl, rfl⟩
theorem Z44 : z0x Try.prog 97 := ⟨_, Try.func97, by kernel_rfl, rfl⟩
theorem zwf : z0x Try.prog 100 := ⟨_, Try.func100, by kernel_rfl, rfl⟩
theorem zwe : z0x Try.prog 101 := ⟨_, Try.func101, by kernel_rfl, rfl⟩
theorem zwd : z0x Try.prog 102 := ⟨_, Try.func102, by kernel_rfl, rfl⟩
theorem zwc : z0x Try.prog 103 := ⟨_, Try.func103, by kernel_rfl, rfl⟩
theorem Z25 : z0x Try.prog 104 := ⟨_, Try.func104, by kernel_rfl, rfl⟩
theorem Z24 : z0x Try.prog 106 := ⟨_, Try.func106, by kernel_rfl, rfl⟩
theorem mo : Try.prog.follows .mixedOrders = true := by kernel_rfl
end Go.Proofs.Ythidgpcbnieleaa
