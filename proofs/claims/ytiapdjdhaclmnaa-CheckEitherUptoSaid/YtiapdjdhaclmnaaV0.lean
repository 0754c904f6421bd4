/- The facts of the program that the walks lean on: zero values, sizes, fields, which function is there. Written by walk.py. -/
import Derived.Test.YtiapdjdhaclmnaaProg
import Derived.KernelRfl
import Derived.Test.YtiapdjdhaclmnaaAwT
namespace Go.Proofs.Ytiapdjdhaclmnaa
open Go Aw
set_option linter.unusedVariables false
theorem zs7 : Inf Try.prog 2 (.int .i64 0) 1 8 := show (Try.prog.info? 2).map (fun i => (i.zero, i.size, i.bytes)) = _ from by kernel_rfl
theorem zea : Inf Try.prog 3 (.int .i64 0) 1 8 := show (Try.prog.info? 3).map (fun i => (i.zero, i.size, i.bytes)) = _ from by kernel_rfl
theorem inf_4 : Inf Try.prog 4 (.bool false) 1 1 := show (Try.prog.info? 4).map (fun i => (i.zero, i.size, i.bytes)) = _ from by kernel_rfl
theorem inf_5 : Inf Try.prog 5 (.int .u8 0) 1 1 := show (Try.prog.info? 5).map (fun i => (i.zero, i.size, i.bytes)) = _ from by kernel_rfl
theorem inf_9 : Inf Try.prog 9 (.string ⟨#[]⟩) 1 16 := show (Try.prog.info? 9).map (fun i => (i.zero, i.size, i.bytes)) = _ from by kernel_rfl
theorem z6r : Inf Try.prog 20 (.nilIface) 1 16 := show (Try.prog.info? 20).map (fun i => (i.zero, i.size, i.bytes)) = _ from by kernel_rfl
theorem zim : Inf Try.prog 22 (.float .f64 0) 1 8 := show (Try.prog.info? 22).map (fun i => (i.zero, i.size, i.bytes)) = _ from by kernel_rfl
theorem zil : Inf Try.prog 23 (.slice none 0 0) 1 24 := show (Try.prog.info? 23).map (fun i => (i.zero, i.size, i.bytes)) = _ from by kernel_rfl
theorem zik : Inf Try.prog 25 (.int .u64 0) 1 8 := show (Try.prog.info? 25).map (fun i => (i.zero, i.size, i.bytes)) = _ from by kernel_rfl
theorem Z1l : Inf Try.prog 26 (.slice none 0 0) 1 24 := show (Try.prog.info? 26).map (fun i => (i.zero, i.size, i.bytes)) = _ from by kernel_rfl
theorem zxm : Inf Try.prog 27 (.slice none 0 0) 1 24 := show (Try.prog.info? 27).map (fun i => (i.zero, i.size, i.bytes)) = _ from by kernel_rfl
theorem z2g : Inf Try.prog 29 (.agg #[.int .i64 0, .bool false, .int .i64 0, .float .f64 0, .string ⟨#[]⟩, .slice none 0 0, .int .u64 0, .slice none 0 0, .slice none 0 0, .string ⟨#[]⟩, .int .i64 0]) 11 152 := show (Try.prog.info? 29).map (fun i => (i.zero, i.size, i.bytes)) = _ from by kernel_rfl
theorem zij : Inf Try.prog 30 (.slice none 0 0) 1 24 := show (Try.prog.info? 30).map (fun i => (i.zero, i.size, i.bytes)) = _ from by kernel_rfl
theorem zxl : Inf Try.prog 31 (.slice none 0 0) 1 24 := show (Try.prog.info? 31).map (fun i => (i.zero, i.size, i.bytes)) = _ from by kernel_rfl
theorem zxk : Inf Try.prog 32 (.slice none 0 0) 1 24 := show (Try.prog.info? 32).map (fun i => (i.zero, i.size, i.bytes)) = _ from by kernel_rfl
theorem z0t : Inf Try.prog 34 (.agg #[.int .i64 0, .int .i64 0, .int .i64 0, .bool false, .int .i64 0, .float .f64 0, .string ⟨#[]⟩, .slice none 0 0, .int .u64 0, .slice none 0 0, .slice none 0 0, .string ⟨#[]⟩, .int .i64 0, .slice none 0 0, .slice none 0 0, .slice none 0 0, .bool false, .string ⟨#[]⟩]) 18 264 := show (Try.prog.info? 34).map (fun i => (i.zero, i.size, i.bytes)) = _ from by kernel_rfl
theorem zme : Inf Try.prog 37 (.slice none 0 0) 1 24 := show (Try.prog.info? 37).map (fun i => (i.zero, i.size, i.bytes)) = _ from by kernel_rfl
theorem zxj : Inf Try.prog 39 (.int .i64 0) 1 8 := show (Try.prog.info? 39).map (fun i => (i.zero, i.size, i.bytes)) = _ from by kernel_rfl
theorem z2d : Inf Try.prog 43 (.agg #[.string ⟨#[]⟩, .nilIface]) 2 32 := show (Try.prog.info? 43).map (fun i => (i.zero, i.size, i.bytes)) = _ from by kernel_rfl
theorem zmd : Inf Try.prog 45 (.slice none 0 0) 1 24 := show (Try.prog.info? 45).map (fun i => (i.zero, i.size, i.bytes)) = _ from by kernel_rfl
theorem zmc : Inf Try.prog 70 (.pointer none) 1 8 := show (Try.prog.info? 70).map (fun i => (i.zero, i.size, i.bytes)) = _ from by kernel_rfl
theorem zs6 : Inf Try.prog 72 (.agg #[.string ⟨#[]⟩, .int .i64 0, .slice none 0 0]) 3 48 := show (Try.prog.info? 72).map (fun i => (i.zero, i.size, i.bytes)) = _ from by kernel_rfl
theorem z7k : Inf Try.prog 98 (.agg #[.int .i64 0, .int .i64 0, .int .i64 0, .int .i64 0]) 4 32 := show (Try.prog.info? 98).map (fun i => (i.zero, i.size, i.bytes)) = _ from by kernel_rfl
theorem z44 : Inf Try.prog 101 (.agg #[.string ⟨#[]⟩, .int .i64 0, .bool false, .int .i64 0, .float .f64 0, .string ⟨#[]⟩, .slice none 0 0, .int .u64 0, .slice none 0 0, .slice none 0 0, .string ⟨#[]⟩, .int .i64 0]) 12 168 := show (Try.prog.info? 101).map (fun i => (i.zero, i.size, i.bytes)) = _ from by kernel_rfl
theorem zz7 : Inf Try.prog 105 (.agg #[.slice none 0 0]) 1 24 := show (Try.prog.info? 105).map (fun i => (i.zero, i.size, i.bytes)) = _ from by kernel_rfl
theorem zz6 : Inf Try.prog 110 (.agg #[.int .i64 0, .int .i64 0]) 2 16 := show (Try.prog.info? 110).map (fun i => (i.zero, i.size, i.bytes)) = _ from by kernel_rfl
theorem zk6 : Inf Try.prog 119 (.agg #[.int .i64 0]) 1 8 := show (Try.prog.info? 119).map (fun i => (i.zero, i.size, i.bytes)) = _ from by kernel_rfl
theorem zs8 : Inf Try.prog 148 (.agg #[.int .i64 0, .int .i64 0, .int .i64 0]) 3 24 := show (Try.prog.info? 148).map (fun i => (i.zero, i.size, i.bytes)) = _ from by kernel_rfl
theorem zz5 : Inf Try.prog 153 (.agg #[]) 0 0 := show (Try.prog.info? 153).map (fun i => (i.zero, i.size, i.bytes)) = _ from by kernel_rfl
theorem z23 : IsStruct Try.prog 29 #[{ name := "Kind", type := 3, offset := 0, embedded := false, tag := "", pkgPath := "", byteOffset := 0 }, { name := "Bool", type := 4, offset := 1, embedded := false, tag := "", pkgPath := "", byteOffset := 8 }, { name := "Int", type := 2, offset := 2, embedded := false, tag := "", pkgPath := "", byteOffset := 16 }, { name := "Float", type := 22, offset := 3, embedded := false, tag := "", pkgPath := "", byteOffset := 24 }, { name := "Text", type := 9, offset := 4, embedded := false, tag := "", pkgPath := "", byteOffset := 32 }, { name := "Bytes", type := 23, offset := 5, embedded := false, tag := "", pkgPath := "", byteOffset := 48 }, { name := "Ref", type := 25, offset := 6, embedded := false, tag := "", pkgPath := "", byteOffset := 72 }, { name := "List", type := 26, offset := 7, embedded := false, tag := "", pkgPath := "", byteOffset := 80 }, { name := "Fields", type := 27, offset := 8, embedded := false, tag := "", pkgPath := "", byteOffset := 104 }, { name := "Class", type := 9, offset := 9, embedded := false, tag := "", pkgPath := "", byteOffset := 128 }, { name := "Version", type := 3, offset := 10, embedded := false, tag := "", pkgPath := "", byteOffset := 144 }] [(0, 1), (1, 1), (2, 1), (3, 1), (4, 1), (5, 1), (6, 1), (7, 1), (8, 1), (9, 1), (10, 1)] := ⟨Try.underlying29, by kernel_rfl, by kernel_rfl⟩
theorem z1f : IsStruct Try.prog 34 #[{ name := "Kind", type := 3, offset := 0, embedded := false, tag := "", pkgPath := "", byteOffset := 0 }, { name := "Of", type := 3, offset := 1, embedded := false, tag := "", pkgPath := "", byteOffset := 8 }, { name := "Only", type := 29, offset := 2, embedded := false, tag := "", pkgPath := "", byteOffset := 16 }, { name := "Parts", type := 30, offset := 13, embedded := false, tag := "", pkgPath := "", byteOffset := 168 }, { name := "Names", type := 31, offset := 14, embedded := false, tag := "", pkgPath := "", byteOffset := 192 }, { name := "Lacks", type := 32, offset := 15, embedded := false, tag := "", pkgPath := "", byteOffset := 216 }, { name := "Open", type := 4, offset := 16, embedded := false, tag := "", pkgPath := "", byteOffset := 240 }, { name := "Class", type := 9, offset := 17, embedded := false, tag := "", pkgPath := "", byteOffset := 248 }] [(0, 1), (1, 1), (2, 11), (13, 1), (14, 1), (15, 1), (16, 1), (17, 1)] := ⟨Try.underlying34, by kernel_rfl, by kernel_rfl⟩
theorem z6x : IsStruct Try.prog 43 #[{ name := "Name", type := 9, offset := 0, embedded := false, tag := "", pkgPath := "", byteOffset := 0 }, { name := "Value", type := 20, offset := 1, embedded := false, tag := "", pkgPath := "", byteOffset := 16 }] [(0, 1), (1, 1)] := ⟨Try.underlying43, by kernel_rfl, by kernel_rfl⟩
theorem z6w : IsStruct Try.prog 72 #[{ name := "Class", type := 9, offset := 0, embedded := false, tag := "", pkgPath := "", byteOffset := 0 }, { name := "Version", type := 3, offset := 1, embedded := false, tag := "", pkgPath := "", byteOffset := 16 }, { name := "Fields", type := 45, offset := 2, embedded := false, tag := "", pkgPath := "", byteOffset := 24 }] [(0, 1), (1, 1), (2, 1)] := ⟨Try.underlying72, by kernel_rfl, by kernel_rfl⟩
theorem zby : IsStruct Try.prog 98 #[{ name := "n", type := 3, offset := 0, embedded := false, tag := "", pkgPath := "tenon/tenonref01", byteOffset := 0 }, { name := "deep", type := 3, offset := 1, embedded := false, tag := "", pkgPath := "tenon/tenonref01", byteOffset := 8 }, { name := "at", type := 3, offset := 2, embedded := false, tag := "", pkgPath := "tenon/tenonref01", byteOffset := 16 }, { name := "why", type := 39, offset := 3, embedded := false, tag := "", pkgPath := "tenon/tenonref01", byteOffset := 24 }] [(0, 1), (1, 1), (2, 1), (3, 1)] := ⟨Try.underlying98, by kernel_rfl, by kernel_rfl⟩
theorem z9a : IsStruct Try.prog 101 #[{ name := "Name", type := 9, offset := 0, embedded := false, tag := "", pkgPath := "", byteOffset := 0 }, { name := "Value", type := 29, offset := 1, embedded := false, tag := "", pkgPath := "", byteOffset := 16 }] [(0, 1), (1, 11)] := ⟨Try.underlying101, by kernel_rfl, by kernel_rfl⟩
theorem Z08 : IsStruct Try.prog 105 #[{ name := "L", type := 103, offset := 0, embedded := false, tag := "", pkgPath := "", byteOffset := 0 }] [(0, 1)] := ⟨Try.underlying105, by kernel_rfl, by kernel_rfl⟩
theorem zlg : IsStruct Try.prog 119 #[{ name := "left", type := 3, offset := 0, embedded := false, tag := "", pkgPath := "tenon/check", byteOffset := 0 }] [(0, 1)] := ⟨Try.underlying119, by kernel_rfl, by kernel_rfl⟩
theorem z7j : IsStruct Try.prog 148 #[{ name := "n", type := 3, offset := 0, embedded := false, tag := "", pkgPath := "tenon/value", byteOffset := 0 }, { name := "deep", type := 3, offset := 1, embedded := false, tag := "", pkgPath := "tenon/value", byteOffset := 8 }, { name := "why", type := 39, offset := 2, embedded := false, tag := "", pkgPath := "tenon/value", byteOffset := 16 }] [(0, 1), (1, 1), (2, 1)] := ⟨Try.underlying148, by kernel_rfl, by kernel_rfl⟩
theorem Z07 : IsStruct Try.prog 153 #[] [] := ⟨Try.underlying153, by kernel_rfl, by kernel_rfl⟩
theorem Z4s : z1e Try.prog 9 := ⟨_, Try.func9, by kernel_rfl, rfl⟩
theorem zsr : z1e Try.prog 10 := ⟨_, Try.func10, by kernel_rfl, rfl⟩
theorem Z2c : z1e Try.prog 14 := ⟨_, Try.func14, by kernel_rfl, rfl⟩
theorem Z57 : z1e Try.prog 20 := ⟨_, Try.func20, by kernel_rfl, rfl⟩
theorem Z2b : z1e Try.prog 26 := ⟨_, Try.func26, by kernel_rfl, rfl⟩
theorem Z56 : z1e Try.prog 27 := ⟨_, Try.func27, by kernel_rfl, rfl⟩
theorem Z2a : z1e Try.prog 28 := ⟨_, Try.func28, by kernel_rfl, rfl⟩
theorem Z55 : z1e Try.prog 29 := ⟨_, Try.func29, by kernel_rfl, rfl⟩
theorem Z54 : z1e Try.prog 30 := ⟨_, Try.func30, by kernel_rfl, rfl⟩
theorem zsn : z1e Try.prog 31 := ⟨_, Try.func31, by kernel_rfl, rfl⟩
theorem zkb : z1e Try.prog 33 := ⟨_, Try.func33, by kernel_rfl, rfl⟩
theorem zka : z1e Try.prog 35 := ⟨_, Try.func35, by kernel_rfl, rfl⟩
theorem Z29 : z1e Try.prog 43 := ⟨_, Try.func43, by kernel_rfl, rfl⟩
theorem zzi : z1e Try.prog 44 := ⟨_, Try.func44, by kernel_rfl, rfl⟩
theorem zzh : z1e Try.prog 48 := ⟨_, Try.func48, by kernel_rfl, rfl⟩
theorem zzg : z1e Try.prog 49 := ⟨_, Try.func49, by kernel_rfl, rfl⟩
theorem Z28 : z1e Try.prog 50 := ⟨_, Try.func50, by kernel_rfl, rfl⟩
theorem Z27 : z1e Try.prog 52 := ⟨_, Try.func52, by kernel_rfl, rfl⟩
theorem zvp : z1e Try.prog 53 := ⟨_, Try.func53, by kernel_rfl, rfl⟩
theorem Z53 : z1e Try.prog 54 := ⟨_, Try.func54, by kernel_rfl, rfl⟩
theorem Z52 : z1e Try.prog 55 := ⟨_, Try.func55, by kernel_rfl, rfl⟩
theorem Z51 : z1e Try.prog 56 := ⟨_, Try.func56, by kernel_rfl, rfl⟩
theorem Z26 : z1e Try.prog 59 := ⟨_, Try.func59, by kernel_rfl, rfl⟩
theorem Z25 : z1e Try.prog 60 := ⟨_, Try.func60, by kernel_rfl, rfl⟩
theorem Z24 : z1e Try.prog 61 := ⟨_, Try.func61, by kernel_rfl, rfl⟩
theorem Z23 : z1e Try.prog 62 := ⟨_, Try.func62, by kernel_rfl, rfl⟩
theorem Z22 : z1e Try.prog 63 := ⟨_, Try.func63, by kernel_rfl, rfl⟩
theorem Z50 : z1e Try.prog 64 := ⟨_, Try.func64, by kernel_rfl, rfl⟩
theorem Z4z : z1e Try.prog 65 := ⟨_, Try.func65, by kernel_rfl, rfl⟩
theorem Z21 : z1e Try.prog 66 := ⟨_, Try.func66, by kernel_rfl, rfl⟩
theorem zsm : z1e Try.prog 68 := ⟨_, Try.func68, by kernel_rfl, rfl⟩
theorem Z4y : z1e Try.prog 72 := ⟨_, Try.func72, by kernel_rfl, rfl⟩
theorem Z20 : z1e Try.prog 73 := ⟨_, Try.func73, by kernel_rfl, rfl⟩
theorem Z4x : z1e Try.prog 74 := ⟨_, Try.func74, by kernel_rfl, rfl⟩
theorem Z4w : z1e Try.prog 75 := ⟨_, Try.func75, by kernel_rfl, rfl⟩
theorem Z4v : z1e Try.prog 76 := ⟨_, Try.func76, by kernel_rfl, rfl⟩
theorem Z1z : z1e Try.prog 83 := ⟨_, Try.func83, by kernel_rfl, rfl⟩
theorem Z4u : z1e Try.prog 84 := ⟨_, Try.func84, by kernel_rfl, rfl⟩
theorem Z4t : z1e Try.prog 85 := ⟨_, Try.func85, by kernel_rfl, rfl⟩
theorem zod : z1e Try.prog 86 := ⟨_, Try.func86, by kernel_rfl, rfl⟩
theorem zzf : z1e Try.prog 87 := ⟨_, Try.func87, by kernel_rfl, rfl⟩
theorem zze : z1e Try.prog 88 := ⟨_, Try.func88, by kernel_rfl, rfl⟩
theorem Z1y : z1e Try.prog 89 := ⟨_, Try.func89, by kernel_rfl, rfl⟩
theorem Z1x : z1e Try.prog 91 := ⟨_, Try.func91, by kernel_rfl, rfl⟩
theorem zzd : z1e Try.prog 92 := ⟨_, Try.func92, by kernel_rfl, rfl⟩
theorem Z1w : z1e Try.prog 93 := ⟨_, Try.func93, by kernel_rfl, rfl⟩
theorem Z4r : z1e Try.prog 94 := ⟨_, Try.func94, by kernel_rfl, rfl⟩
theorem Z4q : z1e Try.prog 95 := ⟨_, Try.func95, by kernel_rfl, rfl⟩
theorem Z4p : z1e Try.prog 96 := ⟨_, Try.func96, by kernel_rfl, rfl⟩
theorem Z1v : z1e Try.prog 97 := ⟨_, Try.func97, by kernel_rfl, rfl⟩
theorem zvo : z1e Try.prog 98 := ⟨_, Try.func98, by kernel_rfl, rfl⟩
theorem Z2n : z1e Try.prog 101 := ⟨_, Try.func101, by kernel_rfl, rfl⟩
theorem zsq : z1e Try.prog 102 := ⟨_, Try.func102, by kernel_rfl, rfl⟩
theorem zy1 : z1e Try.prog 103 := ⟨_, Try.func103, by kernel_rfl, rfl⟩
theorem zsp : z1e Try.prog 104 := ⟨_, Try.func104, by kernel_rfl, rfl⟩
theorem zy0 : z1e Try.prog 105 := ⟨_, Try.func105, by kernel_rfl, rfl⟩
theorem Z2m : z1e Try.prog 106 := ⟨_, Try.func106, by kernel_rfl, rfl⟩
theorem Z2l : z1e Try.prog 107 := ⟨_, Try.func107, by kernel_rfl, rfl⟩
theorem zxz : z1e Try.prog 108 := ⟨_, Try.func108, by kernel_rfl, rfl⟩
theorem zso : z1e Try.prog 109 := ⟨_, Try.func109, by kernel_rfl, rfl⟩
theorem Z2k : z1e Try.prog 110 := ⟨_, Try.func110, by kernel_rfl, rfl⟩
theorem Z2j : z1e Try.prog 111 := ⟨_, Try.func111, by kernel_rfl, rfl⟩
theorem Z2i : z1e Try.prog 112 := ⟨_, Try.func112, by kernel_rfl, rfl⟩
theorem zxy : z1e Try.prog 113 := ⟨_, Try.func113, by kernel_rfl, rfl⟩
theorem Z2h : z1e Try.prog 114 := ⟨_, Try.func114, by kernel_rfl, rfl⟩
theorem Z2g : z1e Try.prog 115 := ⟨_, Try.func115, by kernel_rfl, rfl⟩
theorem Z2f : z1e Try.prog 116 := ⟨_, Try.func116, by kernel_rfl, rfl⟩
theorem Z2e : z1e Try.prog 117 := ⟨_, Try.func117, by kernel_rfl, rfl⟩
theorem zxx : z1e Try.prog 118 := ⟨_, Try.func118, by kernel_rfl, rfl⟩
theorem zxw : z1e Try.prog 119 := ⟨_, Try.func119, by kernel_rfl, rfl⟩
theorem Z2d : z1e Try.prog 120 := ⟨_, Try.func120, by kernel_rfl, rfl⟩
theorem zxv : z1e Try.prog 121 := ⟨_, Try.func121, by kernel_rfl, rfl⟩
theorem zxu : z1e Try.prog 122 := ⟨_, Try.func122, by kernel_rfl, rfl⟩
theorem zxt : z1e Try.prog 123 := ⟨_, Try.func123, by kernel_rfl, rfl⟩
theorem mo : Try.prog.follows .mixedOrders = true := by kernel_rfl
end Go.Proofs.Ytiapdjdhaclmnaa
