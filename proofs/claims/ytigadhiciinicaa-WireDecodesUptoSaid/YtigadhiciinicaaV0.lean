/- The facts of the program that the walks lean on: zero values, sizes, fields, which function is there. Written by walk.py. -/
import Derived.Test.YtigadhiciinicaaProg
import Derived.KernelRfl
import Derived.Test.YtigadhiciinicaaAwT
namespace Go.Proofs.Ytigadhiciinicaa
open Go Aw
set_option linter.unusedVariables false
theorem inf_2 : Inf Try.prog 2 (.int .i64 0) 1 8 := show (Try.prog.info? 2).map (fun i => (i.zero, i.size, i.bytes)) = _ from by kernel_rfl
theorem inf_3 : Inf Try.prog 3 (.int .i64 0) 1 8 := show (Try.prog.info? 3).map (fun i => (i.zero, i.size, i.bytes)) = _ from by kernel_rfl
theorem inf_4 : Inf Try.prog 4 (.bool false) 1 1 := show (Try.prog.info? 4).map (fun i => (i.zero, i.size, i.bytes)) = _ from by kernel_rfl
theorem inf_5 : Inf Try.prog 5 (.int .u8 0) 1 1 := show (Try.prog.info? 5).map (fun i => (i.zero, i.size, i.bytes)) = _ from by kernel_rfl
theorem inf_9 : Inf Try.prog 9 (.string ⟨#[]⟩) 1 16 := show (Try.prog.info? 9).map (fun i => (i.zero, i.size, i.bytes)) = _ from by kernel_rfl
theorem inf_20 : Inf Try.prog 20 (.nilIface) 1 16 := show (Try.prog.info? 20).map (fun i => (i.zero, i.size, i.bytes)) = _ from by kernel_rfl
theorem inf_22 : Inf Try.prog 22 (.float .f64 0) 1 8 := show (Try.prog.info? 22).map (fun i => (i.zero, i.size, i.bytes)) = _ from by kernel_rfl
theorem inf_23 : Inf Try.prog 23 (.slice none 0 0) 1 24 := show (Try.prog.info? 23).map (fun i => (i.zero, i.size, i.bytes)) = _ from by kernel_rfl
theorem inf_25 : Inf Try.prog 25 (.int .u64 0) 1 8 := show (Try.prog.info? 25).map (fun i => (i.zero, i.size, i.bytes)) = _ from by kernel_rfl
theorem inf_26 : Inf Try.prog 26 (.slice none 0 0) 1 24 := show (Try.prog.info? 26).map (fun i => (i.zero, i.size, i.bytes)) = _ from by kernel_rfl
theorem inf_27 : Inf Try.prog 27 (.slice none 0 0) 1 24 := show (Try.prog.info? 27).map (fun i => (i.zero, i.size, i.bytes)) = _ from by kernel_rfl
theorem inf_29 : Inf Try.prog 29 (.agg #[.int .i64 0, .bool false, .int .i64 0, .float .f64 0, .string ⟨#[]⟩, .slice none 0 0, .int .u64 0, .slice none 0 0, .slice none 0 0, .string ⟨#[]⟩, .int .i64 0]) 11 152 := show (Try.prog.info? 29).map (fun i => (i.zero, i.size, i.bytes)) = _ from by kernel_rfl
theorem inf_31 : Inf Try.prog 31 (.int .i64 0) 1 8 := show (Try.prog.info? 31).map (fun i => (i.zero, i.size, i.bytes)) = _ from by kernel_rfl
theorem inf_61 : Inf Try.prog 61 (.slice none 0 0) 1 24 := show (Try.prog.info? 61).map (fun i => (i.zero, i.size, i.bytes)) = _ from by kernel_rfl
theorem inf_63 : Inf Try.prog 63 (.slice none 0 0) 1 24 := show (Try.prog.info? 63).map (fun i => (i.zero, i.size, i.bytes)) = _ from by kernel_rfl
theorem inf_65 : Inf Try.prog 65 (.pointer none) 1 8 := show (Try.prog.info? 65).map (fun i => (i.zero, i.size, i.bytes)) = _ from by kernel_rfl
theorem inf_67 : Inf Try.prog 67 (.agg #[.string ⟨#[]⟩, .int .i64 0, .slice none 0 0]) 3 48 := show (Try.prog.info? 67).map (fun i => (i.zero, i.size, i.bytes)) = _ from by kernel_rfl
theorem inf_78 : Inf Try.prog 78 (.agg #[.slice none 0 0, .int .i64 0, .int .i64 0, .int .i64 0, .int .i64 0]) 5 56 := show (Try.prog.info? 78).map (fun i => (i.zero, i.size, i.bytes)) = _ from by kernel_rfl
theorem inf_86 : Inf Try.prog 86 (.agg #[.string ⟨#[]⟩, .int .i64 0, .bool false, .int .i64 0, .float .f64 0, .string ⟨#[]⟩, .slice none 0 0, .int .u64 0, .slice none 0 0, .slice none 0 0, .string ⟨#[]⟩, .int .i64 0]) 12 168 := show (Try.prog.info? 86).map (fun i => (i.zero, i.size, i.bytes)) = _ from by kernel_rfl
theorem inf_88 : Inf Try.prog 88 (.agg #[.string ⟨#[]⟩, .nilIface]) 2 32 := show (Try.prog.info? 88).map (fun i => (i.zero, i.size, i.bytes)) = _ from by kernel_rfl
theorem inf_110 : Inf Try.prog 110 (.agg #[.slice none 0 0, .int .i64 0, .int .i64 0, .bool false]) 4 48 := show (Try.prog.info? 110).map (fun i => (i.zero, i.size, i.bytes)) = _ from by kernel_rfl
theorem inf_112 : Inf Try.prog 112 (.agg #[.int .i64 0, .int .i64 0]) 2 16 := show (Try.prog.info? 112).map (fun i => (i.zero, i.size, i.bytes)) = _ from by kernel_rfl
theorem inf_121 : Inf Try.prog 121 (.agg #[.int .i64 0, .int .i64 0, .int .i64 0]) 3 24 := show (Try.prog.info? 121).map (fun i => (i.zero, i.size, i.bytes)) = _ from by kernel_rfl
theorem st_29 : IsStruct Try.prog 29 #[{ name := "Kind", type := 3, offset := 0, embedded := false, tag := "", pkgPath := "", byteOffset := 0 }, { name := "Bool", type := 4, offset := 1, embedded := false, tag := "", pkgPath := "", byteOffset := 8 }, { name := "Int", type := 2, offset := 2, embedded := false, tag := "", pkgPath := "", byteOffset := 16 }, { name := "Float", type := 22, offset := 3, embedded := false, tag := "", pkgPath := "", byteOffset := 24 }, { name := "Text", type := 9, offset := 4, embedded := false, tag := "", pkgPath := "", byteOffset := 32 }, { name := "Bytes", type := 23, offset := 5, embedded := false, tag := "", pkgPath := "", byteOffset := 48 }, { name := "Ref", type := 25, offset := 6, embedded := false, tag := "", pkgPath := "", byteOffset := 72 }, { name := "List", type := 26, offset := 7, embedded := false, tag := "", pkgPath := "", byteOffset := 80 }, { name := "Fields", type := 27, offset := 8, embedded := false, tag := "", pkgPath := "", byteOffset := 104 }, { name := "Class", type := 9, offset := 9, embedded := false, tag := "", pkgPath := "", byteOffset := 128 }, { name := "Version", type := 3, offset := 10, embedded := false, tag := "", pkgPath := "", byteOffset := 144 }] [(0, 1), (1, 1), (2, 1), (3, 1), (4, 1), (5, 1), (6, 1), (7, 1), (8, 1), (9, 1), (10, 1)] := ⟨Try.underlying29, by kernel_rfl, by kernel_rfl⟩
theorem st_67 : IsStruct Try.prog 67 #[{ name := "Class", type := 9, offset := 0, embedded := false, tag := "", pkgPath := "", byteOffset := 0 }, { name := "Version", type := 3, offset := 1, embedded := false, tag := "", pkgPath := "", byteOffset := 16 }, { name := "Fields", type := 63, offset := 2, embedded := false, tag := "", pkgPath := "", byteOffset := 24 }] [(0, 1), (1, 1), (2, 1)] := ⟨Try.underlying67, by kernel_rfl, by kernel_rfl⟩
theorem st_78 : IsStruct Try.prog 78 #[{ name := "b", type := 23, offset := 0, embedded := false, tag := "", pkgPath := "tenon/tenonref03", byteOffset := 0 }, { name := "at", type := 3, offset := 1, embedded := false, tag := "", pkgPath := "tenon/tenonref03", byteOffset := 24 }, { name := "n", type := 3, offset := 2, embedded := false, tag := "", pkgPath := "tenon/tenonref03", byteOffset := 32 }, { name := "place", type := 3, offset := 3, embedded := false, tag := "", pkgPath := "tenon/tenonref03", byteOffset := 40 }, { name := "why", type := 31, offset := 4, embedded := false, tag := "", pkgPath := "tenon/tenonref03", byteOffset := 48 }] [(0, 1), (1, 1), (2, 1), (3, 1), (4, 1)] := ⟨Try.underlying78, by kernel_rfl, by kernel_rfl⟩
theorem st_86 : IsStruct Try.prog 86 #[{ name := "Name", type := 9, offset := 0, embedded := false, tag := "", pkgPath := "", byteOffset := 0 }, { name := "Value", type := 29, offset := 1, embedded := false, tag := "", pkgPath := "", byteOffset := 16 }] [(0, 1), (1, 11)] := ⟨Try.underlying86, by kernel_rfl, by kernel_rfl⟩
theorem st_88 : IsStruct Try.prog 88 #[{ name := "Name", type := 9, offset := 0, embedded := false, tag := "", pkgPath := "", byteOffset := 0 }, { name := "Value", type := 20, offset := 1, embedded := false, tag := "", pkgPath := "", byteOffset := 16 }] [(0, 1), (1, 1)] := ⟨Try.underlying88, by kernel_rfl, by kernel_rfl⟩
theorem st_110 : IsStruct Try.prog 110 #[{ name := "b", type := 23, offset := 0, embedded := false, tag := "", pkgPath := "tenon/wire", byteOffset := 0 }, { name := "at", type := 3, offset := 1, embedded := false, tag := "", pkgPath := "tenon/wire", byteOffset := 24 }, { name := "n", type := 3, offset := 2, embedded := false, tag := "", pkgPath := "tenon/wire", byteOffset := 32 }, { name := "making", type := 4, offset := 3, embedded := false, tag := "", pkgPath := "tenon/wire", byteOffset := 40 }] [(0, 1), (1, 1), (2, 1), (3, 1)] := ⟨Try.underlying110, by kernel_rfl, by kernel_rfl⟩
theorem st_112 : IsStruct Try.prog 112 #[{ name := "at", type := 3, offset := 0, embedded := false, tag := "", pkgPath := "tenon/wire", byteOffset := 0 }, { name := "why", type := 31, offset := 1, embedded := false, tag := "", pkgPath := "tenon/wire", byteOffset := 8 }] [(0, 1), (1, 1)] := ⟨Try.underlying112, by kernel_rfl, by kernel_rfl⟩
theorem st_121 : IsStruct Try.prog 121 #[{ name := "n", type := 3, offset := 0, embedded := false, tag := "", pkgPath := "tenon/value", byteOffset := 0 }, { name := "deep", type := 3, offset := 1, embedded := false, tag := "", pkgPath := "tenon/value", byteOffset := 8 }, { name := "why", type := 31, offset := 2, embedded := false, tag := "", pkgPath := "tenon/value", byteOffset := 16 }] [(0, 1), (1, 1), (2, 1)] := ⟨Try.underlying121, by kernel_rfl, by kernel_rfl⟩
theorem en_14 : Enters Try.prog 14 := ⟨_, Try.func14, by kernel_rfl, rfl⟩
theorem en_15 : Enters Try.prog 15 := ⟨_, Try.func15, by kernel_rfl, rfl⟩
theorem en_16 : Enters Try.prog 16 := ⟨_, Try.func16, by kernel_rfl, rfl⟩
theorem en_17 : Enters Try.prog 17 := ⟨_, Try.func17, by kernel_rfl, rfl⟩
theorem en_18 : Enters Try.prog 18 := ⟨_, Try.func18, by kernel_rfl, rfl⟩
theorem en_19 : Enters Try.prog 19 := ⟨_, Try.func19, by kernel_rfl, rfl⟩
theorem en_20 : Enters Try.prog 20 := ⟨_, Try.func20, by kernel_rfl, rfl⟩
theorem en_21 : Enters Try.prog 21 := ⟨_, Try.func21, by kernel_rfl, rfl⟩
theorem en_22 : Enters Try.prog 22 := ⟨_, Try.func22, by kernel_rfl, rfl⟩
theorem en_23 : Enters Try.prog 23 := ⟨_, Try.func23, by kernel_rfl, rfl⟩
theorem en_29 : Enters Try.prog 29 := ⟨_, Try.func29, by kernel_rfl, rfl⟩
theorem en_33 : Enters Try.prog 33 := ⟨_, Try.func33, by kernel_rfl, rfl⟩
theorem en_34 : Enters Try.prog 34 := ⟨_, Try.func34, by kernel_rfl, rfl⟩
theorem en_35 : Enters Try.prog 35 := ⟨_, Try.func35, by kernel_rfl, rfl⟩
theorem en_36 : Enters Try.prog 36 := ⟨_, Try.func36, by kernel_rfl, rfl⟩
theorem en_37 : Enters Try.prog 37 := ⟨_, Try.func37, by kernel_rfl, rfl⟩
theorem en_38 : Enters Try.prog 38 := ⟨_, Try.func38, by kernel_rfl, rfl⟩
theorem en_41 : Enters Try.prog 41 := ⟨_, Try.func41, by kernel_rfl, rfl⟩
theorem en_50 : Enters Try.prog 50 := ⟨_, Try.func50, by kernel_rfl, rfl⟩
theorem en_51 : Enters Try.prog 51 := ⟨_, Try.func51, by kernel_rfl, rfl⟩
theorem en_52 : Enters Try.prog 52 := ⟨_, Try.func52, by kernel_rfl, rfl⟩
theorem en_53 : Enters Try.prog 53 := ⟨_, Try.func53, by kernel_rfl, rfl⟩
theorem en_54 : Enters Try.prog 54 := ⟨_, Try.func54, by kernel_rfl, rfl⟩
theorem en_55 : Enters Try.prog 55 := ⟨_, Try.func55, by kernel_rfl, rfl⟩
theorem en_58 : Enters Try.prog 58 := ⟨_, Try.func58, by kernel_rfl, rfl⟩
theorem en_59 : Enters Try.prog 59 := ⟨_, Try.func59, by kernel_rfl, rfl⟩
theorem en_60 : Enters Try.prog 60 := ⟨_, Try.func60, by kernel_rfl, rfl⟩
theorem en_61 : Enters Try.prog 61 := ⟨_, Try.func61, by kernel_rfl, rfl⟩
theorem en_62 : Enters Try.prog 62 := ⟨_, Try.func62, by kernel_rfl, rfl⟩
theorem en_63 : Enters Try.prog 63 := ⟨_, Try.func63, by kernel_rfl, rfl⟩
theorem en_65 : Enters Try.prog 65 := ⟨_, Try.func65, by kernel_rfl, rfl⟩
theorem en_66 : Enters Try.prog 66 := ⟨_, Try.func66, by kernel_rfl, rfl⟩
theorem en_67 : Enters Try.prog 67 := ⟨_, Try.func67, by kernel_rfl, rfl⟩
theorem en_68 : Enters Try.prog 68 := ⟨_, Try.func68, by kernel_rfl, rfl⟩
theorem en_69 : Enters Try.prog 69 := ⟨_, Try.func69, by kernel_rfl, rfl⟩
theorem en_70 : Enters Try.prog 70 := ⟨_, Try.func70, by kernel_rfl, rfl⟩
theorem en_71 : Enters Try.prog 71 := ⟨_, Try.func71, by kernel_rfl, rfl⟩
theorem en_72 : Enters Try.prog 72 := ⟨_, Try.func72, by kernel_rfl, rfl⟩
theorem en_73 : Enters Try.prog 73 := ⟨_, Try.func73, by kernel_rfl, rfl⟩
theorem en_74 : Enters Try.prog 74 := ⟨_, Try.func74, by kernel_rfl, rfl⟩
theorem en_75 : Enters Try.prog 75 := ⟨_, Try.func75, by kernel_rfl, rfl⟩
theorem en_76 : Enters Try.prog 76 := ⟨_, Try.func76, by kernel_rfl, rfl⟩
theorem en_77 : Enters Try.prog 77 := ⟨_, Try.func77, by kernel_rfl, rfl⟩
theorem en_78 : Enters Try.prog 78 := ⟨_, Try.func78, by kernel_rfl, rfl⟩
theorem en_79 : Enters Try.prog 79 := ⟨_, Try.func79, by kernel_rfl, rfl⟩
theorem mo : Try.prog.follows .mixedOrders = true := by kernel_rfl
end Go.Proofs.Ytigadhiciinicaa
