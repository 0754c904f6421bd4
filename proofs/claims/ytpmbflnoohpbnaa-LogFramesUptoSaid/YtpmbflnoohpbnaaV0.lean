/- The facts of the program that the walks lean on: zero values, sizes, fields, which function is there. Written by walk.py. -/
import Derived.Test.YtpmbflnoohpbnaaProg
import Derived.KernelRfl
import Derived.Test.YtpmbflnoohpbnaaAwT
namespace Go.Proofs.Ytpmbflnoohpbnaa
open Go Aw
set_option linter.unusedVariables false
theorem inf_2 : Inf Try.prog 2 (.int .i64 0) 1 8 := show (Try.prog.info? 2).map (fun i => (i.zero, i.size, i.bytes)) = _ from by kernel_rfl
theorem inf_3 : Inf Try.prog 3 (.int .i64 0) 1 8 := show (Try.prog.info? 3).map (fun i => (i.zero, i.size, i.bytes)) = _ from by kernel_rfl
theorem inf_4 : Inf Try.prog 4 (.bool false) 1 1 := show (Try.prog.info? 4).map (fun i => (i.zero, i.size, i.bytes)) = _ from by kernel_rfl
theorem inf_5 : Inf Try.prog 5 (.int .u8 0) 1 1 := show (Try.prog.info? 5).map (fun i => (i.zero, i.size, i.bytes)) = _ from by kernel_rfl
theorem inf_9 : Inf Try.prog 9 (.string ⟨#[]⟩) 1 16 := show (Try.prog.info? 9).map (fun i => (i.zero, i.size, i.bytes)) = _ from by kernel_rfl
theorem inf_20 : Inf Try.prog 20 (.nilIface) 1 16 := show (Try.prog.info? 20).map (fun i => (i.zero, i.size, i.bytes)) = _ from by kernel_rfl
theorem inf_22 : Inf Try.prog 22 (.slice none 0 0) 1 24 := show (Try.prog.info? 22).map (fun i => (i.zero, i.size, i.bytes)) = _ from by kernel_rfl
theorem inf_23 : Inf Try.prog 23 (.slice none 0 0) 1 24 := show (Try.prog.info? 23).map (fun i => (i.zero, i.size, i.bytes)) = _ from by kernel_rfl
theorem inf_26 : Inf Try.prog 26 (.int .i64 0) 1 8 := show (Try.prog.info? 26).map (fun i => (i.zero, i.size, i.bytes)) = _ from by kernel_rfl
theorem inf_33 : Inf Try.prog 33 (.agg #[.int .i64 0, .slice none 0 0]) 2 32 := show (Try.prog.info? 33).map (fun i => (i.zero, i.size, i.bytes)) = _ from by kernel_rfl
theorem inf_41 : Inf Try.prog 41 (.pointer none) 1 8 := show (Try.prog.info? 41).map (fun i => (i.zero, i.size, i.bytes)) = _ from by kernel_rfl
theorem inf_42 : Inf Try.prog 42 (.slice none 0 0) 1 24 := show (Try.prog.info? 42).map (fun i => (i.zero, i.size, i.bytes)) = _ from by kernel_rfl
theorem inf_43 : Inf Try.prog 43 (.slice none 0 0) 1 24 := show (Try.prog.info? 43).map (fun i => (i.zero, i.size, i.bytes)) = _ from by kernel_rfl
theorem inf_45 : Inf Try.prog 45 (.agg #[.slice none 0 0, .slice none 0 0, .int .i64 0, .slice none 0 0]) 4 80 := show (Try.prog.info? 45).map (fun i => (i.zero, i.size, i.bytes)) = _ from by kernel_rfl
theorem inf_46 : Inf Try.prog 46 (.pointer none) 1 8 := show (Try.prog.info? 46).map (fun i => (i.zero, i.size, i.bytes)) = _ from by kernel_rfl
theorem inf_51 : Inf Try.prog 51 (.agg #[.pointer none, .int .i64 0]) 2 16 := show (Try.prog.info? 51).map (fun i => (i.zero, i.size, i.bytes)) = _ from by kernel_rfl
theorem inf_67 : Inf Try.prog 67 (.agg #[.int .i64 0, .int .i64 0, .slice none 0 0, .int .i64 0]) 4 48 := show (Try.prog.info? 67).map (fun i => (i.zero, i.size, i.bytes)) = _ from by kernel_rfl
theorem inf_72 : Inf Try.prog 72 (.agg #[.string ⟨#[]⟩, .int .i64 0, .bool false]) 3 32 := show (Try.prog.info? 72).map (fun i => (i.zero, i.size, i.bytes)) = _ from by kernel_rfl
theorem inf_82 : Inf Try.prog 82 (.nilIface) 1 16 := show (Try.prog.info? 82).map (fun i => (i.zero, i.size, i.bytes)) = _ from by kernel_rfl
theorem inf_87 : Inf Try.prog 87 (.agg #[.nilIface, .string ⟨#[]⟩, .int .i64 0, .bool false]) 4 48 := show (Try.prog.info? 87).map (fun i => (i.zero, i.size, i.bytes)) = _ from by kernel_rfl
theorem inf_92 : Inf Try.prog 92 (.agg #[.string ⟨#[]⟩, .slice none 0 0]) 2 40 := show (Try.prog.info? 92).map (fun i => (i.zero, i.size, i.bytes)) = _ from by kernel_rfl
theorem inf_98 : Inf Try.prog 98 (.agg #[.int .i64 0, .string ⟨#[]⟩, .int .i64 0, .int .i64 0]) 4 40 := show (Try.prog.info? 98).map (fun i => (i.zero, i.size, i.bytes)) = _ from by kernel_rfl
theorem inf_103 : Inf Try.prog 103 (.agg #[.string ⟨#[]⟩, .nilIface]) 2 32 := show (Try.prog.info? 103).map (fun i => (i.zero, i.size, i.bytes)) = _ from by kernel_rfl
theorem inf_105 : Inf Try.prog 105 (.slice none 0 0) 1 24 := show (Try.prog.info? 105).map (fun i => (i.zero, i.size, i.bytes)) = _ from by kernel_rfl
theorem inf_110 : Inf Try.prog 110 (.agg #[.int .i64 0, .int .i64 0, .int .i64 0]) 3 24 := show (Try.prog.info? 110).map (fun i => (i.zero, i.size, i.bytes)) = _ from by kernel_rfl
theorem inf_115 : Inf Try.prog 115 (.slice none 0 0) 1 24 := show (Try.prog.info? 115).map (fun i => (i.zero, i.size, i.bytes)) = _ from by kernel_rfl
theorem inf_117 : Inf Try.prog 117 (.pointer none) 1 8 := show (Try.prog.info? 117).map (fun i => (i.zero, i.size, i.bytes)) = _ from by kernel_rfl
theorem inf_122 : Inf Try.prog 122 (.float .f64 0) 1 8 := show (Try.prog.info? 122).map (fun i => (i.zero, i.size, i.bytes)) = _ from by kernel_rfl
theorem inf_123 : Inf Try.prog 123 (.int .u64 0) 1 8 := show (Try.prog.info? 123).map (fun i => (i.zero, i.size, i.bytes)) = _ from by kernel_rfl
theorem inf_147 : Inf Try.prog 147 (.agg #[.string ⟨#[]⟩]) 1 16 := show (Try.prog.info? 147).map (fun i => (i.zero, i.size, i.bytes)) = _ from by kernel_rfl
theorem st_33 : IsStruct Try.prog 33 #[{ name := "Kind", type := 3, offset := 0, embedded := false, tag := "", pkgPath := "", byteOffset := 0 }, { name := "Body", type := 23, offset := 1, embedded := false, tag := "", pkgPath := "", byteOffset := 8 }] [(0, 1), (1, 1)] := ⟨Try.underlying33, by kernel_rfl, by kernel_rfl⟩
theorem st_45 : IsStruct Try.prog 45 #[{ name := "Files", type := 42, offset := 0, embedded := false, tag := "", pkgPath := "", byteOffset := 0 }, { name := "Fast", type := 42, offset := 1, embedded := false, tag := "", pkgPath := "", byteOffset := 24 }, { name := "Fails", type := 3, offset := 2, embedded := false, tag := "", pkgPath := "", byteOffset := 48 }, { name := "Calls", type := 43, offset := 3, embedded := false, tag := "", pkgPath := "", byteOffset := 56 }] [(0, 1), (1, 1), (2, 1), (3, 1)] := ⟨Try.underlying45, by kernel_rfl, by kernel_rfl⟩
theorem st_51 : IsStruct Try.prog 51 #[{ name := "D", type := 41, offset := 0, embedded := false, tag := "", pkgPath := "", byteOffset := 0 }, { name := "With", type := 3, offset := 1, embedded := false, tag := "", pkgPath := "", byteOffset := 8 }] [(0, 1), (1, 1)] := ⟨Try.underlying51, by kernel_rfl, by kernel_rfl⟩
theorem st_59 : IsStruct Try.prog 59 #[{ name := "Name", type := 9, offset := 0, embedded := false, tag := "", pkgPath := "", byteOffset := 0 }, { name := "With", type := 3, offset := 1, embedded := false, tag := "", pkgPath := "", byteOffset := 16 }] [(0, 1), (1, 1)] := ⟨Try.underlying59, by kernel_rfl, by kernel_rfl⟩
theorem st_67 : IsStruct Try.prog 67 #[{ name := "Kind", type := 3, offset := 0, embedded := false, tag := "", pkgPath := "", byteOffset := 0 }, { name := "N", type := 3, offset := 1, embedded := false, tag := "", pkgPath := "", byteOffset := 8 }, { name := "L", type := 22, offset := 2, embedded := false, tag := "", pkgPath := "", byteOffset := 16 }, { name := "Fails", type := 3, offset := 3, embedded := false, tag := "", pkgPath := "", byteOffset := 40 }] [(0, 1), (1, 1), (2, 1), (3, 1)] := ⟨Try.underlying67, by kernel_rfl, by kernel_rfl⟩
theorem st_72 : IsStruct Try.prog 72 #[{ name := "name", type := 9, offset := 0, embedded := false, tag := "", pkgPath := "tenon/tenonlaw19", byteOffset := 0 }, { name := "size", type := 3, offset := 1, embedded := false, tag := "", pkgPath := "tenon/tenonlaw19", byteOffset := 16 }, { name := "failed", type := 4, offset := 2, embedded := false, tag := "", pkgPath := "tenon/tenonlaw19", byteOffset := 24 }] [(0, 1), (1, 1), (2, 1)] := ⟨Try.underlying72, by kernel_rfl, by kernel_rfl⟩
theorem st_87 : IsStruct Try.prog 87 #[{ name := "d", type := 82, offset := 0, embedded := false, tag := "", pkgPath := "tenon/log", byteOffset := 0 }, { name := "name", type := 9, offset := 1, embedded := false, tag := "", pkgPath := "tenon/log", byteOffset := 16 }, { name := "size", type := 3, offset := 2, embedded := false, tag := "", pkgPath := "tenon/log", byteOffset := 32 }, { name := "failed", type := 4, offset := 3, embedded := false, tag := "", pkgPath := "tenon/log", byteOffset := 40 }] [(0, 1), (1, 1), (2, 1), (3, 1)] := ⟨Try.underlying87, by kernel_rfl, by kernel_rfl⟩
theorem st_92 : IsStruct Try.prog 92 #[{ name := "Name", type := 9, offset := 0, embedded := false, tag := "", pkgPath := "", byteOffset := 0 }, { name := "B", type := 23, offset := 1, embedded := false, tag := "", pkgPath := "", byteOffset := 16 }] [(0, 1), (1, 1)] := ⟨Try.underlying92, by kernel_rfl, by kernel_rfl⟩
theorem st_98 : IsStruct Try.prog 98 #[{ name := "Method", type := 3, offset := 0, embedded := false, tag := "", pkgPath := "", byteOffset := 0 }, { name := "Name", type := 9, offset := 1, embedded := false, tag := "", pkgPath := "", byteOffset := 8 }, { name := "At", type := 3, offset := 2, embedded := false, tag := "", pkgPath := "", byteOffset := 24 }, { name := "N", type := 3, offset := 3, embedded := false, tag := "", pkgPath := "", byteOffset := 32 }] [(0, 1), (1, 1), (2, 1), (3, 1)] := ⟨Try.underlying98, by kernel_rfl, by kernel_rfl⟩
theorem st_103 : IsStruct Try.prog 103 #[{ name := "Name", type := 9, offset := 0, embedded := false, tag := "", pkgPath := "", byteOffset := 0 }, { name := "Value", type := 20, offset := 1, embedded := false, tag := "", pkgPath := "", byteOffset := 16 }] [(0, 1), (1, 1)] := ⟨Try.underlying103, by kernel_rfl, by kernel_rfl⟩
theorem st_110 : IsStruct Try.prog 110 #[{ name := "n", type := 3, offset := 0, embedded := false, tag := "", pkgPath := "tenon/value", byteOffset := 0 }, { name := "deep", type := 3, offset := 1, embedded := false, tag := "", pkgPath := "tenon/value", byteOffset := 8 }, { name := "why", type := 26, offset := 2, embedded := false, tag := "", pkgPath := "tenon/value", byteOffset := 16 }] [(0, 1), (1, 1), (2, 1)] := ⟨Try.underlying110, by kernel_rfl, by kernel_rfl⟩
theorem st_119 : IsStruct Try.prog 119 #[{ name := "Class", type := 9, offset := 0, embedded := false, tag := "", pkgPath := "", byteOffset := 0 }, { name := "Version", type := 3, offset := 1, embedded := false, tag := "", pkgPath := "", byteOffset := 16 }, { name := "Fields", type := 105, offset := 2, embedded := false, tag := "", pkgPath := "", byteOffset := 24 }] [(0, 1), (1, 1), (2, 1)] := ⟨Try.underlying119, by kernel_rfl, by kernel_rfl⟩
theorem st_147 : IsStruct Try.prog 147 #[{ name := "s", type := 9, offset := 0, embedded := false, tag := "", pkgPath := "errors", byteOffset := 0 }] [(0, 1)] := ⟨Try.underlying147, by kernel_rfl, by kernel_rfl⟩
theorem en_3 : Enters Try.prog 3 := ⟨_, Try.func3, by kernel_rfl, rfl⟩
theorem en_4 : Enters Try.prog 4 := ⟨_, Try.func4, by kernel_rfl, rfl⟩
theorem en_5 : Enters Try.prog 5 := ⟨_, Try.func5, by kernel_rfl, rfl⟩
theorem en_6 : Enters Try.prog 6 := ⟨_, Try.func6, by kernel_rfl, rfl⟩
theorem en_7 : Enters Try.prog 7 := ⟨_, Try.func7, by kernel_rfl, rfl⟩
theorem en_8 : Enters Try.prog 8 := ⟨_, Try.func8, by kernel_rfl, rfl⟩
theorem en_9 : Enters Try.prog 9 := ⟨_, Try.func9, by kernel_rfl, rfl⟩
theorem en_10 : Enters Try.prog 10 := ⟨_, Try.func10, by kernel_rfl, rfl⟩
theorem en_11 : Enters Try.prog 11 := ⟨_, Try.func11, by kernel_rfl, rfl⟩
theorem en_12 : Enters Try.prog 12 := ⟨_, Try.func12, by kernel_rfl, rfl⟩
theorem en_13 : Enters Try.prog 13 := ⟨_, Try.func13, by kernel_rfl, rfl⟩
theorem en_14 : Enters Try.prog 14 := ⟨_, Try.func14, by kernel_rfl, rfl⟩
theorem en_15 : Enters Try.prog 15 := ⟨_, Try.func15, by kernel_rfl, rfl⟩
theorem en_16 : Enters Try.prog 16 := ⟨_, Try.func16, by kernel_rfl, rfl⟩
theorem en_17 : Enters Try.prog 17 := ⟨_, Try.func17, by kernel_rfl, rfl⟩
theorem en_18 : Enters Try.prog 18 := ⟨_, Try.func18, by kernel_rfl, rfl⟩
theorem en_19 : Enters Try.prog 19 := ⟨_, Try.func19, by kernel_rfl, rfl⟩
theorem en_20 : Enters Try.prog 20 := ⟨_, Try.func20, by kernel_rfl, rfl⟩
theorem en_21 : Enters Try.prog 21 := ⟨_, Try.func21, by kernel_rfl, rfl⟩
theorem en_22 : Enters Try.prog 22 := ⟨_, Try.func22, by kernel_rfl, rfl⟩
theorem en_23 : Enters Try.prog 23 := ⟨_, Try.func23, by kernel_rfl, rfl⟩
theorem en_24 : Enters Try.prog 24 := ⟨_, Try.func24, by kernel_rfl, rfl⟩
theorem en_25 : Enters Try.prog 25 := ⟨_, Try.func25, by kernel_rfl, rfl⟩
theorem en_26 : Enters Try.prog 26 := ⟨_, Try.func26, by kernel_rfl, rfl⟩
theorem en_27 : Enters Try.prog 27 := ⟨_, Try.func27, by kernel_rfl, rfl⟩
theorem en_28 : Enters Try.prog 28 := ⟨_, Try.func28, by kernel_rfl, rfl⟩
theorem en_29 : Enters Try.prog 29 := ⟨_, Try.func29, by kernel_rfl, rfl⟩
theorem en_30 : Enters Try.prog 30 := ⟨_, Try.func30, by kernel_rfl, rfl⟩
theorem en_31 : Enters Try.prog 31 := ⟨_, Try.func31, by kernel_rfl, rfl⟩
theorem en_32 : Enters Try.prog 32 := ⟨_, Try.func32, by kernel_rfl, rfl⟩
theorem en_33 : Enters Try.prog 33 := ⟨_, Try.func33, by kernel_rfl, rfl⟩
theorem en_34 : Enters Try.prog 34 := ⟨_, Try.func34, by kernel_rfl, rfl⟩
theorem en_35 : Enters Try.prog 35 := ⟨_, Try.func35, by kernel_rfl, rfl⟩
theorem en_36 : Enters Try.prog 36 := ⟨_, Try.func36, by kernel_rfl, rfl⟩
theorem en_37 : Enters Try.prog 37 := ⟨_, Try.func37, by kernel_rfl, rfl⟩
theorem en_38 : Enters Try.prog 38 := ⟨_, Try.func38, by kernel_rfl, rfl⟩
theorem en_39 : Enters Try.prog 39 := ⟨_, Try.func39, by kernel_rfl, rfl⟩
theorem en_40 : Enters Try.prog 40 := ⟨_, Try.func40, by kernel_rfl, rfl⟩
theorem en_41 : Enters Try.prog 41 := ⟨_, Try.func41, by kernel_rfl, rfl⟩
theorem en_42 : Enters Try.prog 42 := ⟨_, Try.func42, by kernel_rfl, rfl⟩
theorem en_43 : Enters Try.prog 43 := ⟨_, Try.func43, by kernel_rfl, rfl⟩
theorem en_44 : Enters Try.prog 44 := ⟨_, Try.func44, by kernel_rfl, rfl⟩
theorem en_45 : Enters Try.prog 45 := ⟨_, Try.func45, by kernel_rfl, rfl⟩
theorem en_46 : Enters Try.prog 46 := ⟨_, Try.func46, by kernel_rfl, rfl⟩
theorem en_47 : Enters Try.prog 47 := ⟨_, Try.func47, by kernel_rfl, rfl⟩
theorem en_48 : Enters Try.prog 48 := ⟨_, Try.func48, by kernel_rfl, rfl⟩
theorem en_49 : Enters Try.prog 49 := ⟨_, Try.func49, by kernel_rfl, rfl⟩
theorem en_50 : Enters Try.prog 50 := ⟨_, Try.func50, by kernel_rfl, rfl⟩
theorem en_51 : Enters Try.prog 51 := ⟨_, Try.func51, by kernel_rfl, rfl⟩
theorem en_52 : Enters Try.prog 52 := ⟨_, Try.func52, by kernel_rfl, rfl⟩
theorem en_53 : Enters Try.prog 53 := ⟨_, Try.func53, by kernel_rfl, rfl⟩
theorem en_54 : Enters Try.prog 54 := ⟨_, Try.func54, by kernel_rfl, rfl⟩
theorem en_55 : Enters Try.prog 55 := ⟨_, Try.func55, by kernel_rfl, rfl⟩
theorem en_56 : Enters Try.prog 56 := ⟨_, Try.func56, by kernel_rfl, rfl⟩
theorem en_57 : Enters Try.prog 57 := ⟨_, Try.func57, by kernel_rfl, rfl⟩
theorem en_58 : Enters Try.prog 58 := ⟨_, Try.func58, by kernel_rfl, rfl⟩
theorem en_59 : Enters Try.prog 59 := ⟨_, Try.func59, by kernel_rfl, rfl⟩
theorem en_60 : Enters Try.prog 60 := ⟨_, Try.func60, by kernel_rfl, rfl⟩
theorem en_61 : Enters Try.prog 61 := ⟨_, Try.func61, by kernel_rfl, rfl⟩
theorem en_62 : Enters Try.prog 62 := ⟨_, Try.func62, by kernel_rfl, rfl⟩
theorem en_63 : Enters Try.prog 63 := ⟨_, Try.func63, by kernel_rfl, rfl⟩
theorem en_64 : Enters Try.prog 64 := ⟨_, Try.func64, by kernel_rfl, rfl⟩
theorem en_65 : Enters Try.prog 65 := ⟨_, Try.func65, by kernel_rfl, rfl⟩
theorem en_83 : Enters Try.prog 83 := ⟨_, Try.func83, by kernel_rfl, rfl⟩
theorem en_85 : Enters Try.prog 85 := ⟨_, Try.func85, by kernel_rfl, rfl⟩
theorem en_86 : Enters Try.prog 86 := ⟨_, Try.func86, by kernel_rfl, rfl⟩
theorem en_87 : Enters Try.prog 87 := ⟨_, Try.func87, by kernel_rfl, rfl⟩
theorem en_88 : Enters Try.prog 88 := ⟨_, Try.func88, by kernel_rfl, rfl⟩
theorem en_89 : Enters Try.prog 89 := ⟨_, Try.func89, by kernel_rfl, rfl⟩
theorem en_90 : Enters Try.prog 90 := ⟨_, Try.func90, by kernel_rfl, rfl⟩
theorem en_91 : Enters Try.prog 91 := ⟨_, Try.func91, by kernel_rfl, rfl⟩
theorem mo : Try.prog.follows .mixedOrders = true := by kernel_rfl
end Go.Proofs.Ytpmbflnoohpbnaa
