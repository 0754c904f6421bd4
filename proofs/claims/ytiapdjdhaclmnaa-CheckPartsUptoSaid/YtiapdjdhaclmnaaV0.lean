/- The facts of the program that the walks lean on: zero values, sizes, fields, which function is there. Written by walk.py. -/
import Derived.Test.YtiapdjdhaclmnaaProg
import Derived.KernelRfl
import Derived.Test.YtiapdjdhaclmnaaAwT
namespace Go.Proofs.Ytiapdjdhaclmnaa
open Go Aw
set_option linter.unusedVariables false
theorem inf_2 : Inf Try.prog 2 (.int .i64 0) 1 8 := show (Try.prog.info? 2).map (fun i => (i.zero, i.size, i.bytes)) = _ from by kernel_rfl
theorem inf_3 : Inf Try.prog 3 (.int .i64 0) 1 8 := show (Try.prog.info? 3).map (fun i => (i.zero, i.size, i.bytes)) = _ from by kernel_rfl
theorem inf_4 : Inf Try.prog 4 (.bool false) 1 1 := show (Try.prog.info? 4).map (fun i => (i.zero, i.size, i.bytes)) = _ from by kernel_rfl
theorem inf_5 : Inf Try.prog 5 (.int .u8 0) 1 1 := show (Try.prog.info? 5).map (fun i => (i.zero, i.size, i.bytes)) = _ from by kernel_rfl
theorem inf_9 : Inf Try.prog 9 (.string ⟨#[]⟩) 1 16 := show (Try.prog.info? 9).map (fun i => (i.zero, i.size, i.bytes)) = _ from by kernel_rfl
theorem inf_20 : Inf Try.prog 20 (.nilIface) 1 16 := show (Try.prog.info? 20).map (fun i => (i.zero, i.size, i.bytes)) = _ from by kernel_rfl
theorem inf_22 : Inf Try.prog 22 (.float .f64 0) 1 8 := show (Try.prog.info? 22).map (fun i => (i.zero, i.size, i.bytes)) = _ from by kernel_rfl
theorem inf_23 : Inf Try.prog 23 (.slice none 0 0) 1 24 := show (Try.prog.info? 23).map (fun i => (i.zero, i.size, i.bytes)) = _ from by kernel_rfl
theorem inf_25 : Inf Try.prog 25 (.int .u64 0) 1 8 := show (Try.prog.info? 25).map (fun i => (i.zero, i.size, i.bytes)) = _ from by kernel_rfl
theorem inf_26 : Inf Try.prog 26 (.slice none 0 0) 1 24 := show (Try.prog.info? 26).map (fun i => (i.zero, i.size, i.bytes)) = _ from by kernel_rfl
theorem inf_27 : Inf Try.prog 27 (.slice none 0 0) 1 24 := show (Try.prog.info? 27).map (fun i => (i.zero, i.size, i.bytes)) = _ from by kernel_rfl
theorem inf_29 : Inf Try.prog 29 (.agg #[.int .i64 0, .bool false, .int .i64 0, .float .f64 0, .string ⟨#[]⟩, .slice none 0 0, .int .u64 0, .slice none 0 0, .slice none 0 0, .string ⟨#[]⟩, .int .i64 0]) 11 152 := show (Try.prog.info? 29).map (fun i => (i.zero, i.size, i.bytes)) = _ from by kernel_rfl
theorem inf_30 : Inf Try.prog 30 (.slice none 0 0) 1 24 := show (Try.prog.info? 30).map (fun i => (i.zero, i.size, i.bytes)) = _ from by kernel_rfl
theorem inf_31 : Inf Try.prog 31 (.slice none 0 0) 1 24 := show (Try.prog.info? 31).map (fun i => (i.zero, i.size, i.bytes)) = _ from by kernel_rfl
theorem inf_32 : Inf Try.prog 32 (.slice none 0 0) 1 24 := show (Try.prog.info? 32).map (fun i => (i.zero, i.size, i.bytes)) = _ from by kernel_rfl
theorem inf_34 : Inf Try.prog 34 (.agg #[.int .i64 0, .int .i64 0, .int .i64 0, .bool false, .int .i64 0, .float .f64 0, .string ⟨#[]⟩, .slice none 0 0, .int .u64 0, .slice none 0 0, .slice none 0 0, .string ⟨#[]⟩, .int .i64 0, .slice none 0 0, .slice none 0 0, .slice none 0 0, .bool false, .string ⟨#[]⟩]) 18 264 := show (Try.prog.info? 34).map (fun i => (i.zero, i.size, i.bytes)) = _ from by kernel_rfl
theorem inf_37 : Inf Try.prog 37 (.slice none 0 0) 1 24 := show (Try.prog.info? 37).map (fun i => (i.zero, i.size, i.bytes)) = _ from by kernel_rfl
theorem inf_39 : Inf Try.prog 39 (.int .i64 0) 1 8 := show (Try.prog.info? 39).map (fun i => (i.zero, i.size, i.bytes)) = _ from by kernel_rfl
theorem inf_43 : Inf Try.prog 43 (.agg #[.string ⟨#[]⟩, .nilIface]) 2 32 := show (Try.prog.info? 43).map (fun i => (i.zero, i.size, i.bytes)) = _ from by kernel_rfl
theorem inf_45 : Inf Try.prog 45 (.slice none 0 0) 1 24 := show (Try.prog.info? 45).map (fun i => (i.zero, i.size, i.bytes)) = _ from by kernel_rfl
theorem inf_70 : Inf Try.prog 70 (.pointer none) 1 8 := show (Try.prog.info? 70).map (fun i => (i.zero, i.size, i.bytes)) = _ from by kernel_rfl
theorem inf_72 : Inf Try.prog 72 (.agg #[.string ⟨#[]⟩, .int .i64 0, .slice none 0 0]) 3 48 := show (Try.prog.info? 72).map (fun i => (i.zero, i.size, i.bytes)) = _ from by kernel_rfl
theorem inf_79 : Inf Try.prog 79 (.agg #[.int .i64 0]) 1 8 := show (Try.prog.info? 79).map (fun i => (i.zero, i.size, i.bytes)) = _ from by kernel_rfl
theorem inf_98 : Inf Try.prog 98 (.agg #[.int .i64 0, .int .i64 0, .int .i64 0, .int .i64 0]) 4 32 := show (Try.prog.info? 98).map (fun i => (i.zero, i.size, i.bytes)) = _ from by kernel_rfl
theorem inf_101 : Inf Try.prog 101 (.agg #[.string ⟨#[]⟩, .int .i64 0, .bool false, .int .i64 0, .float .f64 0, .string ⟨#[]⟩, .slice none 0 0, .int .u64 0, .slice none 0 0, .slice none 0 0, .string ⟨#[]⟩, .int .i64 0]) 12 168 := show (Try.prog.info? 101).map (fun i => (i.zero, i.size, i.bytes)) = _ from by kernel_rfl
theorem inf_105 : Inf Try.prog 105 (.agg #[.slice none 0 0]) 1 24 := show (Try.prog.info? 105).map (fun i => (i.zero, i.size, i.bytes)) = _ from by kernel_rfl
theorem inf_110 : Inf Try.prog 110 (.agg #[.int .i64 0, .int .i64 0]) 2 16 := show (Try.prog.info? 110).map (fun i => (i.zero, i.size, i.bytes)) = _ from by kernel_rfl
theorem inf_119 : Inf Try.prog 119 (.agg #[.int .i64 0]) 1 8 := show (Try.prog.info? 119).map (fun i => (i.zero, i.size, i.bytes)) = _ from by kernel_rfl
theorem inf_148 : Inf Try.prog 148 (.agg #[.int .i64 0, .int .i64 0, .int .i64 0]) 3 24 := show (Try.prog.info? 148).map (fun i => (i.zero, i.size, i.bytes)) = _ from by kernel_rfl
theorem inf_153 : Inf Try.prog 153 (.agg #[]) 0 0 := show (Try.prog.info? 153).map (fun i => (i.zero, i.size, i.bytes)) = _ from by kernel_rfl
theorem st_29 : IsStruct Try.prog 29 #[{ name := "Kind", type := 3, offset := 0, embedded := false, tag := "", pkgPath := "", byteOffset := 0 }, { name := "Bool", type := 4, offset := 1, embedded := false, tag := "", pkgPath := "", byteOffset := 8 }, { name := "Int", type := 2, offset := 2, embedded := false, tag := "", pkgPath := "", byteOffset := 16 }, { name := "Float", type := 22, offset := 3, embedded := false, tag := "", pkgPath := "", byteOffset := 24 }, { name := "Text", type := 9, offset := 4, embedded := false, tag := "", pkgPath := "", byteOffset := 32 }, { name := "Bytes", type := 23, offset := 5, embedded := false, tag := "", pkgPath := "", byteOffset := 48 }, { name := "Ref", type := 25, offset := 6, embedded := false, tag := "", pkgPath := "", byteOffset := 72 }, { name := "List", type := 26, offset := 7, embedded := false, tag := "", pkgPath := "", byteOffset := 80 }, { name := "Fields", type := 27, offset := 8, embedded := false, tag := "", pkgPath := "", byteOffset := 104 }, { name := "Class", type := 9, offset := 9, embedded := false, tag := "", pkgPath := "", byteOffset := 128 }, { name := "Version", type := 3, offset := 10, embedded := false, tag := "", pkgPath := "", byteOffset := 144 }] [(0, 1), (1, 1), (2, 1), (3, 1), (4, 1), (5, 1), (6, 1), (7, 1), (8, 1), (9, 1), (10, 1)] := ⟨Try.underlying29, by kernel_rfl, by kernel_rfl⟩
theorem st_34 : IsStruct Try.prog 34 #[{ name := "Kind", type := 3, offset := 0, embedded := false, tag := "", pkgPath := "", byteOffset := 0 }, { name := "Of", type := 3, offset := 1, embedded := false, tag := "", pkgPath := "", byteOffset := 8 }, { name := "Only", type := 29, offset := 2, embedded := false, tag := "", pkgPath := "", byteOffset := 16 }, { name := "Parts", type := 30, offset := 13, embedded := false, tag := "", pkgPath := "", byteOffset := 168 }, { name := "Names", type := 31, offset := 14, embedded := false, tag := "", pkgPath := "", byteOffset := 192 }, { name := "Lacks", type := 32, offset := 15, embedded := false, tag := "", pkgPath := "", byteOffset := 216 }, { name := "Open", type := 4, offset := 16, embedded := false, tag := "", pkgPath := "", byteOffset := 240 }, { name := "Class", type := 9, offset := 17, embedded := false, tag := "", pkgPath := "", byteOffset := 248 }] [(0, 1), (1, 1), (2, 11), (13, 1), (14, 1), (15, 1), (16, 1), (17, 1)] := ⟨Try.underlying34, by kernel_rfl, by kernel_rfl⟩
theorem st_43 : IsStruct Try.prog 43 #[{ name := "Name", type := 9, offset := 0, embedded := false, tag := "", pkgPath := "", byteOffset := 0 }, { name := "Value", type := 20, offset := 1, embedded := false, tag := "", pkgPath := "", byteOffset := 16 }] [(0, 1), (1, 1)] := ⟨Try.underlying43, by kernel_rfl, by kernel_rfl⟩
theorem st_72 : IsStruct Try.prog 72 #[{ name := "Class", type := 9, offset := 0, embedded := false, tag := "", pkgPath := "", byteOffset := 0 }, { name := "Version", type := 3, offset := 1, embedded := false, tag := "", pkgPath := "", byteOffset := 16 }, { name := "Fields", type := 45, offset := 2, embedded := false, tag := "", pkgPath := "", byteOffset := 24 }] [(0, 1), (1, 1), (2, 1)] := ⟨Try.underlying72, by kernel_rfl, by kernel_rfl⟩
theorem st_79 : IsStruct Try.prog 79 #[{ name := "left", type := 3, offset := 0, embedded := false, tag := "", pkgPath := "tenon/tenonref07", byteOffset := 0 }] [(0, 1)] := ⟨Try.underlying79, by kernel_rfl, by kernel_rfl⟩
theorem st_98 : IsStruct Try.prog 98 #[{ name := "n", type := 3, offset := 0, embedded := false, tag := "", pkgPath := "tenon/tenonref01", byteOffset := 0 }, { name := "deep", type := 3, offset := 1, embedded := false, tag := "", pkgPath := "tenon/tenonref01", byteOffset := 8 }, { name := "at", type := 3, offset := 2, embedded := false, tag := "", pkgPath := "tenon/tenonref01", byteOffset := 16 }, { name := "why", type := 39, offset := 3, embedded := false, tag := "", pkgPath := "tenon/tenonref01", byteOffset := 24 }] [(0, 1), (1, 1), (2, 1), (3, 1)] := ⟨Try.underlying98, by kernel_rfl, by kernel_rfl⟩
theorem st_101 : IsStruct Try.prog 101 #[{ name := "Name", type := 9, offset := 0, embedded := false, tag := "", pkgPath := "", byteOffset := 0 }, { name := "Value", type := 29, offset := 1, embedded := false, tag := "", pkgPath := "", byteOffset := 16 }] [(0, 1), (1, 11)] := ⟨Try.underlying101, by kernel_rfl, by kernel_rfl⟩
theorem st_105 : IsStruct Try.prog 105 #[{ name := "L", type := 103, offset := 0, embedded := false, tag := "", pkgPath := "", byteOffset := 0 }] [(0, 1)] := ⟨Try.underlying105, by kernel_rfl, by kernel_rfl⟩
theorem st_119 : IsStruct Try.prog 119 #[{ name := "left", type := 3, offset := 0, embedded := false, tag := "", pkgPath := "tenon/check", byteOffset := 0 }] [(0, 1)] := ⟨Try.underlying119, by kernel_rfl, by kernel_rfl⟩
theorem st_148 : IsStruct Try.prog 148 #[{ name := "n", type := 3, offset := 0, embedded := false, tag := "", pkgPath := "tenon/value", byteOffset := 0 }, { name := "deep", type := 3, offset := 1, embedded := false, tag := "", pkgPath := "tenon/value", byteOffset := 8 }, { name := "why", type := 39, offset := 2, embedded := false, tag := "", pkgPath := "tenon/value", byteOffset := 16 }] [(0, 1), (1, 1), (2, 1)] := ⟨Try.underlying148, by kernel_rfl, by kernel_rfl⟩
theorem st_153 : IsStruct Try.prog 153 #[] [] := ⟨Try.underlying153, by kernel_rfl, by kernel_rfl⟩
theorem en_3 : Enters Try.prog 3 := ⟨_, Try.func3, by kernel_rfl, rfl⟩
theorem en_4 : Enters Try.prog 4 := ⟨_, Try.func4, by kernel_rfl, rfl⟩
theorem en_5 : Enters Try.prog 5 := ⟨_, Try.func5, by kernel_rfl, rfl⟩
theorem en_6 : Enters Try.prog 6 := ⟨_, Try.func6, by kernel_rfl, rfl⟩
theorem en_7 : Enters Try.prog 7 := ⟨_, Try.func7, by kernel_rfl, rfl⟩
theorem en_8 : Enters Try.prog 8 := ⟨_, Try.func8, by kernel_rfl, rfl⟩
theorem en_9 : Enters Try.prog 9 := ⟨_, Try.func9, by kernel_rfl, rfl⟩
theorem en_10 : Enters Try.prog 10 := ⟨_, Try.func10, by kernel_rfl, rfl⟩
theorem en_11 : Enters Try.prog 11 := ⟨_, Try.func11, by kernel_rfl, rfl⟩
theorem en_12 : Enters Try.prog 12 := ⟨_, Try.func12, by kernel_rfl, rfl⟩
theorem en_13 : Enters Try.prog 13 := ⟨_, Try.func13, by kernel_rfl, rfl⟩
theorem en_14 : Enters Try.prog 14 := ⟨_, Try.func14, by kernel_rfl, rfl⟩
theorem en_15 : Enters Try.prog 15 := ⟨_, Try.func15, by kernel_rfl, rfl⟩
theorem en_16 : Enters Try.prog 16 := ⟨_, Try.func16, by kernel_rfl, rfl⟩
theorem en_17 : Enters Try.prog 17 := ⟨_, Try.func17, by kernel_rfl, rfl⟩
theorem en_18 : Enters Try.prog 18 := ⟨_, Try.func18, by kernel_rfl, rfl⟩
theorem en_19 : Enters Try.prog 19 := ⟨_, Try.func19, by kernel_rfl, rfl⟩
theorem en_20 : Enters Try.prog 20 := ⟨_, Try.func20, by kernel_rfl, rfl⟩
theorem en_21 : Enters Try.prog 21 := ⟨_, Try.func21, by kernel_rfl, rfl⟩
theorem en_22 : Enters Try.prog 22 := ⟨_, Try.func22, by kernel_rfl, rfl⟩
theorem en_23 : Enters Try.prog 23 := ⟨_, Try.func23, by kernel_rfl, rfl⟩
theorem en_24 : Enters Try.prog 24 := ⟨_, Try.func24, by kernel_rfl, rfl⟩
theorem en_25 : Enters Try.prog 25 := ⟨_, Try.func25, by kernel_rfl, rfl⟩
theorem en_26 : Enters Try.prog 26 := ⟨_, Try.func26, by kernel_rfl, rfl⟩
theorem en_27 : Enters Try.prog 27 := ⟨_, Try.func27, by kernel_rfl, rfl⟩
theorem en_28 : Enters Try.prog 28 := ⟨_, Try.func28, by kernel_rfl, rfl⟩
theorem en_29 : Enters Try.prog 29 := ⟨_, Try.func29, by kernel_rfl, rfl⟩
theorem en_30 : Enters Try.prog 30 := ⟨_, Try.func30, by kernel_rfl, rfl⟩
theorem en_31 : Enters Try.prog 31 := ⟨_, Try.func31, by kernel_rfl, rfl⟩
theorem en_32 : Enters Try.prog 32 := ⟨_, Try.func32, by kernel_rfl, rfl⟩
theorem en_33 : Enters Try.prog 33 := ⟨_, Try.func33, by kernel_rfl, rfl⟩
theorem en_34 : Enters Try.prog 34 := ⟨_, Try.func34, by kernel_rfl, rfl⟩
theorem en_35 : Enters Try.prog 35 := ⟨_, Try.func35, by kernel_rfl, rfl⟩
theorem en_36 : Enters Try.prog 36 := ⟨_, Try.func36, by kernel_rfl, rfl⟩
theorem en_37 : Enters Try.prog 37 := ⟨_, Try.func37, by kernel_rfl, rfl⟩
theorem en_39 : Enters Try.prog 39 := ⟨_, Try.func39, by kernel_rfl, rfl⟩
theorem en_40 : Enters Try.prog 40 := ⟨_, Try.func40, by kernel_rfl, rfl⟩
theorem en_41 : Enters Try.prog 41 := ⟨_, Try.func41, by kernel_rfl, rfl⟩
theorem en_42 : Enters Try.prog 42 := ⟨_, Try.func42, by kernel_rfl, rfl⟩
theorem en_43 : Enters Try.prog 43 := ⟨_, Try.func43, by kernel_rfl, rfl⟩
theorem en_44 : Enters Try.prog 44 := ⟨_, Try.func44, by kernel_rfl, rfl⟩
theorem en_45 : Enters Try.prog 45 := ⟨_, Try.func45, by kernel_rfl, rfl⟩
theorem en_46 : Enters Try.prog 46 := ⟨_, Try.func46, by kernel_rfl, rfl⟩
theorem en_47 : Enters Try.prog 47 := ⟨_, Try.func47, by kernel_rfl, rfl⟩
theorem en_48 : Enters Try.prog 48 := ⟨_, Try.func48, by kernel_rfl, rfl⟩
theorem en_49 : Enters Try.prog 49 := ⟨_, Try.func49, by kernel_rfl, rfl⟩
theorem en_50 : Enters Try.prog 50 := ⟨_, Try.func50, by kernel_rfl, rfl⟩
theorem en_51 : Enters Try.prog 51 := ⟨_, Try.func51, by kernel_rfl, rfl⟩
theorem en_52 : Enters Try.prog 52 := ⟨_, Try.func52, by kernel_rfl, rfl⟩
theorem en_53 : Enters Try.prog 53 := ⟨_, Try.func53, by kernel_rfl, rfl⟩
theorem en_54 : Enters Try.prog 54 := ⟨_, Try.func54, by kernel_rfl, rfl⟩
theorem en_55 : Enters Try.prog 55 := ⟨_, Try.func55, by kernel_rfl, rfl⟩
theorem en_56 : Enters Try.prog 56 := ⟨_, Try.func56, by kernel_rfl, rfl⟩
theorem en_57 : Enters Try.prog 57 := ⟨_, Try.func57, by kernel_rfl, rfl⟩
theorem en_58 : Enters Try.prog 58 := ⟨_, Try.func58, by kernel_rfl, rfl⟩
theorem en_59 : Enters Try.prog 59 := ⟨_, Try.func59, by kernel_rfl, rfl⟩
theorem en_60 : Enters Try.prog 60 := ⟨_, Try.func60, by kernel_rfl, rfl⟩
theorem en_61 : Enters Try.prog 61 := ⟨_, Try.func61, by kernel_rfl, rfl⟩
theorem en_62 : Enters Try.prog 62 := ⟨_, Try.func62, by kernel_rfl, rfl⟩
theorem en_63 : Enters Try.prog 63 := ⟨_, Try.func63, by kernel_rfl, rfl⟩
theorem en_64 : Enters Try.prog 64 := ⟨_, Try.func64, by kernel_rfl, rfl⟩
theorem en_65 : Enters Try.prog 65 := ⟨_, Try.func65, by kernel_rfl, rfl⟩
theorem en_66 : Enters Try.prog 66 := ⟨_, Try.func66, by kernel_rfl, rfl⟩
theorem en_67 : Enters Try.prog 67 := ⟨_, Try.func67, by kernel_rfl, rfl⟩
theorem en_68 : Enters Try.prog 68 := ⟨_, Try.func68, by kernel_rfl, rfl⟩
theorem en_69 : Enters Try.prog 69 := ⟨_, Try.func69, by kernel_rfl, rfl⟩
theorem en_70 : Enters Try.prog 70 := ⟨_, Try.func70, by kernel_rfl, rfl⟩
theorem en_71 : Enters Try.prog 71 := ⟨_, Try.func71, by kernel_rfl, rfl⟩
theorem en_72 : Enters Try.prog 72 := ⟨_, Try.func72, by kernel_rfl, rfl⟩
theorem en_73 : Enters Try.prog 73 := ⟨_, Try.func73, by kernel_rfl, rfl⟩
theorem en_74 : Enters Try.prog 74 := ⟨_, Try.func74, by kernel_rfl, rfl⟩
theorem en_75 : Enters Try.prog 75 := ⟨_, Try.func75, by kernel_rfl, rfl⟩
theorem en_76 : Enters Try.prog 76 := ⟨_, Try.func76, by kernel_rfl, rfl⟩
theorem en_77 : Enters Try.prog 77 := ⟨_, Try.func77, by kernel_rfl, rfl⟩
theorem en_78 : Enters Try.prog 78 := ⟨_, Try.func78, by kernel_rfl, rfl⟩
theorem en_79 : Enters Try.prog 79 := ⟨_, Try.func79, by kernel_rfl, rfl⟩
theorem en_80 : Enters Try.prog 80 := ⟨_, Try.func80, by kernel_rfl, rfl⟩
theorem en_81 : Enters Try.prog 81 := ⟨_, Try.func81, by kernel_rfl, rfl⟩
theorem en_82 : Enters Try.prog 82 := ⟨_, Try.func82, by kernel_rfl, rfl⟩
theorem en_83 : Enters Try.prog 83 := ⟨_, Try.func83, by kernel_rfl, rfl⟩
theorem en_84 : Enters Try.prog 84 := ⟨_, Try.func84, by kernel_rfl, rfl⟩
theorem en_85 : Enters Try.prog 85 := ⟨_, Try.func85, by kernel_rfl, rfl⟩
theorem en_86 : Enters Try.prog 86 := ⟨_, Try.func86, by kernel_rfl, rfl⟩
theorem en_87 : Enters Try.prog 87 := ⟨_, Try.func87, by kernel_rfl, rfl⟩
theorem en_88 : Enters Try.prog 88 := ⟨_, Try.func88, by kernel_rfl, rfl⟩
theorem en_89 : Enters Try.prog 89 := ⟨_, Try.func89, by kernel_rfl, rfl⟩
theorem en_90 : Enters Try.prog 90 := ⟨_, Try.func90, by kernel_rfl, rfl⟩
theorem en_91 : Enters Try.prog 91 := ⟨_, Try.func91, by kernel_rfl, rfl⟩
theorem en_92 : Enters Try.prog 92 := ⟨_, Try.func92, by kernel_rfl, rfl⟩
theorem en_93 : Enters Try.prog 93 := ⟨_, Try.func93, by kernel_rfl, rfl⟩
theorem en_94 : Enters Try.prog 94 := ⟨_, Try.func94, by kernel_rfl, rfl⟩
theorem en_95 : Enters Try.prog 95 := ⟨_, Try.func95, by kernel_rfl, rfl⟩
theorem en_96 : Enters Try.prog 96 := ⟨_, Try.func96, by kernel_rfl, rfl⟩
theorem en_97 : Enters Try.prog 97 := ⟨_, Try.func97, by kernel_rfl, rfl⟩
theorem en_98 : Enters Try.prog 98 := ⟨_, Try.func98, by kernel_rfl, rfl⟩
theorem en_99 : Enters Try.prog 99 := ⟨_, Try.func99, by kernel_rfl, rfl⟩
theorem en_100 : Enters Try.prog 100 := ⟨_, Try.func100, by kernel_rfl, rfl⟩
theorem en_101 : Enters Try.prog 101 := ⟨_, Try.func101, by kernel_rfl, rfl⟩
theorem en_102 : Enters Try.prog 102 := ⟨_, Try.func102, by kernel_rfl, rfl⟩
theorem en_103 : Enters Try.prog 103 := ⟨_, Try.func103, by kernel_rfl, rfl⟩
theorem en_104 : Enters Try.prog 104 := ⟨_, Try.func104, by kernel_rfl, rfl⟩
theorem en_105 : Enters Try.prog 105 := ⟨_, Try.func105, by kernel_rfl, rfl⟩
theorem en_106 : Enters Try.prog 106 := ⟨_, Try.func106, by kernel_rfl, rfl⟩
theorem en_107 : Enters Try.prog 107 := ⟨_, Try.func107, by kernel_rfl, rfl⟩
theorem en_108 : Enters Try.prog 108 := ⟨_, Try.func108, by kernel_rfl, rfl⟩
theorem en_109 : Enters Try.prog 109 := ⟨_, Try.func109, by kernel_rfl, rfl⟩
theorem en_110 : Enters Try.prog 110 := ⟨_, Try.func110, by kernel_rfl, rfl⟩
theorem en_111 : Enters Try.prog 111 := ⟨_, Try.func111, by kernel_rfl, rfl⟩
theorem en_112 : Enters Try.prog 112 := ⟨_, Try.func112, by kernel_rfl, rfl⟩
theorem en_113 : Enters Try.prog 113 := ⟨_, Try.func113, by kernel_rfl, rfl⟩
theorem en_114 : Enters Try.prog 114 := ⟨_, Try.func114, by kernel_rfl, rfl⟩
theorem en_115 : Enters Try.prog 115 := ⟨_, Try.func115, by kernel_rfl, rfl⟩
theorem en_116 : Enters Try.prog 116 := ⟨_, Try.func116, by kernel_rfl, rfl⟩
theorem en_117 : Enters Try.prog 117 := ⟨_, Try.func117, by kernel_rfl, rfl⟩
theorem en_118 : Enters Try.prog 118 := ⟨_, Try.func118, by kernel_rfl, rfl⟩
theorem en_119 : Enters Try.prog 119 := ⟨_, Try.func119, by kernel_rfl, rfl⟩
theorem en_120 : Enters Try.prog 120 := ⟨_, Try.func120, by kernel_rfl, rfl⟩
theorem en_121 : Enters Try.prog 121 := ⟨_, Try.func121, by kernel_rfl, rfl⟩
theorem en_122 : Enters Try.prog 122 := ⟨_, Try.func122, by kernel_rfl, rfl⟩
theorem en_123 : Enters Try.prog 123 := ⟨_, Try.func123, by kernel_rfl, rfl⟩
theorem mo : Try.prog.follows .mixedOrders = true := by kernel_rfl
end Go.Proofs.Ytiapdjdhaclmnaa
