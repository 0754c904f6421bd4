/- The facts of the program that the walks lean on: zero values, sizes, fields, which function is there. Written by walk.py. -/
import Derived.Test.YthfdpaboekoncaaProg
import Derived.KernelRfl
import Derived.Test.YthfdpaboekoncaaAwT
namespace Go.Proofs.Ythfdpaboekoncaa
open Go Aw
set_option linter.unusedVariables false
theorem inf_2 : Inf Try.prog 2 (.int .i64 0) 1 8 := show (Try.prog.info? 2).map (fun i => (i.zero, i.size, i.bytes)) = _ from by kernel_rfl
theorem inf_3 : Inf Try.prog 3 (.int .i64 0) 1 8 := show (Try.prog.info? 3).map (fun i => (i.zero, i.size, i.bytes)) = _ from by kernel_rfl
theorem inf_4 : Inf Try.prog 4 (.bool false) 1 1 := show (Try.prog.info? 4).map (fun i => (i.zero, i.size, i.bytes)) = _ from by kernel_rfl
theorem inf_5 : Inf Try.prog 5 (.int .u8 0) 1 1 := show (Try.prog.info? 5).map (fun i => (i.zero, i.size, i.bytes)) = _ from by kernel_rfl
theorem inf_9 : Inf Try.prog 9 (.string ⟨#[]⟩) 1 16 := show (Try.prog.info? 9).map (fun i => (i.zero, i.size, i.bytes)) = _ from by kernel_rfl
theorem inf_20 : Inf Try.prog 20 (.nilIface) 1 16 := show (Try.prog.info? 20).map (fun i => (i.zero, i.size, i.bytes)) = _ from by kernel_rfl
theorem inf_22 : Inf Try.prog 22 (.float .f64 0) 1 8 := show (Try.prog.info? 22).map (fun i => (i.zero, i.size, i.bytes)) = _ from by kernel_rfl
theorem inf_23 : Inf Try.prog 23 (.slice none 0 0) 1 24 := show (Try.prog.info? 23).map (fun i => (i.zero, i.size, i.bytes)) = _ from by kernel_rfl
theorem inf_25 : Inf Try.prog 25 (.int .u64 0) 1 8 := show (Try.prog.info? 25).map (fun i => (i.zero, i.size, i.bytes)) = _ from by kernel_rfl
theorem inf_26 : Inf Try.prog 26 (.slice none 0 0) 1 24 := show (Try.prog.info? 26).map (fun i => (i.zero, i.size, i.bytes)) = _ from by kernel_rfl
theorem inf_27 : Inf Try.prog 27 (.slice none 0 0) 1 24 := show (Try.prog.info? 27).map (fun i => (i.zero, i.size, i.bytes)) = _ from by kernel_rfl
theorem inf_29 : Inf Try.prog 29 (.agg #[.int .i64 0, .bool false, .int .i64 0, .float .f64 0, .string ⟨#[]⟩, .slice none 0 0, .int .u64 0, .slice none 0 0, .slice none 0 0, .string ⟨#[]⟩, .int .i64 0]) 11 152 := show (Try.prog.info? 29).map (fun i => (i.zero, i.size, i.bytes)) = _ from by kernel_rfl
theorem inf_31 : Inf Try.prog 31 (.int .i64 0) 1 8 := show (Try.prog.info? 31).map (fun i => (i.zero, i.size, i.bytes)) = _ from by kernel_rfl
theorem inf_56 : Inf Try.prog 56 (.agg #[.string ⟨#[]⟩, .nilIface]) 2 32 := show (Try.prog.info? 56).map (fun i => (i.zero, i.size, i.bytes)) = _ from by kernel_rfl
theorem inf_58 : Inf Try.prog 58 (.slice none 0 0) 1 24 := show (Try.prog.info? 58).map (fun i => (i.zero, i.size, i.bytes)) = _ from by kernel_rfl
theorem inf_60 : Inf Try.prog 60 (.slice none 0 0) 1 24 := show (Try.prog.info? 60).map (fun i => (i.zero, i.size, i.bytes)) = _ from by kernel_rfl
theorem inf_62 : Inf Try.prog 62 (.pointer none) 1 8 := show (Try.prog.info? 62).map (fun i => (i.zero, i.size, i.bytes)) = _ from by kernel_rfl
theorem inf_66 : Inf Try.prog 66 (.agg #[.string ⟨#[]⟩, .int .i64 0, .bool false, .int .i64 0, .float .f64 0, .string ⟨#[]⟩, .slice none 0 0, .int .u64 0, .slice none 0 0, .slice none 0 0, .string ⟨#[]⟩, .int .i64 0]) 12 168 := show (Try.prog.info? 66).map (fun i => (i.zero, i.size, i.bytes)) = _ from by kernel_rfl
theorem inf_70 : Inf Try.prog 70 (.agg #[.string ⟨#[]⟩, .int .i64 0, .slice none 0 0]) 3 48 := show (Try.prog.info? 70).map (fun i => (i.zero, i.size, i.bytes)) = _ from by kernel_rfl
theorem inf_72 : Inf Try.prog 72 (.agg #[.int .i64 0, .int .i64 0, .int .i64 0, .int .i64 0]) 4 32 := show (Try.prog.info? 72).map (fun i => (i.zero, i.size, i.bytes)) = _ from by kernel_rfl
theorem inf_75 : Inf Try.prog 75 (.agg #[.int .i64 0, .int .i64 0, .int .i64 0]) 3 24 := show (Try.prog.info? 75).map (fun i => (i.zero, i.size, i.bytes)) = _ from by kernel_rfl
theorem inf_86 : Inf Try.prog 86 (.agg #[.slice none 0 0]) 1 24 := show (Try.prog.info? 86).map (fun i => (i.zero, i.size, i.bytes)) = _ from by kernel_rfl
theorem inf_91 : Inf Try.prog 91 (.agg #[.int .i64 0, .int .i64 0]) 2 16 := show (Try.prog.info? 91).map (fun i => (i.zero, i.size, i.bytes)) = _ from by kernel_rfl
theorem inf_102 : Inf Try.prog 102 (.agg #[]) 0 0 := show (Try.prog.info? 102).map (fun i => (i.zero, i.size, i.bytes)) = _ from by kernel_rfl
theorem st_29 : IsStruct Try.prog 29 #[{ name := "Kind", type := 3, offset := 0, embedded := false, tag := "", pkgPath := "", byteOffset := 0 }, { name := "Bool", type := 4, offset := 1, embedded := false, tag := "", pkgPath := "", byteOffset := 8 }, { name := "Int", type := 2, offset := 2, embedded := false, tag := "", pkgPath := "", byteOffset := 16 }, { name := "Float", type := 22, offset := 3, embedded := false, tag := "", pkgPath := "", byteOffset := 24 }, { name := "Text", type := 9, offset := 4, embedded := false, tag := "", pkgPath := "", byteOffset := 32 }, { name := "Bytes", type := 23, offset := 5, embedded := false, tag := "", pkgPath := "", byteOffset := 48 }, { name := "Ref", type := 25, offset := 6, embedded := false, tag := "", pkgPath := "", byteOffset := 72 }, { name := "List", type := 26, offset := 7, embedded := false, tag := "", pkgPath := "", byteOffset := 80 }, { name := "Fields", type := 27, offset := 8, embedded := false, tag := "", pkgPath := "", byteOffset := 104 }, { name := "Class", type := 9, offset := 9, embedded := false, tag := "", pkgPath := "", byteOffset := 128 }, { name := "Version", type := 3, offset := 10, embedded := false, tag := "", pkgPath := "", byteOffset := 144 }] [(0, 1), (1, 1), (2, 1), (3, 1), (4, 1), (5, 1), (6, 1), (7, 1), (8, 1), (9, 1), (10, 1)] := ⟨Try.underlying29, by kernel_rfl, by kernel_rfl⟩
theorem st_56 : IsStruct Try.prog 56 #[{ name := "Name", type := 9, offset := 0, embedded := false, tag := "", pkgPath := "", byteOffset := 0 }, { name := "Value", type := 20, offset := 1, embedded := false, tag := "", pkgPath := "", byteOffset := 16 }] [(0, 1), (1, 1)] := ⟨Try.underlying56, by kernel_rfl, by kernel_rfl⟩
theorem st_66 : IsStruct Try.prog 66 #[{ name := "Name", type := 9, offset := 0, embedded := false, tag := "", pkgPath := "", byteOffset := 0 }, { name := "Value", type := 29, offset := 1, embedded := false, tag := "", pkgPath := "", byteOffset := 16 }] [(0, 1), (1, 11)] := ⟨Try.underlying66, by kernel_rfl, by kernel_rfl⟩
theorem st_70 : IsStruct Try.prog 70 #[{ name := "Class", type := 9, offset := 0, embedded := false, tag := "", pkgPath := "", byteOffset := 0 }, { name := "Version", type := 3, offset := 1, embedded := false, tag := "", pkgPath := "", byteOffset := 16 }, { name := "Fields", type := 58, offset := 2, embedded := false, tag := "", pkgPath := "", byteOffset := 24 }] [(0, 1), (1, 1), (2, 1)] := ⟨Try.underlying70, by kernel_rfl, by kernel_rfl⟩
theorem st_72 : IsStruct Try.prog 72 #[{ name := "n", type := 3, offset := 0, embedded := false, tag := "", pkgPath := "tenon/tenonref01", byteOffset := 0 }, { name := "deep", type := 3, offset := 1, embedded := false, tag := "", pkgPath := "tenon/tenonref01", byteOffset := 8 }, { name := "at", type := 3, offset := 2, embedded := false, tag := "", pkgPath := "tenon/tenonref01", byteOffset := 16 }, { name := "why", type := 31, offset := 3, embedded := false, tag := "", pkgPath := "tenon/tenonref01", byteOffset := 24 }] [(0, 1), (1, 1), (2, 1), (3, 1)] := ⟨Try.underlying72, by kernel_rfl, by kernel_rfl⟩
theorem st_75 : IsStruct Try.prog 75 #[{ name := "n", type := 3, offset := 0, embedded := false, tag := "", pkgPath := "tenon/value", byteOffset := 0 }, { name := "deep", type := 3, offset := 1, embedded := false, tag := "", pkgPath := "tenon/value", byteOffset := 8 }, { name := "why", type := 31, offset := 2, embedded := false, tag := "", pkgPath := "tenon/value", byteOffset := 16 }] [(0, 1), (1, 1), (2, 1)] := ⟨Try.underlying75, by kernel_rfl, by kernel_rfl⟩
theorem st_86 : IsStruct Try.prog 86 #[{ name := "L", type := 84, offset := 0, embedded := false, tag := "", pkgPath := "", byteOffset := 0 }] [(0, 1)] := ⟨Try.underlying86, by kernel_rfl, by kernel_rfl⟩
theorem st_102 : IsStruct Try.prog 102 #[] [] := ⟨Try.underlying102, by kernel_rfl, by kernel_rfl⟩
theorem en_3 : Enters Try.prog 3 := ⟨_, Try.func3, by kernel_rfl, rfl⟩
theorem en_4 : Enters Try.prog 4 := ⟨_, Try.func4, by kernel_rfl, rfl⟩
theorem en_5 : Enters Try.prog 5 := ⟨_, Try.func5, by kernel_rfl, rfl⟩
theorem en_6 : Enters Try.prog 6 := ⟨_, Try.func6, by kernel_rfl, rfl⟩
theorem en_7 : Enters Try.prog 7 := ⟨_, Try.func7, by kernel_rfl, rfl⟩
theorem en_8 : Enters Try.prog 8 := ⟨_, Try.func8, by kernel_rfl, rfl⟩
theorem en_9 : Enters Try.prog 9 := ⟨_, Try.func9, by kernel_rfl, rfl⟩
theorem en_10 : Enters Try.prog 10 := ⟨_, Try.func10, by kernel_rfl, rfl⟩
theorem en_11 : Enters Try.prog 11 := ⟨_, Try.func11, by kernel_rfl, rfl⟩
theorem en_12 : Enters Try.prog 12 := ⟨_, Try.func12, by kernel_rfl, rfl⟩
theorem en_13 : Enters Try.prog 13 := ⟨_, Try.func13, by kernel_rfl, rfl⟩
theorem en_14 : Enters Try.prog 14 := ⟨_, Try.func14, by kernel_rfl, rfl⟩
theorem en_15 : Enters Try.prog 15 := ⟨_, Try.func15, by kernel_rfl, rfl⟩
theorem en_16 : Enters Try.prog 16 := ⟨_, Try.func16, by kernel_rfl, rfl⟩
theorem en_17 : Enters Try.prog 17 := ⟨_, Try.func17, by kernel_rfl, rfl⟩
theorem en_18 : Enters Try.prog 18 := ⟨_, Try.func18, by kernel_rfl, rfl⟩
theorem en_19 : Enters Try.prog 19 := ⟨_, Try.func19, by kernel_rfl, rfl⟩
theorem en_20 : Enters Try.prog 20 := ⟨_, Try.func20, by kernel_rfl, rfl⟩
theorem en_21 : Enters Try.prog 21 := ⟨_, Try.func21, by kernel_rfl, rfl⟩
theorem en_22 : Enters Try.prog 22 := ⟨_, Try.func22, by kernel_rfl, rfl⟩
theorem en_23 : Enters Try.prog 23 := ⟨_, Try.func23, by kernel_rfl, rfl⟩
theorem en_24 : Enters Try.prog 24 := ⟨_, Try.func24, by kernel_rfl, rfl⟩
theorem en_25 : Enters Try.prog 25 := ⟨_, Try.func25, by kernel_rfl, rfl⟩
theorem en_26 : Enters Try.prog 26 := ⟨_, Try.func26, by kernel_rfl, rfl⟩
theorem en_27 : Enters Try.prog 27 := ⟨_, Try.func27, by kernel_rfl, rfl⟩
theorem en_28 : Enters Try.prog 28 := ⟨_, Try.func28, by kernel_rfl, rfl⟩
theorem en_29 : Enters Try.prog 29 := ⟨_, Try.func29, by kernel_rfl, rfl⟩
theorem en_30 : Enters Try.prog 30 := ⟨_, Try.func30, by kernel_rfl, rfl⟩
theorem en_31 : Enters Try.prog 31 := ⟨_, Try.func31, by kernel_rfl, rfl⟩
theorem en_32 : Enters Try.prog 32 := ⟨_, Try.func32, by kernel_rfl, rfl⟩
theorem en_33 : Enters Try.prog 33 := ⟨_, Try.func33, by kernel_rfl, rfl⟩
theorem en_34 : Enters Try.prog 34 := ⟨_, Try.func34, by kernel_rfl, rfl⟩
theorem en_35 : Enters Try.prog 35 := ⟨_, Try.func35, by kernel_rfl, rfl⟩
theorem en_36 : Enters Try.prog 36 := ⟨_, Try.func36, by kernel_rfl, rfl⟩
theorem en_37 : Enters Try.prog 37 := ⟨_, Try.func37, by kernel_rfl, rfl⟩
theorem en_38 : Enters Try.prog 38 := ⟨_, Try.func38, by kernel_rfl, rfl⟩
theorem en_39 : Enters Try.prog 39 := ⟨_, Try.func39, by kernel_rfl, rfl⟩
theorem en_40 : Enters Try.prog 40 := ⟨_, Try.func40, by kernel_rfl, rfl⟩
theorem en_41 : Enters Try.prog 41 := ⟨_, Try.func41, by kernel_rfl, rfl⟩
theorem en_42 : Enters Try.prog 42 := ⟨_, Try.func42, by kernel_rfl, rfl⟩
theorem en_43 : Enters Try.prog 43 := ⟨_, Try.func43, by kernel_rfl, rfl⟩
theorem en_44 : Enters Try.prog 44 := ⟨_, Try.func44, by kernel_rfl, rfl⟩
theorem en_45 : Enters Try.prog 45 := ⟨_, Try.func45, by kernel_rfl, rfl⟩
theorem en_46 : Enters Try.prog 46 := ⟨_, Try.func46, by kernel_rfl, rfl⟩
theorem en_48 : Enters Try.prog 48 := ⟨_, Try.func48, by kernel_rfl, rfl⟩
theorem en_49 : Enters Try.prog 49 := ⟨_, Try.func49, by kernel_rfl, rfl⟩
theorem en_50 : Enters Try.prog 50 := ⟨_, Try.func50, by kernel_rfl, rfl⟩
theorem en_51 : Enters Try.prog 51 := ⟨_, Try.func51, by kernel_rfl, rfl⟩
theorem en_52 : Enters Try.prog 52 := ⟨_, Try.func52, by kernel_rfl, rfl⟩
theorem en_53 : Enters Try.prog 53 := ⟨_, Try.func53, by kernel_rfl, rfl⟩
theorem en_54 : Enters Try.prog 54 := ⟨_, Try.func54, by kernel_rfl, rfl⟩
theorem en_55 : Enters Try.prog 55 := ⟨_, Try.func55, by kernel_rfl, rfl⟩
theorem en_56 : Enters Try.prog 56 := ⟨_, Try.func56, by kernel_rfl, rfl⟩
theorem en_57 : Enters Try.prog 57 := ⟨_, Try.func57, by kernel_rfl, rfl⟩
theorem en_58 : Enters Try.prog 58 := ⟨_, Try.func58, by kernel_rfl, rfl⟩
theorem en_59 : Enters Try.prog 59 := ⟨_, Try.func59, by kernel_rfl, rfl⟩
theorem en_60 : Enters Try.prog 60 := ⟨_, Try.func60, by kernel_rfl, rfl⟩
theorem en_61 : Enters Try.prog 61 := ⟨_, Try.func61, by kernel_rfl, rfl⟩
theorem en_62 : Enters Try.prog 62 := ⟨_, Try.func62, by kernel_rfl, rfl⟩
theorem en_63 : Enters Try.prog 63 := ⟨_, Try.func63, by kernel_rfl, rfl⟩
theorem en_64 : Enters Try.prog 64 := ⟨_, Try.func64, by kernel_rfl, rfl⟩
theorem en_65 : Enters Try.prog 65 := ⟨_, Try.func65, by kernel_rfl, rfl⟩
theorem en_66 : Enters Try.prog 66 := ⟨_, Try.func66, by kernel_rfl, rfl⟩
theorem en_67 : Enters Try.prog 67 := ⟨_, Try.func67, by kernel_rfl, rfl⟩
theorem en_68 : Enters Try.prog 68 := ⟨_, Try.func68, by kernel_rfl, rfl⟩
theorem en_69 : Enters Try.prog 69 := ⟨_, Try.func69, by kernel_rfl, rfl⟩
theorem en_70 : Enters Try.prog 70 := ⟨_, Try.func70, by kernel_rfl, rfl⟩
theorem en_71 : Enters Try.prog 71 := ⟨_, Try.func71, by kernel_rfl, rfl⟩
theorem en_72 : Enters Try.prog 72 := ⟨_, Try.func72, by kernel_rfl, rfl⟩
theorem en_73 : Enters Try.prog 73 := ⟨_, Try.func73, by kernel_rfl, rfl⟩
theorem en_74 : Enters Try.prog 74 := ⟨_, Try.func74, by kernel_rfl, rfl⟩
theorem en_75 : Enters Try.prog 75 := ⟨_, Try.func75, by kernel_rfl, rfl⟩
theorem en_76 : Enters Try.prog 76 := ⟨_, Try.func76, by kernel_rfl, rfl⟩
theorem en_77 : Enters Try.prog 77 := ⟨_, Try.func77, by kernel_rfl, rfl⟩
theorem en_78 : Enters Try.prog 78 := ⟨_, Try.func78, by kernel_rfl, rfl⟩
theorem en_79 : Enters Try.prog 79 := ⟨_, Try.func79, by kernel_rfl, rfl⟩
theorem mo : Try.prog.follows .mixedOrders = true := by kernel_rfl
end Go.Proofs.Ythfdpaboekoncaa
