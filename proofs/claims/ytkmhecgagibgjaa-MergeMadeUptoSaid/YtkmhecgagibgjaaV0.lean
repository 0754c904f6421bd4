/- The facts of the program that the walks lean on: zero values, sizes, fields, which function is there. Written by walk.py. -/
import Derived.Test.YtkmhecgagibgjaaProg
import Derived.KernelRfl
import Derived.Test.YtkmhecgagibgjaaAwT
namespace Go.Proofs.Ytkmhecgagibgjaa
open Go Aw
set_option linter.unusedVariables false
theorem inf_2 : Inf Try.prog 2 (.int .i64 0) 1 8 := show (Try.prog.info? 2).map (fun i => (i.zero, i.size, i.bytes)) = _ from by kernel_rfl
theorem inf_3 : Inf Try.prog 3 (.int .i64 0) 1 8 := show (Try.prog.info? 3).map (fun i => (i.zero, i.size, i.bytes)) = _ from by kernel_rfl
theorem inf_4 : Inf Try.prog 4 (.bool false) 1 1 := show (Try.prog.info? 4).map (fun i => (i.zero, i.size, i.bytes)) = _ from by kernel_rfl
theorem inf_5 : Inf Try.prog 5 (.int .u8 0) 1 1 := show (Try.prog.info? 5).map (fun i => (i.zero, i.size, i.bytes)) = _ from by kernel_rfl
theorem inf_9 : Inf Try.prog 9 (.string ⟨#[]⟩) 1 16 := show (Try.prog.info? 9).map (fun i => (i.zero, i.size, i.bytes)) = _ from by kernel_rfl
theorem inf_20 : Inf Try.prog 20 (.nilIface) 1 16 := show (Try.prog.info? 20).map (fun i => (i.zero, i.size, i.bytes)) = _ from by kernel_rfl
theorem inf_22 : Inf Try.prog 22 (.float .f64 0) 1 8 := show (Try.prog.info? 22).map (fun i => (i.zero, i.size, i.bytes)) = _ from by kernel_rfl
theorem inf_23 : Inf Try.prog 23 (.slice none 0 0) 1 24 := show (Try.prog.info? 23).map (fun i => (i.zero, i.size, i.bytes)) = _ from by kernel_rfl
theorem inf_25 : Inf Try.prog 25 (.int .u64 0) 1 8 := show (Try.prog.info? 25).map (fun i => (i.zero, i.size, i.bytes)) = _ from by kernel_rfl
theorem inf_29 : Inf Try.prog 29 (.agg #[.int .i64 0, .bool false, .int .i64 0, .float .f64 0, .string ⟨#[]⟩, .slice none 0 0, .int .u64 0, .slice none 0 0, .slice none 0 0, .string ⟨#[]⟩, .int .i64 0]) 11 152 := show (Try.prog.info? 29).map (fun i => (i.zero, i.size, i.bytes)) = _ from by kernel_rfl
theorem inf_32 : Inf Try.prog 32 (.slice none 0 0) 1 24 := show (Try.prog.info? 32).map (fun i => (i.zero, i.size, i.bytes)) = _ from by kernel_rfl
theorem inf_33 : Inf Try.prog 33 (.int .i64 0) 1 8 := show (Try.prog.info? 33).map (fun i => (i.zero, i.size, i.bytes)) = _ from by kernel_rfl
theorem inf_44 : Inf Try.prog 44 (.agg #[.slice none 0 0, .nilIface, .nilIface, .nilIface, .bool false, .bool false, .bool false]) 7 80 := show (Try.prog.info? 44).map (fun i => (i.zero, i.size, i.bytes)) = _ from by kernel_rfl
theorem inf_47 : Inf Try.prog 47 (.slice none 0 0) 1 24 := show (Try.prog.info? 47).map (fun i => (i.zero, i.size, i.bytes)) = _ from by kernel_rfl
theorem inf_49 : Inf Try.prog 49 (.slice none 0 0) 1 24 := show (Try.prog.info? 49).map (fun i => (i.zero, i.size, i.bytes)) = _ from by kernel_rfl
theorem inf_50 : Inf Try.prog 50 (.pointer none) 1 8 := show (Try.prog.info? 50).map (fun i => (i.zero, i.size, i.bytes)) = _ from by kernel_rfl
theorem inf_55 : Inf Try.prog 55 (.agg #[.string ⟨#[]⟩, .nilIface]) 2 32 := show (Try.prog.info? 55).map (fun i => (i.zero, i.size, i.bytes)) = _ from by kernel_rfl
theorem inf_57 : Inf Try.prog 57 (.agg #[.string ⟨#[]⟩, .bool false, .int .i64 0]) 3 32 := show (Try.prog.info? 57).map (fun i => (i.zero, i.size, i.bytes)) = _ from by kernel_rfl
theorem inf_60 : Inf Try.prog 60 (.agg #[.string ⟨#[]⟩, .int .i64 0, .slice none 0 0]) 3 48 := show (Try.prog.info? 60).map (fun i => (i.zero, i.size, i.bytes)) = _ from by kernel_rfl
theorem inf_71 : Inf Try.prog 71 (.agg #[.string ⟨#[]⟩, .int .i64 0, .bool false, .int .i64 0, .float .f64 0, .string ⟨#[]⟩, .slice none 0 0, .int .u64 0, .slice none 0 0, .slice none 0 0, .string ⟨#[]⟩, .int .i64 0]) 12 168 := show (Try.prog.info? 71).map (fun i => (i.zero, i.size, i.bytes)) = _ from by kernel_rfl
theorem inf_75 : Inf Try.prog 75 (.agg #[.slice none 0 0]) 1 24 := show (Try.prog.info? 75).map (fun i => (i.zero, i.size, i.bytes)) = _ from by kernel_rfl
theorem inf_80 : Inf Try.prog 80 (.agg #[.int .i64 0, .int .i64 0]) 2 16 := show (Try.prog.info? 80).map (fun i => (i.zero, i.size, i.bytes)) = _ from by kernel_rfl
theorem inf_81 : Inf Try.prog 81 (.pointer none) 1 8 := show (Try.prog.info? 81).map (fun i => (i.zero, i.size, i.bytes)) = _ from by kernel_rfl
theorem inf_83 : Inf Try.prog 83 (.agg #[.nilFunc, .slice none 0 0]) 2 32 := show (Try.prog.info? 83).map (fun i => (i.zero, i.size, i.bytes)) = _ from by kernel_rfl
theorem inf_87 : Inf Try.prog 87 (.agg #[.nilIface, .bool false]) 2 24 := show (Try.prog.info? 87).map (fun i => (i.zero, i.size, i.bytes)) = _ from by kernel_rfl
theorem inf_91 : Inf Try.prog 91 (.agg #[.int .i64 0, .int .i64 0, .int .i64 0]) 3 24 := show (Try.prog.info? 91).map (fun i => (i.zero, i.size, i.bytes)) = _ from by kernel_rfl
theorem inf_133 : Inf Try.prog 133 (.nilFunc) 1 8 := show (Try.prog.info? 133).map (fun i => (i.zero, i.size, i.bytes)) = _ from by kernel_rfl
theorem st_29 : IsStruct Try.prog 29 #[{ name := "Kind", type := 3, offset := 0, embedded := false, tag := "", pkgPath := "", byteOffset := 0 }, { name := "Bool", type := 4, offset := 1, embedded := false, tag := "", pkgPath := "", byteOffset := 8 }, { name := "Int", type := 2, offset := 2, embedded := false, tag := "", pkgPath := "", byteOffset := 16 }, { name := "Float", type := 22, offset := 3, embedded := false, tag := "", pkgPath := "", byteOffset := 24 }, { name := "Text", type := 9, offset := 4, embedded := false, tag := "", pkgPath := "", byteOffset := 32 }, { name := "Bytes", type := 23, offset := 5, embedded := false, tag := "", pkgPath := "", byteOffset := 48 }, { name := "Ref", type := 25, offset := 6, embedded := false, tag := "", pkgPath := "", byteOffset := 72 }, { name := "List", type := 26, offset := 7, embedded := false, tag := "", pkgPath := "", byteOffset := 80 }, { name := "Fields", type := 27, offset := 8, embedded := false, tag := "", pkgPath := "", byteOffset := 104 }, { name := "Class", type := 9, offset := 9, embedded := false, tag := "", pkgPath := "", byteOffset := 128 }, { name := "Version", type := 3, offset := 10, embedded := false, tag := "", pkgPath := "", byteOffset := 144 }] [(0, 1), (1, 1), (2, 1), (3, 1), (4, 1), (5, 1), (6, 1), (7, 1), (8, 1), (9, 1), (10, 1)] := ⟨Try.underlying29, by kernel_rfl, by kernel_rfl⟩
theorem st_44 : IsStruct Try.prog 44 #[{ name := "Way", type := 42, offset := 0, embedded := false, tag := "", pkgPath := "", byteOffset := 0 }, { name := "Base", type := 20, offset := 1, embedded := false, tag := "", pkgPath := "", byteOffset := 24 }, { name := "Ours", type := 20, offset := 2, embedded := false, tag := "", pkgPath := "", byteOffset := 40 }, { name := "Theirs", type := 20, offset := 3, embedded := false, tag := "", pkgPath := "", byteOffset := 56 }, { name := "Had", type := 4, offset := 4, embedded := false, tag := "", pkgPath := "", byteOffset := 72 }, { name := "WeHave", type := 4, offset := 5, embedded := false, tag := "", pkgPath := "", byteOffset := 73 }, { name := "TheyHave", type := 4, offset := 6, embedded := false, tag := "", pkgPath := "", byteOffset := 74 }] [(0, 1), (1, 1), (2, 1), (3, 1), (4, 1), (5, 1), (6, 1)] := ⟨Try.underlying44, by kernel_rfl, by kernel_rfl⟩
theorem st_55 : IsStruct Try.prog 55 #[{ name := "Name", type := 9, offset := 0, embedded := false, tag := "", pkgPath := "", byteOffset := 0 }, { name := "Value", type := 20, offset := 1, embedded := false, tag := "", pkgPath := "", byteOffset := 16 }] [(0, 1), (1, 1)] := ⟨Try.underlying55, by kernel_rfl, by kernel_rfl⟩
theorem st_57 : IsStruct Try.prog 57 #[{ name := "Name", type := 9, offset := 0, embedded := false, tag := "", pkgPath := "", byteOffset := 0 }, { name := "At", type := 4, offset := 1, embedded := false, tag := "", pkgPath := "", byteOffset := 16 }, { name := "Index", type := 3, offset := 2, embedded := false, tag := "", pkgPath := "", byteOffset := 24 }] [(0, 1), (1, 1), (2, 1)] := ⟨Try.underlying57, by kernel_rfl, by kernel_rfl⟩
theorem st_60 : IsStruct Try.prog 60 #[{ name := "Class", type := 9, offset := 0, embedded := false, tag := "", pkgPath := "", byteOffset := 0 }, { name := "Version", type := 3, offset := 1, embedded := false, tag := "", pkgPath := "", byteOffset := 16 }, { name := "Fields", type := 49, offset := 2, embedded := false, tag := "", pkgPath := "", byteOffset := 24 }] [(0, 1), (1, 1), (2, 1)] := ⟨Try.underlying60, by kernel_rfl, by kernel_rfl⟩
theorem st_71 : IsStruct Try.prog 71 #[{ name := "Name", type := 9, offset := 0, embedded := false, tag := "", pkgPath := "", byteOffset := 0 }, { name := "Value", type := 29, offset := 1, embedded := false, tag := "", pkgPath := "", byteOffset := 16 }] [(0, 1), (1, 11)] := ⟨Try.underlying71, by kernel_rfl, by kernel_rfl⟩
theorem st_75 : IsStruct Try.prog 75 #[{ name := "L", type := 73, offset := 0, embedded := false, tag := "", pkgPath := "", byteOffset := 0 }] [(0, 1)] := ⟨Try.underlying75, by kernel_rfl, by kernel_rfl⟩
theorem st_83 : IsStruct Try.prog 83 #[{ name := "settle", type := 62, offset := 0, embedded := false, tag := "", pkgPath := "tenon/merge", byteOffset := 0 }, { name := "conflicts", type := 32, offset := 1, embedded := false, tag := "", pkgPath := "tenon/merge", byteOffset := 8 }] [(0, 1), (1, 1)] := ⟨Try.underlying83, by kernel_rfl, by kernel_rfl⟩
theorem st_87 : IsStruct Try.prog 87 #[{ name := "v", type := 20, offset := 0, embedded := false, tag := "", pkgPath := "tenon/merge", byteOffset := 0 }, { name := "has", type := 4, offset := 1, embedded := false, tag := "", pkgPath := "tenon/merge", byteOffset := 16 }] [(0, 1), (1, 1)] := ⟨Try.underlying87, by kernel_rfl, by kernel_rfl⟩
theorem st_91 : IsStruct Try.prog 91 #[{ name := "n", type := 3, offset := 0, embedded := false, tag := "", pkgPath := "tenon/value", byteOffset := 0 }, { name := "deep", type := 3, offset := 1, embedded := false, tag := "", pkgPath := "tenon/value", byteOffset := 8 }, { name := "why", type := 33, offset := 2, embedded := false, tag := "", pkgPath := "tenon/value", byteOffset := 16 }] [(0, 1), (1, 1), (2, 1)] := ⟨Try.underlying91, by kernel_rfl, by kernel_rfl⟩
theorem en_7 : Enters Try.prog 7 := ⟨_, Try.func7, by kernel_rfl, rfl⟩
theorem en_8 : Enters Try.prog 8 := ⟨_, Try.func8, by kernel_rfl, rfl⟩
theorem en_9 : Enters Try.prog 9 := ⟨_, Try.func9, by kernel_rfl, rfl⟩
theorem en_10 : Enters Try.prog 10 := ⟨_, Try.func10, by kernel_rfl, rfl⟩
theorem en_13 : Enters Try.prog 13 := ⟨_, Try.func13, by kernel_rfl, rfl⟩
theorem en_14 : Enters Try.prog 14 := ⟨_, Try.func14, by kernel_rfl, rfl⟩
theorem en_15 : Enters Try.prog 15 := ⟨_, Try.func15, by kernel_rfl, rfl⟩
theorem en_16 : Enters Try.prog 16 := ⟨_, Try.func16, by kernel_rfl, rfl⟩
theorem en_17 : Enters Try.prog 17 := ⟨_, Try.func17, by kernel_rfl, rfl⟩
theorem en_18 : Enters Try.prog 18 := ⟨_, Try.func18, by kernel_rfl, rfl⟩
theorem en_19 : Enters Try.prog 19 := ⟨_, Try.func19, by kernel_rfl, rfl⟩
theorem en_20 : Enters Try.prog 20 := ⟨_, Try.func20, by kernel_rfl, rfl⟩
theorem en_21 : Enters Try.prog 21 := ⟨_, Try.func21, by kernel_rfl, rfl⟩
theorem en_22 : Enters Try.prog 22 := ⟨_, Try.func22, by kernel_rfl, rfl⟩
theorem en_23 : Enters Try.prog 23 := ⟨_, Try.func23, by kernel_rfl, rfl⟩
theorem en_24 : Enters Try.prog 24 := ⟨_, Try.func24, by kernel_rfl, rfl⟩
theorem en_25 : Enters Try.prog 25 := ⟨_, Try.func25, by kernel_rfl, rfl⟩
theorem en_26 : Enters Try.prog 26 := ⟨_, Try.func26, by kernel_rfl, rfl⟩
theorem en_28 : Enters Try.prog 28 := ⟨_, Try.func28, by kernel_rfl, rfl⟩
theorem en_29 : Enters Try.prog 29 := ⟨_, Try.func29, by kernel_rfl, rfl⟩
theorem en_30 : Enters Try.prog 30 := ⟨_, Try.func30, by kernel_rfl, rfl⟩
theorem en_31 : Enters Try.prog 31 := ⟨_, Try.func31, by kernel_rfl, rfl⟩
theorem en_32 : Enters Try.prog 32 := ⟨_, Try.func32, by kernel_rfl, rfl⟩
theorem en_33 : Enters Try.prog 33 := ⟨_, Try.func33, by kernel_rfl, rfl⟩
theorem en_34 : Enters Try.prog 34 := ⟨_, Try.func34, by kernel_rfl, rfl⟩
theorem en_35 : Enters Try.prog 35 := ⟨_, Try.func35, by kernel_rfl, rfl⟩
theorem en_36 : Enters Try.prog 36 := ⟨_, Try.func36, by kernel_rfl, rfl⟩
theorem en_37 : Enters Try.prog 37 := ⟨_, Try.func37, by kernel_rfl, rfl⟩
theorem en_38 : Enters Try.prog 38 := ⟨_, Try.func38, by kernel_rfl, rfl⟩
theorem en_39 : Enters Try.prog 39 := ⟨_, Try.func39, by kernel_rfl, rfl⟩
theorem en_40 : Enters Try.prog 40 := ⟨_, Try.func40, by kernel_rfl, rfl⟩
theorem en_41 : Enters Try.prog 41 := ⟨_, Try.func41, by kernel_rfl, rfl⟩
theorem en_42 : Enters Try.prog 42 := ⟨_, Try.func42, by kernel_rfl, rfl⟩
theorem en_43 : Enters Try.prog 43 := ⟨_, Try.func43, by kernel_rfl, rfl⟩
theorem en_44 : Enters Try.prog 44 := ⟨_, Try.func44, by kernel_rfl, rfl⟩
theorem en_45 : Enters Try.prog 45 := ⟨_, Try.func45, by kernel_rfl, rfl⟩
theorem en_46 : Enters Try.prog 46 := ⟨_, Try.func46, by kernel_rfl, rfl⟩
theorem en_47 : Enters Try.prog 47 := ⟨_, Try.func47, by kernel_rfl, rfl⟩
theorem en_48 : Enters Try.prog 48 := ⟨_, Try.func48, by kernel_rfl, rfl⟩
theorem en_49 : Enters Try.prog 49 := ⟨_, Try.func49, by kernel_rfl, rfl⟩
theorem en_50 : Enters Try.prog 50 := ⟨_, Try.func50, by kernel_rfl, rfl⟩
theorem en_51 : Enters Try.prog 51 := ⟨_, Try.func51, by kernel_rfl, rfl⟩
theorem en_52 : Enters Try.prog 52 := ⟨_, Try.func52, by kernel_rfl, rfl⟩
theorem en_53 : Enters Try.prog 53 := ⟨_, Try.func53, by kernel_rfl, rfl⟩
theorem en_54 : Enters Try.prog 54 := ⟨_, Try.func54, by kernel_rfl, rfl⟩
theorem en_55 : Enters Try.prog 55 := ⟨_, Try.func55, by kernel_rfl, rfl⟩
theorem en_56 : Enters Try.prog 56 := ⟨_, Try.func56, by kernel_rfl, rfl⟩
theorem en_57 : Enters Try.prog 57 := ⟨_, Try.func57, by kernel_rfl, rfl⟩
theorem en_58 : Enters Try.prog 58 := ⟨_, Try.func58, by kernel_rfl, rfl⟩
theorem en_59 : Enters Try.prog 59 := ⟨_, Try.func59, by kernel_rfl, rfl⟩
theorem en_61 : Enters Try.prog 61 := ⟨_, Try.func61, by kernel_rfl, rfl⟩
theorem en_62 : Enters Try.prog 62 := ⟨_, Try.func62, by kernel_rfl, rfl⟩
theorem en_63 : Enters Try.prog 63 := ⟨_, Try.func63, by kernel_rfl, rfl⟩
theorem en_64 : Enters Try.prog 64 := ⟨_, Try.func64, by kernel_rfl, rfl⟩
theorem en_65 : Enters Try.prog 65 := ⟨_, Try.func65, by kernel_rfl, rfl⟩
theorem en_66 : Enters Try.prog 66 := ⟨_, Try.func66, by kernel_rfl, rfl⟩
theorem en_67 : Enters Try.prog 67 := ⟨_, Try.func67, by kernel_rfl, rfl⟩
theorem en_68 : Enters Try.prog 68 := ⟨_, Try.func68, by kernel_rfl, rfl⟩
theorem en_69 : Enters Try.prog 69 := ⟨_, Try.func69, by kernel_rfl, rfl⟩
theorem en_70 : Enters Try.prog 70 := ⟨_, Try.func70, by kernel_rfl, rfl⟩
theorem en_71 : Enters Try.prog 71 := ⟨_, Try.func71, by kernel_rfl, rfl⟩
theorem en_74 : Enters Try.prog 74 := ⟨_, Try.func74, by kernel_rfl, rfl⟩
theorem en_75 : Enters Try.prog 75 := ⟨_, Try.func75, by kernel_rfl, rfl⟩
theorem en_76 : Enters Try.prog 76 := ⟨_, Try.func76, by kernel_rfl, rfl⟩
theorem en_77 : Enters Try.prog 77 := ⟨_, Try.func77, by kernel_rfl, rfl⟩
theorem en_78 : Enters Try.prog 78 := ⟨_, Try.func78, by kernel_rfl, rfl⟩
theorem en_79 : Enters Try.prog 79 := ⟨_, Try.func79, by kernel_rfl, rfl⟩
theorem en_82 : Enters Try.prog 82 := ⟨_, Try.func82, by kernel_rfl, rfl⟩
theorem en_83 : Enters Try.prog 83 := ⟨_, Try.func83, by kernel_rfl, rfl⟩
theorem en_85 : Enters Try.prog 85 := ⟨_, Try.func85, by kernel_rfl, rfl⟩
theorem en_86 : Enters Try.prog 86 := ⟨_, Try.func86, by kernel_rfl, rfl⟩
theorem en_98 : Enters Try.prog 98 := ⟨_, Try.func98, by kernel_rfl, rfl⟩
theorem mo : Try.prog.follows .mixedOrders = true := by kernel_rfl
end Go.Proofs.Ytkmhecgagibgjaa
