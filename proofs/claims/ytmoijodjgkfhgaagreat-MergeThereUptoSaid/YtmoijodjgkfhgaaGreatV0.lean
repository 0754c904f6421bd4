/- The facts of the program that the walks lean on: zero values, sizes, fields, which function is there. Written by walk.py. -/
import Derived.Test.YtmoijodjgkfhgaaGreatProg
import Derived.KernelRfl
import Derived.Test.YtmoijodjgkfhgaaGreatAwT
namespace Go.Proofs.YtmoijodjgkfhgaaGreat
open Go Aw
set_option linter.unusedVariables false
theorem zxb : Inf Tryz.prog 2 (.int .i64 0) 1 8 := show (Tryz.prog.info? 2).map (fun i => (i.zero, i.size, i.bytes)) = _ from by kernel_rfl
theorem zxa : Inf Tryz.prog 3 (.int .i64 0) 1 8 := show (Tryz.prog.info? 3).map (fun i => (i.zero, i.size, i.bytes)) = _ from by kernel_rfl
theorem zx9 : Inf Tryz.prog 4 (.bool false) 1 1 := show (Tryz.prog.info? 4).map (fun i => (i.zero, i.size, i.bytes)) = _ from by kernel_rfl
theorem inf_5 : Inf Tryz.prog 5 (.int .u8 0) 1 1 := show (Tryz.prog.info? 5).map (fun i => (i.zero, i.size, i.bytes)) = _ from by kernel_rfl
theorem zlf : Inf Tryz.prog 9 (.string ⟨#[]⟩) 1 16 := show (Tryz.prog.info? 9).map (fun i => (i.zero, i.size, i.bytes)) = _ from by kernel_rfl
theorem z1v : Inf Tryz.prog 20 (.nilIface) 1 16 := show (Tryz.prog.info? 20).map (fun i => (i.zero, i.size, i.bytes)) = _ from by kernel_rfl
theorem znp : Inf Tryz.prog 22 (.float .f64 0) 1 8 := show (Tryz.prog.info? 22).map (fun i => (i.zero, i.size, i.bytes)) = _ from by kernel_rfl
theorem zno : Inf Tryz.prog 23 (.slice none 0 0) 1 24 := show (Tryz.prog.info? 23).map (fun i => (i.zero, i.size, i.bytes)) = _ from by kernel_rfl
theorem znn : Inf Tryz.prog 25 (.int .u64 0) 1 8 := show (Tryz.prog.info? 25).map (fun i => (i.zero, i.size, i.bytes)) = _ from by kernel_rfl
theorem zjq : Inf Tryz.prog 29 (.agg #[.int .i64 0, .bool false, .int .i64 0, .float .f64 0, .string ⟨#[]⟩, .slice none 0 0, .int .u64 0, .slice none 0 0, .slice none 0 0, .string ⟨#[]⟩, .int .i64 0]) 11 152 := show (Tryz.prog.info? 29).map (fun i => (i.zero, i.size, i.bytes)) = _ from by kernel_rfl
theorem zjp : Inf Tryz.prog 34 (.int .i64 0) 1 8 := show (Tryz.prog.info? 34).map (fun i => (i.zero, i.size, i.bytes)) = _ from by kernel_rfl
theorem zzj : Inf Tryz.prog 41 (.slice none 0 0) 1 24 := show (Tryz.prog.info? 41).map (fun i => (i.zero, i.size, i.bytes)) = _ from by kernel_rfl
theorem zcg : Inf Tryz.prog 49 (.agg #[.int .i64 0, .slice none 0 0, .nilIface]) 3 48 := show (Tryz.prog.info? 49).map (fun i => (i.zero, i.size, i.bytes)) = _ from by kernel_rfl
theorem zjo : Inf Tryz.prog 59 (.slice none 0 0) 1 24 := show (Tryz.prog.info? 59).map (fun i => (i.zero, i.size, i.bytes)) = _ from by kernel_rfl
theorem znm : Inf Tryz.prog 66 (.slice none 0 0) 1 24 := show (Tryz.prog.info? 66).map (fun i => (i.zero, i.size, i.bytes)) = _ from by kernel_rfl
theorem zeh : Inf Tryz.prog 68 (.slice none 0 0) 1 24 := show (Tryz.prog.info? 68).map (fun i => (i.zero, i.size, i.bytes)) = _ from by kernel_rfl
theorem znl : Inf Tryz.prog 70 (.pointer none) 1 8 := show (Tryz.prog.info? 70).map (fun i => (i.zero, i.size, i.bytes)) = _ from by kernel_rfl
theorem zfu : Inf Tryz.prog 72 (.agg #[.string ⟨#[]⟩, .int .i64 0, .slice none 0 0]) 3 48 := show (Tryz.prog.info? 72).map (fun i => (i.zero, i.size, i.bytes)) = _ from by kernel_rfl
theorem z1u : Inf Tryz.prog 82 (.agg #[.string ⟨#[]⟩, .bool false, .int .i64 0]) 3 32 := show (Tryz.prog.info? 82).map (fun i => (i.zero, i.size, i.bytes)) = _ from by kernel_rfl
theorem z13 : Inf Tryz.prog 86 (.agg #[.string ⟨#[]⟩, .nilIface]) 2 32 := show (Tryz.prog.info? 86).map (fun i => (i.zero, i.size, i.bytes)) = _ from by kernel_rfl
theorem zcf : Inf Tryz.prog 88 (.agg #[.slice none 0 0, .nilIface, .nilIface, .nilIface, .bool false, .bool false, .bool false]) 7 80 := show (Tryz.prog.info? 88).map (fun i => (i.zero, i.size, i.bytes)) = _ from by kernel_rfl
theorem zei : Inf Tryz.prog 100 (.agg #[.string ⟨#[]⟩, .int .i64 0, .bool false, .int .i64 0, .float .f64 0, .string ⟨#[]⟩, .slice none 0 0, .int .u64 0, .slice none 0 0, .slice none 0 0, .string ⟨#[]⟩, .int .i64 0]) 12 168 := show (Tryz.prog.info? 100).map (fun i => (i.zero, i.size, i.bytes)) = _ from by kernel_rfl
theorem Z20 : Inf Tryz.prog 104 (.agg #[.slice none 0 0]) 1 24 := show (Tryz.prog.info? 104).map (fun i => (i.zero, i.size, i.bytes)) = _ from by kernel_rfl
theorem Z1z : Inf Tryz.prog 109 (.agg #[.int .i64 0, .int .i64 0]) 2 16 := show (Tryz.prog.info? 109).map (fun i => (i.zero, i.size, i.bytes)) = _ from by kernel_rfl
theorem ztw : Inf Tryz.prog 119 (.pointer none) 1 8 := show (Tryz.prog.info? 119).map (fun i => (i.zero, i.size, i.bytes)) = _ from by kernel_rfl
theorem Z1y : Inf Tryz.prog 121 (.agg #[.nilFunc, .slice none 0 0]) 2 32 := show (Tryz.prog.info? 121).map (fun i => (i.zero, i.size, i.bytes)) = _ from by kernel_rfl
theorem z1m : Inf Tryz.prog 125 (.agg #[.nilIface, .bool false]) 2 24 := show (Tryz.prog.info? 125).map (fun i => (i.zero, i.size, i.bytes)) = _ from by kernel_rfl
theorem Z1x : Inf Tryz.prog 142 (.agg #[.int .i64 0, .int .i64 0, .int .i64 0]) 3 24 := show (Tryz.prog.info? 142).map (fun i => (i.zero, i.size, i.bytes)) = _ from by kernel_rfl
theorem ztv : Inf Tryz.prog 196 (.nilFunc) 1 8 := show (Tryz.prog.info? 196).map (fun i => (i.zero, i.size, i.bytes)) = _ from by kernel_rfl
theorem Z6s : IsStruct Tryz.prog 29 #[{ name := "Kind", type := 3, offset := 0, embedded := false, tag := "", pkgPath := "", byteOffset := 0 }, { name := "Bool", type := 4, offset := 1, embedded := false, tag := "", pkgPath := "", byteOffset := 8 }, { name := "Int", type := 2, offset := 2, embedded := false, tag := "", pkgPath := "", byteOffset := 16 }, { name := "Float", type := 22, offset := 3, embedded := false, tag := "", pkgPath := "", byteOffset := 24 }, { name := "Text", type := 9, offset := 4, embedded := false, tag := "", pkgPath := "", byteOffset := 32 }, { name := "Bytes", type := 23, offset := 5, embedded := false, tag := "", pkgPath := "", byteOffset := 48 }, { name := "Ref", type := 25, offset := 6, embedded := false, tag := "", pkgPath := "", byteOffset := 72 }, { name := "List", type := 26, offset := 7, embedded := false, tag := "", pkgPath := "", byteOffset := 80 }, { name := "Fields", type := 27, offset := 8, embedded := false, tag := "", pkgPath := "", byteOffset := 104 }, { name := "Class", type := 9, offset := 9, embedded := false, tag := "", pkgPath := "", byteOffset := 128 }, { name := "Version", type := 3, offset := 10, embedded := false, tag := "", pkgPath := "", byteOffset := 144 }] [(0, 1), (1, 1), (2, 1), (3, 1), (4, 1), (5, 1), (6, 1), (7, 1), (8, 1), (9, 1), (10, 1)] := ⟨Tryz.underlying29, by kernel_rfl, by kernel_rfl⟩
theorem Z3p : IsStruct Tryz.prog 49 #[{ name := "What", type := 3, offset := 0, embedded := false, tag := "", pkgPath := "", byteOffset := 0 }, { name := "Way", type := 47, offset := 1, embedded := false, tag := "", pkgPath := "", byteOffset := 8 }, { name := "Value", type := 20, offset := 2, embedded := false, tag := "", pkgPath := "", byteOffset := 32 }] [(0, 1), (1, 1), (2, 1)] := ⟨Tryz.underlying49, by kernel_rfl, by kernel_rfl⟩
theorem zkl : IsStruct Tryz.prog 72 #[{ name := "Class", type := 9, offset := 0, embedded := false, tag := "", pkgPath := "", byteOffset := 0 }, { name := "Version", type := 3, offset := 1, embedded := false, tag := "", pkgPath := "", byteOffset := 16 }, { name := "Fields", type := 68, offset := 2, embedded := false, tag := "", pkgPath := "", byteOffset := 24 }] [(0, 1), (1, 1), (2, 1)] := ⟨Tryz.underlying72, by kernel_rfl, by kernel_rfl⟩
theorem zgh : IsStruct Tryz.prog 82 #[{ name := "Name", type := 9, offset := 0, embedded := false, tag := "", pkgPath := "", byteOffset := 0 }, { name := "At", type := 4, offset := 1, embedded := false, tag := "", pkgPath := "", byteOffset := 16 }, { name := "Index", type := 3, offset := 2, embedded := false, tag := "", pkgPath := "", byteOffset := 24 }] [(0, 1), (1, 1), (2, 1)] := ⟨Tryz.underlying82, by kernel_rfl, by kernel_rfl⟩
theorem z9g : IsStruct Tryz.prog 86 #[{ name := "Name", type := 9, offset := 0, embedded := false, tag := "", pkgPath := "", byteOffset := 0 }, { name := "Value", type := 20, offset := 1, embedded := false, tag := "", pkgPath := "", byteOffset := 16 }] [(0, 1), (1, 1)] := ⟨Tryz.underlying86, by kernel_rfl, by kernel_rfl⟩
theorem Z3o : IsStruct Tryz.prog 88 #[{ name := "Way", type := 47, offset := 0, embedded := false, tag := "", pkgPath := "", byteOffset := 0 }, { name := "Base", type := 20, offset := 1, embedded := false, tag := "", pkgPath := "", byteOffset := 24 }, { name := "Ours", type := 20, offset := 2, embedded := false, tag := "", pkgPath := "", byteOffset := 40 }, { name := "Theirs", type := 20, offset := 3, embedded := false, tag := "", pkgPath := "", byteOffset := 56 }, { name := "Had", type := 4, offset := 4, embedded := false, tag := "", pkgPath := "", byteOffset := 72 }, { name := "WeHave", type := 4, offset := 5, embedded := false, tag := "", pkgPath := "", byteOffset := 73 }, { name := "TheyHave", type := 4, offset := 6, embedded := false, tag := "", pkgPath := "", byteOffset := 74 }] [(0, 1), (1, 1), (2, 1), (3, 1), (4, 1), (5, 1), (6, 1)] := ⟨Tryz.underlying88, by kernel_rfl, by kernel_rfl⟩
theorem Z3r : IsStruct Tryz.prog 100 #[{ name := "Name", type := 9, offset := 0, embedded := false, tag := "", pkgPath := "", byteOffset := 0 }, { name := "Value", type := 29, offset := 1, embedded := false, tag := "", pkgPath := "", byteOffset := 16 }] [(0, 1), (1, 11)] := ⟨Tryz.underlying100, by kernel_rfl, by kernel_rfl⟩
theorem zz4 : IsStruct Tryz.prog 104 #[{ name := "L", type := 102, offset := 0, embedded := false, tag := "", pkgPath := "", byteOffset := 0 }] [(0, 1)] := ⟨Tryz.underlying104, by kernel_rfl, by kernel_rfl⟩
theorem zz3 : IsStruct Tryz.prog 121 #[{ name := "settle", type := 95, offset := 0, embedded := false, tag := "", pkgPath := "tenon/merge", byteOffset := 0 }, { name := "conflicts", type := 59, offset := 1, embedded := false, tag := "", pkgPath := "tenon/merge", byteOffset := 8 }] [(0, 1), (1, 1)] := ⟨Tryz.underlying121, by kernel_rfl, by kernel_rfl⟩
theorem z5r : IsStruct Tryz.prog 125 #[{ name := "v", type := 20, offset := 0, embedded := false, tag := "", pkgPath := "tenon/merge", byteOffset := 0 }, { name := "has", type := 4, offset := 1, embedded := false, tag := "", pkgPath := "tenon/merge", byteOffset := 16 }] [(0, 1), (1, 1)] := ⟨Tryz.underlying125, by kernel_rfl, by kernel_rfl⟩
theorem Z3q : IsStruct Tryz.prog 142 #[{ name := "n", type := 3, offset := 0, embedded := false, tag := "", pkgPath := "tenon/value", byteOffset := 0 }, { name := "deep", type := 3, offset := 1, embedded := false, tag := "", pkgPath := "tenon/value", byteOffset := 8 }, { name := "why", type := 34, offset := 2, embedded := false, tag := "", pkgPath := "tenon/value", byteOffset := 16 }] [(0, 1), (1, 1), (2, 1)] := ⟨Tryz.underlying142, by kernel_rfl, by kernel_rfl⟩
theorem Z5j : z0z Tryz.prog 6 := ⟨_, Tryz.func6, by kernel_rfl, rfl⟩
theorem Zak : z0z Tryz.prog 9 := ⟨_, Tryz.func9, by kernel_rfl, rfl⟩
theorem Z8s : z0z Tryz.prog 15 := ⟨_, Tryz.func15, by kernel_rfl, rfl⟩
theorem Z8r : z0z Tryz.prog 16 := ⟨_, Tryz.func16, by kernel_rfl, rfl⟩
theorem Z2h : z0z Tryz.prog 18 := ⟨_, Tryz.func18, by kernel_rfl, rfl⟩
theorem Z8q : z0z Tryz.prog 19 := ⟨_, Tryz.func19, by kernel_rfl, rfl⟩
theorem zxn : z0z Tryz.prog 20 := ⟨_, Tryz.func20, by kernel_rfl, rfl⟩
theorem Z5n : z0z Tryz.prog 21 := ⟨_, Tryz.func21, by kernel_rfl, rfl⟩
theorem Z8p : z0z Tryz.prog 22 := ⟨_, Tryz.func22, by kernel_rfl, rfl⟩
theorem Z5m : z0z Tryz.prog 25 := ⟨_, Tryz.func25, by kernel_rfl, rfl⟩
theorem Z5l : z0z Tryz.prog 26 := ⟨_, Tryz.func26, by kernel_rfl, rfl⟩
theorem zub : z0z Tryz.prog 31 := ⟨_, Tryz.func31, by kernel_rfl, rfl⟩
theorem Z2g : z0z Tryz.prog 32 := ⟨_, Tryz.func32, by kernel_rfl, rfl⟩
theorem zua : z0z Tryz.prog 33 := ⟨_, Tryz.func33, by kernel_rfl, rfl⟩
theorem Z5k : z0z Tryz.prog 34 := ⟨_, Tryz.func34, by kernel_rfl, rfl⟩
theorem Z8o : z0z Tryz.prog 35 := ⟨_, Tryz.func35, by kernel_rfl, rfl⟩
theorem Z8n : z0z Tryz.prog 37 := ⟨_, Tryz.func37, by kernel_rfl, rfl⟩
theorem Z2f : z0z Tryz.prog 38 := ⟨_, Tryz.func38, by kernel_rfl, rfl⟩
theorem zxm : z0z Tryz.prog 39 := ⟨_, Tryz.func39, by kernel_rfl, rfl⟩
theorem Z2e : z0z Tryz.prog 40 := ⟨_, Tryz.func40, by kernel_rfl, rfl⟩
theorem Z8m : z0z Tryz.prog 48 := ⟨_, Tryz.func48, by kernel_rfl, rfl⟩
theorem zxl : z0z Tryz.prog 49 := ⟨_, Tryz.func49, by kernel_rfl, rfl⟩
theorem zxk : z0z Tryz.prog 50 := ⟨_, Tryz.func50, by kernel_rfl, rfl⟩
theorem zq1 : z0z Tryz.prog 56 := ⟨_, Tryz.func56, by kernel_rfl, rfl⟩
theorem zxj : z0z Tryz.prog 57 := ⟨_, Tryz.func57, by kernel_rfl, rfl⟩
theorem Z8l : z0z Tryz.prog 58 := ⟨_, Tryz.func58, by kernel_rfl, rfl⟩
theorem Z8k : z0z Tryz.prog 59 := ⟨_, Tryz.func59, by kernel_rfl, rfl⟩
theorem zq0 : z0z Tryz.prog 60 := ⟨_, Tryz.func60, by kernel_rfl, rfl⟩
theorem Z8j : z0z Tryz.prog 61 := ⟨_, Tryz.func61, by kernel_rfl, rfl⟩
theorem zu9 : z0z Tryz.prog 62 := ⟨_, Tryz.func62, by kernel_rfl, rfl⟩
theorem Z5i : z0z Tryz.prog 63 := ⟨_, Tryz.func63, by kernel_rfl, rfl⟩
theorem zh9 : z0z Tryz.prog 64 := ⟨_, Tryz.func64, by kernel_rfl, rfl⟩
theorem Z8i : z0z Tryz.prog 65 := ⟨_, Tryz.func65, by kernel_rfl, rfl⟩
theorem Z8h : z0z Tryz.prog 66 := ⟨_, Tryz.func66, by kernel_rfl, rfl⟩
theorem Z2d : z0z Tryz.prog 67 := ⟨_, Tryz.func67, by kernel_rfl, rfl⟩
theorem Z2c : z0z Tryz.prog 68 := ⟨_, Tryz.func68, by kernel_rfl, rfl⟩
theorem Z2b : z0z Tryz.prog 69 := ⟨_, Tryz.func69, by kernel_rfl, rfl⟩
theorem zxi : z0z Tryz.prog 70 := ⟨_, Tryz.func70, by kernel_rfl, rfl⟩
theorem Z5h : z0z Tryz.prog 71 := ⟨_, Tryz.func71, by kernel_rfl, rfl⟩
theorem Z8g : z0z Tryz.prog 72 := ⟨_, Tryz.func72, by kernel_rfl, rfl⟩
theorem Z8f : z0z Tryz.prog 73 := ⟨_, Tryz.func73, by kernel_rfl, rfl⟩
theorem Z5g : z0z Tryz.prog 74 := ⟨_, Tryz.func74, by kernel_rfl, rfl⟩
theorem Z2a : z0z Tryz.prog 75 := ⟨_, Tryz.func75, by kernel_rfl, rfl⟩
theorem Z8e : z0z Tryz.prog 76 := ⟨_, Tryz.func76, by kernel_rfl, rfl⟩
theorem Z8d : z0z Tryz.prog 77 := ⟨_, Tryz.func77, by kernel_rfl, rfl⟩
theorem Z8c : z0z Tryz.prog 78 := ⟨_, Tryz.func78, by kernel_rfl, rfl⟩
theorem Z5f : z0z Tryz.prog 79 := ⟨_, Tryz.func79, by kernel_rfl, rfl⟩
theorem Z8b : z0z Tryz.prog 80 := ⟨_, Tryz.func80, by kernel_rfl, rfl⟩
theorem Z29 : z0z Tryz.prog 86 := ⟨_, Tryz.func86, by kernel_rfl, rfl⟩
theorem Z8a : z0z Tryz.prog 87 := ⟨_, Tryz.func87, by kernel_rfl, rfl⟩
theorem Z89 : z0z Tryz.prog 88 := ⟨_, Tryz.func88, by kernel_rfl, rfl⟩
theorem Z88 : z0z Tryz.prog 89 := ⟨_, Tryz.func89, by kernel_rfl, rfl⟩
theorem Z87 : z0z Tryz.prog 97 := ⟨_, Tryz.func97, by kernel_rfl, rfl⟩
theorem Z5e : z0z Tryz.prog 98 := ⟨_, Tryz.func98, by kernel_rfl, rfl⟩
theorem Z5d : z0z Tryz.prog 99 := ⟨_, Tryz.func99, by kernel_rfl, rfl⟩
theorem Z62 : z0z Tryz.prog 100 := ⟨_, Tryz.func100, by kernel_rfl, rfl⟩
theorem zue : z0z Tryz.prog 101 := ⟨_, Tryz.func101, by kernel_rfl, rfl⟩
theorem zzy : z0z Tryz.prog 102 := ⟨_, Tryz.func102, by kernel_rfl, rfl⟩
theorem Z61 : z0z Tryz.prog 103 := ⟨_, Tryz.func103, by kernel_rfl, rfl⟩
theorem zzx : z0z Tryz.prog 104 := ⟨_, Tryz.func104, by kernel_rfl, rfl⟩
theorem Z60 : z0z Tryz.prog 105 := ⟨_, Tryz.func105, by kernel_rfl, rfl⟩
theorem zzw : z0z Tryz.prog 106 := ⟨_, Tryz.func106, by kernel_rfl, rfl⟩
theorem Z5z : z0z Tryz.prog 107 := ⟨_, Tryz.func107, by kernel_rfl, rfl⟩
theorem zzv : z0z Tryz.prog 108 := ⟨_, Tryz.func108, by kernel_rfl, rfl⟩
theorem Z5y : z0z Tryz.prog 109 := ⟨_, Tryz.func109, by kernel_rfl, rfl⟩
theorem zud : z0z Tryz.prog 112 := ⟨_, Tryz.func112, by kernel_rfl, rfl⟩
theorem Z5x : z0z Tryz.prog 113 := ⟨_, Tryz.func113, by kernel_rfl, rfl⟩
theorem Z5w : z0z Tryz.prog 114 := ⟨_, Tryz.func114, by kernel_rfl, rfl⟩
theorem zuc : z0z Tryz.prog 115 := ⟨_, Tryz.func115, by kernel_rfl, rfl⟩
theorem Z5v : z0z Tryz.prog 116 := ⟨_, Tryz.func116, by kernel_rfl, rfl⟩
theorem Z5u : z0z Tryz.prog 122 := ⟨_, Tryz.func122, by kernel_rfl, rfl⟩
theorem Z5t : z0z Tryz.prog 123 := ⟨_, Tryz.func123, by kernel_rfl, rfl⟩
theorem Z5s : z0z Tryz.prog 124 := ⟨_, Tryz.func124, by kernel_rfl, rfl⟩
theorem zzu : z0z Tryz.prog 125 := ⟨_, Tryz.func125, by kernel_rfl, rfl⟩
theorem zzt : z0z Tryz.prog 126 := ⟨_, Tryz.func126, by kernel_rfl, rfl⟩
theorem zzs : z0z Tryz.prog 127 := ⟨_, Tryz.func127, by kernel_rfl, rfl⟩
theorem zzr : z0z Tryz.prog 128 := ⟨_, Tryz.func128, by kernel_rfl, rfl⟩
theorem Z5r : z0z Tryz.prog 132 := ⟨_, Tryz.func132, by kernel_rfl, rfl⟩
theorem Z5q : z0z Tryz.prog 133 := ⟨_, Tryz.func133, by kernel_rfl, rfl⟩
theorem zzq : z0z Tryz.prog 135 := ⟨_, Tryz.func135, by kernel_rfl, rfl⟩
theorem Z5p : z0z Tryz.prog 136 := ⟨_, Tryz.func136, by kernel_rfl, rfl⟩
theorem Z5o : z0z Tryz.prog 155 := ⟨_, Tryz.func155, by kernel_rfl, rfl⟩
theorem mo : Tryz.prog.follows .mixedOrders = true := by kernel_rfl
end Go.Proofs.YtmoijodjgkfhgaaGreat
