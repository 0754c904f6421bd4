/- The facts of the program that the walks lean on: zero values, sizes, fields, which function is there. Written by walk.py. -/
import Derived.Test.YthidgpcbnieleaaGreatDoorProg
import Derived.KernelRfl
import Derived.Test.YthidgpcbnieleaaGreatDoorAwT
namespace Go.Proofs.YthidgpcbnieleaaGreatDoor
open Go Aw
set_option linter.unusedVariables false
theorem zva : Inf Tryz.prog 2 (.int .i64 0) 1 8 := show (Tryz.prog.info? 2).map (fun i => (i.zero, i.size, i.bytes)) = _ from by kernel_rfl
theorem z8f : Inf Tryz.prog 3 (.int .i64 0) 1 8 := show (Tryz.prog.info? 3).map (fun i => (i.zero, i.size, i.bytes)) = _ from by kernel_rfl
theorem z3a : Inf Tryz.prog 4 (.bool false) 1 1 := show (Tryz.prog.info? 4).map (fun i => (i.zero, i.size, i.bytes)) = _ from by kernel_rfl
theorem inf_5 : Inf Tryz.prog 5 (.int .u8 0) 1 1 := show (Tryz.prog.info? 5).map (fun i => (i.zero, i.size, i.bytes)) = _ from by kernel_rfl
theorem zv9 : Inf Tryz.prog 9 (.string ⟨#[]⟩) 1 16 := show (Tryz.prog.info? 9).map (fun i => (i.zero, i.size, i.bytes)) = _ from by kernel_rfl
theorem z1t : Inf Tryz.prog 20 (.nilIface) 1 16 := show (Tryz.prog.info? 20).map (fun i => (i.zero, i.size, i.bytes)) = _ from by kernel_rfl
theorem zmf : Inf Tryz.prog 22 (.float .f64 0) 1 8 := show (Tryz.prog.info? 22).map (fun i => (i.zero, i.size, i.bytes)) = _ from by kernel_rfl
theorem zme : Inf Tryz.prog 23 (.slice none 0 0) 1 24 := show (Tryz.prog.info? 23).map (fun i => (i.zero, i.size, i.bytes)) = _ from by kernel_rfl
theorem zmd : Inf Tryz.prog 25 (.int .u64 0) 1 8 := show (Tryz.prog.info? 25).map (fun i => (i.zero, i.size, i.bytes)) = _ from by kernel_rfl
theorem ziq : Inf Tryz.prog 29 (.agg #[.int .i64 0, .bool false, .int .i64 0, .float .f64 0, .string ⟨#[]⟩, .slice none 0 0, .int .u64 0, .slice none 0 0, .slice none 0 0, .string ⟨#[]⟩, .int .i64 0]) 11 152 := show (Tryz.prog.info? 29).map (fun i => (i.zero, i.size, i.bytes)) = _ from by kernel_rfl
theorem zxh : Inf Tryz.prog 30 (.slice none 0 0) 1 24 := show (Tryz.prog.info? 30).map (fun i => (i.zero, i.size, i.bytes)) = _ from by kernel_rfl
theorem z3x : Inf Tryz.prog 33 (.int .i64 0) 1 8 := show (Tryz.prog.info? 33).map (fun i => (i.zero, i.size, i.bytes)) = _ from by kernel_rfl
theorem zxg : Inf Tryz.prog 46 (.slice none 0 0) 1 24 := show (Tryz.prog.info? 46).map (fun i => (i.zero, i.size, i.bytes)) = _ from by kernel_rfl
theorem zip : Inf Tryz.prog 53 (.agg #[.int .i64 0, .slice none 0 0, .nilIface]) 3 48 := show (Tryz.prog.info? 53).map (fun i => (i.zero, i.size, i.bytes)) = _ from by kernel_rfl
theorem zxf : Inf Tryz.prog 61 (.slice none 0 0) 1 24 := show (Tryz.prog.info? 61).map (fun i => (i.zero, i.size, i.bytes)) = _ from by kernel_rfl
theorem zmc : Inf Tryz.prog 67 (.slice none 0 0) 1 24 := show (Tryz.prog.info? 67).map (fun i => (i.zero, i.size, i.bytes)) = _ from by kernel_rfl
theorem z0z : Inf Tryz.prog 69 (.agg #[.string ⟨#[]⟩, .nilIface]) 2 32 := show (Tryz.prog.info? 69).map (fun i => (i.zero, i.size, i.bytes)) = _ from by kernel_rfl
theorem zmb : Inf Tryz.prog 71 (.slice none 0 0) 1 24 := show (Tryz.prog.info? 71).map (fun i => (i.zero, i.size, i.bytes)) = _ from by kernel_rfl
theorem zma : Inf Tryz.prog 73 (.pointer none) 1 8 := show (Tryz.prog.info? 73).map (fun i => (i.zero, i.size, i.bytes)) = _ from by kernel_rfl
theorem zez : Inf Tryz.prog 75 (.agg #[.string ⟨#[]⟩, .int .i64 0, .slice none 0 0]) 3 48 := show (Tryz.prog.info? 75).map (fun i => (i.zero, i.size, i.bytes)) = _ from by kernel_rfl
theorem z1h : Inf Tryz.prog 83 (.agg #[.string ⟨#[]⟩, .bool false, .int .i64 0]) 3 32 := show (Tryz.prog.info? 83).map (fun i => (i.zero, i.size, i.bytes)) = _ from by kernel_rfl
theorem zs1 : Inf Tryz.prog 109 (.agg #[.int .i64 0, .int .i64 0, .int .i64 0]) 3 24 := show (Tryz.prog.info? 109).map (fun i => (i.zero, i.size, i.bytes)) = _ from by kernel_rfl
theorem zdg : Inf Tryz.prog 113 (.agg #[.string ⟨#[]⟩, .int .i64 0, .bool false, .int .i64 0, .float .f64 0, .string ⟨#[]⟩, .slice none 0 0, .int .u64 0, .slice none 0 0, .slice none 0 0, .string ⟨#[]⟩, .int .i64 0]) 12 168 := show (Tryz.prog.info? 113).map (fun i => (i.zero, i.size, i.bytes)) = _ from by kernel_rfl
theorem zzo : Inf Tryz.prog 117 (.agg #[.slice none 0 0]) 1 24 := show (Tryz.prog.info? 117).map (fun i => (i.zero, i.size, i.bytes)) = _ from by kernel_rfl
theorem zzn : Inf Tryz.prog 122 (.agg #[.int .i64 0, .int .i64 0]) 2 16 := show (Tryz.prog.info? 122).map (fun i => (i.zero, i.size, i.bytes)) = _ from by kernel_rfl
theorem Z4g : IsStruct Tryz.prog 29 #[{ name := "Kind", type := 3, offset := 0, embedded := false, tag := "", pkgPath := "", byteOffset := 0 }, { name := "Bool", type := 4, offset := 1, embedded := false, tag := "", pkgPath := "", byteOffset := 8 }, { name := "Int", type := 2, offset := 2, embedded := false, tag := "", pkgPath := "", byteOffset := 16 }, { name := "Float", type := 22, offset := 3, embedded := false, tag := "", pkgPath := "", byteOffset := 24 }, { name := "Text", type := 9, offset := 4, embedded := false, tag := "", pkgPath := "", byteOffset := 32 }, { name := "Bytes", type := 23, offset := 5, embedded := false, tag := "", pkgPath := "", byteOffset := 48 }, { name := "Ref", type := 25, offset := 6, embedded := false, tag := "", pkgPath := "", byteOffset := 72 }, { name := "List", type := 26, offset := 7, embedded := false, tag := "", pkgPath := "", byteOffset := 80 }, { name := "Fields", type := 27, offset := 8, embedded := false, tag := "", pkgPath := "", byteOffset := 104 }, { name := "Class", type := 9, offset := 9, embedded := false, tag := "", pkgPath := "", byteOffset := 128 }, { name := "Version", type := 3, offset := 10, embedded := false, tag := "", pkgPath := "", byteOffset := 144 }] [(0, 1), (1, 1), (2, 1), (3, 1), (4, 1), (5, 1), (6, 1), (7, 1), (8, 1), (9, 1), (10, 1)] := ⟨Tryz.underlying29, by kernel_rfl, by kernel_rfl⟩
theorem Z1h : IsStruct Tryz.prog 53 #[{ name := "What", type := 3, offset := 0, embedded := false, tag := "", pkgPath := "", byteOffset := 0 }, { name := "Way", type := 30, offset := 1, embedded := false, tag := "", pkgPath := "", byteOffset := 8 }, { name := "Value", type := 20, offset := 2, embedded := false, tag := "", pkgPath := "", byteOffset := 32 }] [(0, 1), (1, 1), (2, 1)] := ⟨Tryz.underlying53, by kernel_rfl, by kernel_rfl⟩
theorem zgu : IsStruct Tryz.prog 69 #[{ name := "Name", type := 9, offset := 0, embedded := false, tag := "", pkgPath := "", byteOffset := 0 }, { name := "Value", type := 20, offset := 1, embedded := false, tag := "", pkgPath := "", byteOffset := 16 }] [(0, 1), (1, 1)] := ⟨Tryz.underlying69, by kernel_rfl, by kernel_rfl⟩
theorem zjd : IsStruct Tryz.prog 75 #[{ name := "Class", type := 9, offset := 0, embedded := false, tag := "", pkgPath := "", byteOffset := 0 }, { name := "Version", type := 3, offset := 1, embedded := false, tag := "", pkgPath := "", byteOffset := 16 }, { name := "Fields", type := 71, offset := 2, embedded := false, tag := "", pkgPath := "", byteOffset := 24 }] [(0, 1), (1, 1), (2, 1)] := ⟨Tryz.underlying75, by kernel_rfl, by kernel_rfl⟩
theorem z8e : IsStruct Tryz.prog 83 #[{ name := "Name", type := 9, offset := 0, embedded := false, tag := "", pkgPath := "", byteOffset := 0 }, { name := "At", type := 4, offset := 1, embedded := false, tag := "", pkgPath := "", byteOffset := 16 }, { name := "Index", type := 3, offset := 2, embedded := false, tag := "", pkgPath := "", byteOffset := 24 }] [(0, 1), (1, 1), (2, 1)] := ⟨Tryz.underlying83, by kernel_rfl, by kernel_rfl⟩
theorem Z1j : IsStruct Tryz.prog 109 #[{ name := "n", type := 3, offset := 0, embedded := false, tag := "", pkgPath := "tenon/value", byteOffset := 0 }, { name := "deep", type := 3, offset := 1, embedded := false, tag := "", pkgPath := "tenon/value", byteOffset := 8 }, { name := "why", type := 33, offset := 2, embedded := false, tag := "", pkgPath := "tenon/value", byteOffset := 16 }] [(0, 1), (1, 1), (2, 1)] := ⟨Tryz.underlying109, by kernel_rfl, by kernel_rfl⟩
theorem Z1i : IsStruct Tryz.prog 113 #[{ name := "Name", type := 9, offset := 0, embedded := false, tag := "", pkgPath := "", byteOffset := 0 }, { name := "Value", type := 29, offset := 1, embedded := false, tag := "", pkgPath := "", byteOffset := 16 }] [(0, 1), (1, 11)] := ⟨Tryz.underlying113, by kernel_rfl, by kernel_rfl⟩
theorem zx0 : IsStruct Tryz.prog 117 #[{ name := "L", type := 115, offset := 0, embedded := false, tag := "", pkgPath := "", byteOffset := 0 }] [(0, 1)] := ⟨Tryz.underlying117, by kernel_rfl, by kernel_rfl⟩
theorem Z9p : z0v Tryz.prog 8 := ⟨_, Tryz.func8, by kernel_rfl, rfl⟩
theorem Z6w : z0v Tryz.prog 9 := ⟨_, Tryz.func9, by kernel_rfl, rfl⟩
theorem Z7p : z0v Tryz.prog 10 := ⟨_, Tryz.func10, by kernel_rfl, rfl⟩
theorem Z3v : z0v Tryz.prog 11 := ⟨_, Tryz.func11, by kernel_rfl, rfl⟩
theorem zop : z0v Tryz.prog 12 := ⟨_, Tryz.func12, by kernel_rfl, rfl⟩
theorem Z7o : z0v Tryz.prog 15 := ⟨_, Tryz.func15, by kernel_rfl, rfl⟩
theorem Z7n : z0v Tryz.prog 19 := ⟨_, Tryz.func19, by kernel_rfl, rfl⟩
theorem Z7m : z0v Tryz.prog 20 := ⟨_, Tryz.func20, by kernel_rfl, rfl⟩
theorem Z7l : z0v Tryz.prog 21 := ⟨_, Tryz.func21, by kernel_rfl, rfl⟩
theorem Z7k : z0v Tryz.prog 22 := ⟨_, Tryz.func22, by kernel_rfl, rfl⟩
theorem Z7j : z0v Tryz.prog 23 := ⟨_, Tryz.func23, by kernel_rfl, rfl⟩
theorem Z7i : z0v Tryz.prog 24 := ⟨_, Tryz.func24, by kernel_rfl, rfl⟩
theorem Z7h : z0v Tryz.prog 25 := ⟨_, Tryz.func25, by kernel_rfl, rfl⟩
theorem Z7g : z0v Tryz.prog 26 := ⟨_, Tryz.func26, by kernel_rfl, rfl⟩
theorem Z7f : z0v Tryz.prog 27 := ⟨_, Tryz.func27, by kernel_rfl, rfl⟩
theorem Z3s : z0v Tryz.prog 28 := ⟨_, Tryz.func28, by kernel_rfl, rfl⟩
theorem Z7e : z0v Tryz.prog 29 := ⟨_, Tryz.func29, by kernel_rfl, rfl⟩
theorem Z0a : z0v Tryz.prog 30 := ⟨_, Tryz.func30, by kernel_rfl, rfl⟩
theorem zki : z0v Tryz.prog 31 := ⟨_, Tryz.func31, by kernel_rfl, rfl⟩
theorem zkh : z0v Tryz.prog 32 := ⟨_, Tryz.func32, by kernel_rfl, rfl⟩
theorem zvp : z0v Tryz.prog 33 := ⟨_, Tryz.func33, by kernel_rfl, rfl⟩
theorem Z7d : z0v Tryz.prog 34 := ⟨_, Tryz.func34, by kernel_rfl, rfl⟩
theorem zvo : z0v Tryz.prog 35 := ⟨_, Tryz.func35, by kernel_rfl, rfl⟩
theorem Z7c : z0v Tryz.prog 36 := ⟨_, Tryz.func36, by kernel_rfl, rfl⟩
theorem zvn : z0v Tryz.prog 37 := ⟨_, Tryz.func37, by kernel_rfl, rfl⟩
theorem Z09 : z0v Tryz.prog 38 := ⟨_, Tryz.func38, by kernel_rfl, rfl⟩
theorem Z7b : z0v Tryz.prog 39 := ⟨_, Tryz.func39, by kernel_rfl, rfl⟩
theorem Z7a : z0v Tryz.prog 43 := ⟨_, Tryz.func43, by kernel_rfl, rfl⟩
theorem Z08 : z0v Tryz.prog 45 := ⟨_, Tryz.func45, by kernel_rfl, rfl⟩
theorem zse : z0v Tryz.prog 46 := ⟨_, Tryz.func46, by kernel_rfl, rfl⟩
theorem zvm : z0v Tryz.prog 47 := ⟨_, Tryz.func47, by kernel_rfl, rfl⟩
theorem Z07 : z0v Tryz.prog 48 := ⟨_, Tryz.func48, by kernel_rfl, rfl⟩
theorem zvl : z0v Tryz.prog 49 := ⟨_, Tryz.func49, by kernel_rfl, rfl⟩
theorem zvk : z0v Tryz.prog 50 := ⟨_, Tryz.func50, by kernel_rfl, rfl⟩
theorem Z3r : z0v Tryz.prog 51 := ⟨_, Tryz.func51, by kernel_rfl, rfl⟩
theorem Z79 : z0v Tryz.prog 52 := ⟨_, Tryz.func52, by kernel_rfl, rfl⟩
theorem Z78 : z0v Tryz.prog 53 := ⟨_, Tryz.func53, by kernel_rfl, rfl⟩
theorem Z06 : z0v Tryz.prog 55 := ⟨_, Tryz.func55, by kernel_rfl, rfl⟩
theorem zsd : z0v Tryz.prog 56 := ⟨_, Tryz.func56, by kernel_rfl, rfl⟩
theorem Z3q : z0v Tryz.prog 57 := ⟨_, Tryz.func57, by kernel_rfl, rfl⟩
theorem Z3p : z0v Tryz.prog 58 := ⟨_, Tryz.func58, by kernel_rfl, rfl⟩
theorem Z05 : z0v Tryz.prog 59 := ⟨_, Tryz.func59, by kernel_rfl, rfl⟩
theorem zvj : z0v Tryz.prog 60 := ⟨_, Tryz.func60, by kernel_rfl, rfl⟩
theorem Z3o : z0v Tryz.prog 61 := ⟨_, Tryz.func61, by kernel_rfl, rfl⟩
theorem Z77 : z0v Tryz.prog 62 := ⟨_, Tryz.func62, by kernel_rfl, rfl⟩
theorem Z76 : z0v Tryz.prog 63 := ⟨_, Tryz.func63, by kernel_rfl, rfl⟩
theorem Z3n : z0v Tryz.prog 64 := ⟨_, Tryz.func64, by kernel_rfl, rfl⟩
theorem Z04 : z0v Tryz.prog 65 := ⟨_, Tryz.func65, by kernel_rfl, rfl⟩
theorem Z75 : z0v Tryz.prog 66 := ⟨_, Tryz.func66, by kernel_rfl, rfl⟩
theorem Z74 : z0v Tryz.prog 67 := ⟨_, Tryz.func67, by kernel_rfl, rfl⟩
theorem Z73 : z0v Tryz.prog 68 := ⟨_, Tryz.func68, by kernel_rfl, rfl⟩
theorem Z3m : z0v Tryz.prog 69 := ⟨_, Tryz.func69, by kernel_rfl, rfl⟩
theorem Z72 : z0v Tryz.prog 70 := ⟨_, Tryz.func70, by kernel_rfl, rfl⟩
theorem Z71 : z0v Tryz.prog 71 := ⟨_, Tryz.func71, by kernel_rfl, rfl⟩
theorem Z03 : z0v Tryz.prog 74 := ⟨_, Tryz.func74, by kernel_rfl, rfl⟩
theorem Z70 : z0v Tryz.prog 75 := ⟨_, Tryz.func75, by kernel_rfl, rfl⟩
theorem Z3l : z0v Tryz.prog 76 := ⟨_, Tryz.func76, by kernel_rfl, rfl⟩
theorem zoo : z0v Tryz.prog 79 := ⟨_, Tryz.func79, by kernel_rfl, rfl⟩
theorem zvi : z0v Tryz.prog 80 := ⟨_, Tryz.func80, by kernel_rfl, rfl⟩
theorem Z6z : z0v Tryz.prog 81 := ⟨_, Tryz.func81, by kernel_rfl, rfl⟩
theorem Z02 : z0v Tryz.prog 82 := ⟨_, Tryz.func82, by kernel_rfl, rfl⟩
theorem Z3k : z0v Tryz.prog 83 := ⟨_, Tryz.func83, by kernel_rfl, rfl⟩
theorem Z01 : z0v Tryz.prog 84 := ⟨_, Tryz.func84, by kernel_rfl, rfl⟩
theorem zvh : z0v Tryz.prog 85 := ⟨_, Tryz.func85, by kernel_rfl, rfl⟩
theorem Z6y : z0v Tryz.prog 86 := ⟨_, Tryz.func86, by kernel_rfl, rfl⟩
theorem Z3j : z0v Tryz.prog 87 := ⟨_, Tryz.func87, by kernel_rfl, rfl⟩
theorem Z3i : z0v Tryz.prog 88 := ⟨_, Tryz.func88, by kernel_rfl, rfl⟩
theorem Z6x : z0v Tryz.prog 89 := ⟨_, Tryz.func89, by kernel_rfl, rfl⟩
theorem Z00 : z0v Tryz.prog 90 := ⟨_, Tryz.func90, by kernel_rfl, rfl⟩
theorem Z3h : z0v Tryz.prog 91 := ⟨_, Tryz.func91, by kernel_rfl, rfl⟩
theorem zzz : z0v Tryz.prog 92 := ⟨_, Tryz.func92, by kernel_rfl, rfl⟩
theorem Z6v : z0v Tryz.prog 93 := ⟨_, Tryz.func93, by kernel_rfl, rfl⟩
theorem Z3g : z0v Tryz.prog 94 := ⟨_, Tryz.func94, by kernel_rfl, rfl⟩
theorem Z6u : z0v Tryz.prog 95 := ⟨_, Tryz.func95, by kernel_rfl, rfl⟩
theorem Z3f : z0v Tryz.prog 96 := ⟨_, Tryz.func96, by kernel_rfl, rfl⟩
theorem zvg : z0v Tryz.prog 97 := ⟨_, Tryz.func97, by kernel_rfl, rfl⟩
theorem Z6t : z0v Tryz.prog 98 := ⟨_, Tryz.func98, by kernel_rfl, rfl⟩
theorem Z3x : z0v Tryz.prog 100 := ⟨_, Tryz.func100, by kernel_rfl, rfl⟩
theorem zxs : z0v Tryz.prog 103 := ⟨_, Tryz.func103, by kernel_rfl, rfl⟩
theorem zsf : z0v Tryz.prog 106 := ⟨_, Tryz.func106, by kernel_rfl, rfl⟩
theorem zxr : z0v Tryz.prog 107 := ⟨_, Tryz.func107, by kernel_rfl, rfl⟩
theorem zxq : z0v Tryz.prog 108 := ⟨_, Tryz.func108, by kernel_rfl, rfl⟩
theorem Z3w : z0v Tryz.prog 109 := ⟨_, Tryz.func109, by kernel_rfl, rfl⟩
theorem zxp : z0v Tryz.prog 110 := ⟨_, Tryz.func110, by kernel_rfl, rfl⟩
theorem Z3u : z0v Tryz.prog 111 := ⟨_, Tryz.func111, by kernel_rfl, rfl⟩
theorem zxo : z0v Tryz.prog 112 := ⟨_, Tryz.func112, by kernel_rfl, rfl⟩
theorem zxn : z0v Tryz.prog 115 := ⟨_, Tryz.func115, by kernel_rfl, rfl⟩
theorem Z3t : z0v Tryz.prog 120 := ⟨_, Tryz.func120, by kernel_rfl, rfl⟩
theorem mo : Tryz.prog.follows .mixedOrders = true := by kernel_rfl
end Go.Proofs.YthidgpcbnieleaaGreatDoor
