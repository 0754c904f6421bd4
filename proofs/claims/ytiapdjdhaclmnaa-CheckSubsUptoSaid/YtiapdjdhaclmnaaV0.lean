/- The facts of the program that the walks lean on: zero values, sizes, fields, which function is there. Written by walk.py. -/
import Derived.Test.YtiapdjdhaclmnaaProg
import Derived.KernelRfl
import Derived.Test.YtiapdjdhaclmnaaAwT
namespace Go.Proofs.Ytiapdjdhaclmnaa
open Go Aw
set_option linter.unusedVariables false
theorem zse : Inf Try.prog 2 (.int .i64 0) 1 8 := show (Try.prog.info? 2).map (fun i => (i.zero, i.size, i.bytes)) = _ from by kernel_rfl
theorem zfw : Inf Try.prog 3 (.int .i64 0) 1 8 := show (Try.prog.info? 3).map (fun i => (i.zero, i.size, i.bytes)) = _ from by kernel_rfl
theorem inf_4 : Inf Try.prog 4 (.bool false) 1 1 := show (Try.prog.info? 4).map (fun i => (i.zero, i.size, i.bytes)) = _ from by kernel_rfl
theorem inf_5 : Inf Try.prog 5 (.int .u8 0) 1 1 := show (Try.prog.info? 5).map (fun i => (i.zero, i.size, i.bytes)) = _ from by kernel_rfl
theorem inf_9 : Inf Try.prog 9 (.string ⟨#[]⟩) 1 16 := show (Try.prog.info? 9).map (fun i => (i.zero, i.size, i.bytes)) = _ from by kernel_rfl
theorem zbe : Inf Try.prog 20 (.nilIface) 1 16 := show (Try.prog.info? 20).map (fun i => (i.zero, i.size, i.bytes)) = _ from by kernel_rfl
theorem zi9 : Inf Try.prog 22 (.float .f64 0) 1 8 := show (Try.prog.info? 22).map (fun i => (i.zero, i.size, i.bytes)) = _ from by kernel_rfl
theorem zi8 : Inf Try.prog 23 (.slice none 0 0) 1 24 := show (Try.prog.info? 23).map (fun i => (i.zero, i.size, i.bytes)) = _ from by kernel_rfl
theorem zi7 : Inf Try.prog 25 (.int .u64 0) 1 8 := show (Try.prog.info? 25).map (fun i => (i.zero, i.size, i.bytes)) = _ from by kernel_rfl
theorem Z3e : Inf Try.prog 26 (.slice none 0 0) 1 24 := show (Try.prog.info? 26).map (fun i => (i.zero, i.size, i.bytes)) = _ from by kernel_rfl
theorem zqb : Inf Try.prog 27 (.slice none 0 0) 1 24 := show (Try.prog.info? 27).map (fun i => (i.zero, i.size, i.bytes)) = _ from by kernel_rfl
theorem z20 : Inf Try.prog 29 (.agg #[.int .i64 0, .bool false, .int .i64 0, .float .f64 0, .string ⟨#[]⟩, .slice none 0 0, .int .u64 0, .slice none 0 0, .slice none 0 0, .string ⟨#[]⟩, .int .i64 0]) 11 152 := show (Try.prog.info? 29).map (fun i => (i.zero, i.size, i.bytes)) = _ from by kernel_rfl
theorem zfv : Inf Try.prog 30 (.slice none 0 0) 1 24 := show (Try.prog.info? 30).map (fun i => (i.zero, i.size, i.bytes)) = _ from by kernel_rfl
theorem Z3d : Inf Try.prog 31 (.slice none 0 0) 1 24 := show (Try.prog.info? 31).map (fun i => (i.zero, i.size, i.bytes)) = _ from by kernel_rfl
theorem Z3c : Inf Try.prog 32 (.slice none 0 0) 1 24 := show (Try.prog.info? 32).map (fun i => (i.zero, i.size, i.bytes)) = _ from by kernel_rfl
theorem z0u : Inf Try.prog 34 (.agg #[.int .i64 0, .int .i64 0, .int .i64 0, .bool false, .int .i64 0, .float .f64 0, .string ⟨#[]⟩, .slice none 0 0, .int .u64 0, .slice none 0 0, .slice none 0 0, .string ⟨#[]⟩, .int .i64 0, .slice none 0 0, .slice none 0 0, .slice none 0 0, .bool false, .string ⟨#[]⟩]) 18 264 := show (Try.prog.info? 34).map (fun i => (i.zero, i.size, i.bytes)) = _ from by kernel_rfl
theorem zqa : Inf Try.prog 37 (.slice none 0 0) 1 24 := show (Try.prog.info? 37).map (fun i => (i.zero, i.size, i.bytes)) = _ from by kernel_rfl
theorem Z3b : Inf Try.prog 39 (.int .i64 0) 1 8 := show (Try.prog.info? 39).map (fun i => (i.zero, i.size, i.bytes)) = _ from by kernel_rfl
theorem z2z : Inf Try.prog 43 (.agg #[.string ⟨#[]⟩, .nilIface]) 2 32 := show (Try.prog.info? 43).map (fun i => (i.zero, i.size, i.bytes)) = _ from by kernel_rfl
theorem zq9 : Inf Try.prog 45 (.slice none 0 0) 1 24 := show (Try.prog.info? 45).map (fun i => (i.zero, i.size, i.bytes)) = _ from by kernel_rfl
theorem zq8 : Inf Try.prog 70 (.pointer none) 1 8 := show (Try.prog.info? 70).map (fun i => (i.zero, i.size, i.bytes)) = _ from by kernel_rfl
theorem Z8q : Inf Try.prog 72 (.agg #[.string ⟨#[]⟩, .int .i64 0, .slice none 0 0]) 3 48 := show (Try.prog.info? 72).map (fun i => (i.zero, i.size, i.bytes)) = _ from by kernel_rfl
theorem z43 : Inf Try.prog 79 (.agg #[.int .i64 0]) 1 8 := show (Try.prog.info? 79).map (fun i => (i.zero, i.size, i.bytes)) = _ from by kernel_rfl
theorem zbd : Inf Try.prog 98 (.agg #[.int .i64 0, .int .i64 0, .int .i64 0, .int .i64 0]) 4 32 := show (Try.prog.info? 98).map (fun i => (i.zero, i.size, i.bytes)) = _ from by kernel_rfl
theorem z24 : Inf Try.prog 101 (.agg #[.string ⟨#[]⟩, .int .i64 0, .bool false, .int .i64 0, .float .f64 0, .string ⟨#[]⟩, .slice none 0 0, .int .u64 0, .slice none 0 0, .slice none 0 0, .string ⟨#[]⟩, .int .i64 0]) 12 168 := show (Try.prog.info? 101).map (fun i => (i.zero, i.size, i.bytes)) = _ from by kernel_rfl
theorem zno : Inf Try.prog 119 (.agg #[.int .i64 0]) 1 8 := show (Try.prog.info? 119).map (fun i => (i.zero, i.size, i.bytes)) = _ from by kernel_rfl
theorem zxb : Inf Try.prog 148 (.agg #[.int .i64 0, .int .i64 0, .int .i64 0]) 3 24 := show (Try.prog.info? 148).map (fun i => (i.zero, i.size, i.bytes)) = _ from by kernel_rfl
theorem Z5h : Inf Try.prog 153 (.agg #[]) 0 0 := show (Try.prog.info? 153).map (fun i => (i.zero, i.size, i.bytes)) = _ from by kernel_rfl
theorem zmy : IsStruct Try.prog 29 #[{ name := "Kind", type := 3, offset := 0, embedded := false, tag := "", pkgPath := "", byteOffset := 0 }, { name := "Bool", type := 4, offset := 1, embedded := false, tag := "", pkgPath := "", byteOffset := 8 }, { name := "Int", type := 2, offset := 2, embedded := false, tag := "", pkgPath := "", byteOffset := 16 }, { name := "Float", type := 22, offset := 3, embedded := false, tag := "", pkgPath := "", byteOffset := 24 }, { name := "Text", type := 9, offset := 4, embedded := false, tag := "", pkgPath := "", byteOffset := 32 }, { name := "Bytes", type := 23, offset := 5, embedded := false, tag := "", pkgPath := "", byteOffset := 48 }, { name := "Ref", type := 25, offset := 6, embedded := false, tag := "", pkgPath := "", byteOffset := 72 }, { name := "List", type := 26, offset := 7, embedded := false, tag := "", pkgPath := "", byteOffset := 80 }, { name := "Fields", type := 27, offset := 8, embedded := false, tag := "", pkgPath := "", byteOffset := 104 }, { name := "Class", type := 9, offset := 9, embedded := false, tag := "", pkgPath := "", byteOffset := 128 }, { name := "Version", type := 3, offset := 10, embedded := false, tag := "", pkgPath := "", byteOffset := 144 }] [(0, 1), (1, 1), (2, 1), (3, 1), (4, 1), (5, 1), (6, 1), (7, 1), (8, 1), (9, 1), (10, 1)] := ⟨Try.underlying29, by kernel_rfl, by kernel_rfl⟩
theorem z5e : IsStruct Try.prog 34 #[{ name := "Kind", type := 3, offset := 0, embedded := false, tag := "", pkgPath := "", byteOffset := 0 }, { name := "Of", type := 3, offset := 1, embedded := false, tag := "", pkgPath := "", byteOffset := 8 }, { name := "Only", type := 29, offset := 2, embedded := false, tag := "", pkgPath := "", byteOffset := 16 }, { name := "Parts", type := 30, offset := 13, embedded := false, tag := "", pkgPath := "", byteOffset := 168 }, { name := "Names", type := 31, offset := 14, embedded := false, tag := "", pkgPath := "", byteOffset := 192 }, { name := "Lacks", type := 32, offset := 15, embedded := false, tag := "", pkgPath := "", byteOffset := 216 }, { name := "Open", type := 4, offset := 16, embedded := false, tag := "", pkgPath := "", byteOffset := 240 }, { name := "Class", type := 9, offset := 17, embedded := false, tag := "", pkgPath := "", byteOffset := 248 }] [(0, 1), (1, 1), (2, 11), (13, 1), (14, 1), (15, 1), (16, 1), (17, 1)] := ⟨Try.underlying34, by kernel_rfl, by kernel_rfl⟩
theorem Z4d : IsStruct Try.prog 43 #[{ name := "Name", type := 9, offset := 0, embedded := false, tag := "", pkgPath := "", byteOffset := 0 }, { name := "Value", type := 20, offset := 1, embedded := false, tag := "", pkgPath := "", byteOffset := 16 }] [(0, 1), (1, 1)] := ⟨Try.underlying43, by kernel_rfl, by kernel_rfl⟩
theorem zsx : IsStruct Try.prog 72 #[{ name := "Class", type := 9, offset := 0, embedded := false, tag := "", pkgPath := "", byteOffset := 0 }, { name := "Version", type := 3, offset := 1, embedded := false, tag := "", pkgPath := "", byteOffset := 16 }, { name := "Fields", type := 45, offset := 2, embedded := false, tag := "", pkgPath := "", byteOffset := 24 }] [(0, 1), (1, 1), (2, 1)] := ⟨Try.underlying72, by kernel_rfl, by kernel_rfl⟩
theorem Z6z : IsStruct Try.prog 79 #[{ name := "left", type := 3, offset := 0, embedded := false, tag := "", pkgPath := "tenon/tenonref07", byteOffset := 0 }] [(0, 1)] := ⟨Try.underlying79, by kernel_rfl, by kernel_rfl⟩
theorem Z6y : IsStruct Try.prog 98 #[{ name := "n", type := 3, offset := 0, embedded := false, tag := "", pkgPath := "tenon/tenonref01", byteOffset := 0 }, { name := "deep", type := 3, offset := 1, embedded := false, tag := "", pkgPath := "tenon/tenonref01", byteOffset := 8 }, { name := "at", type := 3, offset := 2, embedded := false, tag := "", pkgPath := "tenon/tenonref01", byteOffset := 16 }, { name := "why", type := 39, offset := 3, embedded := false, tag := "", pkgPath := "tenon/tenonref01", byteOffset := 24 }] [(0, 1), (1, 1), (2, 1), (3, 1)] := ⟨Try.underlying98, by kernel_rfl, by kernel_rfl⟩
theorem zsy : IsStruct Try.prog 101 #[{ name := "Name", type := 9, offset := 0, embedded := false, tag := "", pkgPath := "", byteOffset := 0 }, { name := "Value", type := 29, offset := 1, embedded := false, tag := "", pkgPath := "", byteOffset := 16 }] [(0, 1), (1, 11)] := ⟨Try.underlying101, by kernel_rfl, by kernel_rfl⟩
theorem Z71 : IsStruct Try.prog 105 #[{ name := "L", type := 103, offset := 0, embedded := false, tag := "", pkgPath := "", byteOffset := 0 }] [(0, 1)] := ⟨Try.underlying105, by kernel_rfl, by kernel_rfl⟩
theorem Z2k : IsStruct Try.prog 119 #[{ name := "left", type := 3, offset := 0, embedded := false, tag := "", pkgPath := "tenon/check", byteOffset := 0 }] [(0, 1)] := ⟨Try.underlying119, by kernel_rfl, by kernel_rfl⟩
theorem Z70 : IsStruct Try.prog 148 #[{ name := "n", type := 3, offset := 0, embedded := false, tag := "", pkgPath := "tenon/value", byteOffset := 0 }, { name := "deep", type := 3, offset := 1, embedded := false, tag := "", pkgPath := "tenon/value", byteOffset := 8 }, { name := "why", type := 39, offset := 2, embedded := false, tag := "", pkgPath := "tenon/value", byteOffset := 16 }] [(0, 1), (1, 1), (2, 1)] := ⟨Try.underlying148, by kernel_rfl, by kernel_rfl⟩
theorem Z2j : IsStruct Try.prog 153 #[] [] := ⟨Try.underlying153, by kernel_rfl, by kernel_rfl⟩
theorem zxr : z0y Try.prog 13 := ⟨_, Try.func13, by kernel_rfl, rfl⟩
theorem Z9m : z0y Try.prog 14 := ⟨_, Try.func14, by kernel_rfl, rfl⟩
theorem Zcr : z0y Try.prog 19 := ⟨_, Try.func19, by kernel_rfl, rfl⟩
theorem Z9l : z0y Try.prog 20 := ⟨_, Try.func20, by kernel_rfl, rfl⟩
theorem Zcq : z0y Try.prog 21 := ⟨_, Try.func21, by kernel_rfl, rfl⟩
theorem zsh : z0y Try.prog 22 := ⟨_, Try.func22, by kernel_rfl, rfl⟩
theorem Z9k : z0y Try.prog 23 := ⟨_, Try.func23, by kernel_rfl, rfl⟩
theorem zsg : z0y Try.prog 24 := ⟨_, Try.func24, by kernel_rfl, rfl⟩
theorem Z9j : z0y Try.prog 25 := ⟨_, Try.func25, by kernel_rfl, rfl⟩
theorem Zcp : z0y Try.prog 27 := ⟨_, Try.func27, by kernel_rfl, rfl⟩
theorem Z0u : z0y Try.prog 31 := ⟨_, Try.func31, by kernel_rfl, rfl⟩
theorem Z0t : z0y Try.prog 32 := ⟨_, Try.func32, by kernel_rfl, rfl⟩
theorem zxq : z0y Try.prog 33 := ⟨_, Try.func33, by kernel_rfl, rfl⟩
theorem Z9i : z0y Try.prog 34 := ⟨_, Try.func34, by kernel_rfl, rfl⟩
theorem zns : z0y Try.prog 35 := ⟨_, Try.func35, by kernel_rfl, rfl⟩
theorem zmg : z0y Try.prog 42 := ⟨_, Try.func42, by kernel_rfl, rfl⟩
theorem Zco : z0y Try.prog 43 := ⟨_, Try.func43, by kernel_rfl, rfl⟩
theorem Z9h : z0y Try.prog 44 := ⟨_, Try.func44, by kernel_rfl, rfl⟩
theorem Z9g : z0y Try.prog 45 := ⟨_, Try.func45, by kernel_rfl, rfl⟩
theorem Z0s : z0y Try.prog 46 := ⟨_, Try.func46, by kernel_rfl, rfl⟩
theorem Z5s : z0y Try.prog 47 := ⟨_, Try.func47, by kernel_rfl, rfl⟩
theorem Zcn : z0y Try.prog 48 := ⟨_, Try.func48, by kernel_rfl, rfl⟩
theorem Z9f : z0y Try.prog 50 := ⟨_, Try.func50, by kernel_rfl, rfl⟩
theorem Zcm : z0y Try.prog 52 := ⟨_, Try.func52, by kernel_rfl, rfl⟩
theorem Z0r : z0y Try.prog 53 := ⟨_, Try.func53, by kernel_rfl, rfl⟩
theorem Zcl : z0y Try.prog 54 := ⟨_, Try.func54, by kernel_rfl, rfl⟩
theorem Zck : z0y Try.prog 55 := ⟨_, Try.func55, by kernel_rfl, rfl⟩
theorem Zcj : z0y Try.prog 56 := ⟨_, Try.func56, by kernel_rfl, rfl⟩
theorem Zci : z0y Try.prog 57 := ⟨_, Try.func57, by kernel_rfl, rfl⟩
theorem Zch : z0y Try.prog 58 := ⟨_, Try.func58, by kernel_rfl, rfl⟩
theorem Z9e : z0y Try.prog 59 := ⟨_, Try.func59, by kernel_rfl, rfl⟩
theorem Z0q : z0y Try.prog 60 := ⟨_, Try.func60, by kernel_rfl, rfl⟩
theorem Z9d : z0y Try.prog 61 := ⟨_, Try.func61, by kernel_rfl, rfl⟩
theorem Z9c : z0y Try.prog 62 := ⟨_, Try.func62, by kernel_rfl, rfl⟩
theorem Z9b : z0y Try.prog 63 := ⟨_, Try.func63, by kernel_rfl, rfl⟩
theorem Zcg : z0y Try.prog 64 := ⟨_, Try.func64, by kernel_rfl, rfl⟩
theorem Zcf : z0y Try.prog 65 := ⟨_, Try.func65, by kernel_rfl, rfl⟩
theorem Z9a : z0y Try.prog 66 := ⟨_, Try.func66, by kernel_rfl, rfl⟩
theorem zxp : z0y Try.prog 68 := ⟨_, Try.func68, by kernel_rfl, rfl⟩
theorem Z99 : z0y Try.prog 71 := ⟨_, Try.func71, by kernel_rfl, rfl⟩
theorem Zce : z0y Try.prog 72 := ⟨_, Try.func72, by kernel_rfl, rfl⟩
theorem Z98 : z0y Try.prog 73 := ⟨_, Try.func73, by kernel_rfl, rfl⟩
theorem Zcd : z0y Try.prog 74 := ⟨_, Try.func74, by kernel_rfl, rfl⟩
theorem Zcc : z0y Try.prog 75 := ⟨_, Try.func75, by kernel_rfl, rfl⟩
theorem Zcb : z0y Try.prog 76 := ⟨_, Try.func76, by kernel_rfl, rfl⟩
theorem zmf : z0y Try.prog 77 := ⟨_, Try.func77, by kernel_rfl, rfl⟩
theorem Z97 : z0y Try.prog 78 := ⟨_, Try.func78, by kernel_rfl, rfl⟩
theorem Z96 : z0y Try.prog 79 := ⟨_, Try.func79, by kernel_rfl, rfl⟩
theorem Z0p : z0y Try.prog 80 := ⟨_, Try.func80, by kernel_rfl, rfl⟩
theorem Z95 : z0y Try.prog 81 := ⟨_, Try.func81, by kernel_rfl, rfl⟩
theorem Z94 : z0y Try.prog 82 := ⟨_, Try.func82, by kernel_rfl, rfl⟩
theorem Zca : z0y Try.prog 84 := ⟨_, Try.func84, by kernel_rfl, rfl⟩
theorem Z93 : z0y Try.prog 85 := ⟨_, Try.func85, by kernel_rfl, rfl⟩
theorem zsf : z0y Try.prog 86 := ⟨_, Try.func86, by kernel_rfl, rfl⟩
theorem Z5r : z0y Try.prog 87 := ⟨_, Try.func87, by kernel_rfl, rfl⟩
theorem Z5q : z0y Try.prog 88 := ⟨_, Try.func88, by kernel_rfl, rfl⟩
theorem Z92 : z0y Try.prog 89 := ⟨_, Try.func89, by kernel_rfl, rfl⟩
theorem Z5p : z0y Try.prog 90 := ⟨_, Try.func90, by kernel_rfl, rfl⟩
theorem Z91 : z0y Try.prog 91 := ⟨_, Try.func91, by kernel_rfl, rfl⟩
theorem Z5o : z0y Try.prog 92 := ⟨_, Try.func92, by kernel_rfl, rfl⟩
theorem Z90 : z0y Try.prog 93 := ⟨_, Try.func93, by kernel_rfl, rfl⟩
theorem Zc9 : z0y Try.prog 94 := ⟨_, Try.func94, by kernel_rfl, rfl⟩
theorem Zc8 : z0y Try.prog 95 := ⟨_, Try.func95, by kernel_rfl, rfl⟩
theorem Zc7 : z0y Try.prog 96 := ⟨_, Try.func96, by kernel_rfl, rfl⟩
theorem Z8z : z0y Try.prog 97 := ⟨_, Try.func97, by kernel_rfl, rfl⟩
theorem Z0o : z0y Try.prog 98 := ⟨_, Try.func98, by kernel_rfl, rfl⟩
theorem Z3v : z0y Try.prog 100 := ⟨_, Try.func100, by kernel_rfl, rfl⟩
theorem Z9x : z0y Try.prog 101 := ⟨_, Try.func101, by kernel_rfl, rfl⟩
theorem zxu : z0y Try.prog 102 := ⟨_, Try.func102, by kernel_rfl, rfl⟩
theorem Z3u : z0y Try.prog 103 := ⟨_, Try.func103, by kernel_rfl, rfl⟩
theorem zxt : z0y Try.prog 104 := ⟨_, Try.func104, by kernel_rfl, rfl⟩
theorem Z3t : z0y Try.prog 105 := ⟨_, Try.func105, by kernel_rfl, rfl⟩
theorem Z9w : z0y Try.prog 106 := ⟨_, Try.func106, by kernel_rfl, rfl⟩
theorem Z9v : z0y Try.prog 107 := ⟨_, Try.func107, by kernel_rfl, rfl⟩
theorem Z3s : z0y Try.prog 108 := ⟨_, Try.func108, by kernel_rfl, rfl⟩
theorem zxs : z0y Try.prog 109 := ⟨_, Try.func109, by kernel_rfl, rfl⟩
theorem Z9u : z0y Try.prog 110 := ⟨_, Try.func110, by kernel_rfl, rfl⟩
theorem Z9t : z0y Try.prog 111 := ⟨_, Try.func111, by kernel_rfl, rfl⟩
theorem Z9s : z0y Try.prog 112 := ⟨_, Try.func112, by kernel_rfl, rfl⟩
theorem Z3r : z0y Try.prog 113 := ⟨_, Try.func113, by kernel_rfl, rfl⟩
theorem Z9r : z0y Try.prog 114 := ⟨_, Try.func114, by kernel_rfl, rfl⟩
theorem Z9q : z0y Try.prog 115 := ⟨_, Try.func115, by kernel_rfl, rfl⟩
theorem Z9p : z0y Try.prog 116 := ⟨_, Try.func116, by kernel_rfl, rfl⟩
theorem Z9o : z0y Try.prog 117 := ⟨_, Try.func117, by kernel_rfl, rfl⟩
theorem Z3q : z0y Try.prog 118 := ⟨_, Try.func118, by kernel_rfl, rfl⟩
theorem Z3p : z0y Try.prog 119 := ⟨_, Try.func119, by kernel_rfl, rfl⟩
theorem Z9n : z0y Try.prog 120 := ⟨_, Try.func120, by kernel_rfl, rfl⟩
theorem Z3o : z0y Try.prog 121 := ⟨_, Try.func121, by kernel_rfl, rfl⟩
theorem Z3n : z0y Try.prog 122 := ⟨_, Try.func122, by kernel_rfl, rfl⟩
theorem Z3m : z0y Try.prog 123 := ⟨_, Try.func123, by kernel_rfl, rfl⟩
theorem mo : Try.prog.follows .mixedOrders = true := by kernel_rfl
end Go.Proofs.Ytiapdjdhaclmnaa
