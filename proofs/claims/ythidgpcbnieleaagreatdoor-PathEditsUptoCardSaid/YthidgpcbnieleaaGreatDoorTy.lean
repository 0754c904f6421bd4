/- Values, records and terms: as trees of Lean's, and as trees of the program's. -/
import Derived.Test.YthidgpcbnieleaaGreatDoorV0
import Derived.Test.YthidgpcbnieleaaGreatDoorAwT
namespace Go.Proofs.YthidgpcbnieleaaGreatDoor
open Go Aw
set_option linter.unusedVariables false
set_option linter.unusedSimpArgs false
set_option maxRecDepth 8000
def zi3 (t : Nat) : Bool := !([4, 2, 22, 9, 23, 25, 67, 71, 73].contains t)
inductive V where
 | nil
 | bool (b : Bool)
 | int (i : Int)
 | float (f : Nat)
 | text (s : Str)
 | bytes (b : Str)
 | ref (r : Int)
 | list (l : List V)
 | dict (l : List (Str × V))
 | record (c : Str) (v : Int) (l : List (Str × V))
 | nothing
 | alien (t : {t : Nat // zi3 t = true})
instance : Inhabited V := ⟨.nil⟩
structure Rec where
 cls : Str
 ver : Int
 fields : List (Str × V)
mutual
def ofV : V → PV
 | .nil => .v .nilIface
 | .bool b => .iface 4 (.v (.bool b))
 | .int i => .iface 2 (.v (.int .i64 i))
 | .float f => .iface 22 (.v (.float .f64 f))
 | .text s => .iface 9 (z0n s)
 | .bytes b => .iface 23 (.sl none 5 1 (b.map ofB))
 | .ref r => .iface 25 (.v (.int .u64 r))
 | .list l => .iface 67 (.sl none 20 1 (zva l))
 | .dict l => .iface 71 (.sl none 69 2 (zt6 l))
 | .record c v l => .iface 73 (.pt 75 (.agg [z0n c, .v (.int .i64 v), .sl none 69 2 (zt6 l)]) 0)
 | .nothing => .iface 73 (.v (.pointer none))
 | .alien t => .iface t.1 .junk
def zva : List V → List PV
 | [] => []
 | x :: r => ofV x :: zva r
def zt6 : List (Str × V) → List PV
 | [] => []
 | (s, x) :: r => .agg [z0n s, ofV x] :: zt6 r
end
def ofFld (p : Str × V) : PV := .agg [z0n p.1, ofV p.2]
theorem z23 : ∀ l, zva l = l.map ofV
 | [] => by rw [zva]; rfl
 | x :: r => by rw [zva, z23 r]; rfl
theorem z1w : ∀ l, zt6 l = l.map ofFld
 | [] => by rw [zt6]; rfl
 | (s, x) :: r => by rw [zt6, z1w r]; rfl
def zh8 (r : Rec) : PV := .agg [z0n r.cls, .v (.int .i64 r.ver), .sl none 69 2 (r.fields.map ofFld)]
def ofRecP : Option Rec → PV
 | none => .v (.pointer none)
 | some r => .pt 75 (zh8 r) 0
theorem zxi (s : Str) : (z0n s).ids = [] := rfl
theorem Z0e (b : UInt8) : (ofB b).ids = [] := rfl
mutual
theorem ids_V : ∀ (x : V), (ofV x).ids = []
 | .nil => by rw [ofV]; rfl
 | .bool b => by rw [ofV]; rfl
 | .int i => by rw [ofV]; rfl
 | .float f => by rw [ofV]; rfl
 | .text s => by rw [ofV]; rfl
 | .bytes b => by rw [ofV]; exact z07 (e := 5) (sz := 1) Z0e b
 | .ref r => by rw [ofV]; rfl
 | .list l => by rw [ofV]; simp only [PV.ids]; rw [zvf l]; rfl
 | .dict l => by rw [ofV]; simp only [PV.ids]; rw [zqb l]; rfl
 | .record c v l => by rw [ofV]; simp only [PV.ids, PV.ids.idsL]; rw [zqb l]; rfl
 | .nothing => by rw [ofV]; rfl
 | .alien t => by rw [ofV]; rfl
theorem zvf : ∀ (l : List V), PV.ids.idsL (zva l) = []
 | [] => by rw [zva]; rfl
 | x :: r => by rw [zva]; simp only [PV.ids.idsL]; rw [ids_V x, zvf r]; rfl
theorem zqb : ∀ (l : List (Str × V)), PV.ids.idsL (zt6 l) = []
 | [] => by rw [zt6]; rfl
 | (s, x) :: r => by rw [zt6]; simp only [PV.ids.idsL, PV.ids]; rw [ids_V x, zqb r]; rfl
end
theorem z0s (p : Str × V) : (ofFld p).ids = [] := by simp only [ofFld, PV.ids, PV.ids.idsL]; rw [ids_V, zxi]; rfl
theorem zxk (r : Rec) : (zh8 r).ids = [] := by simp only [zh8]; exact z0y rfl (z0y rfl (z0y (z07 z0s _) rfl))
theorem zf6 (p : Option Rec) : (ofRecP p).ids = [] := by
 cases p with
 | none => rfl
 | some r => exact zxk r
theorem z0x (x : V) : (ofV x).cells = [ofV x] := by cases x <;> simp only [ofV] <;> rfl
theorem zd6 (x : V) : z6u (ofV x) = true := by cases x <;> simp only [ofV] <;> rfl
theorem z4c (x : V) : cok (ofV x) = true := by cases x <;> simp only [ofV] <;> rfl
theorem csz_V (x : V) : (ofV x).cells.length = 1 := by rw [z0x]; rfl
theorem z8l (x : V) : (ofV x).cells.all z6u = true := by rw [z0x]; simp [zd6]
theorem z7l (p : Str × V) : (ofFld p).cells.all z6u = true := by
 show ([z0n p.1, ofV p.2].all z6u) = true
 simp only [List.all_cons, List.all_nil, zd6, Bool.and_true]; rfl
theorem z7i (p : Str × V) : (ofFld p).cells.length = 2 := rfl
theorem z0u (p : Option Rec) : (ofRecP p).cells = [ofRecP p] := by cases p <;> rfl
theorem z52 (p : Option Rec) : z6u (ofRecP p) = true := by cases p <;> rfl
theorem z1x (p : Option Rec) : cok (ofRecP p) = true := by cases p <;> rfl
theorem z2x (p : Option Rec) : (ofRecP p).cells.length = 1 := by rw [z0u]; rfl
def V.ofRecP : Option Rec → V
 | none => .nothing
 | some r => .record r.cls r.ver r.fields
theorem z8d (l : List V) : ofV (.list l) = .iface 67 (.sl none 20 1 (l.map ofV)) := by rw [ofV, z23]
theorem z5n (l : List (Str × V)) : ofV (.dict l) = .iface 71 (.sl none 69 2 (l.map ofFld)) := by rw [ofV, z1w]
theorem zkf (l : Str) : ofV (.bytes l) = .iface 23 (.sl none 5 1 (l.map ofB)) := by rw [ofV]
theorem zf1 (x : Bool) : ofV (.bool x) = .iface 4 (.v (.bool x)) := by rw [ofV]
theorem zhc (x : Int) : ofV (.int x) = .iface 2 (.v (.int .i64 x)) := by rw [ofV]
theorem zta (x : Nat) : ofV (.float x) = .iface 22 (.v (.float .f64 x)) := by rw [ofV]
theorem zx5 (x : Str) : ofV (.text x) = .iface 9 (z0n x) := by rw [ofV]
theorem zzy (x : Int) : ofV (.ref x) = .iface 25 (.v (.int .u64 x)) := by rw [ofV]
theorem zhb (p : Option Rec) : ofV (.ofRecP p) = .iface 73 (ofRecP p) := by
 cases p with
 | none => rw [V.ofRecP, ofV]; rfl
 | some r => rw [V.ofRecP, ofV, z1w]; rfl
theorem mk_nil : ofV .nil = .v .nilIface := by rw [ofV]
theorem z2w (t : {t : Nat // zi3 t = true}) : ofV (.alien t) = .iface t.1 .junk := by rw [ofV]
theorem z3y (t : {t : Nat // zi3 t = true}) {k : Nat} (hk : zi3 k = false) : Nat.beq t.1 k = false := by
 cases h : Nat.beq t.1 k with
 | false => rfl
 | true => have := Nat.eq_of_beq_eq_true h; have h2 := t.2; rw [this, hk] at h2; cases h2
section
variable {H : List AEnt} {env : List (Nat × PV)} {n : Nat} {o : Oper}
abbrev V.isNil : V → Bool
 | .nil => true
 | _ => false
theorem z3t {x : Operand} {t t2 : TypeId} {ms : Array (String × TypeId)} {v : V} (ht : Tryz.prog.underlying t = some (.interface ms)) (ho : o.op = .binOp .eql t x (.const .nilIface) t2) (hx : ev env x = some (ofV v)) : Op1 Tryz.prog o env H n (.v (.bool v.isNil)) H := by
 cases v <;> rw [ofV] at hx <;> first | exact zt1 ht ho hx | exact zt0 ht ho hx
theorem zdu {x : Operand} {t t2 e : TypeId} {p : Option Rec} (ht : Tryz.prog.underlying t = some (.pointer e)) (ho : o.op = .binOp .eql t x (.const (.pointer none)) t2) (hx : ev env x = some (ofRecP p)) : Op1 Tryz.prog o env H n (.v (.bool p.isNone)) H := by
 cases p with
 | none => exact zsz ht ho hx
 | some r => exact zsy ht ho hx rfl
theorem z1k {x : Operand} {p : Option Rec} {r : Rec} (ho : o.op = .nilCheck x) (hx : ev env x = some (ofRecP p)) (hr : p = some r) : Op1 Tryz.prog o env H n (.pt 75 (zh8 r) 0) H := by
 subst hr; exact zsp ho hx
abbrev V.isBool : V → Bool
 | .bool _ => true
 | _ => false
abbrev V.asBool : V → Bool
 | .bool x => x
 | _ => false
abbrev V.theBool : V → Option (Bool)
 | .bool x => some x
 | _ => none
theorem zdt {x : Operand} {xt : TypeId} {v : V} (ho : o.op = .typeAssert x xt 4 true) (hx : ev env x = some (ofV v)) : Op1 Tryz.prog o env H n (.tup [(.v (.bool v.asBool)), .v (.bool v.isBool)]) H := by
 cases v <;> simp only [ofV, z23, z1w] at hx
 all_goals first
  | exact (z6g Tryz.underlying4 rfl zti ho hx)
  | exact (z6h Tryz.underlying4 rfl zti ho hx).wk (.tup (.cons (.refl _) (.cons (.refl _) .nil)))
  | exact (z2t Tryz.underlying4 rfl zti ho hx rfl).wk (.tup (.cons (.refl _) (.cons (.refl _) .nil)))
  | exact (z2t Tryz.underlying4 rfl zti ho hx (z3y _ (by decide))).wk (.tup (.cons (.refl _) (.cons (.refl _) .nil)))
theorem zmw {x : Operand} {xt : TypeId} {v : V} {y : Bool} (ho : o.op = .typeAssert x xt 4 false) (hx : ev env x = some (ofV v)) (hy : v.theBool = some y) : Op1 Tryz.prog o env H n (.v (.bool y)) H := by
 cases v <;> simp only [V.theBool] at hy <;> first | (cases hy; done) | skip
 all_goals (cases hy; simp only [ofV, z23, z1w] at hx; exact z6j Tryz.underlying4 rfl ho hx)
abbrev V.isInt : V → Bool
 | .int _ => true
 | _ => false
abbrev V.asInt : V → Int
 | .int x => x
 | _ => 0
abbrev V.theInt : V → Option (Int)
 | .int x => some x
 | _ => none
theorem zh3 {x : Operand} {xt : TypeId} {v : V} (ho : o.op = .typeAssert x xt 2 true) (hx : ev env x = some (ofV v)) : Op1 Tryz.prog o env H n (.tup [(.v (.int .i64 v.asInt)), .v (.bool v.isInt)]) H := by
 cases v <;> simp only [ofV, z23, z1w] at hx
 all_goals first
  | exact (z6g Tryz.underlying2 rfl ztk ho hx)
  | exact (z6h Tryz.underlying2 rfl ztk ho hx).wk (.tup (.cons (.refl _) (.cons (.refl _) .nil)))
  | exact (z2t Tryz.underlying2 rfl ztk ho hx rfl).wk (.tup (.cons (.refl _) (.cons (.refl _) .nil)))
  | exact (z2t Tryz.underlying2 rfl ztk ho hx (z3y _ (by decide))).wk (.tup (.cons (.refl _) (.cons (.refl _) .nil)))
theorem zpe {x : Operand} {xt : TypeId} {v : V} {y : Int} (ho : o.op = .typeAssert x xt 2 false) (hx : ev env x = some (ofV v)) (hy : v.theInt = some y) : Op1 Tryz.prog o env H n (.v (.int .i64 y)) H := by
 cases v <;> simp only [V.theInt] at hy <;> first | (cases hy; done) | skip
 all_goals (cases hy; simp only [ofV, z23, z1w] at hx; exact z6j Tryz.underlying2 rfl ho hx)
abbrev V.isFloat : V → Bool
 | .float _ => true
 | _ => false
abbrev V.asFloat : V → Nat
 | .float x => x
 | _ => 0
abbrev V.theFloat : V → Option (Nat)
 | .float x => some x
 | _ => none
theorem zcf {x : Operand} {xt : TypeId} {v : V} (ho : o.op = .typeAssert x xt 22 true) (hx : ev env x = some (ofV v)) : Op1 Tryz.prog o env H n (.tup [(.v (.float .f64 v.asFloat)), .v (.bool v.isFloat)]) H := by
 cases v <;> simp only [ofV, z23, z1w] at hx
 all_goals first
  | exact (z6g Tryz.underlying22 rfl zkq ho hx)
  | exact (z6h Tryz.underlying22 rfl zkq ho hx).wk (.tup (.cons (.refl _) (.cons (.refl _) .nil)))
  | exact (z2t Tryz.underlying22 rfl zkq ho hx rfl).wk (.tup (.cons (.refl _) (.cons (.refl _) .nil)))
  | exact (z2t Tryz.underlying22 rfl zkq ho hx (z3y _ (by decide))).wk (.tup (.cons (.refl _) (.cons (.refl _) .nil)))
theorem zix {x : Operand} {xt : TypeId} {v : V} {y : Nat} (ho : o.op = .typeAssert x xt 22 false) (hx : ev env x = some (ofV v)) (hy : v.theFloat = some y) : Op1 Tryz.prog o env H n (.v (.float .f64 y)) H := by
 cases v <;> simp only [V.theFloat] at hy <;> first | (cases hy; done) | skip
 all_goals (cases hy; simp only [ofV, z23, z1w] at hx; exact z6j Tryz.underlying22 rfl ho hx)
abbrev V.isText : V → Bool
 | .text _ => true
 | _ => false
abbrev V.asText : V → Str
 | .text x => x
 | _ => []
abbrev V.theText : V → Option (Str)
 | .text x => some x
 | _ => none
theorem zaa {x : Operand} {xt : TypeId} {v : V} (ho : o.op = .typeAssert x xt 9 true) (hx : ev env x = some (ofV v)) : Op1 Tryz.prog o env H n (.tup [(z0n v.asText), .v (.bool v.isText)]) H := by
 cases v <;> simp only [ofV, z23, z1w] at hx
 all_goals first
  | exact (z6g Tryz.underlying9 rfl ztg ho hx)
  | exact (z6h Tryz.underlying9 rfl ztg ho hx).wk (.tup (.cons (.refl _) (.cons (.refl _) .nil)))
  | exact (z2t Tryz.underlying9 rfl ztg ho hx rfl).wk (.tup (.cons (.refl _) (.cons (.refl _) .nil)))
  | exact (z2t Tryz.underlying9 rfl ztg ho hx (z3y _ (by decide))).wk (.tup (.cons (.refl _) (.cons (.refl _) .nil)))
theorem zmt {x : Operand} {xt : TypeId} {v : V} {y : Str} (ho : o.op = .typeAssert x xt 9 false) (hx : ev env x = some (ofV v)) (hy : v.theText = some y) : Op1 Tryz.prog o env H n (z0n y) H := by
 cases v <;> simp only [V.theText] at hy <;> first | (cases hy; done) | skip
 all_goals (cases hy; simp only [ofV, z23, z1w] at hx; exact z6j Tryz.underlying9 rfl ho hx)
abbrev V.isBytes : V → Bool
 | .bytes _ => true
 | _ => false
abbrev V.asBytes : V → Str
 | .bytes x => x
 | _ => []
abbrev V.theBytes : V → Option (Str)
 | .bytes x => some x
 | _ => none
theorem z6i {x : Operand} {xt : TypeId} {v : V} (ho : o.op = .typeAssert x xt 23 true) (hx : ev env x = some (ofV v)) : Op1 Tryz.prog o env H n (.tup [(.sl none 5 1 (v.asBytes.map ofB)), .v (.bool v.isBytes)]) H := by
 cases v <;> simp only [ofV, z23, z1w] at hx
 all_goals first
  | exact (z6g Tryz.underlying23 rfl zkp ho hx)
  | exact (z6h Tryz.underlying23 rfl zkp ho hx).wk (.tup (.cons Wk.nil (.cons (.refl _) .nil)))
  | exact (z2t Tryz.underlying23 rfl zkp ho hx rfl).wk (.tup (.cons Wk.nil (.cons (.refl _) .nil)))
  | exact (z2t Tryz.underlying23 rfl zkp ho hx (z3y _ (by decide))).wk (.tup (.cons Wk.nil (.cons (.refl _) .nil)))
theorem ziy {x : Operand} {xt : TypeId} {v : V} {y : Str} (ho : o.op = .typeAssert x xt 23 false) (hx : ev env x = some (ofV v)) (hy : v.theBytes = some y) : Op1 Tryz.prog o env H n (.sl none 5 1 (y.map ofB)) H := by
 cases v <;> simp only [V.theBytes] at hy <;> first | (cases hy; done) | skip
 all_goals (cases hy; simp only [ofV, z23, z1w] at hx; exact z6j Tryz.underlying23 rfl ho hx)
abbrev V.isRef : V → Bool
 | .ref _ => true
 | _ => false
abbrev V.asRef : V → Int
 | .ref x => x
 | _ => 0
abbrev V.theRef : V → Option (Int)
 | .ref x => some x
 | _ => none
theorem zh2 {x : Operand} {xt : TypeId} {v : V} (ho : o.op = .typeAssert x xt 25 true) (hx : ev env x = some (ofV v)) : Op1 Tryz.prog o env H n (.tup [(.v (.int .u64 v.asRef)), .v (.bool v.isRef)]) H := by
 cases v <;> simp only [ofV, z23, z1w] at hx
 all_goals first
  | exact (z6g Tryz.underlying25 rfl zko ho hx)
  | exact (z6h Tryz.underlying25 rfl zko ho hx).wk (.tup (.cons (.refl _) (.cons (.refl _) .nil)))
  | exact (z2t Tryz.underlying25 rfl zko ho hx rfl).wk (.tup (.cons (.refl _) (.cons (.refl _) .nil)))
  | exact (z2t Tryz.underlying25 rfl zko ho hx (z3y _ (by decide))).wk (.tup (.cons (.refl _) (.cons (.refl _) .nil)))
theorem zpc {x : Operand} {xt : TypeId} {v : V} {y : Int} (ho : o.op = .typeAssert x xt 25 false) (hx : ev env x = some (ofV v)) (hy : v.theRef = some y) : Op1 Tryz.prog o env H n (.v (.int .u64 y)) H := by
 cases v <;> simp only [V.theRef] at hy <;> first | (cases hy; done) | skip
 all_goals (cases hy; simp only [ofV, z23, z1w] at hx; exact z6j Tryz.underlying25 rfl ho hx)
abbrev V.isList : V → Bool
 | .list _ => true
 | _ => false
abbrev V.asList : V → List V
 | .list x => x
 | _ => []
abbrev V.theList : V → Option (List V)
 | .list x => some x
 | _ => none
theorem z1u {x : Operand} {xt : TypeId} {v : V} (ho : o.op = .typeAssert x xt 67 true) (hx : ev env x = some (ofV v)) : Op1 Tryz.prog o env H n (.tup [(.sl none 20 1 (v.asList.map ofV)), .v (.bool v.isList)]) H := by
 cases v <;> simp only [ofV, z23, z1w] at hx
 all_goals first
  | exact (z6g Tryz.underlying67 rfl zkn ho hx)
  | exact (z6h Tryz.underlying67 rfl zkn ho hx).wk (.tup (.cons Wk.nil (.cons (.refl _) .nil)))
  | exact (z2t Tryz.underlying67 rfl zkn ho hx rfl).wk (.tup (.cons Wk.nil (.cons (.refl _) .nil)))
  | exact (z2t Tryz.underlying67 rfl zkn ho hx (z3y _ (by decide))).wk (.tup (.cons Wk.nil (.cons (.refl _) .nil)))
theorem zmu {x : Operand} {xt : TypeId} {v : V} {y : List V} (ho : o.op = .typeAssert x xt 67 false) (hx : ev env x = some (ofV v)) (hy : v.theList = some y) : Op1 Tryz.prog o env H n (.sl none 20 1 (y.map ofV)) H := by
 cases v <;> simp only [V.theList] at hy <;> first | (cases hy; done) | skip
 all_goals (cases hy; simp only [ofV, z23, z1w] at hx; exact z6j Tryz.underlying67 rfl ho hx)
abbrev V.isDict : V → Bool
 | .dict _ => true
 | _ => false
abbrev V.asDict : V → List (Str × V)
 | .dict x => x
 | _ => []
abbrev V.theDict : V → Option (List (Str × V))
 | .dict x => some x
 | _ => none
theorem z2r {x : Operand} {xt : TypeId} {v : V} (ho : o.op = .typeAssert x xt 71 true) (hx : ev env x = some (ofV v)) : Op1 Tryz.prog o env H n (.tup [(.sl none 69 2 (v.asDict.map ofFld)), .v (.bool v.isDict)]) H := by
 cases v <;> simp only [ofV, z23, z1w] at hx
 all_goals first
  | exact (z6g Tryz.underlying71 rfl zkm ho hx)
  | exact (z6h Tryz.underlying71 rfl zkm ho hx).wk (.tup (.cons Wk.nil (.cons (.refl _) .nil)))
  | exact (z2t Tryz.underlying71 rfl zkm ho hx rfl).wk (.tup (.cons Wk.nil (.cons (.refl _) .nil)))
  | exact (z2t Tryz.underlying71 rfl zkm ho hx (z3y _ (by decide))).wk (.tup (.cons Wk.nil (.cons (.refl _) .nil)))
theorem zmv {x : Operand} {xt : TypeId} {v : V} {y : List (Str × V)} (ho : o.op = .typeAssert x xt 71 false) (hx : ev env x = some (ofV v)) (hy : v.theDict = some y) : Op1 Tryz.prog o env H n (.sl none 69 2 (y.map ofFld)) H := by
 cases v <;> simp only [V.theDict] at hy <;> first | (cases hy; done) | skip
 all_goals (cases hy; simp only [ofV, z23, z1w] at hx; exact z6j Tryz.underlying71 rfl ho hx)
abbrev V.isRec : V → Bool
 | .record _ _ _ => true
 | .nothing => true
 | _ => false
abbrev V.asRec : V → Option Rec
 | .record c v l => some ⟨c, v, l⟩
 | _ => none
abbrev V.theRec : V → Option (Option Rec)
 | .record c v l => some (some ⟨c, v, l⟩)
 | .nothing => some none
 | _ => none
theorem z39 {x : Operand} {xt : TypeId} {v : V} (ho : o.op = .typeAssert x xt 73 true) (hx : ev env x = some (ofV v)) : Op1 Tryz.prog o env H n (.tup [ofRecP v.asRec, .v (.bool v.isRec)]) H := by
 cases v <;> simp only [ofV, z23, z1w] at hx
 all_goals first
  | exact (z6g Tryz.underlying73 rfl zkl ho hx)
  | exact (z6h Tryz.underlying73 rfl zkl ho hx)
  | exact (z2t Tryz.underlying73 rfl zkl ho hx rfl)
  | exact (z2t Tryz.underlying73 rfl zkl ho hx (z3y _ (by decide)))
theorem zpd {x : Operand} {xt : TypeId} {v : V} {y : Option Rec} (ho : o.op = .typeAssert x xt 73 false) (hx : ev env x = some (ofV v)) (hy : v.theRec = some y) : Op1 Tryz.prog o env H n (ofRecP y) H := by
 cases v <;> simp only [V.theRec] at hy <;> first | (cases hy; done) | skip
 all_goals (cases hy; simp only [ofV, z23, z1w] at hx; exact z6j Tryz.underlying73 rfl ho hx)
end
inductive Term where
 | mk (kind : Int) (bool : Bool) (int : Int) (float : Nat) (text : Str) (bytes : Str) (ref : Int) (list : List Term) (fields : List (Str × Term)) (cls : Str) (ver : Int)
namespace Term
def kind : Term → Int | .mk a _ _ _ _ _ _ _ _ _ _ => a
def bool : Term → Bool | .mk _ a _ _ _ _ _ _ _ _ _ => a
def int : Term → Int | .mk _ _ a _ _ _ _ _ _ _ _ => a
def float : Term → Nat | .mk _ _ _ a _ _ _ _ _ _ _ => a
def text : Term → Str | .mk _ _ _ _ a _ _ _ _ _ _ => a
def bytes : Term → Str | .mk _ _ _ _ _ a _ _ _ _ _ => a
def ref : Term → Int | .mk _ _ _ _ _ _ a _ _ _ _ => a
def list : Term → List Term | .mk _ _ _ _ _ _ _ a _ _ _ => a
def fields : Term → List (Str × Term) | .mk _ _ _ _ _ _ _ _ a _ _ => a
def cls : Term → Str | .mk _ _ _ _ _ _ _ _ _ a _ => a
def ver : Term → Int | .mk _ _ _ _ _ _ _ _ _ _ a => a
end Term
mutual
def z4k : Term → PV
 | .mk k b i f t y r l d c v => .agg [.v (.int .i64 k), .v (.bool b), .v (.int .i64 i), .v (.float .f64 f), z0n t, .sl none 5 1 (y.map ofB), .v (.int .u64 r), .sl none 29 11 (z7a l), .sl none 113 12 (z42 d), z0n c, .v (.int .i64 v)]
def z7a : List Term → List PV
 | [] => []
 | x :: r => z4k x :: z7a r
def z42 : List (Str × Term) → List PV
 | [] => []
 | (s, x) :: r => .agg (z0n s :: (z4k x).cells) :: z42 r
end
def z3g (p : Str × Term) : PV := .agg (z0n p.1 :: (z4k p.2).cells)
def z3l (t : Term) : PV := .agg [.v (.int .i64 t.kind), .v (.bool t.bool), .v (.int .i64 t.int), .v (.float .f64 t.float), z0n t.text, .sl none 5 1 (t.bytes.map ofB), .v (.int .u64 t.ref), .sl none 29 11 (t.list.map z4k), .sl none 113 12 (t.fields.map z3g), z0n t.cls, .v (.int .i64 t.ver)]
def zf0 (p : Str × Term) : PV := .agg (z0n p.1 :: (z3l p.2).cells)
theorem zcm : ∀ l, z7a l = l.map z4k
 | [] => by rw [z7a]; rfl
 | x :: r => by rw [z7a, zcm r]; rfl
theorem z6m : ∀ l, z42 l = l.map z3g
 | [] => by rw [z42]; rfl
 | (s, x) :: r => by rw [z42, z6m r]; rfl
theorem z9d (t : Term) : z4k t = z3l t := by cases t; simp only [z4k, zcm, z6m]; rfl
theorem zab (p : Str × Term) : z3g p = zf0 p := by simp only [z3g, zf0, z9d]
mutual
theorem z6o : ∀ (t : Term), (z4k t).ids = []
 | .mk k b i f t y r l d c v => by
  simp only [z4k, PV.ids, PV.ids.idsL]
  rw [z1a Z0e, zhn l, z8g d]; rfl
theorem zhn : ∀ (l : List Term), PV.ids.idsL (z7a l) = []
 | [] => by rw [z7a]; rfl
 | x :: r => by rw [z7a]; simp only [PV.ids.idsL]; rw [z6o x, zhn r]; rfl
theorem z8g : ∀ (l : List (Str × Term)), PV.ids.idsL (z42 l) = []
 | [] => by rw [z42]; rfl
 | (s, x) :: r => by
  have h : (z4k x).ids = PV.ids.idsL (z4k x).cells := by cases x; simp only [z4k]; rfl
  rw [z42]; simp only [PV.ids.idsL, PV.ids]; rw [← h, z6o x, z8g r]; rfl
end
theorem z9h (t : Term) : (z3l t).ids = [] := by rw [← z9d]; exact z6o t
theorem z4q (p : Str × Term) : (z3g p).ids = [] := by
 have h := z8g [p]
 rw [z6m] at h
 simp only [List.map_cons, List.map_nil, PV.ids.idsL, List.append_nil] at h
 exact h
end Go.Proofs.YthidgpcbnieleaaGreatDoor
