/- Values, records and terms: as trees of Lean's, and as trees of the program's. -/
import Derived.Test.YthidgpcbnieleaaGreatDoorV0
import Derived.Test.YthidgpcbnieleaaGreatDoorAwT
namespace Go.Proofs.YthidgpcbnieleaaGreatDoor
open Go Aw
set_option linter.unusedVariables false
set_option linter.unusedSimpArgs false
set_option maxRecDepth 8000
def zj7 (t : Nat) : Bool := !([4, 2, 22, 9, 23, 25, 67, 71, 73].contains t)
inductive V where
 | nil
 | bool (b : Bool)
 | int (i : Int)
 | float (f : Nat)
 | text (s : Str)
 | bytes (b : Str)
 | ref (r : Int)
 | list (l : List V)
 | dict (l : List (Str × V))
 | record (c : Str) (v : Int) (l : List (Str × V))
 | nothing
 | alien (t : {t : Nat // zj7 t = true})
instance : Inhabited V := ⟨.nil⟩
structure Rec where
 cls : Str
 ver : Int
 fields : List (Str × V)
mutual
def ofV : V → PV
 | .nil => .v .nilIface
 | .bool b => .iface 4 (.v (.bool b))
 | .int i => .iface 2 (.v (.int .i64 i))
 | .float f => .iface 22 (.v (.float .f64 f))
 | .text s => .iface 9 (z0i s)
 | .bytes b => .iface 23 (.sl none 5 1 (b.map ofB))
 | .ref r => .iface 25 (.v (.int .u64 r))
 | .list l => .iface 67 (.sl none 20 1 (zxc l))
 | .dict l => .iface 71 (.sl none 69 2 (zuz l))
 | .record c v l => .iface 73 (.pt 75 (.agg [z0i c, .v (.int .i64 v), .sl none 69 2 (zuz l)]) 0)
 | .nothing => .iface 73 (.v (.pointer none))
 | .alien t => .iface t.1 .junk
def zxc : List V → List PV
 | [] => []
 | x :: r => ofV x :: zxc r
def zuz : List (Str × V) → List PV
 | [] => []
 | (s, x) :: r => .agg [z0i s, ofV x] :: zuz r
end
def ofFld (p : Str × V) : PV := .agg [z0i p.1, ofV p.2]
theorem z2c : ∀ l, zxc l = l.map ofV
 | [] => by rw [zxc]; rfl
 | x :: r => by rw [zxc, z2c r]; rfl
theorem z28 : ∀ l, zuz l = l.map ofFld
 | [] => by rw [zuz]; rfl
 | (s, x) :: r => by rw [zuz, z28 r]; rfl
def zg0 (r : Rec) : PV := .agg [z0i r.cls, .v (.int .i64 r.ver), .sl none 69 2 (r.fields.map ofFld)]
def ofRecP : Option Rec → PV
 | none => .v (.pointer none)
 | some r => .pt 75 (zg0 r) 0
theorem zzp (s : Str) : (z0i s).ids = [] := rfl
theorem Z32 (b : UInt8) : (ofB b).ids = [] := rfl
mutual
theorem ids_V : ∀ (x : V), (ofV x).ids = []
 | .nil => by rw [ofV]; rfl
 | .bool b => by rw [ofV]; rfl
 | .int i => by rw [ofV]; rfl
 | .float f => by rw [ofV]; rfl
 | .text s => by rw [ofV]; rfl
 | .bytes b => by rw [ofV]; exact z03 (e := 5) (sz := 1) Z32 b
 | .ref r => by rw [ofV]; rfl
 | .list l => by rw [ofV]; simp only [PV.ids]; rw [zxj l]; rfl
 | .dict l => by rw [ofV]; simp only [PV.ids]; rw [zs2 l]; rfl
 | .record c v l => by rw [ofV]; simp only [PV.ids, PV.ids.idsL]; rw [zs2 l]; rfl
 | .nothing => by rw [ofV]; rfl
 | .alien t => by rw [ofV]; rfl
theorem zxj : ∀ (l : List V), PV.ids.idsL (zxc l) = []
 | [] => by rw [zxc]; rfl
 | x :: r => by rw [zxc]; simp only [PV.ids.idsL]; rw [ids_V x, zxj r]; rfl
theorem zs2 : ∀ (l : List (Str × V)), PV.ids.idsL (zuz l) = []
 | [] => by rw [zuz]; rfl
 | (s, x) :: r => by rw [zuz]; simp only [PV.ids.idsL, PV.ids]; rw [ids_V x, zs2 r]; rfl
end
theorem z0r (p : Str × V) : (ofFld p).ids = [] := by simp only [ofFld, PV.ids, PV.ids.idsL]; rw [ids_V, zzp]; rfl
theorem zzr (r : Rec) : (zg0 r).ids = [] := by simp only [zg0]; exact z2m rfl (z2m rfl (z2m (z03 z0r _) rfl))
theorem zg9 (p : Option Rec) : (ofRecP p).ids = [] := by
 cases p with
 | none => rfl
 | some r => exact zzr r
theorem z0t (x : V) : (ofV x).cells = [ofV x] := by cases x <;> simp only [ofV] <;> rfl
theorem zb5 (x : V) : z6n (ofV x) = true := by cases x <;> simp only [ofV] <;> rfl
theorem z3t (x : V) : cok (ofV x) = true := by cases x <;> simp only [ofV] <;> rfl
theorem csz_V (x : V) : (ofV x).cells.length = 1 := by rw [z0t]; rfl
theorem z4i (x : V) : (ofV x).cells.all z6n = true := by rw [z0t]; simp [zb5]
theorem z6m (p : Str × V) : (ofFld p).cells.all z6n = true := by
 show ([z0i p.1, ofV p.2].all z6n) = true
 simp only [List.all_cons, List.all_nil, zb5, Bool.and_true]; rfl
theorem z7a (p : Str × V) : (ofFld p).cells.length = 2 := rfl
theorem z10 (p : Option Rec) : (ofRecP p).cells = [ofRecP p] := by cases p <;> rfl
theorem z3v (p : Option Rec) : z6n (ofRecP p) = true := by cases p <;> rfl
theorem z29 (p : Option Rec) : cok (ofRecP p) = true := by cases p <;> rfl
theorem z31 (p : Option Rec) : (ofRecP p).cells.length = 1 := by rw [z10]; rfl
def V.ofRecP : Option Rec → V
 | none => .nothing
 | some r => .record r.cls r.ver r.fields
theorem z7w (l : List V) : ofV (.list l) = .iface 67 (.sl none 20 1 (l.map ofV)) := by rw [ofV, z2c]
theorem z50 (l : List (Str × V)) : ofV (.dict l) = .iface 71 (.sl none 69 2 (l.map ofFld)) := by rw [ofV, z28]
theorem zg3 (l : Str) : ofV (.bytes l) = .iface 23 (.sl none 5 1 (l.map ofB)) := by rw [ofV]
theorem zg4 (x : Bool) : ofV (.bool x) = .iface 4 (.v (.bool x)) := by rw [ofV]
theorem zig (x : Int) : ofV (.int x) = .iface 2 (.v (.int .i64 x)) := by rw [ofV]
theorem zv2 (x : Nat) : ofV (.float x) = .iface 22 (.v (.float .f64 x)) := by rw [ofV]
theorem zze (x : Str) : ofV (.text x) = .iface 9 (z0i x) := by rw [ofV]
theorem Z2l (x : Int) : ofV (.ref x) = .iface 25 (.v (.int .u64 x)) := by rw [ofV]
theorem zet (p : Option Rec) : ofV (.ofRecP p) = .iface 73 (ofRecP p) := by
 cases p with
 | none => rw [V.ofRecP, ofV]; rfl
 | some r => rw [V.ofRecP, ofV, z28]; rfl
theorem mk_nil : ofV .nil = .v .nilIface := by rw [ofV]
theorem z30 (t : {t : Nat // zj7 t = true}) : ofV (.alien t) = .iface t.1 .junk := by rw [ofV]
theorem z48 (t : {t : Nat // zj7 t = true}) {k : Nat} (hk : zj7 k = false) : Nat.beq t.1 k = false := by
 cases h : Nat.beq t.1 k with
 | false => rfl
 | true => have := Nat.eq_of_beq_eq_true h; have h2 := t.2; rw [this, hk] at h2; cases h2
section
variable {H : List AEnt} {env : List (Nat × PV)} {n : Nat} {o : Oper}
abbrev V.isNil : V → Bool
 | .nil => true
 | _ => false
theorem zob {x : Operand} {t t2 : TypeId} {ms : Array (String × TypeId)} {v : V} (ht : Tryz.prog.underlying t = some (.interface ms)) (ho : o.op = .binOp .eql t x (.const .nilIface) t2) (hx : ev env x = some (ofV v)) : Op1 Tryz.prog o env H n (.v (.bool v.isNil)) H := by
 cases v <;> rw [ofV] at hx <;> first | exact zuu ht ho hx | exact zut ht ho hx
theorem zer {x : Operand} {t t2 e : TypeId} {p : Option Rec} (ht : Tryz.prog.underlying t = some (.pointer e)) (ho : o.op = .binOp .eql t x (.const (.pointer none)) t2) (hx : ev env x = some (ofRecP p)) : Op1 Tryz.prog o env H n (.v (.bool p.isNone)) H := by
 cases p with
 | none => exact zus ht ho hx
 | some r => exact zur ht ho hx rfl
theorem z1m {x : Operand} {p : Option Rec} {r : Rec} (ho : o.op = .nilCheck x) (hx : ev env x = some (ofRecP p)) (hr : p = some r) : Op1 Tryz.prog o env H n (.pt 75 (zg0 r) 0) H := by
 subst hr; exact zuj ho hx
abbrev V.isBool : V → Bool
 | .bool _ => true
 | _ => false
abbrev V.asBool : V → Bool
 | .bool x => x
 | _ => false
abbrev V.theBool : V → Option (Bool)
 | .bool x => some x
 | _ => none
theorem zeq {x : Operand} {xt : TypeId} {v : V} (ho : o.op = .typeAssert x xt 4 true) (hx : ev env x = some (ofV v)) : Op1 Tryz.prog o env H n (.tup [(.v (.bool v.asBool)), .v (.bool v.isBool)]) H := by
 cases v <;> simp only [ofV, z2c, z28] at hx
 all_goals first
  | exact (z70 Tryz.underlying4 rfl z3a ho hx)
  | exact (z71 Tryz.underlying4 rfl z3a ho hx).wk (.tup (.cons (.refl _) (.cons (.refl _) .nil)))
  | exact (z2z Tryz.underlying4 rfl z3a ho hx rfl).wk (.tup (.cons (.refl _) (.cons (.refl _) .nil)))
  | exact (z2z Tryz.underlying4 rfl z3a ho hx (z48 _ (by decide))).wk (.tup (.cons (.refl _) (.cons (.refl _) .nil)))
theorem zog {x : Operand} {xt : TypeId} {v : V} {y : Bool} (ho : o.op = .typeAssert x xt 4 false) (hx : ev env x = some (ofV v)) (hy : v.theBool = some y) : Op1 Tryz.prog o env H n (.v (.bool y)) H := by
 cases v <;> simp only [V.theBool] at hy <;> first | (cases hy; done) | skip
 all_goals (cases hy; simp only [ofV, z2c, z28] at hx; exact z72 Tryz.underlying4 rfl ho hx)
abbrev V.isInt : V → Bool
 | .int _ => true
 | _ => false
abbrev V.asInt : V → Int
 | .int x => x
 | _ => 0
abbrev V.theInt : V → Option (Int)
 | .int x => some x
 | _ => none
theorem zi9 {x : Operand} {xt : TypeId} {v : V} (ho : o.op = .typeAssert x xt 2 true) (hx : ev env x = some (ofV v)) : Op1 Tryz.prog o env H n (.tup [(.v (.int .i64 v.asInt)), .v (.bool v.isInt)]) H := by
 cases v <;> simp only [ofV, z2c, z28] at hx
 all_goals first
  | exact (z70 Tryz.underlying2 rfl zva ho hx)
  | exact (z71 Tryz.underlying2 rfl zva ho hx).wk (.tup (.cons (.refl _) (.cons (.refl _) .nil)))
  | exact (z2z Tryz.underlying2 rfl zva ho hx rfl).wk (.tup (.cons (.refl _) (.cons (.refl _) .nil)))
  | exact (z2z Tryz.underlying2 rfl zva ho hx (z48 _ (by decide))).wk (.tup (.cons (.refl _) (.cons (.refl _) .nil)))
theorem zr4 {x : Operand} {xt : TypeId} {v : V} {y : Int} (ho : o.op = .typeAssert x xt 2 false) (hx : ev env x = some (ofV v)) (hy : v.theInt = some y) : Op1 Tryz.prog o env H n (.v (.int .i64 y)) H := by
 cases v <;> simp only [V.theInt] at hy <;> first | (cases hy; done) | skip
 all_goals (cases hy; simp only [ofV, z2c, z28] at hx; exact z72 Tryz.underlying2 rfl ho hx)
abbrev V.isFloat : V → Bool
 | .float _ => true
 | _ => false
abbrev V.asFloat : V → Nat
 | .float x => x
 | _ => 0
abbrev V.theFloat : V → Option (Nat)
 | .float x => some x
 | _ => none
theorem zd5 {x : Operand} {xt : TypeId} {v : V} (ho : o.op = .typeAssert x xt 22 true) (hx : ev env x = some (ofV v)) : Op1 Tryz.prog o env H n (.tup [(.v (.float .f64 v.asFloat)), .v (.bool v.isFloat)]) H := by
 cases v <;> simp only [ofV, z2c, z28] at hx
 all_goals first
  | exact (z70 Tryz.underlying22 rfl zmf ho hx)
  | exact (z71 Tryz.underlying22 rfl zmf ho hx).wk (.tup (.cons (.refl _) (.cons (.refl _) .nil)))
  | exact (z2z Tryz.underlying22 rfl zmf ho hx rfl).wk (.tup (.cons (.refl _) (.cons (.refl _) .nil)))
  | exact (z2z Tryz.underlying22 rfl zmf ho hx (z48 _ (by decide))).wk (.tup (.cons (.refl _) (.cons (.refl _) .nil)))
theorem zk5 {x : Operand} {xt : TypeId} {v : V} {y : Nat} (ho : o.op = .typeAssert x xt 22 false) (hx : ev env x = some (ofV v)) (hy : v.theFloat = some y) : Op1 Tryz.prog o env H n (.v (.float .f64 y)) H := by
 cases v <;> simp only [V.theFloat] at hy <;> first | (cases hy; done) | skip
 all_goals (cases hy; simp only [ofV, z2c, z28] at hx; exact z72 Tryz.underlying22 rfl ho hx)
abbrev V.isText : V → Bool
 | .text _ => true
 | _ => false
abbrev V.asText : V → Str
 | .text x => x
 | _ => []
abbrev V.theText : V → Option (Str)
 | .text x => some x
 | _ => none
theorem zb3 {x : Operand} {xt : TypeId} {v : V} (ho : o.op = .typeAssert x xt 9 true) (hx : ev env x = some (ofV v)) : Op1 Tryz.prog o env H n (.tup [(z0i v.asText), .v (.bool v.isText)]) H := by
 cases v <;> simp only [ofV, z2c, z28] at hx
 all_goals first
  | exact (z70 Tryz.underlying9 rfl zv9 ho hx)
  | exact (z71 Tryz.underlying9 rfl zv9 ho hx).wk (.tup (.cons (.refl _) (.cons (.refl _) .nil)))
  | exact (z2z Tryz.underlying9 rfl zv9 ho hx rfl).wk (.tup (.cons (.refl _) (.cons (.refl _) .nil)))
  | exact (z2z Tryz.underlying9 rfl zv9 ho hx (z48 _ (by decide))).wk (.tup (.cons (.refl _) (.cons (.refl _) .nil)))
theorem zod {x : Operand} {xt : TypeId} {v : V} {y : Str} (ho : o.op = .typeAssert x xt 9 false) (hx : ev env x = some (ofV v)) (hy : v.theText = some y) : Op1 Tryz.prog o env H n (z0i y) H := by
 cases v <;> simp only [V.theText] at hy <;> first | (cases hy; done) | skip
 all_goals (cases hy; simp only [ofV, z2c, z28] at hx; exact z72 Tryz.underlying9 rfl ho hx)
abbrev V.isBytes : V → Bool
 | .bytes _ => true
 | _ => false
abbrev V.asBytes : V → Str
 | .bytes x => x
 | _ => []
abbrev V.theBytes : V → Option (Str)
 | .bytes x => some x
 | _ => none
theorem z4z {x : Operand} {xt : TypeId} {v : V} (ho : o.op = .typeAssert x xt 23 true) (hx : ev env x = some (ofV v)) : Op1 Tryz.prog o env H n (.tup [(.sl none 5 1 (v.asBytes.map ofB)), .v (.bool v.isBytes)]) H := by
 cases v <;> simp only [ofV, z2c, z28] at hx
 all_goals first
  | exact (z70 Tryz.underlying23 rfl zme ho hx)
  | exact (z71 Tryz.underlying23 rfl zme ho hx).wk (.tup (.cons Wk.nil (.cons (.refl _) .nil)))
  | exact (z2z Tryz.underlying23 rfl zme ho hx rfl).wk (.tup (.cons Wk.nil (.cons (.refl _) .nil)))
  | exact (z2z Tryz.underlying23 rfl zme ho hx (z48 _ (by decide))).wk (.tup (.cons Wk.nil (.cons (.refl _) .nil)))
theorem zk6 {x : Operand} {xt : TypeId} {v : V} {y : Str} (ho : o.op = .typeAssert x xt 23 false) (hx : ev env x = some (ofV v)) (hy : v.theBytes = some y) : Op1 Tryz.prog o env H n (.sl none 5 1 (y.map ofB)) H := by
 cases v <;> simp only [V.theBytes] at hy <;> first | (cases hy; done) | skip
 all_goals (cases hy; simp only [ofV, z2c, z28] at hx; exact z72 Tryz.underlying23 rfl ho hx)
abbrev V.isRef : V → Bool
 | .ref _ => true
 | _ => false
abbrev V.asRef : V → Int
 | .ref x => x
 | _ => 0
abbrev V.theRef : V → Option (Int)
 | .ref x => some x
 | _ => none
theorem zi8 {x : Operand} {xt : TypeId} {v : V} (ho : o.op = .typeAssert x xt 25 true) (hx : ev env x = some (ofV v)) : Op1 Tryz.prog o env H n (.tup [(.v (.int .u64 v.asRef)), .v (.bool v.isRef)]) H := by
 cases v <;> simp only [ofV, z2c, z28] at hx
 all_goals first
  | exact (z70 Tryz.underlying25 rfl zmd ho hx)
  | exact (z71 Tryz.underlying25 rfl zmd ho hx).wk (.tup (.cons (.refl _) (.cons (.refl _) .nil)))
  | exact (z2z Tryz.underlying25 rfl zmd ho hx rfl).wk (.tup (.cons (.refl _) (.cons (.refl _) .nil)))
  | exact (z2z Tryz.underlying25 rfl zmd ho hx (z48 _ (by decide))).wk (.tup (.cons (.refl _) (.cons (.refl _) .nil)))
theorem zr2 {x : Operand} {xt : TypeId} {v : V} {y : Int} (ho : o.op = .typeAssert x xt 25 false) (hx : ev env x = some (ofV v)) (hy : v.theRef = some y) : Op1 Tryz.prog o env H n (.v (.int .u64 y)) H := by
 cases v <;> simp only [V.theRef] at hy <;> first | (cases hy; done) | skip
 all_goals (cases hy; simp only [ofV, z2c, z28] at hx; exact z72 Tryz.underlying25 rfl ho hx)
abbrev V.isList : V → Bool
 | .list _ => true
 | _ => false
abbrev V.asList : V → List V
 | .list x => x
 | _ => []
abbrev V.theList : V → Option (List V)
 | .list x => some x
 | _ => none
theorem z1w {x : Operand} {xt : TypeId} {v : V} (ho : o.op = .typeAssert x xt 67 true) (hx : ev env x = some (ofV v)) : Op1 Tryz.prog o env H n (.tup [(.sl none 20 1 (v.asList.map ofV)), .v (.bool v.isList)]) H := by
 cases v <;> simp only [ofV, z2c, z28] at hx
 all_goals first
  | exact (z70 Tryz.underlying67 rfl zmc ho hx)
  | exact (z71 Tryz.underlying67 rfl zmc ho hx).wk (.tup (.cons Wk.nil (.cons (.refl _) .nil)))
  | exact (z2z Tryz.underlying67 rfl zmc ho hx rfl).wk (.tup (.cons Wk.nil (.cons (.refl _) .nil)))
  | exact (z2z Tryz.underlying67 rfl zmc ho hx (z48 _ (by decide))).wk (.tup (.cons Wk.nil (.cons (.refl _) .nil)))
theorem zoe {x : Operand} {xt : TypeId} {v : V} {y : List V} (ho : o.op = .typeAssert x xt 67 false) (hx : ev env x = some (ofV v)) (hy : v.theList = some y) : Op1 Tryz.prog o env H n (.sl none 20 1 (y.map ofV)) H := by
 cases v <;> simp only [V.theList] at hy <;> first | (cases hy; done) | skip
 all_goals (cases hy; simp only [ofV, z2c, z28] at hx; exact z72 Tryz.underlying67 rfl ho hx)
abbrev V.isDict : V → Bool
 | .dict _ => true
 | _ => false
abbrev V.asDict : V → List (Str × V)
 | .dict x => x
 | _ => []
abbrev V.theDict : V → Option (List (Str × V))
 | .dict x => some x
 | _ => none
theorem z2r {x : Operand} {xt : TypeId} {v : V} (ho : o.op = .typeAssert x xt 71 true) (hx : ev env x = some (ofV v)) : Op1 Tryz.prog o env H n (.tup [(.sl none 69 2 (v.asDict.map ofFld)), .v (.bool v.isDict)]) H := by
 cases v <;> simp only [ofV, z2c, z28] at hx
 all_goals first
  | exact (z70 Tryz.underlying71 rfl zmb ho hx)
  | exact (z71 Tryz.underlying71 rfl zmb ho hx).wk (.tup (.cons Wk.nil (.cons (.refl _) .nil)))
  | exact (z2z Tryz.underlying71 rfl zmb ho hx rfl).wk (.tup (.cons Wk.nil (.cons (.refl _) .nil)))
  | exact (z2z Tryz.underlying71 rfl zmb ho hx (z48 _ (by decide))).wk (.tup (.cons Wk.nil (.cons (.refl _) .nil)))
theorem zof {x : Operand} {xt : TypeId} {v : V} {y : List (Str × V)} (ho : o.op = .typeAssert x xt 71 false) (hx : ev env x = some (ofV v)) (hy : v.theDict = some y) : Op1 Tryz.prog o env H n (.sl none 69 2 (y.map ofFld)) H := by
 cases v <;> simp only [V.theDict] at hy <;> first | (cases hy; done) | skip
 all_goals (cases hy; simp only [ofV, z2c, z28] at hx; exact z72 Tryz.underlying71 rfl ho hx)
abbrev V.isRec : V → Bool
 | .record _ _ _ => true
 | .nothing => true
 | _ => false
abbrev V.asRec : V → Option Rec
 | .record c v l => some ⟨c, v, l⟩
 | _ => none
abbrev V.theRec : V → Option (Option Rec)
 | .record c v l => some (some ⟨c, v, l⟩)
 | .nothing => some none
 | _ => none
theorem z35 {x : Operand} {xt : TypeId} {v : V} (ho : o.op = .typeAssert x xt 73 true) (hx : ev env x = some (ofV v)) : Op1 Tryz.prog o env H n (.tup [ofRecP v.asRec, .v (.bool v.isRec)]) H := by
 cases v <;> simp only [ofV, z2c, z28] at hx
 all_goals first
  | exact (z70 Tryz.underlying73 rfl zma ho hx)
  | exact (z71 Tryz.underlying73 rfl zma ho hx)
  | exact (z2z Tryz.underlying73 rfl zma ho hx rfl)
  | exact (z2z Tryz.underlying73 rfl zma ho hx (z48 _ (by decide)))
theorem zr3 {x : Operand} {xt : TypeId} {v : V} {y : Option Rec} (ho : o.op = .typeAssert x xt 73 false) (hx : ev env x = some (ofV v)) (hy : v.theRec = some y) : Op1 Tryz.prog o env H n (ofRecP y) H := by
 cases v <;> simp only [V.theRec] at hy <;> first | (cases hy; done) | skip
 all_goals (cases hy; simp only [ofV, z2c, z28] at hx; exact z72 Tryz.underlying73 rfl ho hx)
end
inductive Term where
 | mk (kind : Int) (bool : Bool) (int : Int) (float : Nat) (text : Str) (bytes : Str) (ref : Int) (list : List Term) (fields : List (Str × Term)) (cls : Str) (ver : Int)
namespace Term
def kind : Term → Int | .mk a _ _ _ _ _ _ _ _ _ _ => a
def bool : Term → Bool | .mk _ a _ _ _ _ _ _ _ _ _ => a
def int : Term → Int | .mk _ _ a _ _ _ _ _ _ _ _ => a
def float : Term → Nat | .mk _ _ _ a _ _ _ _ _ _ _ => a
def text : Term → Str | .mk _ _ _ _ a _ _ _ _ _ _ => a
def bytes : Term → Str | .mk _ _ _ _ _ a _ _ _ _ _ => a
def ref : Term → Int | .mk _ _ _ _ _ _ a _ _ _ _ => a
def list : Term → List Term | .mk _ _ _ _ _ _ _ a _ _ _ => a
def fields : Term → List (Str × Term) | .mk _ _ _ _ _ _ _ _ a _ _ => a
def cls : Term → Str | .mk _ _ _ _ _ _ _ _ _ a _ => a
def ver : Term → Int | .mk _ _ _ _ _ _ _ _ _ _ a => a
end Term
mutual
def z4a : Term → PV
 | .mk k b i f t y r l d c v => .agg [.v (.int .i64 k), .v (.bool b), .v (.int .i64 i), .v (.float .f64 f), z0i t, .sl none 5 1 (y.map ofB), .v (.int .u64 r), .sl none 29 11 (z7v l), .sl none 113 12 (z4b d), z0i c, .v (.int .i64 v)]
def z7v : List Term → List PV
 | [] => []
 | x :: r => z4a x :: z7v r
def z4b : List (Str × Term) → List PV
 | [] => []
 | (s, x) :: r => .agg (z0i s :: (z4a x).cells) :: z4b r
end
def z36 (p : Str × Term) : PV := .agg (z0i p.1 :: (z4a p.2).cells)
def z3w (t : Term) : PV := .agg [.v (.int .i64 t.kind), .v (.bool t.bool), .v (.int .i64 t.int), .v (.float .f64 t.float), z0i t.text, .sl none 5 1 (t.bytes.map ofB), .v (.int .u64 t.ref), .sl none 29 11 (t.list.map z4a), .sl none 113 12 (t.fields.map z36), z0i t.cls, .v (.int .i64 t.ver)]
def zg1 (p : Str × Term) : PV := .agg (z0i p.1 :: (z3w p.2).cells)
theorem zdb : ∀ l, z7v l = l.map z4a
 | [] => by rw [z7v]; rfl
 | x :: r => by rw [z7v, zdb r]; rfl
theorem z78 : ∀ l, z4b l = l.map z36
 | [] => by rw [z4b]; rfl
 | (s, x) :: r => by rw [z4b, z78 r]; rfl
theorem z9x (t : Term) : z4a t = z3w t := by cases t; simp only [z4a, zdb, z78]; rfl
theorem zb6 (p : Str × Term) : z36 p = zg1 p := by simp only [z36, zg1, z9x]
mutual
theorem z8c : ∀ (t : Term), (z4a t).ids = []
 | .mk k b i f t y r l d c v => by
  simp only [z4a, PV.ids, PV.ids.idsL]
  rw [z0u Z32, zir l, z8t d]; rfl
theorem zir : ∀ (l : List Term), PV.ids.idsL (z7v l) = []
 | [] => by rw [z7v]; rfl
 | x :: r => by rw [z7v]; simp only [PV.ids.idsL]; rw [z8c x, zir r]; rfl
theorem z8t : ∀ (l : List (Str × Term)), PV.ids.idsL (z4b l) = []
 | [] => by rw [z4b]; rfl
 | (s, x) :: r => by
  have h : (z4a x).ids = PV.ids.idsL (z4a x).cells := by cases x; simp only [z4a]; rfl
  rw [z4b]; simp only [PV.ids.idsL, PV.ids]; rw [← h, z8c x, z8t r]; rfl
end
theorem zdi (t : Term) : (z3w t).ids = [] := by rw [← z9x]; exact z8c t
theorem z6i (p : Str × Term) : (z36 p).ids = [] := by
 have h := z8t [p]
 rw [z78] at h
 simp only [List.map_cons, List.map_nil, PV.ids.idsL, List.append_nil] at h
 exact h
end Go.Proofs.YthidgpcbnieleaaGreatDoor
