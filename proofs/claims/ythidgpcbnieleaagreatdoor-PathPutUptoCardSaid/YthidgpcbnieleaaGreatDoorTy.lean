/- Values, records and terms: as trees of Lean's, and as trees of the program's. -/
import Derived.Test.YthidgpcbnieleaaGreatDoorV0
import Derived.Test.YthidgpcbnieleaaGreatDoorAwT
namespace Go.Proofs.YthidgpcbnieleaaGreatDoor
open Go Aw
set_option linter.unusedVariables false
set_option linter.unusedSimpArgs false
set_option maxRecDepth 8000
def zhl (t : Nat) : Bool := !([4, 2, 22, 9, 23, 25, 67, 71, 73].contains t)
inductive V where
 | nil
 | bool (b : Bool)
 | int (i : Int)
 | float (f : Nat)
 | text (s : Str)
 | bytes (b : Str)
 | ref (r : Int)
 | list (l : List V)
 | dict (l : List (Str × V))
 | record (c : Str) (v : Int) (l : List (Str × V))
 | nothing
 | alien (t : {t : Nat // zhl t = true})
instance : Inhabited V := ⟨.nil⟩
structure Rec where
 cls : Str
 ver : Int
 fields : List (Str × V)
mutual
def ofV : V → PV
 | .nil => .v .nilIface
 | .bool b => .iface 4 (.v (.bool b))
 | .int i => .iface 2 (.v (.int .i64 i))
 | .float f => .iface 22 (.v (.float .f64 f))
 | .text s => .iface 9 (z0k s)
 | .bytes b => .iface 23 (.sl none 5 1 (b.map ofB))
 | .ref r => .iface 25 (.v (.int .u64 r))
 | .list l => .iface 67 (.sl none 20 1 (zua l))
 | .dict l => .iface 71 (.sl none 69 2 (zs9 l))
 | .record c v l => .iface 73 (.pt 75 (.agg [z0k c, .v (.int .i64 v), .sl none 69 2 (zs9 l)]) 0)
 | .nothing => .iface 73 (.v (.pointer none))
 | .alien t => .iface t.1 .junk
def zua : List V → List PV
 | [] => []
 | x :: r => ofV x :: zua r
def zs9 : List (Str × V) → List PV
 | [] => []
 | (s, x) :: r => .agg [z0k s, ofV x] :: zs9 r
end
def ofFld (p : Str × V) : PV := .agg [z0k p.1, ofV p.2]
theorem z1x : ∀ l, zua l = l.map ofV
 | [] => by rw [zua]; rfl
 | x :: r => by rw [zua, z1x r]; rfl
theorem z1r : ∀ l, zs9 l = l.map ofFld
 | [] => by rw [zs9]; rfl
 | (s, x) :: r => by rw [zs9, z1r r]; rfl
def zgs (r : Rec) : PV := .agg [z0k r.cls, .v (.int .i64 r.ver), .sl none 69 2 (r.fields.map ofFld)]
def ofRecP : Option Rec → PV
 | none => .v (.pointer none)
 | some r => .pt 75 (zgs r) 0
theorem zwk (s : Str) : (z0k s).ids = [] := rfl
theorem zzi (b : UInt8) : (ofB b).ids = [] := rfl
mutual
theorem ids_V : ∀ (x : V), (ofV x).ids = []
 | .nil => by rw [ofV]; rfl
 | .bool b => by rw [ofV]; rfl
 | .int i => by rw [ofV]; rfl
 | .float f => by rw [ofV]; rfl
 | .text s => by rw [ofV]; rfl
 | .bytes b => by rw [ofV]; exact z06 (e := 5) (sz := 1) zzi b
 | .ref r => by rw [ofV]; rfl
 | .list l => by rw [ofV]; simp only [PV.ids]; rw [zuf l]; rfl
 | .dict l => by rw [ofV]; simp only [PV.ids]; rw [zpm l]; rfl
 | .record c v l => by rw [ofV]; simp only [PV.ids, PV.ids.idsL]; rw [zpm l]; rfl
 | .nothing => by rw [ofV]; rfl
 | .alien t => by rw [ofV]; rfl
theorem zuf : ∀ (l : List V), PV.ids.idsL (zua l) = []
 | [] => by rw [zua]; rfl
 | x :: r => by rw [zua]; simp only [PV.ids.idsL]; rw [ids_V x, zuf r]; rfl
theorem zpm : ∀ (l : List (Str × V)), PV.ids.idsL (zs9 l) = []
 | [] => by rw [zs9]; rfl
 | (s, x) :: r => by rw [zs9]; simp only [PV.ids.idsL, PV.ids]; rw [ids_V x, zpm r]; rfl
end
theorem z0q (p : Str × V) : (ofFld p).ids = [] := by simp only [ofFld, PV.ids, PV.ids.idsL]; rw [ids_V, zwk]; rfl
theorem zwm (r : Rec) : (zgs r).ids = [] := by simp only [zgs]; exact z29 rfl (z29 rfl (z29 (z06 z0q _) rfl))
theorem zew (p : Option Rec) : (ofRecP p).ids = [] := by
 cases p with
 | none => rfl
 | some r => exact zwm r
theorem z11 (x : V) : (ofV x).cells = [ofV x] := by cases x <;> simp only [ofV] <;> rfl
theorem zeo (x : V) : z6h (ofV x) = true := by cases x <;> simp only [ofV] <;> rfl
theorem z5c (x : V) : cok (ofV x) = true := by cases x <;> simp only [ofV] <;> rfl
theorem csz_V (x : V) : (ofV x).cells.length = 1 := by rw [z11]; rfl
theorem z86 (x : V) : (ofV x).cells.all z6h = true := by rw [z11]; simp [zeo]
theorem z79 (p : Str × V) : (ofFld p).cells.all z6h = true := by
 show ([z0k p.1, ofV p.2].all z6h) = true
 simp only [List.all_cons, List.all_nil, zeo, Bool.and_true]; rfl
theorem z74 (p : Str × V) : (ofFld p).cells.length = 2 := rfl
theorem z0v (p : Option Rec) : (ofRecP p).cells = [ofRecP p] := by cases p <;> rfl
theorem z68 (p : Option Rec) : z6h (ofRecP p) = true := by cases p <;> rfl
theorem z26 (p : Option Rec) : cok (ofRecP p) = true := by cases p <;> rfl
theorem z3a (p : Option Rec) : (ofRecP p).cells.length = 1 := by rw [z0v]; rfl
def V.ofRecP : Option Rec → V
 | none => .nothing
 | some r => .record r.cls r.ver r.fields
theorem z7y (l : List V) : ofV (.list l) = .iface 67 (.sl none 20 1 (l.map ofV)) := by rw [ofV, z1x]
theorem z59 (l : List (Str × V)) : ofV (.dict l) = .iface 71 (.sl none 69 2 (l.map ofFld)) := by rw [ofV, z1r]
theorem zju (l : Str) : ofV (.bytes l) = .iface 23 (.sl none 5 1 (l.map ofB)) := by rw [ofV]
theorem zer (x : Bool) : ofV (.bool x) = .iface 4 (.v (.bool x)) := by rw [ofV]
theorem zgv (x : Int) : ofV (.int x) = .iface 2 (.v (.int .i64 x)) := by rw [ofV]
theorem zsd (x : Nat) : ofV (.float x) = .iface 22 (.v (.float .f64 x)) := by rw [ofV]
theorem zw8 (x : Str) : ofV (.text x) = .iface 9 (z0k x) := by rw [ofV]
theorem zz2 (x : Int) : ofV (.ref x) = .iface 25 (.v (.int .u64 x)) := by rw [ofV]
theorem zgu (p : Option Rec) : ofV (.ofRecP p) = .iface 73 (ofRecP p) := by
 cases p with
 | none => rw [V.ofRecP, ofV]; rfl
 | some r => rw [V.ofRecP, ofV, z1r]; rfl
theorem mk_nil : ofV .nil = .v .nilIface := by rw [ofV]
theorem z2r (t : {t : Nat // zhl t = true}) : ofV (.alien t) = .iface t.1 .junk := by rw [ofV]
theorem z3s (t : {t : Nat // zhl t = true}) {k : Nat} (hk : zhl k = false) : Nat.beq t.1 k = false := by
 cases h : Nat.beq t.1 k with
 | false => rfl
 | true => have := Nat.eq_of_beq_eq_true h; have h2 := t.2; rw [this, hk] at h2; cases h2
section
variable {H : List AEnt} {env : List (Nat × PV)} {n : Nat} {o : Oper}
abbrev V.isNil : V → Bool
 | .nil => true
 | _ => false
theorem zdf {x : Operand} {t t2 : TypeId} {ms : Array (String × TypeId)} {v : V} (ht : Tryz.prog.underlying t = some (.interface ms)) (ho : o.op = .binOp .eql t x (.const .nilIface) t2) (hx : ev env x = some (ofV v)) : Op1 Tryz.prog o env H n (.v (.bool v.isNil)) H := by
 cases v <;> rw [ofV] at hx <;> first | exact zs4 ht ho hx | exact zs3 ht ho hx
theorem zdh {x : Operand} {t t2 e : TypeId} {p : Option Rec} (ht : Tryz.prog.underlying t = some (.pointer e)) (ho : o.op = .binOp .eql t x (.const (.pointer none)) t2) (hx : ev env x = some (ofRecP p)) : Op1 Tryz.prog o env H n (.v (.bool p.isNone)) H := by
 cases p with
 | none => exact zs2 ht ho hx
 | some r => exact zs1 ht ho hx rfl
theorem z1e {x : Operand} {p : Option Rec} {r : Rec} (ho : o.op = .nilCheck x) (hx : ev env x = some (ofRecP p)) (hr : p = some r) : Op1 Tryz.prog o env H n (.pt 75 (zgs r) 0) H := by
 subst hr; exact zrs ho hx
abbrev V.isBool : V → Bool
 | .bool _ => true
 | _ => false
abbrev V.asBool : V → Bool
 | .bool x => x
 | _ => false
abbrev V.theBool : V → Option (Bool)
 | .bool x => some x
 | _ => none
theorem zdg {x : Operand} {xt : TypeId} {v : V} (ho : o.op = .typeAssert x xt 4 true) (hx : ev env x = some (ofV v)) : Op1 Tryz.prog o env H n (.tup [(.v (.bool v.asBool)), .v (.bool v.isBool)]) H := by
 cases v <;> simp only [ofV, z1x, z1r] at hx
 all_goals first
  | exact (z62 Tryz.underlying4 rfl zsk ho hx)
  | exact (z63 Tryz.underlying4 rfl zsk ho hx).wk (.tup (.cons (.refl _) (.cons (.refl _) .nil)))
  | exact (z2o Tryz.underlying4 rfl zsk ho hx rfl).wk (.tup (.cons (.refl _) (.cons (.refl _) .nil)))
  | exact (z2o Tryz.underlying4 rfl zsk ho hx (z3s _ (by decide))).wk (.tup (.cons (.refl _) (.cons (.refl _) .nil)))
theorem zm4 {x : Operand} {xt : TypeId} {v : V} {y : Bool} (ho : o.op = .typeAssert x xt 4 false) (hx : ev env x = some (ofV v)) (hy : v.theBool = some y) : Op1 Tryz.prog o env H n (.v (.bool y)) H := by
 cases v <;> simp only [V.theBool] at hy <;> first | (cases hy; done) | skip
 all_goals (cases hy; simp only [ofV, z1x, z1r] at hx; exact z65 Tryz.underlying4 rfl ho hx)
abbrev V.isInt : V → Bool
 | .int _ => true
 | _ => false
abbrev V.asInt : V → Int
 | .int x => x
 | _ => 0
abbrev V.theInt : V → Option (Int)
 | .int x => some x
 | _ => none
theorem zgn {x : Operand} {xt : TypeId} {v : V} (ho : o.op = .typeAssert x xt 2 true) (hx : ev env x = some (ofV v)) : Op1 Tryz.prog o env H n (.tup [(.v (.int .i64 v.asInt)), .v (.bool v.isInt)]) H := by
 cases v <;> simp only [ofV, z1x, z1r] at hx
 all_goals first
  | exact (z62 Tryz.underlying2 rfl zsm ho hx)
  | exact (z63 Tryz.underlying2 rfl zsm ho hx).wk (.tup (.cons (.refl _) (.cons (.refl _) .nil)))
  | exact (z2o Tryz.underlying2 rfl zsm ho hx rfl).wk (.tup (.cons (.refl _) (.cons (.refl _) .nil)))
  | exact (z2o Tryz.underlying2 rfl zsm ho hx (z3s _ (by decide))).wk (.tup (.cons (.refl _) (.cons (.refl _) .nil)))
theorem zoq {x : Operand} {xt : TypeId} {v : V} {y : Int} (ho : o.op = .typeAssert x xt 2 false) (hx : ev env x = some (ofV v)) (hy : v.theInt = some y) : Op1 Tryz.prog o env H n (.v (.int .i64 y)) H := by
 cases v <;> simp only [V.theInt] at hy <;> first | (cases hy; done) | skip
 all_goals (cases hy; simp only [ofV, z1x, z1r] at hx; exact z65 Tryz.underlying2 rfl ho hx)
abbrev V.isFloat : V → Bool
 | .float _ => true
 | _ => false
abbrev V.asFloat : V → Nat
 | .float x => x
 | _ => 0
abbrev V.theFloat : V → Option (Nat)
 | .float x => some x
 | _ => none
theorem zbu {x : Operand} {xt : TypeId} {v : V} (ho : o.op = .typeAssert x xt 22 true) (hx : ev env x = some (ofV v)) : Op1 Tryz.prog o env H n (.tup [(.v (.float .f64 v.asFloat)), .v (.bool v.isFloat)]) H := by
 cases v <;> simp only [ofV, z1x, z1r] at hx
 all_goals first
  | exact (z62 Tryz.underlying22 rfl zk5 ho hx)
  | exact (z63 Tryz.underlying22 rfl zk5 ho hx).wk (.tup (.cons (.refl _) (.cons (.refl _) .nil)))
  | exact (z2o Tryz.underlying22 rfl zk5 ho hx rfl).wk (.tup (.cons (.refl _) (.cons (.refl _) .nil)))
  | exact (z2o Tryz.underlying22 rfl zk5 ho hx (z3s _ (by decide))).wk (.tup (.cons (.refl _) (.cons (.refl _) .nil)))
theorem zi9 {x : Operand} {xt : TypeId} {v : V} {y : Nat} (ho : o.op = .typeAssert x xt 22 false) (hx : ev env x = some (ofV v)) (hy : v.theFloat = some y) : Op1 Tryz.prog o env H n (.v (.float .f64 y)) H := by
 cases v <;> simp only [V.theFloat] at hy <;> first | (cases hy; done) | skip
 all_goals (cases hy; simp only [ofV, z1x, z1r] at hx; exact z65 Tryz.underlying22 rfl ho hx)
abbrev V.isText : V → Bool
 | .text _ => true
 | _ => false
abbrev V.asText : V → Str
 | .text x => x
 | _ => []
abbrev V.theText : V → Option (Str)
 | .text x => some x
 | _ => none
theorem z9y {x : Operand} {xt : TypeId} {v : V} (ho : o.op = .typeAssert x xt 9 true) (hx : ev env x = some (ofV v)) : Op1 Tryz.prog o env H n (.tup [(z0k v.asText), .v (.bool v.isText)]) H := by
 cases v <;> simp only [ofV, z1x, z1r] at hx
 all_goals first
  | exact (z62 Tryz.underlying9 rfl zsj ho hx)
  | exact (z63 Tryz.underlying9 rfl zsj ho hx).wk (.tup (.cons (.refl _) (.cons (.refl _) .nil)))
  | exact (z2o Tryz.underlying9 rfl zsj ho hx rfl).wk (.tup (.cons (.refl _) (.cons (.refl _) .nil)))
  | exact (z2o Tryz.underlying9 rfl zsj ho hx (z3s _ (by decide))).wk (.tup (.cons (.refl _) (.cons (.refl _) .nil)))
theorem zm1 {x : Operand} {xt : TypeId} {v : V} {y : Str} (ho : o.op = .typeAssert x xt 9 false) (hx : ev env x = some (ofV v)) (hy : v.theText = some y) : Op1 Tryz.prog o env H n (z0k y) H := by
 cases v <;> simp only [V.theText] at hy <;> first | (cases hy; done) | skip
 all_goals (cases hy; simp only [ofV, z1x, z1r] at hx; exact z65 Tryz.underlying9 rfl ho hx)
abbrev V.isBytes : V → Bool
 | .bytes _ => true
 | _ => false
abbrev V.asBytes : V → Str
 | .bytes x => x
 | _ => []
abbrev V.theBytes : V → Option (Str)
 | .bytes x => some x
 | _ => none
theorem z64 {x : Operand} {xt : TypeId} {v : V} (ho : o.op = .typeAssert x xt 23 true) (hx : ev env x = some (ofV v)) : Op1 Tryz.prog o env H n (.tup [(.sl none 5 1 (v.asBytes.map ofB)), .v (.bool v.isBytes)]) H := by
 cases v <;> simp only [ofV, z1x, z1r] at hx
 all_goals first
  | exact (z62 Tryz.underlying23 rfl zk4 ho hx)
  | exact (z63 Tryz.underlying23 rfl zk4 ho hx).wk (.tup (.cons Wk.nil (.cons (.refl _) .nil)))
  | exact (z2o Tryz.underlying23 rfl zk4 ho hx rfl).wk (.tup (.cons Wk.nil (.cons (.refl _) .nil)))
  | exact (z2o Tryz.underlying23 rfl zk4 ho hx (z3s _ (by decide))).wk (.tup (.cons Wk.nil (.cons (.refl _) .nil)))
theorem zia {x : Operand} {xt : TypeId} {v : V} {y : Str} (ho : o.op = .typeAssert x xt 23 false) (hx : ev env x = some (ofV v)) (hy : v.theBytes = some y) : Op1 Tryz.prog o env H n (.sl none 5 1 (y.map ofB)) H := by
 cases v <;> simp only [V.theBytes] at hy <;> first | (cases hy; done) | skip
 all_goals (cases hy; simp only [ofV, z1x, z1r] at hx; exact z65 Tryz.underlying23 rfl ho hx)
abbrev V.isRef : V → Bool
 | .ref _ => true
 | _ => false
abbrev V.asRef : V → Int
 | .ref x => x
 | _ => 0
abbrev V.theRef : V → Option (Int)
 | .ref x => some x
 | _ => none
theorem zgm {x : Operand} {xt : TypeId} {v : V} (ho : o.op = .typeAssert x xt 25 true) (hx : ev env x = some (ofV v)) : Op1 Tryz.prog o env H n (.tup [(.v (.int .u64 v.asRef)), .v (.bool v.isRef)]) H := by
 cases v <;> simp only [ofV, z1x, z1r] at hx
 all_goals first
  | exact (z62 Tryz.underlying25 rfl zk3 ho hx)
  | exact (z63 Tryz.underlying25 rfl zk3 ho hx).wk (.tup (.cons (.refl _) (.cons (.refl _) .nil)))
  | exact (z2o Tryz.underlying25 rfl zk3 ho hx rfl).wk (.tup (.cons (.refl _) (.cons (.refl _) .nil)))
  | exact (z2o Tryz.underlying25 rfl zk3 ho hx (z3s _ (by decide))).wk (.tup (.cons (.refl _) (.cons (.refl _) .nil)))
theorem zoo {x : Operand} {xt : TypeId} {v : V} {y : Int} (ho : o.op = .typeAssert x xt 25 false) (hx : ev env x = some (ofV v)) (hy : v.theRef = some y) : Op1 Tryz.prog o env H n (.v (.int .u64 y)) H := by
 cases v <;> simp only [V.theRef] at hy <;> first | (cases hy; done) | skip
 all_goals (cases hy; simp only [ofV, z1x, z1r] at hx; exact z65 Tryz.underlying25 rfl ho hx)
abbrev V.isList : V → Bool
 | .list _ => true
 | _ => false
abbrev V.asList : V → List V
 | .list x => x
 | _ => []
abbrev V.theList : V → Option (List V)
 | .list x => some x
 | _ => none
theorem z27 {x : Operand} {xt : TypeId} {v : V} (ho : o.op = .typeAssert x xt 67 true) (hx : ev env x = some (ofV v)) : Op1 Tryz.prog o env H n (.tup [(.sl none 20 1 (v.asList.map ofV)), .v (.bool v.isList)]) H := by
 cases v <;> simp only [ofV, z1x, z1r] at hx
 all_goals first
  | exact (z62 Tryz.underlying67 rfl zk2 ho hx)
  | exact (z63 Tryz.underlying67 rfl zk2 ho hx).wk (.tup (.cons Wk.nil (.cons (.refl _) .nil)))
  | exact (z2o Tryz.underlying67 rfl zk2 ho hx rfl).wk (.tup (.cons Wk.nil (.cons (.refl _) .nil)))
  | exact (z2o Tryz.underlying67 rfl zk2 ho hx (z3s _ (by decide))).wk (.tup (.cons Wk.nil (.cons (.refl _) .nil)))
theorem zm2 {x : Operand} {xt : TypeId} {v : V} {y : List V} (ho : o.op = .typeAssert x xt 67 false) (hx : ev env x = some (ofV v)) (hy : v.theList = some y) : Op1 Tryz.prog o env H n (.sl none 20 1 (y.map ofV)) H := by
 cases v <;> simp only [V.theList] at hy <;> first | (cases hy; done) | skip
 all_goals (cases hy; simp only [ofV, z1x, z1r] at hx; exact z65 Tryz.underlying67 rfl ho hx)
abbrev V.isDict : V → Bool
 | .dict _ => true
 | _ => false
abbrev V.asDict : V → List (Str × V)
 | .dict x => x
 | _ => []
abbrev V.theDict : V → Option (List (Str × V))
 | .dict x => some x
 | _ => none
theorem z2m {x : Operand} {xt : TypeId} {v : V} (ho : o.op = .typeAssert x xt 71 true) (hx : ev env x = some (ofV v)) : Op1 Tryz.prog o env H n (.tup [(.sl none 69 2 (v.asDict.map ofFld)), .v (.bool v.isDict)]) H := by
 cases v <;> simp only [ofV, z1x, z1r] at hx
 all_goals first
  | exact (z62 Tryz.underlying71 rfl zk1 ho hx)
  | exact (z63 Tryz.underlying71 rfl zk1 ho hx).wk (.tup (.cons Wk.nil (.cons (.refl _) .nil)))
  | exact (z2o Tryz.underlying71 rfl zk1 ho hx rfl).wk (.tup (.cons Wk.nil (.cons (.refl _) .nil)))
  | exact (z2o Tryz.underlying71 rfl zk1 ho hx (z3s _ (by decide))).wk (.tup (.cons Wk.nil (.cons (.refl _) .nil)))
theorem zm3 {x : Operand} {xt : TypeId} {v : V} {y : List (Str × V)} (ho : o.op = .typeAssert x xt 71 false) (hx : ev env x = some (ofV v)) (hy : v.theDict = some y) : Op1 Tryz.prog o env H n (.sl none 69 2 (y.map ofFld)) H := by
 cases v <;> simp only [V.theDict] at hy <;> first | (cases hy; done) | skip
 all_goals (cases hy; simp only [ofV, z1x, z1r] at hx; exact z65 Tryz.underlying71 rfl ho hx)
abbrev V.isRec : V → Bool
 | .record _ _ _ => true
 | .nothing => true
 | _ => false
abbrev V.asRec : V → Option Rec
 | .record c v l => some ⟨c, v, l⟩
 | _ => none
abbrev V.theRec : V → Option (Option Rec)
 | .record c v l => some (some ⟨c, v, l⟩)
 | .nothing => some none
 | _ => none
theorem z32 {x : Operand} {xt : TypeId} {v : V} (ho : o.op = .typeAssert x xt 73 true) (hx : ev env x = some (ofV v)) : Op1 Tryz.prog o env H n (.tup [ofRecP v.asRec, .v (.bool v.isRec)]) H := by
 cases v <;> simp only [ofV, z1x, z1r] at hx
 all_goals first
  | exact (z62 Tryz.underlying73 rfl zk0 ho hx)
  | exact (z63 Tryz.underlying73 rfl zk0 ho hx)
  | exact (z2o Tryz.underlying73 rfl zk0 ho hx rfl)
  | exact (z2o Tryz.underlying73 rfl zk0 ho hx (z3s _ (by decide)))
theorem zop {x : Operand} {xt : TypeId} {v : V} {y : Option Rec} (ho : o.op = .typeAssert x xt 73 false) (hx : ev env x = some (ofV v)) (hy : v.theRec = some y) : Op1 Tryz.prog o env H n (ofRecP y) H := by
 cases v <;> simp only [V.theRec] at hy <;> first | (cases hy; done) | skip
 all_goals (cases hy; simp only [ofV, z1x, z1r] at hx; exact z65 Tryz.underlying73 rfl ho hx)
end
inductive Term where
 | mk (kind : Int) (bool : Bool) (int : Int) (float : Nat) (text : Str) (bytes : Str) (ref : Int) (list : List Term) (fields : List (Str × Term)) (cls : Str) (ver : Int)
namespace Term
def kind : Term → Int | .mk a _ _ _ _ _ _ _ _ _ _ => a
def bool : Term → Bool | .mk _ a _ _ _ _ _ _ _ _ _ => a
def int : Term → Int | .mk _ _ a _ _ _ _ _ _ _ _ => a
def float : Term → Nat | .mk _ _ _ a _ _ _ _ _ _ _ => a
def text : Term → Str | .mk _ _ _ _ a _ _ _ _ _ _ => a
def bytes : Term → Str | .mk _ _ _ _ _ a _ _ _ _ _ => a
def ref : Term → Int | .mk _ _ _ _ _ _ a _ _ _ _ => a
def list : Term → List Term | .mk _ _ _ _ _ _ _ a _ _ _ => a
def fields : Term → List (Str × Term) | .mk _ _ _ _ _ _ _ _ a _ _ => a
def cls : Term → Str | .mk _ _ _ _ _ _ _ _ _ a _ => a
def ver : Term → Int | .mk _ _ _ _ _ _ _ _ _ _ a => a
end Term
mutual
def z4o : Term → PV
 | .mk k b i f t y r l d c v => .agg [.v (.int .i64 k), .v (.bool b), .v (.int .i64 i), .v (.float .f64 f), z0k t, .sl none 5 1 (y.map ofB), .v (.int .u64 r), .sl none 29 11 (z6u l), .sl none 113 12 (z3u d), z0k c, .v (.int .i64 v)]
def z6u : List Term → List PV
 | [] => []
 | x :: r => z4o x :: z6u r
def z3u : List (Str × Term) → List PV
 | [] => []
 | (s, x) :: r => .agg (z0k s :: (z4o x).cells) :: z3u r
end
def z3e (p : Str × Term) : PV := .agg (z0k p.1 :: (z4o p.2).cells)
def z2g (t : Term) : PV := .agg [.v (.int .i64 t.kind), .v (.bool t.bool), .v (.int .i64 t.int), .v (.float .f64 t.float), z0k t.text, .sl none 5 1 (t.bytes.map ofB), .v (.int .u64 t.ref), .sl none 29 11 (t.list.map z4o), .sl none 113 12 (t.fields.map z3e), z0k t.cls, .v (.int .i64 t.ver)]
def zeq (p : Str × Term) : PV := .agg (z0k p.1 :: (z2g p.2).cells)
theorem zc0 : ∀ l, z6u l = l.map z4o
 | [] => by rw [z6u]; rfl
 | x :: r => by rw [z6u, zc0 r]; rfl
theorem z69 : ∀ l, z3u l = l.map z3e
 | [] => by rw [z3u]; rfl
 | (s, x) :: r => by rw [z3u, z69 r]; rfl
theorem z91 (t : Term) : z4o t = z2g t := by cases t; simp only [z4o, zc0, z69]; rfl
theorem z9z (p : Str × Term) : z3e p = zeq p := by simp only [z3e, zeq, z91]
mutual
theorem z7k : ∀ (t : Term), (z4o t).ids = []
 | .mk k b i f t y r l d c v => by
  simp only [z4o, PV.ids, PV.ids.idsL]
  rw [z17 zzi, zh6 l, z80 d]; rfl
theorem zh6 : ∀ (l : List Term), PV.ids.idsL (z6u l) = []
 | [] => by rw [z6u]; rfl
 | x :: r => by rw [z6u]; simp only [PV.ids.idsL]; rw [z7k x, zh6 r]; rfl
theorem z80 : ∀ (l : List (Str × Term)), PV.ids.idsL (z3u l) = []
 | [] => by rw [z3u]; rfl
 | (s, x) :: r => by
  have h : (z4o x).ids = PV.ids.idsL (z4o x).cells := by cases x; simp only [z4o]; rfl
  rw [z3u]; simp only [PV.ids.idsL, PV.ids]; rw [← h, z7k x, z80 r]; rfl
end
theorem z71 (t : Term) : (z2g t).ids = [] := by rw [← z91]; exact z7k t
theorem z5o (p : Str × Term) : (z3e p).ids = [] := by
 have h := z80 [p]
 rw [z69] at h
 simp only [List.map_cons, List.map_nil, PV.ids.idsL, List.append_nil] at h
 exact h
end Go.Proofs.YthidgpcbnieleaaGreatDoor
