/- Values, records and terms: as trees of Lean's, and as trees of the program's. -/
import Derived.Test.YtmoijodjgkfhgaaGreatV0
import Derived.Test.YtmoijodjgkfhgaaGreatAwT
namespace Go.Proofs.YtmoijodjgkfhgaaGreat
open Go Aw
set_option linter.unusedVariables false
set_option linter.unusedSimpArgs false
set_option maxRecDepth 8000
def zkb (t : Nat) : Bool := !([4, 2, 22, 9, 23, 25, 66, 68, 70].contains t)
inductive V where
 | nil
 | bool (b : Bool)
 | int (i : Int)
 | float (f : Nat)
 | text (s : Str)
 | bytes (b : Str)
 | ref (r : Int)
 | list (l : List V)
 | dict (l : List (Str × V))
 | record (c : Str) (v : Int) (l : List (Str × V))
 | nothing
 | alien (t : {t : Nat // zkb t = true})
instance : Inhabited V := ⟨.nil⟩
structure Rec where
 cls : Str
 ver : Int
 fields : List (Str × V)
mutual
def ofV : V → PV
 | .nil => .v .nilIface
 | .bool b => .iface 4 (.v (.bool b))
 | .int i => .iface 2 (.v (.int .i64 i))
 | .float f => .iface 22 (.v (.float .f64 f))
 | .text s => .iface 9 (ofStr s)
 | .bytes b => .iface 23 (.sl none 5 1 (b.map ofB))
 | .ref r => .iface 25 (.v (.int .u64 r))
 | .list l => .iface 66 (.sl none 20 1 (zzf l))
 | .dict l => .iface 68 (.sl none 86 2 (zx3 l))
 | .record c v l => .iface 70 (.pt 72 (.agg [ofStr c, .v (.int .i64 v), .sl none 86 2 (zx3 l)]) 0)
 | .nothing => .iface 70 (.v (.pointer none))
 | .alien t => .iface t.1 .junk
def zzf : List V → List PV
 | [] => []
 | x :: r => ofV x :: zzf r
def zx3 : List (Str × V) → List PV
 | [] => []
 | (s, x) :: r => .agg [ofStr s, ofV x] :: zx3 r
end
def ofFld (p : Str × V) : PV := .agg [ofStr p.1, ofV p.2]
theorem z2d : ∀ l, zzf l = l.map ofV
 | [] => by rw [zzf]; rfl
 | x :: r => by rw [zzf, z2d r]; rfl
theorem z27 : ∀ l, zx3 l = l.map ofFld
 | [] => by rw [zx3]; rfl
 | (s, x) :: r => by rw [zx3, z27 r]; rfl
def zgy (r : Rec) : PV := .agg [ofStr r.cls, .v (.int .i64 r.ver), .sl none 86 2 (r.fields.map ofFld)]
def ofRecP : Option Rec → PV
 | none => .v (.pointer none)
 | some r => .pt 72 (zgy r) 0
theorem Z21 (s : Str) : (ofStr s).ids = [] := rfl
theorem Z52 (b : UInt8) : (ofB b).ids = [] := rfl
mutual
theorem ids_V : ∀ (x : V), (ofV x).ids = []
 | .nil => by rw [ofV]; rfl
 | .bool b => by rw [ofV]; rfl
 | .int i => by rw [ofV]; rfl
 | .float f => by rw [ofV]; rfl
 | .text s => by rw [ofV]; rfl
 | .bytes b => by rw [ofV]; exact z05 (e := 5) (sz := 1) Z52 b
 | .ref r => by rw [ofV]; rfl
 | .list l => by rw [ofV]; simp only [PV.ids]; rw [zzl l]; rfl
 | .dict l => by rw [ofV]; simp only [PV.ids]; rw [ztx l]; rfl
 | .record c v l => by rw [ofV]; simp only [PV.ids, PV.ids.idsL]; rw [ztx l]; rfl
 | .nothing => by rw [ofV]; rfl
 | .alien t => by rw [ofV]; rfl
theorem zzl : ∀ (l : List V), PV.ids.idsL (zzf l) = []
 | [] => by rw [zzf]; rfl
 | x :: r => by rw [zzf]; simp only [PV.ids.idsL]; rw [ids_V x, zzl r]; rfl
theorem ztx : ∀ (l : List (Str × V)), PV.ids.idsL (zx3 l) = []
 | [] => by rw [zx3]; rfl
 | (s, x) :: r => by rw [zx3]; simp only [PV.ids.idsL, PV.ids]; rw [ids_V x, ztx r]; rfl
end
theorem z0m (p : Str × V) : (ofFld p).ids = [] := by simp only [ofFld, PV.ids, PV.ids.idsL]; rw [ids_V, Z21]; rfl
theorem Z23 (r : Rec) : (zgy r).ids = [] := by simp only [zgy]; exact z1n rfl (z1n rfl (z1n (z05 z0m _) rfl))
theorem zh3 (p : Option Rec) : (ofRecP p).ids = [] := by
 cases p with
 | none => rfl
 | some r => exact Z23 r
theorem z0u (x : V) : (ofV x).cells = [ofV x] := by cases x <;> simp only [ofV] <;> rfl
theorem z3w (x : V) : z45 (ofV x) = true := by cases x <;> simp only [ofV] <;> rfl
theorem z2l (x : V) : cok (ofV x) = true := by cases x <;> simp only [ofV] <;> rfl
theorem csz_V (x : V) : (ofV x).cells.length = 1 := by rw [z0u]; rfl
theorem z7x (x : V) : (ofV x).cells.all z45 = true := by rw [z0u]; simp [z3w]
theorem z75 (p : Str × V) : (ofFld p).cells.all z45 = true := by
 show ([ofStr p.1, ofV p.2].all z45) = true
 simp only [List.all_cons, List.all_nil, z3w, Bool.and_true]; rfl
theorem z7w (p : Str × V) : (ofFld p).cells.length = 2 := rfl
theorem z0k (p : Option Rec) : (ofRecP p).cells = [ofRecP p] := by cases p <;> rfl
theorem z1q (p : Option Rec) : z45 (ofRecP p) = true := by cases p <;> rfl
theorem z16 (p : Option Rec) : cok (ofRecP p) = true := by cases p <;> rfl
theorem z2p (p : Option Rec) : (ofRecP p).cells.length = 1 := by rw [z0k]; rfl
def V.ofRecP : Option Rec → V
 | none => .nothing
 | some r => .record r.cls r.ver r.fields
theorem zby (l : List V) : ofV (.list l) = .iface 66 (.sl none 20 1 (l.map ofV)) := by rw [ofV, z2d]
theorem z4t (l : List (Str × V)) : ofV (.dict l) = .iface 68 (.sl none 86 2 (l.map ofFld)) := by rw [ofV, z27]
theorem znf (l : Str) : ofV (.bytes l) = .iface 23 (.sl none 5 1 (l.map ofB)) := by rw [ofV]
theorem ztf (x : Bool) : ofV (.bool x) = .iface 4 (.v (.bool x)) := by rw [ofV]
theorem z8p (x : Int) : ofV (.int x) = .iface 2 (.v (.int .i64 x)) := by rw [ofV]
theorem zx6 (x : Nat) : ofV (.float x) = .iface 22 (.v (.float .f64 x)) := by rw [ofV]
theorem Z1o (x : Str) : ofV (.text x) = .iface 9 (ofStr x) := by rw [ofV]
theorem Z4v (x : Int) : ofV (.ref x) = .iface 25 (.v (.int .u64 x)) := by rw [ofV]
theorem zfp (p : Option Rec) : ofV (.ofRecP p) = .iface 70 (ofRecP p) := by
 cases p with
 | none => rw [V.ofRecP, ofV]; rfl
 | some r => rw [V.ofRecP, ofV, z27]; rfl
theorem mk_nil : ofV .nil = .v .nilIface := by rw [ofV]
theorem z3c (t : {t : Nat // zkb t = true}) : ofV (.alien t) = .iface t.1 .junk := by rw [ofV]
theorem z52 (t : {t : Nat // zkb t = true}) {k : Nat} (hk : zkb k = false) : Nat.beq t.1 k = false := by
 cases h : Nat.beq t.1 k with
 | false => rfl
 | true => have := Nat.eq_of_beq_eq_true h; have h2 := t.2; rw [this, hk] at h2; cases h2
section
variable {H : List AEnt} {env : List (Nat × PV)} {n : Nat} {o : Oper}
abbrev V.isNil : V → Bool
 | .nil => true
 | _ => false
theorem zpk {x : Operand} {t t2 : TypeId} {ms : Array (String × TypeId)} {v : V} (ht : Tryz.prog.underlying t = some (.interface ms)) (ho : o.op = .binOp .eql t x (.const .nilIface) t2) (hx : ev env x = some (ofV v)) : Op1 Tryz.prog o env H n (.v (.bool v.isNil)) H := by
 cases v <;> rw [ofV] at hx <;> first | exact zww ht ho hx | exact zwv ht ho hx
theorem zfn {x : Operand} {t t2 e : TypeId} {p : Option Rec} (ht : Tryz.prog.underlying t = some (.pointer e)) (ho : o.op = .binOp .eql t x (.const (.pointer none)) t2) (hx : ev env x = some (ofRecP p)) : Op1 Tryz.prog o env H n (.v (.bool p.isNone)) H := by
 cases p with
 | none => exact zwu ht ho hx
 | some r => exact zwt ht ho hx rfl
theorem z1o {x : Operand} {p : Option Rec} {r : Rec} (ho : o.op = .nilCheck x) (hx : ev env x = some (ofRecP p)) (hr : p = some r) : Op1 Tryz.prog o env H n (.pt 72 (zgy r) 0) H := by
 subst hr; exact zwj ho hx
abbrev V.isBool : V → Bool
 | .bool _ => true
 | _ => false
abbrev V.asBool : V → Bool
 | .bool x => x
 | _ => false
abbrev V.theBool : V → Option (Bool)
 | .bool x => some x
 | _ => none
theorem zfm {x : Operand} {xt : TypeId} {v : V} (ho : o.op = .typeAssert x xt 4 true) (hx : ev env x = some (ofV v)) : Op1 Tryz.prog o env H n (.tup [(.v (.bool v.asBool)), .v (.bool v.isBool)]) H := by
 cases v <;> simp only [ofV, z2d, z27] at hx
 all_goals first
  | exact (z7l Tryz.underlying4 rfl zx9 ho hx)
  | exact (z7m Tryz.underlying4 rfl zx9 ho hx).wk (.tup (.cons (.refl _) (.cons (.refl _) .nil)))
  | exact (z38 Tryz.underlying4 rfl zx9 ho hx rfl).wk (.tup (.cons (.refl _) (.cons (.refl _) .nil)))
  | exact (z38 Tryz.underlying4 rfl zx9 ho hx (z52 _ (by decide))).wk (.tup (.cons (.refl _) (.cons (.refl _) .nil)))
theorem zpo {x : Operand} {xt : TypeId} {v : V} {y : Bool} (ho : o.op = .typeAssert x xt 4 false) (hx : ev env x = some (ofV v)) (hy : v.theBool = some y) : Op1 Tryz.prog o env H n (.v (.bool y)) H := by
 cases v <;> simp only [V.theBool] at hy <;> first | (cases hy; done) | skip
 all_goals (cases hy; simp only [ofV, z2d, z27] at hx; exact z7o Tryz.underlying4 rfl ho hx)
abbrev V.isInt : V → Bool
 | .int _ => true
 | _ => false
abbrev V.asInt : V → Int
 | .int x => x
 | _ => 0
abbrev V.theInt : V → Option (Int)
 | .int x => some x
 | _ => none
theorem zj8 {x : Operand} {xt : TypeId} {v : V} (ho : o.op = .typeAssert x xt 2 true) (hx : ev env x = some (ofV v)) : Op1 Tryz.prog o env H n (.tup [(.v (.int .i64 v.asInt)), .v (.bool v.isInt)]) H := by
 cases v <;> simp only [ofV, z2d, z27] at hx
 all_goals first
  | exact (z7l Tryz.underlying2 rfl zxb ho hx)
  | exact (z7m Tryz.underlying2 rfl zxb ho hx).wk (.tup (.cons (.refl _) (.cons (.refl _) .nil)))
  | exact (z38 Tryz.underlying2 rfl zxb ho hx rfl).wk (.tup (.cons (.refl _) (.cons (.refl _) .nil)))
  | exact (z38 Tryz.underlying2 rfl zxb ho hx (z52 _ (by decide))).wk (.tup (.cons (.refl _) (.cons (.refl _) .nil)))
theorem zst {x : Operand} {xt : TypeId} {v : V} {y : Int} (ho : o.op = .typeAssert x xt 2 false) (hx : ev env x = some (ofV v)) (hy : v.theInt = some y) : Op1 Tryz.prog o env H n (.v (.int .i64 y)) H := by
 cases v <;> simp only [V.theInt] at hy <;> first | (cases hy; done) | skip
 all_goals (cases hy; simp only [ofV, z2d, z27] at hx; exact z7o Tryz.underlying2 rfl ho hx)
abbrev V.isFloat : V → Bool
 | .float _ => true
 | _ => false
abbrev V.asFloat : V → Nat
 | .float x => x
 | _ => 0
abbrev V.theFloat : V → Option (Nat)
 | .float x => some x
 | _ => none
theorem ze4 {x : Operand} {xt : TypeId} {v : V} (ho : o.op = .typeAssert x xt 22 true) (hx : ev env x = some (ofV v)) : Op1 Tryz.prog o env H n (.tup [(.v (.float .f64 v.asFloat)), .v (.bool v.isFloat)]) H := by
 cases v <;> simp only [ofV, z2d, z27] at hx
 all_goals first
  | exact (z7l Tryz.underlying22 rfl znp ho hx)
  | exact (z7m Tryz.underlying22 rfl znp ho hx).wk (.tup (.cons (.refl _) (.cons (.refl _) .nil)))
  | exact (z38 Tryz.underlying22 rfl znp ho hx rfl).wk (.tup (.cons (.refl _) (.cons (.refl _) .nil)))
  | exact (z38 Tryz.underlying22 rfl znp ho hx (z52 _ (by decide))).wk (.tup (.cons (.refl _) (.cons (.refl _) .nil)))
theorem zl6 {x : Operand} {xt : TypeId} {v : V} {y : Nat} (ho : o.op = .typeAssert x xt 22 false) (hx : ev env x = some (ofV v)) (hy : v.theFloat = some y) : Op1 Tryz.prog o env H n (.v (.float .f64 y)) H := by
 cases v <;> simp only [V.theFloat] at hy <;> first | (cases hy; done) | skip
 all_goals (cases hy; simp only [ofV, z2d, z27] at hx; exact z7o Tryz.underlying22 rfl ho hx)
abbrev V.isText : V → Bool
 | .text _ => true
 | _ => false
abbrev V.asText : V → Str
 | .text x => x
 | _ => []
abbrev V.theText : V → Option (Str)
 | .text x => some x
 | _ => none
theorem zbu {x : Operand} {xt : TypeId} {v : V} (ho : o.op = .typeAssert x xt 9 true) (hx : ev env x = some (ofV v)) : Op1 Tryz.prog o env H n (.tup [(ofStr v.asText), .v (.bool v.isText)]) H := by
 cases v <;> simp only [ofV, z2d, z27] at hx
 all_goals first
  | exact (z7l Tryz.underlying9 rfl zlf ho hx)
  | exact (z7m Tryz.underlying9 rfl zlf ho hx).wk (.tup (.cons (.refl _) (.cons (.refl _) .nil)))
  | exact (z38 Tryz.underlying9 rfl zlf ho hx rfl).wk (.tup (.cons (.refl _) (.cons (.refl _) .nil)))
  | exact (z38 Tryz.underlying9 rfl zlf ho hx (z52 _ (by decide))).wk (.tup (.cons (.refl _) (.cons (.refl _) .nil)))
theorem zpl {x : Operand} {xt : TypeId} {v : V} {y : Str} (ho : o.op = .typeAssert x xt 9 false) (hx : ev env x = some (ofV v)) (hy : v.theText = some y) : Op1 Tryz.prog o env H n (ofStr y) H := by
 cases v <;> simp only [V.theText] at hy <;> first | (cases hy; done) | skip
 all_goals (cases hy; simp only [ofV, z2d, z27] at hx; exact z7o Tryz.underlying9 rfl ho hx)
abbrev V.isBytes : V → Bool
 | .bytes _ => true
 | _ => false
abbrev V.asBytes : V → Str
 | .bytes x => x
 | _ => []
abbrev V.theBytes : V → Option (Str)
 | .bytes x => some x
 | _ => none
theorem z7n {x : Operand} {xt : TypeId} {v : V} (ho : o.op = .typeAssert x xt 23 true) (hx : ev env x = some (ofV v)) : Op1 Tryz.prog o env H n (.tup [(.sl none 5 1 (v.asBytes.map ofB)), .v (.bool v.isBytes)]) H := by
 cases v <;> simp only [ofV, z2d, z27] at hx
 all_goals first
  | exact (z7l Tryz.underlying23 rfl zno ho hx)
  | exact (z7m Tryz.underlying23 rfl zno ho hx).wk (.tup (.cons Wk.nil (.cons (.refl _) .nil)))
  | exact (z38 Tryz.underlying23 rfl zno ho hx rfl).wk (.tup (.cons Wk.nil (.cons (.refl _) .nil)))
  | exact (z38 Tryz.underlying23 rfl zno ho hx (z52 _ (by decide))).wk (.tup (.cons Wk.nil (.cons (.refl _) .nil)))
theorem zl7 {x : Operand} {xt : TypeId} {v : V} {y : Str} (ho : o.op = .typeAssert x xt 23 false) (hx : ev env x = some (ofV v)) (hy : v.theBytes = some y) : Op1 Tryz.prog o env H n (.sl none 5 1 (y.map ofB)) H := by
 cases v <;> simp only [V.theBytes] at hy <;> first | (cases hy; done) | skip
 all_goals (cases hy; simp only [ofV, z2d, z27] at hx; exact z7o Tryz.underlying23 rfl ho hx)
abbrev V.isRef : V → Bool
 | .ref _ => true
 | _ => false
abbrev V.asRef : V → Int
 | .ref x => x
 | _ => 0
abbrev V.theRef : V → Option (Int)
 | .ref x => some x
 | _ => none
theorem zj7 {x : Operand} {xt : TypeId} {v : V} (ho : o.op = .typeAssert x xt 25 true) (hx : ev env x = some (ofV v)) : Op1 Tryz.prog o env H n (.tup [(.v (.int .u64 v.asRef)), .v (.bool v.isRef)]) H := by
 cases v <;> simp only [ofV, z2d, z27] at hx
 all_goals first
  | exact (z7l Tryz.underlying25 rfl znn ho hx)
  | exact (z7m Tryz.underlying25 rfl znn ho hx).wk (.tup (.cons (.refl _) (.cons (.refl _) .nil)))
  | exact (z38 Tryz.underlying25 rfl znn ho hx rfl).wk (.tup (.cons (.refl _) (.cons (.refl _) .nil)))
  | exact (z38 Tryz.underlying25 rfl znn ho hx (z52 _ (by decide))).wk (.tup (.cons (.refl _) (.cons (.refl _) .nil)))
theorem zsr {x : Operand} {xt : TypeId} {v : V} {y : Int} (ho : o.op = .typeAssert x xt 25 false) (hx : ev env x = some (ofV v)) (hy : v.theRef = some y) : Op1 Tryz.prog o env H n (.v (.int .u64 y)) H := by
 cases v <;> simp only [V.theRef] at hy <;> first | (cases hy; done) | skip
 all_goals (cases hy; simp only [ofV, z2d, z27] at hx; exact z7o Tryz.underlying25 rfl ho hx)
abbrev V.isList : V → Bool
 | .list _ => true
 | _ => false
abbrev V.asList : V → List V
 | .list x => x
 | _ => []
abbrev V.theList : V → Option (List V)
 | .list x => some x
 | _ => none
theorem z1x {x : Operand} {xt : TypeId} {v : V} (ho : o.op = .typeAssert x xt 66 true) (hx : ev env x = some (ofV v)) : Op1 Tryz.prog o env H n (.tup [(.sl none 20 1 (v.asList.map ofV)), .v (.bool v.isList)]) H := by
 cases v <;> simp only [ofV, z2d, z27] at hx
 all_goals first
  | exact (z7l Tryz.underlying66 rfl znm ho hx)
  | exact (z7m Tryz.underlying66 rfl znm ho hx).wk (.tup (.cons Wk.nil (.cons (.refl _) .nil)))
  | exact (z38 Tryz.underlying66 rfl znm ho hx rfl).wk (.tup (.cons Wk.nil (.cons (.refl _) .nil)))
  | exact (z38 Tryz.underlying66 rfl znm ho hx (z52 _ (by decide))).wk (.tup (.cons Wk.nil (.cons (.refl _) .nil)))
theorem zpm {x : Operand} {xt : TypeId} {v : V} {y : List V} (ho : o.op = .typeAssert x xt 66 false) (hx : ev env x = some (ofV v)) (hy : v.theList = some y) : Op1 Tryz.prog o env H n (.sl none 20 1 (y.map ofV)) H := by
 cases v <;> simp only [V.theList] at hy <;> first | (cases hy; done) | skip
 all_goals (cases hy; simp only [ofV, z2d, z27] at hx; exact z7o Tryz.underlying66 rfl ho hx)
abbrev V.isDict : V → Bool
 | .dict _ => true
 | _ => false
abbrev V.asDict : V → List (Str × V)
 | .dict x => x
 | _ => []
abbrev V.theDict : V → Option (List (Str × V))
 | .dict x => some x
 | _ => none
theorem z2v {x : Operand} {xt : TypeId} {v : V} (ho : o.op = .typeAssert x xt 68 true) (hx : ev env x = some (ofV v)) : Op1 Tryz.prog o env H n (.tup [(.sl none 86 2 (v.asDict.map ofFld)), .v (.bool v.isDict)]) H := by
 cases v <;> simp only [ofV, z2d, z27] at hx
 all_goals first
  | exact (z7l Tryz.underlying68 rfl zeh ho hx)
  | exact (z7m Tryz.underlying68 rfl zeh ho hx).wk (.tup (.cons Wk.nil (.cons (.refl _) .nil)))
  | exact (z38 Tryz.underlying68 rfl zeh ho hx rfl).wk (.tup (.cons Wk.nil (.cons (.refl _) .nil)))
  | exact (z38 Tryz.underlying68 rfl zeh ho hx (z52 _ (by decide))).wk (.tup (.cons Wk.nil (.cons (.refl _) .nil)))
theorem zpn {x : Operand} {xt : TypeId} {v : V} {y : List (Str × V)} (ho : o.op = .typeAssert x xt 68 false) (hx : ev env x = some (ofV v)) (hy : v.theDict = some y) : Op1 Tryz.prog o env H n (.sl none 86 2 (y.map ofFld)) H := by
 cases v <;> simp only [V.theDict] at hy <;> first | (cases hy; done) | skip
 all_goals (cases hy; simp only [ofV, z2d, z27] at hx; exact z7o Tryz.underlying68 rfl ho hx)
abbrev V.isRec : V → Bool
 | .record _ _ _ => true
 | .nothing => true
 | _ => false
abbrev V.asRec : V → Option Rec
 | .record c v l => some ⟨c, v, l⟩
 | _ => none
abbrev V.theRec : V → Option (Option Rec)
 | .record c v l => some (some ⟨c, v, l⟩)
 | .nothing => some none
 | _ => none
theorem z3g {x : Operand} {xt : TypeId} {v : V} (ho : o.op = .typeAssert x xt 70 true) (hx : ev env x = some (ofV v)) : Op1 Tryz.prog o env H n (.tup [ofRecP v.asRec, .v (.bool v.isRec)]) H := by
 cases v <;> simp only [ofV, z2d, z27] at hx
 all_goals first
  | exact (z7l Tryz.underlying70 rfl znl ho hx)
  | exact (z7m Tryz.underlying70 rfl znl ho hx)
  | exact (z38 Tryz.underlying70 rfl znl ho hx rfl)
  | exact (z38 Tryz.underlying70 rfl znl ho hx (z52 _ (by decide)))
theorem zss {x : Operand} {xt : TypeId} {v : V} {y : Option Rec} (ho : o.op = .typeAssert x xt 70 false) (hx : ev env x = some (ofV v)) (hy : v.theRec = some y) : Op1 Tryz.prog o env H n (ofRecP y) H := by
 cases v <;> simp only [V.theRec] at hy <;> first | (cases hy; done) | skip
 all_goals (cases hy; simp only [ofV, z2d, z27] at hx; exact z7o Tryz.underlying70 rfl ho hx)
end
inductive Term where
 | mk (kind : Int) (bool : Bool) (int : Int) (float : Nat) (text : Str) (bytes : Str) (ref : Int) (list : List Term) (fields : List (Str × Term)) (cls : Str) (ver : Int)
namespace Term
def kind : Term → Int | .mk a _ _ _ _ _ _ _ _ _ _ => a
def bool : Term → Bool | .mk _ a _ _ _ _ _ _ _ _ _ => a
def int : Term → Int | .mk _ _ a _ _ _ _ _ _ _ _ => a
def float : Term → Nat | .mk _ _ _ a _ _ _ _ _ _ _ => a
def text : Term → Str | .mk _ _ _ _ a _ _ _ _ _ _ => a
def bytes : Term → Str | .mk _ _ _ _ _ a _ _ _ _ _ => a
def ref : Term → Int | .mk _ _ _ _ _ _ a _ _ _ _ => a
def list : Term → List Term | .mk _ _ _ _ _ _ _ a _ _ _ => a
def fields : Term → List (Str × Term) | .mk _ _ _ _ _ _ _ _ a _ _ => a
def cls : Term → Str | .mk _ _ _ _ _ _ _ _ _ a _ => a
def ver : Term → Int | .mk _ _ _ _ _ _ _ _ _ _ a => a
end Term
mutual
def z5t : Term → PV
 | .mk k b i f t y r l d c v => .agg [.v (.int .i64 k), .v (.bool b), .v (.int .i64 i), .v (.float .f64 f), ofStr t, .sl none 5 1 (y.map ofB), .v (.int .u64 r), .sl none 29 11 (z8n l), .sl none 100 12 (z4n d), ofStr c, .v (.int .i64 v)]
def z8n : List Term → List PV
 | [] => []
 | x :: r => z5t x :: z8n r
def z4n : List (Str × Term) → List PV
 | [] => []
 | (s, x) :: r => .agg (ofStr s :: (z5t x).cells) :: z4n r
end
def z47 (p : Str × Term) : PV := .agg (ofStr p.1 :: (z5t p.2).cells)
def z2w (t : Term) : PV := .agg [.v (.int .i64 t.kind), .v (.bool t.bool), .v (.int .i64 t.int), .v (.float .f64 t.float), ofStr t.text, .sl none 5 1 (t.bytes.map ofB), .v (.int .u64 t.ref), .sl none 29 11 (t.list.map z5t), .sl none 100 12 (t.fields.map z47), ofStr t.cls, .v (.int .i64 t.ver)]
def zgz (p : Str × Term) : PV := .agg (ofStr p.1 :: (z2w p.2).cells)
theorem zed : ∀ l, z8n l = l.map z5t
 | [] => by rw [z8n]; rfl
 | x :: r => by rw [z8n, zed r]; rfl
theorem z7r : ∀ l, z4n l = l.map z47
 | [] => by rw [z4n]; rfl
 | (s, x) :: r => by rw [z4n, z7r r]; rfl
theorem zat (t : Term) : z5t t = z2w t := by cases t; simp only [z5t, zed, z7r]; rfl
theorem zbw (p : Str × Term) : z47 p = zgz p := by simp only [z47, zgz, zat]
mutual
theorem z9c : ∀ (t : Term), (z5t t).ids = []
 | .mk k b i f t y r l d c v => by
  simp only [z5t, PV.ids, PV.ids.idsL]
  rw [z0s Z52, zjr l, z9v d]; rfl
theorem zjr : ∀ (l : List Term), PV.ids.idsL (z8n l) = []
 | [] => by rw [z8n]; rfl
 | x :: r => by rw [z8n]; simp only [PV.ids.idsL]; rw [z9c x, zjr r]; rfl
theorem z9v : ∀ (l : List (Str × Term)), PV.ids.idsL (z4n l) = []
 | [] => by rw [z4n]; rfl
 | (s, x) :: r => by
  have h : (z5t x).ids = PV.ids.idsL (z5t x).cells := by cases x; simp only [z5t]; rfl
  rw [z4n]; simp only [PV.ids.idsL, PV.ids]; rw [← h, z9c x, z9v r]; rfl
end
theorem z8s (t : Term) : (z2w t).ids = [] := by rw [← zat]; exact z9c t
theorem z72 (p : Str × Term) : (z47 p).ids = [] := by
 have h := z9v [p]
 rw [z7r] at h
 simp only [List.map_cons, List.map_nil, PV.ids.idsL, List.append_nil] at h
 exact h
end Go.Proofs.YtmoijodjgkfhgaaGreat
