/- Values, records and terms: as trees of Lean's, and as trees of the program's. -/
import Derived.Test.YtiapdjdhaclmnaaV0
import Derived.Test.YtiapdjdhaclmnaaAwT
namespace Go.Proofs.Ytiapdjdhaclmnaa
open Go Aw
set_option linter.unusedVariables false
set_option linter.unusedSimpArgs false
set_option maxRecDepth 8000
/-- A type that is of no kind. -/
def zfk (t : Nat) : Bool := !([4, 2, 22, 9, 23, 25, 37, 45, 70].contains t)
inductive V where
  | nil
  | bool (b : Bool)
  | int (i : Int)
  | float (f : Nat)
  | text (s : Str)
  | bytes (b : Str)
  | ref (r : Int)
  | list (l : List V)
  | dict (l : List (Str × V))
  | record (c : Str) (v : Int) (l : List (Str × V))
  | nothing
  | alien (t : {t : Nat // zfk t = true})
instance : Inhabited V := ⟨.nil⟩
structure Rec where
  cls : Str
  ver : Int
  fields : List (Str × V)
mutual
def ofV : V → PV
  | .nil => .v .nilIface
  | .bool b => .iface 4 (.v (.bool b))
  | .int i => .iface 2 (.v (.int .i64 i))
  | .float f => .iface 22 (.v (.float .f64 f))
  | .text s => .iface 9 (z0f s)
  | .bytes b => .iface 23 (.sl none 5 1 (b.map ofB))
  | .ref r => .iface 25 (.v (.int .u64 r))
  | .list l => .iface 37 (.sl none 20 1 (zxd l))
  | .dict l => .iface 45 (.sl none 43 2 (zup l))
  | .record c v l => .iface 70 (.pt 72 (.agg [z0f c, .v (.int .i64 v), .sl none 43 2 (zup l)]) 0)
  | .nothing => .iface 70 (.v (.pointer none))
  | .alien t => .iface t.1 .junk
def zxd : List V → List PV
  | [] => []
  | x :: r => ofV x :: zxd r
def zup : List (Str × V) → List PV
  | [] => []
  | (s, x) :: r => .agg [z0f s, ofV x] :: zup r
end
def z1h (p : Str × V) : PV := .agg [z0f p.1, ofV p.2]
theorem z2o : ∀ l, zxd l = l.map ofV
  | [] => by rw [zxd]; rfl
  | x :: r => by rw [zxd, z2o r]; rfl
theorem z2n : ∀ l, zup l = l.map z1h
  | [] => by rw [zup]; rfl
  | (s, x) :: r => by rw [zup, z2n r]; rfl
def zo6 (r : Rec) : PV := .agg [z0f r.cls, .v (.int .i64 r.ver), .sl none 43 2 (r.fields.map z1h)]
def ofRecP : Option Rec → PV
  | none => .v (.pointer none)
  | some r => .pt 72 (zo6 r) 0
theorem zs9 (s : Str) : (z0f s).ids = [] := rfl
theorem Z1o (b : UInt8) : (ofB b).ids = [] := rfl
mutual
theorem ids_V : ∀ (x : V), (ofV x).ids = []
  | .nil => by rw [ofV]; rfl
  | .bool b => by rw [ofV]; rfl
  | .int i => by rw [ofV]; rfl
  | .float f => by rw [ofV]; rfl
  | .text s => by rw [ofV]; rfl
  | .bytes b => by rw [ofV]; exact z0q (e := 5) (sz := 1) Z1o b
  | .ref r => by rw [ofV]; rfl
  | .list l => by rw [ofV]; simp only [PV.ids]; rw [zxo l]; rfl
  | .dict l => by rw [ofV]; simp only [PV.ids]; rw [zsa l]; rfl
  | .record c v l => by rw [ofV]; simp only [PV.ids, PV.ids.idsL]; rw [zsa l]; rfl
  | .nothing => by rw [ofV]; rfl
  | .alien t => by rw [ofV]; rfl
theorem zxo : ∀ (l : List V), PV.ids.idsL (zxd l) = []
  | [] => by rw [zxd]; rfl
  | x :: r => by rw [zxd]; simp only [PV.ids.idsL]; rw [ids_V x, zxo r]; rfl
theorem zsa : ∀ (l : List (Str × V)), PV.ids.idsL (zup l) = []
  | [] => by rw [zup]; rfl
  | (s, x) :: r => by rw [zup]; simp only [PV.ids.idsL, PV.ids]; rw [ids_V x, zsa r]; rfl
end
theorem z1z (p : Str × V) : (z1h p).ids = [] := by simp only [z1h, PV.ids, PV.ids.idsL]; rw [ids_V, zs9]; rfl
theorem zz8 (r : Rec) : (zo6 r).ids = [] := by simp only [zo6]; exact z3m rfl (z3m rfl (z3m (z0q z1z _) rfl))
theorem zuv (p : Option Rec) : (ofRecP p).ids = [] := by
  cases p with
  | none => rfl
  | some r => exact zz8 r
theorem z30 (x : V) : (ofV x).cells = [ofV x] := by cases x <;> simp only [ofV] <;> rfl
theorem zg4 (x : V) : z96 (ofV x) = true := by cases x <;> simp only [ofV] <;> rfl
theorem ziz (x : V) : cok (ofV x) = true := by cases x <;> simp only [ofV] <;> rfl
theorem ziy (x : V) : (ofV x).cells.length = 1 := by rw [z30]; rfl
theorem zt3 (x : V) : (ofV x).cells.all z96 = true := by rw [z30]; simp [zg4]
theorem zj3 (p : Str × V) : (z1h p).cells.all z96 = true := by
  show ([z0f p.1, ofV p.2].all z96) = true
  simp only [List.all_cons, List.all_nil, zg4, Bool.and_true]; rfl
theorem zsv (p : Str × V) : (z1h p).cells.length = 2 := rfl
theorem z2j (p : Option Rec) : (ofRecP p).cells = [ofRecP p] := by cases p <;> rfl
theorem z7d (p : Option Rec) : z96 (ofRecP p) = true := by cases p <;> rfl
theorem z5m (p : Option Rec) : cok (ofRecP p) = true := by cases p <;> rfl
theorem z8i (p : Option Rec) : (ofRecP p).cells.length = 1 := by rw [z2j]; rfl
/-! ### making -/
def V.ofRecP : Option Rec → V
  | none => .nothing
  | some r => .record r.cls r.ver r.fields
theorem zrr (l : List V) : ofV (.list l) = .iface 37 (.sl none 20 1 (l.map ofV)) := by rw [ofV, z2o]
theorem zk0 (l : List (Str × V)) : ofV (.dict l) = .iface 45 (.sl none 43 2 (l.map z1h)) := by rw [ofV, z2n]
theorem zlv (l : Str) : ofV (.bytes l) = .iface 23 (.sl none 5 1 (l.map ofB)) := by rw [ofV]
theorem zg6 (x : Bool) : ofV (.bool x) = .iface 4 (.v (.bool x)) := by rw [ofV]
theorem zxf (x : Int) : ofV (.int x) = .iface 2 (.v (.int .i64 x)) := by rw [ofV]
theorem zlu (x : Nat) : ofV (.float x) = .iface 22 (.v (.float .f64 x)) := by rw [ofV]
theorem zrq (x : Str) : ofV (.text x) = .iface 9 (z0f x) := by rw [ofV]
theorem zxe (x : Int) : ofV (.ref x) = .iface 25 (.v (.int .u64 x)) := by rw [ofV]
theorem zlt (p : Option Rec) : ofV (.ofRecP p) = .iface 70 (ofRecP p) := by
  cases p with
  | none => rw [V.ofRecP, ofV]; rfl
  | some r => rw [V.ofRecP, ofV, z2n]; rfl
theorem mk_nil : ofV .nil = .v .nilIface := by rw [ofV]
theorem z3f (t : {t : Nat // zfk t = true}) : ofV (.alien t) = .iface t.1 .junk := by rw [ofV]
theorem z4v (t : {t : Nat // zfk t = true}) {k : Nat} (hk : zfk k = false) : Nat.beq t.1 k = false := by
  cases h : Nat.beq t.1 k with
  | false => rfl
  | true => have := Nat.eq_of_beq_eq_true h; have h2 := t.2; rw [this, hk] at h2; cases h2
/-! ### asking -/
section
variable {H : List AEnt} {env : List (Nat × PV)} {n : Nat} {o : Oper}
abbrev V.isNil : V → Bool
  | .nil => true
  | _ => false
theorem zo1 {x : Operand} {t t2 : TypeId} {ms : Array (String × TypeId)} {v : V} (ht : Try.prog.underlying t = some (.interface ms)) (ho : o.op = .binOp .eql t x (.const .nilIface) t2) (hx : ev env x = some (ofV v)) : Op1 Try.prog o env H n (.v (.bool v.isNil)) H := by
  cases v <;> rw [ofV] at hx <;> first | exact zun ht ho hx | exact zum ht ho hx
theorem zf8 {x : Operand} {t t2 e : TypeId} {p : Option Rec} (ht : Try.prog.underlying t = some (.pointer e)) (ho : o.op = .binOp .eql t x (.const (.pointer none)) t2) (hx : ev env x = some (ofRecP p)) : Op1 Try.prog o env H n (.v (.bool p.isNone)) H := by
  cases p with
  | none => exact zul ht ho hx
  | some r => exact zuk ht ho hx rfl
theorem z39 {x : Operand} {p : Option Rec} {r : Rec} (ho : o.op = .nilCheck x) (hx : ev env x = some (ofRecP p)) (hr : p = some r) : Op1 Try.prog o env H n (.pt 72 (zo6 r) 0) H := by
  subst hr; exact zue ho hx
abbrev V.isBool : V → Bool
  | .bool _ => true
  | _ => false
abbrev V.asBool : V → Bool
  | .bool x => x
  | _ => false
abbrev V.theBool : V → Option (Bool)
  | .bool x => some x
  | _ => none
theorem zb9 {x : Operand} {xt : TypeId} {v : V} (ho : o.op = .typeAssert x xt 4 true) (hx : ev env x = some (ofV v)) : Op1 Try.prog o env H n (.tup [(.v (.bool v.asBool)), .v (.bool v.isBool)]) H := by
  cases v <;> simp only [ofV, z2o, z2n] at hx
  all_goals first
    | exact (z78 Try.underlying4 rfl inf_4 ho hx)
    | exact (z79 Try.underlying4 rfl inf_4 ho hx).wk (.tup (.cons (.refl _) (.cons (.refl _) .nil)))
    | exact (z3i Try.underlying4 rfl inf_4 ho hx rfl).wk (.tup (.cons (.refl _) (.cons (.refl _) .nil)))
    | exact (z3i Try.underlying4 rfl inf_4 ho hx (z4v _ (by decide))).wk (.tup (.cons (.refl _) (.cons (.refl _) .nil)))
theorem zo5 {x : Operand} {xt : TypeId} {v : V} {y : Bool} (ho : o.op = .typeAssert x xt 4 false) (hx : ev env x = some (ofV v)) (hy : v.theBool = some y) : Op1 Try.prog o env H n (.v (.bool y)) H := by
  cases v <;> simp only [V.theBool] at hy <;> first | (cases hy; done) | skip
  all_goals (cases hy; simp only [ofV, z2o, z2n] at hx; exact z7b Try.underlying4 rfl ho hx)
abbrev V.isInt : V → Bool
  | .int _ => true
  | _ => false
abbrev V.asInt : V → Int
  | .int x => x
  | _ => 0
abbrev V.theInt : V → Option (Int)
  | .int x => some x
  | _ => none
theorem zdk {x : Operand} {xt : TypeId} {v : V} (ho : o.op = .typeAssert x xt 2 true) (hx : ev env x = some (ofV v)) : Op1 Try.prog o env H n (.tup [(.v (.int .i64 v.asInt)), .v (.bool v.isInt)]) H := by
  cases v <;> simp only [ofV, z2o, z2n] at hx
  all_goals first
    | exact (z78 Try.underlying2 rfl zs7 ho hx)
    | exact (z79 Try.underlying2 rfl zs7 ho hx).wk (.tup (.cons (.refl _) (.cons (.refl _) .nil)))
    | exact (z3i Try.underlying2 rfl zs7 ho hx rfl).wk (.tup (.cons (.refl _) (.cons (.refl _) .nil)))
    | exact (z3i Try.underlying2 rfl zs7 ho hx (z4v _ (by decide))).wk (.tup (.cons (.refl _) (.cons (.refl _) .nil)))
theorem zrd {x : Operand} {xt : TypeId} {v : V} {y : Int} (ho : o.op = .typeAssert x xt 2 false) (hx : ev env x = some (ofV v)) (hy : v.theInt = some y) : Op1 Try.prog o env H n (.v (.int .i64 y)) H := by
  cases v <;> simp only [V.theInt] at hy <;> first | (cases hy; done) | skip
  all_goals (cases hy; simp only [ofV, z2o, z2n] at hx; exact z7b Try.underlying2 rfl ho hx)
abbrev V.isFloat : V → Bool
  | .float _ => true
  | _ => false
abbrev V.asFloat : V → Nat
  | .float x => x
  | _ => 0
abbrev V.theFloat : V → Option (Nat)
  | .float x => some x
  | _ => none
theorem z8u {x : Operand} {xt : TypeId} {v : V} (ho : o.op = .typeAssert x xt 22 true) (hx : ev env x = some (ofV v)) : Op1 Try.prog o env H n (.tup [(.v (.float .f64 v.asFloat)), .v (.bool v.isFloat)]) H := by
  cases v <;> simp only [ofV, z2o, z2n] at hx
  all_goals first
    | exact (z78 Try.underlying22 rfl zim ho hx)
    | exact (z79 Try.underlying22 rfl zim ho hx).wk (.tup (.cons (.refl _) (.cons (.refl _) .nil)))
    | exact (z3i Try.underlying22 rfl zim ho hx rfl).wk (.tup (.cons (.refl _) (.cons (.refl _) .nil)))
    | exact (z3i Try.underlying22 rfl zim ho hx (z4v _ (by decide))).wk (.tup (.cons (.refl _) (.cons (.refl _) .nil)))
theorem zjt {x : Operand} {xt : TypeId} {v : V} {y : Nat} (ho : o.op = .typeAssert x xt 22 false) (hx : ev env x = some (ofV v)) (hy : v.theFloat = some y) : Op1 Try.prog o env H n (.v (.float .f64 y)) H := by
  cases v <;> simp only [V.theFloat] at hy <;> first | (cases hy; done) | skip
  all_goals (cases hy; simp only [ofV, z2o, z2n] at hx; exact z7b Try.underlying22 rfl ho hx)
abbrev V.isText : V → Bool
  | .text _ => true
  | _ => false
abbrev V.asText : V → Str
  | .text x => x
  | _ => []
abbrev V.theText : V → Option (Str)
  | .text x => some x
  | _ => none
theorem z8a {x : Operand} {xt : TypeId} {v : V} (ho : o.op = .typeAssert x xt 9 true) (hx : ev env x = some (ofV v)) : Op1 Try.prog o env H n (.tup [(z0f v.asText), .v (.bool v.isText)]) H := by
  cases v <;> simp only [ofV, z2o, z2n] at hx
  all_goals first
    | exact (z78 Try.underlying9 rfl inf_9 ho hx)
    | exact (z79 Try.underlying9 rfl inf_9 ho hx).wk (.tup (.cons (.refl _) (.cons (.refl _) .nil)))
    | exact (z3i Try.underlying9 rfl inf_9 ho hx rfl).wk (.tup (.cons (.refl _) (.cons (.refl _) .nil)))
    | exact (z3i Try.underlying9 rfl inf_9 ho hx (z4v _ (by decide))).wk (.tup (.cons (.refl _) (.cons (.refl _) .nil)))
theorem zo2 {x : Operand} {xt : TypeId} {v : V} {y : Str} (ho : o.op = .typeAssert x xt 9 false) (hx : ev env x = some (ofV v)) (hy : v.theText = some y) : Op1 Try.prog o env H n (z0f y) H := by
  cases v <;> simp only [V.theText] at hy <;> first | (cases hy; done) | skip
  all_goals (cases hy; simp only [ofV, z2o, z2n] at hx; exact z7b Try.underlying9 rfl ho hx)
abbrev V.isBytes : V → Bool
  | .bytes _ => true
  | _ => false
abbrev V.asBytes : V → Str
  | .bytes x => x
  | _ => []
abbrev V.theBytes : V → Option (Str)
  | .bytes x => some x
  | _ => none
theorem z7a {x : Operand} {xt : TypeId} {v : V} (ho : o.op = .typeAssert x xt 23 true) (hx : ev env x = some (ofV v)) : Op1 Try.prog o env H n (.tup [(.sl none 5 1 (v.asBytes.map ofB)), .v (.bool v.isBytes)]) H := by
  cases v <;> simp only [ofV, z2o, z2n] at hx
  all_goals first
    | exact (z78 Try.underlying23 rfl zil ho hx)
    | exact (z79 Try.underlying23 rfl zil ho hx).wk (.tup (.cons Wk.nil (.cons (.refl _) .nil)))
    | exact (z3i Try.underlying23 rfl zil ho hx rfl).wk (.tup (.cons Wk.nil (.cons (.refl _) .nil)))
    | exact (z3i Try.underlying23 rfl zil ho hx (z4v _ (by decide))).wk (.tup (.cons Wk.nil (.cons (.refl _) .nil)))
theorem zju {x : Operand} {xt : TypeId} {v : V} {y : Str} (ho : o.op = .typeAssert x xt 23 false) (hx : ev env x = some (ofV v)) (hy : v.theBytes = some y) : Op1 Try.prog o env H n (.sl none 5 1 (y.map ofB)) H := by
  cases v <;> simp only [V.theBytes] at hy <;> first | (cases hy; done) | skip
  all_goals (cases hy; simp only [ofV, z2o, z2n] at hx; exact z7b Try.underlying23 rfl ho hx)
abbrev V.isRef : V → Bool
  | .ref _ => true
  | _ => false
abbrev V.asRef : V → Int
  | .ref x => x
  | _ => 0
abbrev V.theRef : V → Option (Int)
  | .ref x => some x
  | _ => none
theorem zdj {x : Operand} {xt : TypeId} {v : V} (ho : o.op = .typeAssert x xt 25 true) (hx : ev env x = some (ofV v)) : Op1 Try.prog o env H n (.tup [(.v (.int .u64 v.asRef)), .v (.bool v.isRef)]) H := by
  cases v <;> simp only [ofV, z2o, z2n] at hx
  all_goals first
    | exact (z78 Try.underlying25 rfl zik ho hx)
    | exact (z79 Try.underlying25 rfl zik ho hx).wk (.tup (.cons (.refl _) (.cons (.refl _) .nil)))
    | exact (z3i Try.underlying25 rfl zik ho hx rfl).wk (.tup (.cons (.refl _) (.cons (.refl _) .nil)))
    | exact (z3i Try.underlying25 rfl zik ho hx (z4v _ (by decide))).wk (.tup (.cons (.refl _) (.cons (.refl _) .nil)))
theorem zrb {x : Operand} {xt : TypeId} {v : V} {y : Int} (ho : o.op = .typeAssert x xt 25 false) (hx : ev env x = some (ofV v)) (hy : v.theRef = some y) : Op1 Try.prog o env H n (.v (.int .u64 y)) H := by
  cases v <;> simp only [V.theRef] at hy <;> first | (cases hy; done) | skip
  all_goals (cases hy; simp only [ofV, z2o, z2n] at hx; exact z7b Try.underlying25 rfl ho hx)
abbrev V.isList : V → Bool
  | .list _ => true
  | _ => false
abbrev V.asList : V → List V
  | .list x => x
  | _ => []
abbrev V.theList : V → Option (List V)
  | .list x => some x
  | _ => none
theorem z4f {x : Operand} {xt : TypeId} {v : V} (ho : o.op = .typeAssert x xt 37 true) (hx : ev env x = some (ofV v)) : Op1 Try.prog o env H n (.tup [(.sl none 20 1 (v.asList.map ofV)), .v (.bool v.isList)]) H := by
  cases v <;> simp only [ofV, z2o, z2n] at hx
  all_goals first
    | exact (z78 Try.underlying37 rfl zme ho hx)
    | exact (z79 Try.underlying37 rfl zme ho hx).wk (.tup (.cons Wk.nil (.cons (.refl _) .nil)))
    | exact (z3i Try.underlying37 rfl zme ho hx rfl).wk (.tup (.cons Wk.nil (.cons (.refl _) .nil)))
    | exact (z3i Try.underlying37 rfl zme ho hx (z4v _ (by decide))).wk (.tup (.cons Wk.nil (.cons (.refl _) .nil)))
theorem zo3 {x : Operand} {xt : TypeId} {v : V} {y : List V} (ho : o.op = .typeAssert x xt 37 false) (hx : ev env x = some (ofV v)) (hy : v.theList = some y) : Op1 Try.prog o env H n (.sl none 20 1 (y.map ofV)) H := by
  cases v <;> simp only [V.theList] at hy <;> first | (cases hy; done) | skip
  all_goals (cases hy; simp only [ofV, z2o, z2n] at hx; exact z7b Try.underlying37 rfl ho hx)
abbrev V.isDict : V → Bool
  | .dict _ => true
  | _ => false
abbrev V.asDict : V → List (Str × V)
  | .dict x => x
  | _ => []
abbrev V.theDict : V → Option (List (Str × V))
  | .dict x => some x
  | _ => none
theorem z4g {x : Operand} {xt : TypeId} {v : V} (ho : o.op = .typeAssert x xt 45 true) (hx : ev env x = some (ofV v)) : Op1 Try.prog o env H n (.tup [(.sl none 43 2 (v.asDict.map z1h)), .v (.bool v.isDict)]) H := by
  cases v <;> simp only [ofV, z2o, z2n] at hx
  all_goals first
    | exact (z78 Try.underlying45 rfl zmd ho hx)
    | exact (z79 Try.underlying45 rfl zmd ho hx).wk (.tup (.cons Wk.nil (.cons (.refl _) .nil)))
    | exact (z3i Try.underlying45 rfl zmd ho hx rfl).wk (.tup (.cons Wk.nil (.cons (.refl _) .nil)))
    | exact (z3i Try.underlying45 rfl zmd ho hx (z4v _ (by decide))).wk (.tup (.cons Wk.nil (.cons (.refl _) .nil)))
theorem zo4 {x : Operand} {xt : TypeId} {v : V} {y : List (Str × V)} (ho : o.op = .typeAssert x xt 45 false) (hx : ev env x = some (ofV v)) (hy : v.theDict = some y) : Op1 Try.prog o env H n (.sl none 43 2 (y.map z1h)) H := by
  cases v <;> simp only [V.theDict] at hy <;> first | (cases hy; done) | skip
  all_goals (cases hy; simp only [ofV, z2o, z2n] at hx; exact z7b Try.underlying45 rfl ho hx)
abbrev V.isRec : V → Bool
  | .record _ _ _ => true
  | .nothing => true
  | _ => false
abbrev V.asRec : V → Option Rec
  | .record c v l => some ⟨c, v, l⟩
  | _ => none
abbrev V.theRec : V → Option (Option Rec)
  | .record c v l => some (some ⟨c, v, l⟩)
  | .nothing => some none
  | _ => none
theorem z55 {x : Operand} {xt : TypeId} {v : V} (ho : o.op = .typeAssert x xt 70 true) (hx : ev env x = some (ofV v)) : Op1 Try.prog o env H n (.tup [ofRecP v.asRec, .v (.bool v.isRec)]) H := by
  cases v <;> simp only [ofV, z2o, z2n] at hx
  all_goals first
    | exact (z78 Try.underlying70 rfl zmc ho hx)
    | exact (z79 Try.underlying70 rfl zmc ho hx)
    | exact (z3i Try.underlying70 rfl zmc ho hx rfl)
    | exact (z3i Try.underlying70 rfl zmc ho hx (z4v _ (by decide)))
theorem zrc {x : Operand} {xt : TypeId} {v : V} {y : Option Rec} (ho : o.op = .typeAssert x xt 70 false) (hx : ev env x = some (ofV v)) (hy : v.theRec = some y) : Op1 Try.prog o env H n (ofRecP y) H := by
  cases v <;> simp only [V.theRec] at hy <;> first | (cases hy; done) | skip
  all_goals (cases hy; simp only [ofV, z2o, z2n] at hx; exact z7b Try.underlying70 rfl ho hx)
end
/-! ### terms -/
inductive Term where
  | mk (kind : Int) (bool : Bool) (int : Int) (float : Nat) (text : Str) (bytes : Str) (ref : Int) (list : List Term) (fields : List (Str × Term)) (cls : Str) (ver : Int)
namespace Term
def kind : Term → Int | .mk a _ _ _ _ _ _ _ _ _ _ => a
def bool : Term → Bool | .mk _ a _ _ _ _ _ _ _ _ _ => a
def int : Term → Int | .mk _ _ a _ _ _ _ _ _ _ _ => a
def float : Term → Nat | .mk _ _ _ a _ _ _ _ _ _ _ => a
def text : Term → Str | .mk _ _ _ _ a _ _ _ _ _ _ => a
def bytes : Term → Str | .mk _ _ _ _ _ a _ _ _ _ _ => a
def ref : Term → Int | .mk _ _ _ _ _ _ a _ _ _ _ => a
def list : Term → List Term | .mk _ _ _ _ _ _ _ a _ _ _ => a
def fields : Term → List (Str × Term) | .mk _ _ _ _ _ _ _ _ a _ _ => a
def cls : Term → Str | .mk _ _ _ _ _ _ _ _ _ a _ => a
def ver : Term → Int | .mk _ _ _ _ _ _ _ _ _ _ a => a
end Term
mutual
def z1k : Term → PV
  | .mk k b i f t y r l d c v => .agg [.v (.int .i64 k), .v (.bool b), .v (.int .i64 i), .v (.float .f64 f), z0f t, .sl none 5 1 (y.map ofB), .v (.int .u64 r), .sl none 29 11 (z7x l), .sl none 101 12 (z4o d), z0f c, .v (.int .i64 v)]
def z7x : List Term → List PV
  | [] => []
  | x :: r => z1k x :: z7x r
def z4o : List (Str × Term) → List PV
  | [] => []
  | (s, x) :: r => .agg (z0f s :: (z1k x).cells) :: z4o r
end
def z18 (p : Str × Term) : PV := .agg (z0f p.1 :: (z1k p.2).cells)
def z1o (t : Term) : PV := .agg [.v (.int .i64 t.kind), .v (.bool t.bool), .v (.int .i64 t.int), .v (.float .f64 t.float), z0f t.text, .sl none 5 1 (t.bytes.map ofB), .v (.int .u64 t.ref), .sl none 29 11 (t.list.map z1k), .sl none 101 12 (t.fields.map z18), z0f t.cls, .v (.int .i64 t.ver)]
def zg5 (p : Str × Term) : PV := .agg (z0f p.1 :: (z1o p.2).cells)
theorem zdl : ∀ l, z7x l = l.map z1k
  | [] => by rw [z7x]; rfl
  | x :: r => by rw [z7x, zdl r]; rfl
theorem z7f : ∀ l, z4o l = l.map z18
  | [] => by rw [z4o]; rfl
  | (s, x) :: r => by rw [z4o, z7f r]; rfl
theorem z3w (t : Term) : z1k t = z1o t := by cases t; simp only [z1k, zdl, z7f]; rfl
theorem z3b (p : Str × Term) : z18 p = zg5 p := by simp only [z18, zg5, z3w]
mutual
theorem z35 : ∀ (t : Term), (z1k t).ids = []
  | .mk k b i f t y r l d c v => by
    simp only [z1k, PV.ids, PV.ids.idsL]
    rw [z3j Z1o, zio l, z8y d]; rfl
theorem zio : ∀ (l : List Term), PV.ids.idsL (z7x l) = []
  | [] => by rw [z7x]; rfl
  | x :: r => by rw [z7x]; simp only [PV.ids.idsL]; rw [z35 x, zio r]; rfl
theorem z8y : ∀ (l : List (Str × Term)), PV.ids.idsL (z4o l) = []
  | [] => by rw [z4o]; rfl
  | (s, x) :: r => by
    have h : (z1k x).ids = PV.ids.idsL (z1k x).cells := by cases x; simp only [z1k]; rfl
    rw [z4o]; simp only [PV.ids.idsL, PV.ids]; rw [← h, z35 x, z8y r]; rfl
end
theorem z20 (t : Term) : (z1o t).ids = [] := by rw [← z3w]; exact z35 t
theorem z2x (p : Str × Term) : (z18 p).ids = [] := by
  have h := z8y [p]
  rw [z7f] at h
  simp only [List.map_cons, List.map_nil, PV.ids.idsL, List.append_nil] at h
  exact h
theorem zmk (t : Term) : (z1k t).cells.length = 11 := by rw [z3w]; rfl
theorem zsw (t : Str × Term) : (z18 t).cells.length = 12 := by rw [z3b]; rfl
theorem zfj (t : Term) : (z1k t).cells.all z96 = true := by rw [z3w]; rfl
theorem zke (t : Str × Term) : (z18 t).cells.all z96 = true := by rw [z3b]; rfl
/-! ### types -/
inductive Typ where
  | mk (kind : Int) (of : Int) (only : Term) (parts : List Typ) (names : List Str) (lacks : List Bool) (opn : Bool) (cls : Str)
namespace Typ
def kind : Typ → Int | .mk a _ _ _ _ _ _ _ => a
def of : Typ → Int | .mk _ a _ _ _ _ _ _ => a
def only : Typ → Term | .mk _ _ a _ _ _ _ _ => a
def parts : Typ → List Typ | .mk _ _ _ a _ _ _ _ => a
def names : Typ → List Str | .mk _ _ _ _ a _ _ _ => a
def lacks : Typ → List Bool | .mk _ _ _ _ _ a _ _ => a
def opn : Typ → Bool | .mk _ _ _ _ _ _ a _ => a
def cls : Typ → Str | .mk _ _ _ _ _ _ _ a => a
end Typ
mutual
def z19 : Typ → PV
  | .mk k o y p n l q c => .agg [.v (.int .i64 k), .v (.int .i64 o), .v (.int .i64 y.kind), .v (.bool y.bool), .v (.int .i64 y.int), .v (.float .f64 y.float), z0f y.text, .sl none 5 1 (y.bytes.map ofB), .v (.int .u64 y.ref), .sl none 29 11 (y.list.map z1k), .sl none 101 12 (y.fields.map z18), z0f y.cls, .v (.int .i64 y.ver), .sl none 34 18 (z9q p), .sl none 9 1 (n.map z0f), .sl none 4 1 (l.map z28), .v (.bool q), z0f c]
def z9q : List Typ → List PV
  | [] => []
  | x :: r => z19 x :: z9q r
end
def z07 (t : Typ) : PV := .agg [.v (.int .i64 t.kind), .v (.int .i64 t.of), .v (.int .i64 t.only.kind), .v (.bool t.only.bool), .v (.int .i64 t.only.int), .v (.float .f64 t.only.float), z0f t.only.text, .sl none 5 1 (t.only.bytes.map ofB), .v (.int .u64 t.only.ref), .sl none 29 11 (t.only.list.map z1k), .sl none 101 12 (t.only.fields.map z18), z0f t.only.cls, .v (.int .i64 t.only.ver), .sl none 34 18 (t.parts.map z19), .sl none 9 1 (t.names.map z0f), .sl none 4 1 (t.lacks.map z28), .v (.bool t.opn), z0f t.cls]
theorem zf9 : ∀ l, z9q l = l.map z19
  | [] => by rw [z9q]; rfl
  | x :: r => by rw [z9q, zf9 r]; rfl
theorem z2m (t : Typ) : z19 t = z07 t := by cases t; simp only [z19, zf9]; rfl
theorem zuu (y : Term) (r : List PV) : PV.ids.idsL (.v (.int .i64 y.kind) :: .v (.bool y.bool) :: .v (.int .i64 y.int) :: .v (.float .f64 y.float) :: z0f y.text :: .sl none 5 1 (y.bytes.map ofB) :: .v (.int .u64 y.ref) :: .sl none 29 11 (y.list.map z1k) :: .sl none 101 12 (y.fields.map z18) :: z0f y.cls :: .v (.int .i64 y.ver) :: r) = PV.ids.idsL r := by
  have h := z20 y
  simp only [z1o, PV.ids, PV.ids.idsL] at h ⊢
  simp only [List.nil_append, List.append_nil, List.append_eq_nil_iff] at h ⊢
  simp only [h, List.nil_append]
mutual
theorem z2h : ∀ (t : Typ), (z19 t).ids = []
  | .mk k o y p n l q c => by
    rw [z19]
    have h : PV.ids.idsL (.v (.int .i64 y.kind) :: .v (.bool y.bool) :: .v (.int .i64 y.int) :: .v (.float .f64 y.float) :: z0f y.text :: .sl none 5 1 (y.bytes.map ofB) :: .v (.int .u64 y.ref) :: .sl none 29 11 (y.list.map z1k) :: .sl none 101 12 (y.fields.map z18) :: z0f y.cls :: .v (.int .i64 y.ver) :: [.sl none 34 18 (z9q p), .sl none 9 1 (n.map z0f), .sl none 4 1 (l.map z28), .v (.bool q), z0f c]) = [] := by
      rw [zuu]
      simp only [PV.ids, PV.ids.idsL]
      rw [zmf p, z3j zs9, z3j (fun _ => rfl)]; rfl
    exact h
theorem zmf : ∀ (l : List Typ), PV.ids.idsL (z9q l) = []
  | [] => by rw [z9q]; rfl
  | x :: r => by rw [z9q]; simp only [PV.ids.idsL]; rw [z2h x, zmf r]; rfl
end
theorem z0m (t : Typ) : (z07 t).ids = [] := by rw [← z2m]; exact z2h t
theorem zkc (t : Typ) : (z19 t).cells.length = 18 := by rw [z2m]; rfl
theorem zdw (t : Typ) : (z19 t).cells.all z96 = true := by rw [z2m]; rfl
end Go.Proofs.Ytiapdjdhaclmnaa
