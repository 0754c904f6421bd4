/- Values, records and terms: as trees of Lean's, and as trees of the program's. -/
import Derived.Test.YtiapdjdhaclmnaaV0
import Derived.Test.YtiapdjdhaclmnaaAwT
namespace Go.Proofs.Ytiapdjdhaclmnaa
open Go Aw
set_option linter.unusedVariables false
set_option linter.unusedSimpArgs false
set_option maxRecDepth 8000
def zie (t : Nat) : Bool := !([4, 2, 22, 9, 23, 25, 37, 45, 70].contains t)
inductive V where
 | nil
 | bool (b : Bool)
 | int (i : Int)
 | float (f : Nat)
 | text (s : Str)
 | bytes (b : Str)
 | ref (r : Int)
 | list (l : List V)
 | dict (l : List (Str × V))
 | record (c : Str) (v : Int) (l : List (Str × V))
 | nothing
 | alien (t : {t : Nat // zie t = true})
instance : Inhabited V := ⟨.nil⟩
structure Rec where
 cls : Str
 ver : Int
 fields : List (Str × V)
mutual
def ofV : V → PV
 | .nil => .v .nilIface
 | .bool b => .iface 4 (.v (.bool b))
 | .int i => .iface 2 (.v (.int .i64 i))
 | .float f => .iface 22 (.v (.float .f64 f))
 | .text s => .iface 9 (ofStr s)
 | .bytes b => .iface 23 (.sl none 5 1 (b.map ofB))
 | .ref r => .iface 25 (.v (.int .u64 r))
 | .list l => .iface 37 (.sl none 20 1 (zwt l))
 | .dict l => .iface 45 (.sl none 43 2 (zso l))
 | .record c v l => .iface 70 (.pt 72 (.agg [ofStr c, .v (.int .i64 v), .sl none 43 2 (zso l)]) 0)
 | .nothing => .iface 70 (.v (.pointer none))
 | .alien t => .iface t.1 .junk
def zwt : List V → List PV
 | [] => []
 | x :: r => ofV x :: zwt r
def zso : List (Str × V) → List PV
 | [] => []
 | (s, x) :: r => .agg [ofStr s, ofV x] :: zso r
end
def ofFld (p : Str × V) : PV := .agg [ofStr p.1, ofV p.2]
theorem z2g : ∀ l, zwt l = l.map ofV
 | [] => by rw [zwt]; rfl
 | x :: r => by rw [zwt, z2g r]; rfl
theorem z2d : ∀ l, zso l = l.map ofFld
 | [] => by rw [zso]; rfl
 | (s, x) :: r => by rw [zso, z2d r]; rfl
def zwu (r : Rec) : PV := .agg [ofStr r.cls, .v (.int .i64 r.ver), .sl none 43 2 (r.fields.map ofFld)]
def ofRecP : Option Rec → PV
 | none => .v (.pointer none)
 | some r => .pt 72 (zwu r) 0
theorem zxc (s : Str) : (ofStr s).ids = [] := rfl
theorem Z8s (b : UInt8) : (ofB b).ids = [] := rfl
mutual
theorem ids_V : ∀ (x : V), (ofV x).ids = []
 | .nil => by rw [ofV]; rfl
 | .bool b => by rw [ofV]; rfl
 | .int i => by rw [ofV]; rfl
 | .float f => by rw [ofV]; rfl
 | .text s => by rw [ofV]; rfl
 | .bytes b => by rw [ofV]; exact z0c (e := 5) (sz := 1) Z8s b
 | .ref r => by rw [ofV]; rfl
 | .list l => by rw [ofV]; simp only [PV.ids]; rw [Z3g l]; rfl
 | .dict l => by rw [ofV]; simp only [PV.ids]; rw [zxd l]; rfl
 | .record c v l => by rw [ofV]; simp only [PV.ids, PV.ids.idsL]; rw [zxd l]; rfl
 | .nothing => by rw [ofV]; rfl
 | .alien t => by rw [ofV]; rfl
theorem Z3g : ∀ (l : List V), PV.ids.idsL (zwt l) = []
 | [] => by rw [zwt]; rfl
 | x :: r => by rw [zwt]; simp only [PV.ids.idsL]; rw [ids_V x, Z3g r]; rfl
theorem zxd : ∀ (l : List (Str × V)), PV.ids.idsL (zso l) = []
 | [] => by rw [zso]; rfl
 | (s, x) :: r => by rw [zso]; simp only [PV.ids.idsL, PV.ids]; rw [ids_V x, zxd r]; rfl
end
theorem z2i (p : Str × V) : (ofFld p).ids = [] := by simp only [ofFld, PV.ids, PV.ids.idsL]; rw [ids_V, zxc]; rfl
theorem Z5i (r : Rec) : (zwu r).ids = [] := by simp only [zwu]; exact z34 rfl (z34 rfl (z34 (z0c z2i _) rfl))
theorem zzz (p : Option Rec) : (ofRecP p).ids = [] := by
 cases p with
 | none => rfl
 | some r => exact Z5i r
theorem z47 (x : V) : (ofV x).cells = [ofV x] := by cases x <;> simp only [ofV] <;> rfl
theorem zm0 (x : V) : z9g (ofV x) = true := by cases x <;> simp only [ofV] <;> rfl
theorem Z0x (x : V) : cok (ofV x) = true := by cases x <;> simp only [ofV] <;> rfl
theorem Z0w (x : V) : (ofV x).cells.length = 1 := by rw [z47]; rfl
theorem Z5y (x : V) : (ofV x).cells.all z9g = true := by rw [z47]; simp [zm0]
theorem zy1 (p : Str × V) : (ofFld p).cells.all z9g = true := by
 show ([ofStr p.1, ofV p.2].all z9g) = true
 simp only [List.all_cons, List.all_nil, zm0, Bool.and_true]; rfl
theorem Z5u (p : Str × V) : (ofFld p).cells.length = 2 := rfl
theorem z3y (p : Option Rec) : (ofRecP p).cells = [ofRecP p] := by cases p <;> rfl
theorem z99 (p : Option Rec) : z9g (ofRecP p) = true := by cases p <;> rfl
theorem ze5 (p : Option Rec) : cok (ofRecP p) = true := by cases p <;> rfl
theorem zjn (p : Option Rec) : (ofRecP p).cells.length = 1 := by rw [z3y]; rfl
def V.ofRecP : Option Rec → V
 | none => .nothing
 | some r => .record r.cls r.ver r.fields
theorem Z58 (l : List V) : ofV (.list l) = .iface 37 (.sl none 20 1 (l.map ofV)) := by rw [ofV, z2g]
theorem zwx (l : List (Str × V)) : ofV (.dict l) = .iface 45 (.sl none 43 2 (l.map ofFld)) := by rw [ofV, z2d]
theorem zzt (l : Str) : ofV (.bytes l) = .iface 23 (.sl none 5 1 (l.map ofB)) := by rw [ofV]
theorem Z59 (x : Bool) : ofV (.bool x) = .iface 4 (.v (.bool x)) := by rw [ofV]
theorem Z8j (x : Int) : ofV (.int x) = .iface 2 (.v (.int .i64 x)) := by rw [ofV]
theorem zzs (x : Nat) : ofV (.float x) = .iface 22 (.v (.float .f64 x)) := by rw [ofV]
theorem Z57 (x : Str) : ofV (.text x) = .iface 9 (ofStr x) := by rw [ofV]
theorem Z8i (x : Int) : ofV (.ref x) = .iface 25 (.v (.int .u64 x)) := by rw [ofV]
theorem Z35 (p : Option Rec) : ofV (.ofRecP p) = .iface 70 (ofRecP p) := by
 cases p with
 | none => rw [V.ofRecP, ofV]; rfl
 | some r => rw [V.ofRecP, ofV, z2d]; rfl
theorem mk_nil : ofV .nil = .v .nilIface := by rw [ofV]
theorem zzu (t : {t : Nat // zie t = true}) : ofV (.alien t) = .iface t.1 .junk := by rw [ofV]
theorem z4w (t : {t : Nat // zie t = true}) {k : Nat} (hk : zie k = false) : Nat.beq t.1 k = false := by
 cases h : Nat.beq t.1 k with
 | false => rfl
 | true => have := Nat.eq_of_beq_eq_true h; have h2 := t.2; rw [this, hk] at h2; cases h2
section
variable {H : List AEnt} {env : List (Nat × PV)} {n : Nat} {o : Oper}
abbrev V.isNil : V → Bool
 | .nil => true
 | _ => false
theorem zs4 {x : Operand} {t t2 : TypeId} {ms : Array (String × TypeId)} {v : V} (ht : Try.prog.underlying t = some (.interface ms)) (ho : o.op = .binOp .eql t x (.const .nilIface) t2) (hx : ev env x = some (ofV v)) : Op1 Try.prog o env H n (.v (.bool v.isNil)) H := by
 cases v <;> rw [ofV] at hx <;> first | exact zzn ht ho hx | exact zzm ht ho hx
theorem zi1 {x : Operand} {t t2 e : TypeId} {p : Option Rec} (ht : Try.prog.underlying t = some (.pointer e)) (ho : o.op = .binOp .eql t x (.const (.pointer none)) t2) (hx : ev env x = some (ofRecP p)) : Op1 Try.prog o env H n (.v (.bool p.isNone)) H := by
 cases p with
 | none => exact zzl ht ho hx
 | some r => exact zzk ht ho hx rfl
theorem z35 {x : Operand} {p : Option Rec} {r : Rec} (ho : o.op = .nilCheck x) (hx : ev env x = some (ofRecP p)) (hr : p = some r) : Op1 Try.prog o env H n (.pt 72 (zwu r) 0) H := by
 subst hr; exact zze ho hx
abbrev V.isBool : V → Bool
 | .bool _ => true
 | _ => false
abbrev V.asBool : V → Bool
 | .bool x => x
 | _ => false
abbrev V.theBool : V → Option (Bool)
 | .bool x => some x
 | _ => none
theorem zcx {x : Operand} {xt : TypeId} {v : V} (ho : o.op = .typeAssert x xt 4 true) (hx : ev env x = some (ofV v)) : Op1 Try.prog o env H n (.tup [(.v (.bool v.asBool)), .v (.bool v.isBool)]) H := by
 cases v <;> simp only [ofV, z2g, z2d] at hx
 all_goals first
  | exact (z7u Try.underlying4 rfl inf_4 ho hx)
  | exact (z7v Try.underlying4 rfl inf_4 ho hx).wk (.tup (.cons (.refl _) (.cons (.refl _) .nil)))
  | exact (z3b Try.underlying4 rfl inf_4 ho hx rfl).wk (.tup (.cons (.refl _) (.cons (.refl _) .nil)))
  | exact (z3b Try.underlying4 rfl inf_4 ho hx (z4w _ (by decide))).wk (.tup (.cons (.refl _) (.cons (.refl _) .nil)))
theorem zs8 {x : Operand} {xt : TypeId} {v : V} {y : Bool} (ho : o.op = .typeAssert x xt 4 false) (hx : ev env x = some (ofV v)) (hy : v.theBool = some y) : Op1 Try.prog o env H n (.v (.bool y)) H := by
 cases v <;> simp only [V.theBool] at hy <;> first | (cases hy; done) | skip
 all_goals (cases hy; simp only [ofV, z2g, z2d] at hx; exact z7x Try.underlying4 rfl ho hx)
abbrev V.isInt : V → Bool
 | .int _ => true
 | _ => false
abbrev V.asInt : V → Int
 | .int x => x
 | _ => 0
abbrev V.theInt : V → Option (Int)
 | .int x => some x
 | _ => none
theorem zfk {x : Operand} {xt : TypeId} {v : V} (ho : o.op = .typeAssert x xt 2 true) (hx : ev env x = some (ofV v)) : Op1 Try.prog o env H n (.tup [(.v (.int .i64 v.asInt)), .v (.bool v.isInt)]) H := by
 cases v <;> simp only [ofV, z2g, z2d] at hx
 all_goals first
  | exact (z7u Try.underlying2 rfl zse ho hx)
  | exact (z7v Try.underlying2 rfl zse ho hx).wk (.tup (.cons (.refl _) (.cons (.refl _) .nil)))
  | exact (z3b Try.underlying2 rfl zse ho hx rfl).wk (.tup (.cons (.refl _) (.cons (.refl _) .nil)))
  | exact (z3b Try.underlying2 rfl zse ho hx (z4w _ (by decide))).wk (.tup (.cons (.refl _) (.cons (.refl _) .nil)))
theorem zwj {x : Operand} {xt : TypeId} {v : V} {y : Int} (ho : o.op = .typeAssert x xt 2 false) (hx : ev env x = some (ofV v)) (hy : v.theInt = some y) : Op1 Try.prog o env H n (.v (.int .i64 y)) H := by
 cases v <;> simp only [V.theInt] at hy <;> first | (cases hy; done) | skip
 all_goals (cases hy; simp only [ofV, z2g, z2d] at hx; exact z7x Try.underlying2 rfl ho hx)
abbrev V.isFloat : V → Bool
 | .float _ => true
 | _ => false
abbrev V.asFloat : V → Nat
 | .float x => x
 | _ => 0
abbrev V.theFloat : V → Option (Nat)
 | .float x => some x
 | _ => none
theorem z9y {x : Operand} {xt : TypeId} {v : V} (ho : o.op = .typeAssert x xt 22 true) (hx : ev env x = some (ofV v)) : Op1 Try.prog o env H n (.tup [(.v (.float .f64 v.asFloat)), .v (.bool v.isFloat)]) H := by
 cases v <;> simp only [ofV, z2g, z2d] at hx
 all_goals first
  | exact (z7u Try.underlying22 rfl zi9 ho hx)
  | exact (z7v Try.underlying22 rfl zi9 ho hx).wk (.tup (.cons (.refl _) (.cons (.refl _) .nil)))
  | exact (z3b Try.underlying22 rfl zi9 ho hx rfl).wk (.tup (.cons (.refl _) (.cons (.refl _) .nil)))
  | exact (z3b Try.underlying22 rfl zi9 ho hx (z4w _ (by decide))).wk (.tup (.cons (.refl _) (.cons (.refl _) .nil)))
theorem zne {x : Operand} {xt : TypeId} {v : V} {y : Nat} (ho : o.op = .typeAssert x xt 22 false) (hx : ev env x = some (ofV v)) (hy : v.theFloat = some y) : Op1 Try.prog o env H n (.v (.float .f64 y)) H := by
 cases v <;> simp only [V.theFloat] at hy <;> first | (cases hy; done) | skip
 all_goals (cases hy; simp only [ofV, z2g, z2d] at hx; exact z7x Try.underlying22 rfl ho hx)
abbrev V.isText : V → Bool
 | .text _ => true
 | _ => false
abbrev V.asText : V → Str
 | .text x => x
 | _ => []
abbrev V.theText : V → Option (Str)
 | .text x => some x
 | _ => none
theorem z94 {x : Operand} {xt : TypeId} {v : V} (ho : o.op = .typeAssert x xt 9 true) (hx : ev env x = some (ofV v)) : Op1 Try.prog o env H n (.tup [(ofStr v.asText), .v (.bool v.isText)]) H := by
 cases v <;> simp only [ofV, z2g, z2d] at hx
 all_goals first
  | exact (z7u Try.underlying9 rfl inf_9 ho hx)
  | exact (z7v Try.underlying9 rfl inf_9 ho hx).wk (.tup (.cons (.refl _) (.cons (.refl _) .nil)))
  | exact (z3b Try.underlying9 rfl inf_9 ho hx rfl).wk (.tup (.cons (.refl _) (.cons (.refl _) .nil)))
  | exact (z3b Try.underlying9 rfl inf_9 ho hx (z4w _ (by decide))).wk (.tup (.cons (.refl _) (.cons (.refl _) .nil)))
theorem zs5 {x : Operand} {xt : TypeId} {v : V} {y : Str} (ho : o.op = .typeAssert x xt 9 false) (hx : ev env x = some (ofV v)) (hy : v.theText = some y) : Op1 Try.prog o env H n (ofStr y) H := by
 cases v <;> simp only [V.theText] at hy <;> first | (cases hy; done) | skip
 all_goals (cases hy; simp only [ofV, z2g, z2d] at hx; exact z7x Try.underlying9 rfl ho hx)
abbrev V.isBytes : V → Bool
 | .bytes _ => true
 | _ => false
abbrev V.asBytes : V → Str
 | .bytes x => x
 | _ => []
abbrev V.theBytes : V → Option (Str)
 | .bytes x => some x
 | _ => none
theorem z7w {x : Operand} {xt : TypeId} {v : V} (ho : o.op = .typeAssert x xt 23 true) (hx : ev env x = some (ofV v)) : Op1 Try.prog o env H n (.tup [(.sl none 5 1 (v.asBytes.map ofB)), .v (.bool v.isBytes)]) H := by
 cases v <;> simp only [ofV, z2g, z2d] at hx
 all_goals first
  | exact (z7u Try.underlying23 rfl zi8 ho hx)
  | exact (z7v Try.underlying23 rfl zi8 ho hx).wk (.tup (.cons Wk.nil (.cons (.refl _) .nil)))
  | exact (z3b Try.underlying23 rfl zi8 ho hx rfl).wk (.tup (.cons Wk.nil (.cons (.refl _) .nil)))
  | exact (z3b Try.underlying23 rfl zi8 ho hx (z4w _ (by decide))).wk (.tup (.cons Wk.nil (.cons (.refl _) .nil)))
theorem znf {x : Operand} {xt : TypeId} {v : V} {y : Str} (ho : o.op = .typeAssert x xt 23 false) (hx : ev env x = some (ofV v)) (hy : v.theBytes = some y) : Op1 Try.prog o env H n (.sl none 5 1 (y.map ofB)) H := by
 cases v <;> simp only [V.theBytes] at hy <;> first | (cases hy; done) | skip
 all_goals (cases hy; simp only [ofV, z2g, z2d] at hx; exact z7x Try.underlying23 rfl ho hx)
abbrev V.isRef : V → Bool
 | .ref _ => true
 | _ => false
abbrev V.asRef : V → Int
 | .ref x => x
 | _ => 0
abbrev V.theRef : V → Option (Int)
 | .ref x => some x
 | _ => none
theorem zfj {x : Operand} {xt : TypeId} {v : V} (ho : o.op = .typeAssert x xt 25 true) (hx : ev env x = some (ofV v)) : Op1 Try.prog o env H n (.tup [(.v (.int .u64 v.asRef)), .v (.bool v.isRef)]) H := by
 cases v <;> simp only [ofV, z2g, z2d] at hx
 all_goals first
  | exact (z7u Try.underlying25 rfl zi7 ho hx)
  | exact (z7v Try.underlying25 rfl zi7 ho hx).wk (.tup (.cons (.refl _) (.cons (.refl _) .nil)))
  | exact (z3b Try.underlying25 rfl zi7 ho hx rfl).wk (.tup (.cons (.refl _) (.cons (.refl _) .nil)))
  | exact (z3b Try.underlying25 rfl zi7 ho hx (z4w _ (by decide))).wk (.tup (.cons (.refl _) (.cons (.refl _) .nil)))
theorem zwh {x : Operand} {xt : TypeId} {v : V} {y : Int} (ho : o.op = .typeAssert x xt 25 false) (hx : ev env x = some (ofV v)) (hy : v.theRef = some y) : Op1 Try.prog o env H n (.v (.int .u64 y)) H := by
 cases v <;> simp only [V.theRef] at hy <;> first | (cases hy; done) | skip
 all_goals (cases hy; simp only [ofV, z2g, z2d] at hx; exact z7x Try.underlying25 rfl ho hx)
abbrev V.isList : V → Bool
 | .list _ => true
 | _ => false
abbrev V.asList : V → List V
 | .list x => x
 | _ => []
abbrev V.theList : V → Option (List V)
 | .list x => some x
 | _ => none
theorem z4x {x : Operand} {xt : TypeId} {v : V} (ho : o.op = .typeAssert x xt 37 true) (hx : ev env x = some (ofV v)) : Op1 Try.prog o env H n (.tup [(.sl none 20 1 (v.asList.map ofV)), .v (.bool v.isList)]) H := by
 cases v <;> simp only [ofV, z2g, z2d] at hx
 all_goals first
  | exact (z7u Try.underlying37 rfl zqa ho hx)
  | exact (z7v Try.underlying37 rfl zqa ho hx).wk (.tup (.cons Wk.nil (.cons (.refl _) .nil)))
  | exact (z3b Try.underlying37 rfl zqa ho hx rfl).wk (.tup (.cons Wk.nil (.cons (.refl _) .nil)))
  | exact (z3b Try.underlying37 rfl zqa ho hx (z4w _ (by decide))).wk (.tup (.cons Wk.nil (.cons (.refl _) .nil)))
theorem zs6 {x : Operand} {xt : TypeId} {v : V} {y : List V} (ho : o.op = .typeAssert x xt 37 false) (hx : ev env x = some (ofV v)) (hy : v.theList = some y) : Op1 Try.prog o env H n (.sl none 20 1 (y.map ofV)) H := by
 cases v <;> simp only [V.theList] at hy <;> first | (cases hy; done) | skip
 all_goals (cases hy; simp only [ofV, z2g, z2d] at hx; exact z7x Try.underlying37 rfl ho hx)
abbrev V.isDict : V → Bool
 | .dict _ => true
 | _ => false
abbrev V.asDict : V → List (Str × V)
 | .dict x => x
 | _ => []
abbrev V.theDict : V → Option (List (Str × V))
 | .dict x => some x
 | _ => none
theorem z4y {x : Operand} {xt : TypeId} {v : V} (ho : o.op = .typeAssert x xt 45 true) (hx : ev env x = some (ofV v)) : Op1 Try.prog o env H n (.tup [(.sl none 43 2 (v.asDict.map ofFld)), .v (.bool v.isDict)]) H := by
 cases v <;> simp only [ofV, z2g, z2d] at hx
 all_goals first
  | exact (z7u Try.underlying45 rfl zq9 ho hx)
  | exact (z7v Try.underlying45 rfl zq9 ho hx).wk (.tup (.cons Wk.nil (.cons (.refl _) .nil)))
  | exact (z3b Try.underlying45 rfl zq9 ho hx rfl).wk (.tup (.cons Wk.nil (.cons (.refl _) .nil)))
  | exact (z3b Try.underlying45 rfl zq9 ho hx (z4w _ (by decide))).wk (.tup (.cons Wk.nil (.cons (.refl _) .nil)))
theorem zs7 {x : Operand} {xt : TypeId} {v : V} {y : List (Str × V)} (ho : o.op = .typeAssert x xt 45 false) (hx : ev env x = some (ofV v)) (hy : v.theDict = some y) : Op1 Try.prog o env H n (.sl none 43 2 (y.map ofFld)) H := by
 cases v <;> simp only [V.theDict] at hy <;> first | (cases hy; done) | skip
 all_goals (cases hy; simp only [ofV, z2g, z2d] at hx; exact z7x Try.underlying45 rfl ho hx)
abbrev V.isRec : V → Bool
 | .record _ _ _ => true
 | .nothing => true
 | _ => false
abbrev V.asRec : V → Option Rec
 | .record c v l => some ⟨c, v, l⟩
 | _ => none
abbrev V.theRec : V → Option (Option Rec)
 | .record c v l => some (some ⟨c, v, l⟩)
 | .nothing => some none
 | _ => none
theorem z75 {x : Operand} {xt : TypeId} {v : V} (ho : o.op = .typeAssert x xt 70 true) (hx : ev env x = some (ofV v)) : Op1 Try.prog o env H n (.tup [ofRecP v.asRec, .v (.bool v.isRec)]) H := by
 cases v <;> simp only [ofV, z2g, z2d] at hx
 all_goals first
  | exact (z7u Try.underlying70 rfl zq8 ho hx)
  | exact (z7v Try.underlying70 rfl zq8 ho hx)
  | exact (z3b Try.underlying70 rfl zq8 ho hx rfl)
  | exact (z3b Try.underlying70 rfl zq8 ho hx (z4w _ (by decide)))
theorem zwi {x : Operand} {xt : TypeId} {v : V} {y : Option Rec} (ho : o.op = .typeAssert x xt 70 false) (hx : ev env x = some (ofV v)) (hy : v.theRec = some y) : Op1 Try.prog o env H n (ofRecP y) H := by
 cases v <;> simp only [V.theRec] at hy <;> first | (cases hy; done) | skip
 all_goals (cases hy; simp only [ofV, z2g, z2d] at hx; exact z7x Try.underlying70 rfl ho hx)
end
inductive Term where
 | mk (kind : Int) (bool : Bool) (int : Int) (float : Nat) (text : Str) (bytes : Str) (ref : Int) (list : List Term) (fields : List (Str × Term)) (cls : Str) (ver : Int)
namespace Term
def kind : Term → Int | .mk a _ _ _ _ _ _ _ _ _ _ => a
def bool : Term → Bool | .mk _ a _ _ _ _ _ _ _ _ _ => a
def int : Term → Int | .mk _ _ a _ _ _ _ _ _ _ _ => a
def float : Term → Nat | .mk _ _ _ a _ _ _ _ _ _ _ => a
def text : Term → Str | .mk _ _ _ _ a _ _ _ _ _ _ => a
def bytes : Term → Str | .mk _ _ _ _ _ a _ _ _ _ _ => a
def ref : Term → Int | .mk _ _ _ _ _ _ a _ _ _ _ => a
def list : Term → List Term | .mk _ _ _ _ _ _ _ a _ _ _ => a
def fields : Term → List (Str × Term) | .mk _ _ _ _ _ _ _ _ a _ _ => a
def cls : Term → Str | .mk _ _ _ _ _ _ _ _ _ a _ => a
def ver : Term → Int | .mk _ _ _ _ _ _ _ _ _ _ a => a
end Term
mutual
def z0r : Term → PV
 | .mk k b i f t y r l d c v => .agg [.v (.int .i64 k), .v (.bool b), .v (.int .i64 i), .v (.float .f64 f), ofStr t, .sl none 5 1 (y.map ofB), .v (.int .u64 r), .sl none 29 11 (z57 l), .sl none 101 12 (z3h d), ofStr c, .v (.int .i64 v)]
def z57 : List Term → List PV
 | [] => []
 | x :: r => z0r x :: z57 r
def z3h : List (Str × Term) → List PV
 | [] => []
 | (s, x) :: r => .agg (ofStr s :: (z0r x).cells) :: z3h r
end
def z0f (p : Str × Term) : PV := .agg (ofStr p.1 :: (z0r p.2).cells)
def z0v (t : Term) : PV := .agg [.v (.int .i64 t.kind), .v (.bool t.bool), .v (.int .i64 t.int), .v (.float .f64 t.float), ofStr t.text, .sl none 5 1 (t.bytes.map ofB), .v (.int .u64 t.ref), .sl none 29 11 (t.list.map z0r), .sl none 101 12 (t.fields.map z0f), ofStr t.cls, .v (.int .i64 t.ver)]
def zdz (p : Str × Term) : PV := .agg (ofStr p.1 :: (z0v p.2).cells)
theorem zfp : ∀ l, z57 l = l.map z0r
 | [] => by rw [z57]; rfl
 | x :: r => by rw [z57, zfp r]; rfl
theorem z7z : ∀ l, z3h l = l.map z0f
 | [] => by rw [z3h]; rfl
 | (s, x) :: r => by rw [z3h, z7z r]; rfl
theorem z26 (t : Term) : z0r t = z0v t := by cases t; simp only [z0r, zfp, z7z]; rfl
theorem z1r (p : Str × Term) : z0f p = zdz p := by simp only [z0f, zdz, z26]
mutual
theorem z1p : ∀ (t : Term), (z0r t).ids = []
 | .mk k b i f t y r l d c v => by
  simp only [z0r, PV.ids, PV.ids.idsL]
  rw [z3p Z8s, zma l, za1 d]; rfl
theorem zma : ∀ (l : List Term), PV.ids.idsL (z57 l) = []
 | [] => by rw [z57]; rfl
 | x :: r => by rw [z57]; simp only [PV.ids.idsL]; rw [z1p x, zma r]; rfl
theorem za1 : ∀ (l : List (Str × Term)), PV.ids.idsL (z3h l) = []
 | [] => by rw [z3h]; rfl
 | (s, x) :: r => by
  have h : (z0r x).ids = PV.ids.idsL (z0r x).cells := by cases x; simp only [z0r]; rfl
  rw [z3h]; simp only [PV.ids.idsL, PV.ids]; rw [← h, z1p x, za1 r]; rfl
end
theorem z10 (t : Term) : (z0v t).ids = [] := by rw [← z26]; exact z1p t
theorem z19 (p : Str × Term) : (z0f p).ids = [] := by
 have h := za1 [p]
 rw [z7z] at h
 simp only [List.map_cons, List.map_nil, PV.ids.idsL, List.append_nil] at h
 exact h
theorem zjm (t : Term) : (z0r t).cells.length = 11 := by rw [z26]; rfl
theorem zmj (t : Str × Term) : (z0f t).cells.length = 12 := by rw [z1r]; rfl
theorem zd4 (t : Term) : (z0r t).cells.all z9g = true := by rw [z26]; rfl
theorem zg5 (t : Str × Term) : (z0f t).cells.all z9g = true := by rw [z1r]; rfl
inductive Typ where
 | mk (kind : Int) (of : Int) (only : Term) (parts : List Typ) (names : List Str) (lacks : List Bool) (opn : Bool) (cls : Str)
namespace Typ
def kind : Typ → Int | .mk a _ _ _ _ _ _ _ => a
def of : Typ → Int | .mk _ a _ _ _ _ _ _ => a
def only : Typ → Term | .mk _ _ a _ _ _ _ _ => a
def parts : Typ → List Typ | .mk _ _ _ a _ _ _ _ => a
def names : Typ → List Str | .mk _ _ _ _ a _ _ _ => a
def lacks : Typ → List Bool | .mk _ _ _ _ _ a _ _ => a
def opn : Typ → Bool | .mk _ _ _ _ _ _ a _ => a
def cls : Typ → Str | .mk _ _ _ _ _ _ _ a => a
end Typ
mutual
def ofTyp : Typ → PV
 | .mk k o y p n l q c => .agg [.v (.int .i64 k), .v (.int .i64 o), .v (.int .i64 y.kind), .v (.bool y.bool), .v (.int .i64 y.int), .v (.float .f64 y.float), ofStr y.text, .sl none 5 1 (y.bytes.map ofB), .v (.int .u64 y.ref), .sl none 29 11 (y.list.map z0r), .sl none 101 12 (y.fields.map z0f), ofStr y.cls, .v (.int .i64 y.ver), .sl none 34 18 (z8a p), .sl none 9 1 (n.map ofStr), .sl none 4 1 (l.map z17), .v (.bool q), ofStr c]
def z8a : List Typ → List PV
 | [] => []
 | x :: r => ofTyp x :: z8a r
end
def z02 (t : Typ) : PV := .agg [.v (.int .i64 t.kind), .v (.int .i64 t.of), .v (.int .i64 t.only.kind), .v (.bool t.only.bool), .v (.int .i64 t.only.int), .v (.float .f64 t.only.float), ofStr t.only.text, .sl none 5 1 (t.only.bytes.map ofB), .v (.int .u64 t.only.ref), .sl none 29 11 (t.only.list.map z0r), .sl none 101 12 (t.only.fields.map z0f), ofStr t.only.cls, .v (.int .i64 t.only.ver), .sl none 34 18 (t.parts.map ofTyp), .sl none 9 1 (t.names.map ofStr), .sl none 4 1 (t.lacks.map z17), .v (.bool t.opn), ofStr t.cls]
theorem zcy : ∀ l, z8a l = l.map ofTyp
 | [] => by rw [z8a]; rfl
 | x :: r => by rw [z8a, zcy r]; rfl
theorem z1c (t : Typ) : ofTyp t = z02 t := by cases t; simp only [ofTyp, zcy]; rfl
theorem zzy (y : Term) (r : List PV) : PV.ids.idsL (.v (.int .i64 y.kind) :: .v (.bool y.bool) :: .v (.int .i64 y.int) :: .v (.float .f64 y.float) :: ofStr y.text :: .sl none 5 1 (y.bytes.map ofB) :: .v (.int .u64 y.ref) :: .sl none 29 11 (y.list.map z0r) :: .sl none 101 12 (y.fields.map z0f) :: ofStr y.cls :: .v (.int .i64 y.ver) :: r) = PV.ids.idsL r := by
 have h := z10 y
 simp only [z0v, PV.ids, PV.ids.idsL] at h ⊢
 simp only [List.nil_append, List.append_nil, List.append_eq_nil_iff] at h ⊢
 simp only [h, List.nil_append]
mutual
theorem z1m : ∀ (t : Typ), (ofTyp t).ids = []
 | .mk k o y p n l q c => by
  rw [ofTyp]
  have h : PV.ids.idsL (.v (.int .i64 y.kind) :: .v (.bool y.bool) :: .v (.int .i64 y.int) :: .v (.float .f64 y.float) :: ofStr y.text :: .sl none 5 1 (y.bytes.map ofB) :: .v (.int .u64 y.ref) :: .sl none 29 11 (y.list.map z0r) :: .sl none 101 12 (y.fields.map z0f) :: ofStr y.cls :: .v (.int .i64 y.ver) :: [.sl none 34 18 (z8a p), .sl none 9 1 (n.map ofStr), .sl none 4 1 (l.map z17), .v (.bool q), ofStr c]) = [] := by
   rw [zzy]
   simp only [PV.ids, PV.ids.idsL]
   rw [zqc p, z3p zxc, z3p (fun _ => rfl)]; rfl
  exact h
theorem zqc : ∀ (l : List Typ), PV.ids.idsL (z8a l) = []
 | [] => by rw [z8a]; rfl
 | x :: r => by rw [z8a]; simp only [PV.ids.idsL]; rw [z1m x, zqc r]; rfl
end
theorem z0b (t : Typ) : (z02 t).ids = [] := by rw [← z1c]; exact z1m t
theorem zg4 (t : Typ) : (ofTyp t).cells.length = 18 := by rw [z1c]; rfl
theorem z8x (t : Typ) : (ofTyp t).cells.all z9g = true := by rw [z1c]; rfl
end Go.Proofs.Ytiapdjdhaclmnaa
