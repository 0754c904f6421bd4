/- Values, records and terms: as trees of Lean's, and as trees of the program's. -/
import Derived.Test.YtkmhecgagibgjaaV0
import Derived.Test.YtkmhecgagibgjaaAwT
namespace Go.Proofs.Ytkmhecgagibgjaa
open Go Aw
set_option linter.unusedVariables false
set_option linter.unusedSimpArgs false
set_option maxRecDepth 8000
def alienT (t : Nat) : Bool := !([4, 2, 22, 9, 23, 25, 47, 49, 50].contains t)
inductive V where
  | nil
  | bool (b : Bool)
  | int (i : Int)
  | float (f : Nat)
  | text (s : Str)
  | bytes (b : Str)
  | ref (r : Int)
  | list (l : List V)
  | dict (l : List (Str × V))
  | record (c : Str) (v : Int) (l : List (Str × V))
  | nothing
  | alien (t : {t : Nat // alienT t = true})
instance : Inhabited V := ⟨.nil⟩
structure Rec where
  cls : Str
  ver : Int
  fields : List (Str × V)
mutual
def ofV : V → PV
  | .nil => .v .nilIface
  | .bool b => .iface 4 (.v (.bool b))
  | .int i => .iface 2 (.v (.int .i64 i))
  | .float f => .iface 22 (.v (.float .f64 f))
  | .text s => .iface 9 (ofStr s)
  | .bytes b => .iface 23 (.sl none 5 1 (b.map ofB))
  | .ref r => .iface 25 (.v (.int .u64 r))
  | .list l => .iface 47 (.sl none 20 1 (ofVs l))
  | .dict l => .iface 49 (.sl none 55 2 (ofFs l))
  | .record c v l => .iface 50 (.pt 60 (.agg [ofStr c, .v (.int .i64 v), .sl none 55 2 (ofFs l)]) 0)
  | .nothing => .iface 50 (.v (.pointer none))
  | .alien t => .iface t.1 .junk
def ofVs : List V → List PV
  | [] => []
  | x :: r => ofV x :: ofVs r
def ofFs : List (Str × V) → List PV
  | [] => []
  | (s, x) :: r => .agg [ofStr s, ofV x] :: ofFs r
end
def ofFld (p : Str × V) : PV := .agg [ofStr p.1, ofV p.2]
theorem ofVs_map : ∀ l, ofVs l = l.map ofV
  | [] => by rw [ofVs]; rfl
  | x :: r => by rw [ofVs, ofVs_map r]; rfl
theorem ofFs_map : ∀ l, ofFs l = l.map ofFld
  | [] => by rw [ofFs]; rfl
  | (s, x) :: r => by rw [ofFs, ofFs_map r]; rfl
def ofRec (r : Rec) : PV := .agg [ofStr r.cls, .v (.int .i64 r.ver), .sl none 55 2 (r.fields.map ofFld)]
def ofRecP : Option Rec → PV
  | none => .v (.pointer none)
  | some r => .pt 60 (ofRec r) 0
theorem ids_str (s : Str) : (ofStr s).ids = [] := rfl
theorem ids_B (b : UInt8) : (ofB b).ids = [] := rfl
mutual
theorem ids_V : ∀ (x : V), (ofV x).ids = []
  | .nil => by rw [ofV]; rfl
  | .bool b => by rw [ofV]; rfl
  | .int i => by rw [ofV]; rfl
  | .float f => by rw [ofV]; rfl
  | .text s => by rw [ofV]; rfl
  | .bytes b => by rw [ofV]; exact ids_slM (e := 5) (sz := 1) ids_B b
  | .ref r => by rw [ofV]; rfl
  | .list l => by rw [ofV]; simp only [PV.ids]; rw [ids_Vs l]; rfl
  | .dict l => by rw [ofV]; simp only [PV.ids]; rw [ids_Fs l]; rfl
  | .record c v l => by rw [ofV]; simp only [PV.ids, PV.ids.idsL]; rw [ids_Fs l]; rfl
  | .nothing => by rw [ofV]; rfl
  | .alien t => by rw [ofV]; rfl
theorem ids_Vs : ∀ (l : List V), PV.ids.idsL (ofVs l) = []
  | [] => by rw [ofVs]; rfl
  | x :: r => by rw [ofVs]; simp only [PV.ids.idsL]; rw [ids_V x, ids_Vs r]; rfl
theorem ids_Fs : ∀ (l : List (Str × V)), PV.ids.idsL (ofFs l) = []
  | [] => by rw [ofFs]; rfl
  | (s, x) :: r => by rw [ofFs]; simp only [PV.ids.idsL, PV.ids]; rw [ids_V x, ids_Fs r]; rfl
end
theorem ids_Fld (p : Str × V) : (ofFld p).ids = [] := by simp only [ofFld, PV.ids, PV.ids.idsL]; rw [ids_V, ids_str]; rfl
theorem ids_Rec (r : Rec) : (ofRec r).ids = [] := by simp only [ofRec]; exact ids_agg_cons rfl (ids_agg_cons rfl (ids_agg_cons (ids_slM ids_Fld _) rfl))
theorem ids_RecP (p : Option Rec) : (ofRecP p).ids = [] := by
  cases p with
  | none => rfl
  | some r => exact ids_Rec r
theorem cells_V (x : V) : (ofV x).cells = [ofV x] := by cases x <;> simp only [ofV] <;> rfl
theorem one_V (x : V) : one1 (ofV x) = true := by cases x <;> simp only [ofV] <;> rfl
theorem cok_V (x : V) : cok (ofV x) = true := by cases x <;> simp only [ofV] <;> rfl
theorem csz_V (x : V) : (ofV x).cells.length = 1 := by rw [cells_V]; rfl
theorem call1_V (x : V) : (ofV x).cells.all one1 = true := by rw [cells_V]; simp [one_V]
theorem call1_Fld (p : Str × V) : (ofFld p).cells.all one1 = true := by
  show ([ofStr p.1, ofV p.2].all one1) = true
  simp only [List.all_cons, List.all_nil, one_V, Bool.and_true]; rfl
theorem csz_Fld (p : Str × V) : (ofFld p).cells.length = 2 := rfl
theorem cells_RecP (p : Option Rec) : (ofRecP p).cells = [ofRecP p] := by cases p <;> rfl
theorem one_RecP (p : Option Rec) : one1 (ofRecP p) = true := by cases p <;> rfl
theorem cok_RecP (p : Option Rec) : cok (ofRecP p) = true := by cases p <;> rfl
theorem csz_RecP (p : Option Rec) : (ofRecP p).cells.length = 1 := by rw [cells_RecP]; rfl
def V.ofRecP : Option Rec → V
  | none => .nothing
  | some r => .record r.cls r.ver r.fields
theorem mk_list (l : List V) : ofV (.list l) = .iface 47 (.sl none 20 1 (l.map ofV)) := by rw [ofV, ofVs_map]
theorem mk_dict (l : List (Str × V)) : ofV (.dict l) = .iface 49 (.sl none 55 2 (l.map ofFld)) := by rw [ofV, ofFs_map]
theorem mk_bytes (l : Str) : ofV (.bytes l) = .iface 23 (.sl none 5 1 (l.map ofB)) := by rw [ofV]
theorem mk_bool (x : Bool) : ofV (.bool x) = .iface 4 (.v (.bool x)) := by rw [ofV]
theorem mk_int (x : Int) : ofV (.int x) = .iface 2 (.v (.int .i64 x)) := by rw [ofV]
theorem mk_float (x : Nat) : ofV (.float x) = .iface 22 (.v (.float .f64 x)) := by rw [ofV]
theorem mk_text (x : Str) : ofV (.text x) = .iface 9 (ofStr x) := by rw [ofV]
theorem mk_ref (x : Int) : ofV (.ref x) = .iface 25 (.v (.int .u64 x)) := by rw [ofV]
theorem mk_rec (p : Option Rec) : ofV (.ofRecP p) = .iface 50 (ofRecP p) := by
  cases p with
  | none => rw [V.ofRecP, ofV]; rfl
  | some r => rw [V.ofRecP, ofV, ofFs_map]; rfl
theorem mk_nil : ofV .nil = .v .nilIface := by rw [ofV]
theorem mk_alien (t : {t : Nat // alienT t = true}) : ofV (.alien t) = .iface t.1 .junk := by rw [ofV]
theorem alien_ne (t : {t : Nat // alienT t = true}) {k : Nat} (hk : alienT k = false) : Nat.beq t.1 k = false := by
  cases h : Nat.beq t.1 k with
  | false => rfl
  | true => have := Nat.eq_of_beq_eq_true h; have h2 := t.2; rw [this, hk] at h2; cases h2
section
variable {H : List AEnt} {env : List (Nat × PV)} {n : Nat} {o : Oper}
abbrev V.isNil : V → Bool
  | .nil => true
  | _ => false
theorem op1_vEqNil {x : Operand} {t t2 : TypeId} {ms : Array (String × TypeId)} {v : V} (ht : Try.prog.underlying t = some (.interface ms)) (ho : o.op = .binOp .eql t x (.const .nilIface) t2) (hx : ev env x = some (ofV v)) : Op1 Try.prog o env H n (.v (.bool v.isNil)) H := by
  cases v <;> rw [ofV] at hx <;> first | exact op1_eqN0 ht ho hx | exact op1_eqN1 ht ho hx
theorem op1_pEqNil {x : Operand} {t t2 e : TypeId} {p : Option Rec} (ht : Try.prog.underlying t = some (.pointer e)) (ho : o.op = .binOp .eql t x (.const (.pointer none)) t2) (hx : ev env x = some (ofRecP p)) : Op1 Try.prog o env H n (.v (.bool p.isNone)) H := by
  cases p with
  | none => exact op1_eqP0 ht ho hx
  | some r => exact op1_eqP1 ht ho hx rfl
theorem op1_pNil {x : Operand} {p : Option Rec} {r : Rec} (ho : o.op = .nilCheck x) (hx : ev env x = some (ofRecP p)) (hr : p = some r) : Op1 Try.prog o env H n (.pt 60 (ofRec r) 0) H := by
  subst hr; exact op1_nilP ho hx
abbrev V.isBool : V → Bool
  | .bool _ => true
  | _ => false
abbrev V.asBool : V → Bool
  | .bool x => x
  | _ => false
abbrev V.theBool : V → Option (Bool)
  | .bool x => some x
  | _ => none
theorem op1_taBool {x : Operand} {xt : TypeId} {v : V} (ho : o.op = .typeAssert x xt 4 true) (hx : ev env x = some (ofV v)) : Op1 Try.prog o env H n (.tup [(.v (.bool v.asBool)), .v (.bool v.isBool)]) H := by
  cases v <;> simp only [ofV, ofVs_map, ofFs_map] at hx
  all_goals first
    | exact (op1_taT Try.underlying4 rfl inf_4 ho hx)
    | exact (op1_taN Try.underlying4 rfl inf_4 ho hx).wk (.tup (.cons (.refl _) (.cons (.refl _) .nil)))
    | exact (op1_taF Try.underlying4 rfl inf_4 ho hx rfl).wk (.tup (.cons (.refl _) (.cons (.refl _) .nil)))
    | exact (op1_taF Try.underlying4 rfl inf_4 ho hx (alien_ne _ (by decide))).wk (.tup (.cons (.refl _) (.cons (.refl _) .nil)))
theorem op1_txBool {x : Operand} {xt : TypeId} {v : V} {y : Bool} (ho : o.op = .typeAssert x xt 4 false) (hx : ev env x = some (ofV v)) (hy : v.theBool = some y) : Op1 Try.prog o env H n (.v (.bool y)) H := by
  cases v <;> simp only [V.theBool] at hy <;> first | (cases hy; done) | skip
  all_goals (cases hy; simp only [ofV, ofVs_map, ofFs_map] at hx; exact op1_taA Try.underlying4 rfl ho hx)
abbrev V.isInt : V → Bool
  | .int _ => true
  | _ => false
abbrev V.asInt : V → Int
  | .int x => x
  | _ => 0
abbrev V.theInt : V → Option (Int)
  | .int x => some x
  | _ => none
theorem op1_taInt {x : Operand} {xt : TypeId} {v : V} (ho : o.op = .typeAssert x xt 2 true) (hx : ev env x = some (ofV v)) : Op1 Try.prog o env H n (.tup [(.v (.int .i64 v.asInt)), .v (.bool v.isInt)]) H := by
  cases v <;> simp only [ofV, ofVs_map, ofFs_map] at hx
  all_goals first
    | exact (op1_taT Try.underlying2 rfl inf_2 ho hx)
    | exact (op1_taN Try.underlying2 rfl inf_2 ho hx).wk (.tup (.cons (.refl _) (.cons (.refl _) .nil)))
    | exact (op1_taF Try.underlying2 rfl inf_2 ho hx rfl).wk (.tup (.cons (.refl _) (.cons (.refl _) .nil)))
    | exact (op1_taF Try.underlying2 rfl inf_2 ho hx (alien_ne _ (by decide))).wk (.tup (.cons (.refl _) (.cons (.refl _) .nil)))
theorem op1_txInt {x : Operand} {xt : TypeId} {v : V} {y : Int} (ho : o.op = .typeAssert x xt 2 false) (hx : ev env x = some (ofV v)) (hy : v.theInt = some y) : Op1 Try.prog o env H n (.v (.int .i64 y)) H := by
  cases v <;> simp only [V.theInt] at hy <;> first | (cases hy; done) | skip
  all_goals (cases hy; simp only [ofV, ofVs_map, ofFs_map] at hx; exact op1_taA Try.underlying2 rfl ho hx)
abbrev V.isFloat : V → Bool
  | .float _ => true
  | _ => false
abbrev V.asFloat : V → Nat
  | .float x => x
  | _ => 0
abbrev V.theFloat : V → Option (Nat)
  | .float x => some x
  | _ => none
theorem op1_taFloat {x : Operand} {xt : TypeId} {v : V} (ho : o.op = .typeAssert x xt 22 true) (hx : ev env x = some (ofV v)) : Op1 Try.prog o env H n (.tup [(.v (.float .f64 v.asFloat)), .v (.bool v.isFloat)]) H := by
  cases v <;> simp only [ofV, ofVs_map, ofFs_map] at hx
  all_goals first
    | exact (op1_taT Try.underlying22 rfl inf_22 ho hx)
    | exact (op1_taN Try.underlying22 rfl inf_22 ho hx).wk (.tup (.cons (.refl _) (.cons (.refl _) .nil)))
    | exact (op1_taF Try.underlying22 rfl inf_22 ho hx rfl).wk (.tup (.cons (.refl _) (.cons (.refl _) .nil)))
    | exact (op1_taF Try.underlying22 rfl inf_22 ho hx (alien_ne _ (by decide))).wk (.tup (.cons (.refl _) (.cons (.refl _) .nil)))
theorem op1_txFloat {x : Operand} {xt : TypeId} {v : V} {y : Nat} (ho : o.op = .typeAssert x xt 22 false) (hx : ev env x = some (ofV v)) (hy : v.theFloat = some y) : Op1 Try.prog o env H n (.v (.float .f64 y)) H := by
  cases v <;> simp only [V.theFloat] at hy <;> first | (cases hy; done) | skip
  all_goals (cases hy; simp only [ofV, ofVs_map, ofFs_map] at hx; exact op1_taA Try.underlying22 rfl ho hx)
abbrev V.isText : V → Bool
  | .text _ => true
  | _ => false
abbrev V.asText : V → Str
  | .text x => x
  | _ => []
abbrev V.theText : V → Option (Str)
  | .text x => some x
  | _ => none
theorem op1_taText {x : Operand} {xt : TypeId} {v : V} (ho : o.op = .typeAssert x xt 9 true) (hx : ev env x = some (ofV v)) : Op1 Try.prog o env H n (.tup [(ofStr v.asText), .v (.bool v.isText)]) H := by
  cases v <;> simp only [ofV, ofVs_map, ofFs_map] at hx
  all_goals first
    | exact (op1_taT Try.underlying9 rfl inf_9 ho hx)
    | exact (op1_taN Try.underlying9 rfl inf_9 ho hx).wk (.tup (.cons (.refl _) (.cons (.refl _) .nil)))
    | exact (op1_taF Try.underlying9 rfl inf_9 ho hx rfl).wk (.tup (.cons (.refl _) (.cons (.refl _) .nil)))
    | exact (op1_taF Try.underlying9 rfl inf_9 ho hx (alien_ne _ (by decide))).wk (.tup (.cons (.refl _) (.cons (.refl _) .nil)))
theorem op1_txText {x : Operand} {xt : TypeId} {v : V} {y : Str} (ho : o.op = .typeAssert x xt 9 false) (hx : ev env x = some (ofV v)) (hy : v.theText = some y) : Op1 Try.prog o env H n (ofStr y) H := by
  cases v <;> simp only [V.theText] at hy <;> first | (cases hy; done) | skip
  all_goals (cases hy; simp only [ofV, ofVs_map, ofFs_map] at hx; exact op1_taA Try.underlying9 rfl ho hx)
abbrev V.isBytes : V → Bool
  | .bytes _ => true
  | _ => false
abbrev V.asBytes : V → Str
  | .bytes x => x
  | _ => []
abbrev V.theBytes : V → Option (Str)
  | .bytes x => some x
  | _ => none
theorem op1_taBytes {x : Operand} {xt : TypeId} {v : V} (ho : o.op = .typeAssert x xt 23 true) (hx : ev env x = some (ofV v)) : Op1 Try.prog o env H n (.tup [(.sl none 5 1 (v.asBytes.map ofB)), .v (.bool v.isBytes)]) H := by
  cases v <;> simp only [ofV, ofVs_map, ofFs_map] at hx
  all_goals first
    | exact (op1_taT Try.underlying23 rfl inf_23 ho hx)
    | exact (op1_taN Try.underlying23 rfl inf_23 ho hx).wk (.tup (.cons Wk.nil (.cons (.refl _) .nil)))
    | exact (op1_taF Try.underlying23 rfl inf_23 ho hx rfl).wk (.tup (.cons Wk.nil (.cons (.refl _) .nil)))
    | exact (op1_taF Try.underlying23 rfl inf_23 ho hx (alien_ne _ (by decide))).wk (.tup (.cons Wk.nil (.cons (.refl _) .nil)))
theorem op1_txBytes {x : Operand} {xt : TypeId} {v : V} {y : Str} (ho : o.op = .typeAssert x xt 23 false) (hx : ev env x = some (ofV v)) (hy : v.theBytes = some y) : Op1 Try.prog o env H n (.sl none 5 1 (y.map ofB)) H := by
  cases v <;> simp only [V.theBytes] at hy <;> first | (cases hy; done) | skip
  all_goals (cases hy; simp only [ofV, ofVs_map, ofFs_map] at hx; exact op1_taA Try.underlying23 rfl ho hx)
abbrev V.isRef : V → Bool
  | .ref _ => true
  | _ => false
abbrev V.asRef : V → Int
  | .ref x => x
  | _ => 0
abbrev V.theRef : V → Option (Int)
  | .ref x => some x
  | _ => none
theorem op1_taRef {x : Operand} {xt : TypeId} {v : V} (ho : o.op = .typeAssert x xt 25 true) (hx : ev env x = some (ofV v)) : Op1 Try.prog o env H n (.tup [(.v (.int .u64 v.asRef)), .v (.bool v.isRef)]) H := by
  cases v <;> simp only [ofV, ofVs_map, ofFs_map] at hx
  all_goals first
    | exact (op1_taT Try.underlying25 rfl inf_25 ho hx)
    | exact (op1_taN Try.underlying25 rfl inf_25 ho hx).wk (.tup (.cons (.refl _) (.cons (.refl _) .nil)))
    | exact (op1_taF Try.underlying25 rfl inf_25 ho hx rfl).wk (.tup (.cons (.refl _) (.cons (.refl _) .nil)))
    | exact (op1_taF Try.underlying25 rfl inf_25 ho hx (alien_ne _ (by decide))).wk (.tup (.cons (.refl _) (.cons (.refl _) .nil)))
theorem op1_txRef {x : Operand} {xt : TypeId} {v : V} {y : Int} (ho : o.op = .typeAssert x xt 25 false) (hx : ev env x = some (ofV v)) (hy : v.theRef = some y) : Op1 Try.prog o env H n (.v (.int .u64 y)) H := by
  cases v <;> simp only [V.theRef] at hy <;> first | (cases hy; done) | skip
  all_goals (cases hy; simp only [ofV, ofVs_map, ofFs_map] at hx; exact op1_taA Try.underlying25 rfl ho hx)
abbrev V.isList : V → Bool
  | .list _ => true
  | _ => false
abbrev V.asList : V → List V
  | .list x => x
  | _ => []
abbrev V.theList : V → Option (List V)
  | .list x => some x
  | _ => none
theorem op1_taList {x : Operand} {xt : TypeId} {v : V} (ho : o.op = .typeAssert x xt 47 true) (hx : ev env x = some (ofV v)) : Op1 Try.prog o env H n (.tup [(.sl none 20 1 (v.asList.map ofV)), .v (.bool v.isList)]) H := by
  cases v <;> simp only [ofV, ofVs_map, ofFs_map] at hx
  all_goals first
    | exact (op1_taT Try.underlying47 rfl inf_47 ho hx)
    | exact (op1_taN Try.underlying47 rfl inf_47 ho hx).wk (.tup (.cons Wk.nil (.cons (.refl _) .nil)))
    | exact (op1_taF Try.underlying47 rfl inf_47 ho hx rfl).wk (.tup (.cons Wk.nil (.cons (.refl _) .nil)))
    | exact (op1_taF Try.underlying47 rfl inf_47 ho hx (alien_ne _ (by decide))).wk (.tup (.cons Wk.nil (.cons (.refl _) .nil)))
theorem op1_txList {x : Operand} {xt : TypeId} {v : V} {y : List V} (ho : o.op = .typeAssert x xt 47 false) (hx : ev env x = some (ofV v)) (hy : v.theList = some y) : Op1 Try.prog o env H n (.sl none 20 1 (y.map ofV)) H := by
  cases v <;> simp only [V.theList] at hy <;> first | (cases hy; done) | skip
  all_goals (cases hy; simp only [ofV, ofVs_map, ofFs_map] at hx; exact op1_taA Try.underlying47 rfl ho hx)
abbrev V.isDict : V → Bool
  | .dict _ => true
  | _ => false
abbrev V.asDict : V → List (Str × V)
  | .dict x => x
  | _ => []
abbrev V.theDict : V → Option (List (Str × V))
  | .dict x => some x
  | _ => none
theorem op1_taDict {x : Operand} {xt : TypeId} {v : V} (ho : o.op = .typeAssert x xt 49 true) (hx : ev env x = some (ofV v)) : Op1 Try.prog o env H n (.tup [(.sl none 55 2 (v.asDict.map ofFld)), .v (.bool v.isDict)]) H := by
  cases v <;> simp only [ofV, ofVs_map, ofFs_map] at hx
  all_goals first
    | exact (op1_taT Try.underlying49 rfl inf_49 ho hx)
    | exact (op1_taN Try.underlying49 rfl inf_49 ho hx).wk (.tup (.cons Wk.nil (.cons (.refl _) .nil)))
    | exact (op1_taF Try.underlying49 rfl inf_49 ho hx rfl).wk (.tup (.cons Wk.nil (.cons (.refl _) .nil)))
    | exact (op1_taF Try.underlying49 rfl inf_49 ho hx (alien_ne _ (by decide))).wk (.tup (.cons Wk.nil (.cons (.refl _) .nil)))
theorem op1_txDict {x : Operand} {xt : TypeId} {v : V} {y : List (Str × V)} (ho : o.op = .typeAssert x xt 49 false) (hx : ev env x = some (ofV v)) (hy : v.theDict = some y) : Op1 Try.prog o env H n (.sl none 55 2 (y.map ofFld)) H := by
  cases v <;> simp only [V.theDict] at hy <;> first | (cases hy; done) | skip
  all_goals (cases hy; simp only [ofV, ofVs_map, ofFs_map] at hx; exact op1_taA Try.underlying49 rfl ho hx)
abbrev V.isRec : V → Bool
  | .record _ _ _ => true
  | .nothing => true
  | _ => false
abbrev V.asRec : V → Option Rec
  | .record c v l => some ⟨c, v, l⟩
  | _ => none
abbrev V.theRec : V → Option (Option Rec)
  | .record c v l => some (some ⟨c, v, l⟩)
  | .nothing => some none
  | _ => none
theorem op1_taRec {x : Operand} {xt : TypeId} {v : V} (ho : o.op = .typeAssert x xt 50 true) (hx : ev env x = some (ofV v)) : Op1 Try.prog o env H n (.tup [ofRecP v.asRec, .v (.bool v.isRec)]) H := by
  cases v <;> simp only [ofV, ofVs_map, ofFs_map] at hx
  all_goals first
    | exact (op1_taT Try.underlying50 rfl inf_50 ho hx)
    | exact (op1_taN Try.underlying50 rfl inf_50 ho hx)
    | exact (op1_taF Try.underlying50 rfl inf_50 ho hx rfl)
    | exact (op1_taF Try.underlying50 rfl inf_50 ho hx (alien_ne _ (by decide)))
theorem op1_txRec {x : Operand} {xt : TypeId} {v : V} {y : Option Rec} (ho : o.op = .typeAssert x xt 50 false) (hx : ev env x = some (ofV v)) (hy : v.theRec = some y) : Op1 Try.prog o env H n (ofRecP y) H := by
  cases v <;> simp only [V.theRec] at hy <;> first | (cases hy; done) | skip
  all_goals (cases hy; simp only [ofV, ofVs_map, ofFs_map] at hx; exact op1_taA Try.underlying50 rfl ho hx)
end
inductive Term where
  | mk (kind : Int) (bool : Bool) (int : Int) (float : Nat) (text : Str) (bytes : Str) (ref : Int) (list : List Term) (fields : List (Str × Term)) (cls : Str) (ver : Int)
namespace Term
def kind : Term → Int | .mk a _ _ _ _ _ _ _ _ _ _ => a
def bool : Term → Bool | .mk _ a _ _ _ _ _ _ _ _ _ => a
def int : Term → Int | .mk _ _ a _ _ _ _ _ _ _ _ => a
def float : Term → Nat | .mk _ _ _ a _ _ _ _ _ _ _ => a
def text : Term → Str | .mk _ _ _ _ a _ _ _ _ _ _ => a
def bytes : Term → Str | .mk _ _ _ _ _ a _ _ _ _ _ => a
def ref : Term → Int | .mk _ _ _ _ _ _ a _ _ _ _ => a
def list : Term → List Term | .mk _ _ _ _ _ _ _ a _ _ _ => a
def fields : Term → List (Str × Term) | .mk _ _ _ _ _ _ _ _ a _ _ => a
def cls : Term → Str | .mk _ _ _ _ _ _ _ _ _ a _ => a
def ver : Term → Int | .mk _ _ _ _ _ _ _ _ _ _ a => a
end Term
mutual
def ofTerm : Term → PV
  | .mk k b i f t y r l d c v => .agg [.v (.int .i64 k), .v (.bool b), .v (.int .i64 i), .v (.float .f64 f), ofStr t, .sl none 5 1 (y.map ofB), .v (.int .u64 r), .sl none 29 11 (ofTerms l), .sl none 71 12 (ofEntries d), ofStr c, .v (.int .i64 v)]
def ofTerms : List Term → List PV
  | [] => []
  | x :: r => ofTerm x :: ofTerms r
def ofEntries : List (Str × Term) → List PV
  | [] => []
  | (s, x) :: r => .agg (ofStr s :: (ofTerm x).cells) :: ofEntries r
end
def ofEntry (p : Str × Term) : PV := .agg (ofStr p.1 :: (ofTerm p.2).cells)
def ofTermX (t : Term) : PV := .agg [.v (.int .i64 t.kind), .v (.bool t.bool), .v (.int .i64 t.int), .v (.float .f64 t.float), ofStr t.text, .sl none 5 1 (t.bytes.map ofB), .v (.int .u64 t.ref), .sl none 29 11 (t.list.map ofTerm), .sl none 71 12 (t.fields.map ofEntry), ofStr t.cls, .v (.int .i64 t.ver)]
def ofEntryX (p : Str × Term) : PV := .agg (ofStr p.1 :: (ofTermX p.2).cells)
theorem ofTerms_map : ∀ l, ofTerms l = l.map ofTerm
  | [] => by rw [ofTerms]; rfl
  | x :: r => by rw [ofTerms, ofTerms_map r]; rfl
theorem ofEntries_map : ∀ l, ofEntries l = l.map ofEntry
  | [] => by rw [ofEntries]; rfl
  | (s, x) :: r => by rw [ofEntries, ofEntries_map r]; rfl
theorem ofTerm_eq (t : Term) : ofTerm t = ofTermX t := by cases t; simp only [ofTerm, ofTerms_map, ofEntries_map]; rfl
theorem ofEntry_eq (p : Str × Term) : ofEntry p = ofEntryX p := by simp only [ofEntry, ofEntryX, ofTerm_eq]
mutual
theorem ids_Term : ∀ (t : Term), (ofTerm t).ids = []
  | .mk k b i f t y r l d c v => by
    simp only [ofTerm, PV.ids, PV.ids.idsL]
    rw [ids_map ids_B, ids_Terms l, ids_Entries d]; rfl
theorem ids_Terms : ∀ (l : List Term), PV.ids.idsL (ofTerms l) = []
  | [] => by rw [ofTerms]; rfl
  | x :: r => by rw [ofTerms]; simp only [PV.ids.idsL]; rw [ids_Term x, ids_Terms r]; rfl
theorem ids_Entries : ∀ (l : List (Str × Term)), PV.ids.idsL (ofEntries l) = []
  | [] => by rw [ofEntries]; rfl
  | (s, x) :: r => by
    have h : (ofTerm x).ids = PV.ids.idsL (ofTerm x).cells := by cases x; simp only [ofTerm]; rfl
    rw [ofEntries]; simp only [PV.ids.idsL, PV.ids]; rw [← h, ids_Term x, ids_Entries r]; rfl
end
theorem ids_TermX (t : Term) : (ofTermX t).ids = [] := by rw [← ofTerm_eq]; exact ids_Term t
theorem ids_Entry (p : Str × Term) : (ofEntry p).ids = [] := by
  have h := ids_Entries [p]
  rw [ofEntries_map] at h
  simp only [List.map_cons, List.map_nil, PV.ids.idsL, List.append_nil] at h
  exact h
end Go.Proofs.Ytkmhecgagibgjaa
