/- Values, records and terms: as trees of Lean's, and as trees of the program's. -/
import Derived.Test.YthidgpcbnieleaaV0
import Derived.Test.YthidgpcbnieleaaAwT
namespace Go.Proofs.Ythidgpcbnieleaa
open Go Aw
set_option linter.unusedVariables false
set_option linter.unusedSimpArgs false
set_option maxRecDepth 8000
def zf9 (t : Nat) : Bool := !([4, 2, 22, 9, 23, 25, 62, 64, 66].contains t)
inductive V where
 | nil
 | bool (b : Bool)
 | int (i : Int)
 | float (f : Nat)
 | text (s : Str)
 | bytes (b : Str)
 | ref (r : Int)
 | list (l : List V)
 | dict (l : List (Str × V))
 | record (c : Str) (v : Int) (l : List (Str × V))
 | nothing
 | alien (t : {t : Nat // zf9 t = true})
instance : Inhabited V := ⟨.nil⟩
structure Rec where
 cls : Str
 ver : Int
 fields : List (Str × V)
mutual
def ofV : V → PV
 | .nil => .v .nilIface
 | .bool b => .iface 4 (.v (.bool b))
 | .int i => .iface 2 (.v (.int .i64 i))
 | .float f => .iface 22 (.v (.float .f64 f))
 | .text s => .iface 9 (z0k s)
 | .bytes b => .iface 23 (.sl none 5 1 (b.map ofB))
 | .ref r => .iface 25 (.v (.int .u64 r))
 | .list l => .iface 62 (.sl none 20 1 (zr8 l))
 | .dict l => .iface 64 (.sl none 96 2 (znr l))
 | .record c v l => .iface 66 (.pt 68 (.agg [z0k c, .v (.int .i64 v), .sl none 96 2 (znr l)]) 0)
 | .nothing => .iface 66 (.v (.pointer none))
 | .alien t => .iface t.1 .junk
def zr8 : List V → List PV
 | [] => []
 | x :: r => ofV x :: zr8 r
def znr : List (Str × V) → List PV
 | [] => []
 | (s, x) :: r => .agg [z0k s, ofV x] :: znr r
end
def ofFld (p : Str × V) : PV := .agg [z0k p.1, ofV p.2]
theorem z3k : ∀ l, zr8 l = l.map ofV
 | [] => by rw [zr8]; rfl
 | x :: r => by rw [zr8, z3k r]; rfl
theorem z38 : ∀ l, znr l = l.map ofFld
 | [] => by rw [znr]; rfl
 | (s, x) :: r => by rw [znr, z38 r]; rfl
def zio (r : Rec) : PV := .agg [z0k r.cls, .v (.int .i64 r.ver), .sl none 96 2 (r.fields.map ofFld)]
def ofRecP : Option Rec → PV
 | none => .v (.pointer none)
 | some r => .pt 68 (zio r) 0
theorem zy1 (s : Str) : (z0k s).ids = [] := rfl
theorem Z15 (b : UInt8) : (ofB b).ids = [] := rfl
mutual
theorem ids_V : ∀ (x : V), (ofV x).ids = []
 | .nil => by rw [ofV]; rfl
 | .bool b => by rw [ofV]; rfl
 | .int i => by rw [ofV]; rfl
 | .float f => by rw [ofV]; rfl
 | .text s => by rw [ofV]; rfl
 | .bytes b => by rw [ofV]; exact z0f (e := 5) (sz := 1) Z15 b
 | .ref r => by rw [ofV]; rfl
 | .list l => by rw [ofV]; simp only [PV.ids]; rw [zw5 l]; rfl
 | .dict l => by rw [ofV]; simp only [PV.ids]; rw [zru l]; rfl
 | .record c v l => by rw [ofV]; simp only [PV.ids, PV.ids.idsL]; rw [zru l]; rfl
 | .nothing => by rw [ofV]; rfl
 | .alien t => by rw [ofV]; rfl
theorem zw5 : ∀ (l : List V), PV.ids.idsL (zr8 l) = []
 | [] => by rw [zr8]; rfl
 | x :: r => by rw [zr8]; simp only [PV.ids.idsL]; rw [ids_V x, zw5 r]; rfl
theorem zru : ∀ (l : List (Str × V)), PV.ids.idsL (znr l) = []
 | [] => by rw [znr]; rfl
 | (s, x) :: r => by rw [znr]; simp only [PV.ids.idsL, PV.ids]; rw [ids_V x, zru r]; rfl
end
theorem z19 (p : Str × V) : (ofFld p).ids = [] := by simp only [ofFld, PV.ids, PV.ids.idsL]; rw [ids_V, zy1]; rfl
theorem zy4 (r : Rec) : (zio r).ids = [] := by simp only [zio]; exact z28 rfl (z28 rfl (z28 (z0f z19 _) rfl))
theorem zuc (p : Option Rec) : (ofRecP p).ids = [] := by
 cases p with
 | none => rfl
 | some r => exact zy4 r
theorem z1x (x : V) : (ofV x).cells = [ofV x] := by cases x <;> simp only [ofV] <;> rfl
theorem zk1 (x : V) : z6w (ofV x) = true := by cases x <;> simp only [ofV] <;> rfl
theorem zbm (x : V) : cok (ofV x) = true := by cases x <;> simp only [ofV] <;> rfl
theorem csz_V (x : V) : (ofV x).cells.length = 1 := by rw [z1x]; rfl
theorem z8t (x : V) : (ofV x).cells.all z6w = true := by rw [z1x]; simp [zk1]
theorem z7l (p : Str × V) : (ofFld p).cells.all z6w = true := by
 show ([z0k p.1, ofV p.2].all z6w) = true
 simp only [List.all_cons, List.all_nil, zk1, Bool.and_true]; rfl
theorem z7i (p : Str × V) : (ofFld p).cells.length = 2 := rfl
theorem z1u (p : Option Rec) : (ofRecP p).cells = [ofRecP p] := by cases p <;> rfl
theorem zbq (p : Option Rec) : z6w (ofRecP p) = true := by cases p <;> rfl
theorem z44 (p : Option Rec) : cok (ofRecP p) = true := by cases p <;> rfl
theorem z6r (p : Option Rec) : (ofRecP p).cells.length = 1 := by rw [z1u]; rfl
def V.ofRecP : Option Rec → V
 | none => .nothing
 | some r => .record r.cls r.ver r.fields
theorem zda (l : List V) : ofV (.list l) = .iface 62 (.sl none 20 1 (l.map ofV)) := by rw [ofV, z3k]
theorem zg2 (l : List (Str × V)) : ofV (.dict l) = .iface 64 (.sl none 96 2 (l.map ofFld)) := by rw [ofV, z38]
theorem zll (l : Str) : ofV (.bytes l) = .iface 23 (.sl none 5 1 (l.map ofB)) := by rw [ofV]
theorem zrc (x : Bool) : ofV (.bool x) = .iface 4 (.v (.bool x)) := by rw [ofV]
theorem Z0z (x : Int) : ofV (.int x) = .iface 2 (.v (.int .i64 x)) := by rw [ofV]
theorem zu9 (x : Nat) : ofV (.float x) = .iface 22 (.v (.float .f64 x)) := by rw [ofV]
theorem zxu (x : Str) : ofV (.text x) = .iface 9 (z0k x) := by rw [ofV]
theorem Z0y (x : Int) : ofV (.ref x) = .iface 25 (.v (.int .u64 x)) := by rw [ofV]
theorem ziq (p : Option Rec) : ofV (.ofRecP p) = .iface 66 (ofRecP p) := by
 cases p with
 | none => rw [V.ofRecP, ofV]; rfl
 | some r => rw [V.ofRecP, ofV, z38]; rfl
theorem mk_nil : ofV .nil = .v .nilIface := by rw [ofV]
theorem z30 (t : {t : Nat // zf9 t = true}) : ofV (.alien t) = .iface t.1 .junk := by rw [ofV]
theorem z45 (t : {t : Nat // zf9 t = true}) {k : Nat} (hk : zf9 k = false) : Nat.beq t.1 k = false := by
 cases h : Nat.beq t.1 k with
 | false => rfl
 | true => have := Nat.eq_of_beq_eq_true h; have h2 := t.2; rw [this, hk] at h2; cases h2
section
variable {H : List AEnt} {env : List (Nat × PV)} {n : Nat} {o : Oper}
abbrev V.isNil : V → Bool
 | .nil => true
 | _ => false
theorem zet {x : Operand} {t t2 : TypeId} {ms : Array (String × TypeId)} {v : V} (ht : Try.prog.underlying t = some (.interface ms)) (ho : o.op = .binOp .eql t x (.const .nilIface) t2) (hx : ev env x = some (ofV v)) : Op1 Try.prog o env H n (.v (.bool v.isNil)) H := by
 cases v <;> rw [ofV] at hx <;> first | exact zu4 ht ho hx | exact zu3 ht ho hx
theorem zaq {x : Operand} {t t2 e : TypeId} {p : Option Rec} (ht : Try.prog.underlying t = some (.pointer e)) (ho : o.op = .binOp .eql t x (.const (.pointer none)) t2) (hx : ev env x = some (ofRecP p)) : Op1 Try.prog o env H n (.v (.bool p.isNone)) H := by
 cases p with
 | none => exact zu2 ht ho hx
 | some r => exact zu1 ht ho hx rfl
theorem z2d {x : Operand} {p : Option Rec} {r : Rec} (ho : o.op = .nilCheck x) (hx : ev env x = some (ofRecP p)) (hr : p = some r) : Op1 Try.prog o env H n (.pt 68 (zio r) 0) H := by
 subst hr; exact ztx ho hx
abbrev V.isBool : V → Bool
 | .bool _ => true
 | _ => false
abbrev V.asBool : V → Bool
 | .bool x => x
 | _ => false
theorem zeu {x : Operand} {xt : TypeId} {v : V} (ho : o.op = .typeAssert x xt 4 true) (hx : ev env x = some (ofV v)) : Op1 Try.prog o env H n (.tup [(.v (.bool v.asBool)), .v (.bool v.isBool)]) H := by
 cases v <;> simp only [ofV, z3k, z38] at hx
 all_goals first
  | exact (z6e Try.underlying4 rfl zrq ho hx)
  | exact (z6f Try.underlying4 rfl zrq ho hx).wk (.tup (.cons (.refl _) (.cons (.refl _) .nil)))
  | exact (z2v Try.underlying4 rfl zrq ho hx rfl).wk (.tup (.cons (.refl _) (.cons (.refl _) .nil)))
  | exact (z2v Try.underlying4 rfl zrq ho hx (z45 _ (by decide))).wk (.tup (.cons (.refl _) (.cons (.refl _) .nil)))
abbrev V.isInt : V → Bool
 | .int _ => true
 | _ => false
abbrev V.asInt : V → Int
 | .int x => x
 | _ => 0
theorem zii {x : Operand} {xt : TypeId} {v : V} (ho : o.op = .typeAssert x xt 2 true) (hx : ev env x = some (ofV v)) : Op1 Try.prog o env H n (.tup [(.v (.int .i64 v.asInt)), .v (.bool v.isInt)]) H := by
 cases v <;> simp only [ofV, z3k, z38] at hx
 all_goals first
  | exact (z6e Try.underlying2 rfl zrt ho hx)
  | exact (z6f Try.underlying2 rfl zrt ho hx).wk (.tup (.cons (.refl _) (.cons (.refl _) .nil)))
  | exact (z2v Try.underlying2 rfl zrt ho hx rfl).wk (.tup (.cons (.refl _) (.cons (.refl _) .nil)))
  | exact (z2v Try.underlying2 rfl zrt ho hx (z45 _ (by decide))).wk (.tup (.cons (.refl _) (.cons (.refl _) .nil)))
abbrev V.isFloat : V → Bool
 | .float _ => true
 | _ => false
abbrev V.asFloat : V → Nat
 | .float x => x
 | _ => 0
theorem zcz {x : Operand} {xt : TypeId} {v : V} (ho : o.op = .typeAssert x xt 22 true) (hx : ev env x = some (ofV v)) : Op1 Try.prog o env H n (.tup [(.v (.float .f64 v.asFloat)), .v (.bool v.isFloat)]) H := by
 cases v <;> simp only [ofV, z3k, z38] at hx
 all_goals first
  | exact (z6e Try.underlying22 rfl zj2 ho hx)
  | exact (z6f Try.underlying22 rfl zj2 ho hx).wk (.tup (.cons (.refl _) (.cons (.refl _) .nil)))
  | exact (z2v Try.underlying22 rfl zj2 ho hx rfl).wk (.tup (.cons (.refl _) (.cons (.refl _) .nil)))
  | exact (z2v Try.underlying22 rfl zj2 ho hx (z45 _ (by decide))).wk (.tup (.cons (.refl _) (.cons (.refl _) .nil)))
abbrev V.isText : V → Bool
 | .text _ => true
 | _ => false
abbrev V.asText : V → Str
 | .text x => x
 | _ => []
theorem zan {x : Operand} {xt : TypeId} {v : V} (ho : o.op = .typeAssert x xt 9 true) (hx : ev env x = some (ofV v)) : Op1 Try.prog o env H n (.tup [(z0k v.asText), .v (.bool v.isText)]) H := by
 cases v <;> simp only [ofV, z3k, z38] at hx
 all_goals first
  | exact (z6e Try.underlying9 rfl zk3 ho hx)
  | exact (z6f Try.underlying9 rfl zk3 ho hx).wk (.tup (.cons (.refl _) (.cons (.refl _) .nil)))
  | exact (z2v Try.underlying9 rfl zk3 ho hx rfl).wk (.tup (.cons (.refl _) (.cons (.refl _) .nil)))
  | exact (z2v Try.underlying9 rfl zk3 ho hx (z45 _ (by decide))).wk (.tup (.cons (.refl _) (.cons (.refl _) .nil)))
abbrev V.isBytes : V → Bool
 | .bytes _ => true
 | _ => false
abbrev V.asBytes : V → Str
 | .bytes x => x
 | _ => []
theorem z6g {x : Operand} {xt : TypeId} {v : V} (ho : o.op = .typeAssert x xt 23 true) (hx : ev env x = some (ofV v)) : Op1 Try.prog o env H n (.tup [(.sl none 5 1 (v.asBytes.map ofB)), .v (.bool v.isBytes)]) H := by
 cases v <;> simp only [ofV, z3k, z38] at hx
 all_goals first
  | exact (z6e Try.underlying23 rfl zf2 ho hx)
  | exact (z6f Try.underlying23 rfl zf2 ho hx).wk (.tup (.cons Wk.nil (.cons (.refl _) .nil)))
  | exact (z2v Try.underlying23 rfl zf2 ho hx rfl).wk (.tup (.cons Wk.nil (.cons (.refl _) .nil)))
  | exact (z2v Try.underlying23 rfl zf2 ho hx (z45 _ (by decide))).wk (.tup (.cons Wk.nil (.cons (.refl _) .nil)))
abbrev V.isRef : V → Bool
 | .ref _ => true
 | _ => false
abbrev V.asRef : V → Int
 | .ref x => x
 | _ => 0
theorem zih {x : Operand} {xt : TypeId} {v : V} (ho : o.op = .typeAssert x xt 25 true) (hx : ev env x = some (ofV v)) : Op1 Try.prog o env H n (.tup [(.v (.int .u64 v.asRef)), .v (.bool v.isRef)]) H := by
 cases v <;> simp only [ofV, z3k, z38] at hx
 all_goals first
  | exact (z6e Try.underlying25 rfl zj1 ho hx)
  | exact (z6f Try.underlying25 rfl zj1 ho hx).wk (.tup (.cons (.refl _) (.cons (.refl _) .nil)))
  | exact (z2v Try.underlying25 rfl zj1 ho hx rfl).wk (.tup (.cons (.refl _) (.cons (.refl _) .nil)))
  | exact (z2v Try.underlying25 rfl zj1 ho hx (z45 _ (by decide))).wk (.tup (.cons (.refl _) (.cons (.refl _) .nil)))
abbrev V.isList : V → Bool
 | .list _ => true
 | _ => false
abbrev V.asList : V → List V
 | .list x => x
 | _ => []
theorem z2t {x : Operand} {xt : TypeId} {v : V} (ho : o.op = .typeAssert x xt 62 true) (hx : ev env x = some (ofV v)) : Op1 Try.prog o env H n (.tup [(.sl none 20 1 (v.asList.map ofV)), .v (.bool v.isList)]) H := by
 cases v <;> simp only [ofV, z3k, z38] at hx
 all_goals first
  | exact (z6e Try.underlying62 rfl zj0 ho hx)
  | exact (z6f Try.underlying62 rfl zj0 ho hx).wk (.tup (.cons Wk.nil (.cons (.refl _) .nil)))
  | exact (z2v Try.underlying62 rfl zj0 ho hx rfl).wk (.tup (.cons Wk.nil (.cons (.refl _) .nil)))
  | exact (z2v Try.underlying62 rfl zj0 ho hx (z45 _ (by decide))).wk (.tup (.cons Wk.nil (.cons (.refl _) .nil)))
abbrev V.isDict : V → Bool
 | .dict _ => true
 | _ => false
abbrev V.asDict : V → List (Str × V)
 | .dict x => x
 | _ => []
theorem z3o {x : Operand} {xt : TypeId} {v : V} (ho : o.op = .typeAssert x xt 64 true) (hx : ev env x = some (ofV v)) : Op1 Try.prog o env H n (.tup [(.sl none 96 2 (v.asDict.map ofFld)), .v (.bool v.isDict)]) H := by
 cases v <;> simp only [ofV, z3k, z38] at hx
 all_goals first
  | exact (z6e Try.underlying64 rfl ziz ho hx)
  | exact (z6f Try.underlying64 rfl ziz ho hx).wk (.tup (.cons Wk.nil (.cons (.refl _) .nil)))
  | exact (z2v Try.underlying64 rfl ziz ho hx rfl).wk (.tup (.cons Wk.nil (.cons (.refl _) .nil)))
  | exact (z2v Try.underlying64 rfl ziz ho hx (z45 _ (by decide))).wk (.tup (.cons Wk.nil (.cons (.refl _) .nil)))
abbrev V.isRec : V → Bool
 | .record _ _ _ => true
 | .nothing => true
 | _ => false
abbrev V.asRec : V → Option Rec
 | .record c v l => some ⟨c, v, l⟩
 | _ => none
theorem z48 {x : Operand} {xt : TypeId} {v : V} (ho : o.op = .typeAssert x xt 66 true) (hx : ev env x = some (ofV v)) : Op1 Try.prog o env H n (.tup [ofRecP v.asRec, .v (.bool v.isRec)]) H := by
 cases v <;> simp only [ofV, z3k, z38] at hx
 all_goals first
  | exact (z6e Try.underlying66 rfl ziy ho hx)
  | exact (z6f Try.underlying66 rfl ziy ho hx)
  | exact (z2v Try.underlying66 rfl ziy ho hx rfl)
  | exact (z2v Try.underlying66 rfl ziy ho hx (z45 _ (by decide)))
end
inductive Term where
 | mk (kind : Int) (bool : Bool) (int : Int) (float : Nat) (text : Str) (bytes : Str) (ref : Int) (list : List Term) (fields : List (Str × Term)) (cls : Str) (ver : Int)
namespace Term
def kind : Term → Int | .mk a _ _ _ _ _ _ _ _ _ _ => a
def bool : Term → Bool | .mk _ a _ _ _ _ _ _ _ _ _ => a
def int : Term → Int | .mk _ _ a _ _ _ _ _ _ _ _ => a
def float : Term → Nat | .mk _ _ _ a _ _ _ _ _ _ _ => a
def text : Term → Str | .mk _ _ _ _ a _ _ _ _ _ _ => a
def bytes : Term → Str | .mk _ _ _ _ _ a _ _ _ _ _ => a
def ref : Term → Int | .mk _ _ _ _ _ _ a _ _ _ _ => a
def list : Term → List Term | .mk _ _ _ _ _ _ _ a _ _ _ => a
def fields : Term → List (Str × Term) | .mk _ _ _ _ _ _ _ _ a _ _ => a
def cls : Term → Str | .mk _ _ _ _ _ _ _ _ _ a _ => a
def ver : Term → Int | .mk _ _ _ _ _ _ _ _ _ _ a => a
end Term
mutual
def z15 : Term → PV
 | .mk k b i f t y r l d c v => .agg [.v (.int .i64 k), .v (.bool b), .v (.int .i64 i), .v (.float .f64 f), z0k t, .sl none 5 1 (y.map ofB), .v (.int .u64 r), .sl none 29 11 (z7b l), .sl none 94 12 (z49 d), z0k c, .v (.int .i64 v)]
def z7b : List Term → List PV
 | [] => []
 | x :: r => z15 x :: z7b r
def z49 : List (Str × Term) → List PV
 | [] => []
 | (s, x) :: r => .agg (z0k s :: (z15 x).cells) :: z49 r
end
def z0s (p : Str × Term) : PV := .agg (z0k p.1 :: (z15 p.2).cells)
def z0b (t : Term) : PV := .agg [.v (.int .i64 t.kind), .v (.bool t.bool), .v (.int .i64 t.int), .v (.float .f64 t.float), z0k t.text, .sl none 5 1 (t.bytes.map ofB), .v (.int .u64 t.ref), .sl none 29 11 (t.list.map z15), .sl none 94 12 (t.fields.map z0s), z0k t.cls, .v (.int .i64 t.ver)]
def zg0 (p : Str × Term) : PV := .agg (z0k p.1 :: (z0b p.2).cells)
theorem zd8 : ∀ l, z7b l = l.map z15
 | [] => by rw [z7b]; rfl
 | x :: r => by rw [z7b, zd8 r]; rfl
theorem z6l : ∀ l, z49 l = l.map z0s
 | [] => by rw [z49]; rfl
 | (s, x) :: r => by rw [z49, z6l r]; rfl
theorem z2b (t : Term) : z15 t = z0b t := by cases t; simp only [z15, zd8, z6l]; rfl
theorem z1o (p : Str × Term) : z0s p = zg0 p := by simp only [z0s, zg0, z2b]
mutual
theorem z2e : ∀ (t : Term), (z15 t).ids = []
 | .mk k b i f t y r l d c v => by
  simp only [z15, PV.ids, PV.ids.idsL]
  rw [z36 Z15, zj3 l, z8l d]; rfl
theorem zj3 : ∀ (l : List Term), PV.ids.idsL (z7b l) = []
 | [] => by rw [z7b]; rfl
 | x :: r => by rw [z7b]; simp only [PV.ids.idsL]; rw [z2e x, zj3 r]; rfl
theorem z8l : ∀ (l : List (Str × Term)), PV.ids.idsL (z49 l) = []
 | [] => by rw [z49]; rfl
 | (s, x) :: r => by
  have h : (z15 x).ids = PV.ids.idsL (z15 x).cells := by cases x; simp only [z15]; rfl
  rw [z49]; simp only [PV.ids.idsL, PV.ids]; rw [← h, z2e x, z8l r]; rfl
end
theorem z06 (t : Term) : (z0b t).ids = [] := by rw [← z2b]; exact z2e t
theorem z1l (p : Str × Term) : (z0s p).ids = [] := by
 have h := z8l [p]
 rw [z6l] at h
 simp only [List.map_cons, List.map_nil, PV.ids.idsL, List.append_nil] at h
 exact h
theorem z7y (t : Term) : (z15 t).cells.length = 11 := by rw [z2b]; rfl
theorem z7j (t : Str × Term) : (z0s t).cells.length = 12 := by rw [z1o]; rfl
theorem z4g (t : Term) : (z15 t).cells.all z6w = true := by rw [z2b]; rfl
theorem z4q (t : Str × Term) : (z0s t).cells.all z6w = true := by rw [z1o]; rfl
end Go.Proofs.Ythidgpcbnieleaa
