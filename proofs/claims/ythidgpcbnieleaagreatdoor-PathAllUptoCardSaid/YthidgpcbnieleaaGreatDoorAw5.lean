/- Aw: the operations, one by one: numbers, texts, structs, interfaces, memory that is read. -/
import Derived.Test.YthidgpcbnieleaaGreatDoorAw4
import Derived.IntWalk
namespace Go.Proofs.YthidgpcbnieleaaGreatDoor.Aw
open Go
set_option linter.unusedVariables false
set_option linter.unusedSimpArgs false
variable {P : Program} {F : Fr} {H H' : List AEnt} {g g' : List (Option Nat)} {w w' : World} {env : List (Nat × PV)} {n : Nat} {o : Oper}

abbrev Inf (P : Program) (t : TypeId) (z : Value) (n b : Nat) : Prop := (P.info? t).map (fun i => (i.zero, i.size, i.bytes)) = some (some z, n, b)
theorem Inf.spec {t : TypeId} {z : Value} {k b : Nat} (h : Inf P t z k b) : ∃ i, P.info? t = some i ∧ i.zero = some z ∧ i.size = k ∧ i.bytes = b := by
 obtain ⟨i, h1, h2⟩ := Option.map_eq_some_iff.1 h
 simp at h2
 exact ⟨i, h1, h2.1, h2.2.1, h2.2.2⟩
theorem Inf.cells {t : TypeId} {z : Value} {k b : Nat} (h : Inf P t z k b) : P.cellsOf t = k := by
 obtain ⟨i, h1, h2, h3, h4⟩ := h.spec
 simp [Program.cellsOf, h1, h3]
theorem Inf.run_size {t : TypeId} {z : Value} {k b : Nat} (h : Inf P t z k b) (w : World) : (Go.sizeOf t).run P w = .ok k w := by
 obtain ⟨i, h1, h2, h3, h4⟩ := h.spec
 simp [Go.sizeOf, typeInfo, h1, h3]
theorem Inf.run_zero {t : TypeId} {z : Value} {k b : Nat} (h : Inf P t z k b) (w : World) : (zeroValue t).run P w = .ok z w := by
 obtain ⟨i, h1, h2, h3, h4⟩ := h.spec
 simp [zeroValue, typeInfo, h1, h2]
theorem z1d {t : TypeId} {d : TypeDesc} (h : P.underlying t = some d) (w : World) : (Go.underlying t).run P w = .ok d w := by simp [Go.underlying, h]

theorem z1a {x : PV} (h : ∀ F g a w, Rel P F ⟨env, H, n⟩ a w g → ∃ u, VR (ctx P F H g w) x u ∧ (execOp a.eval o).run P w = .ok (.value u) w) : Op1 P o env H n x H := by
 intro F g a w hr Kn Q hK
 obtain ⟨u, h1, h2⟩ := h F g a w hr
 unfold Oper.wp
 rw [h2]
 exact hK u w g h1 hr.rel .refl

theorem z9u {x : Operand} {p : PV} (ho : o.op = .move x) (h : ev env x = some p) : Op1 P o env H n p H :=
 z1a fun F g a w hr => ⟨_, hr.opd h, by simp [execOp, ho]⟩
theorem z6b {x : Operand} {p : PV} (ho : o.op = .assign x) (h : ev env x = some p) : Op1 P o env H n p H :=
 z1a fun F g a w hr => ⟨_, hr.opd h, by simp [execOp, ho]⟩
theorem z7t {c x y : Operand} {p : PV} (ho : o.op = .pick c x y) (hc : ev env c = some (.v (.bool true))) (h : ev env x = some p) : Op1 P o env H n p H :=
 z1a fun F g a w hr => ⟨_, hr.opd h, by simp [execOp, ho, hr.const hc, asBool]⟩
theorem z7u {c x y : Operand} {p : PV} (ho : o.op = .pick c x y) (hc : ev env c = some (.v (.bool false))) (h : ev env y = some p) : Op1 P o env H n p H :=
 z1a fun F g a w hr => ⟨_, hr.opd h, by simp [execOp, ho, hr.const hc, asBool]⟩
theorem z8r {op : BinOp} {t t2 : TypeId} {x y : Operand} {a b v : Value} (ho : o.op = .binOp op t x y t2) (hx : ev env x = some (.v a)) (hy : ev env y = some (.v b))
 (hrun : ∀ w, (do eqGuard op t x y a b; binOp op t a b : Sem Value).run P w = .ok v w) : Op1 P o env H n (.v v) H :=
 z1a fun F g ac w hr => by
  refine ⟨v, vr_v.2 rfl, ?_⟩
  have h := hrun w
  simp only [execOp, ho, hr.const hx, hr.const hy]
  simp only [Sem.run_bind] at h ⊢
  rw [h]; rfl
theorem zid {op : BinOp} {t t2 : TypeId} {x y : Operand} {k : IntKind} {a b r : Int} (ho : o.op = .binOp op t x y t2) (hx : ev env x = some (.v (.int k a))) (hy : ev env y = some (.v (.int k b)))
 (hop : (match op with | .add => some (k.wrap (a + b)) | .sub => some (k.wrap (a - b)) | .mul => some (k.wrap (a * b)) | _ => none) = some r) : Op1 P o env H n (.v (.int k r)) H := by
 refine z8r ho hx hy (fun w => ?_)
 cases op <;> simp at hop <;> subst hop <;> simp [eqGuard, binOp, Op.intArith]
theorem z9w {t t2 : TypeId} {x y : Operand} {k : IntKind} {a b : Int} (ho : o.op = .binOp .add t x y t2) (hx : ev env x = some (.v (.int k a))) (hy : ev env y = some (.v (.int k b))) :
 Op1 P o env H n (.v (.int k (k.wrap (a + b)))) H := zid ho hx hy rfl
theorem zfu {t t2 : TypeId} {x y : Operand} {k : IntKind} {a b : Int} (ho : o.op = .binOp .sub t x y t2) (hx : ev env x = some (.v (.int k a))) (hy : ev env y = some (.v (.int k b))) :
 Op1 P o env H n (.v (.int k (k.wrap (a - b)))) H := zid ho hx hy rfl
theorem zae {x : Int} (h1 : -9223372036854775808 ≤ x) (h2 : x ≤ 9223372036854775807) : IntKind.i64.wrap x = x := IntWalk.i64_in x ⟨h1, h2⟩
theorem zzb {t t2 : TypeId} {x y : Operand} {a b : Int} (ho : o.op = .binOp .add t x y t2) (hx : ev env x = some (.v (.int .i64 a))) (hy : ev env y = some (.v (.int .i64 b)))
 (h1 : -9223372036854775808 ≤ a + b ∧ a + b ≤ 9223372036854775807) : Op1 P o env H n (.v (.int .i64 (a + b))) H := by
 refine z8r ho hx hy (fun w => ?_)
 simp [eqGuard, binOp, Op.intArith, zae h1.1 h1.2]
def Z4f : BinOp → Int → Int → Option Bool
 | .eql, a, b => some (a == b)
 | .neq, a, b => some (a != b)
 | .lss, a, b => some (decide (a < b))
 | .leq, a, b => some (decide (a ≤ b))
 | .gtr, a, b => some (decide (a > b))
 | .geq, a, b => some (decide (a ≥ b))
 | _, _, _ => none
theorem zd9 {op : BinOp} {t t2 : TypeId} {x y : Operand} {k : IntKind} {a b : Int} {r : Bool} (ho : o.op = .binOp op t x y t2) (hx : ev env x = some (.v (.int k a))) (hy : ev env y = some (.v (.int k b)))
 (hop : Z4f op a b = some r) : Op1 P o env H n (.v (.bool r)) H := by
 refine z8r ho hx hy (fun w => ?_)
 cases op <;> simp only [Z4f] at hop <;> cases hop <;> simp [eqGuard, binOp, Op.intCmp]
def cmpS : BinOp → ByteArray → ByteArray → Option Bool
 | .eql, a, b => some (a.toList == b.toList)
 | .neq, a, b => some (!(a.toList == b.toList))
 | .lss, a, b => some (Op.bytesLess a.toList b.toList)
 | .leq, a, b => some (Op.bytesLess a.toList b.toList || a.toList == b.toList)
 | .gtr, a, b => some (!(Op.bytesLess a.toList b.toList || a.toList == b.toList))
 | .geq, a, b => some (!(Op.bytesLess a.toList b.toList))
 | _, _, _ => none
theorem zux {op : BinOp} {t t2 : TypeId} {x y : Operand} {a b : ByteArray} {r : Bool} (ho : o.op = .binOp op t x y t2) (hx : ev env x = some (.v (.string a))) (hy : ev env y = some (.v (.string b)))
 (hop : cmpS op a b = some r) : Op1 P o env H n (.v (.bool r)) H := by
 refine z8r ho hx hy (fun w => ?_)
 cases op <;> simp only [cmpS] at hop <;> cases hop <;> simp [eqGuard, binOp, Op.stringOp]
theorem zmm (t : TypeId) (x y : Value) : ∃ d, Op.equal t x y = Op.equalIn (d + 1) t x y := ⟨9999, rfl⟩
theorem zd7 {t : TypeId} {x : Operand} {b : Bool} (ho : o.op = .unOp .not t x) (hx : ev env x = some (.v (.bool b))) : Op1 P o env H n (.v (.bool (!b))) H :=
 z1a fun F g a w hr => ⟨_, vr_v.2 rfl, by simp [execOp, ho, hr.const hx, Op.unary]⟩
theorem zud {t : TypeId} {x : Operand} {k : IntKind} {i : Int} (ho : o.op = .unOp .xor t x) (hx : ev env x = some (.v (.int k i))) :
 Op1 P o env H n (.v (.int k (k.wrap ((BitVec.ofInt k.bits (if k.signed then -1 else k.max) ^^^ BitVec.ofInt k.bits i).toNat : Int)))) H :=
 z1a fun F g a w hr => ⟨_, vr_v.2 rfl, by simp [execOp, ho, hr.const hx, Op.unary, Op.intBits]⟩
def Z9a (op : BinOp) (k : IntKind) (a b : Int) : Option Int :=
 match op with
 | .and => some (k.wrap ((BitVec.ofInt k.bits a &&& BitVec.ofInt k.bits b).toNat : Int))
 | .or => some (k.wrap ((BitVec.ofInt k.bits a ||| BitVec.ofInt k.bits b).toNat : Int))
 | .xor => some (k.wrap ((BitVec.ofInt k.bits a ^^^ BitVec.ofInt k.bits b).toNat : Int))
 | _ => none
theorem zz9 {op : BinOp} {t t2 : TypeId} {x y : Operand} {k : IntKind} {a b r : Int} (ho : o.op = .binOp op t x y t2) (hx : ev env x = some (.v (.int k a))) (hy : ev env y = some (.v (.int k b)))
 (hop : Z9a op k a b = some r) : Op1 P o env H n (.v (.int k r)) H := by
 refine z8r ho hx hy (fun w => ?_)
 cases op <;> simp only [Z9a] at hop <;> cases hop <;> simp [eqGuard, binOp, Op.intBits]
theorem zz3 {t t2 : TypeId} {x y : Operand} {k : IntKind} {a b : Int} (ho : o.op = .binOp .or t x y t2) (hx : ev env x = some (.v (.int k a))) (hy : ev env y = some (.v (.int k b))) :
 Op1 P o env H n (.v (.int k (k.wrap ((BitVec.ofInt k.bits a ||| BitVec.ofInt k.bits b).toNat : Int)))) H := zz9 ho hx hy rfl
theorem zr5 {t t2 : TypeId} {x y : Operand} {k k2 : IntKind} {a b : Int} (ho : o.op = .binOp .shr t x y t2) (hx : ev env x = some (.v (.int k a))) (hy : ev env y = some (.v (.int k2 b))) (hb : 0 ≤ b) :
 Op1 P o env H n (.v (.int k (a.fdiv (2 ^ (min b.toNat k.bits))))) H := by
 refine z8r ho hx hy (fun w => ?_)
 have : ¬ b < 0 := by omega
 simp [eqGuard, binOp, Op.shift, this]
theorem zz2 {t t2 : TypeId} {x y : Operand} {k : IntKind} {a b : Int} (ho : o.op = .binOp .rem t x y t2) (hx : ev env x = some (.v (.int k a))) (hy : ev env y = some (.v (.int k b))) (hb : b ≠ 0) :
 Op1 P o env H n (.v (.int k (a.tmod b))) H := by
 refine z8r ho hx hy (fun w => ?_)
 simp [eqGuard, binOp, Op.intDiv, hb]
theorem zib {s d : TypeId} {x : Operand} {k k2 : IntKind} {ds : TypeDesc} {i : Int} (hs : P.underlying s = some ds) (hd : P.underlying d = some (.int k2)) (ho : o.op = .convert s d x) (hx : ev env x = some (.v (.int k i))) :
 Op1 P o env H n (.v (.int k2 (k2.wrap i))) H :=
 z1a fun F g a w hr => ⟨_, vr_v.2 rfl, by simp [execOp, ho, hr.const hx, convert, z1d hs, z1d hd, Conv.intToInt]⟩
theorem zum {args : List Operand} {types : Array TypeId} {x y : Operand} {k : IntKind} {a b : Int} (ho : o.op = .call { callee := .builtin .max, args := #[x, y], argTypes := types }) (hx : ev env x = some (.v (.int k a))) (hy : ev env y = some (.v (.int k b))) :
 Op1 P o env H n (.v (.int k (if b > a then b else a))) H :=
 z1a fun F g ac w hr => ⟨_, vr_v.2 rfl, by simp [execOp, ho, resolve, invoke, builtin, hr.const hx, hr.const hy, Builtin.max_, Builtin.max2]⟩
theorem zul {args : List Operand} {types : Array TypeId} {x y : Operand} {k : IntKind} {a b : Int} (ho : o.op = .call { callee := .builtin .min, args := #[x, y], argTypes := types }) (hx : ev env x = some (.v (.int k a))) (hy : ev env y = some (.v (.int k b))) :
 Op1 P o env H n (.v (.int k (if b < a then b else a))) H :=
 z1a fun F g ac w hr => ⟨_, vr_v.2 rfl, by simp [execOp, ho, resolve, invoke, builtin, hr.const hx, hr.const hy, Builtin.min_, Builtin.min2]⟩

theorem zuq {t : TypeId} {x y : Operand} {k : IntKind} {s : ByteArray} {i : Int} (ht : P.underlying t = some .string) (ho : o.op = .index t x y) (hx : ev env x = some (.v (.string s))) (hy : ev env y = some (.v (.int k i)))
 {b : UInt8} (h0 : 0 ≤ i) (hb : s[i.toNat]? = some b) : Op1 P o env H n (.v (.int .u8 b.toNat)) H :=
 z1a fun F g a w hr => ⟨_, vr_v.2 rfl, by simp [execOp, ho, hr.const hx, hr.const hy, Instr.index, asIntOf, z1d ht, h0, hb]⟩
theorem zun {x : Operand} {t : TypeId} {s : ByteArray} (ht : P.underlying t = some .string) (ho : o.op = .call { callee := .builtin .len, args := #[x], argTypes := #[t] }) (hx : ev env x = some (.v (.string s))) :
 Op1 P o env H n (.v (.int .i64 s.size)) H :=
 z1a fun F g a w hr => ⟨_, vr_v.2 rfl, by simp [execOp, ho, resolve, invoke, builtin, hr.const hx, Builtin.len_, z1d ht, goInt]⟩

theorem zz4 {x : Operand} {t e : TypeId} {tk : Option Nat} {sz : Nat} {xs : List PV} (ht : P.underlying t = some (.slice e)) (ho : o.op = .call { callee := .builtin .len, args := #[x], argTypes := #[t] }) (hx : ev env x = some (.sl tk e sz xs)) :
 Op1 P o env H n (.v (.int .i64 xs.length)) H :=
 z1a fun F g a w hr => by
  obtain ⟨A, c, hu, _⟩ := vr_sl.1 (hr.opd hx)
  exact ⟨_, vr_v.2 rfl, by simp [execOp, ho, resolve, invoke, builtin, hu, Builtin.len_, z1d ht, goInt]⟩
theorem z23 (b off k : Nat) : (⟨b, off, none⟩ : Addr).add k = ⟨b, off + k, none⟩ := by unfold Addr.add; split <;> simp_all
theorem zrc {x y : Operand} {t e : TypeId} {tk : Option Nat} {sz by_ : Nat} {z : Value} {xs : List PV} {i : Int} {p : PV} {k : IntKind} (ht : P.underlying t = some (.slice e)) (hi : Inf P e z sz by_) (ho : o.op = .indexAddr t x y)
 (hx : ev env x = some (.sl tk e sz xs)) (hy : ev env y = some (.v (.int k i))) (h0 : 0 ≤ i) (hp : xs[i.toNat]? = some p) : Op1 P o env H n (.pt e p 0) H :=
 z1a fun F g a w hr => by
  obtain ⟨A, c, hu, hc, _, hxs⟩ := vr_sl.1 (hr.opd hx)
  obtain ⟨h1, b, off, h2, h3⟩ := hxs _ _ hp
  have hlt := z0b hp
  have hlt' : i < xs.length := by omega
  subst h2
  refine ⟨.pointer (some ⟨b, off + i.toNat * sz, none⟩), vr_pt.2 ⟨b, off + i.toNat * sz, ⟨by simp, Z8d hc.2 (fun q hq => ⟨q + i.toNat, by rw [hq, h1, Nat.add_mul]⟩) (by rw [h1, Nat.add_assoc, ← Nat.succ_mul]; exact Nat.add_le_add_left (Nat.mul_le_mul_right _ (by omega)) _)⟩, fun j q hq => ?_⟩, ?_⟩
  ·obtain ⟨u, h4, h5⟩ := h3 j q hq
   exact ⟨u, by rw [Nat.add_assoc]; exact h4, h5⟩
  ·simp [execOp, ho, hu, hr.const hy, Instr.indexAt, asIntOf, z1d ht, h0, hlt', hi.run_size, z23]

theorem zgx {t : TypeId} {d : TypeDesc} {b off : Nat} {v : Value} (hd : P.underlying t = some d) (hs : zla d = false) (hc : w.cell? ⟨b, off, none⟩ = some v) : (Instr.loadAt t (.pointer (some ⟨b, off, none⟩))).run P w = .ok v w := by
 simp only [Instr.loadAt, Instr.sureAddr, Sem.run_bind, Sem.run_pure, Result.andThen_ok]
 exact z7m hd hs hc
theorem zgw {t : TypeId} {d : TypeDesc} {b off : Nat} {cs : List Value} (hd : P.underlying t = some d) (hs : zla d = true) (hn : P.cellsOf t = cs.length) (hc : ∀ (j : Nat) (v : Value), cs[j]? = some v → w.cell? ⟨b, off + j, none⟩ = some v) :
 (Instr.loadAt t (.pointer (some ⟨b, off, none⟩))).run P w = .ok (.agg cs.toArray) w := by
 simp only [Instr.loadAt, Instr.sureAddr, Sem.run_bind, Sem.run_pure, Result.andThen_ok]
 exact z7n hd hs hn (fun j v hj => by rw [z23]; exact hc j v hj)
theorem z8x {C : Ctx} {Q : Nat → Value → Prop} : ∀ {cs : List PV}, (∀ (j : Nat) (y : PV), cs[j]? = some y → ∃ u, Q j u ∧ VR C y u) → ∃ us : List Value, us.length = cs.length ∧ (∀ (j : Nat) (u : Value), us[j]? = some u → Q j u) ∧
 ∀ (j : Nat) (y : PV), cs[j]? = some y → ∃ u, us[j]? = some u ∧ VR C y u := by
 intro cs
 induction cs generalizing Q with
 | nil => intro _; exact ⟨[], rfl, by simp, by simp⟩
 | cons c r ih =>
  intro h
  obtain ⟨u, h1, h2⟩ := h 0 c rfl
  obtain ⟨us, h3, h4, h5⟩ := ih (Q := fun j => Q (j + 1)) (fun j y hy => h (j + 1) y (by simpa using hy))
  refine ⟨u :: us, by simp [h3], fun j u' hu => ?_, fun j y hy => ?_⟩
  ·cases j with
   | zero => simp at hu; subst hu; exact h1
   | succ j => exact h4 j u' (by simpa using hu)
  ·cases j with
   | zero => simp at hy; subst hy; exact ⟨u, by simp, h2⟩
   | succ j => simpa using h5 j y (by simpa using hy)
theorem z1y {x : Operand} {t e : TypeId} {d : TypeDesc} {q y : PV} {off : Nat} (hd : P.underlying t = some d) (hs : zla d = false) (ho : o.op = .load t x) (hx : ev env x = some (.pt e q off)) (hy : q.cells[off]? = some y) : Op1 P o env H n y H :=
 z1a fun F g a w hr => by
  obtain ⟨b, o0, hu, hq⟩ := vr_pt.1 (hr.opd hx)
  obtain ⟨u, h1, h2⟩ := hq off y hy
  exact ⟨u, h2, by simp [execOp, ho, hu, zgx hd hs h1.2]⟩
theorem zlz {x : Operand} {t e : TypeId} {d : TypeDesc} {q : PV} {off k b_ : Nat} {z : Value} {cs : List PV} (hi : Inf P t z k b_) (hd : P.underlying t = some d) (hs : zla d = true) (ho : o.op = .load t x) (hx : ev env x = some (.pt e q off))
 (hcs : (q.cells.drop off).take k = cs) (hk : cs.length = k) : Op1 P o env H n (.agg cs) H :=
 z1a fun F g a w hr => by
  obtain ⟨b, o0, hu, hq⟩ := vr_pt.1 (hr.opd hx)
  have hpt : ∀ (j : Nat) (y : PV), cs[j]? = some y → ∃ u, w.cell? ⟨b, o0 + off + j, none⟩ = some u ∧ VR (ctx P F H g w) y u := by
   intro j y hy
   have hj := z0b hy
   have : q.cells[off + j]? = some y := by
    rw [← hcs, List.getElem?_take] at hy
    split at hy
    ·simpa [List.getElem?_drop] using hy
    ·cases hy
   obtain ⟨u, h1, h2⟩ := hq _ _ this
   exact ⟨u, by rw [Nat.add_assoc]; exact h1.2, h2⟩
  obtain ⟨us, h1, h2, h3⟩ := z8x hpt
  refine ⟨.agg us.toArray, vr_agg.2 ⟨us, rfl, h1, h3⟩, ?_⟩
  simp [execOp, ho, hu, zgw hd hs (by rw [hi.cells, h1, hk]) h2]
theorem zup {x : Operand} {t e : TypeId} {d : TypeDesc} {q : PV} {k b_ : Nat} {z : Value} {cs : List PV} (hi : Inf P t z k b_) (hd : P.underlying t = some d) (hs : zla d = true) (ho : o.op = .load t x) (hx : ev env x = some (.pt e q 0))
 (hcs : q = .agg cs) (hk : cs.length = k) : Op1 P o env H n q H := by
 subst hcs
 exact zlz (off := 0) hi hd hs ho hx (by simp [PV.cells, ← hk]) hk
theorem zk8 {x : Operand} {t ty : TypeId} {d : TypeDesc} {i off : Nat} {cs : List PV} {y : PV} (hd : P.underlying t = some d) (hs : zla d = false) (ho : o.op = .load t x) (hx : ev env x = some (.rf i off)) (hi : H[i]? = some (.box ty cs)) (hy : cs[off]? = some y) : Op1 P o env H n y H :=
 z1a fun F g a w hr => by
  obtain ⟨b, hu, hR⟩ := vr_rf.1 (hr.opd hx)
  obtain ⟨b', cells, h1, h2, h3, h4⟩ := hr.rel.box i ty cs hi
  rw [hR.1] at h1; injection h1 with h1; injection h1 with h1; subst h1
  obtain ⟨u, h5, h6⟩ := h4 off y hy
  exact ⟨u, h6, by simp [execOp, ho, hu, zgx hd hs (show w.cell? ⟨b, off, none⟩ = some u by rw [z22 h2]; exact h5)]⟩
theorem zuo {x : Operand} {t ty : TypeId} {d : TypeDesc} {i off k b_ : Nat} {z : Value} {cs ds : List PV} (hinf : Inf P t z k b_) (hd : P.underlying t = some d) (hs : zla d = true) (ho : o.op = .load t x) (hx : ev env x = some (.rf i off)) (hi : H[i]? = some (.box ty cs))
 (hcs : (cs.drop off).take k = ds) (hk : ds.length = k) : Op1 P o env H n (.agg ds) H :=
 z1a fun F g a w hr => by
  obtain ⟨b, hu, hR⟩ := vr_rf.1 (hr.opd hx)
  obtain ⟨b', cells, h1, h2, h3, h4⟩ := hr.rel.box i ty cs hi
  rw [hR.1] at h1; injection h1 with h1; injection h1 with h1; subst h1
  have hpt : ∀ (j : Nat) (y : PV), ds[j]? = some y → ∃ u, w.cell? ⟨b, off + j, none⟩ = some u ∧ VR (ctx P F H g w) y u := by
   intro j y hy
   have : cs[off + j]? = some y := by
    rw [← hcs, List.getElem?_take] at hy
    split at hy
    ·simpa [List.getElem?_drop] using hy
    ·cases hy
   obtain ⟨u, h5, h6⟩ := h4 _ _ this
   exact ⟨u, by rw [z22 h2]; exact h5, h6⟩
  obtain ⟨us, h5, h6, h7⟩ := z8x hpt
  refine ⟨.agg us.toArray, vr_agg.2 ⟨us, rfl, h5, h7⟩, ?_⟩
  simp [execOp, ho, hu, zgw hd hs (by rw [hinf.cells, h5, hk]) h6]
structure IsStruct (P : Program) (t : TypeId) (fs : Array Field) (pl : List (Nat × Nat)) : Prop where
 und : P.underlying t = some (.struct fs)
 pl : fs.toList.map (fun f => (f.offset, P.cellsOf f.type)) = pl
 ok : fs.toList.all (fun f => (P.info? f.type).isSome && P.cellsOf f.type != 0) = true
theorem IsStruct.field {t : TypeId} {fs : Array Field} {pl : List (Nat × Nat)} (h : IsStruct P t fs pl) {i k s : Nat} (hk : pl[i]? = some (k, s)) : ∃ f, fs[i]? = some f ∧ f.offset = k ∧ P.cellsOf f.type = s ∧ (∃ inf, P.info? f.type = some inf) ∧ P.cellsOf f.type ≠ 0 := by
 have hp := h.pl
 subst hp
 rw [List.getElem?_map, Option.map_eq_some_iff] at hk
 obtain ⟨f, h1, h2⟩ := hk
 simp at h2
 have h3 := List.all_eq_true.1 h.ok f (List.mem_of_getElem? h1)
 simp at h3
 exact ⟨f, by simpa using h1, h2.1, h2.2, Option.isSome_iff_exists.1 h3.1, h3.2⟩
theorem zci {t : TypeId} {fs : Array Field} {pl : List (Nat × Nat)} (h : IsStruct P t fs pl) {i k s : Nat} (hk : pl[i]? = some (k, s)) (b off : Nat) (w : World) :
 (Instr.fieldAt t (.pointer (some ⟨b, off, none⟩)) i).run P w = .ok (.pointer (some ⟨b, off + k, none⟩)) w := by
 obtain ⟨f, h1, h2, h3, ⟨inf, h4⟩, h5⟩ := h.field hk
 have hsz : (Go.sizeOf f.type).run P w = .ok (P.cellsOf f.type) w := by simp [Go.sizeOf, typeInfo, h4, Program.cellsOf]
 simp [Instr.fieldAt, z1d h.und, h1, Instr.sureAddr, fieldPlace, hsz, h5, z23, h2]
theorem zz6 {x : Operand} {t e : TypeId} {fs : Array Field} {pl : List (Nat × Nat)} {i k s off : Nat} {q : PV} (h : IsStruct P t fs pl) (hk : pl[i]? = some (k, s)) (ho : o.op = .fieldAddr t x i) (hx : ev env x = some (.pt e q off)) : Op1 P o env H n (.pt e q (off + k)) H :=
 z1a fun F g a w hr => by
  obtain ⟨b, o0, hu, hq⟩ := vr_pt.1 (hr.opd hx)
  exact ⟨_, vr_pt.2 ⟨b, o0, ⟨by rw [← Nat.add_assoc], hu.2⟩, hq⟩, by simp [execOp, ho, hu.1, zci h hk]⟩
theorem zrf {x : Operand} {t : TypeId} {fs : Array Field} {pl : List (Nat × Nat)} {i k s j off : Nat} (h : IsStruct P t fs pl) (hk : pl[i]? = some (k, s)) (ho : o.op = .fieldAddr t x i) (hx : ev env x = some (.rf j off)) : Op1 P o env H n (.rf j (off + k)) H :=
 z1a fun F g a w hr => by
  obtain ⟨b, hu, hR⟩ := vr_rf.1 (hr.opd hx)
  exact ⟨_, vr_rf.2 ⟨b, rfl, hR⟩, by simp [execOp, ho, hu, zci h hk]⟩
theorem zuj {x : Operand} {e : TypeId} {q : PV} {off : Nat} (ho : o.op = .nilCheck x) (hx : ev env x = some (.pt e q off)) : Op1 P o env H n (.pt e q off) H :=
 z1a fun F g a w hr => by
  obtain ⟨b, o0, hu, hq⟩ := vr_pt.1 (hr.opd hx)
  exact ⟨_, vr_pt.2 ⟨b, o0, ⟨rfl, hu.2⟩, hq⟩, by simp [execOp, ho, hu.1]⟩
theorem z73 {x : Operand} {j off : Nat} (ho : o.op = .nilCheck x) (hx : ev env x = some (.rf j off)) : Op1 P o env H n (.rf j off) H :=
 z1a fun F g a w hr => by
  obtain ⟨b, hu, hR⟩ := vr_rf.1 (hr.opd hx)
  exact ⟨_, vr_rf.2 ⟨b, rfl, hR⟩, by simp [execOp, ho, hu]⟩
theorem z15 {x : Operand} {t : TypeId} {d : TypeDesc} {p : PV} (hd : P.underlying t = some d) (hi : (match d with | .interface _ => true | _ => false) = false) (ho : o.op = .makeInterface t x) (hx : ev env x = some p) : Op1 P o env H n (.iface t p) H :=
 z1a fun F g a w hr => by
  refine ⟨.iface t (a.eval x), vr_iface.2 ⟨_, rfl, hr.opd hx⟩, ?_⟩
  simp only [execOp, ho, Instr.makeInterface]
  simp only [Sem.run_bind, z1d hd, Result.andThen_ok]
  cases d <;> first | rfl | cases hi
def z5b : TypeDesc → Bool
 | .interface _ => false
 | _ => true
theorem zpb {x : Value} {xt t : TypeId} {d : TypeDesc} {z : Value} {k b : Nat} (hd : P.underlying t = some d) (hn : z5b d = true) (hi : Inf P t z k b) (w : World) :
 (Instr.typeAssert x xt t true).run P w = match x with
  | .nilIface => .ok (.tuple #[z, .bool false]) w
  | .iface u v => if u = t then .ok (.tuple #[v, .bool true]) w else .ok (.tuple #[z, .bool false]) w
  | _ => (Instr.typeAssert x xt t true).run P w := by
 cases x with
 | nilIface =>
  simp only [Instr.typeAssert, Sem.run_bind, z1d hd, Result.andThen_ok]
  cases d <;> first | (simp [hi.run_zero]; done) | (simp [z5b] at hn; done)
 | iface u v =>
  simp only [Instr.typeAssert, Sem.run_bind, z1d hd, Result.andThen_ok]
  cases d <;> first | (simp [z5b] at hn; done) | (by_cases h : u = t <;> simp [h, hi.run_zero])
 | _ => rfl
theorem z70 {x : Operand} {xt t : TypeId} {d : TypeDesc} {z : Value} {k b : Nat} {p : PV} (hd : P.underlying t = some d) (hn : z5b d = true) (hi : Inf P t z k b) (ho : o.op = .typeAssert x xt t true) (hx : ev env x = some (.iface t p)) :
 Op1 P o env H n (.tup [p, .v (.bool true)]) H :=
 z1a fun F g a w hr => by
  obtain ⟨u, hu, hv⟩ := vr_iface.1 (hr.opd hx)
  refine ⟨.tuple #[u, .bool true], vr_tup.2 ⟨[u, .bool true], rfl, rfl, fun i y hy => ?_⟩, ?_⟩
  ·match i, hy with
   | 0, hy => simp at hy; subst hy; exact ⟨u, rfl, hv⟩
   | 1, hy => simp at hy; subst hy; exact ⟨_, rfl, vr_v.2 rfl⟩
  ·simp [execOp, ho, hu, zpb hd hn hi]
theorem zwz {C : Ctx} {z : Value} : VR C (.tup [.v z, .v (.bool false)]) (.tuple #[z, .bool false]) :=
 vr_tup.2 ⟨[z, .bool false], rfl, rfl, fun i y hy => by
  match i, hy with
  | 0, hy => simp at hy; subst hy; exact ⟨z, rfl, vr_v.2 rfl⟩
  | 1, hy => simp at hy; subst hy; exact ⟨_, rfl, vr_v.2 rfl⟩⟩
theorem z2z {x : Operand} {xt t u : TypeId} {d : TypeDesc} {z : Value} {k b : Nat} {p : PV} (hd : P.underlying t = some d) (hn : z5b d = true) (hi : Inf P t z k b) (ho : o.op = .typeAssert x xt t true) (hx : ev env x = some (.iface u p))
 (hne : Nat.beq u t = false) : Op1 P o env H n (.tup [.v z, .v (.bool false)]) H :=
 z1a fun F g a w hr => by
  obtain ⟨v, hu, hv⟩ := vr_iface.1 (hr.opd hx)
  have : ¬ u = t := fun e => by subst e; simp at hne
  exact ⟨_, zwz, by simp [execOp, ho, hu, zpb hd hn hi, this]⟩
theorem z71 {x : Operand} {xt t : TypeId} {d : TypeDesc} {z : Value} {k b : Nat} (hd : P.underlying t = some d) (hn : z5b d = true) (hi : Inf P t z k b) (ho : o.op = .typeAssert x xt t true) (hx : ev env x = some (.v .nilIface)) :
 Op1 P o env H n (.tup [.v z, .v (.bool false)]) H :=
 z1a fun F g a w hr => ⟨_, zwz, by simp [execOp, ho, hr.const hx, zpb hd hn hi]⟩
theorem z72 {x : Operand} {xt t : TypeId} {d : TypeDesc} {p : PV} (hd : P.underlying t = some d) (hn : z5b d = true) (ho : o.op = .typeAssert x xt t false) (hx : ev env x = some (.iface t p)) : Op1 P o env H n p H :=
 z1a fun F g a w hr => by
  obtain ⟨u, hu, hv⟩ := vr_iface.1 (hr.opd hx)
  refine ⟨u, hv, ?_⟩
  simp only [execOp, ho, hu, Instr.typeAssert, Sem.run_bind, z1d hd, Result.andThen_ok]
  cases d <;> first | (simp [z5b] at hn; done) | simp
theorem zd8 {x : Operand} {i : Nat} {vs : List PV} {p : PV} (ho : o.op = .extract x i) (hx : ev env x = some (.tup vs)) (hp : vs[i]? = some p) : Op1 P o env H n p H :=
 z1a fun F g a w hr => by
  obtain ⟨us, hu, hl, hc⟩ := vr_tup.1 (hr.opd hx)
  obtain ⟨u, h1, h2⟩ := hc i p hp
  exact ⟨u, h2, by simp [execOp, ho, hu, Instr.extract, h1]⟩
theorem z6k (a : Act) (v : Value) : a.eval (.const v) = v := rfl
def zin : Value → Bool
 | .nilIface => true
 | _ => false
theorem zyn {t : TypeId} {ms : Array (String × TypeId)} (ht : P.underlying t = some (.interface ms)) (x : Value) (w : World) (hx : (∃ u v, x = .iface u v) ∨ x = .nilIface) :
 (Op.equal t x .nilIface).run P w = .ok (zin x) w := by
 obtain ⟨d, hd⟩ := zmm t x .nilIface
 rw [hd]; rcases hx with ⟨u, v, rfl⟩ | rfl <;> simp [Op.equalIn, z1d ht, zin]
theorem zzs {op : BinOp} {t : TypeId} {x : Operand} {u : Value} (w : World) (hu : (∃ t v, u = .iface t v) ∨ u = .nilIface) : (eqGuard op t x (.const .nilIface) u .nilIface).run P w = .ok () w := by
 cases op <;> rcases hu with ⟨u, v, rfl⟩ | rfl <;> simp [eqGuard]
theorem zfy {op : BinOp} {t t2 : TypeId} {ms : Array (String × TypeId)} {x : Operand} {p : PV} {r : Bool} (ht : P.underlying t = some (.interface ms)) (ho : o.op = .binOp op t x (.const .nilIface) t2) (hx : ev env x = some p)
 (hp : (p = .v .nilIface ∧ ((op = .eql ∧ r = true) ∨ (op = .neq ∧ r = false))) ∨ ∃ u q, p = .iface u q ∧ ((op = .eql ∧ r = false) ∨ (op = .neq ∧ r = true))) : Op1 P o env H n (.v (.bool r)) H :=
 z1a fun F g a w hr => by
  refine ⟨_, vr_v.2 rfl, ?_⟩
  have key : ∀ u, a.eval x = u → ((∃ t v, u = .iface t v) ∨ u = .nilIface) → (op = .eql ∨ op = .neq) →
   (execOp a.eval o).run P w = .ok (.value (.bool (match op with | .eql => zin u | _ => !(zin u)))) w := by
   intro u hu hk hop
   have h1 := zzs (P := P) (op := op) (t := t) (x := x) w hk
   have h2 := zyn ht u w hk
   rcases hop with rfl | rfl <;> rcases hk with ⟨t', v, rfl⟩ | rfl <;> simp [execOp, ho, hu, z6k, h1, binOp, h2, zin]
  rcases hp with ⟨rfl, hp⟩ | ⟨u, q, rfl, hp⟩
  ·rw [key .nilIface (hr.const hx) (.inr rfl) (by rcases hp with ⟨h, _⟩ | ⟨h, _⟩ <;> simp [h])]
   rcases hp with ⟨rfl, rfl⟩ | ⟨rfl, rfl⟩ <;> rfl
  ·obtain ⟨v, hu, hv⟩ := vr_iface.1 (hr.opd hx)
   rw [key _ hu (.inl ⟨_, _, rfl⟩) (by rcases hp with ⟨h, _⟩ | ⟨h, _⟩ <;> simp [h])]
   rcases hp with ⟨rfl, rfl⟩ | ⟨rfl, rfl⟩ <;> rfl
theorem zuu {t t2 : TypeId} {ms : Array (String × TypeId)} {x : Operand} (ht : P.underlying t = some (.interface ms)) (ho : o.op = .binOp .eql t x (.const .nilIface) t2) (hx : ev env x = some (.v .nilIface)) : Op1 P o env H n (.v (.bool true)) H :=
 zfy ht ho hx (.inl ⟨rfl, .inl ⟨rfl, rfl⟩⟩)
theorem zut {t t2 u : TypeId} {ms : Array (String × TypeId)} {x : Operand} {p : PV} (ht : P.underlying t = some (.interface ms)) (ho : o.op = .binOp .eql t x (.const .nilIface) t2) (hx : ev env x = some (.iface u p)) : Op1 P o env H n (.v (.bool false)) H :=
 zfy ht ho hx (.inr ⟨u, p, rfl, .inl ⟨rfl, rfl⟩⟩)
theorem zuk {t t2 : TypeId} {ms : Array (String × TypeId)} {x : Operand} (ht : P.underlying t = some (.interface ms)) (ho : o.op = .binOp .neq t x (.const .nilIface) t2) (hx : ev env x = some (.v .nilIface)) : Op1 P o env H n (.v (.bool false)) H :=
 zfy ht ho hx (.inl ⟨rfl, .inr ⟨rfl, rfl⟩⟩)
theorem zym {t e : TypeId} (ht : P.underlying t = some (.pointer e)) (x : Option Addr) (w : World) : (Op.equal t (.pointer x) (.pointer none)).run P w = .ok x.isNone w := by
 obtain ⟨d, hd⟩ := zmm t (.pointer x) (.pointer none)
 rw [hd]; cases x <;> simp [Op.equalIn, z1d ht]
def zrj : PV → Bool
 | .pt _ _ _ => true
 | .rf _ _ => true
 | _ => false
theorem zm0 {op : BinOp} {t t2 e : TypeId} {x : Operand} {p : PV} {r : Bool} (ht : P.underlying t = some (.pointer e)) (ho : o.op = .binOp op t x (.const (.pointer none)) t2) (hx : ev env x = some p)
 (hp : (p = .v (.pointer none) ∧ ((op = .eql ∧ r = true) ∨ (op = .neq ∧ r = false))) ∨ (zrj p = true ∧ ((op = .eql ∧ r = false) ∨ (op = .neq ∧ r = true)))) : Op1 P o env H n (.v (.bool r)) H :=
 z1a fun F g a w hr => by
  refine ⟨_, vr_v.2 rfl, ?_⟩
  have key : ∀ u, a.eval x = .pointer u → (op = .eql ∨ op = .neq) → (execOp a.eval o).run P w = .ok (.value (.bool (match op with | .eql => u.isNone | _ => !u.isNone))) w := by
   intro u hu hop
   have h2 := zym ht u w
   rcases hop with rfl | rfl <;> simp [execOp, ho, hu, z6k, eqGuard, binOp, h2]
  rcases hp with ⟨rfl, hp⟩ | ⟨hn, hp⟩
  ·rw [key none (hr.const hx) (by rcases hp with ⟨h, _⟩ | ⟨h, _⟩ <;> simp [h])]
   rcases hp with ⟨rfl, rfl⟩ | ⟨rfl, rfl⟩ <;> rfl
  ·have : ∃ ad, a.eval x = .pointer (some ad) := by
    cases p with
    | pt e q off => obtain ⟨b, o0, hu, _⟩ := vr_pt.1 (hr.opd hx); exact ⟨_, hu.1⟩
    | rf j off => obtain ⟨b, hu, _⟩ := vr_rf.1 (hr.opd hx); exact ⟨_, hu⟩
    | _ => cases hn
   obtain ⟨ad, hu⟩ := this
   rw [key _ hu (by rcases hp with ⟨h, _⟩ | ⟨h, _⟩ <;> simp [h])]
   rcases hp with ⟨rfl, rfl⟩ | ⟨rfl, rfl⟩ <;> rfl
theorem zus {t t2 e : TypeId} {x : Operand} (ht : P.underlying t = some (.pointer e)) (ho : o.op = .binOp .eql t x (.const (.pointer none)) t2) (hx : ev env x = some (.v (.pointer none))) : Op1 P o env H n (.v (.bool true)) H :=
 zm0 ht ho hx (.inl ⟨rfl, .inl ⟨rfl, rfl⟩⟩)
theorem zur {t t2 e : TypeId} {x : Operand} {p : PV} (ht : P.underlying t = some (.pointer e)) (ho : o.op = .binOp .eql t x (.const (.pointer none)) t2) (hx : ev env x = some p) (hp : zrj p = true) : Op1 P o env H n (.v (.bool false)) H :=
 zm0 ht ho hx (.inr ⟨hp, .inl ⟨rfl, rfl⟩⟩)
end Go.Proofs.YthidgpcbnieleaaGreatDoor.Aw
