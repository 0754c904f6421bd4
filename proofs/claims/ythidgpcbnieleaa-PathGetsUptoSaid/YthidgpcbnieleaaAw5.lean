/- Aw: the operations, one by one: numbers, texts, structs, interfaces, memory that is read. -/
import Derived.Test.YthidgpcbnieleaaAw4
import Derived.IntWalk
namespace Go.Proofs.Ythidgpcbnieleaa.Aw
open Go
set_option linter.unusedVariables false
set_option linter.unusedSimpArgs false
variable {P : Program} {F : Fr} {H H' : List AEnt} {g g' : List (Option Nat)} {w w' : World} {env : List (Nat × PV)} {n : Nat} {o : Oper}

abbrev Inf (P : Program) (t : TypeId) (z : Value) (n b : Nat) : Prop := (P.info? t).map (fun i => (i.zero, i.size, i.bytes)) = some (some z, n, b)
theorem Inf.spec {t : TypeId} {z : Value} {k b : Nat} (h : Inf P t z k b) : ∃ i, P.info? t = some i ∧ i.zero = some z ∧ i.size = k ∧ i.bytes = b := by
 obtain ⟨i, h1, h2⟩ := Option.map_eq_some_iff.1 h
 simp at h2
 exact ⟨i, h1, h2.1, h2.2.1, h2.2.2⟩
theorem Inf.cells {t : TypeId} {z : Value} {k b : Nat} (h : Inf P t z k b) : P.cellsOf t = k := by
 obtain ⟨i, h1, h2, h3, h4⟩ := h.spec
 simp [Program.cellsOf, h1, h3]
theorem Inf.run_size {t : TypeId} {z : Value} {k b : Nat} (h : Inf P t z k b) (w : World) : (Go.sizeOf t).run P w = .ok k w := by
 obtain ⟨i, h1, h2, h3, h4⟩ := h.spec
 simp [Go.sizeOf, typeInfo, h1, h3]
theorem Inf.run_zero {t : TypeId} {z : Value} {k b : Nat} (h : Inf P t z k b) (w : World) : (zeroValue t).run P w = .ok z w := by
 obtain ⟨i, h1, h2, h3, h4⟩ := h.spec
 simp [zeroValue, typeInfo, h1, h2]
theorem z13 {t : TypeId} {d : TypeDesc} (h : P.underlying t = some d) (w : World) : (Go.underlying t).run P w = .ok d w := by simp [Go.underlying, h]

theorem z17 {x : PV} (h : ∀ F g a w, Rel P F ⟨env, H, n⟩ a w g → ∃ u, VR (ctx P F H g w) x u ∧ (execOp a.eval o).run P w = .ok (.value u) w) : Op1 P o env H n x H := by
 intro F g a w hr Kn Q hK
 obtain ⟨u, h1, h2⟩ := h F g a w hr
 unfold Oper.wp
 rw [h2]
 exact hK u w g h1 hr.rel .refl

theorem z9i {x : Operand} {p : PV} (ho : o.op = .move x) (h : ev env x = some p) : Op1 P o env H n p H :=
 z17 fun F g a w hr => ⟨_, hr.opd h, by simp [execOp, ho]⟩
theorem z5r {x : Operand} {p : PV} (ho : o.op = .assign x) (h : ev env x = some p) : Op1 P o env H n p H :=
 z17 fun F g a w hr => ⟨_, hr.opd h, by simp [execOp, ho]⟩
theorem z78 {c x y : Operand} {p : PV} (ho : o.op = .pick c x y) (hc : ev env c = some (.v (.bool true))) (h : ev env x = some p) : Op1 P o env H n p H :=
 z17 fun F g a w hr => ⟨_, hr.opd h, by simp [execOp, ho, hr.const hc, asBool]⟩
theorem z79 {c x y : Operand} {p : PV} (ho : o.op = .pick c x y) (hc : ev env c = some (.v (.bool false))) (h : ev env y = some p) : Op1 P o env H n p H :=
 z17 fun F g a w hr => ⟨_, hr.opd h, by simp [execOp, ho, hr.const hc, asBool]⟩
theorem z8j {op : BinOp} {t t2 : TypeId} {x y : Operand} {a b v : Value} (ho : o.op = .binOp op t x y t2) (hx : ev env x = some (.v a)) (hy : ev env y = some (.v b))
 (hrun : ∀ w, (do eqGuard op t x y a b; binOp op t a b : Sem Value).run P w = .ok v w) : Op1 P o env H n (.v v) H :=
 z17 fun F g ac w hr => by
  refine ⟨v, vr_v.2 rfl, ?_⟩
  have h := hrun w
  simp only [execOp, ho, hr.const hx, hr.const hy]
  simp only [Sem.run_bind] at h ⊢
  rw [h]; rfl
theorem zin {op : BinOp} {t t2 : TypeId} {x y : Operand} {k : IntKind} {a b r : Int} (ho : o.op = .binOp op t x y t2) (hx : ev env x = some (.v (.int k a))) (hy : ev env y = some (.v (.int k b)))
 (hop : (match op with | .add => some (k.wrap (a + b)) | .sub => some (k.wrap (a - b)) | .mul => some (k.wrap (a * b)) | _ => none) = some r) : Op1 P o env H n (.v (.int k r)) H := by
 refine z8j ho hx hy (fun w => ?_)
 cases op <;> simp at hop <;> subst hop <;> simp [eqGuard, binOp, Op.intArith]
theorem z9j {t t2 : TypeId} {x y : Operand} {k : IntKind} {a b : Int} (ho : o.op = .binOp .add t x y t2) (hx : ev env x = some (.v (.int k a))) (hy : ev env y = some (.v (.int k b))) :
 Op1 P o env H n (.v (.int k (k.wrap (a + b)))) H := zin ho hx hy rfl
theorem zlb {t t2 : TypeId} {x y : Operand} {k : IntKind} {a b : Int} (ho : o.op = .binOp .sub t x y t2) (hx : ev env x = some (.v (.int k a))) (hy : ev env y = some (.v (.int k b))) :
 Op1 P o env H n (.v (.int k (k.wrap (a - b)))) H := zin ho hx hy rfl
theorem za3 {x : Int} (h1 : -9223372036854775808 ≤ x) (h2 : x ≤ 9223372036854775807) : IntKind.i64.wrap x = x := IntWalk.i64_in x ⟨h1, h2⟩
theorem zxq {t t2 : TypeId} {x y : Operand} {a b : Int} (ho : o.op = .binOp .add t x y t2) (hx : ev env x = some (.v (.int .i64 a))) (hy : ev env y = some (.v (.int .i64 b)))
 (h1 : -9223372036854775808 ≤ a + b ∧ a + b ≤ 9223372036854775807) : Op1 P o env H n (.v (.int .i64 (a + b))) H := by
 refine z8j ho hx hy (fun w => ?_)
 simp [eqGuard, binOp, Op.intArith, za3 h1.1 h1.2]
def Z2r : BinOp → Int → Int → Option Bool
 | .eql, a, b => some (a == b)
 | .neq, a, b => some (a != b)
 | .lss, a, b => some (decide (a < b))
 | .leq, a, b => some (decide (a ≤ b))
 | .gtr, a, b => some (decide (a > b))
 | .geq, a, b => some (decide (a ≥ b))
 | _, _, _ => none
theorem zd6 {op : BinOp} {t t2 : TypeId} {x y : Operand} {k : IntKind} {a b : Int} {r : Bool} (ho : o.op = .binOp op t x y t2) (hx : ev env x = some (.v (.int k a))) (hy : ev env y = some (.v (.int k b)))
 (hop : Z2r op a b = some r) : Op1 P o env H n (.v (.bool r)) H := by
 refine z8j ho hx hy (fun w => ?_)
 cases op <;> simp only [Z2r] at hop <;> cases hop <;> simp [eqGuard, binOp, Op.intCmp]
def cmpS : BinOp → ByteArray → ByteArray → Option Bool
 | .eql, a, b => some (a.toList == b.toList)
 | .neq, a, b => some (!(a.toList == b.toList))
 | .lss, a, b => some (Op.bytesLess a.toList b.toList)
 | .leq, a, b => some (Op.bytesLess a.toList b.toList || a.toList == b.toList)
 | .gtr, a, b => some (!(Op.bytesLess a.toList b.toList || a.toList == b.toList))
 | .geq, a, b => some (!(Op.bytesLess a.toList b.toList))
 | _, _, _ => none
theorem zu7 {op : BinOp} {t t2 : TypeId} {x y : Operand} {a b : ByteArray} {r : Bool} (ho : o.op = .binOp op t x y t2) (hx : ev env x = some (.v (.string a))) (hy : ev env y = some (.v (.string b)))
 (hop : cmpS op a b = some r) : Op1 P o env H n (.v (.bool r)) H := by
 refine z8j ho hx hy (fun w => ?_)
 cases op <;> simp only [cmpS] at hop <;> cases hop <;> simp [eqGuard, binOp, Op.stringOp]
theorem zlz (t : TypeId) (x y : Value) : ∃ d, Op.equal t x y = Op.equalIn (d + 1) t x y := ⟨9999, rfl⟩
theorem zxa {t : TypeId} {a b : Bool} (ht : P.underlying t = some .bool) (w : World) : (Op.equal t (.bool a) (.bool b)).run P w = .ok (a == b) w := by
 obtain ⟨d, hd⟩ := zlz t (.bool a) (.bool b)
 rw [hd]; simp [Op.equalIn, z13 ht]
theorem zxo {t t2 : TypeId} {x y : Operand} {a b : Bool} (ht : P.underlying t = some .bool) (ho : o.op = .binOp .eql t x y t2) (hx : ev env x = some (.v (.bool a))) (hy : ev env y = some (.v (.bool b))) :
 Op1 P o env H n (.v (.bool (a == b))) H := by
 refine z8j ho hx hy (fun w => ?_)
 simp [eqGuard, binOp, zxa ht]
theorem zd1 {t : TypeId} {x : Operand} {b : Bool} (ho : o.op = .unOp .not t x) (hx : ev env x = some (.v (.bool b))) : Op1 P o env H n (.v (.bool (!b))) H :=
 z17 fun F g a w hr => ⟨_, vr_v.2 rfl, by simp [execOp, ho, hr.const hx, Op.unary]⟩
theorem zxj {t t2 : TypeId} {x y : Operand} {k k2 : IntKind} {a b : Int} (ho : o.op = .binOp .shr t x y t2) (hx : ev env x = some (.v (.int k a))) (hy : ev env y = some (.v (.int k2 b))) (hb : 0 ≤ b) :
 Op1 P o env H n (.v (.int k (a.fdiv (2 ^ (min b.toNat k.bits))))) H := by
 refine z8j ho hx hy (fun w => ?_)
 have : ¬ b < 0 := by omega
 simp [eqGuard, binOp, Op.shift, this]
theorem zxk {t t2 : TypeId} {x y : Operand} {k : IntKind} {a b : Int} (ho : o.op = .binOp .rem t x y t2) (hx : ev env x = some (.v (.int k a))) (hy : ev env y = some (.v (.int k b))) (hb : b ≠ 0) :
 Op1 P o env H n (.v (.int k (a.tmod b))) H := by
 refine z8j ho hx hy (fun w => ?_)
 simp [eqGuard, binOp, Op.intDiv, hb]
theorem zil {s d : TypeId} {x : Operand} {k k2 : IntKind} {ds : TypeDesc} {i : Int} (hs : P.underlying s = some ds) (hd : P.underlying d = some (.int k2)) (ho : o.op = .convert s d x) (hx : ev env x = some (.v (.int k i))) :
 Op1 P o env H n (.v (.int k2 (k2.wrap i))) H :=
 z17 fun F g a w hr => ⟨_, vr_v.2 rfl, by simp [execOp, ho, hr.const hx, convert, z13 hs, z13 hd, Conv.intToInt]⟩
theorem zty {args : List Operand} {types : Array TypeId} {x y : Operand} {k : IntKind} {a b : Int} (ho : o.op = .call { callee := .builtin .max, args := #[x, y], argTypes := types }) (hx : ev env x = some (.v (.int k a))) (hy : ev env y = some (.v (.int k b))) :
 Op1 P o env H n (.v (.int k (if b > a then b else a))) H :=
 z17 fun F g ac w hr => ⟨_, vr_v.2 rfl, by simp [execOp, ho, resolve, invoke, builtin, hr.const hx, hr.const hy, Builtin.max_, Builtin.max2]⟩
theorem zu0 {t : TypeId} {x y : Operand} {k : IntKind} {s : ByteArray} {i : Int} (ht : P.underlying t = some .string) (ho : o.op = .index t x y) (hx : ev env x = some (.v (.string s))) (hy : ev env y = some (.v (.int k i)))
 {b : UInt8} (h0 : 0 ≤ i) (hb : s[i.toNat]? = some b) : Op1 P o env H n (.v (.int .u8 b.toNat)) H :=
 z17 fun F g a w hr => ⟨_, vr_v.2 rfl, by simp [execOp, ho, hr.const hx, hr.const hy, Instr.index, asIntOf, z13 ht, h0, hb]⟩
theorem ztz {x : Operand} {t : TypeId} {s : ByteArray} (ht : P.underlying t = some .string) (ho : o.op = .call { callee := .builtin .len, args := #[x], argTypes := #[t] }) (hx : ev env x = some (.v (.string s))) :
 Op1 P o env H n (.v (.int .i64 s.size)) H :=
 z17 fun F g a w hr => ⟨_, vr_v.2 rfl, by simp [execOp, ho, resolve, invoke, builtin, hr.const hx, Builtin.len_, z13 ht, goInt]⟩

theorem zxl {x : Operand} {t e : TypeId} {tk : Option Nat} {sz : Nat} {xs : List PV} (ht : P.underlying t = some (.slice e)) (ho : o.op = .call { callee := .builtin .len, args := #[x], argTypes := #[t] }) (hx : ev env x = some (.sl tk e sz xs)) :
 Op1 P o env H n (.v (.int .i64 xs.length)) H :=
 z17 fun F g a w hr => by
  obtain ⟨A, c, hu, _⟩ := vr_sl.1 (hr.opd hx)
  exact ⟨_, vr_v.2 rfl, by simp [execOp, ho, resolve, invoke, builtin, hu, Builtin.len_, z13 ht, goInt]⟩
theorem z1m (b off k : Nat) : (⟨b, off, none⟩ : Addr).add k = ⟨b, off + k, none⟩ := by unfold Addr.add; split <;> simp_all
theorem zqz {x y : Operand} {t e : TypeId} {tk : Option Nat} {sz by_ : Nat} {z : Value} {xs : List PV} {i : Int} {p : PV} {k : IntKind} (ht : P.underlying t = some (.slice e)) (hi : Inf P e z sz by_) (ho : o.op = .indexAddr t x y)
 (hx : ev env x = some (.sl tk e sz xs)) (hy : ev env y = some (.v (.int k i))) (h0 : 0 ≤ i) (hp : xs[i.toNat]? = some p) : Op1 P o env H n (.pt e p 0) H :=
 z17 fun F g a w hr => by
  obtain ⟨A, c, hu, hc, _, hxs⟩ := vr_sl.1 (hr.opd hx)
  obtain ⟨h1, b, off, h2, h3⟩ := hxs _ _ hp
  have hlt := z0a hp
  have hlt' : i < xs.length := by omega
  subst h2
  refine ⟨.pointer (some ⟨b, off + i.toNat * sz, none⟩), vr_pt.2 ⟨b, off + i.toNat * sz, ⟨by simp, Z5b hc.2 (fun q hq => ⟨q + i.toNat, by rw [hq, h1, Nat.add_mul]⟩) (by rw [h1, Nat.add_assoc, ← Nat.succ_mul]; exact Nat.add_le_add_left (Nat.mul_le_mul_right _ (by omega)) _)⟩, fun j q hq => ?_⟩, ?_⟩
  ·obtain ⟨u, h4, h5⟩ := h3 j q hq
   exact ⟨u, by rw [Nat.add_assoc]; exact h4, h5⟩
  ·simp [execOp, ho, hu, hr.const hy, Instr.indexAt, asIntOf, z13 ht, h0, hlt', hi.run_size, z1m]

theorem zc8 {t : TypeId} {d : TypeDesc} {b off : Nat} {v : Value} (hd : P.underlying t = some d) (hs : zgm d = false) (hc : w.cell? ⟨b, off, none⟩ = some v) : (Instr.loadAt t (.pointer (some ⟨b, off, none⟩))).run P w = .ok v w := by
 simp only [Instr.loadAt, Instr.sureAddr, Sem.run_bind, Sem.run_pure, Result.andThen_ok]
 exact z72 hd hs hc
theorem zh1 {t : TypeId} {d : TypeDesc} {b off : Nat} {cs : List Value} (hd : P.underlying t = some d) (hs : zgm d = true) (hn : P.cellsOf t = cs.length) (hc : ∀ (j : Nat) (v : Value), cs[j]? = some v → w.cell? ⟨b, off + j, none⟩ = some v) :
 (Instr.loadAt t (.pointer (some ⟨b, off, none⟩))).run P w = .ok (.agg cs.toArray) w := by
 simp only [Instr.loadAt, Instr.sureAddr, Sem.run_bind, Sem.run_pure, Result.andThen_ok]
 exact z73 hd hs hn (fun j v hj => by rw [z1m]; exact hc j v hj)
theorem z8s {C : Ctx} {Q : Nat → Value → Prop} : ∀ {cs : List PV}, (∀ (j : Nat) (y : PV), cs[j]? = some y → ∃ u, Q j u ∧ VR C y u) → ∃ us : List Value, us.length = cs.length ∧ (∀ (j : Nat) (u : Value), us[j]? = some u → Q j u) ∧
 ∀ (j : Nat) (y : PV), cs[j]? = some y → ∃ u, us[j]? = some u ∧ VR C y u := by
 intro cs
 induction cs generalizing Q with
 | nil => intro _; exact ⟨[], rfl, by simp, by simp⟩
 | cons c r ih =>
  intro h
  obtain ⟨u, h1, h2⟩ := h 0 c rfl
  obtain ⟨us, h3, h4, h5⟩ := ih (Q := fun j => Q (j + 1)) (fun j y hy => h (j + 1) y (by simpa using hy))
  refine ⟨u :: us, by simp [h3], fun j u' hu => ?_, fun j y hy => ?_⟩
  ·cases j with
   | zero => simp at hu; subst hu; exact h1
   | succ j => exact h4 j u' (by simpa using hu)
  ·cases j with
   | zero => simp at hy; subst hy; exact ⟨u, by simp, h2⟩
   | succ j => simpa using h5 j y (by simpa using hy)
theorem z6j {x : Operand} {t e : TypeId} {d : TypeDesc} {q y : PV} {off : Nat} (hd : P.underlying t = some d) (hs : zgm d = false) (ho : o.op = .load t x) (hx : ev env x = some (.pt e q off)) (hy : q.cells[off]? = some y) : Op1 P o env H n y H :=
 z17 fun F g a w hr => by
  obtain ⟨b, o0, hu, hq⟩ := vr_pt.1 (hr.opd hx)
  obtain ⟨u, h1, h2⟩ := hq off y hy
  exact ⟨u, h2, by simp [execOp, ho, hu, zc8 hd hs h1.2]⟩
theorem zlf {x : Operand} {t e : TypeId} {d : TypeDesc} {q : PV} {off k b_ : Nat} {z : Value} {cs : List PV} (hi : Inf P t z k b_) (hd : P.underlying t = some d) (hs : zgm d = true) (ho : o.op = .load t x) (hx : ev env x = some (.pt e q off))
 (hcs : (q.cells.drop off).take k = cs) (hk : cs.length = k) : Op1 P o env H n (.agg cs) H :=
 z17 fun F g a w hr => by
  obtain ⟨b, o0, hu, hq⟩ := vr_pt.1 (hr.opd hx)
  have hpt : ∀ (j : Nat) (y : PV), cs[j]? = some y → ∃ u, w.cell? ⟨b, o0 + off + j, none⟩ = some u ∧ VR (ctx P F H g w) y u := by
   intro j y hy
   have hj := z0a hy
   have : q.cells[off + j]? = some y := by
    rw [← hcs, List.getElem?_take] at hy
    split at hy
    ·simpa [List.getElem?_drop] using hy
    ·cases hy
   obtain ⟨u, h1, h2⟩ := hq _ _ this
   exact ⟨u, by rw [Nat.add_assoc]; exact h1.2, h2⟩
  obtain ⟨us, h1, h2, h3⟩ := z8s hpt
  refine ⟨.agg us.toArray, vr_agg.2 ⟨us, rfl, h1, h3⟩, ?_⟩
  simp [execOp, ho, hu, zh1 hd hs (by rw [hi.cells, h1, hk]) h2]
theorem zle {x : Operand} {t e : TypeId} {d : TypeDesc} {q : PV} {k b_ : Nat} {z : Value} {cs : List PV} (hi : Inf P t z k b_) (hd : P.underlying t = some d) (hs : zgm d = true) (ho : o.op = .load t x) (hx : ev env x = some (.pt e q 0))
 (hcs : q = .agg cs) (hk : cs.length = k) : Op1 P o env H n q H := by
 subst hcs
 exact zlf (off := 0) hi hd hs ho hx (by simp [PV.cells, ← hk]) hk
theorem zxm {x : Operand} {t ty : TypeId} {d : TypeDesc} {i off : Nat} {cs : List PV} {y : PV} (hd : P.underlying t = some d) (hs : zgm d = false) (ho : o.op = .load t x) (hx : ev env x = some (.rf i off)) (hi : H[i]? = some (.box ty cs)) (hy : cs[off]? = some y) : Op1 P o env H n y H :=
 z17 fun F g a w hr => by
  obtain ⟨b, hu, hR⟩ := vr_rf.1 (hr.opd hx)
  obtain ⟨b', cells, h1, h2, h3, h4⟩ := hr.rel.box i ty cs hi
  rw [hR.1] at h1; injection h1 with h1; injection h1 with h1; subst h1
  obtain ⟨u, h5, h6⟩ := h4 off y hy
  exact ⟨u, h6, by simp [execOp, ho, hu, zc8 hd hs (show w.cell? ⟨b, off, none⟩ = some u by rw [z1p h2]; exact h5)]⟩
theorem zld {x : Operand} {t ty : TypeId} {d : TypeDesc} {i off k b_ : Nat} {z : Value} {cs ds : List PV} (hinf : Inf P t z k b_) (hd : P.underlying t = some d) (hs : zgm d = true) (ho : o.op = .load t x) (hx : ev env x = some (.rf i off)) (hi : H[i]? = some (.box ty cs))
 (hcs : (cs.drop off).take k = ds) (hk : ds.length = k) : Op1 P o env H n (.agg ds) H :=
 z17 fun F g a w hr => by
  obtain ⟨b, hu, hR⟩ := vr_rf.1 (hr.opd hx)
  obtain ⟨b', cells, h1, h2, h3, h4⟩ := hr.rel.box i ty cs hi
  rw [hR.1] at h1; injection h1 with h1; injection h1 with h1; subst h1
  have hpt : ∀ (j : Nat) (y : PV), ds[j]? = some y → ∃ u, w.cell? ⟨b, off + j, none⟩ = some u ∧ VR (ctx P F H g w) y u := by
   intro j y hy
   have : cs[off + j]? = some y := by
    rw [← hcs, List.getElem?_take] at hy
    split at hy
    ·simpa [List.getElem?_drop] using hy
    ·cases hy
   obtain ⟨u, h5, h6⟩ := h4 _ _ this
   exact ⟨u, by rw [z1p h2]; exact h5, h6⟩
  obtain ⟨us, h5, h6, h7⟩ := z8s hpt
  refine ⟨.agg us.toArray, vr_agg.2 ⟨us, rfl, h5, h7⟩, ?_⟩
  simp [execOp, ho, hu, zh1 hd hs (by rw [hinf.cells, h5, hk]) h6]
structure IsStruct (P : Program) (t : TypeId) (fs : Array Field) (pl : List (Nat × Nat)) : Prop where
 und : P.underlying t = some (.struct fs)
 pl : fs.toList.map (fun f => (f.offset, P.cellsOf f.type)) = pl
 ok : fs.toList.all (fun f => (P.info? f.type).isSome && P.cellsOf f.type != 0) = true
theorem IsStruct.field {t : TypeId} {fs : Array Field} {pl : List (Nat × Nat)} (h : IsStruct P t fs pl) {i k s : Nat} (hk : pl[i]? = some (k, s)) : ∃ f, fs[i]? = some f ∧ f.offset = k ∧ P.cellsOf f.type = s ∧ (∃ inf, P.info? f.type = some inf) ∧ P.cellsOf f.type ≠ 0 := by
 have hp := h.pl
 subst hp
 rw [List.getElem?_map, Option.map_eq_some_iff] at hk
 obtain ⟨f, h1, h2⟩ := hk
 simp at h2
 have h3 := List.all_eq_true.1 h.ok f (List.mem_of_getElem? h1)
 simp at h3
 exact ⟨f, by simpa using h1, h2.1, h2.2, Option.isSome_iff_exists.1 h3.1, h3.2⟩
theorem z8f {t : TypeId} {fs : Array Field} {pl : List (Nat × Nat)} (h : IsStruct P t fs pl) {i k s : Nat} (hk : pl[i]? = some (k, s)) (b off : Nat) (w : World) :
 (Instr.fieldAt t (.pointer (some ⟨b, off, none⟩)) i).run P w = .ok (.pointer (some ⟨b, off + k, none⟩)) w := by
 obtain ⟨f, h1, h2, h3, ⟨inf, h4⟩, h5⟩ := h.field hk
 have hsz : (Go.sizeOf f.type).run P w = .ok (P.cellsOf f.type) w := by simp [Go.sizeOf, typeInfo, h4, Program.cellsOf]
 simp [Instr.fieldAt, z13 h.und, h1, Instr.sureAddr, fieldPlace, hsz, h5, z1m, h2]
theorem zfx {x : Operand} {t e : TypeId} {fs : Array Field} {pl : List (Nat × Nat)} {i k s off : Nat} {q : PV} (h : IsStruct P t fs pl) (hk : pl[i]? = some (k, s)) (ho : o.op = .fieldAddr t x i) (hx : ev env x = some (.pt e q off)) : Op1 P o env H n (.pt e q (off + k)) H :=
 z17 fun F g a w hr => by
  obtain ⟨b, o0, hu, hq⟩ := vr_pt.1 (hr.opd hx)
  exact ⟨_, vr_pt.2 ⟨b, o0, ⟨by rw [← Nat.add_assoc], hu.2⟩, hq⟩, by simp [execOp, ho, hu.1, z8f h hk]⟩
theorem zr3 {x : Operand} {t : TypeId} {fs : Array Field} {pl : List (Nat × Nat)} {i k s j off : Nat} (h : IsStruct P t fs pl) (hk : pl[i]? = some (k, s)) (ho : o.op = .fieldAddr t x i) (hx : ev env x = some (.rf j off)) : Op1 P o env H n (.rf j (off + k)) H :=
 z17 fun F g a w hr => by
  obtain ⟨b, hu, hR⟩ := vr_rf.1 (hr.opd hx)
  exact ⟨_, vr_rf.2 ⟨b, rfl, hR⟩, by simp [execOp, ho, hu, z8f h hk]⟩
theorem ztx {x : Operand} {e : TypeId} {q : PV} {off : Nat} (ho : o.op = .nilCheck x) (hx : ev env x = some (.pt e q off)) : Op1 P o env H n (.pt e q off) H :=
 z17 fun F g a w hr => by
  obtain ⟨b, o0, hu, hq⟩ := vr_pt.1 (hr.opd hx)
  exact ⟨_, vr_pt.2 ⟨b, o0, ⟨rfl, hu.2⟩, hq⟩, by simp [execOp, ho, hu.1]⟩
theorem z6h {x : Operand} {j off : Nat} (ho : o.op = .nilCheck x) (hx : ev env x = some (.rf j off)) : Op1 P o env H n (.rf j off) H :=
 z17 fun F g a w hr => by
  obtain ⟨b, hu, hR⟩ := vr_rf.1 (hr.opd hx)
  exact ⟨_, vr_rf.2 ⟨b, rfl, hR⟩, by simp [execOp, ho, hu]⟩
theorem z1q {x : Operand} {t : TypeId} {d : TypeDesc} {p : PV} (hd : P.underlying t = some d) (hi : (match d with | .interface _ => true | _ => false) = false) (ho : o.op = .makeInterface t x) (hx : ev env x = some p) : Op1 P o env H n (.iface t p) H :=
 z17 fun F g a w hr => by
  refine ⟨.iface t (a.eval x), vr_iface.2 ⟨_, rfl, hr.opd hx⟩, ?_⟩
  simp only [execOp, ho, Instr.makeInterface]
  simp only [Sem.run_bind, z13 hd, Result.andThen_ok]
  cases d <;> first | rfl | cases hi
def z6m : TypeDesc → Bool
 | .interface _ => false
 | _ => true
theorem zl2 {x : Value} {xt t : TypeId} {d : TypeDesc} {z : Value} {k b : Nat} (hd : P.underlying t = some d) (hn : z6m d = true) (hi : Inf P t z k b) (w : World) :
 (Instr.typeAssert x xt t true).run P w = match x with
  | .nilIface => .ok (.tuple #[z, .bool false]) w
  | .iface u v => if u = t then .ok (.tuple #[v, .bool true]) w else .ok (.tuple #[z, .bool false]) w
  | _ => (Instr.typeAssert x xt t true).run P w := by
 cases x with
 | nilIface =>
  simp only [Instr.typeAssert, Sem.run_bind, z13 hd, Result.andThen_ok]
  cases d <;> first | (simp [hi.run_zero]; done) | (simp [z6m] at hn; done)
 | iface u v =>
  simp only [Instr.typeAssert, Sem.run_bind, z13 hd, Result.andThen_ok]
  cases d <;> first | (simp [z6m] at hn; done) | (by_cases h : u = t <;> simp [h, hi.run_zero])
 | _ => rfl
theorem z6e {x : Operand} {xt t : TypeId} {d : TypeDesc} {z : Value} {k b : Nat} {p : PV} (hd : P.underlying t = some d) (hn : z6m d = true) (hi : Inf P t z k b) (ho : o.op = .typeAssert x xt t true) (hx : ev env x = some (.iface t p)) :
 Op1 P o env H n (.tup [p, .v (.bool true)]) H :=
 z17 fun F g a w hr => by
  obtain ⟨u, hu, hv⟩ := vr_iface.1 (hr.opd hx)
  refine ⟨.tuple #[u, .bool true], vr_tup.2 ⟨[u, .bool true], rfl, rfl, fun i y hy => ?_⟩, ?_⟩
  ·match i, hy with
   | 0, hy => simp at hy; subst hy; exact ⟨u, rfl, hv⟩
   | 1, hy => simp at hy; subst hy; exact ⟨_, rfl, vr_v.2 rfl⟩
  ·simp [execOp, ho, hu, zl2 hd hn hi]
theorem zvl {C : Ctx} {z : Value} : VR C (.tup [.v z, .v (.bool false)]) (.tuple #[z, .bool false]) :=
 vr_tup.2 ⟨[z, .bool false], rfl, rfl, fun i y hy => by
  match i, hy with
  | 0, hy => simp at hy; subst hy; exact ⟨z, rfl, vr_v.2 rfl⟩
  | 1, hy => simp at hy; subst hy; exact ⟨_, rfl, vr_v.2 rfl⟩⟩
theorem z2v {x : Operand} {xt t u : TypeId} {d : TypeDesc} {z : Value} {k b : Nat} {p : PV} (hd : P.underlying t = some d) (hn : z6m d = true) (hi : Inf P t z k b) (ho : o.op = .typeAssert x xt t true) (hx : ev env x = some (.iface u p))
 (hne : Nat.beq u t = false) : Op1 P o env H n (.tup [.v z, .v (.bool false)]) H :=
 z17 fun F g a w hr => by
  obtain ⟨v, hu, hv⟩ := vr_iface.1 (hr.opd hx)
  have : ¬ u = t := fun e => by subst e; simp at hne
  exact ⟨_, zvl, by simp [execOp, ho, hu, zl2 hd hn hi, this]⟩
theorem z6f {x : Operand} {xt t : TypeId} {d : TypeDesc} {z : Value} {k b : Nat} (hd : P.underlying t = some d) (hn : z6m d = true) (hi : Inf P t z k b) (ho : o.op = .typeAssert x xt t true) (hx : ev env x = some (.v .nilIface)) :
 Op1 P o env H n (.tup [.v z, .v (.bool false)]) H :=
 z17 fun F g a w hr => ⟨_, zvl, by simp [execOp, ho, hr.const hx, zl2 hd hn hi]⟩
theorem z35 {x : Operand} {i : Nat} {vs : List PV} {p : PV} (ho : o.op = .extract x i) (hx : ev env x = some (.tup vs)) (hp : vs[i]? = some p) : Op1 P o env H n p H :=
 z17 fun F g a w hr => by
  obtain ⟨us, hu, hl, hc⟩ := vr_tup.1 (hr.opd hx)
  obtain ⟨u, h1, h2⟩ := hc i p hp
  exact ⟨u, h2, by simp [execOp, ho, hu, Instr.extract, h1]⟩
theorem z5x (a : Act) (v : Value) : a.eval (.const v) = v := rfl
def ziw : Value → Bool
 | .nilIface => true
 | _ => false
theorem zx9 {t : TypeId} {ms : Array (String × TypeId)} (ht : P.underlying t = some (.interface ms)) (x : Value) (w : World) (hx : (∃ u v, x = .iface u v) ∨ x = .nilIface) :
 (Op.equal t x .nilIface).run P w = .ok (ziw x) w := by
 obtain ⟨d, hd⟩ := zlz t x .nilIface
 rw [hd]; rcases hx with ⟨u, v, rfl⟩ | rfl <;> simp [Op.equalIn, z13 ht, ziw]
theorem zy5 {op : BinOp} {t : TypeId} {x : Operand} {u : Value} (w : World) (hu : (∃ t v, u = .iface t v) ∨ u = .nilIface) : (eqGuard op t x (.const .nilIface) u .nilIface).run P w = .ok () w := by
 cases op <;> rcases hu with ⟨u, v, rfl⟩ | rfl <;> simp [eqGuard]
theorem zlh {op : BinOp} {t t2 : TypeId} {ms : Array (String × TypeId)} {x : Operand} {p : PV} {r : Bool} (ht : P.underlying t = some (.interface ms)) (ho : o.op = .binOp op t x (.const .nilIface) t2) (hx : ev env x = some p)
 (hp : (p = .v .nilIface ∧ ((op = .eql ∧ r = true) ∨ (op = .neq ∧ r = false))) ∨ ∃ u q, p = .iface u q ∧ ((op = .eql ∧ r = false) ∨ (op = .neq ∧ r = true))) : Op1 P o env H n (.v (.bool r)) H :=
 z17 fun F g a w hr => by
  refine ⟨_, vr_v.2 rfl, ?_⟩
  have key : ∀ u, a.eval x = u → ((∃ t v, u = .iface t v) ∨ u = .nilIface) → (op = .eql ∨ op = .neq) →
   (execOp a.eval o).run P w = .ok (.value (.bool (match op with | .eql => ziw u | _ => !(ziw u)))) w := by
   intro u hu hk hop
   have h1 := zy5 (P := P) (op := op) (t := t) (x := x) w hk
   have h2 := zx9 ht u w hk
   rcases hop with rfl | rfl <;> rcases hk with ⟨t', v, rfl⟩ | rfl <;> simp [execOp, ho, hu, z5x, h1, binOp, h2, ziw]
  rcases hp with ⟨rfl, hp⟩ | ⟨u, q, rfl, hp⟩
  ·rw [key .nilIface (hr.const hx) (.inr rfl) (by rcases hp with ⟨h, _⟩ | ⟨h, _⟩ <;> simp [h])]
   rcases hp with ⟨rfl, rfl⟩ | ⟨rfl, rfl⟩ <;> rfl
  ·obtain ⟨v, hu, hv⟩ := vr_iface.1 (hr.opd hx)
   rw [key _ hu (.inl ⟨_, _, rfl⟩) (by rcases hp with ⟨h, _⟩ | ⟨h, _⟩ <;> simp [h])]
   rcases hp with ⟨rfl, rfl⟩ | ⟨rfl, rfl⟩ <;> rfl
theorem zu4 {t t2 : TypeId} {ms : Array (String × TypeId)} {x : Operand} (ht : P.underlying t = some (.interface ms)) (ho : o.op = .binOp .eql t x (.const .nilIface) t2) (hx : ev env x = some (.v .nilIface)) : Op1 P o env H n (.v (.bool true)) H :=
 zlh ht ho hx (.inl ⟨rfl, .inl ⟨rfl, rfl⟩⟩)
theorem zu3 {t t2 u : TypeId} {ms : Array (String × TypeId)} {x : Operand} {p : PV} (ht : P.underlying t = some (.interface ms)) (ho : o.op = .binOp .eql t x (.const .nilIface) t2) (hx : ev env x = some (.iface u p)) : Op1 P o env H n (.v (.bool false)) H :=
 zlh ht ho hx (.inr ⟨u, p, rfl, .inl ⟨rfl, rfl⟩⟩)
theorem zou {t e : TypeId} (ht : P.underlying t = some (.pointer e)) (x : Option Addr) (w : World) : (Op.equal t (.pointer x) (.pointer none)).run P w = .ok x.isNone w := by
 obtain ⟨d, hd⟩ := zlz t (.pointer x) (.pointer none)
 rw [hd]; cases x <;> simp [Op.equalIn, z13 ht]
def zr9 : PV → Bool
 | .pt _ _ _ => true
 | .rf _ _ => true
 | _ => false
theorem zlg {op : BinOp} {t t2 e : TypeId} {x : Operand} {p : PV} {r : Bool} (ht : P.underlying t = some (.pointer e)) (ho : o.op = .binOp op t x (.const (.pointer none)) t2) (hx : ev env x = some p)
 (hp : (p = .v (.pointer none) ∧ ((op = .eql ∧ r = true) ∨ (op = .neq ∧ r = false))) ∨ (zr9 p = true ∧ ((op = .eql ∧ r = false) ∨ (op = .neq ∧ r = true)))) : Op1 P o env H n (.v (.bool r)) H :=
 z17 fun F g a w hr => by
  refine ⟨_, vr_v.2 rfl, ?_⟩
  have key : ∀ u, a.eval x = .pointer u → (op = .eql ∨ op = .neq) → (execOp a.eval o).run P w = .ok (.value (.bool (match op with | .eql => u.isNone | _ => !u.isNone))) w := by
   intro u hu hop
   have h2 := zou ht u w
   rcases hop with rfl | rfl <;> simp [execOp, ho, hu, z5x, eqGuard, binOp, h2]
  rcases hp with ⟨rfl, hp⟩ | ⟨hn, hp⟩
  ·rw [key none (hr.const hx) (by rcases hp with ⟨h, _⟩ | ⟨h, _⟩ <;> simp [h])]
   rcases hp with ⟨rfl, rfl⟩ | ⟨rfl, rfl⟩ <;> rfl
  ·have : ∃ ad, a.eval x = .pointer (some ad) := by
    cases p with
    | pt e q off => obtain ⟨b, o0, hu, _⟩ := vr_pt.1 (hr.opd hx); exact ⟨_, hu.1⟩
    | rf j off => obtain ⟨b, hu, _⟩ := vr_rf.1 (hr.opd hx); exact ⟨_, hu⟩
    | _ => cases hn
   obtain ⟨ad, hu⟩ := this
   rw [key _ hu (by rcases hp with ⟨h, _⟩ | ⟨h, _⟩ <;> simp [h])]
   rcases hp with ⟨rfl, rfl⟩ | ⟨rfl, rfl⟩ <;> rfl
theorem zu2 {t t2 e : TypeId} {x : Operand} (ht : P.underlying t = some (.pointer e)) (ho : o.op = .binOp .eql t x (.const (.pointer none)) t2) (hx : ev env x = some (.v (.pointer none))) : Op1 P o env H n (.v (.bool true)) H :=
 zlg ht ho hx (.inl ⟨rfl, .inl ⟨rfl, rfl⟩⟩)
theorem zu1 {t t2 e : TypeId} {x : Operand} {p : PV} (ht : P.underlying t = some (.pointer e)) (ho : o.op = .binOp .eql t x (.const (.pointer none)) t2) (hx : ev env x = some p) (hp : zr9 p = true) : Op1 P o env H n (.v (.bool false)) H :=
 zlg ht ho hx (.inr ⟨hp, .inl ⟨rfl, rfl⟩⟩)
end Go.Proofs.Ythidgpcbnieleaa.Aw
