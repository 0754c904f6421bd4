/- Structs of the program: as trees. Written by gen.py. -/
import Derived.Test.YthidgpcbnieleaaGreatDoorTy
import Derived.Test.YthidgpcbnieleaaGreatDoorC0
import Derived.Test.YthidgpcbnieleaaGreatDoorD0
import Derived.Test.YthidgpcbnieleaaGreatDoorD0
import Derived.Test.YthidgpcbnieleaaGreatDoorEqI
import Derived.Test.YthidgpcbnieleaaGreatDoorAto
import Derived.Test.YthidgpcbnieleaaGreatDoorAwI
import Derived.Test.YthidgpcbnieleaaGreatDoorE0
import Derived.Test.YthidgpcbnieleaaGreatDoorIns
import Derived.Test.YthidgpcbnieleaaGreatDoorD0
import Derived.KernelRfl
namespace Go.Proofs.YthidgpcbnieleaaGreatDoor
open Go Aw
set_option linter.unusedVariables false
set_option linter.unusedSimpArgs false
set_option maxRecDepth 20000
set_option maxHeartbeats 2000000
theorem zjj (b : Nat) (w : World) : (callFunc 99 #[.float .f64 b]).run Tryz.prog w = .ok (.value (.int .u64 (b : Nat))) w := by
 have h1 : Tryz.prog.funcs[99]? = some Tryz.f99 := by kernel_rfl
 have h2 : (Extern.findNext Tryz.f99).isNone = true := by kernel_rfl
 have h3 : Extern.find Tryz.f99 = some Extern.MathFloatBits.float64bits := by kernel_rfl
 have h4 : (Tryz.f99.name == "runtime.NumGoroutine") = false := by kernel_rfl
 have h5 : Tryz.f99.body.isNone = true := by kernel_rfl
 have h2' : Extern.findNext Tryz.f99 = none := by simpa using h2
 have h4' : ¬ Tryz.f99.name = "runtime.NumGoroutine" := by simpa using h4
 have h6 : Extern.MathFloatBits.float64bits #[.float .f64 b] = pure (.int .u64 (b : Nat)) := rfl
 have h5' : Tryz.f99.body = none := by simpa using h5
 simp [callFunc, h1, h2', h3, h4', h5', h6]
theorem zk9 {o : Oper} {env : List (Nat × PV)} {H : List AEnt} {n : Nat} {x : Operand} {types : Array TypeId} {b : Nat} (ho : o.op = .call { callee := .value (.func 99), args := #[x], argTypes := types }) (hx : ev env x = some (.v (.float .f64 b))) : Op1 Tryz.prog o env H n (.v (.int .u64 (b : Nat))) H :=
 z1a fun F g a w hr => ⟨_, vr_v.2 rfl, by
  have h := zjj b w
  have he : a.eval (.func 99) = .func (.func 99) #[] #[] := rfl
  simp only [execOp, ho]
  simp [resolve, Deferred.ofValue, invoke, he, hr.const hx, h]⟩
def ixB (s : Str) (c : UInt8) : Int := match (List.range s.length).find? fun i => s.toArray[i]! == c with
 | some i => (i : Nat)
 | none => -1
theorem zyk (s : Str) (c : UInt8) (w : World) : (callFunc 132 #[.string ⟨s.toArray⟩, .int .u8 c.toNat]).run Tryz.prog w = .ok (.value (.int .i64 (ixB s c))) w := by
 have h1 : Tryz.prog.funcs[132]? = some Tryz.f132 := by kernel_rfl
 have h2 : (Extern.findNext Tryz.f132).isNone = true := by kernel_rfl
 have h3 : Extern.find Tryz.f132 = some Extern.BytealgIndexByte.indexByte := by kernel_rfl
 have h4 : (Tryz.f132.name == "runtime.NumGoroutine") = false := by kernel_rfl
 have h5 : Tryz.f132.body.isNone = true := by kernel_rfl
 have h2' : Extern.findNext Tryz.f132 = none := by simpa using h2
 have h4' : ¬ Tryz.f132.name = "runtime.NumGoroutine" := by simpa using h4
 have h6 : Extern.BytealgIndexByte.indexByte #[.string ⟨s.toArray⟩, .int .u8 c.toNat] = pure (.int .i64 (ixB s c)) := by
  have hc : UInt8.ofNat (Int.toNat (c.toNat : Int)) = c := by simp
  have hs : (ByteArray.mk s.toArray).size = s.length := by simp [ByteArray.size]
  have hi : ∀ i, (ByteArray.mk s.toArray)[i]! = s.toArray[i]! := fun i => by
   by_cases h : i < s.length
   ·rw [getElem!_pos _ _ (by simpa [ByteArray.size] using h), getElem!_pos _ _ (by simpa using h)]; rfl
   ·rw [getElem!_neg _ _ (by simpa [ByteArray.size] using h), getElem!_neg _ _ (by simpa using h)]
  show (match (List.range (ByteArray.mk s.toArray).size).find? fun i => (ByteArray.mk s.toArray)[i]! == UInt8.ofNat (Int.toNat (c.toNat : Int)) with | some i => (pure (goInt i) : Sem Value) | none => pure (goInt (-1))) = _
  simp only [hc, hs, hi]
  unfold ixB
  cases (List.range s.length).find? fun i => s.toArray[i]! == c <;> rfl
 have h5' : Tryz.f132.body = none := by simpa using h5
 simp [callFunc, h1, h2', h3, h4', h5', h6]
theorem zz5 {o : Oper} {env : List (Nat × PV)} {H : List AEnt} {n : Nat} {x y : Operand} {types : Array TypeId} {s : Str} {c : UInt8} (ho : o.op = .call { callee := .value (.func 132), args := #[x, y], argTypes := types }) (hx : ev env x = some (z0i s)) (hy : ev env y = some (ofB c)) : Op1 Tryz.prog o env H n (.v (.int .i64 (ixB s c))) H :=
 z1a fun F g a w hr => ⟨_, vr_v.2 rfl, by
  have h := zyk s c w
  have he : a.eval (.func 132) = .func (.func 132) #[] #[] := rfl
  simp only [execOp, ho]
  simp [resolve, Deferred.ofValue, invoke, he, hr.const hx, hr.const hy, h]⟩
structure S_api_Step where
 f_Name : Str
 f_At : Bool
 f_Index : Int
def z00 (x : S_api_Step) : PV := .agg [(z0i x.f_Name), (PV.v (.bool x.f_At)), (PV.v (.int .i64 x.f_Index))]
theorem z02 (x : S_api_Step) : (z00 x).ids = [] := z2m rfl (z2m rfl (z2m rfl (zdh)))
theorem z2x (x : S_api_Step) : (z00 x).cells.length = 3 := rfl
theorem z2j (x : S_api_Step) : (z00 x).cells.all z6n = true := by
 show List.all [(z0i x.f_Name), (PV.v (.bool x.f_At)), (PV.v (.int .i64 x.f_Index))] z6n = true
 simp only [List.all_cons, List.all_nil, zb5, z3v, Bool.and_true, Bool.true_and]
 rfl
structure S_value_count where
 f_n : Int
 f_deep : Int
 f_why : Int
structure S_mk_Odd where
 f_L : (List Int)
structure S_api_Edit where
 f_What : Int
 f_Way : (List S_api_Step)
 f_Value : V
def z0l (x : S_api_Edit) : PV := .agg [(PV.v (.int .i64 x.f_What)), (PV.sl none 83 3 (List.map z00 x.f_Way)), (ofV x.f_Value)]
theorem z0k (x : S_api_Edit) : (z0l x).ids = [] := z2m rfl (z2m (z03 z02 x.f_Way) (z2m (ids_V x.f_Value) (zdh)))
theorem ze0 (x : S_api_Edit) : (z0l x).cells.length = 3 := rfl
theorem zbs (x : S_api_Edit) : (z0l x).cells.all z6n = true := by
 show List.all [(PV.v (.int .i64 x.f_What)), (PV.sl none 83 3 (List.map z00 x.f_Way)), (ofV x.f_Value)] z6n = true
 simp only [List.all_cons, List.all_nil, zb5, z3v, Bool.and_true, Bool.true_and]
 rfl
def lkT {α : Type} : List (Nat × α) → Nat → Option α
 | [], _ => none
 | (k, v) :: r, t => bif Nat.beq k t then some v else lkT r t
def Z9c {α : Type} (p : Nat → α → Prop) : List (Nat × α) → Prop
 | [] => True
 | (k, v) :: r => p k v ∧ Z9c p r
theorem zik {α : Type} {p : Nat → α → Prop} : ∀ {l : List (Nat × α)} {t : Nat} {v : α}, lkT l t = some v → Z9c p l → p t v
 | [], _, _, h, _ => by cases h
 | (k, u) :: r, t, v, h, ⟨h1, h2⟩ => by
  simp only [lkT] at h
  cases hb : Nat.beq k t with
  | true => rw [hb] at h; simp only [cond_true] at h; injection h with h; subst h; have := Nat.eq_of_beq_eq_true hb; subst this; exact h1
  | false => rw [hb] at h; simp only [cond_false] at h; exact zik h h2
def scT : List (Nat × Unit) := [(2, ()), (3, ()), (4, ()), (5, ()), (9, ()), (20, ()), (22, ()), (23, ()), (25, ()), (26, ()), (27, ()), (30, ()), (33, ()), (46, ()), (56, ()), (60, ()), (61, ()), (64, ()), (71, ())]
theorem zx4 {t : Nat} {u : Unit} (h : lkT scT t = some u) : ∃ d, Tryz.prog.underlying t = some d ∧ zla d = false := zik (p := fun t _ => ∃ d, Tryz.prog.underlying t = some d ∧ zla d = false) h ⟨⟨_, Tryz.underlying2, rfl⟩, ⟨_, Tryz.underlying3, rfl⟩, ⟨_, Tryz.underlying4, rfl⟩, ⟨_, Tryz.underlying5, rfl⟩, ⟨_, Tryz.underlying9, rfl⟩, ⟨_, Tryz.underlying20, rfl⟩, ⟨_, Tryz.underlying22, rfl⟩, ⟨_, Tryz.underlying23, rfl⟩, ⟨_, Tryz.underlying25, rfl⟩, ⟨_, Tryz.underlying26, rfl⟩, ⟨_, Tryz.underlying27, rfl⟩, ⟨_, Tryz.underlying30, rfl⟩, ⟨_, Tryz.underlying33, rfl⟩, ⟨_, Tryz.underlying46, rfl⟩, ⟨_, Tryz.underlying56, rfl⟩, ⟨_, Tryz.underlying60, rfl⟩, ⟨_, Tryz.underlying61, rfl⟩, ⟨_, Tryz.underlying64, rfl⟩, ⟨_, Tryz.underlying71, rfl⟩, trivial⟩
def agT : List (Nat × Nat) := [(29, 11), (69, 2), (83, 3)]
theorem zt4 {t k : Nat} (h : lkT agT t = some k) : ∃ d z b, Tryz.prog.underlying t = some d ∧ zla d = true ∧ Inf Tryz.prog t z k b := zik (p := fun t k => ∃ d z b, Tryz.prog.underlying t = some d ∧ zla d = true ∧ Inf Tryz.prog t z k b) h ⟨⟨_, _, _, Tryz.underlying29, rfl, ziq⟩, ⟨_, _, _, Tryz.underlying69, rfl, z0z⟩, ⟨_, _, _, Tryz.underlying83, rfl, z1h⟩, trivial⟩
def slT : List (Nat × Nat × Nat) := [(23, 5, 1), (26, 29, 11), (27, 113, 12), (30, 83, 3), (46, 53, 3), (67, 20, 1), (71, 69, 2)]
theorem Z1l {t e s : Nat} (h : lkT slT t = some (e, s)) : ∃ z b, Tryz.prog.underlying t = some (.slice e) ∧ Inf Tryz.prog e z s b := zik (p := fun t (v : Nat × Nat) => ∃ z b, Tryz.prog.underlying t = some (.slice v.1) ∧ Inf Tryz.prog v.1 z v.2 b) h ⟨⟨_, _, Tryz.underlying23, inf_5⟩, ⟨_, _, Tryz.underlying26, ziq⟩, ⟨_, _, Tryz.underlying27, zdg⟩, ⟨_, _, Tryz.underlying30, z1h⟩, ⟨_, _, Tryz.underlying46, zip⟩, ⟨_, _, Tryz.underlying67, z1t⟩, ⟨_, _, Tryz.underlying71, z0z⟩, trivial⟩
def stT : List (Nat × List (Nat × Nat)) := [(29, [(0, 1), (1, 1), (2, 1), (3, 1), (4, 1), (5, 1), (6, 1), (7, 1), (8, 1), (9, 1), (10, 1)]), (53, [(0, 1), (1, 1), (2, 1)]), (69, [(0, 1), (1, 1)]), (75, [(0, 1), (1, 1), (2, 1)]), (83, [(0, 1), (1, 1), (2, 1)]), (109, [(0, 1), (1, 1), (2, 1)]), (113, [(0, 1), (1, 11)]), (117, [(0, 1)])]
theorem zx1 {t : Nat} {pl : List (Nat × Nat)} (h : lkT stT t = some pl) : ∃ fs, IsStruct Tryz.prog t fs pl := zik (p := fun t pl => ∃ fs, IsStruct Tryz.prog t fs pl) h ⟨⟨_, Z4g⟩, ⟨_, Z1h⟩, ⟨_, zgu⟩, ⟨_, zjd⟩, ⟨_, z8e⟩, ⟨_, Z1j⟩, ⟨_, Z1i⟩, ⟨_, zx0⟩, trivial⟩
section
variable {H : List AEnt} {env : List (Nat × PV)} {n : Nat} {o : Oper}
theorem qfa {t i k s j off : Nat} {x : Operand} {pl : List (Nat × Nat)} (ho : o.op = .fieldAddr t x i) (hl : lkT stT t = some pl) (hk : pl[i]? = some (k, s)) (hx : ev env x = some (.rf j off)) : Op1 Tryz.prog o env H n (.rf j (off + k)) H := let ⟨_, h⟩ := zx1 hl; zrf h hk ho hx
theorem qfp {t i k s e off : Nat} {x : Operand} {q : PV} {pl : List (Nat × Nat)} (ho : o.op = .fieldAddr t x i) (hl : lkT stT t = some pl) (hk : pl[i]? = some (k, s)) (hx : ev env x = some (.pt e q off)) : Op1 Tryz.prog o env H n (.pt e q (off + k)) H := let ⟨_, h⟩ := zx1 hl; zz6 h hk ho hx
theorem qld {t ty i off : Nat} {x : Operand} {u : Unit} {cs : List PV} {y : PV} (ho : o.op = .load t x) (hs : lkT scT t = some u) (hx : ev env x = some (.rf i off)) (hi : H[i]? = some (.box ty cs)) (hy : cs[off]? = some y) : Op1 Tryz.prog o env H n y H := let ⟨_, h1, h2⟩ := zx4 hs; zk8 h1 h2 ho hx hi hy
theorem qla {t ty i off k : Nat} {x : Operand} {cs ds : List PV} (ho : o.op = .load t x) (hs : lkT agT t = some k) (hx : ev env x = some (.rf i off)) (hi : H[i]? = some (.box ty cs)) (hcs : (cs.drop off).take k = ds) (hk : ds.length = k) : Op1 Tryz.prog o env H n (.agg ds) H := let ⟨_, _, _, h1, h2, h3⟩ := zt4 hs; zuo h3 h1 h2 ho hx hi hcs hk
theorem qlp {t e off : Nat} {x : Operand} {u : Unit} {q y : PV} (ho : o.op = .load t x) (hs : lkT scT t = some u) (hx : ev env x = some (.pt e q off)) (hy : q.cells[off]? = some y) : Op1 Tryz.prog o env H n y H := let ⟨_, h1, h2⟩ := zx4 hs; z1y h1 h2 ho hx hy
theorem qlw {t e k : Nat} {x : Operand} {q : PV} {cs : List PV} (ho : o.op = .load t x) (hs : lkT agT t = some k) (hx : ev env x = some (.pt e q 0)) (hcs : q = .agg cs) (hk : cs.length = k) : Op1 Tryz.prog o env H n q H := let ⟨_, _, _, h1, h2, h3⟩ := zt4 hs; zup h3 h1 h2 ho hx hcs hk
theorem qlq {t e off k : Nat} {x : Operand} {q : PV} {cs : List PV} (ho : o.op = .load t x) (hs : lkT agT t = some k) (hx : ev env x = some (.pt e q off)) (hcs : (q.cells.drop off).take k = cs) (hk : cs.length = k) : Op1 Tryz.prog o env H n (.agg cs) H := let ⟨_, _, _, h1, h2, h3⟩ := zt4 hs; zlz h3 h1 h2 ho hx hcs hk
theorem qln {α : Type} {f : α → PV} {t e sz s : Nat} {x : Operand} {tk : Option Nat} {l : List α} (ho : o.op = .call { callee := .builtin .len, args := #[x], argTypes := #[t] }) (ht : lkT slT t = some (e, s)) (hx : ev env x = some (.sl tk e sz (l.map f))) : Op1 Tryz.prog o env H n (.v (.int .i64 l.length)) H := let ⟨_, _, h, _⟩ := Z1l ht; zfw h ho hx
end
section
variable {H : List AEnt} {env : List (Nat × PV)} {n : Nat} {o : Oper} {H0 : List AEnt} {K : AExit → ASt → Prop} {ops : Array Oper} {rest : List Oper} {x : PV} {H' : List AEnt} {d j t : Nat} {want b : Bool} {v : Value}
theorem sX (h : AO Tryz.prog ops rest ⟨(d, x) :: env, H', n⟩ K) (h1 : Op1 Tryz.prog o env H n x H' := by first | exact z6b rfl rfl | exact z9u rfl rfl | exact qfa rfl rfl rfl rfl | exact qld rfl rfl rfl rfl rfl | exact zd8 rfl rfl rfl | exact z7u rfl rfl rfl | exact z7t rfl rfl rfl | exact qla rfl rfl rfl rfl rfl rfl | exact zd9 rfl rfl rfl rfl | exact qln rfl rfl rfl | exact qlp rfl rfl rfl rfl | exact zd7 rfl rfl | exact z9w rfl rfl rfl | exact qfp rfl rfl rfl rfl | exact qlw rfl rfl rfl rfl rfl | exact qlq rfl rfl rfl rfl rfl | exact zb4 rfl rfl rfl) (hg : o.guard = none := by exact rfl) (hd : o.dst = some d := by exact rfl) (hn : Nat.blt d n = true := by exact rfl) : AO Tryz.prog ops (o :: rest) ⟨env, H, n⟩ K := sS hg hd hn h1 h
theorem eX {c : Code} {K' : AExit → ASt → Prop} (h : BW Tryz.prog H0 c ⟨(d, x) :: env, H', n⟩ K') (h1 : Op1 Tryz.prog o env H n x H' := by first | exact z6b rfl rfl | exact z9u rfl rfl | exact qfa rfl rfl rfl rfl | exact qld rfl rfl rfl rfl rfl | exact zd8 rfl rfl rfl | exact z7u rfl rfl rfl | exact z7t rfl rfl rfl | exact qla rfl rfl rfl rfl rfl rfl | exact zd9 rfl rfl rfl rfl | exact qln rfl rfl rfl | exact qlp rfl rfl rfl rfl | exact zd7 rfl rfl | exact z9w rfl rfl rfl | exact qfp rfl rfl rfl rfl | exact qlw rfl rfl rfl rfl rfl | exact qlq rfl rfl rfl rfl rfl | exact zb4 rfl rfl rfl) (hg : o.guard = none := by exact rfl) (hd : o.dst = some d := by exact rfl) (hn : Nat.blt d n = true := by exact rfl) (hK : K .normal ⟨(d, x) :: env, H', n⟩ = BW Tryz.prog H0 c ⟨(d, x) :: env, H', n⟩ K' := by exact rfl) : AO Tryz.prog ops [o] ⟨env, H, n⟩ K := sS hg hd hn h1 (z0a (hK ▸ h))
theorem yX (h : AO Tryz.prog ops rest ⟨(d, x) :: env, H', n⟩ K) (h1 : Op1 Tryz.prog o env H n x H' := by first | exact z6b rfl rfl | exact z9u rfl rfl | exact qfa rfl rfl rfl rfl | exact qld rfl rfl rfl rfl rfl | exact zd8 rfl rfl rfl | exact z7u rfl rfl rfl | exact z7t rfl rfl rfl | exact qla rfl rfl rfl rfl rfl rfl | exact zd9 rfl rfl rfl rfl | exact qln rfl rfl rfl | exact qlp rfl rfl rfl rfl | exact zd7 rfl rfl | exact z9w rfl rfl rfl | exact qfp rfl rfl rfl rfl | exact qlw rfl rfl rfl rfl rfl | exact qlq rfl rfl rfl rfl rfl | exact zb4 rfl rfl rfl) (hg : o.guard = some (j, want) := by exact rfl) (ht : (ops[j]?).bind (·.dst) = some t := by exact rfl) (hb : get env t = some (.v (.bool b)) := by exact rfl) (hw : (b == want) = true := by exact rfl) (hd : o.dst = some d := by exact rfl) (hn : Nat.blt d n = true := by exact rfl) : AO Tryz.prog ops (o :: rest) ⟨env, H, n⟩ K := z1q hg ht hb hw hd hn h1 h
theorem nX (h : AO Tryz.prog ops rest ⟨(d, .v undef) :: env, H, n⟩ K) (hg : o.guard = some (j, want) := by exact rfl) (ht : (ops[j]?).bind (·.dst) = some t := by exact rfl) (hb : get env t = some (.v v) := by exact rfl) (hw : noW v want = true := by exact rfl) (hd : o.dst = some d := by exact rfl) (hn : Nat.blt d n = true := by exact rfl) : AO Tryz.prog ops (o :: rest) ⟨env, H, n⟩ K := Z8f hg ht hb hw hd hn h
end
section
variable {H : List AEnt} {env : List (Nat × PV)} {n : Nat} {o : Oper} {ops : Array Oper} {ls I : List Nat} {H0 : List AEnt} {K : AExit → ASt → Prop} {k : Nat} {r : List Oper} {x : PV} {d j t : Nat} {want b : Bool} {v : Value}
theorem gX (h : AC Tryz.prog ops ls I H0 n K (k + 1) r ((d, x) :: env) H) (hl : ls.contains k = false := by exact rfl) (hg : o.guard = none := by exact rfl) (hd : o.dst = some d := by exact rfl) (hn : Nat.blt d n = true := by exact rfl) (h1 : ∀ H, Pins I H0 H → Op1 Tryz.prog o (z79 (o.looksAt ops) env) H n x H := by first | exact fun _ hp => z6b rfl rfl | exact fun _ hp => z9u rfl rfl | exact fun _ hp => qfa rfl rfl rfl rfl | exact fun _ hp => qld rfl rfl rfl (hp.at rfl rfl) rfl | exact fun _ hp => zd8 rfl rfl rfl | exact fun _ hp => z7u rfl rfl rfl | exact fun _ hp => z7t rfl rfl rfl | exact fun _ hp => qla rfl rfl rfl (hp.at rfl rfl) rfl rfl | exact fun _ hp => zd9 rfl rfl rfl rfl | exact fun _ hp => qln rfl rfl rfl | exact fun _ hp => qlp rfl rfl rfl rfl | exact fun _ hp => zd7 rfl rfl | exact fun _ hp => z9w rfl rfl rfl | exact fun _ hp => qfp rfl rfl rfl rfl | exact fun _ hp => qlw rfl rfl rfl rfl rfl | exact fun _ hp => qlq rfl rfl rfl rfl rfl) : AC Tryz.prog ops ls I H0 n K k (o :: r) env H := z1p hl hg hd hn h1 h
theorem wX (h : AC Tryz.prog ops ls I H0 n K (k + 1) r ((d, x) :: env) H) (hl : ls.contains k = false := by exact rfl) (hg : o.guard = some (j, want) := by exact rfl) (ht : (ops[j]?).bind (·.dst) = some t := by exact rfl) (hb : get env t = some (.v (.bool b)) := by exact rfl) (hw : (b == want) = true := by exact rfl) (hd : o.dst = some d := by exact rfl) (hn : Nat.blt d n = true := by exact rfl) (h1 : ∀ H, Pins I H0 H → Op1 Tryz.prog o (z79 (o.looksAt ops) env) H n x H := by first | exact fun _ hp => z6b rfl rfl | exact fun _ hp => z9u rfl rfl | exact fun _ hp => qfa rfl rfl rfl rfl | exact fun _ hp => qld rfl rfl rfl (hp.at rfl rfl) rfl | exact fun _ hp => zd8 rfl rfl rfl | exact fun _ hp => z7u rfl rfl rfl | exact fun _ hp => z7t rfl rfl rfl | exact fun _ hp => qla rfl rfl rfl (hp.at rfl rfl) rfl rfl | exact fun _ hp => zd9 rfl rfl rfl rfl | exact fun _ hp => qln rfl rfl rfl | exact fun _ hp => qlp rfl rfl rfl rfl | exact fun _ hp => zd7 rfl rfl | exact fun _ hp => z9w rfl rfl rfl | exact fun _ hp => qfp rfl rfl rfl rfl | exact fun _ hp => qlw rfl rfl rfl rfl rfl | exact fun _ hp => qlq rfl rfl rfl rfl rfl) : AC Tryz.prog ops ls I H0 n K k (o :: r) env H := z7h hl hg ht hb hw hd hn h1 h
theorem mX (h : AC Tryz.prog ops ls I H0 n K (k + 1) r ((d, .v undef) :: env) H) (hl : ls.contains k = false := by exact rfl) (hg : o.guard = some (j, want) := by exact rfl) (ht : (ops[j]?).bind (·.dst) = some t := by exact rfl) (hb : get env t = some (.v v) := by exact rfl) (hw : noW v want = true := by exact rfl) (hd : o.dst = some d := by exact rfl) (hn : Nat.blt d n = true := by exact rfl) : AC Tryz.prog ops ls I H0 n K k (o :: r) env H := Z8g hl hg ht hb hw hd hn h
end
theorem eI {α : Type} {a b : α} (h : some a = some b) : a = b := Option.some.inj h
theorem eK {H : List AEnt} {a : Option (List PV)} {l : List PV} {R : PV → List AEnt → Prop} (h1 : a = some l := by exact rfl) (hy : (zca l).ids = [] := by repeat (first | exact z04 | refine z01 rfl ?_ | exact rfl)) (hR : R (zca l) [] := by exact ⟨rfl, rfl⟩) : ∃ xs, a = some xs ∧ EndOk H 0 (zca xs) R := ⟨l, h1, z0p (Wk.refl _) hy hR⟩
theorem jN {env : List (Nat × PV)} {H : List AEnt} {s : ASt} (hh : HSub H s.H := by repeat (first | exact .nil | refine .cons .same ?_)) (he : Sub env s.env := by repeat (first | exact zjc | refine sC rfl ?_)) : Joins env H s := ⟨hh, he⟩
section
variable {P : Program} {H0 : List AEnt} {s : ASt} {K : AExit → ASt → Prop}
theorem lX {σ ρ : Type} {Φ : (σ → Option ρ) → σ → Option ρ} {r : ρ} {c : Code} (mk : σ → List (Nat × PV)) (mkH : σ → List AEnt) (x0 : σ) (hr0 : z2w Φ x0 = some r) (h0 : Joins (mk x0) (mkH x0) s) (round : ∀ (g : σ → Option ρ) (x : σ), Φ g x = some r → BW P H0 c ⟨mk x, mkH x, s.n⟩ (zv8 (fun s' => s'.n = s.n ∧ ∃ x', g x' = some r ∧ Joins (mk x') (mkH x') s') K))
 (hw : ∀ x, WfJ H0.length (mk x) (mkH x) := by intro _; refine ⟨Nat.le_of_ble_eq_true rfl, ?_, ?_⟩ <;> repeat (first | exact trivial | refine ⟨il_rf rfl, ?_⟩ | refine ⟨z09 (z03 (fun _ => rfl) _), ?_⟩ | refine ⟨z09 (z03 z8c _), ?_⟩ | refine ⟨z09 (z03 z6i _), ?_⟩ | refine ⟨z09 (z03 ids_V _), ?_⟩ | refine ⟨z09 (z03 z0r _), ?_⟩ | refine ⟨z09 rfl, ?_⟩ | refine ⟨?_, ?_⟩)) : BW P H0 (.loop c) s K := z2u mk mkH x0 hr0 hw h0 round
theorem jX {ι : Type} {x y : Code} (J : ι → Prop) (mk : ι → List (Nat × PV)) (mkH : ι → List AEnt) (hy : ∀ i, J i → BW P H0 y ⟨mk i, mkH i, s.n⟩ K) (hx : BW P H0 x s (zv8 (fun s' => s'.n = s.n ∧ ∃ i, J i ∧ Joins (mk i) (mkH i) s') K))
 (hw : ∀ i, WfJ H0.length (mk i) (mkH i) := by intro _; refine ⟨Nat.le_of_ble_eq_true rfl, ?_, ?_⟩ <;> repeat (first | exact trivial | refine ⟨il_rf rfl, ?_⟩ | refine ⟨z09 (z03 (fun _ => rfl) _), ?_⟩ | refine ⟨z09 (z03 z8c _), ?_⟩ | refine ⟨z09 (z03 z6i _), ?_⟩ | refine ⟨z09 (z03 ids_V _), ?_⟩ | refine ⟨z09 (z03 z0r _), ?_⟩ | refine ⟨z09 rfl, ?_⟩ | refine ⟨?_, ?_⟩)) : BW P H0 (.seq x y) s K := z2t J mk mkH hw hy hx
theorem cX {α : Type} {b : Bool} {u v z : α} {c : Operand} {x y : Code} (h : (bif b then u else v) = z) (hc : ev s.env c = some (.v (.bool b))) (ht : b = true → u = z → BW P H0 x s K) (hf : b = false → v = z → BW P H0 y s K) : BW P H0 (.cond c x y) s K := zkl hc (fun q => ht q (z0x q h)) (fun q => hf q (z0y q h))
end
theorem cBx {P : Program} {H0 : List AEnt} {c : Code} {s : ASt} {K : AExit → ASt → Prop} (h : BW P H0 c s K) : BW P H0 c s K := h
theorem lbE {n m : Nat} (h : Nat.ble n m = true) : n ≤ m := Nat.le_of_ble_eq_true h
abbrev OF {ι : Type} (ρ : ι → Type) := ∀ i, Option (ρ i)
abbrev cc0 (x : Term) : List PV := [(I64 x.kind), (BO x.bool), (I64 x.int), (PV.v (.float .f64 x.float)), (z0i x.text), (PV.sl none 5 1 (List.map ofB x.bytes)), (PV.v (.int .u64 x.ref)), (PV.sl none 29 11 (List.map z4a x.list)), (PV.sl none 113 12 (List.map z36 x.fields)), (z0i x.cls), (I64 x.ver)]
theorem wkr {x : PV} {xs ys : List PV} (h : WkL xs ys) : WkL (x :: xs) (x :: ys) := .cons (Wk.refl _) h
end Go.Proofs.YthidgpcbnieleaaGreatDoor
