/- Structs of the program: as trees. Written by gen.py. -/
import Derived.Test.YthidgpcbnieleaaTy
import Derived.Test.YthidgpcbnieleaaB0
import Derived.Test.YthidgpcbnieleaaAwO
import Derived.Test.YthidgpcbnieleaaPls
import Derived.Test.YthidgpcbnieleaaAwQ
import Derived.Test.YthidgpcbnieleaaAwOl
import Derived.Test.YthidgpcbnieleaaAwI
import Derived.Test.YthidgpcbnieleaaIns
import Derived.Test.YthidgpcbnieleaaSpV
import Derived.Test.YthidgpcbnieleaaAwH
import Derived.KernelRfl
namespace Go.Proofs.Ythidgpcbnieleaa
open Go Aw
set_option linter.unusedVariables false
set_option linter.unusedSimpArgs false
set_option maxRecDepth 20000
set_option maxHeartbeats 2000000
theorem zjm (b : Nat) (w : World) : (callFunc 84 #[.float .f64 b]).run Try.prog w = .ok (.value (.int .u64 (b : Nat))) w := by
 have h1 : Try.prog.funcs[84]? = some Try.f84 := by kernel_rfl
 have h2 : (Extern.findNext Try.f84).isNone = true := by kernel_rfl
 have h3 : Extern.find Try.f84 = some Extern.MathFloatBits.float64bits := by kernel_rfl
 have h4 : (Try.f84.name == "runtime.NumGoroutine") = false := by kernel_rfl
 have h5 : Try.f84.body.isNone = true := by kernel_rfl
 have h2' : Extern.findNext Try.f84 = none := by simpa using h2
 have h4' : ¬ Try.f84.name = "runtime.NumGoroutine" := by simpa using h4
 have h6 : Extern.MathFloatBits.float64bits #[.float .f64 b] = pure (.int .u64 (b : Nat)) := rfl
 have h5' : Try.f84.body = none := by simpa using h5
 simp [callFunc, h1, h2', h3, h4', h5', h6]
theorem zd5 {o : Oper} {env : List (Nat × PV)} {H : List AEnt} {n : Nat} {x : Operand} {types : Array TypeId} {b : Nat} (ho : o.op = .call { callee := .value (.func 84), args := #[x], argTypes := types }) (hx : ev env x = some (.v (.float .f64 b))) : Op1 Try.prog o env H n (.v (.int .u64 (b : Nat))) H :=
 z17 fun F g a w hr => ⟨_, vr_v.2 rfl, by
  have h := zjm b w
  have he : a.eval (.func 84) = .func (.func 84) #[] #[] := rfl
  simp only [execOp, ho]
  simp [resolve, Deferred.ofValue, invoke, he, hr.const hx, h]⟩
def ixB (s : Str) (c : UInt8) : Int := match (List.range s.length).find? fun i => s.toArray[i]! == c with
 | some i => (i : Nat)
 | none => -1
theorem zx7 (s : Str) (c : UInt8) (w : World) : (callFunc 108 #[.string ⟨s.toArray⟩, .int .u8 c.toNat]).run Try.prog w = .ok (.value (.int .i64 (ixB s c))) w := by
 have h1 : Try.prog.funcs[108]? = some Try.f108 := by kernel_rfl
 have h2 : (Extern.findNext Try.f108).isNone = true := by kernel_rfl
 have h3 : Extern.find Try.f108 = some Extern.BytealgIndexByte.indexByte := by kernel_rfl
 have h4 : (Try.f108.name == "runtime.NumGoroutine") = false := by kernel_rfl
 have h5 : Try.f108.body.isNone = true := by kernel_rfl
 have h2' : Extern.findNext Try.f108 = none := by simpa using h2
 have h4' : ¬ Try.f108.name = "runtime.NumGoroutine" := by simpa using h4
 have h6 : Extern.BytealgIndexByte.indexByte #[.string ⟨s.toArray⟩, .int .u8 c.toNat] = pure (.int .i64 (ixB s c)) := by
  have hc : UInt8.ofNat (Int.toNat (c.toNat : Int)) = c := by simp
  have hs : (ByteArray.mk s.toArray).size = s.length := by simp [ByteArray.size]
  have hi : ∀ i, (ByteArray.mk s.toArray)[i]! = s.toArray[i]! := fun i => by
   by_cases h : i < s.length
   ·rw [getElem!_pos _ _ (by simpa [ByteArray.size] using h), getElem!_pos _ _ (by simpa using h)]; rfl
   ·rw [getElem!_neg _ _ (by simpa [ByteArray.size] using h), getElem!_neg _ _ (by simpa using h)]
  show (match (List.range (ByteArray.mk s.toArray).size).find? fun i => (ByteArray.mk s.toArray)[i]! == UInt8.ofNat (Int.toNat (c.toNat : Int)) with | some i => (pure (goInt i) : Sem Value) | none => pure (goInt (-1))) = _
  simp only [hc, hs, hi]
  unfold ixB
  cases (List.range s.length).find? fun i => s.toArray[i]! == c <;> rfl
 have h5' : Try.f108.body = none := by simpa using h5
 simp [callFunc, h1, h2', h3, h4', h5', h6]
theorem zxn {o : Oper} {env : List (Nat × PV)} {H : List AEnt} {n : Nat} {x y : Operand} {types : Array TypeId} {s : Str} {c : UInt8} (ho : o.op = .call { callee := .value (.func 108), args := #[x, y], argTypes := types }) (hx : ev env x = some (z0k s)) (hy : ev env y = some (ofB c)) : Op1 Try.prog o env H n (.v (.int .i64 (ixB s c))) H :=
 z17 fun F g a w hr => ⟨_, vr_v.2 rfl, by
  have h := zx7 s c w
  have he : a.eval (.func 108) = .func (.func 108) #[] #[] := rfl
  simp only [execOp, ho]
  simp [resolve, Deferred.ofValue, invoke, he, hr.const hx, hr.const hy, h]⟩
structure S_api_Step where
 f_Name : Str
 f_At : Bool
 f_Index : Int
def z01 (x : S_api_Step) : PV := .agg [(z0k x.f_Name), (PV.v (.bool x.f_At)), (PV.v (.int .i64 x.f_Index))]
theorem z07 (x : S_api_Step) : (z01 x).ids = [] := z28 rfl (z28 rfl (z28 rfl (zde)))
theorem z8a (x : S_api_Step) : (z01 x).cells.length = 3 := rfl
theorem z6v (x : S_api_Step) : (z01 x).cells.all z6w = true := by
 show List.all [(z0k x.f_Name), (PV.v (.bool x.f_At)), (PV.v (.int .i64 x.f_Index))] z6w = true
 simp only [List.all_cons, List.all_nil, zk1, zbq, Bool.and_true, Bool.true_and]
 rfl
structure S_ref01_seen where
 f_n : Int
 f_deep : Int
 f_at : Int
 f_why : Int
def z1s (x : S_ref01_seen) : PV := .agg [(PV.v (.int .i64 x.f_n)), (PV.v (.int .i64 x.f_deep)), (PV.v (.int .i64 x.f_at)), (PV.v (.int .i64 x.f_why))]
theorem z24 (x : S_ref01_seen) : (z1s x).ids = [] := z28 rfl (z28 rfl (z28 rfl (z28 rfl (zde))))
structure S_value_count where
 f_n : Int
 f_deep : Int
 f_why : Int
structure S_mk_Odd where
 f_L : (List Int)
theorem zoq : Step3 Try.prog 76 := zwv Try.underlying76 (by kernel_rfl) (by kernel_rfl) ⟨by decide, by decide, by decide⟩ ⟨rfl, rfl, rfl⟩ Try.underlying9 Try.underlying4 Try.underlying3
def lkT {α : Type} : List (Nat × α) → Nat → Option α
 | [], _ => none
 | (k, v) :: r, t => bif Nat.beq k t then some v else lkT r t
def Z6b {α : Type} (p : Nat → α → Prop) : List (Nat × α) → Prop
 | [] => True
 | (k, v) :: r => p k v ∧ Z6b p r
theorem ziu {α : Type} {p : Nat → α → Prop} : ∀ {l : List (Nat × α)} {t : Nat} {v : α}, lkT l t = some v → Z6b p l → p t v
 | [], _, _, h, _ => by cases h
 | (k, u) :: r, t, v, h, ⟨h1, h2⟩ => by
  simp only [lkT] at h
  cases hb : Nat.beq k t with
  | true => rw [hb] at h; simp only [cond_true] at h; injection h with h; subst h; have := Nat.eq_of_beq_eq_true hb; subst this; exact h1
  | false => rw [hb] at h; simp only [cond_false] at h; exact ziu h h2
def scT : List (Nat × Unit) := [(2, ()), (3, ()), (4, ()), (5, ()), (9, ()), (20, ()), (22, ()), (23, ()), (25, ()), (26, ()), (27, ()), (32, ()), (64, ())]
theorem zvq {t : Nat} {u : Unit} (h : lkT scT t = some u) : ∃ d, Try.prog.underlying t = some d ∧ zgm d = false := ziu (p := fun t _ => ∃ d, Try.prog.underlying t = some d ∧ zgm d = false) h ⟨⟨_, Try.underlying2, rfl⟩, ⟨_, Try.underlying3, rfl⟩, ⟨_, Try.underlying4, rfl⟩, ⟨_, Try.underlying5, rfl⟩, ⟨_, Try.underlying9, rfl⟩, ⟨_, Try.underlying20, rfl⟩, ⟨_, Try.underlying22, rfl⟩, ⟨_, Try.underlying23, rfl⟩, ⟨_, Try.underlying25, rfl⟩, ⟨_, Try.underlying26, rfl⟩, ⟨_, Try.underlying27, rfl⟩, ⟨_, Try.underlying32, rfl⟩, ⟨_, Try.underlying64, rfl⟩, trivial⟩
def agT : List (Nat × Nat) := [(29, 11), (76, 3), (81, 4), (96, 2)]
theorem zst {t k : Nat} (h : lkT agT t = some k) : ∃ d z b, Try.prog.underlying t = some d ∧ zgm d = true ∧ Inf Try.prog t z k b := ziu (p := fun t k => ∃ d z b, Try.prog.underlying t = some d ∧ zgm d = true ∧ Inf Try.prog t z k b) h ⟨⟨_, _, _, Try.underlying29, rfl, z0v⟩, ⟨_, _, _, Try.underlying76, rfl, z1w⟩, ⟨_, _, _, Try.underlying81, rfl, z9o⟩, ⟨_, _, _, Try.underlying96, rfl, z1c⟩, trivial⟩
def slT : List (Nat × Nat × Nat) := [(23, 5, 1), (26, 29, 11), (27, 94, 12), (37, 76, 3), (62, 20, 1), (64, 96, 2)]
theorem zzt {t e s : Nat} (h : lkT slT t = some (e, s)) : ∃ z b, Try.prog.underlying t = some (.slice e) ∧ Inf Try.prog e z s b := ziu (p := fun t (v : Nat × Nat) => ∃ z b, Try.prog.underlying t = some (.slice v.1) ∧ Inf Try.prog v.1 z v.2 b) h ⟨⟨_, _, Try.underlying23, inf_5⟩, ⟨_, _, Try.underlying26, z0v⟩, ⟨_, _, Try.underlying27, z22⟩, ⟨_, _, Try.underlying37, z1w⟩, ⟨_, _, Try.underlying62, z2g⟩, ⟨_, _, Try.underlying64, z1c⟩, trivial⟩
def stT : List (Nat × List (Nat × Nat)) := [(29, [(0, 1), (1, 1), (2, 1), (3, 1), (4, 1), (5, 1), (6, 1), (7, 1), (8, 1), (9, 1), (10, 1)]), (68, [(0, 1), (1, 1), (2, 1)]), (76, [(0, 1), (1, 1), (2, 1)]), (81, [(0, 1), (1, 1), (2, 1), (3, 1)]), (94, [(0, 1), (1, 11)]), (96, [(0, 1), (1, 1)]), (99, [(0, 1)]), (133, [(0, 1), (1, 1), (2, 1)])]
theorem zvm {t : Nat} {pl : List (Nat × Nat)} (h : lkT stT t = some pl) : ∃ fs, IsStruct Try.prog t fs pl := ziu (p := fun t pl => ∃ fs, IsStruct Try.prog t fs pl) h ⟨⟨_, z81⟩, ⟨_, zbi⟩, ⟨_, zww⟩, ⟨_, zzr⟩, ⟨_, zt4⟩, ⟨_, zgv⟩, ⟨_, zzq⟩, ⟨_, zzs⟩, trivial⟩
section
variable {H : List AEnt} {env : List (Nat × PV)} {n : Nat} {o : Oper}
theorem qfa {t i k s j off : Nat} {x : Operand} {pl : List (Nat × Nat)} (ho : o.op = .fieldAddr t x i) (hl : lkT stT t = some pl) (hk : pl[i]? = some (k, s)) (hx : ev env x = some (.rf j off)) : Op1 Try.prog o env H n (.rf j (off + k)) H := let ⟨_, h⟩ := zvm hl; zr3 h hk ho hx
theorem qfp {t i k s e off : Nat} {x : Operand} {q : PV} {pl : List (Nat × Nat)} (ho : o.op = .fieldAddr t x i) (hl : lkT stT t = some pl) (hk : pl[i]? = some (k, s)) (hx : ev env x = some (.pt e q off)) : Op1 Try.prog o env H n (.pt e q (off + k)) H := let ⟨_, h⟩ := zvm hl; zfx h hk ho hx
theorem qld {t ty i off : Nat} {x : Operand} {u : Unit} {cs : List PV} {y : PV} (ho : o.op = .load t x) (hs : lkT scT t = some u) (hx : ev env x = some (.rf i off)) (hi : H[i]? = some (.box ty cs)) (hy : cs[off]? = some y) : Op1 Try.prog o env H n y H := let ⟨_, h1, h2⟩ := zvq hs; zxm h1 h2 ho hx hi hy
theorem qla {t ty i off k : Nat} {x : Operand} {cs ds : List PV} (ho : o.op = .load t x) (hs : lkT agT t = some k) (hx : ev env x = some (.rf i off)) (hi : H[i]? = some (.box ty cs)) (hcs : (cs.drop off).take k = ds) (hk : ds.length = k) : Op1 Try.prog o env H n (.agg ds) H := let ⟨_, _, _, h1, h2, h3⟩ := zst hs; zld h3 h1 h2 ho hx hi hcs hk
theorem qlp {t e off : Nat} {x : Operand} {u : Unit} {q y : PV} (ho : o.op = .load t x) (hs : lkT scT t = some u) (hx : ev env x = some (.pt e q off)) (hy : q.cells[off]? = some y) : Op1 Try.prog o env H n y H := let ⟨_, h1, h2⟩ := zvq hs; z6j h1 h2 ho hx hy
theorem qlw {t e k : Nat} {x : Operand} {q : PV} {cs : List PV} (ho : o.op = .load t x) (hs : lkT agT t = some k) (hx : ev env x = some (.pt e q 0)) (hcs : q = .agg cs) (hk : cs.length = k) : Op1 Try.prog o env H n q H := let ⟨_, _, _, h1, h2, h3⟩ := zst hs; zle h3 h1 h2 ho hx hcs hk
theorem qlq {t e off k : Nat} {x : Operand} {q : PV} {cs : List PV} (ho : o.op = .load t x) (hs : lkT agT t = some k) (hx : ev env x = some (.pt e q off)) (hcs : (q.cells.drop off).take k = cs) (hk : cs.length = k) : Op1 Try.prog o env H n (.agg cs) H := let ⟨_, _, _, h1, h2, h3⟩ := zst hs; zlf h3 h1 h2 ho hx hcs hk
theorem qln {α : Type} {f : α → PV} {t e sz s : Nat} {x : Operand} {tk : Option Nat} {l : List α} (ho : o.op = .call { callee := .builtin .len, args := #[x], argTypes := #[t] }) (ht : lkT slT t = some (e, s)) (hx : ev env x = some (.sl tk e sz (l.map f))) : Op1 Try.prog o env H n (.v (.int .i64 l.length)) H := let ⟨_, _, h, _⟩ := zzt ht; z6i h ho hx
end
section
variable {H : List AEnt} {env : List (Nat × PV)} {n : Nat} {o : Oper} {H0 : List AEnt} {K : AExit → ASt → Prop} {ops : Array Oper} {rest : List Oper} {x : PV} {H' : List AEnt} {d j t : Nat} {want b : Bool} {v : Value}
theorem sX (h : AO Try.prog ops rest ⟨(d, x) :: env, H', n⟩ K) (h1 : Op1 Try.prog o env H n x H' := by first | exact z5r rfl rfl | exact z9i rfl rfl | exact qfa rfl rfl rfl rfl | exact qld rfl rfl rfl rfl rfl | exact z35 rfl rfl rfl | exact z79 rfl rfl rfl | exact z78 rfl rfl rfl | exact qla rfl rfl rfl rfl rfl rfl | exact zd6 rfl rfl rfl rfl | exact qln rfl rfl rfl | exact qlp rfl rfl rfl rfl | exact zd1 rfl rfl | exact z9j rfl rfl rfl | exact qfp rfl rfl rfl rfl | exact qlw rfl rfl rfl rfl rfl | exact qlq rfl rfl rfl rfl rfl | exact zfy rfl rfl rfl) (hg : o.guard = none := by exact rfl) (hd : o.dst = some d := by exact rfl) (hn : Nat.blt d n = true := by exact rfl) : AO Try.prog ops (o :: rest) ⟨env, H, n⟩ K := sS hg hd hn h1 h
theorem eX {c : Code} {K' : AExit → ASt → Prop} (h : BW Try.prog H0 c ⟨(d, x) :: env, H', n⟩ K') (h1 : Op1 Try.prog o env H n x H' := by first | exact z5r rfl rfl | exact z9i rfl rfl | exact qfa rfl rfl rfl rfl | exact qld rfl rfl rfl rfl rfl | exact z35 rfl rfl rfl | exact z79 rfl rfl rfl | exact z78 rfl rfl rfl | exact qla rfl rfl rfl rfl rfl rfl | exact zd6 rfl rfl rfl rfl | exact qln rfl rfl rfl | exact qlp rfl rfl rfl rfl | exact zd1 rfl rfl | exact z9j rfl rfl rfl | exact qfp rfl rfl rfl rfl | exact qlw rfl rfl rfl rfl rfl | exact qlq rfl rfl rfl rfl rfl | exact zfy rfl rfl rfl) (hg : o.guard = none := by exact rfl) (hd : o.dst = some d := by exact rfl) (hn : Nat.blt d n = true := by exact rfl) (hK : K .normal ⟨(d, x) :: env, H', n⟩ = BW Try.prog H0 c ⟨(d, x) :: env, H', n⟩ K' := by exact rfl) : AO Try.prog ops [o] ⟨env, H, n⟩ K := sS hg hd hn h1 (z08 (hK ▸ h))
theorem yX (h : AO Try.prog ops rest ⟨(d, x) :: env, H', n⟩ K) (h1 : Op1 Try.prog o env H n x H' := by first | exact z5r rfl rfl | exact z9i rfl rfl | exact qfa rfl rfl rfl rfl | exact qld rfl rfl rfl rfl rfl | exact z35 rfl rfl rfl | exact z79 rfl rfl rfl | exact z78 rfl rfl rfl | exact qla rfl rfl rfl rfl rfl rfl | exact zd6 rfl rfl rfl rfl | exact qln rfl rfl rfl | exact qlp rfl rfl rfl rfl | exact zd1 rfl rfl | exact z9j rfl rfl rfl | exact qfp rfl rfl rfl rfl | exact qlw rfl rfl rfl rfl rfl | exact qlq rfl rfl rfl rfl rfl | exact zfy rfl rfl rfl) (hg : o.guard = some (j, want) := by exact rfl) (ht : (ops[j]?).bind (·.dst) = some t := by exact rfl) (hb : get env t = some (.v (.bool b)) := by exact rfl) (hw : (b == want) = true := by exact rfl) (hd : o.dst = some d := by exact rfl) (hn : Nat.blt d n = true := by exact rfl) : AO Try.prog ops (o :: rest) ⟨env, H, n⟩ K := z1t hg ht hb hw hd hn h1 h
theorem nX (h : AO Try.prog ops rest ⟨(d, .v undef) :: env, H, n⟩ K) (hg : o.guard = some (j, want) := by exact rfl) (ht : (ops[j]?).bind (·.dst) = some t := by exact rfl) (hb : get env t = some (.v v) := by exact rfl) (hw : noW v want = true := by exact rfl) (hd : o.dst = some d := by exact rfl) (hn : Nat.blt d n = true := by exact rfl) : AO Try.prog ops (o :: rest) ⟨env, H, n⟩ K := Z5d hg ht hb hw hd hn h
end
section
variable {H : List AEnt} {env : List (Nat × PV)} {n : Nat} {o : Oper} {ops : Array Oper} {ls I : List Nat} {H0 : List AEnt} {K : AExit → ASt → Prop} {k : Nat} {r : List Oper} {x : PV} {d j t : Nat} {want b : Bool} {v : Value}
theorem gX (h : AC Try.prog ops ls I H0 n K (k + 1) r ((d, x) :: env) H) (hl : ls.contains k = false := by exact rfl) (hg : o.guard = none := by exact rfl) (hd : o.dst = some d := by exact rfl) (hn : Nat.blt d n = true := by exact rfl) (h1 : ∀ H, Pins I H0 H → Op1 Try.prog o (z6o (o.looksAt ops) env) H n x H := by first | exact fun _ hp => z5r rfl rfl | exact fun _ hp => z9i rfl rfl | exact fun _ hp => qfa rfl rfl rfl rfl | exact fun _ hp => qld rfl rfl rfl (hp.at rfl rfl) rfl | exact fun _ hp => z35 rfl rfl rfl | exact fun _ hp => z79 rfl rfl rfl | exact fun _ hp => z78 rfl rfl rfl | exact fun _ hp => qla rfl rfl rfl (hp.at rfl rfl) rfl rfl | exact fun _ hp => zd6 rfl rfl rfl rfl | exact fun _ hp => qln rfl rfl rfl | exact fun _ hp => qlp rfl rfl rfl rfl | exact fun _ hp => zd1 rfl rfl | exact fun _ hp => z9j rfl rfl rfl | exact fun _ hp => qfp rfl rfl rfl rfl | exact fun _ hp => qlw rfl rfl rfl rfl rfl | exact fun _ hp => qlq rfl rfl rfl rfl rfl) : AC Try.prog ops ls I H0 n K k (o :: r) env H := z1v hl hg hd hn h1 h
theorem wX (h : AC Try.prog ops ls I H0 n K (k + 1) r ((d, x) :: env) H) (hl : ls.contains k = false := by exact rfl) (hg : o.guard = some (j, want) := by exact rfl) (ht : (ops[j]?).bind (·.dst) = some t := by exact rfl) (hb : get env t = some (.v (.bool b)) := by exact rfl) (hw : (b == want) = true := by exact rfl) (hd : o.dst = some d := by exact rfl) (hn : Nat.blt d n = true := by exact rfl) (h1 : ∀ H, Pins I H0 H → Op1 Try.prog o (z6o (o.looksAt ops) env) H n x H := by first | exact fun _ hp => z5r rfl rfl | exact fun _ hp => z9i rfl rfl | exact fun _ hp => qfa rfl rfl rfl rfl | exact fun _ hp => qld rfl rfl rfl (hp.at rfl rfl) rfl | exact fun _ hp => z35 rfl rfl rfl | exact fun _ hp => z79 rfl rfl rfl | exact fun _ hp => z78 rfl rfl rfl | exact fun _ hp => qla rfl rfl rfl (hp.at rfl rfl) rfl rfl | exact fun _ hp => zd6 rfl rfl rfl rfl | exact fun _ hp => qln rfl rfl rfl | exact fun _ hp => qlp rfl rfl rfl rfl | exact fun _ hp => zd1 rfl rfl | exact fun _ hp => z9j rfl rfl rfl | exact fun _ hp => qfp rfl rfl rfl rfl | exact fun _ hp => qlw rfl rfl rfl rfl rfl | exact fun _ hp => qlq rfl rfl rfl rfl rfl) : AC Try.prog ops ls I H0 n K k (o :: r) env H := z8b hl hg ht hb hw hd hn h1 h
theorem mX (h : AC Try.prog ops ls I H0 n K (k + 1) r ((d, .v undef) :: env) H) (hl : ls.contains k = false := by exact rfl) (hg : o.guard = some (j, want) := by exact rfl) (ht : (ops[j]?).bind (·.dst) = some t := by exact rfl) (hb : get env t = some (.v v) := by exact rfl) (hw : noW v want = true := by exact rfl) (hd : o.dst = some d := by exact rfl) (hn : Nat.blt d n = true := by exact rfl) : AC Try.prog ops ls I H0 n K k (o :: r) env H := Z5e hl hg ht hb hw hd hn h
end
theorem eI {α : Type} {a b : α} (h : some a = some b) : a = b := Option.some.inj h
theorem eK {H : List AEnt} {a : Option (List PV)} {l : List PV} {R : PV → List AEnt → Prop} (h1 : a = some l := by exact rfl) (hy : (zgq l).ids = [] := by repeat (first | exact z05 | refine z00 rfl ?_ | exact rfl)) (hR : R (zgq l) [] := by exact ⟨rfl, rfl⟩) : ∃ xs, a = some xs ∧ EndOk H 0 (zgq xs) R := ⟨l, h1, z0p (Wk.refl _) hy hR⟩
theorem jN {env : List (Nat × PV)} {H : List AEnt} {s : ASt} (hh : HSub H s.H := by repeat (first | exact .nil | refine .cons .same ?_)) (he : Sub env s.env := by repeat (first | exact z2a | refine sC rfl ?_)) : Joins env H s := ⟨hh, he⟩
section
variable {P : Program} {H0 : List AEnt} {s : ASt} {K : AExit → ASt → Prop}
theorem lX {σ ρ : Type} {Φ : (σ → Option ρ) → σ → Option ρ} {r : ρ} {c : Code} (mk : σ → List (Nat × PV)) (mkH : σ → List AEnt) (x0 : σ) (hr0 : z3b Φ x0 = some r) (h0 : Joins (mk x0) (mkH x0) s) (round : ∀ (g : σ → Option ρ) (x : σ), Φ g x = some r → BW P H0 c ⟨mk x, mkH x, s.n⟩ (zub (fun s' => s'.n = s.n ∧ ∃ x', g x' = some r ∧ Joins (mk x') (mkH x') s') K))
 (hw : ∀ x, WfJ H0.length (mk x) (mkH x) := by intro _; refine ⟨Nat.le_of_ble_eq_true rfl, ?_, ?_⟩ <;> repeat (first | exact trivial | refine ⟨il_rf rfl, ?_⟩ | refine ⟨z02 (z0f (fun _ => rfl) _), ?_⟩ | refine ⟨z02 (z0f z2e _), ?_⟩ | refine ⟨z02 (z0f z1l _), ?_⟩ | refine ⟨z02 (z0f ids_V _), ?_⟩ | refine ⟨z02 (z0f z19 _), ?_⟩ | refine ⟨z02 rfl, ?_⟩ | refine ⟨?_, ?_⟩)) : BW P H0 (.loop c) s K := z3c mk mkH x0 hr0 hw h0 round
theorem jX {ι : Type} {x y : Code} (J : ι → Prop) (mk : ι → List (Nat × PV)) (mkH : ι → List AEnt) (hy : ∀ i, J i → BW P H0 y ⟨mk i, mkH i, s.n⟩ K) (hx : BW P H0 x s (zub (fun s' => s'.n = s.n ∧ ∃ i, J i ∧ Joins (mk i) (mkH i) s') K))
 (hw : ∀ i, WfJ H0.length (mk i) (mkH i) := by intro _; refine ⟨Nat.le_of_ble_eq_true rfl, ?_, ?_⟩ <;> repeat (first | exact trivial | refine ⟨il_rf rfl, ?_⟩ | refine ⟨z02 (z0f (fun _ => rfl) _), ?_⟩ | refine ⟨z02 (z0f z2e _), ?_⟩ | refine ⟨z02 (z0f z1l _), ?_⟩ | refine ⟨z02 (z0f ids_V _), ?_⟩ | refine ⟨z02 (z0f z19 _), ?_⟩ | refine ⟨z02 rfl, ?_⟩ | refine ⟨?_, ?_⟩)) : BW P H0 (.seq x y) s K := z2l J mk mkH hw hy hx
theorem cX {α : Type} {b : Bool} {u v z : α} {c : Operand} {x y : Code} (h : (bif b then u else v) = z) (hc : ev s.env c = some (.v (.bool b))) (ht : b = true → u = z → BW P H0 x s K) (hf : b = false → v = z → BW P H0 y s K) : BW P H0 (.cond c x y) s K := zka hc (fun q => ht q (z0t q h)) (fun q => hf q (z0u q h))
end
abbrev z3d : List PV := [(I64 0), (BO false), (I64 0), (PV.v (.float .f64 0)), (z0k []), (PV.v (.slice none 0 0)), (PV.v (.int .u64 0)), (PV.v (.slice none 0 0)), (PV.v (.slice none 0 0)), (z0k []), (I64 0)]
abbrev z1r (a0 : Term) : List PV := [(I64 a0.kind), (BO a0.bool), (I64 a0.int), (PV.v (.float .f64 a0.float)), (z0k a0.text), (PV.sl none 5 1 (List.map ofB a0.bytes)), (PV.v (.int .u64 a0.ref)), (PV.sl none 29 11 (List.map z15 a0.list)), (PV.sl none 94 12 (List.map z0s a0.fields)), (z0k a0.cls), (I64 a0.ver)]
theorem wfC29 {k : Nat} {b1 : _} {b2 : _} {b3 : _} {b4 : _} {b5 : _} {b6 : _} {b7 : _} {b8 : _} {b9 : _} {b10 : _} {b11 : _} : WfL k [(I64 b1), (BO b2), (I64 b3), (PV.v (.float .f64 b4)), (z0k b5), (PV.sl none 5 1 (List.map ofB b6)), (PV.v (.int .u64 b7)), (PV.sl none 29 11 (List.map z15 b8)), (PV.sl none 94 12 (List.map z0s b9)), (z0k b10), (I64 b11)] := ⟨(z02 rfl), ⟨(z02 rfl), ⟨(z02 rfl), ⟨(z02 rfl), ⟨(z02 rfl), ⟨(z02 (z0f (fun _ => rfl) _)), ⟨(z02 rfl), ⟨(z02 (z0f z2e _)), ⟨(z02 (z0f z1l _)), ⟨(z02 rfl), ⟨(z02 rfl), trivial⟩⟩⟩⟩⟩⟩⟩⟩⟩⟩⟩
theorem cBx {P : Program} {H0 : List AEnt} {c : Code} {s : ASt} {K : AExit → ASt → Prop} (h : BW P H0 c s K) : BW P H0 c s K := h
theorem lbE {n m : Nat} (h : Nat.ble n m = true) : n ≤ m := Nat.le_of_ble_eq_true h
abbrev OF {ι : Type} (ρ : ι → Type) := ∀ i, Option (ρ i)
theorem wkr {x : PV} {xs ys : List PV} (h : WkL xs ys) : WkL (x :: xs) (x :: ys) := .cons (Wk.refl _) h
theorem wkn {e sz : Nat} {xs ys : List PV} (h : WkL xs ys) : WkL (.v (.slice none 0 0) :: xs) (.sl none e sz [] :: ys) := .cons Wk.nil h
end Go.Proofs.Ythidgpcbnieleaa
