/- Structs of the program: as trees. Written by gen.py. -/
import Derived.Test.YtiapdjdhaclmnaaTy
import Derived.Test.YtiapdjdhaclmnaaAwG
import Derived.Test.YtiapdjdhaclmnaaGrow
import Derived.Test.YtiapdjdhaclmnaaAwH
import Derived.KernelRfl
namespace Go.Proofs.Ytiapdjdhaclmnaa
open Go Aw
set_option linter.unusedVariables false
set_option linter.unusedSimpArgs false
set_option maxRecDepth 20000
set_option maxHeartbeats 2000000
theorem zjk (b : Nat) (w : World) : (callFunc 38 #[.float .f64 b]).run Try.prog w = .ok (.value (.int .u64 (b : Nat))) w := by
  have h1 : Try.prog.funcs[38]? = some Try.f38 := by kernel_rfl
  have h2 : (Extern.findNext Try.f38).isNone = true := by kernel_rfl
  have h3 : Extern.find Try.f38 = some Extern.MathFloatBits.float64bits := by kernel_rfl
  have h4 : (Try.f38.name == "runtime.NumGoroutine") = false := by kernel_rfl
  have h5 : Try.f38.body.isNone = true := by kernel_rfl
  have h2' : Extern.findNext Try.f38 = none := by simpa using h2
  have h4' : ¬ Try.f38.name = "runtime.NumGoroutine" := by simpa using h4
  have h6 : Extern.MathFloatBits.float64bits #[.float .f64 b] = pure (.int .u64 (b : Nat)) := rfl
  have h5' : Try.f38.body = none := by simpa using h5
  simp [callFunc, h1, h2', h3, h4', h5', h6]
theorem zjx {o : Oper} {env : List (Nat × PV)} {H : List AEnt} {n : Nat} {x : Operand} {types : Array TypeId} {b : Nat} (ho : o.op = .call { callee := .value (.func 38), args := #[x], argTypes := types }) (hx : ev env x = some (.v (.float .f64 b))) : Op1 Try.prog o env H n (.v (.int .u64 (b : Nat))) H :=
  z1q fun F g a w hr => ⟨_, vr_v.2 rfl, by
    have h := zjk b w
    have he : a.eval (.func 38) = .func (.func 38) #[] #[] := rfl
    simp only [execOp, ho]
    simp [resolve, Deferred.ofValue, invoke, he, hr.const hx, h]⟩
structure S_arr3_Typ where
  f_0 : Typ
  f_1 : Typ
  f_2 : Typ
def z7e (x : S_arr3_Typ) : PV := .agg [(PV.v (.int .i64 (x.f_0).kind)), (PV.v (.int .i64 (x.f_0).of)), (PV.v (.int .i64 ((x.f_0).only).kind)), (PV.v (.bool ((x.f_0).only).bool)), (PV.v (.int .i64 ((x.f_0).only).int)), (PV.v (.float .f64 ((x.f_0).only).float)), (z0f ((x.f_0).only).text), (PV.sl none 5 1 (List.map ofB ((x.f_0).only).bytes)), (PV.v (.int .u64 ((x.f_0).only).ref)), (PV.sl none 29 11 (List.map z1k ((x.f_0).only).list)), (PV.sl none 101 12 (List.map z18 ((x.f_0).only).fields)), (z0f ((x.f_0).only).cls), (PV.v (.int .i64 ((x.f_0).only).ver)), (PV.sl none 34 18 (List.map z19 (x.f_0).parts)), (PV.sl none 9 1 (List.map z0f (x.f_0).names)), (PV.sl none 4 1 (List.map z28 (x.f_0).lacks)), (PV.v (.bool (x.f_0).opn)), (z0f (x.f_0).cls), (PV.v (.int .i64 (x.f_1).kind)), (PV.v (.int .i64 (x.f_1).of)), (PV.v (.int .i64 ((x.f_1).only).kind)), (PV.v (.bool ((x.f_1).only).bool)), (PV.v (.int .i64 ((x.f_1).only).int)), (PV.v (.float .f64 ((x.f_1).only).float)), (z0f ((x.f_1).only).text), (PV.sl none 5 1 (List.map ofB ((x.f_1).only).bytes)), (PV.v (.int .u64 ((x.f_1).only).ref)), (PV.sl none 29 11 (List.map z1k ((x.f_1).only).list)), (PV.sl none 101 12 (List.map z18 ((x.f_1).only).fields)), (z0f ((x.f_1).only).cls), (PV.v (.int .i64 ((x.f_1).only).ver)), (PV.sl none 34 18 (List.map z19 (x.f_1).parts)), (PV.sl none 9 1 (List.map z0f (x.f_1).names)), (PV.sl none 4 1 (List.map z28 (x.f_1).lacks)), (PV.v (.bool (x.f_1).opn)), (z0f (x.f_1).cls), (PV.v (.int .i64 (x.f_2).kind)), (PV.v (.int .i64 (x.f_2).of)), (PV.v (.int .i64 ((x.f_2).only).kind)), (PV.v (.bool ((x.f_2).only).bool)), (PV.v (.int .i64 ((x.f_2).only).int)), (PV.v (.float .f64 ((x.f_2).only).float)), (z0f ((x.f_2).only).text), (PV.sl none 5 1 (List.map ofB ((x.f_2).only).bytes)), (PV.v (.int .u64 ((x.f_2).only).ref)), (PV.sl none 29 11 (List.map z1k ((x.f_2).only).list)), (PV.sl none 101 12 (List.map z18 ((x.f_2).only).fields)), (z0f ((x.f_2).only).cls), (PV.v (.int .i64 ((x.f_2).only).ver)), (PV.sl none 34 18 (List.map z19 (x.f_2).parts)), (PV.sl none 9 1 (List.map z0f (x.f_2).names)), (PV.sl none 4 1 (List.map z28 (x.f_2).lacks)), (PV.v (.bool (x.f_2).opn)), (z0f (x.f_2).cls)]
structure S_check_room where
  f_left : Int
structure S_value_count where
  f_n : Int
  f_deep : Int
  f_why : Int
structure S_anon153 where
structure S_ref01_seen where
  f_n : Int
  f_deep : Int
  f_at : Int
  f_why : Int
def z25 (x : S_ref01_seen) : PV := .agg [(PV.v (.int .i64 x.f_n)), (PV.v (.int .i64 x.f_deep)), (PV.v (.int .i64 x.f_at)), (PV.v (.int .i64 x.f_why))]
theorem z2p (x : S_ref01_seen) : (z25 x).ids = [] := z3m rfl (z3m rfl (z3m rfl (z3m rfl (zk7))))
structure S_mk_Odd where
  f_L : (List Int)
abbrev ztq : List PV := [(I64 0), (BO false), (I64 0), (PV.v (.float .f64 0)), (z0f []), (PV.v (.slice none 0 0)), (PV.v (.int .u64 0)), (PV.v (.slice none 0 0)), (PV.v (.slice none 0 0)), (z0f []), (I64 0)]
abbrev z4l (a0 : Term) : List PV := [(I64 a0.kind), (BO a0.bool), (I64 a0.int), (PV.v (.float .f64 a0.float)), (z0f a0.text), (PV.sl none 5 1 (List.map ofB a0.bytes)), (PV.v (.int .u64 a0.ref)), (PV.sl none 29 11 (List.map z1k a0.list)), (PV.sl none 101 12 (List.map z18 a0.fields)), (z0f a0.cls), (I64 a0.ver)]
theorem wfC29 {k : Nat} {b1 : _} {b2 : _} {b3 : _} {b4 : _} {b5 : _} {b6 : _} {b7 : _} {b8 : _} {b9 : _} {b10 : _} {b11 : _} : WfL k [(I64 b1), (BO b2), (I64 b3), (PV.v (.float .f64 b4)), (z0f b5), (PV.sl none 5 1 (List.map ofB b6)), (PV.v (.int .u64 b7)), (PV.sl none 29 11 (List.map z1k b8)), (PV.sl none 101 12 (List.map z18 b9)), (z0f b10), (I64 b11)] := ⟨(z01 rfl), ⟨(z01 rfl), ⟨(z01 rfl), ⟨(z01 rfl), ⟨(z01 rfl), ⟨(z01 (z0q (fun _ => rfl) _)), ⟨(z01 rfl), ⟨(z01 (z0q z35 _)), ⟨(z01 (z0q z2x _)), ⟨(z01 rfl), ⟨(z01 rfl), trivial⟩⟩⟩⟩⟩⟩⟩⟩⟩⟩⟩
abbrev z5d : List PV := [(I64 0), (I64 0), (I64 0), (BO false), (I64 0), (PV.v (.float .f64 0)), (z0f []), (PV.v (.slice none 0 0)), (PV.v (.int .u64 0)), (PV.v (.slice none 0 0)), (PV.v (.slice none 0 0)), (z0f []), (I64 0), (PV.v (.slice none 0 0)), (PV.v (.slice none 0 0)), (PV.v (.slice none 0 0)), (BO false), (z0f [])]
abbrev z1r (a1 : Typ) : List PV := [(I64 a1.kind), (I64 a1.of), (I64 ((a1.only).kind)), (BO ((a1.only).bool)), (I64 ((a1.only).int)), (PV.v (.float .f64 (a1.only).float)), (z0f (a1.only).text), (PV.sl none 5 1 (List.map ofB (a1.only).bytes)), (PV.v (.int .u64 (a1.only).ref)), (PV.sl none 29 11 (List.map z1k (a1.only).list)), (PV.sl none 101 12 (List.map z18 (a1.only).fields)), (z0f (a1.only).cls), (I64 ((a1.only).ver)), (PV.sl none 34 18 (List.map z19 a1.parts)), (PV.sl none 9 1 (List.map z0f a1.names)), (PV.sl none 4 1 (List.map z28 a1.lacks)), (BO a1.opn), (z0f a1.cls)]
theorem wfC34 {k : Nat} {b1 : _} {b2 : _} {b3 : _} {b4 : _} {b5 : _} {b6 : _} {b7 : _} {b8 : _} {b9 : _} {b10 : _} {b11 : _} {b12 : _} {b13 : _} {b14 : _} {b15 : _} {b16 : _} {b17 : _} {b18 : _} : WfL k [(I64 b1), (I64 b2), (I64 b3), (BO b4), (I64 b5), (PV.v (.float .f64 b6)), (z0f b7), (PV.sl none 5 1 (List.map ofB b8)), (PV.v (.int .u64 b9)), (PV.sl none 29 11 (List.map z1k b10)), (PV.sl none 101 12 (List.map z18 b11)), (z0f b12), (I64 b13), (PV.sl none 34 18 (List.map z19 b14)), (PV.sl none 9 1 (List.map z0f b15)), (PV.sl none 4 1 (List.map z28 b16)), (BO b17), (z0f b18)] := ⟨(z01 rfl), ⟨(z01 rfl), ⟨(z01 rfl), ⟨(z01 rfl), ⟨(z01 rfl), ⟨(z01 rfl), ⟨(z01 rfl), ⟨(z01 (z0q (fun _ => rfl) _)), ⟨(z01 rfl), ⟨(z01 (z0q z35 _)), ⟨(z01 (z0q z2x _)), ⟨(z01 rfl), ⟨(z01 rfl), ⟨(z01 (z0q z2h _)), ⟨(z01 (z0q (fun _ => rfl) _)), ⟨(z01 (z0q (fun _ => rfl) _)), ⟨(z01 rfl), ⟨(z01 rfl), trivial⟩⟩⟩⟩⟩⟩⟩⟩⟩⟩⟩⟩⟩⟩⟩⟩⟩⟩
theorem sAx {P : Program} {H : List AEnt} {env : List (Nat × PV)} {n : Nat} {o : Oper} {K : AExit → ASt → Prop} {ops : Array Oper} {rest : List Oper} {y : Operand} {x : PV} {d : Nat} (h : AO P ops rest ⟨(d, x) :: env, H, n⟩ K) (hg : o.guard = none := by exact rfl) (hd : o.dst = some d := by exact rfl) (hn : Nat.blt d n = true := by exact rfl) (ho : o.op = .assign y := by exact rfl) (hy : ev env y = some x := by exact rfl) : AO P ops (o :: rest) ⟨env, H, n⟩ K := sA hg hd hn ho hy h
theorem sMx {P : Program} {H : List AEnt} {env : List (Nat × PV)} {n : Nat} {o : Oper} {K : AExit → ASt → Prop} {ops : Array Oper} {rest : List Oper} {y : Operand} {x : PV} {d : Nat} (h : AO P ops rest ⟨(d, x) :: env, H, n⟩ K) (hg : o.guard = none := by exact rfl) (hd : o.dst = some d := by exact rfl) (hn : Nat.blt d n = true := by exact rfl) (ho : o.op = .move y := by exact rfl) (hy : ev env y = some x := by exact rfl) : AO P ops (o :: rest) ⟨env, H, n⟩ K := sM hg hd hn ho hy h
theorem cBx {P : Program} {H0 : List AEnt} {c : Code} {s : ASt} {K : AExit → ASt → Prop} (h : BW P H0 c s K) : BW P H0 c s K := h
theorem lbE {n m : Nat} (h : Nat.ble n m = true) : n ≤ m := Nat.le_of_ble_eq_true h
abbrev OF {ι : Type} (ρ : ι → Type) := ∀ i, Option (ρ i)
end Go.Proofs.Ytiapdjdhaclmnaa
