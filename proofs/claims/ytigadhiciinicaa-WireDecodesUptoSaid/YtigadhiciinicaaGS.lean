/- Structs of the program: as trees. Written by gen.py. -/
import Derived.Test.YtigadhiciinicaaTy
import Derived.Test.YtigadhiciinicaaAwD
import Derived.Test.YtigadhiciinicaaPls
import Derived.Test.YtigadhiciinicaaEqV
import Derived.Test.YtigadhiciinicaaSp
import Derived.Test.YtigadhiciinicaaSpV
import Derived.KernelRfl
namespace Go.Proofs.Ytigadhiciinicaa
open Go Aw
set_option linter.unusedVariables false
set_option linter.unusedSimpArgs false
set_option maxRecDepth 20000
set_option maxHeartbeats 2000000
theorem run_f64bits (b : Nat) (w : World) : (callFunc 32 #[.float .f64 b]).run Try.prog w = .ok (.value (.int .u64 (b : Nat))) w := by
  have h1 : Try.prog.funcs[32]? = some Try.f32 := by kernel_rfl
  have h2 : (Extern.findNext Try.f32).isNone = true := by kernel_rfl
  have h3 : Extern.find Try.f32 = some Extern.MathFloatBits.float64bits := by kernel_rfl
  have h4 : (Try.f32.name == "runtime.NumGoroutine") = false := by kernel_rfl
  have h5 : Try.f32.body.isNone = true := by kernel_rfl
  have h2' : Extern.findNext Try.f32 = none := by simpa using h2
  have h4' : ¬ Try.f32.name = "runtime.NumGoroutine" := by simpa using h4
  have h6 : Extern.MathFloatBits.float64bits #[.float .f64 b] = pure (.int .u64 (b : Nat)) := rfl
  have h5' : Try.f32.body = none := by simpa using h5
  simp [callFunc, h1, h2', h3, h4', h5', h6]
theorem op1_f64bits {o : Oper} {env : List (Nat × PV)} {H : List AEnt} {n : Nat} {x : Operand} {types : Array TypeId} {b : Nat} (ho : o.op = .call { callee := .value (.func 32), args := #[x], argTypes := types }) (hx : ev env x = some (.v (.float .f64 b))) : Op1 Try.prog o env H n (.v (.int .u64 (b : Nat))) H :=
  op1_same fun F g a w hr => ⟨_, vr_v.2 rfl, by
    have h := run_f64bits b w
    have he : a.eval (.func 32) = .func (.func 32) #[] #[] := rfl
    simp only [execOp, ho]
    simp [resolve, Deferred.ofValue, invoke, he, hr.const hx, h]⟩
theorem run_f64from (b : Int) (w : World) : (callFunc 64 #[.int .u64 b]).run Try.prog w = .ok (.value (.float .f64 b.toNat)) w := by
  have h1 : Try.prog.funcs[64]? = some Try.f64 := by kernel_rfl
  have h2 : (Extern.findNext Try.f64).isNone = true := by kernel_rfl
  have h3 : Extern.find Try.f64 = some Extern.MathFloatBits.float64frombits := by kernel_rfl
  have h4 : (Try.f64.name == "runtime.NumGoroutine") = false := by kernel_rfl
  have h5 : Try.f64.body.isNone = true := by kernel_rfl
  have h2' : Extern.findNext Try.f64 = none := by simpa using h2
  have h4' : ¬ Try.f64.name = "runtime.NumGoroutine" := by simpa using h4
  have h6 : Extern.MathFloatBits.float64frombits #[.int .u64 b] = pure (.float .f64 b.toNat) := rfl
  have h5' : Try.f64.body = none := by simpa using h5
  simp [callFunc, h1, h2', h3, h4', h5', h6]
theorem op1_f64from {o : Oper} {env : List (Nat × PV)} {H : List AEnt} {n : Nat} {x : Operand} {types : Array TypeId} {b : Int} (ho : o.op = .call { callee := .value (.func 64), args := #[x], argTypes := types }) (hx : ev env x = some (.v (.int .u64 b))) : Op1 Try.prog o env H n (.v (.float .f64 b.toNat)) H :=
  op1_same fun F g a w hr => ⟨_, vr_v.2 rfl, by
    have h := run_f64from b w
    have he : a.eval (.func 64) = .func (.func 64) #[] #[] := rfl
    simp only [execOp, ho]
    simp [resolve, Deferred.ofValue, invoke, he, hr.const hx, h]⟩
structure S_mk_Odd where
  f_L : (List Int)
structure S_ref03_reading where
  f_b : Str
  f_at : Int
  f_n : Int
  f_place : Int
  f_why : Int
def of_ref03_reading (x : S_ref03_reading) : PV := .agg [(PV.sl none 5 1 (List.map ofB x.f_b)), (PV.v (.int .i64 x.f_at)), (PV.v (.int .i64 x.f_n)), (PV.v (.int .i64 x.f_place)), (PV.v (.int .i64 x.f_why))]
theorem ids_S_ref03_reading (x : S_ref03_reading) : (of_ref03_reading x).ids = [] := ids_agg_cons (ids_slM (fun _ => rfl) x.f_b) (ids_agg_cons rfl (ids_agg_cons rfl (ids_agg_cons rfl (ids_agg_cons rfl (ids_agg_nil)))))
structure S_wire_reader where
  f_b : Str
  f_at : Int
  f_n : Int
  f_making : Bool
structure S_wire_fault where
  f_at : Int
  f_why : Int
def of_wire_fault (x : S_wire_fault) : PV := .agg [(PV.v (.int .i64 x.f_at)), (PV.v (.int .i64 x.f_why))]
structure S_value_count where
  f_n : Int
  f_deep : Int
  f_why : Int
end Go.Proofs.Ytigadhiciinicaa
