/- Structs of the program: as trees. Written by gen.py. -/
import Derived.Test.YtigadhiciinicaaTy
import Derived.Test.YtigadhiciinicaaAwP
import Derived.Test.YtigadhiciinicaaAwO
import Derived.Test.YtigadhiciinicaaPls
import Derived.Test.YtigadhiciinicaaSp
import Derived.KernelRfl
namespace Go.Proofs.Ytigadhiciinicaa
open Go Aw
set_option linter.unusedVariables false
set_option linter.unusedSimpArgs false
set_option maxRecDepth 20000
set_option maxHeartbeats 2000000
theorem run_f64bits (b : Nat) (w : World) : (callFunc 32 #[.float .f64 b]).run Try.prog w = .ok (.value (.int .u64 (b : Nat))) w := by
  have h1 : Try.prog.funcs[32]? = some Try.f32 := by kernel_rfl
  have h2 : (Extern.findNext Try.f32).isNone = true := by kernel_rfl
  have h3 : Extern.find Try.f32 = some Extern.MathFloatBits.float64bits := by kernel_rfl
  have h4 : (Try.f32.name == "runtime.NumGoroutine") = false := by kernel_rfl
  have h5 : Try.f32.body.isNone = true := by kernel_rfl
  have h2' : Extern.findNext Try.f32 = none := by simpa using h2
  have h4' : ¬ Try.f32.name = "runtime.NumGoroutine" := by simpa using h4
  have h6 : Extern.MathFloatBits.float64bits #[.float .f64 b] = pure (.int .u64 (b : Nat)) := rfl
  have h5' : Try.f32.body = none := by simpa using h5
  simp [callFunc, h1, h2', h3, h4', h5', h6]
theorem op1_f64bits {o : Oper} {env : List (Nat × PV)} {H : List AEnt} {n : Nat} {x : Operand} {types : Array TypeId} {b : Nat} (ho : o.op = .call { callee := .value (.func 32), args := #[x], argTypes := types }) (hx : ev env x = some (.v (.float .f64 b))) : Op1 Try.prog o env H n (.v (.int .u64 (b : Nat))) H :=
  op1_same fun F g a w hr => ⟨_, vr_v.2 rfl, by
    have h := run_f64bits b w
    have he : a.eval (.func 32) = .func (.func 32) #[] #[] := rfl
    simp only [execOp, ho]
    simp [resolve, Deferred.ofValue, invoke, he, hr.const hx, h]⟩
theorem run_f64from (b : Int) (w : World) : (callFunc 64 #[.int .u64 b]).run Try.prog w = .ok (.value (.float .f64 b.toNat)) w := by
  have h1 : Try.prog.funcs[64]? = some Try.f64 := by kernel_rfl
  have h2 : (Extern.findNext Try.f64).isNone = true := by kernel_rfl
  have h3 : Extern.find Try.f64 = some Extern.MathFloatBits.float64frombits := by kernel_rfl
  have h4 : (Try.f64.name == "runtime.NumGoroutine") = false := by kernel_rfl
  have h5 : Try.f64.body.isNone = true := by kernel_rfl
  have h2' : Extern.findNext Try.f64 = none := by simpa using h2
  have h4' : ¬ Try.f64.name = "runtime.NumGoroutine" := by simpa using h4
  have h6 : Extern.MathFloatBits.float64frombits #[.int .u64 b] = pure (.float .f64 b.toNat) := rfl
  have h5' : Try.f64.body = none := by simpa using h5
  simp [callFunc, h1, h2', h3, h4', h5', h6]
theorem op1_f64from {o : Oper} {env : List (Nat × PV)} {H : List AEnt} {n : Nat} {x : Operand} {types : Array TypeId} {b : Int} (ho : o.op = .call { callee := .value (.func 64), args := #[x], argTypes := types }) (hx : ev env x = some (.v (.int .u64 b))) : Op1 Try.prog o env H n (.v (.float .f64 b.toNat)) H :=
  op1_same fun F g a w hr => ⟨_, vr_v.2 rfl, by
    have h := run_f64from b w
    have he : a.eval (.func 64) = .func (.func 64) #[] #[] := rfl
    simp only [execOp, ho]
    simp [resolve, Deferred.ofValue, invoke, he, hr.const hx, h]⟩
structure S_ref01_seen where
  f_n : Int
  f_deep : Int
  f_at : Int
  f_why : Int
def of_ref01_seen (x : S_ref01_seen) : PV := .agg [(PV.v (.int .i64 x.f_n)), (PV.v (.int .i64 x.f_deep)), (PV.v (.int .i64 x.f_at)), (PV.v (.int .i64 x.f_why))]
theorem ids_S_ref01_seen (x : S_ref01_seen) : (of_ref01_seen x).ids = [] := ids_agg_cons rfl (ids_agg_cons rfl (ids_agg_cons rfl (ids_agg_cons rfl (ids_agg_nil))))
theorem pl_S_ref01_seen (x : S_ref01_seen) : Pl (of_ref01_seen x) := Pl.agg (.cons Pl.v (.cons Pl.v (.cons Pl.v (.cons Pl.v .nil))))
theorem csz_S_ref01_seen (x : S_ref01_seen) : (of_ref01_seen x).cells.length = 4 := rfl
theorem call1_S_ref01_seen (x : S_ref01_seen) : (of_ref01_seen x).cells.all one1 = true := by
  show List.all [(PV.v (.int .i64 x.f_n)), (PV.v (.int .i64 x.f_deep)), (PV.v (.int .i64 x.f_at)), (PV.v (.int .i64 x.f_why))] one1 = true
  simp only [List.all_cons, List.all_nil, one_V, one_RecP, Bool.and_true, Bool.true_and]
  rfl
structure S_value_count where
  f_n : Int
  f_deep : Int
  f_why : Int
def of_value_count (x : S_value_count) : PV := .agg [(PV.v (.int .i64 x.f_n)), (PV.v (.int .i64 x.f_deep)), (PV.v (.int .i64 x.f_why))]
theorem ids_S_value_count (x : S_value_count) : (of_value_count x).ids = [] := ids_agg_cons rfl (ids_agg_cons rfl (ids_agg_cons rfl (ids_agg_nil)))
theorem pl_S_value_count (x : S_value_count) : Pl (of_value_count x) := Pl.agg (.cons Pl.v (.cons Pl.v (.cons Pl.v .nil)))
theorem csz_S_value_count (x : S_value_count) : (of_value_count x).cells.length = 3 := rfl
theorem call1_S_value_count (x : S_value_count) : (of_value_count x).cells.all one1 = true := by
  show List.all [(PV.v (.int .i64 x.f_n)), (PV.v (.int .i64 x.f_deep)), (PV.v (.int .i64 x.f_why))] one1 = true
  simp only [List.all_cons, List.all_nil, one_V, one_RecP, Bool.and_true, Bool.true_and]
  rfl
structure S_mk_Odd where
  f_L : (List Int)
def of_mk_Odd (x : S_mk_Odd) : PV := .agg [(PV.sl none 1 (List.map (ofI .i64) x.f_L))]
theorem ids_S_mk_Odd (x : S_mk_Odd) : (of_mk_Odd x).ids = [] := ids_agg_cons (ids_slM (fun _ => rfl) x.f_L) (ids_agg_nil)
theorem pl_S_mk_Odd (x : S_mk_Odd) : Pl (of_mk_Odd x) := Pl.agg (.cons (pl_sl (fun _ => Pl.v) x.f_L) .nil)
theorem csz_S_mk_Odd (x : S_mk_Odd) : (of_mk_Odd x).cells.length = 1 := rfl
theorem call1_S_mk_Odd (x : S_mk_Odd) : (of_mk_Odd x).cells.all one1 = true := by
  show List.all [(PV.sl none 1 (List.map (ofI .i64) x.f_L))] one1 = true
  simp only [List.all_cons, List.all_nil, one_V, one_RecP, Bool.and_true, Bool.true_and]
  rfl
end Go.Proofs.Ytigadhiciinicaa
