/- Structs of the program: as trees. Written by gen.py. -/
import Derived.Test.YthfdpaboekoncaaTy
import Derived.Test.YthfdpaboekoncaaAwV
import Derived.Test.YthfdpaboekoncaaPls
import Derived.Test.YthfdpaboekoncaaSpV
import Derived.Test.YthfdpaboekoncaaSpT
import Derived.KernelRfl
namespace Go.Proofs.Ythfdpaboekoncaa
open Go Aw
set_option linter.unusedVariables false
set_option linter.unusedSimpArgs false
set_option maxRecDepth 20000
set_option maxHeartbeats 2000000
theorem run_f64bits (b : Nat) (w : World) : (callFunc 47 #[.float .f64 b]).run Try.prog w = .ok (.value (.int .u64 (b : Nat))) w := by
  have h1 : Try.prog.funcs[47]? = some Try.f47 := by kernel_rfl
  have h2 : (Extern.findNext Try.f47).isNone = true := by kernel_rfl
  have h3 : Extern.find Try.f47 = some Extern.MathFloatBits.float64bits := by kernel_rfl
  have h4 : (Try.f47.name == "runtime.NumGoroutine") = false := by kernel_rfl
  have h5 : Try.f47.body.isNone = true := by kernel_rfl
  have h2' : Extern.findNext Try.f47 = none := by simpa using h2
  have h4' : ¬ Try.f47.name = "runtime.NumGoroutine" := by simpa using h4
  have h6 : Extern.MathFloatBits.float64bits #[.float .f64 b] = pure (.int .u64 (b : Nat)) := rfl
  have h5' : Try.f47.body = none := by simpa using h5
  simp [callFunc, h1, h2', h3, h4', h5', h6]
theorem op1_f64bits {o : Oper} {env : List (Nat × PV)} {H : List AEnt} {n : Nat} {x : Operand} {types : Array TypeId} {b : Nat} (ho : o.op = .call { callee := .value (.func 47), args := #[x], argTypes := types }) (hx : ev env x = some (.v (.float .f64 b))) : Op1 Try.prog o env H n (.v (.int .u64 (b : Nat))) H :=
  op1_same fun F g a w hr => ⟨_, vr_v.2 rfl, by
    have h := run_f64bits b w
    have he : a.eval (.func 47) = .func (.func 47) #[] #[] := rfl
    simp only [execOp, ho]
    simp [resolve, Deferred.ofValue, invoke, he, hr.const hx, h]⟩
structure S_value_count where
  f_n : Int
  f_deep : Int
  f_why : Int
def of_value_count (x : S_value_count) : PV := .agg [(PV.v (.int .i64 x.f_n)), (PV.v (.int .i64 x.f_deep)), (PV.v (.int .i64 x.f_why))]
theorem ids_S_value_count (x : S_value_count) : (of_value_count x).ids = [] := ids_agg_cons rfl (ids_agg_cons rfl (ids_agg_cons rfl (ids_agg_nil)))
theorem pl_S_value_count (x : S_value_count) : Pl (of_value_count x) := Pl.agg (.cons Pl.v (.cons Pl.v (.cons Pl.v .nil)))
theorem csz_S_value_count (x : S_value_count) : (of_value_count x).cells.length = 3 := rfl
theorem call1_S_value_count (x : S_value_count) : (of_value_count x).cells.all one1 = true := by
  show List.all [(PV.v (.int .i64 x.f_n)), (PV.v (.int .i64 x.f_deep)), (PV.v (.int .i64 x.f_why))] one1 = true
  simp only [List.all_cons, List.all_nil, one_V, one_RecP, Bool.and_true, Bool.true_and]
  rfl
structure S_ref01_seen where
  f_n : Int
  f_deep : Int
  f_at : Int
  f_why : Int
def of_ref01_seen (x : S_ref01_seen) : PV := .agg [(PV.v (.int .i64 x.f_n)), (PV.v (.int .i64 x.f_deep)), (PV.v (.int .i64 x.f_at)), (PV.v (.int .i64 x.f_why))]
theorem ids_S_ref01_seen (x : S_ref01_seen) : (of_ref01_seen x).ids = [] := ids_agg_cons rfl (ids_agg_cons rfl (ids_agg_cons rfl (ids_agg_cons rfl (ids_agg_nil))))
theorem pl_S_ref01_seen (x : S_ref01_seen) : Pl (of_ref01_seen x) := Pl.agg (.cons Pl.v (.cons Pl.v (.cons Pl.v (.cons Pl.v .nil))))
theorem csz_S_ref01_seen (x : S_ref01_seen) : (of_ref01_seen x).cells.length = 4 := rfl
theorem call1_S_ref01_seen (x : S_ref01_seen) : (of_ref01_seen x).cells.all one1 = true := by
  show List.all [(PV.v (.int .i64 x.f_n)), (PV.v (.int .i64 x.f_deep)), (PV.v (.int .i64 x.f_at)), (PV.v (.int .i64 x.f_why))] one1 = true
  simp only [List.all_cons, List.all_nil, one_V, one_RecP, Bool.and_true, Bool.true_and]
  rfl
structure S_mk_Odd where
  f_L : (List Int)
def of_mk_Odd (x : S_mk_Odd) : PV := .agg [(PV.sl none 3 1 (List.map (ofI .i64) x.f_L))]
theorem ids_S_mk_Odd (x : S_mk_Odd) : (of_mk_Odd x).ids = [] := ids_agg_cons (ids_slM (fun _ => rfl) x.f_L) (ids_agg_nil)
theorem pl_S_mk_Odd (x : S_mk_Odd) : Pl (of_mk_Odd x) := Pl.agg (.cons (pl_sl (fun _ => Pl.v) x.f_L) .nil)
theorem csz_S_mk_Odd (x : S_mk_Odd) : (of_mk_Odd x).cells.length = 1 := rfl
theorem call1_S_mk_Odd (x : S_mk_Odd) : (of_mk_Odd x).cells.all one1 = true := by
  show List.all [(PV.sl none 3 1 (List.map (ofI .i64) x.f_L))] one1 = true
  simp only [List.all_cons, List.all_nil, one_V, one_RecP, Bool.and_true, Bool.true_and]
  rfl
structure S_anon102 where
def of_anon102 (x : S_anon102) : PV := .agg []
theorem ids_S_anon102 (x : S_anon102) : (of_anon102 x).ids = [] := ids_agg_nil
theorem pl_S_anon102 (x : S_anon102) : Pl (of_anon102 x) := Pl.agg .nil
theorem csz_S_anon102 (x : S_anon102) : (of_anon102 x).cells.length = 0 := rfl
theorem call1_S_anon102 (x : S_anon102) : (of_anon102 x).cells.all one1 = true := by
  show List.all [] one1 = true
  simp only [List.all_cons, List.all_nil, one_V, one_RecP, Bool.and_true, Bool.true_and]
end Go.Proofs.Ythfdpaboekoncaa
