/- Structs of the program: as trees. Written by gen.py. -/
import Derived.Test.YtiapdjdhaclmnaaTy
import Derived.Test.YtiapdjdhaclmnaaAwG
import Derived.KernelRfl
namespace Go.Proofs.Ytiapdjdhaclmnaa
open Go Aw
set_option linter.unusedVariables false
set_option linter.unusedSimpArgs false
set_option maxRecDepth 20000
set_option maxHeartbeats 2000000
theorem run_f64bits (b : Nat) (w : World) : (callFunc 38 #[.float .f64 b]).run Try.prog w = .ok (.value (.int .u64 (b : Nat))) w := by
  have h1 : Try.prog.funcs[38]? = some Try.f38 := by kernel_rfl
  have h2 : (Extern.findNext Try.f38).isNone = true := by kernel_rfl
  have h3 : Extern.find Try.f38 = some Extern.MathFloatBits.float64bits := by kernel_rfl
  have h4 : (Try.f38.name == "runtime.NumGoroutine") = false := by kernel_rfl
  have h5 : Try.f38.body.isNone = true := by kernel_rfl
  have h2' : Extern.findNext Try.f38 = none := by simpa using h2
  have h4' : ¬ Try.f38.name = "runtime.NumGoroutine" := by simpa using h4
  have h6 : Extern.MathFloatBits.float64bits #[.float .f64 b] = pure (.int .u64 (b : Nat)) := rfl
  have h5' : Try.f38.body = none := by simpa using h5
  simp [callFunc, h1, h2', h3, h4', h5', h6]
theorem op1_f64bits {o : Oper} {env : List (Nat × PV)} {H : List AEnt} {n : Nat} {x : Operand} {types : Array TypeId} {b : Nat} (ho : o.op = .call { callee := .value (.func 38), args := #[x], argTypes := types }) (hx : ev env x = some (.v (.float .f64 b))) : Op1 Try.prog o env H n (.v (.int .u64 (b : Nat))) H :=
  op1_same fun F g a w hr => ⟨_, vr_v.2 rfl, by
    have h := run_f64bits b w
    have he : a.eval (.func 38) = .func (.func 38) #[] #[] := rfl
    simp only [execOp, ho]
    simp [resolve, Deferred.ofValue, invoke, he, hr.const hx, h]⟩
structure S_arr2_Typ where
  f_0 : Typ
  f_1 : Typ
def of_arr2_Typ (x : S_arr2_Typ) : PV := .agg [(PV.v (.int .i64 (x.f_0).kind)), (PV.v (.int .i64 (x.f_0).of)), (PV.v (.int .i64 ((x.f_0).only).kind)), (PV.v (.bool ((x.f_0).only).bool)), (PV.v (.int .i64 ((x.f_0).only).int)), (PV.v (.float .f64 ((x.f_0).only).float)), (ofStr ((x.f_0).only).text), (PV.sl none 1 (List.map ofB ((x.f_0).only).bytes)), (PV.v (.int .u64 ((x.f_0).only).ref)), (PV.sl none 11 (List.map ofTerm ((x.f_0).only).list)), (PV.sl none 12 (List.map ofEntry ((x.f_0).only).fields)), (ofStr ((x.f_0).only).cls), (PV.v (.int .i64 ((x.f_0).only).ver)), (PV.sl none 18 (List.map ofTyp (x.f_0).parts)), (PV.sl none 1 (List.map ofStr (x.f_0).names)), (PV.sl none 1 (List.map ofBool (x.f_0).lacks)), (PV.v (.bool (x.f_0).opn)), (ofStr (x.f_0).cls), (PV.v (.int .i64 (x.f_1).kind)), (PV.v (.int .i64 (x.f_1).of)), (PV.v (.int .i64 ((x.f_1).only).kind)), (PV.v (.bool ((x.f_1).only).bool)), (PV.v (.int .i64 ((x.f_1).only).int)), (PV.v (.float .f64 ((x.f_1).only).float)), (ofStr ((x.f_1).only).text), (PV.sl none 1 (List.map ofB ((x.f_1).only).bytes)), (PV.v (.int .u64 ((x.f_1).only).ref)), (PV.sl none 11 (List.map ofTerm ((x.f_1).only).list)), (PV.sl none 12 (List.map ofEntry ((x.f_1).only).fields)), (ofStr ((x.f_1).only).cls), (PV.v (.int .i64 ((x.f_1).only).ver)), (PV.sl none 18 (List.map ofTyp (x.f_1).parts)), (PV.sl none 1 (List.map ofStr (x.f_1).names)), (PV.sl none 1 (List.map ofBool (x.f_1).lacks)), (PV.v (.bool (x.f_1).opn)), (ofStr (x.f_1).cls)]
theorem ids_S_arr2_Typ (x : S_arr2_Typ) : (of_arr2_Typ x).ids = [] := ids_agg_cons rfl (ids_agg_cons rfl (ids_agg_cons rfl (ids_agg_cons rfl (ids_agg_cons rfl (ids_agg_cons rfl (ids_agg_cons rfl (ids_agg_cons (ids_slM (fun _ => rfl) (((x.f_0).only).bytes)) (ids_agg_cons rfl (ids_agg_cons (ids_slM ids_Term (((x.f_0).only).list)) (ids_agg_cons (ids_slM ids_Entry (((x.f_0).only).fields)) (ids_agg_cons rfl (ids_agg_cons rfl (ids_agg_cons (ids_slM ids_Typ ((x.f_0).parts)) (ids_agg_cons (ids_slM (fun _ => rfl) ((x.f_0).names)) (ids_agg_cons (ids_slM (fun _ => rfl) ((x.f_0).lacks)) (ids_agg_cons rfl (ids_agg_cons rfl (ids_agg_cons rfl (ids_agg_cons rfl (ids_agg_cons rfl (ids_agg_cons rfl (ids_agg_cons rfl (ids_agg_cons rfl (ids_agg_cons rfl (ids_agg_cons (ids_slM (fun _ => rfl) (((x.f_1).only).bytes)) (ids_agg_cons rfl (ids_agg_cons (ids_slM ids_Term (((x.f_1).only).list)) (ids_agg_cons (ids_slM ids_Entry (((x.f_1).only).fields)) (ids_agg_cons rfl (ids_agg_cons rfl (ids_agg_cons (ids_slM ids_Typ ((x.f_1).parts)) (ids_agg_cons (ids_slM (fun _ => rfl) ((x.f_1).names)) (ids_agg_cons (ids_slM (fun _ => rfl) ((x.f_1).lacks)) (ids_agg_cons rfl (ids_agg_cons rfl (ids_agg_nil))))))))))))))))))))))))))))))))))))
theorem csz_S_arr2_Typ (x : S_arr2_Typ) : (of_arr2_Typ x).cells.length = 36 := rfl
theorem call1_S_arr2_Typ (x : S_arr2_Typ) : (of_arr2_Typ x).cells.all one1 = true := by
  show List.all [(PV.v (.int .i64 (x.f_0).kind)), (PV.v (.int .i64 (x.f_0).of)), (PV.v (.int .i64 ((x.f_0).only).kind)), (PV.v (.bool ((x.f_0).only).bool)), (PV.v (.int .i64 ((x.f_0).only).int)), (PV.v (.float .f64 ((x.f_0).only).float)), (ofStr ((x.f_0).only).text), (PV.sl none 1 (List.map ofB ((x.f_0).only).bytes)), (PV.v (.int .u64 ((x.f_0).only).ref)), (PV.sl none 11 (List.map ofTerm ((x.f_0).only).list)), (PV.sl none 12 (List.map ofEntry ((x.f_0).only).fields)), (ofStr ((x.f_0).only).cls), (PV.v (.int .i64 ((x.f_0).only).ver)), (PV.sl none 18 (List.map ofTyp (x.f_0).parts)), (PV.sl none 1 (List.map ofStr (x.f_0).names)), (PV.sl none 1 (List.map ofBool (x.f_0).lacks)), (PV.v (.bool (x.f_0).opn)), (ofStr (x.f_0).cls), (PV.v (.int .i64 (x.f_1).kind)), (PV.v (.int .i64 (x.f_1).of)), (PV.v (.int .i64 ((x.f_1).only).kind)), (PV.v (.bool ((x.f_1).only).bool)), (PV.v (.int .i64 ((x.f_1).only).int)), (PV.v (.float .f64 ((x.f_1).only).float)), (ofStr ((x.f_1).only).text), (PV.sl none 1 (List.map ofB ((x.f_1).only).bytes)), (PV.v (.int .u64 ((x.f_1).only).ref)), (PV.sl none 11 (List.map ofTerm ((x.f_1).only).list)), (PV.sl none 12 (List.map ofEntry ((x.f_1).only).fields)), (ofStr ((x.f_1).only).cls), (PV.v (.int .i64 ((x.f_1).only).ver)), (PV.sl none 18 (List.map ofTyp (x.f_1).parts)), (PV.sl none 1 (List.map ofStr (x.f_1).names)), (PV.sl none 1 (List.map ofBool (x.f_1).lacks)), (PV.v (.bool (x.f_1).opn)), (ofStr (x.f_1).cls)] one1 = true
  simp only [List.all_cons, List.all_nil, one_V, one_RecP, Bool.and_true, Bool.true_and]
  rfl
structure S_value_count where
  f_n : Int
  f_deep : Int
  f_why : Int
def of_value_count (x : S_value_count) : PV := .agg [(PV.v (.int .i64 x.f_n)), (PV.v (.int .i64 x.f_deep)), (PV.v (.int .i64 x.f_why))]
theorem ids_S_value_count (x : S_value_count) : (of_value_count x).ids = [] := ids_agg_cons rfl (ids_agg_cons rfl (ids_agg_cons rfl (ids_agg_nil)))
theorem csz_S_value_count (x : S_value_count) : (of_value_count x).cells.length = 3 := rfl
theorem call1_S_value_count (x : S_value_count) : (of_value_count x).cells.all one1 = true := by
  show List.all [(PV.v (.int .i64 x.f_n)), (PV.v (.int .i64 x.f_deep)), (PV.v (.int .i64 x.f_why))] one1 = true
  simp only [List.all_cons, List.all_nil, one_V, one_RecP, Bool.and_true, Bool.true_and]
  rfl
structure S_anon153 where
def of_anon153 (x : S_anon153) : PV := .agg []
theorem ids_S_anon153 (x : S_anon153) : (of_anon153 x).ids = [] := ids_agg_nil
theorem csz_S_anon153 (x : S_anon153) : (of_anon153 x).cells.length = 0 := rfl
theorem call1_S_anon153 (x : S_anon153) : (of_anon153 x).cells.all one1 = true := by
  show List.all [] one1 = true
  simp only [List.all_cons, List.all_nil, one_V, one_RecP, Bool.and_true, Bool.true_and]
structure S_check_room where
  f_left : Int
def of_check_room (x : S_check_room) : PV := .agg [(PV.v (.int .i64 x.f_left))]
theorem ids_S_check_room (x : S_check_room) : (of_check_room x).ids = [] := ids_agg_cons rfl (ids_agg_nil)
theorem csz_S_check_room (x : S_check_room) : (of_check_room x).cells.length = 1 := rfl
theorem call1_S_check_room (x : S_check_room) : (of_check_room x).cells.all one1 = true := by
  show List.all [(PV.v (.int .i64 x.f_left))] one1 = true
  simp only [List.all_cons, List.all_nil, one_V, one_RecP, Bool.and_true, Bool.true_and]
  rfl
structure S_mk_Odd where
  f_L : (List Int)
def of_mk_Odd (x : S_mk_Odd) : PV := .agg [(PV.sl none 1 (List.map (ofI .i64) x.f_L))]
theorem ids_S_mk_Odd (x : S_mk_Odd) : (of_mk_Odd x).ids = [] := ids_agg_cons (ids_slM (fun _ => rfl) x.f_L) (ids_agg_nil)
theorem csz_S_mk_Odd (x : S_mk_Odd) : (of_mk_Odd x).cells.length = 1 := rfl
theorem call1_S_mk_Odd (x : S_mk_Odd) : (of_mk_Odd x).cells.all one1 = true := by
  show List.all [(PV.sl none 1 (List.map (ofI .i64) x.f_L))] one1 = true
  simp only [List.all_cons, List.all_nil, one_V, one_RecP, Bool.and_true, Bool.true_and]
  rfl
end Go.Proofs.Ytiapdjdhaclmnaa
