/- Structs of the program: as trees. Written by gen.py. -/
import Derived.Test.YtkmhecgagibgjaaTy
import Derived.Test.YtkmhecgagibgjaaAwG
import Derived.Test.YtkmhecgagibgjaaAwD
import Derived.Test.YtkmhecgagibgjaaAwO
import Derived.Test.YtkmhecgagibgjaaAwQ
import Derived.Test.YtkmhecgagibgjaaAwI2
import Derived.Test.YtkmhecgagibgjaaSrt
import Derived.Test.YtkmhecgagibgjaaAwI4
import Derived.Test.YtkmhecgagibgjaaAwH
import Derived.KernelRfl
namespace Go.Proofs.Ytkmhecgagibgjaa
open Go Aw
set_option linter.unusedVariables false
set_option linter.unusedSimpArgs false
set_option maxRecDepth 20000
set_option maxHeartbeats 2000000
theorem run_f64bits (b : Nat) (w : World) : (callFunc 60 #[.float .f64 b]).run Try.prog w = .ok (.value (.int .u64 (b : Nat))) w := by
  have h1 : Try.prog.funcs[60]? = some Try.f60 := by kernel_rfl
  have h2 : (Extern.findNext Try.f60).isNone = true := by kernel_rfl
  have h3 : Extern.find Try.f60 = some Extern.MathFloatBits.float64bits := by kernel_rfl
  have h4 : (Try.f60.name == "runtime.NumGoroutine") = false := by kernel_rfl
  have h5 : Try.f60.body.isNone = true := by kernel_rfl
  have h2' : Extern.findNext Try.f60 = none := by simpa using h2
  have h4' : ¬ Try.f60.name = "runtime.NumGoroutine" := by simpa using h4
  have h6 : Extern.MathFloatBits.float64bits #[.float .f64 b] = pure (.int .u64 (b : Nat)) := rfl
  have h5' : Try.f60.body = none := by simpa using h5
  simp [callFunc, h1, h2', h3, h4', h5', h6]
theorem op1_f64bits {o : Oper} {env : List (Nat × PV)} {H : List AEnt} {n : Nat} {x : Operand} {types : Array TypeId} {b : Nat} (ho : o.op = .call { callee := .value (.func 60), args := #[x], argTypes := types }) (hx : ev env x = some (.v (.float .f64 b))) : Op1 Try.prog o env H n (.v (.int .u64 (b : Nat))) H :=
  op1_same fun F g a w hr => ⟨_, vr_v.2 rfl, by
    have h := run_f64bits b w
    have he : a.eval (.func 60) = .func (.func 60) #[] #[] := rfl
    simp only [execOp, ho]
    simp [resolve, Deferred.ofValue, invoke, he, hr.const hx, h]⟩
def ixB (s : Str) (c : UInt8) : Int := match (List.range s.length).find? fun i => s.toArray[i]! == c with
  | some i => (i : Nat)
  | none => -1
theorem run_ixB (s : Str) (c : UInt8) (w : World) : (callFunc 105 #[.string ⟨s.toArray⟩, .int .u8 c.toNat]).run Try.prog w = .ok (.value (.int .i64 (ixB s c))) w := by
  have h1 : Try.prog.funcs[105]? = some Try.f105 := by kernel_rfl
  have h2 : (Extern.findNext Try.f105).isNone = true := by kernel_rfl
  have h3 : Extern.find Try.f105 = some Extern.BytealgIndexByte.indexByte := by kernel_rfl
  have h4 : (Try.f105.name == "runtime.NumGoroutine") = false := by kernel_rfl
  have h5 : Try.f105.body.isNone = true := by kernel_rfl
  have h2' : Extern.findNext Try.f105 = none := by simpa using h2
  have h4' : ¬ Try.f105.name = "runtime.NumGoroutine" := by simpa using h4
  have h6 : Extern.BytealgIndexByte.indexByte #[.string ⟨s.toArray⟩, .int .u8 c.toNat] = pure (.int .i64 (ixB s c)) := by
    have hc : UInt8.ofNat (Int.toNat (c.toNat : Int)) = c := by simp
    have hs : (ByteArray.mk s.toArray).size = s.length := by simp [ByteArray.size]
    have hi : ∀ i, (ByteArray.mk s.toArray)[i]! = s.toArray[i]! := fun i => by
      by_cases h : i < s.length
      · rw [getElem!_pos _ _ (by simpa [ByteArray.size] using h), getElem!_pos _ _ (by simpa using h)]; rfl
      · rw [getElem!_neg _ _ (by simpa [ByteArray.size] using h), getElem!_neg _ _ (by simpa using h)]
    show (match (List.range (ByteArray.mk s.toArray).size).find? fun i => (ByteArray.mk s.toArray)[i]! == UInt8.ofNat (Int.toNat (c.toNat : Int)) with | some i => (pure (goInt i) : Sem Value) | none => pure (goInt (-1))) = _
    simp only [hc, hs, hi]
    unfold ixB
    cases (List.range s.length).find? fun i => s.toArray[i]! == c <;> rfl
  have h5' : Try.f105.body = none := by simpa using h5
  simp [callFunc, h1, h2', h3, h4', h5', h6]
theorem op1_ixB {o : Oper} {env : List (Nat × PV)} {H : List AEnt} {n : Nat} {x y : Operand} {types : Array TypeId} {s : Str} {c : UInt8} (ho : o.op = .call { callee := .value (.func 105), args := #[x, y], argTypes := types }) (hx : ev env x = some (ofStr s)) (hy : ev env y = some (ofB c)) : Op1 Try.prog o env H n (.v (.int .i64 (ixB s c))) H :=
  op1_same fun F g a w hr => ⟨_, vr_v.2 rfl, by
    have h := run_ixB s c w
    have he : a.eval (.func 105) = .func (.func 105) #[] #[] := rfl
    simp only [execOp, ho]
    simp [resolve, Deferred.ofValue, invoke, he, hr.const hx, hr.const hy, h]⟩
structure S_api_Step where
  f_Name : Str
  f_At : Bool
  f_Index : Int
def of_api_Step (x : S_api_Step) : PV := .agg [(ofStr x.f_Name), (PV.v (.bool x.f_At)), (PV.v (.int .i64 x.f_Index))]
theorem ids_S_api_Step (x : S_api_Step) : (of_api_Step x).ids = [] := ids_agg_cons rfl (ids_agg_cons rfl (ids_agg_cons rfl (ids_agg_nil)))
theorem csz_S_api_Step (x : S_api_Step) : (of_api_Step x).cells.length = 3 := rfl
theorem call1_S_api_Step (x : S_api_Step) : (of_api_Step x).cells.all one1 = true := by
  show List.all [(ofStr x.f_Name), (PV.v (.bool x.f_At)), (PV.v (.int .i64 x.f_Index))] one1 = true
  simp only [List.all_cons, List.all_nil, one_V, one_RecP, Bool.and_true, Bool.true_and]
  rfl
structure S_api_Conflict where
  f_Way : (List S_api_Step)
  f_Base : V
  f_Ours : V
  f_Theirs : V
  f_Had : Bool
  f_WeHave : Bool
  f_TheyHave : Bool
def of_api_Conflict (x : S_api_Conflict) : PV := .agg [(PV.sl none 57 3 (List.map of_api_Step x.f_Way)), (ofV x.f_Base), (ofV x.f_Ours), (ofV x.f_Theirs), (PV.v (.bool x.f_Had)), (PV.v (.bool x.f_WeHave)), (PV.v (.bool x.f_TheyHave))]
theorem ids_S_api_Conflict (x : S_api_Conflict) : (of_api_Conflict x).ids = [] := ids_agg_cons (ids_slM ids_S_api_Step x.f_Way) (ids_agg_cons (ids_V x.f_Base) (ids_agg_cons (ids_V x.f_Ours) (ids_agg_cons (ids_V x.f_Theirs) (ids_agg_cons rfl (ids_agg_cons rfl (ids_agg_cons rfl (ids_agg_nil)))))))
theorem csz_S_api_Conflict (x : S_api_Conflict) : (of_api_Conflict x).cells.length = 7 := rfl
theorem call1_S_api_Conflict (x : S_api_Conflict) : (of_api_Conflict x).cells.all one1 = true := by
  show List.all [(PV.sl none 57 3 (List.map of_api_Step x.f_Way)), (ofV x.f_Base), (ofV x.f_Ours), (ofV x.f_Theirs), (PV.v (.bool x.f_Had)), (PV.v (.bool x.f_WeHave)), (PV.v (.bool x.f_TheyHave))] one1 = true
  simp only [List.all_cons, List.all_nil, one_V, one_RecP, Bool.and_true, Bool.true_and]
  rfl
structure S_value_count where
  f_n : Int
  f_deep : Int
  f_why : Int
structure S_merge_merger where
  f_settle : Unit
  f_conflicts : (List S_api_Conflict)
structure S_merge_side where
  f_v : V
  f_has : Bool
def of_merge_side (x : S_merge_side) : PV := .agg [(ofV x.f_v), (PV.v (.bool x.f_has))]
theorem ids_S_merge_side (x : S_merge_side) : (of_merge_side x).ids = [] := ids_agg_cons (ids_V x.f_v) (ids_agg_cons rfl (ids_agg_nil))
structure S_mk_Odd where
  f_L : (List Int)
end Go.Proofs.Ytkmhecgagibgjaa
