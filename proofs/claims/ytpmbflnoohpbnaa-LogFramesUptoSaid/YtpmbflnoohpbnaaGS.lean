/- Structs of the program: as trees. Written by gen.py. -/
import Derived.Test.YtpmbflnoohpbnaaTy
import Derived.Test.YtpmbflnoohpbnaaAwP
import Derived.Test.YtpmbflnoohpbnaaPls
import Derived.Test.YtpmbflnoohpbnaaAwL
import Derived.Test.YtpmbflnoohpbnaaSp
import Derived.KernelRfl
namespace Go.Proofs.Ytpmbflnoohpbnaa
open Go Aw
set_option linter.unusedVariables false
set_option linter.unusedSimpArgs false
set_option maxRecDepth 20000
set_option maxHeartbeats 2000000
structure S_api_Frame where
  f_Kind : Int
  f_Body : Str
def of_api_Frame (x : S_api_Frame) : PV := .agg [(PV.v (.int .i64 x.f_Kind)), (PV.sl none 5 1 (List.map ofB x.f_Body))]
theorem ids_S_api_Frame (x : S_api_Frame) : (of_api_Frame x).ids = [] := ids_agg_cons rfl (ids_agg_cons (ids_slM (fun _ => rfl) x.f_Body) (ids_agg_nil))
theorem pl_S_api_Frame (x : S_api_Frame) : Pl (of_api_Frame x) := Pl.agg (.cons Pl.v (.cons (pl_sl (fun _ => Pl.v) x.f_Body) .nil))
theorem csz_S_api_Frame (x : S_api_Frame) : (of_api_Frame x).cells.length = 2 := rfl
theorem call1_S_api_Frame (x : S_api_Frame) : (of_api_Frame x).cells.all one1 = true := by
  show List.all [(PV.v (.int .i64 x.f_Kind)), (PV.sl none 5 1 (List.map ofB x.f_Body))] one1 = true
  simp only [List.all_cons, List.all_nil, Bool.and_true, Bool.true_and]
  rfl
end Go.Proofs.Ytpmbflnoohpbnaa
