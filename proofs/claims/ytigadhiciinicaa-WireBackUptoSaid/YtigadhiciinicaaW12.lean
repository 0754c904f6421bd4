/- The law on there and back. -/
import Derived.Test.YtigadhiciinicaaW10
import Derived.Test.YtigadhiciinicaaNR
namespace Go.Proofs.Ytigadhiciinicaa
open Go Aw
set_option linter.unusedVariables false
set_option linter.unusedSimpArgs false
set_option maxRecDepth 8000
theorem plain_WireBack (a0 : Term) (a1 : Str) (h : bkT a0 + ((a1.map (fun _ => 1)).sum + 1) ≤ 1048576) (ok0 : okT a0) (ok1 : ∀ a, a ∈ a1 → True) : p_law03_WireBack a0 a1 = some true := by
  rw [ones_sum] at h
  have hb := bt a0 ok0 (by omega)
  have hlen := hb.len
  simp only [p_law03_WireBack, mk_Built_eq a0 (by omega), Option.bind_some]
  by_cases hc : Can (bu a0)
  · have hv := val_enc hc hb.ok a1
    have hl : (enc (bu a0) ++ a1).length ≤ 1099511627776 := by rw [List.length_append]; omega
    have e1 : (enc (bu a0) ++ a1).length - a1.length = (enc (bu a0)).length := by rw [List.length_append]; omega
    rw [encode_can hc hb.ok (by omega), Option.bind_some]
    simp only [show ((0 : Int) != 0) = false from rfl, cond_false]
    rw [app0 (by omega) (by omega), Option.bind_some, appW (by omega), Option.bind_some, decode_ok hl hv, Option.bind_some, Option.bind_some, appW (by omega), Option.bind_some, skip_ok hl hv, Option.bind_some, e1]
    simp only [beq_self_eq_true, cond_true, is_built rfl hc, Option.bind_some]
  · rw [encode_not hc, Option.bind_some]
    simp only [ne_t (check_cannot hc), cond_true, ref01_Check_eq a0 (by omega), Option.bind_some, beq_self_eq_true, List.length_nil]
    rfl
end Go.Proofs.Ytigadhiciinicaa
