/- Plain laws, one behind the other. -/
import Derived.Test.YtigadhiciinicaaM1
import Derived.Test.YtigadhiciinicaaM0
namespace Go.Proofs.Ytigadhiciinicaa
open Go Aw
set_option linter.unusedVariables false
set_option linter.unusedSimpArgs false
set_option maxRecDepth 8000
theorem decode_true : p_wire_Decode [2, 1] = some (.bool true, 2, 0) := decode_ok (b := [2, 1]) (r' := []) (v := .bool true) (n := 1) (by decide) rfl
theorem decodes_j2 {x1 : Str × Str} {x2 x3 : V × Int × Int} {x5 : Term × Int × Int} (h1 : x1.1.length ≤ 1048576) (h2 : Can x2.1) (h3 : p_mk_Is x3.1 x5.1 = some true) : law03_WireDecodes_j2 x1 x2 x3 x5 false = some true := by
  have hf : fullO x1.1 9 = some () := by
    unfold fullO
    rw [Nat.ble_eq_true_of_le (by omega)]; rfl
  unfold law03_WireDecodes_j2
  simp only [cond_false, spoil_can h2, hf, Option.bind_some, decode_true, h3, cond_true]
  rfl
theorem plain_WireDecodes (a0 : Str) (h : (a0.map (fun _ => 1)).sum + 1 ≤ 1048576) (ok0 : ∀ a, a ∈ a0 → True) : p_law03_WireDecodes a0 = some true := by
  rw [ones_sum] at h
  obtain ⟨t, h1, h2⟩ := lent_kept a0 (by omega)
  have nn : ∀ a : Int, (a != a) = false := fun a => by simp
  have hb : a0.length ≤ 1099511627776 := by omega
  cases hv : valS 64 0 a0 with
  | ok x r' =>
    obtain ⟨v, n⟩ := x
    have hc := (val_can hv).1
    obtain ⟨_, h3⟩ := decode3_ok hb hv
    have his := is_built (bu_cl v (can_fine hc)) hc
    simp only [p_law03_WireDecodes, h1, Option.bind_some, decode_ok hb hv, skip_ok hb hv, h3, nn, cond_false, h2, Bool.not_true]
    rw [show ((0 : Int) == 0) = true from rfl]
    simp only [cond_true, nn, cond_false, law03_WireDecodes_j1, his, Option.bind_some, Bool.not_true]
    exact decodes_j2 (by show a0.length ≤ _; omega) hc his
  | bad p w =>
    have hw : w ≠ 0 := valS_nm 64 0 a0 p w hv
    have h3 := decode3_bad hb hv
    simp only [p_law03_WireDecodes, h1, Option.bind_some, decode_bad hb hv, skip_bad hb hv, h3, nn, cond_false, h2, Bool.not_true]
    rw [eq_t hw, ne_t hw]
    simp only [cond_true, cond_false, nn, law03_WireDecodes_j1]
    rw [ne_t hw, cond_true]
end Go.Proofs.Ytigadhiciinicaa
