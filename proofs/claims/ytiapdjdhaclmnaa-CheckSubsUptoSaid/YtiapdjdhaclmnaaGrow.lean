/- slices.Grow of nothing, at one type. -/
import Derived.Test.YtiapdjdhaclmnaaV0
import Derived.Test.YtiapdjdhaclmnaaAwB
import Derived.KernelRfl
namespace Go.Proofs.Ytiapdjdhaclmnaa
open Go Aw
set_option linter.unusedVariables false
set_option linter.unusedSimpArgs false
set_option maxRecDepth 8000
def zxh (i : Int) : Option Nat := bif decide (1 ≤ i) && decide (i ≤ 1099511627) then some i.toNat else none
theorem zd0 {i : Int} {c : Nat} (h : zxh i = some c) : i = (c : Nat) ∧ 1 ≤ c ∧ c ≤ 1099511627 := by
 unfold zxh at h
 by_cases h1 : 1 ≤ i
 ·by_cases h2 : i ≤ 1099511627
  ·rw [decide_eq_true h1, decide_eq_true h2] at h; simp at h; omega
  ·rw [decide_eq_true h1, decide_eq_false h2] at h; cases h
 ·rw [decide_eq_false h1] at h; cases h
theorem zxg {k : Nat} (h1 : 1 ≤ k) (h2 : k ≤ 1099511627) : Zaf Try.prog 101 34 18 k := by
 intro w
 obtain ⟨inf, hinf, hzz, hss, hbb⟩ := (z0u).spec
 have hge := grownCap_ge w k 0 34
 refine zmp (args := [.slice none 0 0, .int .i64 (k : Nat)]) (r := 4) Try.func101 rfl Try.ntmps101 rfl rfl ?_
 refine z2x (z1t (z12 rfl rfl (z38 rfl rfl) (z3d ?_)))
 change XW _ _ _ _ _ _ _
 refine z2x (z2x (z1t (z12 rfl rfl (z2m rfl rfl) (z12 rfl rfl (zjs rfl rfl rfl) (z3d ?_)))))
 change XW _ _ _ _ _ _ _
 refine zbo rfl (fun hc => ?_) (fun hc => zea ?_)
 ·have := of_decide_eq_true hc; omega
 change XW _ _ _ _ _ _ _
 refine z2x (z2x (z1t (z12 rfl rfl (z2m rfl rfl) (z12 rfl rfl (z2m rfl rfl) (z12 rfl rfl (Z2e Try.underlying30 rfl rfl) (z12 rfl rfl (z2m rfl rfl) (z12 rfl rfl (zgo Try.underlying30 rfl rfl)
  (z12 rfl rfl (Z2d rfl rfl rfl (by omega)) (z12 rfl rfl (Z2d rfl rfl rfl (by omega)) (z12 rfl rfl (z38 rfl rfl) (z3d ?_)))))))))))
 change XW _ _ _ _ _ _ _
 refine z2x (z1t (z12 rfl rfl (z2m rfl rfl) (z12 rfl rfl (Z6o rfl rfl rfl) (z3d ?_))))
 change XW _ _ _ _ _ _ _
 have ek : (k : Int) - (((0 : Nat) : Int) - ((0 : Nat) : Int)) = (k : Nat) := by omega
 refine zbo rfl (fun hc => ?_) (fun hc => ?_)
 ·refine z1t (z12 rfl rfl (z2m rfl rfl) (z12 rfl rfl (z2m rfl rfl) (z12 rfl rfl (Z2e Try.underlying30 rfl rfl) (z12 rfl rfl (zsp Try.underlying30 z0u rfl rfl rfl rfl) (z12 rfl rfl (z2m rfl rfl)
   (z12 rfl rfl (Z48 rfl rfl rfl rfl (by rw [ek]; exact zeo Try.underlying30 Try.underlying3 hinf hzz (by rw [hss]; decide) k h1 (by rw [hbb]; omega) (by omega) (growslice_fits (by omega) (by rw [hbb]; omega))))
   (z12 rfl rfl (z2m rfl rfl) (z12 rfl rfl (zgo Try.underlying30 rfl rfl) (z12 rfl rfl (zsp Try.underlying30 z0u rfl rfl rfl rfl) (z12 rfl rfl (z38 rfl rfl) (z3d ?_)))))))))))
  change XW _ _ _ _ _ _ _
  refine z2x (z1t (z12 rfl rfl (z2m rfl rfl) (z12 rfl rfl (z38 rfl rfl) (z3d ?_))))
  change XW _ _ _ _ _ _ _
  refine Z6m ⟨_, rfl, _, w.drew, _, rfl, rfl, rfl, rfl, rfl, ?_, rfl⟩
  have hz : (Value.cells (.agg #[.int .i64 0, .int .i64 0, .int .i64 0, .bool false, .int .i64 0, .float .f64 0, .string ⟨#[]⟩, .slice none 0 0, .int .u64 0, .slice none 0 0, .slice none 0 0, .string ⟨#[]⟩, .int .i64 0, .slice none 0 0, .slice none 0 0, .slice none 0 0, .bool false, .string ⟨#[]⟩])).size = 18 := rfl
  rw [Array.size_append, size_zeroCells, size_zeroCells, hz, ← Nat.add_mul]
  congr 1; omega
 ·have := of_decide_eq_false hc; omega
end Go.Proofs.Ytiapdjdhaclmnaa
