/- Small facts for the laws on what is written. -/
import Derived.Test.YtigadhiciinicaaW9
namespace Go.Proofs.Ytigadhiciinicaa
open Go Aw
set_option linter.unusedVariables false
set_option linter.unusedSimpArgs false
set_option maxRecDepth 8000
theorem ones_sum {α : Type} : ∀ l : List α, (l.map (fun _ => 1)).sum = l.length
  | [] => rfl
  | x :: r => by rw [List.map_cons, List.sum_cons, ones_sum r, List.length_cons]; omega
theorem enc_pos (v : V) : 1 ≤ (enc v).length := by cases v <;> simp [enc]
theorem enc_inj {v w : V} (hv : Can v) (hv2 : okV v) (hw : Can w) (hw2 : okV w) (h : enc v = enc w) : v = w := by
  have h1 := val_enc hv hv2 []
  rw [h, val_enc hw hw2] at h1
  injection h1 with h1 _
  injection h1 with h1 _
  exact h1.symm
end Go.Proofs.Ytigadhiciinicaa
