/- Aw: empty rows without room, and rows that are clipped: what is appended to them makes a new row. -/
import Derived.Test.YthidgpcbnieleaaAwS
import Derived.Test.YthidgpcbnieleaaAwH
namespace Go.Proofs.Ythidgpcbnieleaa.Aw
open Go
set_option linter.unusedVariables false
set_option linter.unusedSimpArgs false
variable {P : Program} {F : Lo} {H H' : List AEnt} {g g' : List (Option Nat)} {w w' : World} {env : List (Nat × PV)} {n : Nat} {o : Oper}
variable {α : Type} {f : α → PV}
inductive WkLO : List PV → List PV → Prop
 | nil : WkLO [] []
 | cons {x y : PV} {xs ys : List PV} : WkL x.cells (y.cells.map .old) → WkLO xs ys → WkLO (x :: xs) (y :: ys)
theorem WkLO.len : ∀ {xs ys : List PV}, WkLO xs ys → xs.length = ys.length
 | _, _, .nil => rfl
 | _, _, .cons _ h => by simp [h.len]
theorem WkLO.get : ∀ {xs ys : List PV}, WkLO xs ys → ∀ (i : Nat) (y : PV), ys[i]? = some y → ∃ x, xs[i]? = some x ∧ WkL x.cells (y.cells.map .old)
 | _, _, .nil, i, y, h => by simp at h
 | _, _, .cons (x := x) hw h, 0, y, hy => by simp at hy; subst hy; exact ⟨x, by simp, hw⟩
 | _, _, .cons hw h, i + 1, y, hy => by simpa using h.get i y (by simpa using hy)
end Go.Proofs.Ythidgpcbnieleaa.Aw
