/- Aw: a new variable in a place that was kept for it. -/
import Derived.Test.YthidgpcbnieleaaA0
namespace Go.Proofs.Ythidgpcbnieleaa.Aw
open Go
set_option linter.unusedVariables false
set_option linter.unusedSimpArgs false
variable {P : Program} {F : Lo} {H H' : List AEnt} {g g' : List (Option Nat)} {w w' : World} {env : List (Nat × PV)} {n : Nat} {o : Oper}
end Go.Proofs.Ythidgpcbnieleaa.Aw
