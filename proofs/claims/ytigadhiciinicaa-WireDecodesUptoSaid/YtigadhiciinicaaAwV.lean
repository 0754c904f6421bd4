/- Aw: calls of closures that hold values. -/
import Derived.Test.YtigadhiciinicaaAwU
namespace Go.Proofs.Ytigadhiciinicaa.Aw
open Go
set_option linter.unusedVariables false
set_option linter.unusedSimpArgs false
variable {P : Program} {H : List AEnt} {env : List (Nat × PV)} {n : Nat} {o : Oper}
end Go.Proofs.Ytigadhiciinicaa.Aw
