/- Texts and bytes, as trees. -/
import Derived.Test.YtpmbflnoohpbnaaV0
import Derived.Test.YtpmbflnoohpbnaaAwT
namespace Go.Proofs.Ytpmbflnoohpbnaa
open Go Aw
set_option linter.unusedVariables false
set_option linter.unusedSimpArgs false
set_option maxRecDepth 8000
theorem ids_str (s : Str) : (ofStr s).ids = [] := rfl
theorem ids_B (b : UInt8) : (ofB b).ids = [] := rfl
end Go.Proofs.Ytpmbflnoohpbnaa
