/- The knobs. -/
import Derived.Test.YtpmbflnoohpbnaaTy
import Derived.Test.YtpmbflnoohpbnaaAwR
import Derived.KernelRfl
namespace Go.Proofs.Ytpmbflnoohpbnaa
open Go Aw Go.ChangeShapes Go.RowKit
set_option linter.unusedVariables false
set_option linter.unusedSimpArgs false
set_option maxRecDepth 8000
theorem own : ownKnob Try.prog.godebug = none := by kernel_rfl
theorem laidOut : laidOutB Try.prog = true := by kernel_rfl
end Go.Proofs.Ytpmbflnoohpbnaa
