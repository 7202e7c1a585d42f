/-
  The parts of a graph: the program's begin and close, over deep values. No statement is proved here.
-/
import Derived.Test.YtfaekhadjlgbbaaQTj2
import Derived.Test.YtfaekhadjlgbbaaQSc2
import Derived.Test.YtfaekhadjlgbbaaQGl
namespace Go.Proofs.Ytfaekhadjlgbbaa
open Go.RowKit
set_option linter.unusedSimpArgs false
set_option linter.unusedVariables false
/-! ### close -/
end Go.Proofs.Ytfaekhadjlgbbaa
