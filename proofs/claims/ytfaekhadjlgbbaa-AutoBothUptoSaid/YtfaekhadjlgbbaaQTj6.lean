/-
  The parts of a graph: the program's Split, over deep values. No statement is proved here.
-/
import Derived.Test.YtfaekhadjlgbbaaQTj5
namespace Go.Proofs.Ytfaekhadjlgbbaa
open Go.RowKit
set_option linter.unusedSimpArgs false
set_option linter.unusedVariables false
end Go.Proofs.Ytfaekhadjlgbbaa
