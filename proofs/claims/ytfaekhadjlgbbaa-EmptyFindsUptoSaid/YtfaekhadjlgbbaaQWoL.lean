/-
  What a right world is. Plain law. No statement is proved here.
-/
import Derived.Test.YtfaekhadjlgbbaaQWo
namespace Go.Proofs.Ytfaekhadjlgbbaa
open Go.RowKit
set_option linter.unusedSimpArgs false
set_option linter.unusedVariables false
end Go.Proofs.Ytfaekhadjlgbbaa
