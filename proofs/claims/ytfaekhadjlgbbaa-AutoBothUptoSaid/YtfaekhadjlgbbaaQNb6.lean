/-
  An automaton of one set for many: the reference's Single, over deep values. No statement is proved here.
-/
import Derived.Test.YtfaekhadjlgbbaaQNb5
namespace Go.Proofs.Ytfaekhadjlgbbaa
open Go.RowKit
set_option linter.unusedSimpArgs false
set_option linter.unusedVariables false
end Go.Proofs.Ytfaekhadjlgbbaa
