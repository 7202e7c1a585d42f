/-
  Arguments of a law: words and numbers. No statement is proved here.
-/
import Derived.Test.YtfaekhadjlgbbaaQDC
import Derived.Test.YtfaekhadjlgbbaaQLas
namespace Go.Proofs.Ytfaekhadjlgbbaa
open Go.RowKit Go.ChangeShapes Go.WideShapes Go.ChangeAt
set_option linter.unusedSimpArgs false
end Go.Proofs.Ytfaekhadjlgbbaa
