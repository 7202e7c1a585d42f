/-
  Arguments of a law: graphs, lists of numbers and of truths. No statement is proved here.
-/
import Derived.Test.YtfaekhadjlgbbaaQDC
import Derived.Test.YtfaekhadjlgbbaaQSc
import Derived.Test.YtfaekhadjlgbbaaQBo
namespace Go.Proofs.Ytfaekhadjlgbbaa
open Go.RowKit Go.ChangeShapes Go.WideShapes Go.ChangeAt
set_option linter.unusedSimpArgs false
end Go.Proofs.Ytfaekhadjlgbbaa
