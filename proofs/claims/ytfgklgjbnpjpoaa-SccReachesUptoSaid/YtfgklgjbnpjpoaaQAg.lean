/-
  Arguments of a law: graphs, lists of numbers and of truths. No statement is proved here.
-/
import Derived.Test.YtfgklgjbnpjpoaaQDC
import Derived.Test.YtfgklgjbnpjpoaaQSc
import Derived.Test.YtfgklgjbnpjpoaaQBo
namespace Go.Proofs.Ytfgklgjbnpjpoaa
open Go.RowKit Go.ChangeShapes Go.WideShapes Go.ChangeAt
set_option linter.unusedSimpArgs false
end Go.Proofs.Ytfgklgjbnpjpoaa
