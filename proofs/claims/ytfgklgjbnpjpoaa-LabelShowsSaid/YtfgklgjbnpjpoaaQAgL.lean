/-
  Arguments of a law of a bounded bulk: graphs, lists of numbers. No statement is proved here.
-/
import Derived.Test.YtfgklgjbnpjpoaaQAg
import Derived.Test.YtfgklgjbnpjpoaaQGr
namespace Go.Proofs.Ytfgklgjbnpjpoaa
open Go.RowKit Go.ChangeShapes Go.WideShapes Go.ChangeAt
set_option linter.unusedSimpArgs false
end Go.Proofs.Ytfgklgjbnpjpoaa
