/-
  Lists of numbers below one, over deep values. No statement is proved here.
-/
import Derived.Test.YtfgklgjbnpjpoaaQFn
namespace Go.Proofs.Ytfgklgjbnpjpoaa
open Go.RowKit
set_option linter.unusedSimpArgs false
set_option linter.unusedVariables false
end Go.Proofs.Ytfgklgjbnpjpoaa
