/-
  Equal lists of lists, over deep values. No statement is proved here.
-/
import Derived.Test.YtjnfahdolkgnoaaQFn
import Derived.Test.YtjnfahdolkgnoaaQSc2
namespace Go.Proofs.Ytjnfahdolkgnoaa
open Go.RowKit
set_option linter.unusedSimpArgs false
set_option linter.unusedVariables false
end Go.Proofs.Ytjnfahdolkgnoaa
