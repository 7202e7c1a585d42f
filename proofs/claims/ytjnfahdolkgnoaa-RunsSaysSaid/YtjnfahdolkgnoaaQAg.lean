/-
  Arguments of a law: graphs, lists of numbers and of truths. No statement is proved here.
-/
import Derived.Test.YtjnfahdolkgnoaaQDC
import Derived.Test.YtjnfahdolkgnoaaQSc
import Derived.Test.YtjnfahdolkgnoaaQBo
namespace Go.Proofs.Ytjnfahdolkgnoaa
open Go.RowKit Go.ChangeShapes Go.WideShapes Go.ChangeAt
set_option linter.unusedSimpArgs false
end Go.Proofs.Ytjnfahdolkgnoaa
