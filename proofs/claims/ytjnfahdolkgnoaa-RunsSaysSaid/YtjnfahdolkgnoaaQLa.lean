/-
  Letters of a word, of the program and of the reference, over deep values. No statement is proved here.
-/
import Derived.Test.YtjnfahdolkgnoaaQLas
import Derived.Test.YtjnfahdolkgnoaaQAw
import Derived.Test.YtjnfahdolkgnoaaQBit
namespace Go.Proofs.Ytjnfahdolkgnoaa
open Go.RowKit
set_option linter.unusedSimpArgs false
set_option linter.unusedVariables false
end Go.Proofs.Ytjnfahdolkgnoaa
