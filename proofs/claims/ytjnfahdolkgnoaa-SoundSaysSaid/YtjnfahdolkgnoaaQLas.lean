/-
  Words that go round, over deep values. No statement is proved here.
-/
import Derived.Test.YtjnfahdolkgnoaaQDk2
import Derived.Test.YtjnfahdolkgnoaaQLw
import Derived.Test.YtjnfahdolkgnoaaProg
namespace Go.Proofs.Ytjnfahdolkgnoaa
open Go.RowKit
set_option linter.unusedSimpArgs false
end Go.Proofs.Ytjnfahdolkgnoaa
