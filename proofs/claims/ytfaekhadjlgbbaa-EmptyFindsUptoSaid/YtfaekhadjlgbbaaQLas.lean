/-
  Words that go round, over deep values. No statement is proved here.
-/
import Derived.Test.YtfaekhadjlgbbaaQDk2
import Derived.Test.YtfaekhadjlgbbaaQLw
import Derived.Test.YtfaekhadjlgbbaaProg
namespace Go.Proofs.Ytfaekhadjlgbbaa
open Go.RowKit
set_option linter.unusedSimpArgs false
def dlet (l : List Int) : D := .lst 1 (l.map fun n => [.sc (.int .u64 n)])
theorem pure_dlet (l : List Int) : Pure (dlet l) := by
  simp only [dlet, Pure]; exact pureLL_map _ (fun n => by simp [PureL, Pure]) l
end Go.Proofs.Ytfaekhadjlgbbaa
