/-
  Arguments of a law: words and numbers. No statement is proved here.
-/
import Derived.Test.YtfaekhadjlgbbaaQDC
import Derived.Test.YtfaekhadjlgbbaaQLas
namespace Go.Proofs.Ytfaekhadjlgbbaa
open Go.RowKit Go.ChangeShapes Go.WideShapes Go.ChangeAt
set_option linter.unusedSimpArgs false
/-- Letters of a word. -/
def Lett (l : List Int) : Prop := ∀ x ∈ l, 0 ≤ x ∧ x < 18446744073709551616
end Go.Proofs.Ytfaekhadjlgbbaa
