/-
  Arguments of a law: words and numbers. No statement is proved here.
-/
import Derived.Test.YtfgklgjbnpjpoaaQDC
import Derived.Test.YtfgklgjbnpjpoaaQLas
namespace Go.Proofs.Ytfgklgjbnpjpoaa
open Go.RowKit Go.ChangeShapes Go.WideShapes Go.ChangeAt
set_option linter.unusedSimpArgs false
/-- Letters of a word. -/
def Lett (l : List Int) : Prop := ∀ x ∈ l, 0 ≤ x ∧ x < 18446744073709551616
end Go.Proofs.Ytfgklgjbnpjpoaa
