/-
  Parts in which one may go round fairly: plain law, and the program's fairParts over deep values. No statement is proved here.
-/
import Derived.Test.YtfaekhadjlgbbaaQTj6
import Derived.Test.YtfaekhadjlgbbaaQEl0
import Derived.Test.YtfaekhadjlgbbaaQRt
import Derived.Test.YtfaekhadjlgbbaaQFn
namespace Go.Proofs.Ytfaekhadjlgbbaa
open Go.RowKit
set_option linter.unusedSimpArgs false
set_option linter.unusedVariables false
/-! ### Plain -/
/-- The numbers of a list, as truths. -/
def setB (l : List Int) : Nat → Bool := fun v => l.contains (v : Int)
/-- Marks at the parts of a graph. -/
theorem rbl_put {n z i : Nat} {f f' : Nat → Bool} {b : Bool} (hz : z = i) (h : ∀ v, v < n → f' v = if v = i then b else f v) : (rbl n f).set z [.sc (.bool b)] = rbl n f' := by
  subst hz
  rw [rbl_set]
  exact rbl_congr fun v hv => (h v hv).symm
/-! ### The program -/
end Go.Proofs.Ytfaekhadjlgbbaa
