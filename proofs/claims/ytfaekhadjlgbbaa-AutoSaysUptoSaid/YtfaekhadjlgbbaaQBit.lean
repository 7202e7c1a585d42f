/-
  Bits of letters. Plain Lean. No statement is proved here.
-/
import Derived.WalkKit
namespace Go.Proofs.Ytfaekhadjlgbbaa
end Go.Proofs.Ytfaekhadjlgbbaa
