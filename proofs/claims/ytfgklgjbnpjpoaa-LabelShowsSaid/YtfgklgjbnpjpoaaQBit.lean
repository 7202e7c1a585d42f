/-
  Bits of letters. Plain Lean. No statement is proved here.
-/
import Derived.WalkKit
namespace Go.Proofs.Ytfgklgjbnpjpoaa
/-- A bit of a letter. -/
def bitB (x n : Int) : Bool := (x.fdiv (2 ^ min n.toNat 64)).tmod 2 == 1

end Go.Proofs.Ytfgklgjbnpjpoaa
