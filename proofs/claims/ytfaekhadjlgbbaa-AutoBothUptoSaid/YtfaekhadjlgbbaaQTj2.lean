/-
  The parts of a graph by one search with a stack: how long it takes; parts by their numbers. Plain Lean. No statement is proved here.
-/
import Derived.Test.YtfaekhadjlgbbaaQTj1
import Derived.Test.YtfaekhadjlgbbaaQDm0
namespace Go.Proofs.Ytfaekhadjlgbbaa
set_option linter.unusedVariables false
/-! ### Numbers of classes, as they first come -/
structure Eqv (same : Nat → Nat → Bool) (n : Nat) : Prop where
  refl : ∀ a, a < n → same a a = true
  symm : ∀ a b, a < n → b < n → same a b = true → same b a = true
  trans : ∀ a b c, a < n → b < n → c < n → same a b = true → same b c = true → same a c = true
/-! ### Parts of a graph -/
end Go.Proofs.Ytfaekhadjlgbbaa
