/-
  An automaton and a word as one graph: plain law. No statement is proved here.
-/
import Derived.Test.YtfaekhadjlgbbaaQAu0
import Derived.Test.YtfaekhadjlgbbaaQAu1
import Derived.Test.YtfaekhadjlgbbaaQFp
namespace Go.Proofs.Ytfaekhadjlgbbaa
open Go.RowKit
set_option linter.unusedSimpArgs false
set_option linter.unusedVariables false
/-- The place behind a place. -/
def thenW (a p i : Nat) : Nat := if i + 1 = a + p then a else i + 1
/-! ### Two graphs of pairs -/
/-- A pair's next ones: states that fit at the place behind. -/
def nexts (A : AutoD) (f : Nat → Int) (a p s i : Nat) : List Int := if fitsV A s (f i) = true then (A.next.getD s []).filter fun t => fitsV A t.toNat (f (thenW a p i)) else []
def prodP (A : AutoD) (f : Nat → Int) (a p : Nat) : List (List Int) := (List.range (A.next.length * (a + p))).map fun v => (nexts A f a p (v % A.next.length) (v / A.next.length)).map fun t => ((thenW a p (v / A.next.length) * A.next.length : Nat) : Int) + t
def prodR (A : AutoD) (f : Nat → Int) (a p : Nat) : List (List Int) := (List.range (A.next.length * (a + p))).map fun v => (nexts A f a p (v / (a + p)) (v % (a + p))).map fun t => t * ((a + p : Nat) : Int) + (thenW a p (v % (a + p)) : Int)
end Go.Proofs.Ytfaekhadjlgbbaa
