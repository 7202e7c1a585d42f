/-
  What a pattern means: the program's spans and the reference's intervals. Plain Lean. No statement is proved here.
-/
import Derived.Test.YtfaekhadjlgbbaaQLw
namespace Go.Proofs.Ytfaekhadjlgbbaa
/-! ### Periodic truths -/
/-! ### The first place; how many -/
/-- The first place from i on, of d places, that is so; else the one behind them. -/
def fstF (p : Nat → Bool) : Nat → Nat → Nat
  | i, 0 => i
  | i, d + 1 => if p i = true then i else fstF p (i + 1) d
/-- The first place from i on and before e. -/
def fst (p : Nat → Bool) (e i : Nat) : Nat := fstF p i (e - i)
/-- Of d places from i on, how many are so. -/
def cntF (p : Nat → Bool) (i : Nat) : Nat → Nat
  | 0 => 0
  | d + 1 => cntF p i d + (if p (i + d) = true then 1 else 0)
def cnt (p : Nat → Bool) (a e : Nat) : Nat := cntF p a (e - a)
/-! ### Spans and intervals -/
end Go.Proofs.Ytfaekhadjlgbbaa
