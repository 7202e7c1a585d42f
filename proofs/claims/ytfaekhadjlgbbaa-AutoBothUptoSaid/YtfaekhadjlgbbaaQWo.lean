/-
  Worlds and paths over deep values: what is wrong with one. No statement is proved here.
-/
import Derived.Test.YtfaekhadjlgbbaaQWo0
import Derived.Test.YtfaekhadjlgbbaaQLas
namespace Go.Proofs.Ytfaekhadjlgbbaa
open Go.RowKit
set_option linter.unusedSimpArgs false
set_option linter.unusedVariables false
structure WorldD where
  start : List Int
  next : List (List Int)
  label : List Int
  fair : List (List Int)
def WorldD.cells (W : WorldD) : List D := [dints W.start, dgrid W.next, dlet W.label, dgrid W.fair]
/-- No list that is too long to be counted. -/
structure WorldD.Fits (W : WorldD) : Prop where
  start : W.start.length ≤ 17592186043904
  next : W.next.length ≤ 17592186043904
  label : W.label.length ≤ 17592186043904
  fair : W.fair.length ≤ 17592186043904
  nextEach : ∀ l ∈ W.next, l.length ≤ 17592186043904
  fairEach : ∀ l ∈ W.fair, l.length ≤ 17592186043904
/-- What is wrong with a world. -/
def WorldD.chk (W : WorldD) : Int :=
  if 600 < W.next.length ∨ 80 < W.fair.length then 2
  else if W.label.length ≠ W.next.length ∨ inB W.start W.next.length = false then 1
  else if (W.next.any fun l => l.isEmpty || !(inB l W.next.length)) = true then 1
  else if (W.fair.any fun l => !(inB l W.next.length)) = true then 1
  else 0
end Go.Proofs.Ytfaekhadjlgbbaa
