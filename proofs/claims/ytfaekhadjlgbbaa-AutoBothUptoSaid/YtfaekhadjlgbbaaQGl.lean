/-
  Lists of numbers that are written place by place, over deep values. No statement is proved here.
-/
import Derived.Test.YtfaekhadjlgbbaaQSc2
namespace Go.Proofs.Ytfaekhadjlgbbaa
open Go.RowKit
set_option linter.unusedSimpArgs false
set_option linter.unusedVariables false
/-! ### Lists by place -/
def gl (n : Nat) (g : Nat → Int) : List Int := (List.range n).map g
@[simp] theorem gl_len (n : Nat) (g : Nat → Int) : (gl n g).length = n := by simp [gl]
@[simp] theorem i64s_len (l : List Int) : (i64s l).length = l.length := by simp [i64s]
def putA (g : Nat → Int) (k : Nat) (v : Int) : Nat → Int := fun i => if i = k then v else g i
@[simp] theorem putA_self (g : Nat → Int) (k : Nat) (v : Int) : putA g k v k = v := by simp [putA]
end Go.Proofs.Ytfaekhadjlgbbaa
