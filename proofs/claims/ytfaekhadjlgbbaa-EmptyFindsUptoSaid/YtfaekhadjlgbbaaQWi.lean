/-
  Fair ways of a world that stay among some states: the program's Within, over deep values. No statement is proved here.
-/
import Derived.Test.YtfaekhadjlgbbaaQFp
import Derived.Test.YtfaekhadjlgbbaaQWoL
import Derived.Test.YtfaekhadjlgbbaaQWxA
import Derived.Test.YtfaekhadjlgbbaaQFz
namespace Go.Proofs.Ytfaekhadjlgbbaa
open Go.RowKit
set_option linter.unusedSimpArgs false
set_option linter.unusedVariables false
/-! ### A grid that is being built, row by row -/
def curL (N : Nat) (T : Nat → List Int) (k : Nat) (c : List Int) : List (List Int) := (List.range N).map fun i => if i < k then T i else if i = k then c else []
@[simp] theorem curL_len (N : Nat) (T : Nat → List Int) (k : Nat) (c : List Int) : (curL N T k c).length = N := by simp [curL]
def ncell (n : Int) : List D := [.sc (.int .i64 n)]
@[simp] theorem under_ncell {m : Nat} (n : Int) : UnderL m (ncell n) := by simp [ncell, UnderL, Under]
/-! ### A part of a graph is a graph -/
@[simp] theorem under_dlet3 {m : Nat} (l : List Int) : Under m (dlet l) ↔ True := ⟨fun _ => trivial, fun _ => under_pure _ (pure_dlet l)⟩
/-! ### Within -/
end Go.Proofs.Ytfaekhadjlgbbaa
