/-
  Graphs over deep values: checks, what comes from some nodes, the turned graph. No statement is proved here.
-/
import Derived.Test.YtfgklgjbnpjpoaaQOg
import Derived.Test.YtfgklgjbnpjpoaaQWo0
namespace Go.Proofs.Ytfgklgjbnpjpoaa
open Go.RowKit
set_option linter.unusedSimpArgs false
set_option linter.unusedVariables false
/-- Each list can be counted. -/
structure FitsG (g : List (List Int)) : Prop where
  len : g.length ≤ 17592186043904
  each : ∀ l ∈ g, l.length ≤ 17592186043904
theorem FitsG.at {g : List (List Int)} (h : FitsG g) (i : Nat) : (g.getD i []).length ≤ 17592186043904 := by
  rw [List.getD_eq_getElem?_getD]
  cases e : g[i]? with
  | none => simp
  | some l => exact h.each l (List.mem_of_getElem? e)
end Go.Proofs.Ytfgklgjbnpjpoaa
