/-
  Graphs over deep values: checks, what comes from some nodes, the turned graph. No statement is proved here.
-/
import Derived.Test.YtfaekhadjlgbbaaQOg
import Derived.Test.YtfaekhadjlgbbaaQWo0
namespace Go.Proofs.Ytfaekhadjlgbbaa
open Go.RowKit
set_option linter.unusedSimpArgs false
set_option linter.unusedVariables false
/-- Each list can be counted. -/
structure FitsG (g : List (List Int)) : Prop where
  len : g.length ≤ 17592186043904
  each : ∀ l ∈ g, l.length ≤ 17592186043904
theorem FitsG.at {g : List (List Int)} (h : FitsG g) (i : Nat) : (g.getD i []).length ≤ 17592186043904 := by
  rw [List.getD_eq_getElem?_getD]
  cases e : g[i]? with
  | none => simp
  | some l => exact h.each l (List.mem_of_getElem? e)
theorem gridD_at {g : List (List Int)} {z k : Nat} (hz : z = k) (h : k < g.length) : (g.map fun l => [dints l])[z]? = some [dints (g.getD k [])] := by
  subst hz
  rw [List.getElem?_map, getD_at h]; rfl
theorem intsD_at {l : List Int} {z k : Nat} (hz : z = k) (h : k < l.length) : (l.map fun n => [D.sc (.int .i64 n)])[z]? = some [.sc (.int .i64 (l.getD k 0))] := by
  rw [ints_at hz h, List.getD_eq_getElem?_getD, List.getElem?_eq_getElem h]; rfl
theorem inB_row {g : List (List Int)} {n : Nat} (h : ∀ l ∈ g, inB l n = true) (k : Nat) : inB (g.getD k []) n = true := by
  rw [List.getD_eq_getElem?_getD]
  cases e : g[k]? with
  | none => rfl
  | some l => exact h l (List.mem_of_getElem? e)
end Go.Proofs.Ytfaekhadjlgbbaa
