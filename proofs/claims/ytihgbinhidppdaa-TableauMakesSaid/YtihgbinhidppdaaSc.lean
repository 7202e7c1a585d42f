/-
  Graphs over deep values: checks, what comes from some nodes, the turned graph. No statement is proved here.
-/
import Derived.Test.YtihgbinhidppdaaOg
import Derived.Test.YtihgbinhidppdaaWo0
namespace Go.Proofs.Ytihgbinhidppdaa
open Go.RowKit
set_option linter.unusedSimpArgs false
set_option linter.unusedVariables false
/-- What is wrong with a graph. -/
def chkG (g : List (List Int)) : Int := if 20000 < g.length then 2 else if (g.any fun l => !(inB l g.length)) = true then 1 else 0
theorem chkG_zero {g : List (List Int)} : chkG g = 0 ↔ g.length ≤ 20000 ∧ ∀ l ∈ g, inB l g.length = true := by
  unfold chkG
  split
  · constructor
    · intro h; exact absurd h (by decide)
    · intro h; omega
  · split
    · rename_i h
      rw [List.any_eq_true] at h
      obtain ⟨l, h1, h2⟩ := h
      constructor
      · intro h; exact absurd h (by decide)
      · intro h; rw [h.2 l h1] at h2; cases h2
    · rename_i h1 h
      rw [Bool.not_eq_true, List.any_eq_false] at h
      exact ⟨fun _ => ⟨by omega, fun l hl => by simpa using h l hl⟩, fun _ => rfl⟩
/-- Each list can be counted. -/
structure FitsG (g : List (List Int)) : Prop where
  len : g.length ≤ 17592186043904
  each : ∀ l ∈ g, l.length ≤ 17592186043904
theorem FitsG.at {g : List (List Int)} (h : FitsG g) (i : Nat) : (g.getD i []).length ≤ 17592186043904 := by
  rw [List.getD_eq_getElem?_getD]
  cases e : g[i]? with
  | none => simp
  | some l => exact h.each l (List.mem_of_getElem? e)
theorem gridD_at {g : List (List Int)} {z k : Nat} (hz : z = k) (h : k < g.length) : (g.map fun l => [dints l])[z]? = some [dints (g.getD k [])] := by
  subst hz
  rw [List.getElem?_map, getD_at h]; rfl
theorem intsD_at {l : List Int} {z k : Nat} (hz : z = k) (h : k < l.length) : (l.map fun n => [D.sc (.int .i64 n)])[z]? = some [.sc (.int .i64 (l.getD k 0))] := by
  rw [ints_at hz h, List.getD_eq_getElem?_getD, List.getElem?_eq_getElem h]; rfl
theorem inB_getD {l : List Int} {n : Nat} (h : inB l n = true) {k : Nat} (hk : k < l.length) : 0 ≤ l.getD k 0 ∧ l.getD k 0 < (n : Int) := by
  rw [List.getD_eq_getElem?_getD, List.getElem?_eq_getElem hk]
  exact inB_get h hk
theorem inB_row {g : List (List Int)} {n : Nat} (h : ∀ l ∈ g, inB l n = true) (k : Nat) : inB (g.getD k []) n = true := by
  rw [List.getD_eq_getElem?_getD]
  cases e : g[k]? with
  | none => rfl
  | some l => exact h l (List.mem_of_getElem? e)
end Go.Proofs.Ytihgbinhidppdaa
