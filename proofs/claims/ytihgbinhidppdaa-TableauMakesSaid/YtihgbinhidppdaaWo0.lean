/-
  Lists of numbers below one, over deep values. No statement is proved here.
-/
import Derived.Test.YtihgbinhidppdaaFn
namespace Go.Proofs.Ytihgbinhidppdaa
open Go.RowKit
set_option linter.unusedSimpArgs false
set_option linter.unusedVariables false
/-- All numbers of a list from 0 to below n. -/
def inB (l : List Int) (n : Nat) : Bool := l.all fun x => decide (0 ≤ x) && decide (x < (n : Int))
theorem inB_get {l : List Int} {n : Nat} (h : inB l n = true) {k : Nat} (hk : k < l.length) : 0 ≤ l[k] ∧ l[k] < (n : Int) := by
  have := List.all_eq_true.1 h _ (List.getElem_mem hk)
  simpa using this
theorem odd_inB (l : List Int) (n : Nat) : (l.any fun x => decide (x < 0) || decide (x ≥ (n : Int))) = !(inB l n) := by
  unfold inB
  induction l with
  | nil => rfl
  | cons x r ih =>
    simp only [List.any_cons, List.all_cons, ih]
    rw [Bool.not_and]
    congr 1
    rw [Bool.eq_iff_iff]
    simp only [Bool.or_eq_true, decide_eq_true_eq, Bool.not_eq_true', Bool.and_eq_false_iff, decide_eq_false_iff_not]
    omega
theorem any_no {α : Type} {p : α → Bool} {l : List α} (h : ∀ j (hj : j < l.length), p l[j] = false) : l.any p = false := by
  rw [List.any_eq_false]
  intro x hx
  obtain ⟨j, hj, rfl⟩ := List.mem_iff_getElem.1 hx
  simp [h j hj]
theorem any_yes {α : Type} {p : α → Bool} {l : List α} {k : Nat} (hk : k < l.length) (h : p l[k] = true) : l.any p = true := List.any_eq_true.2 ⟨_, List.getElem_mem hk, h⟩
theorem all_no {α : Type} {p : α → Bool} {l : List α} {k : Nat} (hk : k < l.length) (h : p l[k] = false) : l.all p = false := by
  rw [← Bool.not_eq_true, List.all_eq_true]
  exact fun q => by simp [q _ (List.getElem_mem hk)] at h
theorem all_yes {α : Type} {p : α → Bool} {l : List α} (h : ∀ j (hj : j < l.length), p l[j] = true) : l.all p = true := by
  rw [List.all_eq_true]
  intro x hx
  obtain ⟨j, hj, rfl⟩ := List.mem_iff_getElem.1 hx
  exact h j hj
theorem grid_at {g : List (List Int)} {z k : Nat} (hz : z = k) (h : k < g.length) : (g.map fun l => [dints l])[z]? = some [dints g[k]] := one_at (c := dints) hz h
theorem ints_at {l : List Int} {z k : Nat} (hz : z = k) (h : k < l.length) : (l.map fun n => [D.sc (.int .i64 n)])[z]? = some [.sc (.int .i64 l[k])] := one_at (c := fun n => .sc (.int .i64 n)) hz h
end Go.Proofs.Ytihgbinhidppdaa
