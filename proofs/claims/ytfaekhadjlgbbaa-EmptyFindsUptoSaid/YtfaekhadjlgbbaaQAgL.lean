/-
  Arguments of a law of a bounded bulk: graphs, lists of numbers. No statement is proved here.
-/
import Derived.Test.YtfaekhadjlgbbaaQAg
import Derived.Test.YtfaekhadjlgbbaaQGr
namespace Go.Proofs.Ytfaekhadjlgbbaa
open Go.RowKit Go.ChangeShapes Go.WideShapes Go.ChangeAt
set_option linter.unusedSimpArgs false
theorem ints_ofL {P : Program} {L : Nat} {t u : TypeId} {k : IntKind} {cs : List D} (ht : P.underlying t = some (.slice u)) (hu : P.underlying u = some (.int k)) (hc : P.cellsOf u = 1) (h : OfTz P (L + 1) t cs) :
    ∃ l : List Int, cs = [.lst 1 (l.map fun n => [.sc (.int k n)])] ∧ l.length ≤ L + 1 ∧ ∀ x ∈ l, k.min ≤ x ∧ x ≤ k.max := by
  obtain ⟨xs, rfl, hz, hx⟩ := of_sliceL ht h
  obtain ⟨l, rfl, hl⟩ := of_cells (f := fun n : Int => .int k n) (ok := fun x => k.min ≤ x ∧ x ≤ k.max) (fun cs h => by obtain ⟨n, e, q⟩ := of_int hu h; exact ⟨n, e, q⟩) hx
  rw [hc]
  rw [List.length_map] at hz
  exact ⟨l, rfl, hz, hl⟩
theorem grid_ofL {P : Program} {L : Nat} {t e u : TypeId} {cs : List D} (ht : P.underlying t = some (.slice e)) (he : P.underlying e = some (.slice u)) (hu : P.underlying u = some (.int .i64)) (hc : P.cellsOf u = 1) (hce : P.cellsOf e = 1) (h : OfTz P (L + 1) t cs) :
    ∃ g : List (List Int), cs = [dgrid g] ∧ g.length ≤ L + 1 ∧ ∀ l ∈ g, l.length ≤ L + 1 := by
  obtain ⟨xs, rfl, hz, hx⟩ := of_sliceL ht h
  have : ∃ g : List (List Int), xs = g.map (fun l => [dints l]) ∧ ∀ l ∈ g, l.length ≤ L + 1 := by
    clear hz h
    induction xs with
    | nil => exact ⟨[], rfl, by simp⟩
    | cons x xs ih =>
      cases hx with
      | cons _ _ _ h1 h2 =>
        obtain ⟨g, rfl, hg⟩ := ih h2
        obtain ⟨l, rfl, hl, _⟩ := ints_ofL he hu hc h1
        refine ⟨l :: g, rfl, fun a ha => ?_⟩
        rcases List.mem_cons.1 ha with rfl | ha
        · exact hl
        · exact hg a ha
  obtain ⟨g, rfl, hg⟩ := this
  rw [hce]
  rw [List.length_map] at hz
  exact ⟨g, rfl, hz, hg⟩
end Go.Proofs.Ytfaekhadjlgbbaa
