/-
  Arguments of a law: graphs, lists of numbers and of truths. No statement is proved here.
-/
import Derived.Test.YtfgklgjbnpjpoaaQDC
import Derived.Test.YtfgklgjbnpjpoaaQSc
import Derived.Test.YtfgklgjbnpjpoaaQBo
namespace Go.Proofs.Ytfgklgjbnpjpoaa
open Go.RowKit Go.ChangeShapes Go.WideShapes Go.ChangeAt
set_option linter.unusedSimpArgs false
theorem ints_of {P : Program} {t u : TypeId} {k : IntKind} {cs : List D} (ht : P.underlying t = some (.slice u)) (hu : P.underlying u = some (.int k)) (hc : P.cellsOf u = 1) (hb : P.bytesOf u = 8) (h : OfT P t cs) :
    ∃ l : List Int, cs = [.lst 1 (l.map fun n => [.sc (.int k n)])] ∧ l.length ≤ 17592186043904 ∧ ∀ x ∈ l, k.min ≤ x ∧ x ≤ k.max := by
  obtain ⟨xs, rfl, ⟨_, hz⟩, hx⟩ := of_sliceZ ht h
  obtain ⟨l, rfl, hl⟩ := of_cells (f := fun n : Int => .int k n) (ok := fun x => k.min ≤ x ∧ x ≤ k.max) (fun cs h => by obtain ⟨n, e, q⟩ := of_int hu h; exact ⟨n, e, q⟩) hx
  rw [hc]
  rw [hb, List.length_map] at hz
  exact ⟨l, rfl, by omega, hl⟩
theorem grid_of {P : Program} {t e u : TypeId} {cs : List D} (ht : P.underlying t = some (.slice e)) (he : P.underlying e = some (.slice u)) (hu : P.underlying u = some (.int .i64)) (hc : P.cellsOf u = 1) (hce : P.cellsOf e = 1) (hb : P.bytesOf u = 8) (hbe : 8 ≤ P.bytesOf e) (h : OfT P t cs) :
    ∃ g : List (List Int), cs = [dgrid g] ∧ FitsG g := by
  obtain ⟨xs, rfl, ⟨hz0, hz⟩, hx⟩ := of_sliceZ ht h
  have : ∃ g : List (List Int), xs = g.map (fun l => [dints l]) ∧ ∀ l ∈ g, l.length ≤ 17592186043904 := by
    clear hz hz0 h
    induction xs with
    | nil => exact ⟨[], rfl, by simp⟩
    | cons x xs ih =>
      cases hx with
      | cons _ _ _ h1 h2 =>
        obtain ⟨g, rfl, hg⟩ := ih h2
        obtain ⟨l, rfl, hl, _⟩ := ints_of he hu hc hb h1
        refine ⟨l :: g, rfl, fun a ha => ?_⟩
        rcases List.mem_cons.1 ha with rfl | ha
        · exact hl
        · exact hg a ha
  obtain ⟨g, rfl, hg⟩ := this
  rw [hce]
  rw [List.length_map] at hz
  have := Nat.mul_le_mul_left g.length hbe
  exact ⟨g, rfl, by omega, hg⟩
end Go.Proofs.Ytfgklgjbnpjpoaa
