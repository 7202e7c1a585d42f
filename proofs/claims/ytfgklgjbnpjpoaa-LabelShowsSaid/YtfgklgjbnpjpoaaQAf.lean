/-
  Fields of a law's arguments: lists of numbers, lists of lists. No statement is proved here.
-/
import Derived.Test.YtfgklgjbnpjpoaaQAgL
namespace Go.Proofs.Ytfgklgjbnpjpoaa
open Go.RowKit Go.ChangeShapes Go.WideShapes Go.ChangeAt
set_option linter.unusedSimpArgs false
theorem fGrid {P : Program} {t e u : TypeId} {ts : List TypeId} {cs : List D} (ht : P.underlying t = some (.slice e)) (he : P.underlying e = some (.slice u)) (hu : P.underlying u = some (.int .i64)) (hc : P.cellsOf u = 1) (hce : P.cellsOf e = 1) (hb : P.bytesOf u = 8) (hbe : 8 ≤ P.bytesOf e) (h : OfTs P (t :: ts) cs) :
    ∃ (g : List (List Int)) (r : List D), cs = dgrid g :: r ∧ FitsG g ∧ OfTs P ts r := by
  obtain ⟨a, b, rfl, ha, hb'⟩ := ofTs_cons h
  obtain ⟨g, rfl, hg⟩ := grid_of ht he hu hc hce hb hbe ha
  exact ⟨g, b, rfl, hg, hb'⟩
theorem fList {P : Program} {t u : TypeId} {k : IntKind} {ts : List TypeId} {cs : List D} (ht : P.underlying t = some (.slice u)) (hu : P.underlying u = some (.int k)) (hc : P.cellsOf u = 1) (hb : P.bytesOf u = 8) (h : OfTs P (t :: ts) cs) :
    ∃ (l : List Int) (r : List D), cs = .lst 1 (l.map fun n => [.sc (.int k n)]) :: r ∧ l.length ≤ 17592186043904 ∧ (∀ x ∈ l, k.min ≤ x ∧ x ≤ k.max) ∧ OfTs P ts r := by
  obtain ⟨a, b, rfl, ha, hb'⟩ := ofTs_cons h
  obtain ⟨l, rfl, hl, hk⟩ := ints_of ht hu hc hb ha
  exact ⟨l, b, rfl, hl, hk, hb'⟩
end Go.Proofs.Ytfgklgjbnpjpoaa
