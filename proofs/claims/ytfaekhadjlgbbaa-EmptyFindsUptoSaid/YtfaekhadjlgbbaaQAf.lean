/-
  Fields of a law's arguments: lists of numbers, lists of lists. No statement is proved here.
-/
import Derived.Test.YtfaekhadjlgbbaaQAgL
namespace Go.Proofs.Ytfaekhadjlgbbaa
open Go.RowKit Go.ChangeShapes Go.WideShapes Go.ChangeAt
set_option linter.unusedSimpArgs false
theorem fGridL {P : Program} {L : Nat} {t e u : TypeId} {ts : List TypeId} {cs : List D} (ht : P.underlying t = some (.slice e)) (he : P.underlying e = some (.slice u)) (hu : P.underlying u = some (.int .i64)) (hc : P.cellsOf u = 1) (hce : P.cellsOf e = 1) (h : OfTsz P (L + 1) (t :: ts) cs) :
    ∃ (g : List (List Int)) (r : List D), cs = dgrid g :: r ∧ (g.length ≤ L + 1 ∧ ∀ l ∈ g, l.length ≤ L + 1) ∧ OfTsz P (L + 1) ts r := by
  obtain ⟨a, b, rfl, ha, hb'⟩ := ofTs_cons h
  obtain ⟨g, rfl, hg⟩ := grid_ofL ht he hu hc hce ha
  exact ⟨g, b, rfl, hg, hb'⟩
theorem fListL {P : Program} {L : Nat} {t u : TypeId} {k : IntKind} {ts : List TypeId} {cs : List D} (ht : P.underlying t = some (.slice u)) (hu : P.underlying u = some (.int k)) (hc : P.cellsOf u = 1) (h : OfTsz P (L + 1) (t :: ts) cs) :
    ∃ (l : List Int) (r : List D), cs = .lst 1 (l.map fun n => [.sc (.int k n)]) :: r ∧ l.length ≤ L + 1 ∧ (∀ x ∈ l, k.min ≤ x ∧ x ≤ k.max) ∧ OfTsz P (L + 1) ts r := by
  obtain ⟨a, b, rfl, ha, hb'⟩ := ofTs_cons h
  obtain ⟨l, rfl, hl, hk⟩ := ints_ofL ht hu hc ha
  exact ⟨l, b, rfl, hl, hk, hb'⟩
end Go.Proofs.Ytfaekhadjlgbbaa
