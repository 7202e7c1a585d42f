/-
  Arguments of a law: words and numbers. No statement is proved here.
-/
import Derived.Test.YtfgklgjbnpjpoaaQDC
import Derived.Test.YtfgklgjbnpjpoaaQLas
namespace Go.Proofs.Ytfgklgjbnpjpoaa
open Go.RowKit Go.ChangeShapes Go.WideShapes Go.ChangeAt
set_option linter.unusedSimpArgs false
/-- Letters of a word. -/
def Lett (l : List Int) : Prop := ∀ x ∈ l, 0 ≤ x ∧ x < 18446744073709551616
theorem argInt {P : Program} {t : TypeId} {d : D} (ht : P.underlying t = some (.int .i64)) (h : OfA P t d) : ∃ i : Int, d = .sc (.int .i64 i) ∧ -9223372036854775808 ≤ i ∧ i ≤ 9223372036854775807 := by
  unfold OfA OfAz at h
  rw [ht] at h
  obtain ⟨n, e, h1, h2⟩ := of_int ht h
  cases e
  refine ⟨n, rfl, ?_⟩
  simp [IntKind.min, IntKind.max, IntKind.signed, IntKind.bits] at h1 h2
  omega
end Go.Proofs.Ytfgklgjbnpjpoaa
