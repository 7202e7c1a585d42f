/-
  What a right world is. Plain law. No statement is proved here.
-/
import Derived.Test.YtfgklgjbnpjpoaaQWo
namespace Go.Proofs.Ytfgklgjbnpjpoaa
open Go.RowKit
set_option linter.unusedSimpArgs false
set_option linter.unusedVariables false
theorem chk_label (W : WorldD) (h : W.chk = 0) : W.label.length = W.next.length ∧ W.next.length ≤ 600 ∧ W.fair.length ≤ 80 ∧ inB W.start W.next.length = true ∧ (∀ l ∈ W.next, l.length ≠ 0 ∧ inB l W.next.length = true) ∧ ∀ l ∈ W.fair, inB l W.next.length = true := by
  unfold WorldD.chk at h
  split at h
  · exact absurd h (by decide)
  split at h
  · exact absurd h (by decide)
  split at h
  · exact absurd h (by decide)
  split at h
  · exact absurd h (by decide)
  rename_i h1 h2 h3 h4
  refine ⟨by omega, by omega, by omega, ?_, fun l hl => ?_, fun l hl => ?_⟩
  · have := not_or.1 h2
    simpa using this.2
  · rw [Bool.not_eq_true, List.any_eq_false] at h3
    have := h3 l hl
    simp only [Bool.or_eq_true, Bool.not_eq_true', not_or, Bool.not_eq_false, List.isEmpty_iff_length_eq_zero] at this
    exact this
  · rw [Bool.not_eq_true, List.any_eq_false] at h4
    simpa using h4 l hl
end Go.Proofs.Ytfgklgjbnpjpoaa
