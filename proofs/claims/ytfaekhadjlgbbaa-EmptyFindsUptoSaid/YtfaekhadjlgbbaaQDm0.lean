/-
  What a pattern means: the program's spans and the reference's intervals. Plain Lean. No statement is proved here.
-/
import Derived.Test.YtfaekhadjlgbbaaQLw
namespace Go.Proofs.Ytfaekhadjlgbbaa
/-! ### Periodic truths -/
/-! ### The first place; how many -/
/-- The first place from i on, of d places, that is so; else the one behind them. -/
def fstF (p : Nat → Bool) : Nat → Nat → Nat
  | i, 0 => i
  | i, d + 1 => if p i = true then i else fstF p (i + 1) d
theorem fstF_spec (p : Nat → Bool) : ∀ (d i : Nat), i ≤ fstF p i d ∧ fstF p i d ≤ i + d ∧ (∀ j, i ≤ j → j < fstF p i d → p j = false) ∧ (fstF p i d < i + d → p (fstF p i d) = true)
  | 0, i => ⟨Nat.le_refl _, Nat.le_refl _, fun j h1 h2 => by simp only [fstF] at h2; omega, fun h => by simp [fstF] at h⟩
  | d + 1, i => by
    simp only [fstF]
    split
    · rename_i h
      exact ⟨Nat.le_refl _, by omega, fun j h1 h2 => by omega, fun _ => h⟩
    · rename_i h
      obtain ⟨h1, h2, h3, h4⟩ := fstF_spec p d (i + 1)
      refine ⟨by omega, by omega, fun j g1 g2 => ?_, fun g => h4 (by omega)⟩
      by_cases e : j = i
      · subst e; simpa using h
      · exact h3 j (by omega) g2
/-- The first place from i on and before e. -/
def fst (p : Nat → Bool) (e i : Nat) : Nat := fstF p i (e - i)
theorem fst_spec {p : Nat → Bool} {e i : Nat} (h : i ≤ e) : i ≤ fst p e i ∧ fst p e i ≤ e ∧ (∀ j, i ≤ j → j < fst p e i → p j = false) ∧ (fst p e i < e → p (fst p e i) = true) := by
  obtain ⟨h1, h2, h3, h4⟩ := fstF_spec p (e - i) i
  exact ⟨h1, by unfold fst; omega, h3, fun g => h4 (by unfold fst at g; omega)⟩
theorem fst_eq {p : Nat → Bool} {e i t : Nat} (h1 : i ≤ t) (h2 : t ≤ e) (h3 : ∀ j, i ≤ j → j < t → p j = false) (h4 : t < e → p t = true) : fst p e i = t := by
  obtain ⟨g1, g2, g3, g4⟩ := fst_spec (p := p) (e := e) (i := i) (by omega)
  rcases Nat.lt_trichotomy (fst p e i) t with q | q | q
  · have := h3 _ g1 q
    rw [g4 (by omega)] at this
    cases this
  · exact q
  · have := g3 t h1 q
    rw [h4 (by omega)] at this
    cases this
/-- Of d places from i on, how many are so. -/
def cntF (p : Nat → Bool) (i : Nat) : Nat → Nat
  | 0 => 0
  | d + 1 => cntF p i d + (if p (i + d) = true then 1 else 0)
def cnt (p : Nat → Bool) (a e : Nat) : Nat := cntF p a (e - a)
/-! ### Spans and intervals -/
end Go.Proofs.Ytfaekhadjlgbbaa
