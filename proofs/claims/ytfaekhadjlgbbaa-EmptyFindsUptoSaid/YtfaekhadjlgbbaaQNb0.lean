/-
  Pairs by their numbers, as they first come: plain law. No statement is proved here.
-/
import Derived.WalkKit
namespace Go.Proofs.Ytfaekhadjlgbbaa
set_option linter.unusedVariables false
abbrev Pr := Int × Int
def addP (L : List Pr) (p : Pr) : List Pr := if p ∈ L then L else L ++ [p]
def idxP (L : List Pr) (p : Pr) : Nat := L.idxOf p
theorem addP_len (L : List Pr) (p : Pr) : L.length ≤ (addP L p).length ∧ (addP L p).length ≤ L.length + 1 := by unfold addP; split <;> simp
theorem addP_nodup {L : List Pr} (h : L.Nodup) (p : Pr) : (addP L p).Nodup := by
  unfold addP
  split
  · exact h
  · rename_i q
    rw [List.nodup_append]
    exact ⟨h, by simp, fun a ha b hb => by rw [List.mem_singleton] at hb; subst hb; exact fun e => q (e ▸ ha)⟩
theorem mem_addP {L : List Pr} {p q : Pr} : q ∈ addP L p ↔ q ∈ L ∨ q = p := by
  unfold addP
  split
  · rename_i h
    exact ⟨fun k => .inl k, fun k => k.elim id fun e => e ▸ h⟩
  · simp
theorem idx_addP (L : List Pr) (p : Pr) : idxP (addP L p) p = if p ∈ L then idxP L p else L.length := by
  unfold addP idxP
  split
  · rfl
  · rename_i h
    rw [List.idxOf_append, if_neg h]; simp
theorem idx_lt {L : List Pr} {p : Pr} (h : p ∈ L) : idxP L p < L.length := List.idxOf_lt_length_of_mem h
/-! ### All pairs -/
end Go.Proofs.Ytfaekhadjlgbbaa
