/-
  Functions of package slices over deep values: looks for an element. No statement is proved here.
-/
import Derived.Test.YtfgklgjbnpjpoaaQDk2
import Derived.Test.YtfgklgjbnpjpoaaQDl
import Derived.Test.YtfgklgjbnpjpoaaProg
namespace Go.Proofs.Ytfgklgjbnpjpoaa
open Go.RowKit
set_option linter.unusedSimpArgs false
set_option linter.unusedVariables false
@[simp] theorem underLL_map {α : Type} {m : Nat} (f : α → List D) (l : List α) : UnderLL m (l.map f) ↔ ∀ a ∈ l, UnderL m (f a) := by
  induction l with
  | nil => simp [UnderLL]
  | cons a r ih => simp [UnderLL, ih]
@[simp] theorem pureLL_mapI {α : Type} (f : α → List D) (l : List α) : PureLL (l.map f) ↔ ∀ a ∈ l, PureL (f a) := by
  induction l with
  | nil => simp [PureLL]
  | cons a r ih => simp [PureLL, ih]
@[simp] theorem renLL_map {α : Type} {ρ : Nat → Nat} (f : α → List D) (l : List α) : renLL ρ (l.map f) = l.map fun a => renL ρ (f a) := by
  induction l with
  | nil => simp [renLL]
  | cons a r ih => simp [renLL, ih]
@[simp] theorem under_dints {m : Nat} (l : List Int) : Under m (dints l) ↔ True := ⟨fun _ => trivial, fun _ => under_pure _ (pure_dints l)⟩
@[simp] theorem under_dgrid {m : Nat} (l : List (List Int)) : Under m (dgrid l) ↔ True := ⟨fun _ => trivial, fun _ => under_pure _ (pure_dgrid l)⟩
@[simp] theorem ren_dints {ρ : Nat → Nat} (l : List Int) : D.ren ρ (dints l) = dints l := ren_pure _ (pure_dints l)
@[simp] theorem ren_dgrid {ρ : Nat → Nat} (l : List (List Int)) : D.ren ρ (dgrid l) = dgrid l := ren_pure _ (pure_dgrid l)
theorem drop_take_all {α : Type} {n : Nat} {l : List α} (h : l.length ≤ n) : List.drop 0 (List.take n l) = l := by rw [List.drop_zero, List.take_of_length_le h]
end Go.Proofs.Ytfgklgjbnpjpoaa
