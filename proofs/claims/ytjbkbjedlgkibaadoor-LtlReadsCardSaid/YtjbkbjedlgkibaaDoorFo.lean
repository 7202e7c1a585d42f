/-
  The makers of formulas, over deep values. No statement is proved here.
-/
import Derived.Test.YtjbkbjedlgkibaaDoorDk2
import Derived.Test.YtjbkbjedlgkibaaDoorProg
namespace Go.Proofs.YtjbkbjedlgkibaaDoor
open Go.RowKit
set_option linter.unusedSimpArgs false
theorem small_mk0 (k n : Int) : Small (mk0 k n) := .mk _ (by simp [mk0, Tree.width, Tree.kids]) fun j hj => by simp [mk0, Tree.width, Tree.kids] at hj
theorem small_mk1 {k : Int} {a : Tree} (h : Small a) : Small (mk1 k a) := .mk _ (by simp [mk1, Tree.width, Tree.kids]) fun j hj => by
  simp [mk1, Tree.width, Tree.kids] at hj
  subst hj
  exact h
theorem small_mk2 {k : Int} {a b : Tree} (h : Small a) (h' : Small b) : Small (mk2 k a b) := .mk _ (by simp [mk2, Tree.width, Tree.kids]) fun j hj => by
  simp [mk2, Tree.width, Tree.kids] at hj
  match j with
  | 0 => exact h
  | 1 => exact h'
theorem small_ite (p : Prop) [Decidable p] {a b : Tree} (h : Small a) (k : Small b) : Small (if p then a else b) := by split <;> assumption
end Go.Proofs.YtjbkbjedlgkibaaDoor
