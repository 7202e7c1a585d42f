/-
  More on calls that turn objects, and on what names which objects. No statement is proved here.
-/
import Derived.Test.YtfgklgjbnpjpoaaQDk
namespace Go.Proofs.Ytfgklgjbnpjpoaa
open Go.RowKit
set_option linter.unusedSimpArgs false

section
variable {P : Program} {f : FuncId}
end
@[simp] theorem under_dtree {m : Nat} (t : Tree) : Under m (dtree t) ↔ True := ⟨fun _ => trivial, fun _ => under_pure _ (pure_dtree t)⟩
@[simp] theorem underL_drow {m : Nat} (t : Tree) : UnderL m (drow t) ↔ True := ⟨fun _ => trivial, fun _ => underL_pure _ (pure_drow t)⟩
@[simp] theorem underLL_dcells {m : Nat} (l : List Tree) : UnderLL m (l.map dcells) ↔ True := ⟨fun _ => trivial, fun _ => underLL_pure _ (pureLL_map _ pure_dcells _)⟩
@[simp] theorem underL_dcells {m : Nat} (t : Tree) : UnderL m (dcells t) ↔ True := ⟨fun _ => trivial, fun _ => underL_pure _ (pure_dcells t)⟩
@[simp] theorem ren_dtree {ρ : Nat → Nat} (t : Tree) : D.ren ρ (dtree t) = dtree t := ren_pure _ (pure_dtree t)
@[simp] theorem renL_drow {ρ : Nat → Nat} (t : Tree) : renL ρ (drow t) = drow t := renL_pure _ (pure_drow t)
@[simp] theorem renLL_dcells {ρ : Nat → Nat} (l : List Tree) : renLL ρ (l.map dcells) = l.map dcells := renLL_pure _ (pureLL_map _ pure_dcells _)
end Go.Proofs.Ytfgklgjbnpjpoaa
