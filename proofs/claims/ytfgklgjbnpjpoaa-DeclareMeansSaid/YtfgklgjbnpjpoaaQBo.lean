/-
  Lists of truths over deep values. No statement is proved here.
-/
import Derived.Test.YtfgklgjbnpjpoaaQFn
namespace Go.Proofs.Ytfgklgjbnpjpoaa
open Go.RowKit
set_option linter.unusedSimpArgs false
set_option linter.unusedVariables false
/-! ### Lists of truths -/
def rbl (n : Nat) (g : Nat → Bool) : List (List D) := (List.range n).map fun i => [.sc (.bool (g i))]
def dbl (n : Nat) (g : Nat → Bool) : D := .lst 1 (rbl n g)
@[simp] theorem rbl_len (n : Nat) (g : Nat → Bool) : (rbl n g).length = n := by simp [rbl]
theorem pure_rbl (n : Nat) (g : Nat → Bool) : PureLL (rbl n g) := pureLL_map _ (fun i => by simp [PureL, Pure]) _
theorem pure_dbl (n : Nat) (g : Nat → Bool) : Pure (dbl n g) := by simp only [dbl, Pure]; exact pure_rbl n g
/-- What is known of the places ahead of one; what stands there. -/
def curF (T : Nat → Bool) (k : Nat) (o : Bool) : Nat → Bool := fun i => if i < k then T i else if i = k then o else false
@[simp] theorem curF_at (T : Nat → Bool) (k : Nat) (o : Bool) : curF T k o k = o := by simp [curF]
@[simp] theorem underLL_rbl {m n : Nat} (g : Nat → Bool) : UnderLL m (rbl n g) ↔ True := ⟨fun _ => trivial, fun _ => underLL_pure _ (pure_rbl n g)⟩
@[simp] theorem under_dbl {m n : Nat} (g : Nat → Bool) : Under m (dbl n g) ↔ True := ⟨fun _ => trivial, fun _ => under_pure _ (pure_dbl n g)⟩
@[simp] theorem renLL_rbl {ρ : Nat → Nat} {n : Nat} (g : Nat → Bool) : renLL ρ (rbl n g) = rbl n g := renLL_pure _ (pure_rbl n g)
@[simp] theorem ren_dbl {ρ : Nat → Nat} {n : Nat} (g : Nat → Bool) : D.ren ρ (dbl n g) = dbl n g := ren_pure _ (pure_dbl n g)
end Go.Proofs.Ytfgklgjbnpjpoaa
