/-
  Au7 Au8 Au9 Aua joined. No statement is proved here.
-/
import Derived.Test.YtfaekhadjlgbbaaQAu2
import Derived.Test.YtfaekhadjlgbbaaQWi
import Derived.Test.YtfaekhadjlgbbaaQAgL
import Derived.Test.YtfaekhadjlgbbaaQAuA
import Derived.Test.YtfaekhadjlgbbaaQBo
namespace Go.Proofs.Ytfaekhadjlgbbaa
/-! ### XAu7 -/
section
open Go.RowKit
set_option linter.unusedSimpArgs false
set_option linter.unusedVariables false
/-- States next to a state that fit at the place behind, of the first ones. -/
def nextsT (A : AutoD) (f : Nat → Int) (a p s i j : Nat) : List Int := if fitsV A s (f i) = true then ((A.next.getD s []).take j).filter fun t => fitsV A t.toNat (f (thenW a p i)) else []
/-! ### The program's product -/
def cellP (n a p i : Nat) (l : List Int) : List Int := l.map fun t => ((thenW a p i * n : Nat) : Int) + t
def rowP (A : AutoD) (f : Nat → Int) (a p v : Nat) : List Int := cellP A.next.length a p (v / A.next.length) (nexts A f a p (v % A.next.length) (v / A.next.length))
@[simp] theorem prodP_len (A : AutoD) (f : Nat → Int) (a p : Nat) : (prodP A f a p).length = A.next.length * (a + p) := by simp [prodP]
/-! ### The reference's product -/
def cellR (m j : Nat) (l : List Int) : List Int := l.map fun t => t * (m : Int) + (j : Int)
/-- What stands in a row when places ahead of i are done, and at i the states ahead of s, and of s the first k. -/
def curR (A : AutoD) (f : Nat → Int) (a p i s k : Nat) (x : Nat) : List Int :=
  if x % (a + p) < i ∨ (x % (a + p) = i ∧ x / (a + p) < s) then cellR (a + p) (thenW a p (x % (a + p))) (nexts A f a p (x / (a + p)) (x % (a + p)))
  else if x % (a + p) = i ∧ x / (a + p) = s then cellR (a + p) (thenW a p i) (nextsT A f a p s i k) else []
def gridR (A : AutoD) (f : Nat → Int) (a p i s k : Nat) : List (List Int) := (List.range (A.next.length * (a + p))).map (curR A f a p i s k)
@[simp] theorem gridR_len (A : AutoD) (f : Nat → Int) (a p i s k : Nat) : (gridR A f a p i s k).length = A.next.length * (a + p) := by simp [gridR]
@[simp] theorem prodR_len (A : AutoD) (f : Nat → Int) (a p : Nat) : (prodR A f a p).length = A.next.length * (a + p) := by simp [prodR]
end

/-! ### XAu8 -/
section
open Go.RowKit
set_option linter.unusedSimpArgs false
set_option linter.unusedVariables false
@[simp] theorem cellP_len (n a p i : Nat) (l : List Int) : (cellP n a p i l).length = l.length := by simp [cellP]
def gridP (A : AutoD) (f : Nat → Int) (a p i s j : Nat) : List (List Int) := curL (A.next.length * (a + p)) (rowP A f a p) (i * A.next.length + s) (cellP A.next.length a p i (nextsT A f a p s i j))
@[simp] theorem gridP_len (A : AutoD) (f : Nat → Int) (a p i s j : Nat) : (gridP A f a p i s j).length = A.next.length * (a + p) := by simp [gridP]
end

/-! ### XAu9 -/
section
open Go.RowKit
set_option linter.unusedSimpArgs false
set_option linter.unusedVariables false
theorem pigeon : ∀ (n m : Nat) (h : Nat → Nat), (∀ i, i < m → h i < n) → (∀ i j, i < m → j < m → h i = h j → i = j) → m ≤ n
  | 0, m, h, h1, _ => by
    rcases Nat.eq_zero_or_pos m with e | e
    · omega
    · have := h1 0 e; omega
  | n + 1, m, h, h1, h2 => by
    by_cases q : ∃ i, i < m ∧ h i = n
    · obtain ⟨i0, q1, q2⟩ := q
      have := pigeon n (m - 1) (fun i => h (if i = i0 then m - 1 else i)) (fun i hi => by
        split
        · rename_i e
          have a1 := h1 (m - 1) (by omega)
          have a2 : h (m - 1) ≠ n := fun e2 => by have := h2 (m - 1) i0 (by omega) q1 (by rw [e2, q2]); omega
          omega
        · rename_i e
          have a1 := h1 i (by omega)
          have a2 : h i ≠ n := fun e2 => e (h2 i i0 (by omega) q1 (by rw [e2, q2]))
          omega) (fun i j hi hj e => by
        have := h2 _ _ (by split <;> omega) (by split <;> omega) e
        split at this <;> split at this <;> omega)
      omega
    · have := pigeon n m h (fun i hi => by have := h1 i hi; have : h i ≠ n := fun e => q ⟨i, hi, e⟩; omega) h2
      omega
end

/-! ### XAua -/
section
open Go.RowKit
set_option linter.unusedSimpArgs false
set_option linter.unusedVariables false
structure AutoD.Tame (A : AutoD) : Prop where
  start : A.start.length ≤ 1048576
  next : ∀ l ∈ A.next, l.length ≤ 1048576
  fair : ∀ l ∈ A.fair, l.length ≤ 1048576
end

end Go.Proofs.Ytfaekhadjlgbbaa
