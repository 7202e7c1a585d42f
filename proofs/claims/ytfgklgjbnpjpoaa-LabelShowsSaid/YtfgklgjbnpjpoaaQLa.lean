/-
  Letters of a word, of the program and of the reference, over deep values. No statement is proved here.
-/
import Derived.Test.YtfgklgjbnpjpoaaQLas
import Derived.Test.YtfgklgjbnpjpoaaQAw
import Derived.Test.YtfgklgjbnpjpoaaQBit
namespace Go.Proofs.Ytfgklgjbnpjpoaa
open Go.RowKit
set_option linter.unusedSimpArgs false
set_option linter.unusedVariables false
theorem and_one {y : Int} (h : 0 ≤ y) (h' : y < 18446744073709551616) : bitsV .and .u64 y 1 = y.tmod 2 := by
  obtain ⟨n, rfl⟩ : ∃ n : Nat, y = n := ⟨y.toNat, by omega⟩
  have e : (BitVec.ofInt 64 (n : Int) &&& BitVec.ofInt 64 1).toNat = n % 2 := by
    rw [BitVec.toNat_and]
    have e1 : (BitVec.ofInt 64 (n : Int)).toNat = n := by rw [BitVec.toNat_ofInt]; omega
    have e2 : (BitVec.ofInt 64 1).toNat = 1 := by decide
    rw [e1, e2, Nat.and_one_is_mod]
  show IntKind.u64.wrap ((BitVec.ofInt 64 (n : Int) &&& BitVec.ofInt 64 1).toNat : Int) = _
  rw [e, show ((n : Int).tmod 2) = ((n % 2 : Nat) : Int) from (Int.ofNat_tmod n 2).symm]
  unfold IntKind.wrap
  simp [IntKind.bits, IntKind.signed]
  omega
theorem fdiv_range {x : Int} (h : 0 ≤ x) (h' : x < 18446744073709551616) (k : Nat) : 0 ≤ x.fdiv (2 ^ k) ∧ x.fdiv (2 ^ k) < 18446744073709551616 := by
  have hp : (0 : Int) < 2 ^ k := Int.pow_pos (by decide)
  rw [Int.fdiv_eq_ediv_of_nonneg _ (by omega)]
  exact ⟨Int.ediv_nonneg h (by omega), Int.lt_of_le_of_lt (Int.ediv_le_self _ h) h'⟩
end Go.Proofs.Ytfgklgjbnpjpoaa
