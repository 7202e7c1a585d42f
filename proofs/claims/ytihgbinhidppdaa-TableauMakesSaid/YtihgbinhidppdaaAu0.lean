/-
  Automata over deep values: what is wrong with one; which letters fit. No statement is proved here.
-/
import Derived.Test.YtihgbinhidppdaaWo0
import Derived.Test.YtihgbinhidppdaaLas
import Derived.Test.YtihgbinhidppdaaAw
import Derived.Test.YtihgbinhidppdaaSc2
namespace Go.Proofs.Ytihgbinhidppdaa
open Go.RowKit
set_option linter.unusedSimpArgs false
set_option linter.unusedVariables false
structure AutoD where
  start : List Int
  next : List (List Int)
  must : List Int
  nots : List Int
  fair : List (List Int)
def AutoD.cells (A : AutoD) : List D := [dints A.start, dgrid A.next, dlet A.must, dlet A.nots, dgrid A.fair]
def dauto (A : AutoD) : D := .agg A.cells
theorem pure_aucells (A : AutoD) : PureL A.cells := by simp [AutoD.cells, PureL, pure_dints, pure_dgrid, pure_dlet]
theorem pure_dauto (A : AutoD) : Pure (dauto A) := by simp [dauto, Pure, pure_aucells]
def emptyA : AutoD := ⟨[], [], [], [], []⟩
structure AutoD.Fits (A : AutoD) : Prop where
  start : A.start.length ≤ 17592186043904
  next : A.next.length ≤ 17592186043904
  must : A.must.length ≤ 17592186043904
  nots : A.nots.length ≤ 17592186043904
  fair : A.fair.length ≤ 17592186043904
  nextEach : ∀ l ∈ A.next, l.length ≤ 17592186043904
  fairEach : ∀ l ∈ A.fair, l.length ≤ 17592186043904
/-- What is wrong with an automaton. -/
def AutoD.chk (A : AutoD) : Int :=
  if 2048 < A.next.length ∨ 80 < A.fair.length then 2
  else if A.must.length ≠ A.next.length ∨ A.nots.length ≠ A.next.length ∨ inB A.start A.next.length = false then 1
  else if (A.next.any fun l => !(inB l A.next.length)) = true then 1
  else if (A.fair.any fun l => !(inB l A.next.length)) = true then 1
  else 0
theorem chk_auto (A : AutoD) (h : A.chk = 0) : A.must.length = A.next.length ∧ A.nots.length = A.next.length ∧ A.next.length ≤ 2048 ∧ A.fair.length ≤ 80 ∧ inB A.start A.next.length = true ∧ (∀ l ∈ A.next, inB l A.next.length = true) ∧ ∀ l ∈ A.fair, inB l A.next.length = true := by
  unfold AutoD.chk at h
  split at h
  · exact absurd h (by decide)
  split at h
  · exact absurd h (by decide)
  split at h
  · exact absurd h (by decide)
  split at h
  · exact absurd h (by decide)
  rename_i h1 h2 h3 h4
  have h2' := not_or.1 h2
  have h2'' := not_or.1 h2'.2
  refine ⟨by omega, by omega, by omega, by omega, by simpa using h2''.2, fun l hl => ?_, fun l hl => ?_⟩
  · rw [Bool.not_eq_true, List.any_eq_false] at h3
    simpa using h3 l hl
  · rw [Bool.not_eq_true, List.any_eq_false] at h4
    simpa using h4 l hl
/-! ### Letters that fit -/
def fitsV (A : AutoD) (s : Nat) (x : Int) : Bool := bitsV .and .u64 x (A.must.getD s 0) == A.must.getD s 0 && bitsV .and .u64 x (A.nots.getD s 0) == 0
theorem bits_lt (a : BitVec 64) : IntKind.wrap .u64 (a.toNat : Int) = (a.toNat : Int) := by
  have := a.isLt
  simp only [IntKind.wrap, IntKind.signed, IntKind.bits]
  simp
  omega
theorem bits_must {x m : Int} (hm : 0 ≤ m ∧ m < 18446744073709551616) : (bitsV .and .u64 x m == m) = (bitsV .andNot .u64 m x == 0) := by
  show (IntKind.wrap .u64 (((BitVec.ofInt 64 x) &&& (BitVec.ofInt 64 m)).toNat : Int) == m) = (IntKind.wrap .u64 (((BitVec.ofInt 64 m) &&& ~~~(BitVec.ofInt 64 x)).toNat : Int) == 0)
  rw [bits_lt, bits_lt]
  have e : m = ((BitVec.ofInt 64 m).toNat : Int) := by
    rw [BitVec.toNat_ofInt]
    omega
  generalize BitVec.ofInt 64 x = a
  rw [Bool.eq_iff_iff, beq_iff_eq, beq_iff_eq]
  generalize hb : BitVec.ofInt 64 m = b at e
  constructor
  · intro h
    rw [e] at h
    have h : a &&& b = b := BitVec.eq_of_toNat_eq (by omega)
    have : b &&& ~~~a = 0#64 := by
      rw [← h]
      ext i hi
      simp
      intro h1 _
      exact h1
    rw [this]; rfl
  · intro h
    have h : b &&& ~~~a = 0#64 := BitVec.eq_of_toNat_eq (by simpa using h)
    have : a &&& b = b := by
      ext i hi
      have := congrArg (fun z : BitVec 64 => z[i]) h
      simp at this
      cases q : b[i]
      · simp [q]
      · simp [q, this q]
    rw [this]; omega
theorem bits_comm (x m : Int) : bitsV .and .u64 m x = bitsV .and .u64 x m := by
  show IntKind.wrap .u64 (((BitVec.ofInt 64 m) &&& (BitVec.ofInt 64 x)).toNat : Int) = IntKind.wrap .u64 (((BitVec.ofInt 64 x) &&& (BitVec.ofInt 64 m)).toNat : Int)
  rw [BitVec.and_comm]
/-! ### The walks -/
theorem u64a_at {l : List Int} {z k : Nat} (hz : z = k) (h : k < l.length) : (l.map fun n => [D.sc (.int .u64 n)])[z]? = some [.sc (.int .u64 (l.getD k 0))] := by
  subst hz
  rw [List.getElem?_map, List.getElem?_eq_getElem h, List.getD_eq_getElem?_getD, List.getElem?_eq_getElem h]; rfl
end Go.Proofs.Ytihgbinhidppdaa
