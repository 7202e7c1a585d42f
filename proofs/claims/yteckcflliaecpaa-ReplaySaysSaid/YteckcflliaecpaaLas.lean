/-
  Words that go round, over deep values. No statement is proved here.
-/
import Derived.Test.YteckcflliaecpaaDk2
import Derived.Test.YteckcflliaecpaaLw
import Derived.Test.YteckcflliaecpaaProg
namespace Go.Proofs.Yteckcflliaecpaa
open Go.RowKit
set_option linter.unusedSimpArgs false
def du (n : Int) : D := .sc (.int .u64 n)
def dlet (l : List Int) : D := .lst 1 (l.map fun n => [.sc (.int .u64 n)])
def wcells (s l : List Int) : List D := [dlet s, dlet l]
def dword (s l : List Int) : D := .agg (wcells s l)
theorem pure_dlet (l : List Int) : Pure (dlet l) := by
  simp only [dlet, Pure]; exact pureLL_map _ (fun n => by simp [PureL, Pure]) l
theorem pure_wcells (s l : List Int) : PureL (wcells s l) := by simp [wcells, PureL, pure_dlet]
theorem pure_dword (s l : List Int) : Pure (dword s l) := by simp [dword, Pure, pure_wcells]
theorem let_at {l : List Int} {k : Nat} (h : k < l.length) : (l.map fun n => [D.sc (.int .u64 n)])[k]? = some [.sc (.int .u64 (l.getD k 0))] := by
  rw [List.getElem?_map, List.getElem?_eq_getElem h, List.getD_eq_getElem?_getD, List.getElem?_eq_getElem h]; rfl
theorem let_atZ {l : List Int} {z : Int} (k : Nat) (hz : z = k) (h : k < l.length) : 0 ≤ z ∧ (l.map fun n => [D.sc (.int .u64 n)])[z.toNat]? = some [.sc (.int .u64 (l.getD k 0))] := by
  subst hz
  exact ⟨by omega, let_at h⟩
/-- What is wrong with a word. -/
def wchk (s l : List Int) : Int := if 60 < s.length ∨ 60 < s.length + l.length then 2 else if l.length = 0 then 1 else 0
theorem wchk_zero (s l : List Int) : wchk s l = 0 ↔ s.length + l.length ≤ 60 ∧ 1 ≤ l.length := by
  unfold wchk
  split
  · omega
  · split <;> omega
end Go.Proofs.Yteckcflliaecpaa
