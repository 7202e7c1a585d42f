/-
  An automaton of one set for many: the program's Single, over deep values. No statement is proved here.
-/
import Derived.Test.YtfaekhadjlgbbaaQNb4
namespace Go.Proofs.Ytfaekhadjlgbbaa
open Go.RowKit
set_option linter.unusedSimpArgs false
set_option linter.unusedVariables false
def u64s (l : List Int) : List (List D) := l.map fun n => [.sc (.int .u64 n)]
@[simp] theorem u64s_len (l : List Int) : (u64s l).length = l.length := by simp [u64s]
theorem pure_u64s (l : List Int) : PureLL (u64s l) := pureLL_map _ (fun _ => by simp [PureL, Pure]) _
@[simp] theorem underLL_u64s {m : Nat} (l : List Int) : UnderLL m (u64s l) ↔ True := ⟨fun _ => trivial, fun _ => underLL_pure _ (pure_u64s l)⟩
theorem u64s_snoc (l : List Int) (x : Int) {k : Nat} (h : l.length = k) : List.drop 0 (List.take k (u64s l)) ++ List.drop 0 (List.take 1 [[D.sc (.int .u64 x)]]) = u64s (l ++ [x]) := by
  subst h
  rw [drop_take_all (by simp)]
  simp [u64s]
def emptyA : AutoD := ⟨[], [], [], [], []⟩
/-- The maker's memory behind five other things. -/
noncomputable def mheap5 (L : List Pr) (S : D) (T : List (List Int)) : List AObj :=
  [.mapo true (mapIs Try.prog 69 (fP L)), .row true [.mp 5, .own 7 L.length 0 L.length, S, .own 8 T.length 0 T.length, nilV, nilV, nilV], .vec true L.length 2 (prows L), .vec true T.length 1 (growsI T)]
@[simp] theorem mheap5_len (L : List Pr) (S : D) (T : List (List Int)) : (mheap5 L S T).length = 4 := rfl
end Go.Proofs.Ytfaekhadjlgbbaa
