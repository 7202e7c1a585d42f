/-
  The parts of a graph: the program's visit, over deep values. No statement is proved here.
-/
import Derived.Test.YtfaekhadjlgbbaaQTj4
import Derived.Test.YtfaekhadjlgbbaaQOg
import Derived.Test.YtfaekhadjlgbbaaQDk2
namespace Go.Proofs.Ytfaekhadjlgbbaa
open Go.RowKit
set_option linter.unusedSimpArgs false
set_option linter.unusedVariables false
def pz (l : List (Nat × Nat)) : List (List D) := l.map fun q => [.sc (.int .i64 q.1), .sc (.int .i64 q.2)]
@[simp] theorem pz_len (l : List (Nat × Nat)) : (pz l).length = l.length := by simp [pz]
theorem pure_pz (l : List (Nat × Nat)) : PureLL (pz l) := pureLL_map _ (fun l => by simp [PureL, Pure]) l
@[simp] theorem underLL_pz {m : Nat} (l : List (Nat × Nat)) : UnderLL m (pz l) ↔ True := ⟨fun _ => trivial, fun _ => underLL_pure _ (pure_pz l)⟩
/-- The path as it lies. -/
structure POK (pa : List (Nat × Nat)) (PZ : List (Nat × Nat)) : Prop where
  len : pa.length ≤ PZ.length
  eq : PZ.take pa.length = pa.reverse
theorem POK.top {q : Nat × Nat} {r PZ : List (Nat × Nat)} (h : POK (q :: r) PZ) : PZ.getD r.length (0, 0) = q := by
  have h1 := h.len
  have h2 := h.eq
  simp only [List.length_cons, List.reverse_cons] at h1 h2
  have h3 : (PZ.take (r.length + 1)).getD r.length (0, 0) = (r.reverse ++ [q]).getD r.length (0, 0) := by rw [h2]
  rw [List.getD_eq_getElem?_getD, List.getD_eq_getElem?_getD, List.getElem?_take, if_pos (by omega), List.getElem?_append_right (by simp)] at h3
  rw [List.getD_eq_getElem?_getD, h3]
  simp
theorem POK.set {q q' : Nat × Nat} {r PZ : List (Nat × Nat)} (h : POK (q :: r) PZ) : POK (q' :: r) (PZ.set r.length q') where
  len := by have := h.len; simpa using this
  eq := by
    have h1 := h.len
    have h2 := h.eq
    simp only [List.length_cons, List.reverse_cons] at h1 h2 ⊢
    rw [List.take_set, h2, List.set_append_right _ _ (by simp)]
    simp
theorem POK.push {r PZ : List (Nat × Nat)} (h : POK r PZ) (q : Nat × Nat) : POK (q :: r) (PZ.take r.length ++ [q]) where
  len := by have := h.len; simp; omega
  eq := by
    have h1 := h.len
    rw [List.take_of_length_le (by simp; omega), h.eq]
    simp
end Go.Proofs.Ytfaekhadjlgbbaa
