/-
  Sequences of steps, over deep values. No statement is proved here.
-/
import Derived.Test.YtikdngjdhncioaaPy0
import Derived.Test.YtikdngjdhncioaaGa9
import Derived.Test.YtikdngjdhncioaaEqG
namespace Go.Proofs.Ytikdngjdhncioaa
open Go.RowKit
set_option linter.unusedSimpArgs false
set_option linter.unusedVariables false
def grows (L : List (List Int)) : List (List D) := L.map fun l => [dints l]
theorem pure_grows (L : List (List Int)) : PureLL (grows L) := pureLL_map _ (fun l => by simp [PureL, pure_dints]) L
@[simp] theorem underLL_grows {m : Nat} (L : List (List Int)) : UnderLL m (grows L) ↔ True := ⟨fun _ => trivial, fun _ => underLL_pure _ (pure_grows L)⟩
@[simp] theorem grows_len (L : List (List Int)) : (grows L).length = L.length := by simp [grows]
theorem grows_snoc {L : List (List Int)} {c : Nat} {x : List Int} (h : c = L.length) : List.drop 0 (List.take c (grows L)) ++ [[dints x]] = grows (L ++ [x]) := by
  subst h
  rw [drop_take_all (by simp)]
  simp [grows]
theorem grows_at {L : List (List Int)} {z k : Nat} (hz : z = k) (h : k < L.length) : (grows L)[z]? = some [dints (L.getD k [])] := by
  unfold grows
  rw [grid_at hz h, List.getD_eq_getElem?_getD, List.getElem?_eq_getElem h]
  rfl
theorem deep_grows {H : List AObj} {id v n : Nat} {q : Bool} {L : List (List Int)} (hn : n = L.length) (h : H[id]? = some (.vec q v 1 (grows L))) : Deep H (.own id v 0 n) (dgrid L) := by
  subst hn
  exact .own _ _ _ _ _ _ _ _ h (by rw [drop_take_all (by simp)]; exact deepLL_refl _)
@[simp] theorem under_dints' {m : Nat} (l : List Int) : Under m (dints l) ↔ True := ⟨fun _ => trivial, fun _ => under_pure _ (pure_dints l)⟩
theorem now_len {P : ProcD} {l : List Int} (h : P.stepsE = 0) {i : Nat} (hz : ∀ j, j < i → P.errAt l j = 0) : (P.nowAt l i).length ≤ 30 := by
  have h1 := (ProcD.mark_of (ProcD.now_ok h i hz)).len
  have h2 := (chk_small (ProcD.stepsE_zero h).1).2
  omega
theorem gridTo_rows {P : ProcD} {l : List Int} (h : P.stepsE = 0) : ∀ {i : Nat}, (∀ j, j < i → P.errAt l j = 0) → ∀ x ∈ P.gridTo l i, x.length ≤ 30
  | 0, hz, x, hx => by
    simp only [ProcD.gridTo, List.mem_singleton] at hx
    subst hx
    exact now_len h hz
  | i + 1, hz, x, hx => by
    simp only [ProcD.gridTo, List.mem_append, List.mem_singleton] at hx
    rcases hx with hx | hx
    · exact gridTo_rows h (fun j hj => hz j (by omega)) x hx
    · subst hx
      exact now_len h hz
theorem pure_dgrid' (L : List (List Int)) : Pure (dgrid L) := pure_dgrid L
end Go.Proofs.Ytikdngjdhncioaa
