/-
  The parts of a graph by one search with a stack: a part is closed; the end. Plain Lean. No statement is proved here.
-/
import Derived.Test.YtfaekhadjlgbbaaQTj0
namespace Go.Proofs.Ytfaekhadjlgbbaa
set_option linter.unusedVariables false
/-! ### The beginning, the end, and how long it takes -/
theorem TjI.zero (g : List (List Int)) : TjI g ⟨fun _ => 0, fun _ => 0, fun _ => -1, [], [], 0, 0⟩ where
  stk v := by simp
  srt := by simp
  cnt _ := Nat.le_refl _
  node v h := absurd rfl h
  par v h := by have h : (0 : Int) ≤ -1 := h; omega
  cls v h := by have h : (0 : Int) ≤ -1 := h; omega
  same u v h := by have h : (0 : Int) ≤ -1 := h; omega
  seg := fun v hv => by cases hv
  size := by simp
  seen := by
    show unseen (fun v => decide ((0 : Nat) ≠ 0)) g.length + 0 = g.length
    have : ∀ n, unseen (fun _ => decide ((0 : Nat) ≠ 0)) n = n := fun n => by
      induction n with
      | zero => rfl
      | succ n ih => unfold unseen at ih ⊢; simp only [sumTo, ih]; simp
    rw [this]; rfl
  deep := by
    show 0 + unseen (fun v => decide ((0 : Nat) ≠ 0)) g.length ≤ g.length
    have := unseen_le (fun v => decide ((0 : Nat) ≠ 0)) g.length
    omega
  numI u v _ h := absurd rfl h
theorem TjI.empty {g : List (List Int)} {S : TJ} (h : TjI g S) (hp : S.path = []) : S.stack = [] := by
  have hs := h.seg
  rw [hp] at hs
  cases e : S.stack with
  | nil => rfl
  | cons v r =>
    have := hs v (by rw [e]; simp)
    have := h.cnt v
    omega
theorem TjI.done {g : List (List Int)} {S : TJ} (h : TjI g S) (hp : S.path = []) {v : Nat} (hv : S.num v ≠ 0) : 0 ≤ S.part v := by
  rcases Int.lt_or_le (S.part v) 0 with q | q
  · have := (h.stk v).2 ⟨hv, q⟩
    rw [h.empty hp] at this
    cases this
  · exact q
def pathW (g : List (List Int)) : List (Nat × Nat) → Nat
  | [] => 0
  | (p, i) :: r => (g.getD p []).length - i + 1 + pathW g r
def TJ.fuel (g : List (List Int)) (S : TJ) : Nat := sumTo (fun v => if S.num v = 0 then (g.getD v []).length + 2 else 0) g.length + pathW g S.path
end Go.Proofs.Ytfaekhadjlgbbaa
