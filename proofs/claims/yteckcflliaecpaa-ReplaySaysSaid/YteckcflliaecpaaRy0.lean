/-
  Verdicts that are played. Plain Lean. No statement is proved here.
-/
import Derived.Test.YteckcflliaecpaaPy0
namespace Go.Proofs.Yteckcflliaecpaa
namespace ProcD
noncomputable def rnow (P : ProcD) (l : List Int) : Nat → List Int
  | 0 => P.beginL
  | i + 1 => if l.getD i 0 = -1 then P.rnow l i else P.firL (P.rnow l i) (l.getD i 0)
open Classical in
noncomputable def rerr (P : ProcD) (l : List Int) (i : Nat) : Int :=
  if l.getD i 0 = -1 then (if P.enL (P.rnow l i) = [] then 0 else 9) else P.firE (P.rnow l i) (l.getD i 0)
noncomputable def rgrid (P : ProcD) (l : List Int) : Nat → List (List Int)
  | 0 => [P.rnow l 0]
  | i + 1 => P.rgrid l i ++ [P.rnow l (i + 1)]
theorem rgrid_len (P : ProcD) (l : List Int) : ∀ i, (P.rgrid l i).length = i + 1
  | 0 => rfl
  | i + 1 => by simp [rgrid, rgrid_len P l i]
theorem rgrid_at (P : ProcD) (l : List Int) {k : Nat} : ∀ {i : Nat}, k ≤ i → (P.rgrid l i).getD k [] = P.rnow l k
  | 0, h => by rw [show k = 0 by omega]; rfl
  | i + 1, h => by
    simp only [rgrid]
    by_cases e : k = i + 1
    · subst e
      rw [List.getD_eq_getElem?_getD, List.getElem?_append_right (by rw [rgrid_len]; omega), rgrid_len, Nat.sub_self]
      rfl
    · rw [List.getD_eq_getElem?_getD, List.getElem?_append_left (by rw [rgrid_len]; omega), ← List.getD_eq_getElem?_getD]
      exact rgrid_at P l (by omega)
theorem rnow_ok {P : ProcD} {l : List Int} (h : P.stepsE = 0) : ∀ i, (∀ j, j < i → P.rerr l j = 0) → P.markB (P.rnow l i) = true
  | 0, _ => begin_ok h
  | i + 1, hz => by
    have ih := rnow_ok h i fun j hj => hz j (by omega)
    have hi := hz i (by omega)
    unfold rerr at hi
    simp only [rnow]
    split
    · exact ih
    · rename_i q
      rw [if_neg q] at hi
      obtain ⟨_, _, _, a, b, c⟩ := firE_zero hi
      rw [c]
      exact fire_ok ih a b
theorem rnow_len {P : ProcD} {l : List Int} (h : P.stepsE = 0) {i : Nat} (hz : ∀ j, j < i → P.rerr l j = 0) : (P.rnow l i).length ≤ 30 := by
  have h1 := (mark_of (rnow_ok h i hz)).len
  have h2 := (chk_small (stepsE_zero h).1).2
  omega
theorem rgrid_rows {P : ProcD} {l : List Int} (h : P.stepsE = 0) : ∀ {i : Nat}, (∀ j, j < i → P.rerr l j = 0) → ∀ x ∈ P.rgrid l i, x.length ≤ 30
  | 0, hz, x, hx => by
    simp only [rgrid, List.mem_singleton] at hx
    subst hx
    exact rnow_len h hz
  | i + 1, hz, x, hx => by
    simp only [rgrid, List.mem_append, List.mem_singleton] at hx
    rcases hx with hx | hx
    · exact rgrid_rows h (fun j hj => hz j (by omega)) x hx
    · subst hx
      exact rnow_len h hz
/-- What a verdict's replay says: an error, or the frames. -/
noncomputable def fraE (P : ProcD) (stem loop : List Int) (n : Nat) : Int :=
  if P.stepsE ≠ 0 then P.stepsE else if loop.length = 0 then 1 else if 60000 < stem.length + loop.length then 2
  else if n ≠ stem.length + loop.length then P.rerr (stem ++ loop) n
  else if P.rnow (stem ++ loop) stem.length = P.rnow (stem ++ loop) (stem.length + loop.length) then 0 else 9
noncomputable def fraL (P : ProcD) (stem loop : List Int) (n : Nat) : List (List Int) := if P.fraE stem loop n = 0 then P.rgrid (stem ++ loop) (stem.length + loop.length) else []
def seg (stem loop : List Int) : Nat → List Int
  | 0 => stem
  | _ => loop
def off (stem loop : List Int) : Nat → Nat
  | 0 => 0
  | 1 => stem.length
  | _ => stem.length + loop.length
theorem off_next {stem loop : List Int} {j : Nat} (h : j < 2) : off stem loop (j + 1) = off stem loop j + (seg stem loop j).length := by
  rcases j with _ | _ | j
  · simp [off, seg]
  · simp [off, seg]
  · omega
theorem seg_at {stem loop : List Int} {j k : Nat} (h : j < 2) (hk : k < (seg stem loop j).length) : (stem ++ loop).getD (off stem loop j + k) 0 = (seg stem loop j).getD k 0 := by
  rcases j with _ | _ | j
  · simp only [off, seg, Nat.zero_add] at hk ⊢
    rw [List.getD_eq_getElem?_getD, List.getD_eq_getElem?_getD, List.getElem?_append_left hk]
  · simp only [off, seg, Nat.zero_add] at hk ⊢
    rw [List.getD_eq_getElem?_getD, List.getD_eq_getElem?_getD, List.getElem?_append_right (by omega), Nat.add_sub_cancel_left]
  · omega
theorem off_le (stem loop : List Int) (j : Nat) : off stem loop j ≤ stem.length + loop.length := by
  rcases j with _ | _ | j <;> simp [off]
end ProcD
end Go.Proofs.Yteckcflliaecpaa
