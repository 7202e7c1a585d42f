/-
  Py0 Py1 joined. No statement is proved here.
-/
import Derived.Test.YtjnfahdolkgnoaaGaA
import Derived.Test.YtjnfahdolkgnoaaEqG
namespace Go.Proofs.Ytjnfahdolkgnoaa
/-! ### XPy0 -/
section
namespace ProcD
noncomputable def nowAt (P : ProcD) (l : List Int) : Nat → List Int
  | 0 => P.beginL
  | i + 1 => P.firL (P.nowAt l i) (l.getD i 0)
noncomputable def errAt (P : ProcD) (l : List Int) (i : Nat) : Int := P.firE (P.nowAt l i) (l.getD i 0)
noncomputable def gridTo (P : ProcD) (l : List Int) : Nat → List (List Int)
  | 0 => [P.nowAt l 0]
  | i + 1 => P.gridTo l i ++ [P.nowAt l (i + 1)]
theorem gridTo_len (P : ProcD) (l : List Int) : ∀ i, (P.gridTo l i).length = i + 1
  | 0 => rfl
  | i + 1 => by simp [gridTo, gridTo_len P l i]
theorem gridTo_last (P : ProcD) (l : List Int) : ∀ i, (P.gridTo l i).getD i [] = P.nowAt l i
  | 0 => rfl
  | i + 1 => by
    simp only [gridTo]
    rw [List.getD_eq_getElem?_getD, List.getElem?_append_right (by rw [gridTo_len]; omega), gridTo_len, Nat.sub_self]
    rfl
theorem stop_at (e : Nat → Int) (len : Nat) : ∃ n, n ≤ len ∧ (∀ j, j < n → e j = 0) ∧ (n = len ∨ e n ≠ 0) := by
  induction len with
  | zero => exact ⟨0, by omega, fun j h => by omega, .inl rfl⟩
  | succ k ih =>
    obtain ⟨n, h1, h2, h3⟩ := ih
    rcases h3 with rfl | h3
    · by_cases q : e n = 0
      · refine ⟨n + 1, by omega, fun j hj => ?_, .inl rfl⟩
        by_cases w : j = n
        · subst w; exact q
        · exact h2 j (by omega)
      · exact ⟨n, by omega, h2, .inr q⟩
    · exact ⟨n, by omega, h2, .inr h3⟩
theorem begin_ok {P : ProcD} (h : P.stepsE = 0) : P.markB P.beginL = true := by
  have e : P.beginL = gl P.flows.length (begG P) := by unfold beginL; rw [if_pos h]
  unfold markB inB
  rw [e, gl_len, decide_eq_true rfl, Bool.true_and, List.all_eq_true]
  intro x hx
  unfold gl at hx
  obtain ⟨i, _, rfl⟩ := List.mem_map.1 hx
  unfold begG
  split <;> decide
theorem fin_pos {P : ProcD} {M : List Int} (hM : P.Mark M) {s : StepD} (hm : P.mayB M s = true) (f : Nat) : 0 ≤ P.finI M s f := by
  have h1 := hM.pos f
  have h2 := (P.incs_ok s f (P.outL s.1).length).1
  unfold finI baseI
  split
  · rename_i hd
    unfold decB at hd
    rw [Bool.and_eq_true, Bool.or_eq_true] at hd
    have : 0 < val M f := by
      rcases hd.2 with q | q
      · have q : s.2.1 = (f : Int) := by simpa using q
        unfold mayB at hm
        rw [if_pos (by omega), q, Int.toNat_natCast] at hm
        exact of_decide_eq_true hm
      · rw [Bool.and_eq_true] at q
        exact of_decide_eq_true q.2
    omega
  · omega
theorem fire_ok {P : ProcD} {M : List Int} (hM : P.markB M = true) {s : StepD} (hm : P.mayB M s = true) (he : P.fireE M s = 0) : P.markB (P.fireL M s) = true := by
  have hK := mark_of hM
  unfold fireE at he
  unfold fireL
  by_cases h3 : P.kind s.1.toNat = 3
  · rw [if_pos h3]
    unfold markB inB
    rw [gl_len, decide_eq_true rfl, Bool.true_and, List.all_eq_true]
    intro x hx
    unfold gl at hx
    obtain ⟨i, _, rfl⟩ := List.mem_map.1 hx
    decide
  · rw [if_neg h3] at he
    split at he
    · cases he
    · rename_i hno
      have he' : P.fireE M s = 0 := by unfold fireE; rw [if_neg h3, if_neg hno]
      rw [if_neg h3, if_pos he']
      unfold markB inB
      rw [gl_len, decide_eq_true rfl, Bool.true_and, List.all_eq_true]
      intro x hx
      unfold gl at hx
      obtain ⟨i, hi, rfl⟩ := List.mem_map.1 hx
      have h4 := fin_pos hK hm i
      have h5 : ¬ 9 < P.finI M s i := fun q => hno ⟨i, List.mem_range.1 hi, q⟩
      rw [Bool.and_eq_true, decide_eq_true_eq, decide_eq_true_eq]
      omega
/-- What a step that goes well says. -/
theorem firE_zero {P : ProcD} {M : List Int} {k : Int} (h : P.firE M k = 0) : P.markE M = 0 ∧ 0 ≤ k ∧ k.toNat < P.stepsL.length ∧ P.mayB M (P.stepsL.getD k.toNat (0, 0, 0)) = true ∧ P.fireE M (P.stepsL.getD k.toNat (0, 0, 0)) = 0 ∧ P.firL M k = P.fireL M (P.stepsL.getD k.toNat (0, 0, 0)) := by
  have e : P.firL M k = P.fireL M (P.stepsL.getD k.toNat (0, 0, 0)) := by unfold firL; rw [if_pos h]
  unfold firE at h
  split at h
  · exact absurd h (by assumption)
  · rename_i q
    split at h
    · cases h
    · split at h
      · rename_i q2 q3
        exact ⟨Classical.not_not.1 q, by omega, by omega, q3, h, e⟩
      · cases h
theorem now_ok {P : ProcD} {l : List Int} (h : P.stepsE = 0) : ∀ i, (∀ j, j < i → P.errAt l j = 0) → P.markB (P.nowAt l i) = true
  | 0, _ => begin_ok h
  | i + 1, hz => by
    have ih := now_ok h i fun j hj => hz j (by omega)
    have hi := hz i (by omega)
    obtain ⟨_, _, _, a, b, c⟩ := firE_zero hi
    show P.markB (P.firL (P.nowAt l i) (l.getD i 0)) = true
    rw [c]
    exact fire_ok ih a b
end ProcD
end

/-! ### XPy1 -/
section
open Go.RowKit
set_option linter.unusedSimpArgs false
set_option linter.unusedVariables false
def grows (L : List (List Int)) : List (List D) := L.map fun l => [dints l]
theorem pure_grows (L : List (List Int)) : PureLL (grows L) := pureLL_map _ (fun l => by simp [PureL, pure_dints]) L
@[simp] theorem underLL_grows {m : Nat} (L : List (List Int)) : UnderLL m (grows L) ↔ True := ⟨fun _ => trivial, fun _ => underLL_pure _ (pure_grows L)⟩
@[simp] theorem grows_len (L : List (List Int)) : (grows L).length = L.length := by simp [grows]
theorem grows_snoc {L : List (List Int)} {c : Nat} {x : List Int} (h : c = L.length) : List.drop 0 (List.take c (grows L)) ++ [[dints x]] = grows (L ++ [x]) := by
  subst h
  rw [drop_take_all (by simp)]
  simp [grows]
theorem grows_at {L : List (List Int)} {z k : Nat} (hz : z = k) (h : k < L.length) : (grows L)[z]? = some [dints (L.getD k [])] := by
  unfold grows
  rw [grid_at hz h, List.getD_eq_getElem?_getD, List.getElem?_eq_getElem h]
  rfl
theorem deep_grows {H : List AObj} {id v n : Nat} {q : Bool} {L : List (List Int)} (hn : n = L.length) (h : H[id]? = some (.vec q v 1 (grows L))) : Deep H (.own id v 0 n) (dgrid L) := by
  subst hn
  exact .own _ _ _ _ _ _ _ _ h (by rw [drop_take_all (by simp)]; exact deepLL_refl _)
@[simp] theorem under_dints' {m : Nat} (l : List Int) : Under m (dints l) ↔ True := ⟨fun _ => trivial, fun _ => under_pure _ (pure_dints l)⟩
theorem now_len {P : ProcD} {l : List Int} (h : P.stepsE = 0) {i : Nat} (hz : ∀ j, j < i → P.errAt l j = 0) : (P.nowAt l i).length ≤ 30 := by
  have h1 := (ProcD.mark_of (ProcD.now_ok h i hz)).len
  have h2 := (chk_small (ProcD.stepsE_zero h).1).2
  omega
theorem gridTo_rows {P : ProcD} {l : List Int} (h : P.stepsE = 0) : ∀ {i : Nat}, (∀ j, j < i → P.errAt l j = 0) → ∀ x ∈ P.gridTo l i, x.length ≤ 30
  | 0, hz, x, hx => by
    simp only [ProcD.gridTo, List.mem_singleton] at hx
    subst hx
    exact now_len h hz
  | i + 1, hz, x, hx => by
    simp only [ProcD.gridTo, List.mem_append, List.mem_singleton] at hx
    rcases hx with hx | hx
    · exact gridTo_rows h (fun j hj => hz j (by omega)) x hx
    · subst hx
      exact now_len h hz
theorem pure_dgrid' (L : List (List Int)) : Pure (dgrid L) := pure_dgrid L
end

end Go.Proofs.Ytjnfahdolkgnoaa
