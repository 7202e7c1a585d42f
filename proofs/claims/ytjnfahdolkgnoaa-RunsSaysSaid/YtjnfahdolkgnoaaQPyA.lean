/-
  Py0 Py1 joined. No statement is proved here.
-/
import Derived.Test.YtjnfahdolkgnoaaQGaA
import Derived.Test.YtjnfahdolkgnoaaQEqG
namespace Go.Proofs.Ytjnfahdolkgnoaa
/-! ### XPy0 -/
section
namespace ProcD
theorem begin_ok {P : ProcD} (h : P.stepsE = 0) : P.markB P.beginL = true := by
  have e : P.beginL = gl P.flows.length (begG P) := by unfold beginL; rw [if_pos h]
  unfold markB inB
  rw [e, gl_len, decide_eq_true rfl, Bool.true_and, List.all_eq_true]
  intro x hx
  unfold gl at hx
  obtain ⟨i, _, rfl⟩ := List.mem_map.1 hx
  unfold begG
  split <;> decide
theorem fin_pos {P : ProcD} {M : List Int} (hM : P.Mark M) {s : StepD} (hm : P.mayB M s = true) (f : Nat) : 0 ≤ P.finI M s f := by
  have h1 := hM.pos f
  have h2 := (P.incs_ok s f (P.outL s.1).length).1
  unfold finI baseI
  split
  · rename_i hd
    unfold decB at hd
    rw [Bool.and_eq_true, Bool.or_eq_true] at hd
    have : 0 < val M f := by
      rcases hd.2 with q | q
      · have q : s.2.1 = (f : Int) := by simpa using q
        unfold mayB at hm
        rw [if_pos (by omega), q, Int.toNat_natCast] at hm
        exact of_decide_eq_true hm
      · rw [Bool.and_eq_true] at q
        exact of_decide_eq_true q.2
    omega
  · omega
theorem fire_ok {P : ProcD} {M : List Int} (hM : P.markB M = true) {s : StepD} (hm : P.mayB M s = true) (he : P.fireE M s = 0) : P.markB (P.fireL M s) = true := by
  have hK := mark_of hM
  unfold fireE at he
  unfold fireL
  by_cases h3 : P.kind s.1.toNat = 3
  · rw [if_pos h3]
    unfold markB inB
    rw [gl_len, decide_eq_true rfl, Bool.true_and, List.all_eq_true]
    intro x hx
    unfold gl at hx
    obtain ⟨i, _, rfl⟩ := List.mem_map.1 hx
    decide
  · rw [if_neg h3] at he
    split at he
    · cases he
    · rename_i hno
      have he' : P.fireE M s = 0 := by unfold fireE; rw [if_neg h3, if_neg hno]
      rw [if_neg h3, if_pos he']
      unfold markB inB
      rw [gl_len, decide_eq_true rfl, Bool.true_and, List.all_eq_true]
      intro x hx
      unfold gl at hx
      obtain ⟨i, hi, rfl⟩ := List.mem_map.1 hx
      have h4 := fin_pos hK hm i
      have h5 : ¬ 9 < P.finI M s i := fun q => hno ⟨i, List.mem_range.1 hi, q⟩
      rw [Bool.and_eq_true, decide_eq_true_eq, decide_eq_true_eq]
      omega
end ProcD
end

/-! ### XPy1 -/
section
open Go.RowKit
set_option linter.unusedSimpArgs false
set_option linter.unusedVariables false
def grows (L : List (List Int)) : List (List D) := L.map fun l => [dints l]
theorem pure_grows (L : List (List Int)) : PureLL (grows L) := pureLL_map _ (fun l => by simp [PureL, pure_dints]) L
@[simp] theorem underLL_grows {m : Nat} (L : List (List Int)) : UnderLL m (grows L) ↔ True := ⟨fun _ => trivial, fun _ => underLL_pure _ (pure_grows L)⟩
@[simp] theorem grows_len (L : List (List Int)) : (grows L).length = L.length := by simp [grows]
theorem grows_snoc {L : List (List Int)} {c : Nat} {x : List Int} (h : c = L.length) : List.drop 0 (List.take c (grows L)) ++ [[dints x]] = grows (L ++ [x]) := by
  subst h
  rw [drop_take_all (by simp)]
  simp [grows]
theorem grows_at {L : List (List Int)} {z k : Nat} (hz : z = k) (h : k < L.length) : (grows L)[z]? = some [dints (L.getD k [])] := by
  unfold grows
  rw [grid_at hz h, List.getD_eq_getElem?_getD, List.getElem?_eq_getElem h]
  rfl
theorem deep_grows {H : List AObj} {id v n : Nat} {q : Bool} {L : List (List Int)} (hn : n = L.length) (h : H[id]? = some (.vec q v 1 (grows L))) : Deep H (.own id v 0 n) (dgrid L) := by
  subst hn
  exact .own _ _ _ _ _ _ _ _ h (by rw [drop_take_all (by simp)]; exact deepLL_refl _)
@[simp] theorem under_dints' {m : Nat} (l : List Int) : Under m (dints l) ↔ True := ⟨fun _ => trivial, fun _ => under_pure _ (pure_dints l)⟩
end

end Go.Proofs.Ytjnfahdolkgnoaa
