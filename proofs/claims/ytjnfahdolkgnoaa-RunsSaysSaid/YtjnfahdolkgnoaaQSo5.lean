/-
  Is a process sound?: the numbers of a space are right. Plain Lean. No statement is proved here.
-/
import Derived.Test.YtjnfahdolkgnoaaQSoA
import Derived.Test.YtjnfahdolkgnoaaQSpB
namespace Go.Proofs.Ytjnfahdolkgnoaa
open Go.RowKit
set_option linter.unusedSimpArgs false
set_option linter.unusedVariables false
namespace ProcD
def EdgeIn (s m : Nat) (e : EdgeD) : Prop := 0 ≤ e.1 ∧ e.1 < (s : Int) ∧ 0 ≤ e.2 ∧ e.2 < (m : Int)
theorem EdgeIn.mono {s m m' : Nat} {e : EdgeD} (h : EdgeIn s m e) (hm : m ≤ m') : EdgeIn s m' e := ⟨h.1, h.2.1, h.2.2.1, by have := h.2.2.2; omega⟩
theorem edgesF_in {P : ProcD} {tok : Int} {st n : Nat} {M : List Int} : ∀ (L : List Int) (marks : List (List Int)) (org : List Org) (cur : List EdgeD) (last : Org), (∀ k ∈ L, k ∈ P.enL M) → (∀ e ∈ cur, EdgeIn P.stepsL.length marks.length e) →
    marks.length ≤ (P.edgesF tok st n M L marks org cur last).marks.length ∧ ∀ e ∈ (P.edgesF tok st n M L marks org cur last).cur, EdgeIn P.stepsL.length (P.edgesF tok st n M L marks org cur last).marks.length e
  | [], marks, org, cur, last, _, hc => ⟨Nat.le_refl _, hc⟩
  | k :: r, marks, org, cur, last, hL, hc => by
    rw [edgesF_cons]
    split
    · exact ⟨Nat.le_refl _, hc⟩
    · split
      · exact ⟨Nat.le_refl _, hc⟩
      · rename_i h1 h2
        have h2 : putE marks (P.firL M k) tok st = 0 := by omega
        have hl := putM_len (marks := marks) (m := P.firL M k) (tok := tok) (st := st)
        obtain ⟨_, k1, k2, _⟩ := enL_spec (hL k (by simp))
        obtain ⟨q1, q2⟩ := edgesF_in (P := P) (tok := tok) (st := st) (n := n) (M := M) r (putM marks (P.firL M k) tok st) (putG marks org (P.firL M k) tok st ((n : Int), k)) (cur ++ [(k, putI marks (P.firL M k) tok st)]) ((n : Int), k)
          (fun x hx => hL x (by simp [hx])) (fun e he => by
            rcases List.mem_append.1 he with he | he
            · exact (hc e he).mono hl
            · rw [List.mem_singleton] at he
              subst he
              have hm := putM_mem h2
              have hi := List.idxOf_lt_length_of_mem hm
              have e : putI marks (P.firL M k) tok st = (idxM (putM marks (P.firL M k) tok st) (P.firL M k) : Int) := by unfold putI; rw [if_pos h2]
              refine ⟨k1, by show k < _; omega, ?_, ?_⟩
              · show 0 ≤ putI marks (P.firL M k) tok st
                rw [e]; omega
              · show putI marks (P.firL M k) tok st < _
                rw [e]; unfold idxM; omega)
        exact ⟨Nat.le_trans hl q1, q2⟩
theorem runF_in {P : ProcD} {tok : Int} {st : Nat} (hst : st ≤ 200) : ∀ (f n : Nat) (marks : List (List Int)) (org : List Org) (next : List (List EdgeD)) (last : Org), Sp P tok st marks org → (∀ l ∈ next, ∀ e ∈ l, EdgeIn P.stepsL.length marks.length e) → next.length = n → n ≤ marks.length → n + f = 201 →
    (P.runF tok st f n marks org next last).e = 0 → (P.runF tok st f n marks org next last).next.length = (P.runF tok st f n marks org next last).marks.length ∧ marks.length ≤ (P.runF tok st f n marks org next last).marks.length ∧
      ∀ l ∈ (P.runF tok st f n marks org next last).next, ∀ e ∈ l, EdgeIn P.stepsL.length (P.runF tok st f n marks org next last).marks.length e
  | 0, n, marks, org, next, last, hS, _, _, hn, hf, _ => by have := hS.room; omega
  | f + 1, n, marks, org, next, last, hS, hN, hl, hn, hf, he => by
    simp only [runF] at he ⊢
    split
    · rename_i hlt
      rw [if_pos hlt] at he
      have hM := hS.good _ (mem_getDL hlt)
      obtain ⟨q1, q2, _⟩ := edgesF_ok (tok := tok) (st := st) (n := n) hM (P.enL (marks.getD n [])) marks org [] last (fun _ h => h) hS hlt
      obtain ⟨r1, r2⟩ := edgesF_in (P := P) (tok := tok) (st := st) (n := n) (M := marks.getD n []) (P.enL (marks.getD n [])) marks org [] last (fun _ h => h) (by simp)
      split
      · rename_i h0
        rw [if_pos h0] at he
        exact absurd he h0
      · rename_i h0
        rw [if_neg h0] at he
        obtain ⟨t1, t2, t3⟩ := runF_in hst f (n + 1) _ _ _ _ q1 (fun l hl' e he' => by
          rcases List.mem_append.1 hl' with hl' | hl'
          · exact (hN l hl' e he').mono q2
          · rw [List.mem_singleton] at hl'; subst hl'; exact r2 e he') (by simp [hl]) (by omega) (by omega) he
        exact ⟨t1, Nat.le_trans q2 t2, t3⟩
    · rename_i hlt
      exact ⟨by show next.length = marks.length; omega, Nat.le_refl _, hN⟩
end ProcD
theorem found_fine {P : ProcD} {tok st : Int} (he : P.exE tok st = 0) : FndN P (P.exM tok st) (P.exN tok st) := by
  have eM : P.exM tok st = (P.exF tok st.toNat).marks := by unfold ProcD.exM; rw [if_pos he]
  have eN : P.exN tok st = (P.exF tok st.toNat).next := by unfold ProcD.exN; rw [if_pos he]
  unfold ProcD.exE at he
  split at he
  · exfalso; omega
  rename_i h1
  have h1 : P.stepsE = 0 := by omega
  split at he
  · exfalso; omega
  rename_i h2
  unfold ProcD.badTS at h2
  obtain ⟨h0, _, h60⟩ := ProcD.stepsE_zero h1
  have h30 := (chk_small h0).2
  obtain ⟨hS, _⟩ := ProcD.exF_ok h1 (tok := tok) (st := st.toNat) (by omega)
  have hr := hS.room
  obtain ⟨g1, g2⟩ := ProcD.runF_next (P := P) (tok := tok) (st := st.toNat) 201 0 [P.beginL] [(-1, -1)] [] (-1, -1) (by simp)
  obtain ⟨t1, t2, t3⟩ := ProcD.runF_in (P := P) (tok := tok) (st := st.toNat) (by omega) 201 0 [P.beginL] [(-1, -1)] [] (-1, -1) (ProcD.Sp.start h1 (by omega)) (by simp) rfl (by simp) rfl he
  rw [eM, eN]
  refine ⟨⟨t1, t2, by omega, fun l hl => Nat.le_trans (g1 l hl) h60, t3, fun m hm => ?_⟩, h1⟩
  have hk := ProcD.mark_of (hS.good m hm)
  refine ⟨by have := hk.len; omega, fun x hx => ?_⟩
  obtain ⟨j, hj, rfl⟩ := getD_mem hx
  exact by have := hk.pos j; unfold val at this; exact this
end Go.Proofs.Ytjnfahdolkgnoaa
