/-
  Pairs by their numbers, as they first come: plain law. No statement is proved here.
-/
import Derived.WalkKit
namespace Go.Proofs.Ytihgbinhidppdaa
set_option linter.unusedVariables false
abbrev Pr := Int × Int
def addP (L : List Pr) (p : Pr) : List Pr := if p ∈ L then L else L ++ [p]
def idxP (L : List Pr) (p : Pr) : Nat := L.idxOf p
def onceA (l : List Int) (n : Int) : List Int := if n ∈ l then l else l ++ [n]
theorem addP_len (L : List Pr) (p : Pr) : L.length ≤ (addP L p).length ∧ (addP L p).length ≤ L.length + 1 := by unfold addP; split <;> simp
theorem addP_nodup {L : List Pr} (h : L.Nodup) (p : Pr) : (addP L p).Nodup := by
  unfold addP
  split
  · exact h
  · rename_i q
    rw [List.nodup_append]
    exact ⟨h, by simp, fun a ha b hb => by rw [List.mem_singleton] at hb; subst hb; exact fun e => q (e ▸ ha)⟩
theorem mem_addP {L : List Pr} {p q : Pr} : q ∈ addP L p ↔ q ∈ L ∨ q = p := by
  unfold addP
  split
  · rename_i h
    exact ⟨fun k => .inl k, fun k => k.elim id fun e => e ▸ h⟩
  · simp
theorem idx_addP (L : List Pr) (p : Pr) : idxP (addP L p) p = if p ∈ L then idxP L p else L.length := by
  unfold addP idxP
  split
  · rfl
  · rename_i h
    rw [List.idxOf_append, if_neg h]; simp
theorem idx_lt {L : List Pr} {p : Pr} (h : p ∈ L) : idxP L p < L.length := List.idxOf_lt_length_of_mem h
theorem addP_old {L : List Pr} {p : Pr} {i : Nat} (h : i < L.length) : (addP L p).getD i (0, 0) = L.getD i (0, 0) := by
  unfold addP
  split
  · rfl
  · rw [List.getD_eq_getElem?_getD, List.getElem?_append_left h, ← List.getD_eq_getElem?_getD]
/-- All of a list, in order. -/
def pPut : List Pr → List Pr → List Int → List Pr × List Int
  | [], L, l => (L, l)
  | p :: r, L, l => pPut r (addP L p) (onceA l (idxP (addP L p) p))
/-- The same, until there are too many. -/
def pPutS : List Pr → List Pr → List Int → Bool → List Pr × List Int × Bool
  | [], L, l, b => (L, l, b)
  | p :: r, L, l, true => pPutS r (addP L p) (onceA l (idxP (addP L p) p)) (decide ((addP L p).length ≤ 2048))
  | _ :: r, L, l, false => pPutS r L l false
theorem pPutS_false : ∀ (ps L : List Pr) (l : List Int), pPutS ps L l false = (L, l, false)
  | [], _, _ => rfl
  | _ :: r, L, l => pPutS_false r L l
theorem pPut_mono : ∀ (ps L : List Pr) (l : List Int), L.length ≤ (pPut ps L l).1.length
  | [], _, _ => Nat.le_refl _
  | p :: r, L, l => Nat.le_trans (addP_len L p).1 (pPut_mono r _ _)
theorem pPut_nodup : ∀ (ps : List Pr) {L : List Pr} (l : List Int), L.Nodup → (pPut ps L l).1.Nodup
  | [], _, _, h => h
  | p :: r, _, _, h => pPut_nodup r _ (addP_nodup h p)
theorem pPut_mem : ∀ (ps L : List Pr) (l : List Int) (q : Pr), q ∈ (pPut ps L l).1 ↔ q ∈ L ∨ q ∈ ps
  | [], L, l, q => by simp [pPut]
  | p :: r, L, l, q => by
    rw [pPut, pPut_mem r, mem_addP, List.mem_cons]
    constructor
    · rintro ((h | h) | h)
      · exact .inl h
      · exact .inr (.inl h)
      · exact .inr (.inr h)
    · rintro (h | h | h)
      · exact .inl (.inl h)
      · exact .inl (.inr h)
      · exact .inr h
theorem pPut_old : ∀ (ps L : List Pr) (l : List Int) {i : Nat}, i < L.length → (pPut ps L l).1.getD i (0, 0) = L.getD i (0, 0)
  | [], _, _, _, _ => rfl
  | p :: r, L, l, i, h => by
    rw [pPut, pPut_old r _ _ (Nat.lt_of_lt_of_le h (addP_len L p).1), addP_old h]
/-- Both come to the same where there are not too many. -/
theorem pPutS_eq : ∀ (ps L : List Pr) (l : List Int), L.length ≤ 2048 →
    ((pPut ps L l).1.length ≤ 2048 ∧ pPutS ps L l true = ((pPut ps L l).1, (pPut ps L l).2, true)) ∨ (2048 < (pPut ps L l).1.length ∧ (pPutS ps L l true).2.2 = false)
  | [], L, l, h => .inl ⟨h, rfl⟩
  | p :: r, L, l, h => by
    rw [pPut, pPutS]
    by_cases q : (addP L p).length ≤ 2048
    · rw [decide_eq_true q]
      exact pPutS_eq r _ _ q
    · rw [decide_eq_false q, pPutS_false]
      exact .inr ⟨Nat.lt_of_lt_of_le (by omega) (pPut_mono r _ _), rfl⟩
theorem pPutS_len : ∀ (ps L : List Pr) (l : List Int) (b : Bool), (b = true → L.length ≤ 2048) → L.length ≤ 2049 → (pPutS ps L l b).1.length ≤ 2049 ∧ ((pPutS ps L l b).2.2 = true → (pPutS ps L l b).1.length ≤ 2048)
  | [], L, l, b, h, h2 => ⟨h2, h⟩
  | p :: r, L, l, true, h, _ => by
    have := (addP_len L p).2
    have := h rfl
    exact pPutS_len r _ _ _ (fun q => of_decide_eq_true q) (by omega)
  | _ :: r, L, l, false, _, h2 => pPutS_len r L l false (fun q => by cases q) h2
theorem pPutS_nodup : ∀ (ps : List Pr) {L : List Pr} (l : List Int) (b : Bool), L.Nodup → (pPutS ps L l b).1.Nodup
  | [], _, _, _, h => h
  | p :: r, _, _, true, h => pPutS_nodup r _ _ (addP_nodup h p)
  | _ :: r, _, _, false, h => pPutS_nodup r _ false h
theorem pPutS_app : ∀ (ps qs L : List Pr) (l : List Int) (b : Bool), pPutS (ps ++ qs) L l b = pPutS qs (pPutS ps L l b).1 (pPutS ps L l b).2.1 (pPutS ps L l b).2.2
  | [], _, _, _, _ => rfl
  | p :: r, qs, L, l, true => pPutS_app r qs _ _ _
  | _ :: r, qs, L, l, false => pPutS_app r qs L l false
theorem pPut_app : ∀ (ps qs L : List Pr) (l : List Int), pPut (ps ++ qs) L l = pPut qs (pPut ps L l).1 (pPut ps L l).2
  | [], _, _, _ => rfl
  | p :: r, qs, L, l => pPut_app r qs _ _
theorem pPutS_mem : ∀ (ps L : List Pr) (l : List Int) (b : Bool) (q : Pr), q ∈ (pPutS ps L l b).1 → q ∈ L ∨ q ∈ ps
  | [], L, l, b, q, h => .inl h
  | p :: r, L, l, true, q, h => by
    rcases pPutS_mem r _ _ _ q h with h | h
    · rcases mem_addP.1 h with h | h
      · exact .inl h
      · exact .inr (by simp [h])
    · exact .inr (by simp [h])
  | p :: r, L, l, false, q, h => by
    rcases pPutS_mem r L l false q h with h | h
    · exact .inl h
    · exact .inr (by simp [h])
/-! ### All pairs -/
/-- From pair n on; none: there are too many. -/
def runP (nx : Pr → List Pr) : Nat → Nat → List Pr → List (List Int) → Option (List Pr × List (List Int))
  | 0, _, _, _ => none
  | k + 1, n, L, T => if n < L.length then (if (pPut (nx (L.getD n (0, 0))) L []).1.length ≤ 2048 then runP nx k (n + 1) (pPut (nx (L.getD n (0, 0))) L []).1 (T ++ [(pPut (nx (L.getD n (0, 0))) L []).2]) else none) else some (L, T)
def numP (start : List Pr) (nx : Pr → List Pr) : Option (List Int × List Pr × List (List Int)) :=
  if (pPut start [] []).1.length ≤ 2048 then (runP nx 2050 0 (pPut start [] []).1 []).map fun q => ((pPut start [] []).2, q.1, q.2) else none
end Go.Proofs.Ytihgbinhidppdaa
