/-
  Slices of own slices: a list of lists that the call builds. No statement is proved here.
-/
import Derived.Test.YtfaekhadjlgbbaaQFn
namespace Go.Proofs.Ytfaekhadjlgbbaa
open Go.RowKit
set_option linter.unusedSimpArgs false
set_option linter.unusedVariables false

section
variable {α : Type}
/-- The outer slice's cells: each an own slice; the inner ones lie from object b on. -/
def ogRows (b : Nat) (L : List (List α)) : List (List D) := (List.range L.length).map fun j => [.own (j + b) (L.getD j []).length 0 (L.getD j []).length]
/-- The inner slices. -/
def ogObjs (esz : Nat) (c : α → List D) (L : List (List α)) : List AObj := L.map fun l => .vec true l.length esz (l.map c)
@[simp] theorem ogRows_len (b : Nat) (L : List (List α)) : (ogRows b L).length = L.length := by simp [ogRows]
@[simp] theorem ogObjs_len (esz : Nat) (c : α → List D) (L : List (List α)) : (ogObjs esz c L).length = L.length := by simp [ogObjs]
theorem getD_at {L : List (List α)} {i : Nat} (h : i < L.length) : L[i]? = some (L.getD i []) := by
  rw [List.getD_eq_getElem?_getD, List.getElem?_eq_getElem h]; rfl
@[simp] theorem underLL_ogRows {m b : Nat} {L : List (List α)} (h : b + L.length ≤ m) : UnderLL m (ogRows b L) := by
  unfold ogRows
  rw [underLL_map]
  intro j hj
  have := List.mem_range.1 hj
  simp only [UnderL, Under, and_true]
  omega
end
/-- Objects that go on as they are. -/
theorem closeH_same {m : Nat} {G : List AObj} : ∀ (l t : List AObj), (∀ o ∈ l, o.under m) → closeH m G (l ++ t) l
  | [], t, _ => by cases t <;> exact trivial
  | o :: r, t, h => by
    refine ⟨?_, closeH_same r t fun o ho => h o (by simp [ho])⟩
    have := h o (by simp)
    cases o with
    | row q cs => exact ⟨rfl, .refl _, this⟩
    | vec q v e xs => exact ⟨rfl, rfl, rfl, .refl _, this⟩
    | mapo q I => exact ⟨rfl, rfl⟩
/-- A loop whose heap is told whole. -/
structure ForH (P : Program) (n : Nat) (p : PC) (Q : Post) (env : Env) (H : List AObj) {ι : Type} (upd : ι → Env) (O : ι → List AObj) (G : ι → Prop) (m : ι → Nat) (i : ι) (e : Env) : Prop where
  good : G i
  start : sameE env (upd i)
  heap : H = O i
  round : ∀ j, G j → appK (upd j) e fun E => PWp P n p (loopQB H.length n Q (fun j => upd j ++ e) O G m (m j)) E (O j)
theorem pwp_forH {P : Program} {n : Nat} {p : PC} {Q : Post} {env : Env} {H : List AObj} {ι : Type} (kept : List Nat) (upd : ι → Env) (O : ι → List AObj) (G : ι → Prop) (m : ι → Nat) (i : ι)
    (h : keepK env kept fun e => ForH P n p Q env H upd O G m i e) : PWp P n (.loop p) Q env H := by
  rw [keepK_eq] at h
  refine pwp_loopB (fun j => upd j ++ kept.map fun t => (t, lookD t env)) O G m i h.good (leB_envH (sameE_app _ _ h.start (sameE_kept _)) h.heap) fun j hj => ?_
  have := h.round j hj
  rwa [appK_eq] at this
section
variable {α : Type} {esz : Nat} {c : α → List D} {L : List (List α)} {T : List AObj} {K : AObj → Prop} {K' : List AObj → Prop}
end
end Go.Proofs.Ytfaekhadjlgbbaa
