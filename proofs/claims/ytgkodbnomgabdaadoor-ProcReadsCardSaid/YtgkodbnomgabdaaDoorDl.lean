/-
  Loops whose states are told by what turns in them. No statement is proved here.
-/
import Derived.Test.YtgkodbnomgabdaaDoorDB
namespace Go.Proofs.YtgkodbnomgabdaaDoor
open Go.RowKit
set_option linter.unusedVariables false

/-- Slots that are kept, one by one. -/
def keepK (env : Env) : List Nat → (Env → Prop) → Prop
  | [], K => K []
  | t :: ts, K => lookK t (fun d => keepK env ts fun e => K ((t, d) :: e)) env
def appK : Env → Env → (Env → Prop) → Prop
  | [], e, K => K e
  | p :: r, e, K => appK r e fun E => K (p :: E)
/-- Objects that turn, laid into a heap. -/
def puts : List (Nat × AObj) → List AObj → List AObj
  | [], H => H
  | (i, o) :: r, H => puts r (H.set i o)
def putsK : List (Nat × AObj) → List AObj → (List AObj → Prop) → Prop
  | [], H, K => K H
  | (i, o) :: r, H, K => hputK H i o fun H' => putsK r H' K
theorem keepK_eq (env : Env) : ∀ (ts : List Nat) (K : Env → Prop), keepK env ts K = K (ts.map fun t => (t, lookD t env))
  | [], K => rfl
  | t :: ts, K => by simp only [keepK, lookK_eq, keepK_eq env ts, List.map_cons]
theorem appK_eq : ∀ (a e : Env) (K : Env → Prop), appK a e K = K (a ++ e)
  | [], e, K => rfl
  | p :: r, e, K => by simp only [appK, appK_eq r e, List.cons_append]
theorem putsK_out : ∀ (l : List (Nat × AObj)) (H : List AObj) (K : List AObj → Prop), putsK l H K → K (puts l H)
  | [], H, K, h => h
  | (i, o) :: r, H, K, h => by
    simp only [putsK, hputK_iff] at h
    simp only [puts]
    exact putsK_out r _ K h.2
theorem sameE_app {env : Env} : ∀ (a e : Env), sameE env a → sameE env e → sameE env (a ++ e)
  | [], e, _, k => k
  | (t, d) :: r, e, h, k => ⟨h.1, sameE_app r e h.2 k⟩
theorem sameE_kept {env : Env} : ∀ ts : List Nat, sameE env (ts.map fun t => (t, lookD t env))
  | [] => trivial
  | t :: ts => ⟨rfl, sameE_kept ts⟩
theorem leB_envH {L n : Nat} {env env' : Env} {H H' : List AObj} (h : sameE env env') (e : H = H') : St.leB L n env H env' H' := e ▸ leB_env h
structure ForK (P : Program) (n : Nat) (p : PC) (Q : Post) (env : Env) (H : List AObj) {ι : Type} (upd : ι → Env) (hup : ι → List (Nat × AObj)) (G : ι → Prop) (m : ι → Nat) (i : ι) (e : Env) : Prop where
  good : G i
  start : sameE env (upd i)
  heap : H = puts (hup i) H
  round : ∀ j, G j → appK (upd j) e fun E => putsK (hup j) H fun O => PWp P n p (loopQB H.length n Q (fun j => upd j ++ e) (fun j => puts (hup j) H) G m (m j)) E O
/-- A loop: the slots that are kept, what the others hold, the objects that turn, what is known, what runs out. -/
theorem pwp_for {P : Program} {n : Nat} {p : PC} {Q : Post} {env : Env} {H : List AObj} {ι : Type} (kept : List Nat) (upd : ι → Env) (hup : ι → List (Nat × AObj)) (G : ι → Prop) (m : ι → Nat) (i : ι)
    (h : keepK env kept fun e => ForK P n p Q env H upd hup G m i e) : PWp P n (.loop p) Q env H := by
  rw [keepK_eq] at h
  refine pwp_loopB (fun j => upd j ++ kept.map fun t => (t, lookD t env)) (fun j => puts (hup j) H) G m i h.good (leB_envH (sameE_app _ _ h.start (sameE_kept _)) h.heap) fun j hj => ?_
  have := h.round j hj
  rw [appK_eq] at this
  exact putsK_out _ _ _ this
end Go.Proofs.YtgkodbnomgabdaaDoor
