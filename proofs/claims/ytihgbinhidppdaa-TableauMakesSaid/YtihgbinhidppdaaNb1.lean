/-
  A maker of an automaton of pairs: its memory; one more pair (add), over deep values. No statement is proved here.
-/
import Derived.Test.YtihgbinhidppdaaNb0
import Derived.Test.YtihgbinhidppdaaAu0
import Derived.Test.YtihgbinhidppdaaDl
import Derived.Test.YtihgbinhidppdaaOg
import Derived.DeepKeys4
namespace Go.Proofs.Ytihgbinhidppdaa
open Go.RowKit
set_option linter.unusedSimpArgs false
set_option linter.unusedVariables false
theorem put_one {cs : List D} {z k : Nat} {c : D} {K : List D → Prop} (hz : z = k) (h : k < cs.length) (hK : K (cs.set k c)) : putK cs z [c] K := by
  subst hz
  refine (putK_iff _ _ _ _).2 ⟨by simp; omega, ?_⟩
  rw [List.set_eq_take_append_cons_drop, if_pos h] at hK
  rw [List.length_singleton, List.append_assoc, List.singleton_append]
  exact hK
def dpair (a b : Int) : List D := [.sc (.int .i64 a), .sc (.int .i64 b)]
def prows (l : List Pr) : List (List D) := l.map fun o => dpair o.1 o.2
def dpairs (l : List Pr) : D := .lst 2 (prows l)
@[simp] theorem prows_len (l : List Pr) : (prows l).length = l.length := by simp [prows]
theorem pure_prows (l : List Pr) : PureLL (prows l) := pureLL_map _ (fun l => by simp [dpair, PureL, Pure]) l
theorem pure_dpairs (l : List Pr) : Pure (dpairs l) := by simp only [dpairs, Pure]; exact pure_prows l
@[simp] theorem underLL_prows {m : Nat} (l : List Pr) : UnderLL m (prows l) ↔ True := ⟨fun _ => trivial, fun _ => underLL_pure _ (pure_prows l)⟩
@[simp] theorem under_dpairs {m : Nat} (l : List Pr) : Under m (dpairs l) ↔ True := ⟨fun _ => trivial, fun _ => under_pure _ (pure_dpairs l)⟩
theorem prows_at {l : List Pr} {z k : Nat} (hz : z = k) (h : k < l.length) : (prows l)[z]? = some (dpair (l.getD k (0, 0)).1 (l.getD k (0, 0)).2) := by
  subst hz
  unfold prows
  rw [List.getElem?_map, List.getElem?_eq_getElem h, List.getD_eq_getElem?_getD, List.getElem?_eq_getElem h]
  rfl
theorem prows_snoc {l : List Pr} {c : Nat} {a b : Int} (h : c = l.length) : List.drop 0 (List.take c (prows l)) ++ [dpair a b] = prows (l ++ [(a, b)]) := by
  subst h
  rw [drop_take_all (by simp)]
  simp [prows]
def growsI (L : List (List Int)) : List (List D) := L.map fun l => [dints l]
@[simp] theorem growsI_len (L : List (List Int)) : (growsI L).length = L.length := by simp [growsI]
theorem pure_growsI (L : List (List Int)) : PureLL (growsI L) := pureLL_map _ (fun l => by simp [PureL, pure_dints]) L
@[simp] theorem underLL_growsI {m : Nat} (l : List (List Int)) : UnderLL m (growsI l) ↔ True := ⟨fun _ => trivial, fun _ => underLL_pure _ (pure_growsI l)⟩
theorem growsI_snoc {L : List (List Int)} {c : Nat} {l : List Int} (h : c = L.length) : List.drop 0 (List.take c (growsI L)) ++ [[dints l]] = growsI (L ++ [l]) := by
  subst h
  rw [drop_take_all (by simp)]
  simp [growsI]
theorem i64s_snoc (l : List Int) (x : Int) : List.drop 0 (List.take l.length (i64s l)) ++ List.drop 0 (List.take 1 [[D.sc (.int .i64 x)]]) = i64s (l ++ [x]) := by
  rw [drop_take_all (by simp [i64s])]
  simp [i64s]
theorem prows_snocP (L : List Pr) (p : Pr) : List.drop 0 (List.take L.length (prows L)) ++ List.drop 0 (List.take 1 [[D.sc (.int .i64 p.1), D.sc (.int .i64 p.2)]]) = prows (L ++ [p]) := by
  rw [drop_take_all (by simp)]
  simp [prows, dpair]
/-! ### Keys -/
theorem keyOf_two {P : Program} {k e : TypeId} {f0 f1 : Field} (hsz : 0 < P.types.size) (hk : P.keyType k = true) (hu : P.underlying k = some (.struct #[f0, f1])) (h0 : f0.type = e) (h1 : f1.type = e) (o0 : f0.offset = 0) (o1 : f1.offset = 1) (n0 : (f0.name != "_") = true) (n1 : (f1.name != "_") = true) (he : P.underlying e = some (.int .i64)) (hce : P.cellsOf e = 1) (hck : P.cellsOf k = 2) (a b : Int) (ha : (Lit.int .i64 a).wf = true) (hb : (Lit.int .i64 b).wf = true) :
    ∃ l, keyOf P k (.agg #[.int .i64 a, .int .i64 b]) = some l := by
  obtain ⟨d, hd⟩ : ∃ d, P.types.size = d + 1 := ⟨P.types.size - 1, by omega⟩
  unfold keyOf
  rw [hu]
  simp only [hk, Value.formed, hu, hck, Bool.true_and]
  rw [if_pos (by simp), hd]
  show ∃ l, (P.keyLits (d + 1 + 1) k [.int .i64 a, .int .i64 b]).map _ = some l
  rw [Program.keyLits.eq_def]
  simp only [hu]
  rw [if_pos ⟨by simp [hck], by simp [n0, n1]⟩]
  simp [List.mapM_cons, h0, h1, o0, o1, hce, Program.keyLits, he, ha, hb]
def keyP (p : Pr) : Value := .agg #[.int .i64 p.1, .int .i64 p.2]
theorem keyP_inj {p q : Pr} (h : keyP p = keyP q) : p = q := by
  unfold keyP at h
  have h := (Value.agg.injEq _ _).mp h
  have h := congrArg Array.toList h
  simp at h
  exact Prod.ext h.1 h.2
/-- The table of some pairs. -/
noncomputable def fPto (L : List Pr) : Nat → Value → Option Value
  | 0 => fun _ => none
  | k + 1 => putF (fPto L k) (keyP (L.getD k (0, 0))) (.int .i64 k)
noncomputable def fP (L : List Pr) : Value → Option Value := fPto L L.length
theorem fPto_app {L : List Pr} {m : Pr} : ∀ k, k ≤ L.length → fPto (L ++ [m]) k = fPto L k
  | 0, _ => rfl
  | k + 1, h => by
    simp only [fPto]
    rw [fPto_app k (by omega), List.getD_eq_getElem?_getD, List.getElem?_append_left (by omega), ← List.getD_eq_getElem?_getD]
theorem fP_put (L : List Pr) (m : Pr) : fP (L ++ [m]) = putF (fP L) (keyP m) (.int .i64 L.length) := by
  unfold fP
  rw [List.length_append, List.length_singleton]
  simp only [fPto]
  rw [fPto_app _ (Nat.le_refl _), List.getD_eq_getElem?_getD, List.getElem?_append_right (Nat.le_refl _), Nat.sub_self]
  rfl
theorem mem_getDP {l : List Pr} {k : Nat} (h : k < l.length) : l.getD k (0, 0) ∈ l := by
  rw [List.getD_eq_getElem?_getD, List.getElem?_eq_getElem h]; simp
theorem fPto_none {L : List Pr} {m : Pr} (hm : ¬ m ∈ L) : ∀ k, k ≤ L.length → fPto L k (keyP m) = none
  | 0, _ => rfl
  | k + 1, h => by
    simp only [fPto, putF]
    rw [if_neg ?_, fPto_none hm k (by omega)]
    intro e
    exact hm (keyP_inj e ▸ mem_getDP (by omega))
theorem fPto_some {L : List Pr} {m : Pr} (hn : L.Nodup) {i : Nat} (hi : i < L.length) (hm : L.getD i (0, 0) = m) : ∀ k, i < k → k ≤ L.length → fPto L k (keyP m) = some (.int .i64 i)
  | 0, h, _ => by omega
  | k + 1, h, hk => by
    simp only [fPto, putF]
    by_cases e : i = k
    · subst e
      rw [hm, if_pos rfl]
    · rw [if_neg ?_, fPto_some hn hi hm k (by omega) (by omega)]
      intro q
      have := keyP_inj q
      rw [← hm, List.getD_eq_getElem?_getD, List.getD_eq_getElem?_getD, List.getElem?_eq_getElem hi, List.getElem?_eq_getElem (by omega)] at this
      exact List.pairwise_iff_getElem.1 hn i k hi (by omega) (by omega) this
theorem idxP_spec {L : List Pr} {m : Pr} (h : m ∈ L) : idxP L m < L.length ∧ L.getD (idxP L m) (0, 0) = m := by
  have h1 := idx_lt h
  refine ⟨h1, ?_⟩
  unfold idxP at h1 ⊢
  rw [List.getD_eq_getElem?_getD, List.getElem?_eq_getElem h1, List.getElem_idxOf h1]
  rfl
theorem fP_some {L : List Pr} {m : Pr} (hn : L.Nodup) (h : m ∈ L) : fP L (keyP m) = some (.int .i64 (idxP L m)) := by
  obtain ⟨h1, h2⟩ := idxP_spec h
  exact fPto_some hn h1 h2 _ h1 (Nat.le_refl _)
theorem fP_none {L : List Pr} {m : Pr} (h : ¬ m ∈ L) : fP L (keyP m) = none := fPto_none h _ (Nat.le_refl _)
def WfP (p : Pr) : Prop := (Lit.int .i64 p.1).wf = true ∧ (Lit.int .i64 p.2).wf = true
theorem wfP_of {p : Pr} (h : 0 ≤ p.1 ∧ p.1 ≤ 1000000000 ∧ 0 ≤ p.2 ∧ p.2 ≤ 1000000000) : WfP p := by
  have h1 : IntKind.min .i64 = -9223372036854775808 := by decide
  have h2 : IntKind.max .i64 = 9223372036854775807 := by decide
  constructor
  · simp only [Lit.wf, Bool.and_eq_true, decide_eq_true_eq]; omega
  · simp only [Lit.wf, Bool.and_eq_true, decide_eq_true_eq]; omega
theorem onceA_len (l : List Int) (n : Int) : l.length ≤ (onceA l n).length ∧ (onceA l n).length ≤ l.length + 1 := by unfold onceA; split <;> simp
/-! ### The maker -/
def nilV : D := .sc (.slice none 0 0)
@[simp] theorem under_nilV {m : Nat} : Under m nilV ↔ True := ⟨fun _ => trivial, fun _ => trivial⟩
@[simp] theorem ren_nilV {ρ : Nat → Nat} : D.ren ρ nilV = nilV := rfl
@[simp] theorem pure_nilV : Pure nilV := trivial
def mbox (n t : Nat) (S : D) : List D := [.mp 0, .own 2 n 0 n, S, .own 3 t 0 t, nilV, nilV, nilV]
end Go.Proofs.Ytihgbinhidppdaa
