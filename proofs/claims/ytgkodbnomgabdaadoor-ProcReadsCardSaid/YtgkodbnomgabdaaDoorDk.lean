/-
  Data as deep values: numbers, lists, formulas. No statement is proved here.
-/
import Derived.Test.YtgkodbnomgabdaaDoorDB
import Derived.Test.YtgkodbnomgabdaaDoorSlim
namespace Go.Proofs.YtgkodbnomgabdaaDoor
open Go.RowKit

def dint (n : Int) : D := .sc (.int .i64 n)
def dbool (b : Bool) : D := .sc (.bool b)
def dints (l : List Int) : D := .lst 1 (l.map fun n => [.sc (.int .i64 n)])
def dgrid (g : List (List Int)) : D := .lst 1 (g.map fun l => [dints l])

theorem pureLL_map {α : Type} (f : α → List D) (h : ∀ a, PureL (f a)) : ∀ l : List α, PureLL (l.map f)
  | [] => by simp only [List.map_nil, PureLL]
  | a :: l => by simp only [List.map_cons, PureLL]; exact ⟨h a, pureLL_map f h l⟩
theorem pureLL_mem {xs : List (List D)} : PureLL xs ↔ ∀ x ∈ xs, PureL x := by
  induction xs with
  | nil => simp [PureLL]
  | cons x r ih => simp [PureLL, ih]
theorem pure_dints (l : List Int) : Pure (dints l) := by
  simp only [dints, Pure]; exact pureLL_map _ (fun n => by simp [PureL, Pure]) l
theorem pure_dgrid (g : List (List Int)) : Pure (dgrid g) := by
  simp only [dgrid, Pure]; exact pureLL_map _ (fun l => by simp [PureL, pure_dints]) g

/-! ### Formulas -/
mutual
def dcells : Tree → List D
  | .node k n ks => [.sc (.int .i64 k), .sc (.int .i64 n), .lst 3 (drows ks)]
def drows : List Tree → List (List D)
  | [] => []
  | t :: r => dcells t :: drows r
end
/-- A formula's cells; the formula. -/
def drow (t : Tree) : List D := [.sc (.int .i64 t.kind), .sc (.int .i64 t.num), .lst 3 (t.kids.map dcells)]
def dtree (t : Tree) : D := .agg (drow t)
theorem drows_map : ∀ l, drows l = l.map dcells
  | [] => by simp only [drows, List.map_nil]
  | t :: r => by simp only [drows, List.map_cons, drows_map r]
theorem dcells_eq (t : Tree) : dcells t = drow t := by
  cases t; simp only [dcells, drows_map]; rfl
mutual
theorem pure_dcells : ∀ t : Tree, PureL (dcells t)
  | .node k n ks => by simp only [dcells, PureL, Pure, true_and, and_true]; exact pure_drows ks
theorem pure_drows : ∀ l : List Tree, PureLL (drows l)
  | [] => by simp only [drows, PureLL]
  | t :: r => by simp only [drows, PureLL]; exact ⟨pure_dcells t, pure_drows r⟩
end
theorem pure_dtree (t : Tree) : Pure (dtree t) := by simp only [dtree, Pure]; rw [← dcells_eq]; exact pure_dcells t
theorem deepL_refl {H : List AObj} : ∀ l : List D, DeepL H l l
  | [] => .nil
  | d :: r => .cons _ _ _ _ (.refl d) (deepL_refl r)
theorem deepLL_refl {H : List AObj} : ∀ l : List (List D), DeepLL H l l
  | [] => .nil
  | d :: r => .cons _ _ _ _ (deepL_refl d) (deepLL_refl r)
theorem deep_row {H : List AObj} (t : Tree) : DeepL H (drow t) (dcells t) := by rw [dcells_eq]; exact deepL_refl _
/-- A formula all of whose nodes have kids that can be counted. -/
inductive Small : Tree → Prop where
  | mk (t : Tree) (h : t.width ≤ 9223372036854775807) (k : ∀ j, j < t.width → Small (t.kid j)) : Small t
theorem Small.width {t : Tree} (h : Small t) : t.kids.length ≤ 9223372036854775807 := by cases h; assumption
theorem Small.kid {t : Tree} (h : Small t) {j : Nat} (hj : j < t.width) : Small (t.kid j) := by cases h with | mk _ _ k => exact k j hj
theorem wf_small : ∀ t : Tree, t.wf lKids → Small t := by
  intro t
  induction t using Tree.ind with
  | h t ih =>
    intro hw
    refine .mk t ?_ fun j hj => ih j hj (wf_kid hw hj)
    have := node_arity ((wf_iff _ _).1 hw).1
    omega
theorem deepMLL_eq {m : Nat → Bool} {H : List AObj} {xs ys : List (List D)} (h : xs = ys) : DeepMLL m H xs ys := h ▸ .refl xs
theorem deepML_eq {m : Nat → Bool} {H : List AObj} {xs ys : List D} (h : xs = ys) : DeepML m H xs ys := h ▸ .refl xs
theorem pure_drow (t : Tree) : PureL (drow t) := by rw [← dcells_eq]; exact pure_dcells t
theorem pure_kids (t : Tree) : PureLL (t.kids.map dcells) := pureLL_map _ pure_dcells _
/-- One more of a slice that is made. -/
theorem take_snoc {α : Type} {β : Type} (f : α → β) {l : List α} {k : Nat} {a : α} (h : l[k]? = some a) : List.drop 0 (List.take k ((l.take k).map f)) ++ [f a] = (l.take (k + 1)).map f := by
  rw [List.drop_zero, List.take_of_length_le (by simp; omega), List.take_add_one, h]
  simp
theorem kid_get? {t : Tree} {j : Nat} (h : j < t.width) : t.kids[j]? = some (t.kid j) := by rw [Tree.kid_get h, List.getElem?_eq_getElem h]
theorem take_at {α : Type} (f : Tree → α) {t : Tree} {j : Nat} (h : j < t.width) : ((t.kids.take t.width).map f)[j]? = some (f (t.kid j)) := by
  rw [Tree.width, List.take_length, List.getElem?_map, kid_get? h]; rfl
theorem kid_at {t : Tree} {j : Nat} (h : j < t.width) : (t.kids.map dcells)[j]? = some (drow (t.kid j)) := by
  rw [List.getElem?_map, Tree.kid_get h, List.getElem?_eq_getElem h, ← dcells_eq]; rfl
theorem deep_eq {H : List AObj} {d e : D} (h : d = e) : Deep H d e := h ▸ .refl d
theorem deep_as {H : List AObj} {d : D} {t u : Tree} (h : t = u) (k : Deep H d (dtree u)) : Deep H d (dtree t) := h ▸ k
end Go.Proofs.YtgkodbnomgabdaaDoor
