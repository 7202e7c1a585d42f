/-
  Lists of numbers below one, over deep values. No statement is proved here.
-/
import Derived.Test.YtgkodbnomgabdaaDoorFn
namespace Go.Proofs.YtgkodbnomgabdaaDoor
open Go.RowKit
set_option linter.unusedSimpArgs false
set_option linter.unusedVariables false
/-- All numbers of a list from 0 to below n. -/
def inB (l : List Int) (n : Nat) : Bool := l.all fun x => decide (0 ≤ x) && decide (x < (n : Int))
theorem inB_get {l : List Int} {n : Nat} (h : inB l n = true) {k : Nat} (hk : k < l.length) : 0 ≤ l[k] ∧ l[k] < (n : Int) := by
  have := List.all_eq_true.1 h _ (List.getElem_mem hk)
  simpa using this
theorem odd_inB (l : List Int) (n : Nat) : (l.any fun x => decide (x < 0) || decide (x ≥ (n : Int))) = !(inB l n) := by
  unfold inB
  induction l with
  | nil => rfl
  | cons x r ih =>
    simp only [List.any_cons, List.all_cons, ih]
    rw [Bool.not_and]
    congr 1
    rw [Bool.eq_iff_iff]
    simp only [Bool.or_eq_true, decide_eq_true_eq, Bool.not_eq_true', Bool.and_eq_false_iff, decide_eq_false_iff_not]
    omega
theorem any_no {α : Type} {p : α → Bool} {l : List α} (h : ∀ j (hj : j < l.length), p l[j] = false) : l.any p = false := by
  rw [List.any_eq_false]
  intro x hx
  obtain ⟨j, hj, rfl⟩ := List.mem_iff_getElem.1 hx
  simp [h j hj]
theorem any_yes {α : Type} {p : α → Bool} {l : List α} {k : Nat} (hk : k < l.length) (h : p l[k] = true) : l.any p = true := List.any_eq_true.2 ⟨_, List.getElem_mem hk, h⟩
theorem all_no {α : Type} {p : α → Bool} {l : List α} {k : Nat} (hk : k < l.length) (h : p l[k] = false) : l.all p = false := by
  rw [← Bool.not_eq_true, List.all_eq_true]
  exact fun q => by simp [q _ (List.getElem_mem hk)] at h
theorem all_yes {α : Type} {p : α → Bool} {l : List α} (h : ∀ j (hj : j < l.length), p l[j] = true) : l.all p = true := by
  rw [List.all_eq_true]
  intro x hx
  obtain ⟨j, hj, rfl⟩ := List.mem_iff_getElem.1 hx
  exact h j hj
theorem grid_at {g : List (List Int)} {z k : Nat} (hz : z = k) (h : k < g.length) : (g.map fun l => [dints l])[z]? = some [dints g[k]] := one_at (c := dints) hz h
theorem ints_at {l : List Int} {z k : Nat} (hz : z = k) (h : k < l.length) : (l.map fun n => [D.sc (.int .i64 n)])[z]? = some [.sc (.int .i64 l[k])] := one_at (c := fun n => .sc (.int .i64 n)) hz h
def c11_1 : PC := .seq (.seq (.ops [qm 6 5,qm 7 0,q 8 (.len (.tmp 7)),q 9 (.bin .lss (.tmp 6) (.tmp 8))] false) (.cond (.tmp 9) (.skip) (.exit 0))) (.seq (.block 1 (.seq (.ops [qm 12 0,qm 13 5,q 14 (.iaddr 1 (.tmp 12) (.tmp 13)),q 15 (.load1 (.tmp 14)),q 16 (.bin .lss (.tmp 15) (.const (.int .i64 0))),qm 17 16,⟨some 18,.move (.tmp 0),some (17,false),0⟩,⟨some 19,.move (.tmp 5),some (17,false),0⟩,⟨some 20,.iaddr 1 (.tmp 18) (.tmp 19),some (17,false),0⟩,⟨some 21,.load1 (.tmp 20),some (17,false),0⟩,⟨some 22,.move (.tmp 1),some (17,false),0⟩,⟨some 23,.bin .geq (.tmp 21) (.tmp 22),some (17,false),0⟩,q 24 (.pick (.tmp 17) (.const (.bool true)) (.tmp 23))] false) (.cond (.tmp 24) (.seq (.ops [q 4 (.move (.const (.bool false)))] false) (.ret)) (.skip)))) (.ops [qm 10 5,q 11 (.bin .add (.tmp 10) (.const (.int .i64 1))),qm 5 11] false))
def c11 : PC := .seq (.ops [q 4 (.move (.const (.bool false)))] false) (.seq (.seq (.ops [q 5 (.move (.const (.int .i64 0)))] false) (.block 0 (.loop c11_1))) (.seq (.ops [q 4 (.move (.const (.bool true)))] false) (.ret)))
set_option maxRecDepth 100000 in
theorem c11_ok : FunOK Tryd.prog 11 25 [.tmp 4] c11 := ⟨⟨Tryd.f11, Tryd.func11, rfl, by kernel_rfl, rfl, by kernel_rfl⟩⟩
theorem ref_In (l : List Int) (hl : l.length ≤ 9223372036854775807) (n : Nat) : PCall Tryd.prog 11 [dints l, .sc (.int .i64 n)] (.sc (.bool (inB l n))) := by
  refine pcall_intro c11_ok (by simp) (by simp [PureL, Pure, pure_dints]) ?_ (by simp [Pure])
  unfold dints
  (apply rd_sound; focus (repeat' constructor))
  ((conv=>whnf);repeat(refine⟨rfl,?_⟩;conv=>whnf))
  have fin : ∀ {b : Bool}, b = inB l n → Deep [] (.sc (.bool b)) (.sc (.bool (inB l n))) := fun h => h ▸ .refl _
  refine pwp_for [0, 1] (fun k : Nat => [(5, .sc (.int .i64 k))]) (fun _ => []) (fun k => k ≤ l.length ∧ ∀ j (hj : j < k) (hl : j < l.length), 0 ≤ l[j] ∧ l[j] < (n : Int)) (fun k => l.length - k) 0 ?_
  ((conv=>whnf);repeat(refine⟨rfl,?_⟩;conv=>whnf))
  refine ⟨⟨by omega, fun j hj => by omega⟩, by (repeat' (first | exact trivial | refine And.intro rfl ?_)), rfl, ?_⟩
  rintro k ⟨hk, hall⟩
  ((conv=>whnf);repeat(refine⟨rfl,?_⟩;conv=>whnf))
  (apply rd_sound; focus (repeat' constructor))
  ((conv=>whnf);repeat(refine⟨rfl,?_⟩;conv=>whnf))
  rw [List.length_map]
  (refine ifK_split (fun h => ?_) (fun h => ?_) <;> (rw [h]; ((conv=>whnf);repeat(refine⟨rfl,?_⟩;conv=>whnf))))
  · have hk' : k < l.length := by ((try simp only[oo,reduceCtorEq]at*)<;>omega)
    refine ⟨by omega, _, ints_at (k := k) (by omega) hk', ?_⟩
    ((conv=>whnf);repeat(refine⟨rfl,?_⟩;conv=>whnf))
    (refine ifK_split (fun h1 => ?_) (fun h1 => ?_) <;> (rw [h1]; ((conv=>whnf);repeat(refine⟨rfl,?_⟩;conv=>whnf))))
    · exact fin (all_no hk' (by ((try simp only[oo,reduceCtorEq]at*)<;>omega))).symm
    · refine ⟨by omega, _, ints_at (k := k) (by omega) hk', ?_⟩
      ((conv=>whnf);repeat(refine⟨rfl,?_⟩;conv=>whnf))
      (refine ifK_split (fun h2 => ?_) (fun h2 => ?_) <;> (rw [h2]; ((conv=>whnf);repeat(refine⟨rfl,?_⟩;conv=>whnf))))
      · exact fin (all_no hk' (by ((try simp only[oo,reduceCtorEq]at*)<;>omega))).symm
      · (refine .inl ⟨by (unfold InR; rw [IntKind.wrap_i64]; omega), ?_⟩; ((conv=>whnf);repeat(refine⟨rfl,?_⟩;conv=>whnf)))
        refine ⟨k + 1, ⟨by omega, fun j hj hl => ?_⟩, by dsimp only; omega, leB_envH (by (repeat' (first | exact trivial | refine And.intro rfl ?_))) rfl⟩
        by_cases e : j = k
        · subst e; ((try simp only[oo,reduceCtorEq]at*)<;>omega)
        · exact hall j (by omega) hl
  · have hk' : ¬ k < l.length := by ((try simp only[oo,reduceCtorEq]at*)<;>omega)
    exact fin (all_yes fun j hj => by have := hall j (by omega) hj; simpa using this).symm
end Go.Proofs.YtgkodbnomgabdaaDoor
