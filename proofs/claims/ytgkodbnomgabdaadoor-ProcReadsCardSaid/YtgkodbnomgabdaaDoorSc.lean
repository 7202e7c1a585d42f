/-
  Graphs over deep values: checks, what comes from some nodes, the turned graph. No statement is proved here.
-/
import Derived.Test.YtgkodbnomgabdaaDoorOg
import Derived.Test.YtgkodbnomgabdaaDoorWo0
namespace Go.Proofs.YtgkodbnomgabdaaDoor
open Go.RowKit
set_option linter.unusedSimpArgs false
set_option linter.unusedVariables false
/-- What is wrong with a graph. -/
def chkG (g : List (List Int)) : Int := if 20000 < g.length then 2 else if (g.any fun l => !(inB l g.length)) = true then 1 else 0
theorem chkG_zero {g : List (List Int)} : chkG g = 0 ↔ g.length ≤ 20000 ∧ ∀ l ∈ g, inB l g.length = true := by
  unfold chkG
  split
  · constructor
    · intro h; exact absurd h (by decide)
    · intro h; omega
  · split
    · rename_i h
      rw [List.any_eq_true] at h
      obtain ⟨l, h1, h2⟩ := h
      constructor
      · intro h; exact absurd h (by decide)
      · intro h; rw [h.2 l h1] at h2; cases h2
    · rename_i h1 h
      rw [Bool.not_eq_true, List.any_eq_false] at h
      exact ⟨fun _ => ⟨by omega, fun l hl => by simpa using h l hl⟩, fun _ => rfl⟩
/-- Each list can be counted. -/
structure FitsG (g : List (List Int)) : Prop where
  len : g.length ≤ 17592186043904
  each : ∀ l ∈ g, l.length ≤ 17592186043904
theorem FitsG.at {g : List (List Int)} (h : FitsG g) (i : Nat) : (g.getD i []).length ≤ 17592186043904 := by
  rw [List.getD_eq_getElem?_getD]
  cases e : g[i]? with
  | none => simp
  | some l => exact h.each l (List.mem_of_getElem? e)
theorem gridD_at {g : List (List Int)} {z k : Nat} (hz : z = k) (h : k < g.length) : (g.map fun l => [dints l])[z]? = some [dints (g.getD k [])] := by
  subst hz
  rw [List.getElem?_map, getD_at h]; rfl
theorem intsD_at {l : List Int} {z k : Nat} (hz : z = k) (h : k < l.length) : (l.map fun n => [D.sc (.int .i64 n)])[z]? = some [.sc (.int .i64 (l.getD k 0))] := by
  rw [ints_at hz h, List.getD_eq_getElem?_getD, List.getElem?_eq_getElem h]; rfl
theorem inB_getD {l : List Int} {n : Nat} (h : inB l n = true) {k : Nat} (hk : k < l.length) : 0 ≤ l.getD k 0 ∧ l.getD k 0 < (n : Int) := by
  rw [List.getD_eq_getElem?_getD, List.getElem?_eq_getElem hk]
  exact inB_get h hk
theorem inB_row {g : List (List Int)} {n : Nat} (h : ∀ l ∈ g, inB l n = true) (k : Nat) : inB (g.getD k []) n = true := by
  rw [List.getD_eq_getElem?_getD]
  cases e : g[k]? with
  | none => rfl
  | some l => exact h l (List.mem_of_getElem? e)
def c48 : PC := .seq (.ops [q 3 (.move (.const (.bool false)))] false) (.seq (.ops [qm 4 0,q 5 (.bin .lss (.tmp 4) (.const (.int .i64 0))),qm 6 5,⟨some 7,.move (.tmp 0),some (6,false),0⟩,⟨some 8,.load1 (.tmp 1),some (6,false),0⟩,⟨some 9,.len (.tmp 8),some (6,false),0⟩,⟨some 10,.bin .geq (.tmp 7) (.tmp 9),some (6,false),0⟩,q 11 (.pick (.tmp 6) (.const (.bool true)) (.tmp 10)),qm 3 11] false) (.ret))
set_option maxRecDepth 100000 in
theorem c48_ok : FunOK Tryd.prog 48 12 [.tmp 3] c48 := ⟨⟨Tryd.f48, Tryd.func48, rfl, by kernel_rfl, rfl, by kernel_rfl⟩⟩
def c42 : PC := .seq (.ops [q 2 (.box (.tmp 0)),q 4 (.move (.const (.bool false)))] false) (.seq (.ops [qm 5 1,q 6 (.mkfn (.func 48) [] [(.tmp 2)]),q 7 (.call 47 [(.tmp 5), (.tmp 6)]),qm 4 7] false) (.ret))
set_option maxRecDepth 100000 in
theorem c42_ok : FunOK Tryd.prog 42 8 [.tmp 4] c42 := ⟨⟨Tryd.f42, Tryd.func42, rfl, by kernel_rfl, rfl, by kernel_rfl⟩⟩
def c41_1 : PC := .seq (.ops [q 11 (.bin .lss (.tmp 10) (.tmp 9))] false) (.seq (.cond (.tmp 11) (.skip) (.exit 0)) (.seq (.block 1 (.seq (.ops [q 12 (.iaddr 1 (.tmp 8) (.tmp 10)),q 13 (.load1 (.tmp 12)),qm 4 13] false) (.seq (.ops [qm 14 0,qm 15 4,q 16 (.call 42 [(.tmp 14), (.tmp 15)])] false) (.cond (.tmp 16) (.seq (.ops [q 2 (.move (.const (.int .i64 1)))] false) (.ret)) (.skip))))) (.ops [q 17 (.bin .add (.tmp 10) (.const (.int .i64 1))),qm 10 17] false)))
def c41 : PC := .seq (.ops [q 2 (.move (.const (.int .i64 0)))] false) (.seq (.seq (.ops [qm 5 0,q 6 (.len (.tmp 5)),q 7 (.bin .gtr (.tmp 6) (.const (.int .i64 20000)))] false) (.cond (.tmp 7) (.seq (.ops [q 2 (.move (.const (.int .i64 2)))] false) (.ret)) (.skip))) (.seq (.seq (.ops [qm 8 0,q 9 (.len (.tmp 8)),q 10 (.move (.const (.int .i64 0)))] false) (.block 0 (.loop c41_1))) (.seq (.ops [q 2 (.move (.const (.int .i64 0)))] false) (.ret))))
set_option maxRecDepth 100000 in
theorem c41_ok : FunOK Tryd.prog 41 18 [.tmp 2] c41 := ⟨⟨Tryd.f41, Tryd.func41, rfl, by kernel_rfl, rfl, by kernel_rfl⟩⟩
theorem scc_odd1 (g : List (List Int)) (x : Int) : PCall Tryd.prog 48 [.sc (.int .i64 x), .ipt [dgrid g]] (.sc (.bool (decide (x < 0) || decide (x ≥ (g.length : Int))))) := by
  refine pcall_intro c48_ok (by simp) (by simp [PureL, Pure, pure_dgrid]) ?_ (by simp [Pure])
  (apply rd_sound; focus (repeat' constructor))
  ((conv=>whnf);repeat(refine⟨rfl,?_⟩;conv=>whnf))
  (refine ifK_split (fun h => ?_) (fun h => ?_) <;> (rw [h]; ((conv=>whnf);repeat(refine⟨rfl,?_⟩;conv=>whnf))))
  · exact deep_eq (by simp)
  · rw [List.length_map]
    exact deep_eq (by simp)
theorem scc_odd (g : List (List Int)) (l : List Int) (hl : l.length ≤ 9223372036854775807) : PCall Tryd.prog 42 [dgrid g, dints l] (.sc (.bool !(inB l g.length))) := by
  refine pcall_intro c42_ok (by simp) (by simp [PureL, Pure, pure_dints, pure_dgrid]) ?_ (by simp [Pure])
  (apply rd_sound; focus (repeat' constructor))
  ((conv=>whnf);repeat(refine⟨rfl,?_⟩;conv=>whnf))
  (refine .inr (.inl ⟨_, _, (by (repeat' (first | exact Deep.refl _ | exact Deep.none _ | exact deep_row _ | exact DeepL.nil | exact DeepLL.nil | refine Deep.agg _ _ ?_ | refine Deep.tup _ _ ?_ | refine Deep.own _ _ _ _ _ _ _ _ rfl ?_ | refine Deep.loc _ _ _ _ _ rfl ?_ | refine Deep.ifc _ _ _ ?_ | refine Deep.fn _ _ _ _ _ ?_ ?_ | refine DeepL.cons _ _ _ _ ?_ ?_ | refine DeepLL.cons _ _ _ _ ?_ ?_ | exact deepLL_refl _))), (containsF_int (fun n => .sc (.int .i64 n)) (fun a => by simp [Pure]) l hl (fun x => decide (x < 0) || decide (x ≥ (g.length : Int))) 48 [.ipt [dgrid g]] (by simp [PureL, Pure, pure_dgrid]) fun a _ => scc_odd1 g a), rfl, ?_⟩); ((conv=>whnf);repeat(refine⟨rfl,?_⟩;conv=>whnf)))
  rw [odd_inB]
  exact .refl _
theorem scc_Check (g : List (List Int)) (hg : FitsG g) : PCall Tryd.prog 41 [dgrid g] (.sc (.int .i64 (chkG g))) := by
  have b1 := hg.len
  refine pcall_intro c41_ok (by simp) (by simp [PureL, Pure, pure_dgrid]) ?_ (by simp [Pure])
  unfold dgrid
  (apply rd_sound; focus (repeat' constructor))
  ((conv=>whnf);repeat(refine⟨rfl,?_⟩;conv=>whnf))
  rw [List.length_map]
  have fin : ∀ {H : List AObj} {z : Int}, z = chkG g → Deep H (.sc (.int .i64 z)) (.sc (.int .i64 (chkG g))) := fun h => h ▸ .refl _
  (refine ifK_split (fun h1 => ?_) (fun h1 => ?_) <;> (rw [h1]; ((conv=>whnf);repeat(refine⟨rfl,?_⟩;conv=>whnf))))
  · exact fin (by unfold chkG; rw [if_pos (by ((try simp only[oo,reduceCtorEq]at*)<;>omega))])
  have h1 : ¬ 20000 < g.length := by ((try simp only[oo,reduceCtorEq]at*)<;>omega)
  rw [List.length_map]
  refine pwp_for [0, 8, 9] (fun k : Nat => [(10, .sc (.int .i64 k))]) (fun _ => []) (fun k => k ≤ g.length ∧ ∀ j (hj : j < k) (hl : j < g.length), (!(inB g[j] g.length)) = false) (fun k => g.length - k) 0 ?_
  ((conv=>whnf);repeat(refine⟨rfl,?_⟩;conv=>whnf))
  refine ⟨⟨by omega, fun j hj => by omega⟩, by (repeat' (first | exact trivial | refine And.intro rfl ?_)), rfl, ?_⟩
  rintro k ⟨hk, hall⟩
  ((conv=>whnf);repeat(refine⟨rfl,?_⟩;conv=>whnf))
  (apply rd_sound; focus (repeat' constructor))
  ((conv=>whnf);repeat(refine⟨rfl,?_⟩;conv=>whnf))
  (refine ifK_split (fun h2 => ?_) (fun h2 => ?_) <;> (rw [h2]; ((conv=>whnf);repeat(refine⟨rfl,?_⟩;conv=>whnf))))
  · have hk' : k < g.length := by ((try simp only[oo,reduceCtorEq]at*)<;>omega)
    refine ⟨by omega, _, grid_at (k := k) (by omega) hk', ?_⟩
    ((conv=>whnf);repeat(refine⟨rfl,?_⟩;conv=>whnf))
    (refine .inl ⟨_, (scc_odd g g[k] (by have := hg.each _ (List.getElem_mem hk'); omega)), ?_⟩; ((conv=>whnf);repeat(refine⟨rfl,?_⟩;conv=>whnf)))
    (refine ifK_split (fun h3 => ?_) (fun h3 => ?_) <;> (rw [h3]; ((conv=>whnf);repeat(refine⟨rfl,?_⟩;conv=>whnf))))
    · exact fin (by unfold chkG; rw [if_neg h1, if_pos (any_yes hk' h3)])
    · (refine .inl ⟨by (unfold InR; rw [IntKind.wrap_i64]; omega), ?_⟩; ((conv=>whnf);repeat(refine⟨rfl,?_⟩;conv=>whnf)))
      refine ⟨k + 1, ⟨by omega, fun j hj hl => ?_⟩, by dsimp only; omega, leB_envH (by (repeat' (first | exact trivial | refine And.intro rfl ?_))) rfl⟩
      by_cases e : j = k
      · subst e; exact h3
      · exact hall j (by omega) hl
  · have hk' : ¬ k < g.length := by ((try simp only[oo,reduceCtorEq]at*)<;>omega)
    exact fin (by unfold chkG; rw [if_neg h1, if_neg (by rw [any_no fun j hj => hall j (by omega) hj]; simp)])
end Go.Proofs.YtgkodbnomgabdaaDoor
