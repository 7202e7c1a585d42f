/-
  ltl.fault, over deep values. No statement is proved here.
-/
import Derived.Test.YtjbkbjedlgkibaaDoorIs
namespace Go.Proofs.YtjbkbjedlgkibaaDoor
open Go.RowKit
set_option linter.unusedSimpArgs false
set_option linter.unusedVariables false
def errV (c : Int) (a : Nat) (g : Nat) : D := .ifc 39 (.ipt [.sc (.int .i64 c), .sc (.int .i64 a), .gv g])
theorem pure_errV (c : Int) (a g : Nat) : Pure (errV c a g) := by simp [errV, Pure, PureL]
def c9 : PC := .seq (.ops [q 4 (.move (.const (.nilIface)))] false) (.seq (.ops [q 5 (.move (.const (.int .i64 3)))] false) (.seq (.block 0 (.seq (.ops [qm 7 0,q 8 (.load1 (.global 1)),q 9 (.call 21 [(.tmp 7), (.tmp 8)]),qm 6 9] false) (.cond (.tmp 6) (.ops [q 5 (.move (.const (.int .i64 5)))] false) (.seq (.ops [qm 11 0,q 12 (.load1 (.global 2)),q 13 (.call 21 [(.tmp 11), (.tmp 12)]),qm 10 13] false) (.cond (.tmp 10) (.ops [q 5 (.move (.const (.int .i64 4)))] false) (.skip)))))) (.seq (.ops [qm 14 5,qm 15 1,qm 16 0,q 17 (.build [(.int .i64 0), (.int .i64 0), (.nilIface)] [(0, 1, (.tmp 14)), (1, 1, (.tmp 15)), (2, 1, (.tmp 16))]),q 18 (.box (.tmp 17)),q 19 (.mkif 39 (.tmp 18)),qm 4 19] false) (.ret))))
set_option maxRecDepth 100000 in
theorem c9_ok : FunOK Tryd.prog 9 20 [.tmp 4] c9 := ⟨⟨Tryd.f9, Tryd.func9, rfl, by kernel_rfl, rfl, by kernel_rfl⟩⟩
theorem is_in : ∀ g h : Nat, (g = 0 ∨ g = 1 ∨ g = 2) → (h = 0 ∨ h = 1 ∨ h = 2) → PCall Tryd.prog 21 [.gv g, .gv h] (.sc (.bool (decide (g = h)))) := by
  rintro g h (rfl | rfl | rfl) (rfl | rfl | rfl) <;> exact errors_Is (by unfold theSents; repeat (first | exact List.Mem.head _ | apply List.Mem.tail)) (by unfold theSents; repeat (first | exact List.Mem.head _ | apply List.Mem.tail)) (by first | exact .inl rfl | exact .inr (by intro e; injection e with e; exact absurd e (by decide)))
theorem ltl_errStand (a : Nat) : PCall Tryd.prog 9 [.gv 0, .sc (.int .i64 a)] (errV 3 a 0) := by
  have h1 := is_in 0 1 (by simp) (by simp)
  have h2 := is_in 0 2 (by simp) (by simp)
  refine pcall_intro c9_ok (by simp) (by simp [PureL, Pure]) ?_ (pure_errV _ _ _)
  (apply rd_sound; focus (repeat' constructor))
  ((conv=>whnf);repeat(refine⟨rfl,?_⟩;conv=>whnf))
  (refine .inl ⟨_, h1, ?_⟩; ((conv=>whnf);repeat(refine⟨rfl,?_⟩;conv=>whnf)))
  first | ((refine .inl ⟨_, h2, ?_⟩; ((conv=>whnf);repeat(refine⟨rfl,?_⟩;conv=>whnf))); (repeat' (first | exact Deep.refl _ | exact Deep.none _ | exact deep_row _ | exact DeepL.nil | exact DeepLL.nil | refine Deep.agg _ _ ?_ | refine Deep.tup _ _ ?_ | refine Deep.own _ _ _ _ _ _ _ _ rfl ?_ | refine Deep.loc _ _ _ _ _ rfl ?_ | refine Deep.ifc _ _ _ ?_ | refine Deep.fn _ _ _ _ _ ?_ ?_ | refine DeepL.cons _ _ _ _ ?_ ?_ | refine DeepLL.cons _ _ _ _ ?_ ?_ | exact deepLL_refl _)); done) | ((repeat' (first | exact Deep.refl _ | exact Deep.none _ | exact deep_row _ | exact DeepL.nil | exact DeepLL.nil | refine Deep.agg _ _ ?_ | refine Deep.tup _ _ ?_ | refine Deep.own _ _ _ _ _ _ _ _ rfl ?_ | refine Deep.loc _ _ _ _ _ rfl ?_ | refine Deep.ifc _ _ _ ?_ | refine Deep.fn _ _ _ _ _ ?_ ?_ | refine DeepL.cons _ _ _ _ ?_ ?_ | refine DeepLL.cons _ _ _ _ ?_ ?_ | exact deepLL_refl _)); done)
theorem ltl_errOpen (a : Nat) : PCall Tryd.prog 9 [.gv 1, .sc (.int .i64 a)] (errV 5 a 1) := by
  have h1 := is_in 1 1 (by simp) (by simp)
  have h2 := is_in 1 2 (by simp) (by simp)
  refine pcall_intro c9_ok (by simp) (by simp [PureL, Pure]) ?_ (pure_errV _ _ _)
  (apply rd_sound; focus (repeat' constructor))
  ((conv=>whnf);repeat(refine⟨rfl,?_⟩;conv=>whnf))
  (refine .inl ⟨_, h1, ?_⟩; ((conv=>whnf);repeat(refine⟨rfl,?_⟩;conv=>whnf)))
  first | ((refine .inl ⟨_, h2, ?_⟩; ((conv=>whnf);repeat(refine⟨rfl,?_⟩;conv=>whnf))); (repeat' (first | exact Deep.refl _ | exact Deep.none _ | exact deep_row _ | exact DeepL.nil | exact DeepLL.nil | refine Deep.agg _ _ ?_ | refine Deep.tup _ _ ?_ | refine Deep.own _ _ _ _ _ _ _ _ rfl ?_ | refine Deep.loc _ _ _ _ _ rfl ?_ | refine Deep.ifc _ _ _ ?_ | refine Deep.fn _ _ _ _ _ ?_ ?_ | refine DeepL.cons _ _ _ _ ?_ ?_ | refine DeepLL.cons _ _ _ _ ?_ ?_ | exact deepLL_refl _)); done) | ((repeat' (first | exact Deep.refl _ | exact Deep.none _ | exact deep_row _ | exact DeepL.nil | exact DeepLL.nil | refine Deep.agg _ _ ?_ | refine Deep.tup _ _ ?_ | refine Deep.own _ _ _ _ _ _ _ _ rfl ?_ | refine Deep.loc _ _ _ _ _ rfl ?_ | refine Deep.ifc _ _ _ ?_ | refine Deep.fn _ _ _ _ _ ?_ ?_ | refine DeepL.cons _ _ _ _ ?_ ?_ | refine DeepLL.cons _ _ _ _ ?_ ?_ | exact deepLL_refl _)); done)
theorem ltl_errWord (a : Nat) : PCall Tryd.prog 9 [.gv 2, .sc (.int .i64 a)] (errV 4 a 2) := by
  have h1 := is_in 2 1 (by simp) (by simp)
  have h2 := is_in 2 2 (by simp) (by simp)
  refine pcall_intro c9_ok (by simp) (by simp [PureL, Pure]) ?_ (pure_errV _ _ _)
  (apply rd_sound; focus (repeat' constructor))
  ((conv=>whnf);repeat(refine⟨rfl,?_⟩;conv=>whnf))
  (refine .inl ⟨_, h1, ?_⟩; ((conv=>whnf);repeat(refine⟨rfl,?_⟩;conv=>whnf)))
  first | ((refine .inl ⟨_, h2, ?_⟩; ((conv=>whnf);repeat(refine⟨rfl,?_⟩;conv=>whnf))); (repeat' (first | exact Deep.refl _ | exact Deep.none _ | exact deep_row _ | exact DeepL.nil | exact DeepLL.nil | refine Deep.agg _ _ ?_ | refine Deep.tup _ _ ?_ | refine Deep.own _ _ _ _ _ _ _ _ rfl ?_ | refine Deep.loc _ _ _ _ _ rfl ?_ | refine Deep.ifc _ _ _ ?_ | refine Deep.fn _ _ _ _ _ ?_ ?_ | refine DeepL.cons _ _ _ _ ?_ ?_ | refine DeepLL.cons _ _ _ _ ?_ ?_ | exact deepLL_refl _)); done) | ((repeat' (first | exact Deep.refl _ | exact Deep.none _ | exact deep_row _ | exact DeepL.nil | exact DeepLL.nil | refine Deep.agg _ _ ?_ | refine Deep.tup _ _ ?_ | refine Deep.own _ _ _ _ _ _ _ _ rfl ?_ | refine Deep.loc _ _ _ _ _ rfl ?_ | refine Deep.ifc _ _ _ ?_ | refine Deep.fn _ _ _ _ _ ?_ ?_ | refine DeepL.cons _ _ _ _ ?_ ?_ | refine DeepLL.cons _ _ _ _ ?_ ?_ | exact deepLL_refl _)); done)
end Go.Proofs.YtjbkbjedlgkibaaDoor
