/-
  The makers of formulas, over deep values. No statement is proved here.
-/
import Derived.Test.YtihgbinhidppdaaDk2
import Derived.Test.YtihgbinhidppdaaProg
namespace Go.Proofs.Ytihgbinhidppdaa
open Go.RowKit
set_option linter.unusedSimpArgs false
theorem small_mk0 (k n : Int) : Small (mk0 k n) := .mk _ (by simp [mk0, Tree.width, Tree.kids]) fun j hj => by simp [mk0, Tree.width, Tree.kids] at hj
theorem small_mk1 {k : Int} {a : Tree} (h : Small a) : Small (mk1 k a) := .mk _ (by simp [mk1, Tree.width, Tree.kids]) fun j hj => by
  simp [mk1, Tree.width, Tree.kids] at hj
  subst hj
  exact h
theorem small_mk2 {k : Int} {a b : Tree} (h : Small a) (h' : Small b) : Small (mk2 k a b) := .mk _ (by simp [mk2, Tree.width, Tree.kids]) fun j hj => by
  simp [mk2, Tree.width, Tree.kids] at hj
  match j with
  | 0 => exact h
  | 1 => exact h'
theorem small_ite (p : Prop) [Decidable p] {a b : Tree} (h : Small a) (k : Small b) : Small (if p then a else b) := by split <;> assumption
def c45 : PC := .seq (.ops [⟨some 4,.box (.tmp 1),none,0⟩,
 ⟨some 5,.box (.tmp 2),none,0⟩,
 ⟨some 6,.alloc [(.int .i64 0), (.int .i64 0), (.slice none 0 0)],none,0⟩] false) (.seq (.ops [⟨some 7,.move (.tmp 0),none,0⟩,
 ⟨some 8,.loadA 3 (.tmp 4),none,0⟩,
 ⟨some 9,.loadA 3 (.tmp 5),none,0⟩,
 ⟨some 10,.bslice 3 2 [(.tmp 8), (.tmp 9)],none,0⟩,
 ⟨some 11,.build [(.int .i64 0), (.int .i64 0), (.slice none 0 0)] [(0, 1, (.tmp 7)), (2, 1, (.tmp 10))],none,0⟩,
 ⟨none,.store 3 (.tmp 6) (.tmp 11),none,0⟩] false) (.ret))
set_option maxRecDepth 100000 in
theorem c45_ok : FunOK Try.prog 45 12 [.agg 6 3] c45 := ⟨⟨Try.f45, Try.func45, rfl, by kernel_rfl, rfl, by kernel_rfl⟩⟩
theorem push_two (k : Int) (a b : Tree) : PCall Try.prog 45 [.sc (.int .i64 k), dtree a, dtree b] (dtree (mk2 k a b)) := by
  refine pcall_intro c45_ok (by simp) (by simp [PureL, Pure, pure_dtree]) ?_ (pure_dtree _)
  (apply rd_sound; focus (repeat' constructor))
  ((conv=>whnf);repeat(refine .intro rfl ?_;conv=>whnf))
  (repeat' (first | exact Deep.refl _ | exact Deep.none _ | exact deep_row _ | exact DeepL.nil | exact DeepLL.nil | refine Deep.agg _ _ ?_ | refine Deep.tup _ _ ?_ | refine Deep.own _ _ _ _ _ _ _ _ rfl ?_ | refine Deep.loc _ _ _ _ _ rfl ?_ | refine Deep.ifc _ _ _ ?_ | refine Deep.fn _ _ _ _ _ ?_ ?_ | refine DeepL.cons _ _ _ _ ?_ ?_ | refine DeepLL.cons _ _ _ _ ?_ ?_ | exact deepLL_refl _))
def c20 : PC := .seq (.ops [⟨some 4,.box (.tmp 1),none,0⟩,
 ⟨some 5,.box (.tmp 2),none,0⟩,
 ⟨some 6,.alloc [(.int .i64 0), (.int .i64 0), (.slice none 0 0)],none,0⟩] false) (.seq (.ops [⟨some 7,.move (.tmp 0),none,0⟩,
 ⟨some 8,.loadA 3 (.tmp 4),none,0⟩,
 ⟨some 9,.loadA 3 (.tmp 5),none,0⟩,
 ⟨some 10,.bslice 3 2 [(.tmp 8), (.tmp 9)],none,0⟩,
 ⟨some 11,.build [(.int .i64 0), (.int .i64 0), (.slice none 0 0)] [(0, 1, (.tmp 7)), (2, 1, (.tmp 10))],none,0⟩,
 ⟨none,.store 3 (.tmp 6) (.tmp 11),none,0⟩] false) (.ret))
set_option maxRecDepth 100000 in
theorem c20_ok : FunOK Try.prog 20 12 [.agg 6 3] c20 := ⟨⟨Try.f20, Try.func20, rfl, by kernel_rfl, rfl, by kernel_rfl⟩⟩
theorem ref_two (k : Int) (a b : Tree) : PCall Try.prog 20 [.sc (.int .i64 k), dtree a, dtree b] (dtree (mk2 k a b)) := by
  refine pcall_intro c20_ok (by simp) (by simp [PureL, Pure, pure_dtree]) ?_ (pure_dtree _)
  (apply rd_sound; focus (repeat' constructor))
  ((conv=>whnf);repeat(refine .intro rfl ?_;conv=>whnf))
  (repeat' (first | exact Deep.refl _ | exact Deep.none _ | exact deep_row _ | exact DeepL.nil | exact DeepLL.nil | refine Deep.agg _ _ ?_ | refine Deep.tup _ _ ?_ | refine Deep.own _ _ _ _ _ _ _ _ rfl ?_ | refine Deep.loc _ _ _ _ _ rfl ?_ | refine Deep.ifc _ _ _ ?_ | refine Deep.fn _ _ _ _ _ ?_ ?_ | refine DeepL.cons _ _ _ _ ?_ ?_ | refine DeepLL.cons _ _ _ _ ?_ ?_ | exact deepLL_refl _))
def c46 : PC := .seq (.ops [⟨some 2,.alloc [(.int .i64 0), (.int .i64 0), (.slice none 0 0)],none,0⟩] false) (.seq (.ops [⟨some 3,.move (.tmp 0),none,0⟩,
 ⟨some 4,.build [(.int .i64 0), (.int .i64 0), (.slice none 0 0)] [(0, 1, (.tmp 3))],none,0⟩,
 ⟨none,.store 3 (.tmp 2) (.tmp 4),none,0⟩] false) (.ret))
set_option maxRecDepth 100000 in
theorem c46_ok : FunOK Try.prog 46 5 [.agg 2 3] c46 := ⟨⟨Try.f46, Try.func46, rfl, by kernel_rfl, rfl, by kernel_rfl⟩⟩
theorem push_leaf (k : Int) : PCall Try.prog 46 [.sc (.int .i64 k)] (dtree (mk0 k 0)) := by
  refine pcall_intro c46_ok (by simp) (by simp [PureL, Pure]) ?_ (pure_dtree _)
  (apply rd_sound; focus (repeat' constructor))
  ((conv=>whnf);repeat(refine .intro rfl ?_;conv=>whnf))
  (repeat' (first | exact Deep.refl _ | exact Deep.none _ | exact deep_row _ | exact DeepL.nil | exact DeepLL.nil | refine Deep.agg _ _ ?_ | refine Deep.tup _ _ ?_ | refine Deep.own _ _ _ _ _ _ _ _ rfl ?_ | refine Deep.loc _ _ _ _ _ rfl ?_ | refine Deep.ifc _ _ _ ?_ | refine Deep.fn _ _ _ _ _ ?_ ?_ | refine DeepL.cons _ _ _ _ ?_ ?_ | refine DeepLL.cons _ _ _ _ ?_ ?_ | exact deepLL_refl _))
def c21 : PC := .seq (.ops [⟨some 4,.alloc [(.int .i64 0), (.int .i64 0), (.slice none 0 0)],none,0⟩] false) (.seq (.ops [⟨some 5,.move (.tmp 0),none,0⟩,
 ⟨some 6,.move (.tmp 1),none,0⟩,
 ⟨some 7,.build [(.int .i64 0), (.int .i64 0), (.slice none 0 0)] [(0, 1, (.tmp 5)), (1, 1, (.tmp 6))],none,0⟩,
 ⟨none,.store 3 (.tmp 4) (.tmp 7),none,0⟩] false) (.ret))
set_option maxRecDepth 100000 in
theorem c21_ok : FunOK Try.prog 21 8 [.agg 4 3] c21 := ⟨⟨Try.f21, Try.func21, rfl, by kernel_rfl, rfl, by kernel_rfl⟩⟩
theorem ref_leaf (k n : Int) : PCall Try.prog 21 [.sc (.int .i64 k), .sc (.int .i64 n)] (dtree (mk0 k n)) := by
  refine pcall_intro c21_ok (by simp) (by simp [PureL, Pure]) ?_ (pure_dtree _)
  (apply rd_sound; focus (repeat' constructor))
  ((conv=>whnf);repeat(refine .intro rfl ?_;conv=>whnf))
  (repeat' (first | exact Deep.refl _ | exact Deep.none _ | exact deep_row _ | exact DeepL.nil | exact DeepLL.nil | refine Deep.agg _ _ ?_ | refine Deep.tup _ _ ?_ | refine Deep.own _ _ _ _ _ _ _ _ rfl ?_ | refine Deep.loc _ _ _ _ _ rfl ?_ | refine Deep.ifc _ _ _ ?_ | refine Deep.fn _ _ _ _ _ ?_ ?_ | refine DeepL.cons _ _ _ _ ?_ ?_ | refine DeepLL.cons _ _ _ _ ?_ ?_ | exact deepLL_refl _))
end Go.Proofs.Ytihgbinhidppdaa
