/-
  The makers of formulas, over deep values. No statement is proved here.
-/
import Derived.Test.YtdlokjgddjgneaaDoorDk2
import Derived.Test.YtdlokjgddjgneaaDoorProg
namespace Go.Proofs.YtdlokjgddjgneaaDoor
open Go.RowKit
set_option linter.unusedSimpArgs false
theorem small_mk0 (k n : Int) : Small (mk0 k n) := .mk _ (by simp [mk0, Tree.width, Tree.kids]) fun j hj => by simp [mk0, Tree.width, Tree.kids] at hj
theorem small_mk1 {k : Int} {a : Tree} (h : Small a) : Small (mk1 k a) := .mk _ (by simp [mk1, Tree.width, Tree.kids]) fun j hj => by
  simp [mk1, Tree.width, Tree.kids] at hj
  subst hj
  exact h
theorem small_mk2 {k : Int} {a b : Tree} (h : Small a) (h' : Small b) : Small (mk2 k a b) := .mk _ (by simp [mk2, Tree.width, Tree.kids]) fun j hj => by
  simp [mk2, Tree.width, Tree.kids] at hj
  match j with
  | 0 => exact h
  | 1 => exact h'
theorem small_ite (p : Prop) [Decidable p] {a b : Tree} (h : Small a) (k : Small b) : Small (if p then a else b) := by split <;> assumption
def c21 : PC := .seq (.ops [⟨some 3,.box (.tmp 1),none,0⟩,
 ⟨some 4,.alloc [(.int .i64 0), (.int .i64 0), (.slice none 0 0)],none,0⟩] false) (.seq (.ops [⟨some 5,.move (.tmp 0),none,0⟩,
 ⟨some 6,.loadA 3 (.tmp 3),none,0⟩,
 ⟨some 7,.bslice 3 1 [(.tmp 6)],none,0⟩,
 ⟨some 8,.build [(.int .i64 0), (.int .i64 0), (.slice none 0 0)] [(0, 1, (.tmp 5)), (2, 1, (.tmp 7))],none,0⟩,
 ⟨none,.store 3 (.tmp 4) (.tmp 8),none,0⟩] false) (.ret))
set_option maxRecDepth 100000 in
theorem c21_ok : FunOK Tryd.prog 21 9 [.agg 4 3] c21 := ⟨⟨Tryd.f21, Tryd.func21, rfl, by kernel_rfl, rfl, by kernel_rfl⟩⟩
theorem push_one (k : Int) (a : Tree) : PCall Tryd.prog 21 [.sc (.int .i64 k), dtree a] (dtree (mk1 k a)) := by
  refine pcall_intro c21_ok (by simp) (by simp [PureL, Pure, pure_dtree]) ?_ (pure_dtree _)
  (apply rd_sound; focus (repeat' constructor))
  ((conv=>whnf);repeat(refine .intro rfl ?_;conv=>whnf))
  (repeat' (first | exact Deep.refl _ | exact Deep.none _ | exact deep_row _ | exact DeepL.nil | exact DeepLL.nil | refine Deep.agg _ _ ?_ | refine Deep.tup _ _ ?_ | refine Deep.own _ _ _ _ _ _ _ _ rfl ?_ | refine Deep.loc _ _ _ _ _ rfl ?_ | refine Deep.ifc _ _ _ ?_ | refine Deep.fn _ _ _ _ _ ?_ ?_ | refine DeepL.cons _ _ _ _ ?_ ?_ | refine DeepLL.cons _ _ _ _ ?_ ?_ | exact deepLL_refl _))
def c23 : PC := .seq (.ops [⟨some 4,.box (.tmp 1),none,0⟩,
 ⟨some 5,.box (.tmp 2),none,0⟩,
 ⟨some 6,.alloc [(.int .i64 0), (.int .i64 0), (.slice none 0 0)],none,0⟩] false) (.seq (.ops [⟨some 7,.move (.tmp 0),none,0⟩,
 ⟨some 8,.loadA 3 (.tmp 4),none,0⟩,
 ⟨some 9,.loadA 3 (.tmp 5),none,0⟩,
 ⟨some 10,.bslice 3 2 [(.tmp 8), (.tmp 9)],none,0⟩,
 ⟨some 11,.build [(.int .i64 0), (.int .i64 0), (.slice none 0 0)] [(0, 1, (.tmp 7)), (2, 1, (.tmp 10))],none,0⟩,
 ⟨none,.store 3 (.tmp 6) (.tmp 11),none,0⟩] false) (.ret))
set_option maxRecDepth 100000 in
theorem c23_ok : FunOK Tryd.prog 23 12 [.agg 6 3] c23 := ⟨⟨Tryd.f23, Tryd.func23, rfl, by kernel_rfl, rfl, by kernel_rfl⟩⟩
theorem push_two (k : Int) (a b : Tree) : PCall Tryd.prog 23 [.sc (.int .i64 k), dtree a, dtree b] (dtree (mk2 k a b)) := by
  refine pcall_intro c23_ok (by simp) (by simp [PureL, Pure, pure_dtree]) ?_ (pure_dtree _)
  (apply rd_sound; focus (repeat' constructor))
  ((conv=>whnf);repeat(refine .intro rfl ?_;conv=>whnf))
  (repeat' (first | exact Deep.refl _ | exact Deep.none _ | exact deep_row _ | exact DeepL.nil | exact DeepLL.nil | refine Deep.agg _ _ ?_ | refine Deep.tup _ _ ?_ | refine Deep.own _ _ _ _ _ _ _ _ rfl ?_ | refine Deep.loc _ _ _ _ _ rfl ?_ | refine Deep.ifc _ _ _ ?_ | refine Deep.fn _ _ _ _ _ ?_ ?_ | refine DeepL.cons _ _ _ _ ?_ ?_ | refine DeepLL.cons _ _ _ _ ?_ ?_ | exact deepLL_refl _))
def c18 : PC := .seq (.ops [⟨some 3,.box (.tmp 1),none,0⟩,
 ⟨some 4,.alloc [(.int .i64 0), (.int .i64 0), (.slice none 0 0)],none,0⟩] false) (.seq (.ops [⟨some 5,.move (.tmp 0),none,0⟩,
 ⟨some 6,.loadA 3 (.tmp 3),none,0⟩,
 ⟨some 7,.bslice 3 1 [(.tmp 6)],none,0⟩,
 ⟨some 8,.build [(.int .i64 0), (.int .i64 0), (.slice none 0 0)] [(0, 1, (.tmp 5)), (2, 1, (.tmp 7))],none,0⟩,
 ⟨none,.store 3 (.tmp 4) (.tmp 8),none,0⟩] false) (.ret))
set_option maxRecDepth 100000 in
theorem c18_ok : FunOK Tryd.prog 18 9 [.agg 4 3] c18 := ⟨⟨Tryd.f18, Tryd.func18, rfl, by kernel_rfl, rfl, by kernel_rfl⟩⟩
theorem ref_one (k : Int) (a : Tree) : PCall Tryd.prog 18 [.sc (.int .i64 k), dtree a] (dtree (mk1 k a)) := by
  refine pcall_intro c18_ok (by simp) (by simp [PureL, Pure, pure_dtree]) ?_ (pure_dtree _)
  (apply rd_sound; focus (repeat' constructor))
  ((conv=>whnf);repeat(refine .intro rfl ?_;conv=>whnf))
  (repeat' (first | exact Deep.refl _ | exact Deep.none _ | exact deep_row _ | exact DeepL.nil | exact DeepLL.nil | refine Deep.agg _ _ ?_ | refine Deep.tup _ _ ?_ | refine Deep.own _ _ _ _ _ _ _ _ rfl ?_ | refine Deep.loc _ _ _ _ _ rfl ?_ | refine Deep.ifc _ _ _ ?_ | refine Deep.fn _ _ _ _ _ ?_ ?_ | refine DeepL.cons _ _ _ _ ?_ ?_ | refine DeepLL.cons _ _ _ _ ?_ ?_ | exact deepLL_refl _))
def c19 : PC := .seq (.ops [⟨some 4,.box (.tmp 1),none,0⟩,
 ⟨some 5,.box (.tmp 2),none,0⟩,
 ⟨some 6,.alloc [(.int .i64 0), (.int .i64 0), (.slice none 0 0)],none,0⟩] false) (.seq (.ops [⟨some 7,.move (.tmp 0),none,0⟩,
 ⟨some 8,.loadA 3 (.tmp 4),none,0⟩,
 ⟨some 9,.loadA 3 (.tmp 5),none,0⟩,
 ⟨some 10,.bslice 3 2 [(.tmp 8), (.tmp 9)],none,0⟩,
 ⟨some 11,.build [(.int .i64 0), (.int .i64 0), (.slice none 0 0)] [(0, 1, (.tmp 7)), (2, 1, (.tmp 10))],none,0⟩,
 ⟨none,.store 3 (.tmp 6) (.tmp 11),none,0⟩] false) (.ret))
set_option maxRecDepth 100000 in
theorem c19_ok : FunOK Tryd.prog 19 12 [.agg 6 3] c19 := ⟨⟨Tryd.f19, Tryd.func19, rfl, by kernel_rfl, rfl, by kernel_rfl⟩⟩
theorem ref_two (k : Int) (a b : Tree) : PCall Tryd.prog 19 [.sc (.int .i64 k), dtree a, dtree b] (dtree (mk2 k a b)) := by
  refine pcall_intro c19_ok (by simp) (by simp [PureL, Pure, pure_dtree]) ?_ (pure_dtree _)
  (apply rd_sound; focus (repeat' constructor))
  ((conv=>whnf);repeat(refine .intro rfl ?_;conv=>whnf))
  (repeat' (first | exact Deep.refl _ | exact Deep.none _ | exact deep_row _ | exact DeepL.nil | exact DeepLL.nil | refine Deep.agg _ _ ?_ | refine Deep.tup _ _ ?_ | refine Deep.own _ _ _ _ _ _ _ _ rfl ?_ | refine Deep.loc _ _ _ _ _ rfl ?_ | refine Deep.ifc _ _ _ ?_ | refine Deep.fn _ _ _ _ _ ?_ ?_ | refine DeepL.cons _ _ _ _ ?_ ?_ | refine DeepLL.cons _ _ _ _ ?_ ?_ | exact deepLL_refl _))
def c24 : PC := .seq (.ops [⟨some 2,.alloc [(.int .i64 0), (.int .i64 0), (.slice none 0 0)],none,0⟩] false) (.seq (.ops [⟨some 3,.move (.tmp 0),none,0⟩,
 ⟨some 4,.build [(.int .i64 0), (.int .i64 0), (.slice none 0 0)] [(0, 1, (.tmp 3))],none,0⟩,
 ⟨none,.store 3 (.tmp 2) (.tmp 4),none,0⟩] false) (.ret))
set_option maxRecDepth 100000 in
theorem c24_ok : FunOK Tryd.prog 24 5 [.agg 2 3] c24 := ⟨⟨Tryd.f24, Tryd.func24, rfl, by kernel_rfl, rfl, by kernel_rfl⟩⟩
theorem push_leaf (k : Int) : PCall Tryd.prog 24 [.sc (.int .i64 k)] (dtree (mk0 k 0)) := by
  refine pcall_intro c24_ok (by simp) (by simp [PureL, Pure]) ?_ (pure_dtree _)
  (apply rd_sound; focus (repeat' constructor))
  ((conv=>whnf);repeat(refine .intro rfl ?_;conv=>whnf))
  (repeat' (first | exact Deep.refl _ | exact Deep.none _ | exact deep_row _ | exact DeepL.nil | exact DeepLL.nil | refine Deep.agg _ _ ?_ | refine Deep.tup _ _ ?_ | refine Deep.own _ _ _ _ _ _ _ _ rfl ?_ | refine Deep.loc _ _ _ _ _ rfl ?_ | refine Deep.ifc _ _ _ ?_ | refine Deep.fn _ _ _ _ _ ?_ ?_ | refine DeepL.cons _ _ _ _ ?_ ?_ | refine DeepLL.cons _ _ _ _ ?_ ?_ | exact deepLL_refl _))
def c17 : PC := .seq (.ops [⟨some 4,.alloc [(.int .i64 0), (.int .i64 0), (.slice none 0 0)],none,0⟩] false) (.seq (.ops [⟨some 5,.move (.tmp 0),none,0⟩,
 ⟨some 6,.move (.tmp 1),none,0⟩,
 ⟨some 7,.build [(.int .i64 0), (.int .i64 0), (.slice none 0 0)] [(0, 1, (.tmp 5)), (1, 1, (.tmp 6))],none,0⟩,
 ⟨none,.store 3 (.tmp 4) (.tmp 7),none,0⟩] false) (.ret))
set_option maxRecDepth 100000 in
theorem c17_ok : FunOK Tryd.prog 17 8 [.agg 4 3] c17 := ⟨⟨Tryd.f17, Tryd.func17, rfl, by kernel_rfl, rfl, by kernel_rfl⟩⟩
theorem ref_leaf (k n : Int) : PCall Tryd.prog 17 [.sc (.int .i64 k), .sc (.int .i64 n)] (dtree (mk0 k n)) := by
  refine pcall_intro c17_ok (by simp) (by simp [PureL, Pure]) ?_ (pure_dtree _)
  (apply rd_sound; focus (repeat' constructor))
  ((conv=>whnf);repeat(refine .intro rfl ?_;conv=>whnf))
  (repeat' (first | exact Deep.refl _ | exact Deep.none _ | exact deep_row _ | exact DeepL.nil | exact DeepLL.nil | refine Deep.agg _ _ ?_ | refine Deep.tup _ _ ?_ | refine Deep.own _ _ _ _ _ _ _ _ rfl ?_ | refine Deep.loc _ _ _ _ _ rfl ?_ | refine Deep.ifc _ _ _ ?_ | refine Deep.fn _ _ _ _ _ ?_ ?_ | refine DeepL.cons _ _ _ _ ?_ ?_ | refine DeepLL.cons _ _ _ _ ?_ ?_ | exact deepLL_refl _))
end Go.Proofs.YtdlokjgddjgneaaDoor
