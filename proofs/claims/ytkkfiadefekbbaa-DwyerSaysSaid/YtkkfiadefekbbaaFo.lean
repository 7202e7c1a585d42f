/-
  The makers of formulas, over deep values. No statement is proved here.
-/
import Derived.Test.YtkkfiadefekbbaaDk2
import Derived.Test.YtkkfiadefekbbaaProg
namespace Go.Proofs.Ytkkfiadefekbbaa
open Go.RowKit
set_option linter.unusedSimpArgs false
theorem small_mk0 (k n : Int) : Small (mk0 k n) := .mk _ (by simp [mk0, Tree.width, Tree.kids]) fun j hj => by simp [mk0, Tree.width, Tree.kids] at hj
theorem small_mk1 {k : Int} {a : Tree} (h : Small a) : Small (mk1 k a) := .mk _ (by simp [mk1, Tree.width, Tree.kids]) fun j hj => by
  simp [mk1, Tree.width, Tree.kids] at hj
  subst hj
  exact h
theorem small_mk2 {k : Int} {a b : Tree} (h : Small a) (h' : Small b) : Small (mk2 k a b) := .mk _ (by simp [mk2, Tree.width, Tree.kids]) fun j hj => by
  simp [mk2, Tree.width, Tree.kids] at hj
  match j with
  | 0 => exact h
  | 1 => exact h'
theorem small_ite (p : Prop) [Decidable p] {a b : Tree} (h : Small a) (k : Small b) : Small (if p then a else b) := by split <;> assumption
def c170 : PC := .seq (.ops [⟨(some 3), .box (.tmp 1), none, 0⟩,
    ⟨(some 4), .alloc [(.int .i64 0), (.int .i64 0), (.slice none 0 0)], none, 0⟩] false) (.seq (.ops [⟨(some 5), .move (.tmp 0), none, 0⟩,
    ⟨(some 6), .loadA 3 (.tmp 3), none, 0⟩,
    ⟨(some 7), .bslice 3 1 [(.tmp 6)], none, 0⟩,
    ⟨(some 8), .build [(.int .i64 0), (.int .i64 0), (.slice none 0 0)] [(0, 1, (.tmp 5)), (2, 1, (.tmp 7))], none, 0⟩,
    ⟨none, .store 3 (.tmp 4) (.tmp 8), none, 0⟩] false) (.ret))
set_option maxRecDepth 100000 in
theorem c170_ok : FunOK Try.prog 170 9 [.agg 4 3] c170 := ⟨⟨Try.f170, Try.func170, rfl, by kernel_rfl, rfl, by kernel_rfl⟩⟩
theorem push_one (k : Int) (a : Tree) : PCall Try.prog 170 [.sc (.int .i64 k), dtree a] (dtree (mk1 k a)) := by
  refine pcall_intro c170_ok (by simp) (by simp [PureL, Pure, pure_dtree]) ?_ (pure_dtree _)
  (apply red_sound; focus (repeat' (first | exact Red.skip | exact Red.ret | exact RedO.nil | exact RedD.nil | exact Red.exit _ | exact Red.loop _ | exact Red.stop _ | apply Red.ops | apply Red.draw | apply Red.seq | apply Red.cond | apply Red.block | apply RedO.cons | apply RedD.cons | exact (0 : Nat))))
  ((conv => whnf); repeat (refine And.intro rfl ?_; (conv => whnf)))
  (repeat' (first | exact Deep.refl _ | exact Deep.none _ | exact deep_row _ | exact DeepL.nil | exact DeepLL.nil | refine Deep.agg _ _ ?_ | refine Deep.tup _ _ ?_ | refine Deep.own _ _ _ _ _ _ _ _ rfl ?_ | refine Deep.loc _ _ _ _ _ rfl ?_ | refine Deep.ifc _ _ _ ?_ | refine DeepL.cons _ _ _ _ ?_ ?_ | refine DeepLL.cons _ _ _ _ ?_ ?_))
def c168 : PC := .seq (.ops [⟨(some 4), .box (.tmp 1), none, 0⟩,
    ⟨(some 5), .box (.tmp 2), none, 0⟩,
    ⟨(some 6), .alloc [(.int .i64 0), (.int .i64 0), (.slice none 0 0)], none, 0⟩] false) (.seq (.ops [⟨(some 7), .move (.tmp 0), none, 0⟩,
    ⟨(some 8), .loadA 3 (.tmp 4), none, 0⟩,
    ⟨(some 9), .loadA 3 (.tmp 5), none, 0⟩,
    ⟨(some 10), .bslice 3 2 [(.tmp 8), (.tmp 9)], none, 0⟩,
    ⟨(some 11), .build [(.int .i64 0), (.int .i64 0), (.slice none 0 0)] [(0, 1, (.tmp 7)), (2, 1, (.tmp 10))], none, 0⟩,
    ⟨none, .store 3 (.tmp 6) (.tmp 11), none, 0⟩] false) (.ret))
set_option maxRecDepth 100000 in
theorem c168_ok : FunOK Try.prog 168 12 [.agg 6 3] c168 := ⟨⟨Try.f168, Try.func168, rfl, by kernel_rfl, rfl, by kernel_rfl⟩⟩
theorem push_two (k : Int) (a b : Tree) : PCall Try.prog 168 [.sc (.int .i64 k), dtree a, dtree b] (dtree (mk2 k a b)) := by
  refine pcall_intro c168_ok (by simp) (by simp [PureL, Pure, pure_dtree]) ?_ (pure_dtree _)
  (apply red_sound; focus (repeat' (first | exact Red.skip | exact Red.ret | exact RedO.nil | exact RedD.nil | exact Red.exit _ | exact Red.loop _ | exact Red.stop _ | apply Red.ops | apply Red.draw | apply Red.seq | apply Red.cond | apply Red.block | apply RedO.cons | apply RedD.cons | exact (0 : Nat))))
  ((conv => whnf); repeat (refine And.intro rfl ?_; (conv => whnf)))
  (repeat' (first | exact Deep.refl _ | exact Deep.none _ | exact deep_row _ | exact DeepL.nil | exact DeepLL.nil | refine Deep.agg _ _ ?_ | refine Deep.tup _ _ ?_ | refine Deep.own _ _ _ _ _ _ _ _ rfl ?_ | refine Deep.loc _ _ _ _ _ rfl ?_ | refine Deep.ifc _ _ _ ?_ | refine DeepL.cons _ _ _ _ ?_ ?_ | refine DeepLL.cons _ _ _ _ ?_ ?_))
def c114 : PC := .seq (.ops [⟨(some 3), .box (.tmp 1), none, 0⟩,
    ⟨(some 4), .alloc [(.int .i64 0), (.int .i64 0), (.slice none 0 0)], none, 0⟩] false) (.seq (.ops [⟨(some 5), .move (.tmp 0), none, 0⟩,
    ⟨(some 6), .loadA 3 (.tmp 3), none, 0⟩,
    ⟨(some 7), .bslice 3 1 [(.tmp 6)], none, 0⟩,
    ⟨(some 8), .build [(.int .i64 0), (.int .i64 0), (.slice none 0 0)] [(0, 1, (.tmp 5)), (2, 1, (.tmp 7))], none, 0⟩,
    ⟨none, .store 3 (.tmp 4) (.tmp 8), none, 0⟩] false) (.ret))
set_option maxRecDepth 100000 in
theorem c114_ok : FunOK Try.prog 114 9 [.agg 4 3] c114 := ⟨⟨Try.f114, Try.func114, rfl, by kernel_rfl, rfl, by kernel_rfl⟩⟩
theorem ref_one (k : Int) (a : Tree) : PCall Try.prog 114 [.sc (.int .i64 k), dtree a] (dtree (mk1 k a)) := by
  refine pcall_intro c114_ok (by simp) (by simp [PureL, Pure, pure_dtree]) ?_ (pure_dtree _)
  (apply red_sound; focus (repeat' (first | exact Red.skip | exact Red.ret | exact RedO.nil | exact RedD.nil | exact Red.exit _ | exact Red.loop _ | exact Red.stop _ | apply Red.ops | apply Red.draw | apply Red.seq | apply Red.cond | apply Red.block | apply RedO.cons | apply RedD.cons | exact (0 : Nat))))
  ((conv => whnf); repeat (refine And.intro rfl ?_; (conv => whnf)))
  (repeat' (first | exact Deep.refl _ | exact Deep.none _ | exact deep_row _ | exact DeepL.nil | exact DeepLL.nil | refine Deep.agg _ _ ?_ | refine Deep.tup _ _ ?_ | refine Deep.own _ _ _ _ _ _ _ _ rfl ?_ | refine Deep.loc _ _ _ _ _ rfl ?_ | refine Deep.ifc _ _ _ ?_ | refine DeepL.cons _ _ _ _ ?_ ?_ | refine DeepLL.cons _ _ _ _ ?_ ?_))
def c117 : PC := .seq (.ops [⟨(some 4), .box (.tmp 1), none, 0⟩,
    ⟨(some 5), .box (.tmp 2), none, 0⟩,
    ⟨(some 6), .alloc [(.int .i64 0), (.int .i64 0), (.slice none 0 0)], none, 0⟩] false) (.seq (.ops [⟨(some 7), .move (.tmp 0), none, 0⟩,
    ⟨(some 8), .loadA 3 (.tmp 4), none, 0⟩,
    ⟨(some 9), .loadA 3 (.tmp 5), none, 0⟩,
    ⟨(some 10), .bslice 3 2 [(.tmp 8), (.tmp 9)], none, 0⟩,
    ⟨(some 11), .build [(.int .i64 0), (.int .i64 0), (.slice none 0 0)] [(0, 1, (.tmp 7)), (2, 1, (.tmp 10))], none, 0⟩,
    ⟨none, .store 3 (.tmp 6) (.tmp 11), none, 0⟩] false) (.ret))
set_option maxRecDepth 100000 in
theorem c117_ok : FunOK Try.prog 117 12 [.agg 6 3] c117 := ⟨⟨Try.f117, Try.func117, rfl, by kernel_rfl, rfl, by kernel_rfl⟩⟩
theorem ref_two (k : Int) (a b : Tree) : PCall Try.prog 117 [.sc (.int .i64 k), dtree a, dtree b] (dtree (mk2 k a b)) := by
  refine pcall_intro c117_ok (by simp) (by simp [PureL, Pure, pure_dtree]) ?_ (pure_dtree _)
  (apply red_sound; focus (repeat' (first | exact Red.skip | exact Red.ret | exact RedO.nil | exact RedD.nil | exact Red.exit _ | exact Red.loop _ | exact Red.stop _ | apply Red.ops | apply Red.draw | apply Red.seq | apply Red.cond | apply Red.block | apply RedO.cons | apply RedD.cons | exact (0 : Nat))))
  ((conv => whnf); repeat (refine And.intro rfl ?_; (conv => whnf)))
  (repeat' (first | exact Deep.refl _ | exact Deep.none _ | exact deep_row _ | exact DeepL.nil | exact DeepLL.nil | refine Deep.agg _ _ ?_ | refine Deep.tup _ _ ?_ | refine Deep.own _ _ _ _ _ _ _ _ rfl ?_ | refine Deep.loc _ _ _ _ _ rfl ?_ | refine Deep.ifc _ _ _ ?_ | refine DeepL.cons _ _ _ _ ?_ ?_ | refine DeepLL.cons _ _ _ _ ?_ ?_))
def c112 : PC := .seq (.ops [⟨(some 3), .box (.tmp 1), none, 0⟩,
    ⟨(some 4), .alloc [(.int .i64 0), (.int .i64 0), (.slice none 0 0)], none, 0⟩] false) (.seq (.ops [⟨(some 5), .move (.tmp 0), none, 0⟩,
    ⟨(some 6), .loadA 3 (.tmp 3), none, 0⟩,
    ⟨(some 7), .bslice 3 1 [(.tmp 6)], none, 0⟩,
    ⟨(some 8), .build [(.int .i64 0), (.int .i64 0), (.slice none 0 0)] [(0, 1, (.tmp 5)), (2, 1, (.tmp 7))], none, 0⟩,
    ⟨none, .store 3 (.tmp 4) (.tmp 8), none, 0⟩] false) (.ret))
set_option maxRecDepth 100000 in
theorem c112_ok : FunOK Try.prog 112 9 [.agg 4 3] c112 := ⟨⟨Try.f112, Try.func112, rfl, by kernel_rfl, rfl, by kernel_rfl⟩⟩
theorem dec_one (k : Int) (a : Tree) : PCall Try.prog 112 [.sc (.int .i64 k), dtree a] (dtree (mk1 k a)) := by
  refine pcall_intro c112_ok (by simp) (by simp [PureL, Pure, pure_dtree]) ?_ (pure_dtree _)
  (apply red_sound; focus (repeat' (first | exact Red.skip | exact Red.ret | exact RedO.nil | exact RedD.nil | exact Red.exit _ | exact Red.loop _ | exact Red.stop _ | apply Red.ops | apply Red.draw | apply Red.seq | apply Red.cond | apply Red.block | apply RedO.cons | apply RedD.cons | exact (0 : Nat))))
  ((conv => whnf); repeat (refine And.intro rfl ?_; (conv => whnf)))
  (repeat' (first | exact Deep.refl _ | exact Deep.none _ | exact deep_row _ | exact DeepL.nil | exact DeepLL.nil | refine Deep.agg _ _ ?_ | refine Deep.tup _ _ ?_ | refine Deep.own _ _ _ _ _ _ _ _ rfl ?_ | refine Deep.loc _ _ _ _ _ rfl ?_ | refine Deep.ifc _ _ _ ?_ | refine DeepL.cons _ _ _ _ ?_ ?_ | refine DeepLL.cons _ _ _ _ ?_ ?_))
def c108 : PC := .seq (.ops [⟨(some 4), .box (.tmp 1), none, 0⟩,
    ⟨(some 5), .box (.tmp 2), none, 0⟩,
    ⟨(some 6), .alloc [(.int .i64 0), (.int .i64 0), (.slice none 0 0)], none, 0⟩] false) (.seq (.ops [⟨(some 7), .move (.tmp 0), none, 0⟩,
    ⟨(some 8), .loadA 3 (.tmp 4), none, 0⟩,
    ⟨(some 9), .loadA 3 (.tmp 5), none, 0⟩,
    ⟨(some 10), .bslice 3 2 [(.tmp 8), (.tmp 9)], none, 0⟩,
    ⟨(some 11), .build [(.int .i64 0), (.int .i64 0), (.slice none 0 0)] [(0, 1, (.tmp 7)), (2, 1, (.tmp 10))], none, 0⟩,
    ⟨none, .store 3 (.tmp 6) (.tmp 11), none, 0⟩] false) (.ret))
set_option maxRecDepth 100000 in
theorem c108_ok : FunOK Try.prog 108 12 [.agg 6 3] c108 := ⟨⟨Try.f108, Try.func108, rfl, by kernel_rfl, rfl, by kernel_rfl⟩⟩
theorem dec_two (k : Int) (a b : Tree) : PCall Try.prog 108 [.sc (.int .i64 k), dtree a, dtree b] (dtree (mk2 k a b)) := by
  refine pcall_intro c108_ok (by simp) (by simp [PureL, Pure, pure_dtree]) ?_ (pure_dtree _)
  (apply red_sound; focus (repeat' (first | exact Red.skip | exact Red.ret | exact RedO.nil | exact RedD.nil | exact Red.exit _ | exact Red.loop _ | exact Red.stop _ | apply Red.ops | apply Red.draw | apply Red.seq | apply Red.cond | apply Red.block | apply RedO.cons | apply RedD.cons | exact (0 : Nat))))
  ((conv => whnf); repeat (refine And.intro rfl ?_; (conv => whnf)))
  (repeat' (first | exact Deep.refl _ | exact Deep.none _ | exact deep_row _ | exact DeepL.nil | exact DeepLL.nil | refine Deep.agg _ _ ?_ | refine Deep.tup _ _ ?_ | refine Deep.own _ _ _ _ _ _ _ _ rfl ?_ | refine Deep.loc _ _ _ _ _ rfl ?_ | refine Deep.ifc _ _ _ ?_ | refine DeepL.cons _ _ _ _ ?_ ?_ | refine DeepLL.cons _ _ _ _ ?_ ?_))
def c137 : PC := .seq (.ops [⟨(some 3), .box (.tmp 1), none, 0⟩,
    ⟨(some 4), .alloc [(.int .i64 0), (.int .i64 0), (.slice none 0 0)], none, 0⟩] false) (.seq (.ops [⟨(some 5), .move (.tmp 0), none, 0⟩,
    ⟨(some 6), .loadA 3 (.tmp 3), none, 0⟩,
    ⟨(some 7), .bslice 3 1 [(.tmp 6)], none, 0⟩,
    ⟨(some 8), .build [(.int .i64 0), (.int .i64 0), (.slice none 0 0)] [(0, 1, (.tmp 5)), (2, 1, (.tmp 7))], none, 0⟩,
    ⟨none, .store 3 (.tmp 4) (.tmp 8), none, 0⟩] false) (.ret))
set_option maxRecDepth 100000 in
theorem c137_ok : FunOK Try.prog 137 9 [.agg 4 3] c137 := ⟨⟨Try.f137, Try.func137, rfl, by kernel_rfl, rfl, by kernel_rfl⟩⟩
theorem dwy_one (k : Int) (a : Tree) : PCall Try.prog 137 [.sc (.int .i64 k), dtree a] (dtree (mk1 k a)) := by
  refine pcall_intro c137_ok (by simp) (by simp [PureL, Pure, pure_dtree]) ?_ (pure_dtree _)
  (apply red_sound; focus (repeat' (first | exact Red.skip | exact Red.ret | exact RedO.nil | exact RedD.nil | exact Red.exit _ | exact Red.loop _ | exact Red.stop _ | apply Red.ops | apply Red.draw | apply Red.seq | apply Red.cond | apply Red.block | apply RedO.cons | apply RedD.cons | exact (0 : Nat))))
  ((conv => whnf); repeat (refine And.intro rfl ?_; (conv => whnf)))
  (repeat' (first | exact Deep.refl _ | exact Deep.none _ | exact deep_row _ | exact DeepL.nil | exact DeepLL.nil | refine Deep.agg _ _ ?_ | refine Deep.tup _ _ ?_ | refine Deep.own _ _ _ _ _ _ _ _ rfl ?_ | refine Deep.loc _ _ _ _ _ rfl ?_ | refine Deep.ifc _ _ _ ?_ | refine DeepL.cons _ _ _ _ ?_ ?_ | refine DeepLL.cons _ _ _ _ ?_ ?_))
def c157 : PC := .seq (.ops [⟨(some 4), .box (.tmp 1), none, 0⟩,
    ⟨(some 5), .box (.tmp 2), none, 0⟩,
    ⟨(some 6), .alloc [(.int .i64 0), (.int .i64 0), (.slice none 0 0)], none, 0⟩] false) (.seq (.ops [⟨(some 7), .move (.tmp 0), none, 0⟩,
    ⟨(some 8), .loadA 3 (.tmp 4), none, 0⟩,
    ⟨(some 9), .loadA 3 (.tmp 5), none, 0⟩,
    ⟨(some 10), .bslice 3 2 [(.tmp 8), (.tmp 9)], none, 0⟩,
    ⟨(some 11), .build [(.int .i64 0), (.int .i64 0), (.slice none 0 0)] [(0, 1, (.tmp 7)), (2, 1, (.tmp 10))], none, 0⟩,
    ⟨none, .store 3 (.tmp 6) (.tmp 11), none, 0⟩] false) (.ret))
set_option maxRecDepth 100000 in
theorem c157_ok : FunOK Try.prog 157 12 [.agg 6 3] c157 := ⟨⟨Try.f157, Try.func157, rfl, by kernel_rfl, rfl, by kernel_rfl⟩⟩
theorem dwy_two (k : Int) (a b : Tree) : PCall Try.prog 157 [.sc (.int .i64 k), dtree a, dtree b] (dtree (mk2 k a b)) := by
  refine pcall_intro c157_ok (by simp) (by simp [PureL, Pure, pure_dtree]) ?_ (pure_dtree _)
  (apply red_sound; focus (repeat' (first | exact Red.skip | exact Red.ret | exact RedO.nil | exact RedD.nil | exact Red.exit _ | exact Red.loop _ | exact Red.stop _ | apply Red.ops | apply Red.draw | apply Red.seq | apply Red.cond | apply Red.block | apply RedO.cons | apply RedD.cons | exact (0 : Nat))))
  ((conv => whnf); repeat (refine And.intro rfl ?_; (conv => whnf)))
  (repeat' (first | exact Deep.refl _ | exact Deep.none _ | exact deep_row _ | exact DeepL.nil | exact DeepLL.nil | refine Deep.agg _ _ ?_ | refine Deep.tup _ _ ?_ | refine Deep.own _ _ _ _ _ _ _ _ rfl ?_ | refine Deep.loc _ _ _ _ _ rfl ?_ | refine Deep.ifc _ _ _ ?_ | refine DeepL.cons _ _ _ _ ?_ ?_ | refine DeepLL.cons _ _ _ _ ?_ ?_))
def c165 : PC := .seq (.ops [⟨(some 2), .alloc [(.int .i64 0), (.int .i64 0), (.slice none 0 0)], none, 0⟩] false) (.seq (.ops [⟨(some 3), .move (.tmp 0), none, 0⟩,
    ⟨(some 4), .build [(.int .i64 0), (.int .i64 0), (.slice none 0 0)] [(0, 1, (.tmp 3))], none, 0⟩,
    ⟨none, .store 3 (.tmp 2) (.tmp 4), none, 0⟩] false) (.ret))
set_option maxRecDepth 100000 in
theorem c165_ok : FunOK Try.prog 165 5 [.agg 2 3] c165 := ⟨⟨Try.f165, Try.func165, rfl, by kernel_rfl, rfl, by kernel_rfl⟩⟩
theorem push_leaf (k : Int) : PCall Try.prog 165 [.sc (.int .i64 k)] (dtree (mk0 k 0)) := by
  refine pcall_intro c165_ok (by simp) (by simp [PureL, Pure]) ?_ (pure_dtree _)
  (apply red_sound; focus (repeat' (first | exact Red.skip | exact Red.ret | exact RedO.nil | exact RedD.nil | exact Red.exit _ | exact Red.loop _ | exact Red.stop _ | apply Red.ops | apply Red.draw | apply Red.seq | apply Red.cond | apply Red.block | apply RedO.cons | apply RedD.cons | exact (0 : Nat))))
  ((conv => whnf); repeat (refine And.intro rfl ?_; (conv => whnf)))
  (repeat' (first | exact Deep.refl _ | exact Deep.none _ | exact deep_row _ | exact DeepL.nil | exact DeepLL.nil | refine Deep.agg _ _ ?_ | refine Deep.tup _ _ ?_ | refine Deep.own _ _ _ _ _ _ _ _ rfl ?_ | refine Deep.loc _ _ _ _ _ rfl ?_ | refine Deep.ifc _ _ _ ?_ | refine DeepL.cons _ _ _ _ ?_ ?_ | refine DeepLL.cons _ _ _ _ ?_ ?_))
def c90 : PC := .seq (.ops [⟨(some 4), .alloc [(.int .i64 0), (.int .i64 0), (.slice none 0 0)], none, 0⟩] false) (.seq (.ops [⟨(some 5), .move (.tmp 0), none, 0⟩,
    ⟨(some 6), .move (.tmp 1), none, 0⟩,
    ⟨(some 7), .build [(.int .i64 0), (.int .i64 0), (.slice none 0 0)] [(0, 1, (.tmp 5)), (1, 1, (.tmp 6))], none, 0⟩,
    ⟨none, .store 3 (.tmp 4) (.tmp 7), none, 0⟩] false) (.ret))
set_option maxRecDepth 100000 in
theorem c90_ok : FunOK Try.prog 90 8 [.agg 4 3] c90 := ⟨⟨Try.f90, Try.func90, rfl, by kernel_rfl, rfl, by kernel_rfl⟩⟩
theorem ref_leaf (k n : Int) : PCall Try.prog 90 [.sc (.int .i64 k), .sc (.int .i64 n)] (dtree (mk0 k n)) := by
  refine pcall_intro c90_ok (by simp) (by simp [PureL, Pure]) ?_ (pure_dtree _)
  (apply red_sound; focus (repeat' (first | exact Red.skip | exact Red.ret | exact RedO.nil | exact RedD.nil | exact Red.exit _ | exact Red.loop _ | exact Red.stop _ | apply Red.ops | apply Red.draw | apply Red.seq | apply Red.cond | apply Red.block | apply RedO.cons | apply RedD.cons | exact (0 : Nat))))
  ((conv => whnf); repeat (refine And.intro rfl ?_; (conv => whnf)))
  (repeat' (first | exact Deep.refl _ | exact Deep.none _ | exact deep_row _ | exact DeepL.nil | exact DeepLL.nil | refine Deep.agg _ _ ?_ | refine Deep.tup _ _ ?_ | refine Deep.own _ _ _ _ _ _ _ _ rfl ?_ | refine Deep.loc _ _ _ _ _ rfl ?_ | refine Deep.ifc _ _ _ ?_ | refine DeepL.cons _ _ _ _ ?_ ?_ | refine DeepLL.cons _ _ _ _ ?_ ?_))
def c134 : PC := .seq (.ops [⟨(some 2), .alloc [(.int .i64 0), (.int .i64 0), (.slice none 0 0)], none, 0⟩] false) (.seq (.ops [⟨(some 3), .move (.tmp 0), none, 0⟩,
    ⟨(some 4), .build [(.int .i64 0), (.int .i64 0), (.slice none 0 0)] [(0, 1, (.const (.int .i64 3))), (1, 1, (.tmp 3))], none, 0⟩,
    ⟨none, .store 3 (.tmp 2) (.tmp 4), none, 0⟩] false) (.ret))
set_option maxRecDepth 100000 in
theorem c134_ok : FunOK Try.prog 134 5 [.agg 2 3] c134 := ⟨⟨Try.f134, Try.func134, rfl, by kernel_rfl, rfl, by kernel_rfl⟩⟩
theorem dwy_leaf (n : Int) : PCall Try.prog 134 [.sc (.int .i64 n)] (dtree (mk0 3 n)) := by
  refine pcall_intro c134_ok (by simp) (by simp [PureL, Pure]) ?_ (pure_dtree _)
  (apply red_sound; focus (repeat' (first | exact Red.skip | exact Red.ret | exact RedO.nil | exact RedD.nil | exact Red.exit _ | exact Red.loop _ | exact Red.stop _ | apply Red.ops | apply Red.draw | apply Red.seq | apply Red.cond | apply Red.block | apply RedO.cons | apply RedD.cons | exact (0 : Nat))))
  ((conv => whnf); repeat (refine And.intro rfl ?_; (conv => whnf)))
  (repeat' (first | exact Deep.refl _ | exact Deep.none _ | exact deep_row _ | exact DeepL.nil | exact DeepLL.nil | refine Deep.agg _ _ ?_ | refine Deep.tup _ _ ?_ | refine Deep.own _ _ _ _ _ _ _ _ rfl ?_ | refine Deep.loc _ _ _ _ _ rfl ?_ | refine Deep.ifc _ _ _ ?_ | refine DeepL.cons _ _ _ _ ?_ ?_ | refine DeepLL.cons _ _ _ _ ?_ ?_))
def c111 : PC := .seq (.ops [⟨(some 2), .alloc [(.int .i64 0), (.int .i64 0), (.slice none 0 0)], none, 0⟩] false) (.seq (.ops [⟨(some 3), .move (.tmp 0), none, 0⟩,
    ⟨(some 4), .build [(.int .i64 0), (.int .i64 0), (.slice none 0 0)] [(0, 1, (.const (.int .i64 3))), (1, 1, (.tmp 3))], none, 0⟩,
    ⟨none, .store 3 (.tmp 2) (.tmp 4), none, 0⟩] false) (.ret))
set_option maxRecDepth 100000 in
theorem c111_ok : FunOK Try.prog 111 5 [.agg 2 3] c111 := ⟨⟨Try.f111, Try.func111, rfl, by kernel_rfl, rfl, by kernel_rfl⟩⟩
theorem dec_atom (n : Int) : PCall Try.prog 111 [.sc (.int .i64 n)] (dtree (mk0 3 n)) := by
  refine pcall_intro c111_ok (by simp) (by simp [PureL, Pure]) ?_ (pure_dtree _)
  (apply red_sound; focus (repeat' (first | exact Red.skip | exact Red.ret | exact RedO.nil | exact RedD.nil | exact Red.exit _ | exact Red.loop _ | exact Red.stop _ | apply Red.ops | apply Red.draw | apply Red.seq | apply Red.cond | apply Red.block | apply RedO.cons | apply RedD.cons | exact (0 : Nat))))
  ((conv => whnf); repeat (refine And.intro rfl ?_; (conv => whnf)))
  (repeat' (first | exact Deep.refl _ | exact Deep.none _ | exact deep_row _ | exact DeepL.nil | exact DeepLL.nil | refine Deep.agg _ _ ?_ | refine Deep.tup _ _ ?_ | refine Deep.own _ _ _ _ _ _ _ _ rfl ?_ | refine Deep.loc _ _ _ _ _ rfl ?_ | refine Deep.ifc _ _ _ ?_ | refine DeepL.cons _ _ _ _ ?_ ?_ | refine DeepLL.cons _ _ _ _ ?_ ?_))
def c120 : PC := .seq (.ops [⟨(some 2), .alloc [(.int .i64 0), (.int .i64 0), (.slice none 0 0)], none, 0⟩] false) (.seq (.ops [⟨(some 3), .move (.tmp 0), none, 0⟩,
    ⟨(some 4), .call 90 [(.const (.int .i64 3)), (.tmp 3)], none, 0⟩,
    ⟨none, .store 3 (.tmp 2) (.tmp 4), none, 0⟩] false) (.ret))
set_option maxRecDepth 100000 in
theorem c120_ok : FunOK Try.prog 120 5 [.agg 2 3] c120 := ⟨⟨Try.f120, Try.func120, rfl, by kernel_rfl, rfl, by kernel_rfl⟩⟩
theorem ref_atom (n : Int) : PCall Try.prog 120 [.sc (.int .i64 n)] (dtree (mk0 3 n)) := by
  refine pcall_intro c120_ok (by simp) (by simp [PureL, Pure]) ?_ (pure_dtree _)
  (apply red_sound; focus (repeat' (first | exact Red.skip | exact Red.ret | exact RedO.nil | exact RedD.nil | exact Red.exit _ | exact Red.loop _ | exact Red.stop _ | apply Red.ops | apply Red.draw | apply Red.seq | apply Red.cond | apply Red.block | apply RedO.cons | apply RedD.cons | exact (0 : Nat))))
  ((conv => whnf); repeat (refine And.intro rfl ?_; (conv => whnf)))
  (refine .inl ⟨_, (ref_leaf 3 n), ?_⟩; ((conv => whnf); repeat (refine And.intro rfl ?_; (conv => whnf))))
  (repeat' (first | exact Deep.refl _ | exact Deep.none _ | exact deep_row _ | exact DeepL.nil | exact DeepLL.nil | refine Deep.agg _ _ ?_ | refine Deep.tup _ _ ?_ | refine Deep.own _ _ _ _ _ _ _ _ rfl ?_ | refine Deep.loc _ _ _ _ _ rfl ?_ | refine Deep.ifc _ _ _ ?_ | refine DeepL.cons _ _ _ _ ?_ ?_ | refine DeepLL.cons _ _ _ _ ?_ ?_))
def c116 : PC := .seq (.ops [⟨(some 1), .box (.tmp 0), none, 0⟩,
    ⟨(some 2), .alloc [(.int .i64 0), (.int .i64 0), (.slice none 0 0)], none, 0⟩] false) (.seq (.ops [⟨(some 3), .loadA 3 (.tmp 1), none, 0⟩,
    ⟨(some 4), .call 114 [(.const (.int .i64 4)), (.tmp 3)], none, 0⟩,
    ⟨none, .store 3 (.tmp 2) (.tmp 4), none, 0⟩] false) (.ret))
set_option maxRecDepth 100000 in
theorem c116_ok : FunOK Try.prog 116 5 [.agg 2 3] c116 := ⟨⟨Try.f116, Try.func116, rfl, by kernel_rfl, rfl, by kernel_rfl⟩⟩
theorem ref_not (a : Tree) : PCall Try.prog 116 [dtree a] (dtree (mk1 4 a)) := by
  refine pcall_intro c116_ok (by simp) (by simp [PureL, Pure, pure_dtree]) ?_ (pure_dtree _)
  (apply red_sound; focus (repeat' (first | exact Red.skip | exact Red.ret | exact RedO.nil | exact RedD.nil | exact Red.exit _ | exact Red.loop _ | exact Red.stop _ | apply Red.ops | apply Red.draw | apply Red.seq | apply Red.cond | apply Red.block | apply RedO.cons | apply RedD.cons | exact (0 : Nat))))
  ((conv => whnf); repeat (refine And.intro rfl ?_; (conv => whnf)))
  (refine .inl ⟨_, (ref_one 4 a), ?_⟩; ((conv => whnf); repeat (refine And.intro rfl ?_; (conv => whnf))))
  (repeat' (first | exact Deep.refl _ | exact Deep.none _ | exact deep_row _ | exact DeepL.nil | exact DeepLL.nil | refine Deep.agg _ _ ?_ | refine Deep.tup _ _ ?_ | refine Deep.own _ _ _ _ _ _ _ _ rfl ?_ | refine Deep.loc _ _ _ _ _ rfl ?_ | refine Deep.ifc _ _ _ ?_ | refine DeepL.cons _ _ _ _ ?_ ?_ | refine DeepLL.cons _ _ _ _ ?_ ?_))
def c119 : PC := .seq (.ops [⟨(some 2), .box (.tmp 0), none, 0⟩,
    ⟨(some 3), .box (.tmp 1), none, 0⟩,
    ⟨(some 4), .alloc [(.int .i64 0), (.int .i64 0), (.slice none 0 0)], none, 0⟩] false) (.seq (.ops [⟨(some 5), .loadA 3 (.tmp 2), none, 0⟩,
    ⟨(some 6), .loadA 3 (.tmp 3), none, 0⟩,
    ⟨(some 7), .call 117 [(.const (.int .i64 5)), (.tmp 5), (.tmp 6)], none, 0⟩,
    ⟨none, .store 3 (.tmp 4) (.tmp 7), none, 0⟩] false) (.ret))
set_option maxRecDepth 100000 in
theorem c119_ok : FunOK Try.prog 119 8 [.agg 4 3] c119 := ⟨⟨Try.f119, Try.func119, rfl, by kernel_rfl, rfl, by kernel_rfl⟩⟩
theorem ref_and (a b : Tree) : PCall Try.prog 119 [dtree a, dtree b] (dtree (mk2 5 a b)) := by
  refine pcall_intro c119_ok (by simp) (by simp [PureL, Pure, pure_dtree]) ?_ (pure_dtree _)
  (apply red_sound; focus (repeat' (first | exact Red.skip | exact Red.ret | exact RedO.nil | exact RedD.nil | exact Red.exit _ | exact Red.loop _ | exact Red.stop _ | apply Red.ops | apply Red.draw | apply Red.seq | apply Red.cond | apply Red.block | apply RedO.cons | apply RedD.cons | exact (0 : Nat))))
  ((conv => whnf); repeat (refine And.intro rfl ?_; (conv => whnf)))
  (refine .inl ⟨_, (ref_two 5 a b), ?_⟩; ((conv => whnf); repeat (refine And.intro rfl ?_; (conv => whnf))))
  (repeat' (first | exact Deep.refl _ | exact Deep.none _ | exact deep_row _ | exact DeepL.nil | exact DeepLL.nil | refine Deep.agg _ _ ?_ | refine Deep.tup _ _ ?_ | refine Deep.own _ _ _ _ _ _ _ _ rfl ?_ | refine Deep.loc _ _ _ _ _ rfl ?_ | refine Deep.ifc _ _ _ ?_ | refine DeepL.cons _ _ _ _ ?_ ?_ | refine DeepLL.cons _ _ _ _ ?_ ?_))
def c115 : PC := .seq (.ops [⟨(some 2), .box (.tmp 0), none, 0⟩,
    ⟨(some 3), .box (.tmp 1), none, 0⟩,
    ⟨(some 4), .alloc [(.int .i64 0), (.int .i64 0), (.slice none 0 0)], none, 0⟩] false) (.seq (.ops [⟨(some 5), .loadA 3 (.tmp 2), none, 0⟩,
    ⟨(some 6), .loadA 3 (.tmp 3), none, 0⟩,
    ⟨(some 7), .call 117 [(.const (.int .i64 6)), (.tmp 5), (.tmp 6)], none, 0⟩,
    ⟨none, .store 3 (.tmp 4) (.tmp 7), none, 0⟩] false) (.ret))
set_option maxRecDepth 100000 in
theorem c115_ok : FunOK Try.prog 115 8 [.agg 4 3] c115 := ⟨⟨Try.f115, Try.func115, rfl, by kernel_rfl, rfl, by kernel_rfl⟩⟩
theorem ref_or (a b : Tree) : PCall Try.prog 115 [dtree a, dtree b] (dtree (mk2 6 a b)) := by
  refine pcall_intro c115_ok (by simp) (by simp [PureL, Pure, pure_dtree]) ?_ (pure_dtree _)
  (apply red_sound; focus (repeat' (first | exact Red.skip | exact Red.ret | exact RedO.nil | exact RedD.nil | exact Red.exit _ | exact Red.loop _ | exact Red.stop _ | apply Red.ops | apply Red.draw | apply Red.seq | apply Red.cond | apply Red.block | apply RedO.cons | apply RedD.cons | exact (0 : Nat))))
  ((conv => whnf); repeat (refine And.intro rfl ?_; (conv => whnf)))
  (refine .inl ⟨_, (ref_two 6 a b), ?_⟩; ((conv => whnf); repeat (refine And.intro rfl ?_; (conv => whnf))))
  (repeat' (first | exact Deep.refl _ | exact Deep.none _ | exact deep_row _ | exact DeepL.nil | exact DeepLL.nil | refine Deep.agg _ _ ?_ | refine Deep.tup _ _ ?_ | refine Deep.own _ _ _ _ _ _ _ _ rfl ?_ | refine Deep.loc _ _ _ _ _ rfl ?_ | refine Deep.ifc _ _ _ ?_ | refine DeepL.cons _ _ _ _ ?_ ?_ | refine DeepLL.cons _ _ _ _ ?_ ?_))
def c105 : PC := .seq (.ops [⟨(some 1), .box (.tmp 0), none, 0⟩,
    ⟨(some 2), .alloc [(.int .i64 0), (.int .i64 0), (.slice none 0 0)], none, 0⟩] false) (.seq (.ops [⟨(some 3), .loadA 3 (.tmp 1), none, 0⟩,
    ⟨(some 4), .call 112 [(.const (.int .i64 4)), (.tmp 3)], none, 0⟩,
    ⟨none, .store 3 (.tmp 2) (.tmp 4), none, 0⟩] false) (.ret))
set_option maxRecDepth 100000 in
theorem c105_ok : FunOK Try.prog 105 5 [.agg 2 3] c105 := ⟨⟨Try.f105, Try.func105, rfl, by kernel_rfl, rfl, by kernel_rfl⟩⟩
theorem dec_not (a : Tree) : PCall Try.prog 105 [dtree a] (dtree (mk1 4 a)) := by
  refine pcall_intro c105_ok (by simp) (by simp [PureL, Pure, pure_dtree]) ?_ (pure_dtree _)
  (apply red_sound; focus (repeat' (first | exact Red.skip | exact Red.ret | exact RedO.nil | exact RedD.nil | exact Red.exit _ | exact Red.loop _ | exact Red.stop _ | apply Red.ops | apply Red.draw | apply Red.seq | apply Red.cond | apply Red.block | apply RedO.cons | apply RedD.cons | exact (0 : Nat))))
  ((conv => whnf); repeat (refine And.intro rfl ?_; (conv => whnf)))
  (refine .inl ⟨_, (dec_one 4 a), ?_⟩; ((conv => whnf); repeat (refine And.intro rfl ?_; (conv => whnf))))
  (repeat' (first | exact Deep.refl _ | exact Deep.none _ | exact deep_row _ | exact DeepL.nil | exact DeepLL.nil | refine Deep.agg _ _ ?_ | refine Deep.tup _ _ ?_ | refine Deep.own _ _ _ _ _ _ _ _ rfl ?_ | refine Deep.loc _ _ _ _ _ rfl ?_ | refine Deep.ifc _ _ _ ?_ | refine DeepL.cons _ _ _ _ ?_ ?_ | refine DeepLL.cons _ _ _ _ ?_ ?_))
def c106 : PC := .seq (.ops [⟨(some 1), .box (.tmp 0), none, 0⟩,
    ⟨(some 2), .alloc [(.int .i64 0), (.int .i64 0), (.slice none 0 0)], none, 0⟩] false) (.seq (.ops [⟨(some 3), .loadA 3 (.tmp 1), none, 0⟩,
    ⟨(some 4), .call 112 [(.const (.int .i64 10)), (.tmp 3)], none, 0⟩,
    ⟨none, .store 3 (.tmp 2) (.tmp 4), none, 0⟩] false) (.ret))
set_option maxRecDepth 100000 in
theorem c106_ok : FunOK Try.prog 106 5 [.agg 2 3] c106 := ⟨⟨Try.f106, Try.func106, rfl, by kernel_rfl, rfl, by kernel_rfl⟩⟩
theorem dec_some (a : Tree) : PCall Try.prog 106 [dtree a] (dtree (mk1 10 a)) := by
  refine pcall_intro c106_ok (by simp) (by simp [PureL, Pure, pure_dtree]) ?_ (pure_dtree _)
  (apply red_sound; focus (repeat' (first | exact Red.skip | exact Red.ret | exact RedO.nil | exact RedD.nil | exact Red.exit _ | exact Red.loop _ | exact Red.stop _ | apply Red.ops | apply Red.draw | apply Red.seq | apply Red.cond | apply Red.block | apply RedO.cons | apply RedD.cons | exact (0 : Nat))))
  ((conv => whnf); repeat (refine And.intro rfl ?_; (conv => whnf)))
  (refine .inl ⟨_, (dec_one 10 a), ?_⟩; ((conv => whnf); repeat (refine And.intro rfl ?_; (conv => whnf))))
  (repeat' (first | exact Deep.refl _ | exact Deep.none _ | exact deep_row _ | exact DeepL.nil | exact DeepLL.nil | refine Deep.agg _ _ ?_ | refine Deep.tup _ _ ?_ | refine Deep.own _ _ _ _ _ _ _ _ rfl ?_ | refine Deep.loc _ _ _ _ _ rfl ?_ | refine Deep.ifc _ _ _ ?_ | refine DeepL.cons _ _ _ _ ?_ ?_ | refine DeepLL.cons _ _ _ _ ?_ ?_))
def c103 : PC := .seq (.ops [⟨(some 1), .box (.tmp 0), none, 0⟩,
    ⟨(some 2), .alloc [(.int .i64 0), (.int .i64 0), (.slice none 0 0)], none, 0⟩] false) (.seq (.ops [⟨(some 3), .loadA 3 (.tmp 1), none, 0⟩,
    ⟨(some 4), .call 112 [(.const (.int .i64 11)), (.tmp 3)], none, 0⟩,
    ⟨none, .store 3 (.tmp 2) (.tmp 4), none, 0⟩] false) (.ret))
set_option maxRecDepth 100000 in
theorem c103_ok : FunOK Try.prog 103 5 [.agg 2 3] c103 := ⟨⟨Try.f103, Try.func103, rfl, by kernel_rfl, rfl, by kernel_rfl⟩⟩
theorem dec_always (a : Tree) : PCall Try.prog 103 [dtree a] (dtree (mk1 11 a)) := by
  refine pcall_intro c103_ok (by simp) (by simp [PureL, Pure, pure_dtree]) ?_ (pure_dtree _)
  (apply red_sound; focus (repeat' (first | exact Red.skip | exact Red.ret | exact RedO.nil | exact RedD.nil | exact Red.exit _ | exact Red.loop _ | exact Red.stop _ | apply Red.ops | apply Red.draw | apply Red.seq | apply Red.cond | apply Red.block | apply RedO.cons | apply RedD.cons | exact (0 : Nat))))
  ((conv => whnf); repeat (refine And.intro rfl ?_; (conv => whnf)))
  (refine .inl ⟨_, (dec_one 11 a), ?_⟩; ((conv => whnf); repeat (refine And.intro rfl ?_; (conv => whnf))))
  (repeat' (first | exact Deep.refl _ | exact Deep.none _ | exact deep_row _ | exact DeepL.nil | exact DeepLL.nil | refine Deep.agg _ _ ?_ | refine Deep.tup _ _ ?_ | refine Deep.own _ _ _ _ _ _ _ _ rfl ?_ | refine Deep.loc _ _ _ _ _ rfl ?_ | refine Deep.ifc _ _ _ ?_ | refine DeepL.cons _ _ _ _ ?_ ?_ | refine DeepLL.cons _ _ _ _ ?_ ?_))
def c110 : PC := .seq (.ops [⟨(some 2), .box (.tmp 0), none, 0⟩,
    ⟨(some 3), .box (.tmp 1), none, 0⟩,
    ⟨(some 4), .alloc [(.int .i64 0), (.int .i64 0), (.slice none 0 0)], none, 0⟩] false) (.seq (.ops [⟨(some 5), .loadA 3 (.tmp 2), none, 0⟩,
    ⟨(some 6), .loadA 3 (.tmp 3), none, 0⟩,
    ⟨(some 7), .call 108 [(.const (.int .i64 5)), (.tmp 5), (.tmp 6)], none, 0⟩,
    ⟨none, .store 3 (.tmp 4) (.tmp 7), none, 0⟩] false) (.ret))
set_option maxRecDepth 100000 in
theorem c110_ok : FunOK Try.prog 110 8 [.agg 4 3] c110 := ⟨⟨Try.f110, Try.func110, rfl, by kernel_rfl, rfl, by kernel_rfl⟩⟩
theorem dec_and (a b : Tree) : PCall Try.prog 110 [dtree a, dtree b] (dtree (mk2 5 a b)) := by
  refine pcall_intro c110_ok (by simp) (by simp [PureL, Pure, pure_dtree]) ?_ (pure_dtree _)
  (apply red_sound; focus (repeat' (first | exact Red.skip | exact Red.ret | exact RedO.nil | exact RedD.nil | exact Red.exit _ | exact Red.loop _ | exact Red.stop _ | apply Red.ops | apply Red.draw | apply Red.seq | apply Red.cond | apply Red.block | apply RedO.cons | apply RedD.cons | exact (0 : Nat))))
  ((conv => whnf); repeat (refine And.intro rfl ?_; (conv => whnf)))
  (refine .inl ⟨_, (dec_two 5 a b), ?_⟩; ((conv => whnf); repeat (refine And.intro rfl ?_; (conv => whnf))))
  (repeat' (first | exact Deep.refl _ | exact Deep.none _ | exact deep_row _ | exact DeepL.nil | exact DeepLL.nil | refine Deep.agg _ _ ?_ | refine Deep.tup _ _ ?_ | refine Deep.own _ _ _ _ _ _ _ _ rfl ?_ | refine Deep.loc _ _ _ _ _ rfl ?_ | refine Deep.ifc _ _ _ ?_ | refine DeepL.cons _ _ _ _ ?_ ?_ | refine DeepLL.cons _ _ _ _ ?_ ?_))
def c104 : PC := .seq (.ops [⟨(some 2), .box (.tmp 0), none, 0⟩,
    ⟨(some 3), .box (.tmp 1), none, 0⟩,
    ⟨(some 4), .alloc [(.int .i64 0), (.int .i64 0), (.slice none 0 0)], none, 0⟩] false) (.seq (.ops [⟨(some 5), .loadA 3 (.tmp 2), none, 0⟩,
    ⟨(some 6), .loadA 3 (.tmp 3), none, 0⟩,
    ⟨(some 7), .call 108 [(.const (.int .i64 6)), (.tmp 5), (.tmp 6)], none, 0⟩,
    ⟨none, .store 3 (.tmp 4) (.tmp 7), none, 0⟩] false) (.ret))
set_option maxRecDepth 100000 in
theorem c104_ok : FunOK Try.prog 104 8 [.agg 4 3] c104 := ⟨⟨Try.f104, Try.func104, rfl, by kernel_rfl, rfl, by kernel_rfl⟩⟩
theorem dec_or (a b : Tree) : PCall Try.prog 104 [dtree a, dtree b] (dtree (mk2 6 a b)) := by
  refine pcall_intro c104_ok (by simp) (by simp [PureL, Pure, pure_dtree]) ?_ (pure_dtree _)
  (apply red_sound; focus (repeat' (first | exact Red.skip | exact Red.ret | exact RedO.nil | exact RedD.nil | exact Red.exit _ | exact Red.loop _ | exact Red.stop _ | apply Red.ops | apply Red.draw | apply Red.seq | apply Red.cond | apply Red.block | apply RedO.cons | apply RedD.cons | exact (0 : Nat))))
  ((conv => whnf); repeat (refine And.intro rfl ?_; (conv => whnf)))
  (refine .inl ⟨_, (dec_two 6 a b), ?_⟩; ((conv => whnf); repeat (refine And.intro rfl ?_; (conv => whnf))))
  (repeat' (first | exact Deep.refl _ | exact Deep.none _ | exact deep_row _ | exact DeepL.nil | exact DeepLL.nil | refine Deep.agg _ _ ?_ | refine Deep.tup _ _ ?_ | refine Deep.own _ _ _ _ _ _ _ _ rfl ?_ | refine Deep.loc _ _ _ _ _ rfl ?_ | refine Deep.ifc _ _ _ ?_ | refine DeepL.cons _ _ _ _ ?_ ?_ | refine DeepLL.cons _ _ _ _ ?_ ?_))
def c135 : PC := .seq (.ops [⟨(some 1), .box (.tmp 0), none, 0⟩,
    ⟨(some 2), .alloc [(.int .i64 0), (.int .i64 0), (.slice none 0 0)], none, 0⟩] false) (.seq (.ops [⟨(some 3), .loadA 3 (.tmp 1), none, 0⟩,
    ⟨(some 4), .call 137 [(.const (.int .i64 4)), (.tmp 3)], none, 0⟩,
    ⟨none, .store 3 (.tmp 2) (.tmp 4), none, 0⟩] false) (.ret))
set_option maxRecDepth 100000 in
theorem c135_ok : FunOK Try.prog 135 5 [.agg 2 3] c135 := ⟨⟨Try.f135, Try.func135, rfl, by kernel_rfl, rfl, by kernel_rfl⟩⟩
theorem dwy_not (a : Tree) : PCall Try.prog 135 [dtree a] (dtree (mk1 4 a)) := by
  refine pcall_intro c135_ok (by simp) (by simp [PureL, Pure, pure_dtree]) ?_ (pure_dtree _)
  (apply red_sound; focus (repeat' (first | exact Red.skip | exact Red.ret | exact RedO.nil | exact RedD.nil | exact Red.exit _ | exact Red.loop _ | exact Red.stop _ | apply Red.ops | apply Red.draw | apply Red.seq | apply Red.cond | apply Red.block | apply RedO.cons | apply RedD.cons | exact (0 : Nat))))
  ((conv => whnf); repeat (refine And.intro rfl ?_; (conv => whnf)))
  (refine .inl ⟨_, (dwy_one 4 a), ?_⟩; ((conv => whnf); repeat (refine And.intro rfl ?_; (conv => whnf))))
  (repeat' (first | exact Deep.refl _ | exact Deep.none _ | exact deep_row _ | exact DeepL.nil | exact DeepLL.nil | refine Deep.agg _ _ ?_ | refine Deep.tup _ _ ?_ | refine Deep.own _ _ _ _ _ _ _ _ rfl ?_ | refine Deep.loc _ _ _ _ _ rfl ?_ | refine Deep.ifc _ _ _ ?_ | refine DeepL.cons _ _ _ _ ?_ ?_ | refine DeepLL.cons _ _ _ _ ?_ ?_))
def c139 : PC := .seq (.ops [⟨(some 1), .box (.tmp 0), none, 0⟩,
    ⟨(some 2), .alloc [(.int .i64 0), (.int .i64 0), (.slice none 0 0)], none, 0⟩] false) (.seq (.ops [⟨(some 3), .loadA 3 (.tmp 1), none, 0⟩,
    ⟨(some 4), .call 137 [(.const (.int .i64 11)), (.tmp 3)], none, 0⟩,
    ⟨none, .store 3 (.tmp 2) (.tmp 4), none, 0⟩] false) (.ret))
set_option maxRecDepth 100000 in
theorem c139_ok : FunOK Try.prog 139 5 [.agg 2 3] c139 := ⟨⟨Try.f139, Try.func139, rfl, by kernel_rfl, rfl, by kernel_rfl⟩⟩
theorem dwy_always (a : Tree) : PCall Try.prog 139 [dtree a] (dtree (mk1 11 a)) := by
  refine pcall_intro c139_ok (by simp) (by simp [PureL, Pure, pure_dtree]) ?_ (pure_dtree _)
  (apply red_sound; focus (repeat' (first | exact Red.skip | exact Red.ret | exact RedO.nil | exact RedD.nil | exact Red.exit _ | exact Red.loop _ | exact Red.stop _ | apply Red.ops | apply Red.draw | apply Red.seq | apply Red.cond | apply Red.block | apply RedO.cons | apply RedD.cons | exact (0 : Nat))))
  ((conv => whnf); repeat (refine And.intro rfl ?_; (conv => whnf)))
  (refine .inl ⟨_, (dwy_one 11 a), ?_⟩; ((conv => whnf); repeat (refine And.intro rfl ?_; (conv => whnf))))
  (repeat' (first | exact Deep.refl _ | exact Deep.none _ | exact deep_row _ | exact DeepL.nil | exact DeepLL.nil | refine Deep.agg _ _ ?_ | refine Deep.tup _ _ ?_ | refine Deep.own _ _ _ _ _ _ _ _ rfl ?_ | refine Deep.loc _ _ _ _ _ rfl ?_ | refine Deep.ifc _ _ _ ?_ | refine DeepL.cons _ _ _ _ ?_ ?_ | refine DeepLL.cons _ _ _ _ ?_ ?_))
def c141 : PC := .seq (.ops [⟨(some 2), .box (.tmp 0), none, 0⟩,
    ⟨(some 3), .box (.tmp 1), none, 0⟩,
    ⟨(some 4), .alloc [(.int .i64 0), (.int .i64 0), (.slice none 0 0)], none, 0⟩] false) (.seq (.ops [⟨(some 5), .loadA 3 (.tmp 2), none, 0⟩,
    ⟨(some 6), .loadA 3 (.tmp 3), none, 0⟩,
    ⟨(some 7), .call 157 [(.const (.int .i64 5)), (.tmp 5), (.tmp 6)], none, 0⟩,
    ⟨none, .store 3 (.tmp 4) (.tmp 7), none, 0⟩] false) (.ret))
set_option maxRecDepth 100000 in
theorem c141_ok : FunOK Try.prog 141 8 [.agg 4 3] c141 := ⟨⟨Try.f141, Try.func141, rfl, by kernel_rfl, rfl, by kernel_rfl⟩⟩
theorem dwy_and (a b : Tree) : PCall Try.prog 141 [dtree a, dtree b] (dtree (mk2 5 a b)) := by
  refine pcall_intro c141_ok (by simp) (by simp [PureL, Pure, pure_dtree]) ?_ (pure_dtree _)
  (apply red_sound; focus (repeat' (first | exact Red.skip | exact Red.ret | exact RedO.nil | exact RedD.nil | exact Red.exit _ | exact Red.loop _ | exact Red.stop _ | apply Red.ops | apply Red.draw | apply Red.seq | apply Red.cond | apply Red.block | apply RedO.cons | apply RedD.cons | exact (0 : Nat))))
  ((conv => whnf); repeat (refine And.intro rfl ?_; (conv => whnf)))
  (refine .inl ⟨_, (dwy_two 5 a b), ?_⟩; ((conv => whnf); repeat (refine And.intro rfl ?_; (conv => whnf))))
  (repeat' (first | exact Deep.refl _ | exact Deep.none _ | exact deep_row _ | exact DeepL.nil | exact DeepLL.nil | refine Deep.agg _ _ ?_ | refine Deep.tup _ _ ?_ | refine Deep.own _ _ _ _ _ _ _ _ rfl ?_ | refine Deep.loc _ _ _ _ _ rfl ?_ | refine Deep.ifc _ _ _ ?_ | refine DeepL.cons _ _ _ _ ?_ ?_ | refine DeepLL.cons _ _ _ _ ?_ ?_))
def c136 : PC := .seq (.ops [⟨(some 2), .box (.tmp 0), none, 0⟩,
    ⟨(some 3), .box (.tmp 1), none, 0⟩,
    ⟨(some 4), .alloc [(.int .i64 0), (.int .i64 0), (.slice none 0 0)], none, 0⟩] false) (.seq (.ops [⟨(some 5), .loadA 3 (.tmp 2), none, 0⟩,
    ⟨(some 6), .loadA 3 (.tmp 3), none, 0⟩,
    ⟨(some 7), .call 157 [(.const (.int .i64 6)), (.tmp 5), (.tmp 6)], none, 0⟩,
    ⟨none, .store 3 (.tmp 4) (.tmp 7), none, 0⟩] false) (.ret))
set_option maxRecDepth 100000 in
theorem c136_ok : FunOK Try.prog 136 8 [.agg 4 3] c136 := ⟨⟨Try.f136, Try.func136, rfl, by kernel_rfl, rfl, by kernel_rfl⟩⟩
theorem dwy_or (a b : Tree) : PCall Try.prog 136 [dtree a, dtree b] (dtree (mk2 6 a b)) := by
  refine pcall_intro c136_ok (by simp) (by simp [PureL, Pure, pure_dtree]) ?_ (pure_dtree _)
  (apply red_sound; focus (repeat' (first | exact Red.skip | exact Red.ret | exact RedO.nil | exact RedD.nil | exact Red.exit _ | exact Red.loop _ | exact Red.stop _ | apply Red.ops | apply Red.draw | apply Red.seq | apply Red.cond | apply Red.block | apply RedO.cons | apply RedD.cons | exact (0 : Nat))))
  ((conv => whnf); repeat (refine And.intro rfl ?_; (conv => whnf)))
  (refine .inl ⟨_, (dwy_two 6 a b), ?_⟩; ((conv => whnf); repeat (refine And.intro rfl ?_; (conv => whnf))))
  (repeat' (first | exact Deep.refl _ | exact Deep.none _ | exact deep_row _ | exact DeepL.nil | exact DeepLL.nil | refine Deep.agg _ _ ?_ | refine Deep.tup _ _ ?_ | refine Deep.own _ _ _ _ _ _ _ _ rfl ?_ | refine Deep.loc _ _ _ _ _ rfl ?_ | refine Deep.ifc _ _ _ ?_ | refine DeepL.cons _ _ _ _ ?_ ?_ | refine DeepLL.cons _ _ _ _ ?_ ?_))
def c140 : PC := .seq (.ops [⟨(some 2), .box (.tmp 0), none, 0⟩,
    ⟨(some 3), .box (.tmp 1), none, 0⟩,
    ⟨(some 4), .alloc [(.int .i64 0), (.int .i64 0), (.slice none 0 0)], none, 0⟩] false) (.seq (.ops [⟨(some 5), .loadA 3 (.tmp 2), none, 0⟩,
    ⟨(some 6), .loadA 3 (.tmp 3), none, 0⟩,
    ⟨(some 7), .call 157 [(.const (.int .i64 8)), (.tmp 5), (.tmp 6)], none, 0⟩,
    ⟨none, .store 3 (.tmp 4) (.tmp 7), none, 0⟩] false) (.ret))
set_option maxRecDepth 100000 in
theorem c140_ok : FunOK Try.prog 140 8 [.agg 4 3] c140 := ⟨⟨Try.f140, Try.func140, rfl, by kernel_rfl, rfl, by kernel_rfl⟩⟩
theorem dwy_until (a b : Tree) : PCall Try.prog 140 [dtree a, dtree b] (dtree (mk2 8 a b)) := by
  refine pcall_intro c140_ok (by simp) (by simp [PureL, Pure, pure_dtree]) ?_ (pure_dtree _)
  (apply red_sound; focus (repeat' (first | exact Red.skip | exact Red.ret | exact RedO.nil | exact RedD.nil | exact Red.exit _ | exact Red.loop _ | exact Red.stop _ | apply Red.ops | apply Red.draw | apply Red.seq | apply Red.cond | apply Red.block | apply RedO.cons | apply RedD.cons | exact (0 : Nat))))
  ((conv => whnf); repeat (refine And.intro rfl ?_; (conv => whnf)))
  (refine .inl ⟨_, (dwy_two 8 a b), ?_⟩; ((conv => whnf); repeat (refine And.intro rfl ?_; (conv => whnf))))
  (repeat' (first | exact Deep.refl _ | exact Deep.none _ | exact deep_row _ | exact DeepL.nil | exact DeepLL.nil | refine Deep.agg _ _ ?_ | refine Deep.tup _ _ ?_ | refine Deep.own _ _ _ _ _ _ _ _ rfl ?_ | refine Deep.loc _ _ _ _ _ rfl ?_ | refine Deep.ifc _ _ _ ?_ | refine DeepL.cons _ _ _ _ ?_ ?_ | refine DeepLL.cons _ _ _ _ ?_ ?_))
end Go.Proofs.Ytkkfiadefekbbaa
