/-
  The makers of formulas, over deep values. No statement is proved here.
-/
import Derived.Test.YtcgjbhnljjlffaaDk2
import Derived.Test.YtcgjbhnljjlffaaProg
namespace Go.Proofs.Ytcgjbhnljjlffaa
open Go.RowKit
set_option linter.unusedSimpArgs false
theorem small_mk0 (k n : Int) : Small (mk0 k n) := .mk _ (by simp [mk0, Tree.width, Tree.kids]) fun j hj => by simp [mk0, Tree.width, Tree.kids] at hj
theorem small_mk1 {k : Int} {a : Tree} (h : Small a) : Small (mk1 k a) := .mk _ (by simp [mk1, Tree.width, Tree.kids]) fun j hj => by
  simp [mk1, Tree.width, Tree.kids] at hj
  subst hj
  exact h
theorem small_mk2 {k : Int} {a b : Tree} (h : Small a) (h' : Small b) : Small (mk2 k a b) := .mk _ (by simp [mk2, Tree.width, Tree.kids]) fun j hj => by
  simp [mk2, Tree.width, Tree.kids] at hj
  match j with
  | 0 => exact h
  | 1 => exact h'
theorem small_ite (p : Prop) [Decidable p] {a b : Tree} (h : Small a) (k : Small b) : Small (if p then a else b) := by split <;> assumption
def c241 : PC := .seq (.ops [⟨(some 3), .box (.tmp 1), none, 0⟩,
    ⟨(some 4), .alloc [(.int .i64 0), (.int .i64 0), (.slice none 0 0)], none, 0⟩] false) (.seq (.ops [⟨(some 5), .move (.tmp 0), none, 0⟩,
    ⟨(some 6), .loadA 3 (.tmp 3), none, 0⟩,
    ⟨(some 7), .bslice 3 1 [(.tmp 6)], none, 0⟩,
    ⟨(some 8), .build [(.int .i64 0), (.int .i64 0), (.slice none 0 0)] [(0, 1, (.tmp 5)), (2, 1, (.tmp 7))], none, 0⟩,
    ⟨none, .store 3 (.tmp 4) (.tmp 8), none, 0⟩] false) (.ret))
set_option maxRecDepth 100000 in
theorem c241_ok : FunOK Try.prog 241 9 [.agg 4 3] c241 := ⟨⟨Try.f241, Try.func241, rfl, by kernel_rfl, rfl, by kernel_rfl⟩⟩
theorem ref_one (k : Int) (a : Tree) : PCall Try.prog 241 [.sc (.int .i64 k), dtree a] (dtree (mk1 k a)) := by
  refine pcall_intro c241_ok (by simp) (by simp [PureL, Pure, pure_dtree]) ?_ (pure_dtree _)
  (apply red_sound; focus (repeat' (first | exact Red.skip | exact Red.ret | exact RedO.nil | exact RedD.nil | exact Red.exit _ | exact Red.loop _ | exact Red.stop _ | apply Red.ops | apply Red.draw | apply Red.seq | apply Red.cond | apply Red.block | apply RedO.cons | apply RedD.cons | exact (0 : Nat))))
  ((conv => whnf); repeat (refine And.intro rfl ?_; (conv => whnf)))
  (repeat' (first | exact Deep.refl _ | exact Deep.none _ | exact deep_row _ | exact DeepL.nil | exact DeepLL.nil | refine Deep.agg _ _ ?_ | refine Deep.tup _ _ ?_ | refine Deep.own _ _ _ _ _ _ _ _ rfl ?_ | refine Deep.loc _ _ _ _ _ rfl ?_ | refine Deep.ifc _ _ _ ?_ | refine Deep.fn _ _ _ _ _ ?_ ?_ | refine DeepL.cons _ _ _ _ ?_ ?_ | refine DeepLL.cons _ _ _ _ ?_ ?_))
def c244 : PC := .seq (.ops [⟨(some 4), .box (.tmp 1), none, 0⟩,
    ⟨(some 5), .box (.tmp 2), none, 0⟩,
    ⟨(some 6), .alloc [(.int .i64 0), (.int .i64 0), (.slice none 0 0)], none, 0⟩] false) (.seq (.ops [⟨(some 7), .move (.tmp 0), none, 0⟩,
    ⟨(some 8), .loadA 3 (.tmp 4), none, 0⟩,
    ⟨(some 9), .loadA 3 (.tmp 5), none, 0⟩,
    ⟨(some 10), .bslice 3 2 [(.tmp 8), (.tmp 9)], none, 0⟩,
    ⟨(some 11), .build [(.int .i64 0), (.int .i64 0), (.slice none 0 0)] [(0, 1, (.tmp 7)), (2, 1, (.tmp 10))], none, 0⟩,
    ⟨none, .store 3 (.tmp 6) (.tmp 11), none, 0⟩] false) (.ret))
set_option maxRecDepth 100000 in
theorem c244_ok : FunOK Try.prog 244 12 [.agg 6 3] c244 := ⟨⟨Try.f244, Try.func244, rfl, by kernel_rfl, rfl, by kernel_rfl⟩⟩
theorem ref_two (k : Int) (a b : Tree) : PCall Try.prog 244 [.sc (.int .i64 k), dtree a, dtree b] (dtree (mk2 k a b)) := by
  refine pcall_intro c244_ok (by simp) (by simp [PureL, Pure, pure_dtree]) ?_ (pure_dtree _)
  (apply red_sound; focus (repeat' (first | exact Red.skip | exact Red.ret | exact RedO.nil | exact RedD.nil | exact Red.exit _ | exact Red.loop _ | exact Red.stop _ | apply Red.ops | apply Red.draw | apply Red.seq | apply Red.cond | apply Red.block | apply RedO.cons | apply RedD.cons | exact (0 : Nat))))
  ((conv => whnf); repeat (refine And.intro rfl ?_; (conv => whnf)))
  (repeat' (first | exact Deep.refl _ | exact Deep.none _ | exact deep_row _ | exact DeepL.nil | exact DeepLL.nil | refine Deep.agg _ _ ?_ | refine Deep.tup _ _ ?_ | refine Deep.own _ _ _ _ _ _ _ _ rfl ?_ | refine Deep.loc _ _ _ _ _ rfl ?_ | refine Deep.ifc _ _ _ ?_ | refine Deep.fn _ _ _ _ _ ?_ ?_ | refine DeepL.cons _ _ _ _ ?_ ?_ | refine DeepLL.cons _ _ _ _ ?_ ?_))
def c237 : PC := .seq (.ops [⟨(some 3), .box (.tmp 1), none, 0⟩,
    ⟨(some 4), .alloc [(.int .i64 0), (.int .i64 0), (.slice none 0 0)], none, 0⟩] false) (.seq (.ops [⟨(some 5), .move (.tmp 0), none, 0⟩,
    ⟨(some 6), .loadA 3 (.tmp 3), none, 0⟩,
    ⟨(some 7), .bslice 3 1 [(.tmp 6)], none, 0⟩,
    ⟨(some 8), .build [(.int .i64 0), (.int .i64 0), (.slice none 0 0)] [(0, 1, (.tmp 5)), (2, 1, (.tmp 7))], none, 0⟩,
    ⟨none, .store 3 (.tmp 4) (.tmp 8), none, 0⟩] false) (.ret))
set_option maxRecDepth 100000 in
theorem c237_ok : FunOK Try.prog 237 9 [.agg 4 3] c237 := ⟨⟨Try.f237, Try.func237, rfl, by kernel_rfl, rfl, by kernel_rfl⟩⟩
theorem dec_one (k : Int) (a : Tree) : PCall Try.prog 237 [.sc (.int .i64 k), dtree a] (dtree (mk1 k a)) := by
  refine pcall_intro c237_ok (by simp) (by simp [PureL, Pure, pure_dtree]) ?_ (pure_dtree _)
  (apply red_sound; focus (repeat' (first | exact Red.skip | exact Red.ret | exact RedO.nil | exact RedD.nil | exact Red.exit _ | exact Red.loop _ | exact Red.stop _ | apply Red.ops | apply Red.draw | apply Red.seq | apply Red.cond | apply Red.block | apply RedO.cons | apply RedD.cons | exact (0 : Nat))))
  ((conv => whnf); repeat (refine And.intro rfl ?_; (conv => whnf)))
  (repeat' (first | exact Deep.refl _ | exact Deep.none _ | exact deep_row _ | exact DeepL.nil | exact DeepLL.nil | refine Deep.agg _ _ ?_ | refine Deep.tup _ _ ?_ | refine Deep.own _ _ _ _ _ _ _ _ rfl ?_ | refine Deep.loc _ _ _ _ _ rfl ?_ | refine Deep.ifc _ _ _ ?_ | refine Deep.fn _ _ _ _ _ ?_ ?_ | refine DeepL.cons _ _ _ _ ?_ ?_ | refine DeepLL.cons _ _ _ _ ?_ ?_))
def c233 : PC := .seq (.ops [⟨(some 4), .box (.tmp 1), none, 0⟩,
    ⟨(some 5), .box (.tmp 2), none, 0⟩,
    ⟨(some 6), .alloc [(.int .i64 0), (.int .i64 0), (.slice none 0 0)], none, 0⟩] false) (.seq (.ops [⟨(some 7), .move (.tmp 0), none, 0⟩,
    ⟨(some 8), .loadA 3 (.tmp 4), none, 0⟩,
    ⟨(some 9), .loadA 3 (.tmp 5), none, 0⟩,
    ⟨(some 10), .bslice 3 2 [(.tmp 8), (.tmp 9)], none, 0⟩,
    ⟨(some 11), .build [(.int .i64 0), (.int .i64 0), (.slice none 0 0)] [(0, 1, (.tmp 7)), (2, 1, (.tmp 10))], none, 0⟩,
    ⟨none, .store 3 (.tmp 6) (.tmp 11), none, 0⟩] false) (.ret))
set_option maxRecDepth 100000 in
theorem c233_ok : FunOK Try.prog 233 12 [.agg 6 3] c233 := ⟨⟨Try.f233, Try.func233, rfl, by kernel_rfl, rfl, by kernel_rfl⟩⟩
theorem dec_two (k : Int) (a b : Tree) : PCall Try.prog 233 [.sc (.int .i64 k), dtree a, dtree b] (dtree (mk2 k a b)) := by
  refine pcall_intro c233_ok (by simp) (by simp [PureL, Pure, pure_dtree]) ?_ (pure_dtree _)
  (apply red_sound; focus (repeat' (first | exact Red.skip | exact Red.ret | exact RedO.nil | exact RedD.nil | exact Red.exit _ | exact Red.loop _ | exact Red.stop _ | apply Red.ops | apply Red.draw | apply Red.seq | apply Red.cond | apply Red.block | apply RedO.cons | apply RedD.cons | exact (0 : Nat))))
  ((conv => whnf); repeat (refine And.intro rfl ?_; (conv => whnf)))
  (repeat' (first | exact Deep.refl _ | exact Deep.none _ | exact deep_row _ | exact DeepL.nil | exact DeepLL.nil | refine Deep.agg _ _ ?_ | refine Deep.tup _ _ ?_ | refine Deep.own _ _ _ _ _ _ _ _ rfl ?_ | refine Deep.loc _ _ _ _ _ rfl ?_ | refine Deep.ifc _ _ _ ?_ | refine Deep.fn _ _ _ _ _ ?_ ?_ | refine DeepL.cons _ _ _ _ ?_ ?_ | refine DeepLL.cons _ _ _ _ ?_ ?_))
def c218 : PC := .seq (.ops [⟨(some 3), .box (.tmp 1), none, 0⟩,
    ⟨(some 4), .alloc [(.int .i64 0), (.int .i64 0), (.slice none 0 0)], none, 0⟩] false) (.seq (.ops [⟨(some 5), .move (.tmp 0), none, 0⟩,
    ⟨(some 6), .loadA 3 (.tmp 3), none, 0⟩,
    ⟨(some 7), .bslice 3 1 [(.tmp 6)], none, 0⟩,
    ⟨(some 8), .build [(.int .i64 0), (.int .i64 0), (.slice none 0 0)] [(0, 1, (.tmp 5)), (2, 1, (.tmp 7))], none, 0⟩,
    ⟨none, .store 3 (.tmp 4) (.tmp 8), none, 0⟩] false) (.ret))
set_option maxRecDepth 100000 in
theorem c218_ok : FunOK Try.prog 218 9 [.agg 4 3] c218 := ⟨⟨Try.f218, Try.func218, rfl, by kernel_rfl, rfl, by kernel_rfl⟩⟩
theorem dwy_one (k : Int) (a : Tree) : PCall Try.prog 218 [.sc (.int .i64 k), dtree a] (dtree (mk1 k a)) := by
  refine pcall_intro c218_ok (by simp) (by simp [PureL, Pure, pure_dtree]) ?_ (pure_dtree _)
  (apply red_sound; focus (repeat' (first | exact Red.skip | exact Red.ret | exact RedO.nil | exact RedD.nil | exact Red.exit _ | exact Red.loop _ | exact Red.stop _ | apply Red.ops | apply Red.draw | apply Red.seq | apply Red.cond | apply Red.block | apply RedO.cons | apply RedD.cons | exact (0 : Nat))))
  ((conv => whnf); repeat (refine And.intro rfl ?_; (conv => whnf)))
  (repeat' (first | exact Deep.refl _ | exact Deep.none _ | exact deep_row _ | exact DeepL.nil | exact DeepLL.nil | refine Deep.agg _ _ ?_ | refine Deep.tup _ _ ?_ | refine Deep.own _ _ _ _ _ _ _ _ rfl ?_ | refine Deep.loc _ _ _ _ _ rfl ?_ | refine Deep.ifc _ _ _ ?_ | refine Deep.fn _ _ _ _ _ ?_ ?_ | refine DeepL.cons _ _ _ _ ?_ ?_ | refine DeepLL.cons _ _ _ _ ?_ ?_))
def c253 : PC := .seq (.ops [⟨(some 4), .box (.tmp 1), none, 0⟩,
    ⟨(some 5), .box (.tmp 2), none, 0⟩,
    ⟨(some 6), .alloc [(.int .i64 0), (.int .i64 0), (.slice none 0 0)], none, 0⟩] false) (.seq (.ops [⟨(some 7), .move (.tmp 0), none, 0⟩,
    ⟨(some 8), .loadA 3 (.tmp 4), none, 0⟩,
    ⟨(some 9), .loadA 3 (.tmp 5), none, 0⟩,
    ⟨(some 10), .bslice 3 2 [(.tmp 8), (.tmp 9)], none, 0⟩,
    ⟨(some 11), .build [(.int .i64 0), (.int .i64 0), (.slice none 0 0)] [(0, 1, (.tmp 7)), (2, 1, (.tmp 10))], none, 0⟩,
    ⟨none, .store 3 (.tmp 6) (.tmp 11), none, 0⟩] false) (.ret))
set_option maxRecDepth 100000 in
theorem c253_ok : FunOK Try.prog 253 12 [.agg 6 3] c253 := ⟨⟨Try.f253, Try.func253, rfl, by kernel_rfl, rfl, by kernel_rfl⟩⟩
theorem dwy_two (k : Int) (a b : Tree) : PCall Try.prog 253 [.sc (.int .i64 k), dtree a, dtree b] (dtree (mk2 k a b)) := by
  refine pcall_intro c253_ok (by simp) (by simp [PureL, Pure, pure_dtree]) ?_ (pure_dtree _)
  (apply red_sound; focus (repeat' (first | exact Red.skip | exact Red.ret | exact RedO.nil | exact RedD.nil | exact Red.exit _ | exact Red.loop _ | exact Red.stop _ | apply Red.ops | apply Red.draw | apply Red.seq | apply Red.cond | apply Red.block | apply RedO.cons | apply RedD.cons | exact (0 : Nat))))
  ((conv => whnf); repeat (refine And.intro rfl ?_; (conv => whnf)))
  (repeat' (first | exact Deep.refl _ | exact Deep.none _ | exact deep_row _ | exact DeepL.nil | exact DeepLL.nil | refine Deep.agg _ _ ?_ | refine Deep.tup _ _ ?_ | refine Deep.own _ _ _ _ _ _ _ _ rfl ?_ | refine Deep.loc _ _ _ _ _ rfl ?_ | refine Deep.ifc _ _ _ ?_ | refine Deep.fn _ _ _ _ _ ?_ ?_ | refine DeepL.cons _ _ _ _ ?_ ?_ | refine DeepLL.cons _ _ _ _ ?_ ?_))
def c261 : PC := .seq (.ops [⟨(some 4), .alloc [(.int .i64 0), (.int .i64 0), (.slice none 0 0)], none, 0⟩] false) (.seq (.ops [⟨(some 5), .move (.tmp 0), none, 0⟩,
    ⟨(some 6), .move (.tmp 1), none, 0⟩,
    ⟨(some 7), .build [(.int .i64 0), (.int .i64 0), (.slice none 0 0)] [(0, 1, (.tmp 5)), (1, 1, (.tmp 6))], none, 0⟩,
    ⟨none, .store 3 (.tmp 4) (.tmp 7), none, 0⟩] false) (.ret))
set_option maxRecDepth 100000 in
theorem c261_ok : FunOK Try.prog 261 8 [.agg 4 3] c261 := ⟨⟨Try.f261, Try.func261, rfl, by kernel_rfl, rfl, by kernel_rfl⟩⟩
theorem ref_leaf (k n : Int) : PCall Try.prog 261 [.sc (.int .i64 k), .sc (.int .i64 n)] (dtree (mk0 k n)) := by
  refine pcall_intro c261_ok (by simp) (by simp [PureL, Pure]) ?_ (pure_dtree _)
  (apply red_sound; focus (repeat' (first | exact Red.skip | exact Red.ret | exact RedO.nil | exact RedD.nil | exact Red.exit _ | exact Red.loop _ | exact Red.stop _ | apply Red.ops | apply Red.draw | apply Red.seq | apply Red.cond | apply Red.block | apply RedO.cons | apply RedD.cons | exact (0 : Nat))))
  ((conv => whnf); repeat (refine And.intro rfl ?_; (conv => whnf)))
  (repeat' (first | exact Deep.refl _ | exact Deep.none _ | exact deep_row _ | exact DeepL.nil | exact DeepLL.nil | refine Deep.agg _ _ ?_ | refine Deep.tup _ _ ?_ | refine Deep.own _ _ _ _ _ _ _ _ rfl ?_ | refine Deep.loc _ _ _ _ _ rfl ?_ | refine Deep.ifc _ _ _ ?_ | refine Deep.fn _ _ _ _ _ ?_ ?_ | refine DeepL.cons _ _ _ _ ?_ ?_ | refine DeepLL.cons _ _ _ _ ?_ ?_))
def c215 : PC := .seq (.ops [⟨(some 2), .alloc [(.int .i64 0), (.int .i64 0), (.slice none 0 0)], none, 0⟩] false) (.seq (.ops [⟨(some 3), .move (.tmp 0), none, 0⟩,
    ⟨(some 4), .build [(.int .i64 0), (.int .i64 0), (.slice none 0 0)] [(0, 1, (.const (.int .i64 3))), (1, 1, (.tmp 3))], none, 0⟩,
    ⟨none, .store 3 (.tmp 2) (.tmp 4), none, 0⟩] false) (.ret))
set_option maxRecDepth 100000 in
theorem c215_ok : FunOK Try.prog 215 5 [.agg 2 3] c215 := ⟨⟨Try.f215, Try.func215, rfl, by kernel_rfl, rfl, by kernel_rfl⟩⟩
theorem dwy_leaf (n : Int) : PCall Try.prog 215 [.sc (.int .i64 n)] (dtree (mk0 3 n)) := by
  refine pcall_intro c215_ok (by simp) (by simp [PureL, Pure]) ?_ (pure_dtree _)
  (apply red_sound; focus (repeat' (first | exact Red.skip | exact Red.ret | exact RedO.nil | exact RedD.nil | exact Red.exit _ | exact Red.loop _ | exact Red.stop _ | apply Red.ops | apply Red.draw | apply Red.seq | apply Red.cond | apply Red.block | apply RedO.cons | apply RedD.cons | exact (0 : Nat))))
  ((conv => whnf); repeat (refine And.intro rfl ?_; (conv => whnf)))
  (repeat' (first | exact Deep.refl _ | exact Deep.none _ | exact deep_row _ | exact DeepL.nil | exact DeepLL.nil | refine Deep.agg _ _ ?_ | refine Deep.tup _ _ ?_ | refine Deep.own _ _ _ _ _ _ _ _ rfl ?_ | refine Deep.loc _ _ _ _ _ rfl ?_ | refine Deep.ifc _ _ _ ?_ | refine Deep.fn _ _ _ _ _ ?_ ?_ | refine DeepL.cons _ _ _ _ ?_ ?_ | refine DeepLL.cons _ _ _ _ ?_ ?_))
def c236 : PC := .seq (.ops [⟨(some 2), .alloc [(.int .i64 0), (.int .i64 0), (.slice none 0 0)], none, 0⟩] false) (.seq (.ops [⟨(some 3), .move (.tmp 0), none, 0⟩,
    ⟨(some 4), .build [(.int .i64 0), (.int .i64 0), (.slice none 0 0)] [(0, 1, (.const (.int .i64 3))), (1, 1, (.tmp 3))], none, 0⟩,
    ⟨none, .store 3 (.tmp 2) (.tmp 4), none, 0⟩] false) (.ret))
set_option maxRecDepth 100000 in
theorem c236_ok : FunOK Try.prog 236 5 [.agg 2 3] c236 := ⟨⟨Try.f236, Try.func236, rfl, by kernel_rfl, rfl, by kernel_rfl⟩⟩
theorem dec_atom (n : Int) : PCall Try.prog 236 [.sc (.int .i64 n)] (dtree (mk0 3 n)) := by
  refine pcall_intro c236_ok (by simp) (by simp [PureL, Pure]) ?_ (pure_dtree _)
  (apply red_sound; focus (repeat' (first | exact Red.skip | exact Red.ret | exact RedO.nil | exact RedD.nil | exact Red.exit _ | exact Red.loop _ | exact Red.stop _ | apply Red.ops | apply Red.draw | apply Red.seq | apply Red.cond | apply Red.block | apply RedO.cons | apply RedD.cons | exact (0 : Nat))))
  ((conv => whnf); repeat (refine And.intro rfl ?_; (conv => whnf)))
  (repeat' (first | exact Deep.refl _ | exact Deep.none _ | exact deep_row _ | exact DeepL.nil | exact DeepLL.nil | refine Deep.agg _ _ ?_ | refine Deep.tup _ _ ?_ | refine Deep.own _ _ _ _ _ _ _ _ rfl ?_ | refine Deep.loc _ _ _ _ _ rfl ?_ | refine Deep.ifc _ _ _ ?_ | refine Deep.fn _ _ _ _ _ ?_ ?_ | refine DeepL.cons _ _ _ _ ?_ ?_ | refine DeepLL.cons _ _ _ _ ?_ ?_))
def c242 : PC := .seq (.ops [⟨(some 2), .alloc [(.int .i64 0), (.int .i64 0), (.slice none 0 0)], none, 0⟩] false) (.seq (.ops [⟨(some 3), .move (.tmp 0), none, 0⟩,
    ⟨(some 4), .call 261 [(.const (.int .i64 3)), (.tmp 3)], none, 0⟩,
    ⟨none, .store 3 (.tmp 2) (.tmp 4), none, 0⟩] false) (.ret))
set_option maxRecDepth 100000 in
theorem c242_ok : FunOK Try.prog 242 5 [.agg 2 3] c242 := ⟨⟨Try.f242, Try.func242, rfl, by kernel_rfl, rfl, by kernel_rfl⟩⟩
theorem ref_atom (n : Int) : PCall Try.prog 242 [.sc (.int .i64 n)] (dtree (mk0 3 n)) := by
  refine pcall_intro c242_ok (by simp) (by simp [PureL, Pure]) ?_ (pure_dtree _)
  (apply red_sound; focus (repeat' (first | exact Red.skip | exact Red.ret | exact RedO.nil | exact RedD.nil | exact Red.exit _ | exact Red.loop _ | exact Red.stop _ | apply Red.ops | apply Red.draw | apply Red.seq | apply Red.cond | apply Red.block | apply RedO.cons | apply RedD.cons | exact (0 : Nat))))
  ((conv => whnf); repeat (refine And.intro rfl ?_; (conv => whnf)))
  (refine .inl ⟨_, (ref_leaf 3 n), ?_⟩; ((conv => whnf); repeat (refine And.intro rfl ?_; (conv => whnf))))
  (repeat' (first | exact Deep.refl _ | exact Deep.none _ | exact deep_row _ | exact DeepL.nil | exact DeepLL.nil | refine Deep.agg _ _ ?_ | refine Deep.tup _ _ ?_ | refine Deep.own _ _ _ _ _ _ _ _ rfl ?_ | refine Deep.loc _ _ _ _ _ rfl ?_ | refine Deep.ifc _ _ _ ?_ | refine Deep.fn _ _ _ _ _ ?_ ?_ | refine DeepL.cons _ _ _ _ ?_ ?_ | refine DeepLL.cons _ _ _ _ ?_ ?_))
def c240 : PC := .seq (.ops [⟨(some 1), .box (.tmp 0), none, 0⟩,
    ⟨(some 2), .alloc [(.int .i64 0), (.int .i64 0), (.slice none 0 0)], none, 0⟩] false) (.seq (.ops [⟨(some 3), .loadA 3 (.tmp 1), none, 0⟩,
    ⟨(some 4), .call 241 [(.const (.int .i64 4)), (.tmp 3)], none, 0⟩,
    ⟨none, .store 3 (.tmp 2) (.tmp 4), none, 0⟩] false) (.ret))
set_option maxRecDepth 100000 in
theorem c240_ok : FunOK Try.prog 240 5 [.agg 2 3] c240 := ⟨⟨Try.f240, Try.func240, rfl, by kernel_rfl, rfl, by kernel_rfl⟩⟩
theorem ref_not (a : Tree) : PCall Try.prog 240 [dtree a] (dtree (mk1 4 a)) := by
  refine pcall_intro c240_ok (by simp) (by simp [PureL, Pure, pure_dtree]) ?_ (pure_dtree _)
  (apply red_sound; focus (repeat' (first | exact Red.skip | exact Red.ret | exact RedO.nil | exact RedD.nil | exact Red.exit _ | exact Red.loop _ | exact Red.stop _ | apply Red.ops | apply Red.draw | apply Red.seq | apply Red.cond | apply Red.block | apply RedO.cons | apply RedD.cons | exact (0 : Nat))))
  ((conv => whnf); repeat (refine And.intro rfl ?_; (conv => whnf)))
  (refine .inl ⟨_, (ref_one 4 a), ?_⟩; ((conv => whnf); repeat (refine And.intro rfl ?_; (conv => whnf))))
  (repeat' (first | exact Deep.refl _ | exact Deep.none _ | exact deep_row _ | exact DeepL.nil | exact DeepLL.nil | refine Deep.agg _ _ ?_ | refine Deep.tup _ _ ?_ | refine Deep.own _ _ _ _ _ _ _ _ rfl ?_ | refine Deep.loc _ _ _ _ _ rfl ?_ | refine Deep.ifc _ _ _ ?_ | refine Deep.fn _ _ _ _ _ ?_ ?_ | refine DeepL.cons _ _ _ _ ?_ ?_ | refine DeepLL.cons _ _ _ _ ?_ ?_))
def c245 : PC := .seq (.ops [⟨(some 2), .box (.tmp 0), none, 0⟩,
    ⟨(some 3), .box (.tmp 1), none, 0⟩,
    ⟨(some 4), .alloc [(.int .i64 0), (.int .i64 0), (.slice none 0 0)], none, 0⟩] false) (.seq (.ops [⟨(some 5), .loadA 3 (.tmp 2), none, 0⟩,
    ⟨(some 6), .loadA 3 (.tmp 3), none, 0⟩,
    ⟨(some 7), .call 244 [(.const (.int .i64 5)), (.tmp 5), (.tmp 6)], none, 0⟩,
    ⟨none, .store 3 (.tmp 4) (.tmp 7), none, 0⟩] false) (.ret))
set_option maxRecDepth 100000 in
theorem c245_ok : FunOK Try.prog 245 8 [.agg 4 3] c245 := ⟨⟨Try.f245, Try.func245, rfl, by kernel_rfl, rfl, by kernel_rfl⟩⟩
theorem ref_and (a b : Tree) : PCall Try.prog 245 [dtree a, dtree b] (dtree (mk2 5 a b)) := by
  refine pcall_intro c245_ok (by simp) (by simp [PureL, Pure, pure_dtree]) ?_ (pure_dtree _)
  (apply red_sound; focus (repeat' (first | exact Red.skip | exact Red.ret | exact RedO.nil | exact RedD.nil | exact Red.exit _ | exact Red.loop _ | exact Red.stop _ | apply Red.ops | apply Red.draw | apply Red.seq | apply Red.cond | apply Red.block | apply RedO.cons | apply RedD.cons | exact (0 : Nat))))
  ((conv => whnf); repeat (refine And.intro rfl ?_; (conv => whnf)))
  (refine .inl ⟨_, (ref_two 5 a b), ?_⟩; ((conv => whnf); repeat (refine And.intro rfl ?_; (conv => whnf))))
  (repeat' (first | exact Deep.refl _ | exact Deep.none _ | exact deep_row _ | exact DeepL.nil | exact DeepLL.nil | refine Deep.agg _ _ ?_ | refine Deep.tup _ _ ?_ | refine Deep.own _ _ _ _ _ _ _ _ rfl ?_ | refine Deep.loc _ _ _ _ _ rfl ?_ | refine Deep.ifc _ _ _ ?_ | refine Deep.fn _ _ _ _ _ ?_ ?_ | refine DeepL.cons _ _ _ _ ?_ ?_ | refine DeepLL.cons _ _ _ _ ?_ ?_))
def c239 : PC := .seq (.ops [⟨(some 2), .box (.tmp 0), none, 0⟩,
    ⟨(some 3), .box (.tmp 1), none, 0⟩,
    ⟨(some 4), .alloc [(.int .i64 0), (.int .i64 0), (.slice none 0 0)], none, 0⟩] false) (.seq (.ops [⟨(some 5), .loadA 3 (.tmp 2), none, 0⟩,
    ⟨(some 6), .loadA 3 (.tmp 3), none, 0⟩,
    ⟨(some 7), .call 244 [(.const (.int .i64 6)), (.tmp 5), (.tmp 6)], none, 0⟩,
    ⟨none, .store 3 (.tmp 4) (.tmp 7), none, 0⟩] false) (.ret))
set_option maxRecDepth 100000 in
theorem c239_ok : FunOK Try.prog 239 8 [.agg 4 3] c239 := ⟨⟨Try.f239, Try.func239, rfl, by kernel_rfl, rfl, by kernel_rfl⟩⟩
theorem ref_or (a b : Tree) : PCall Try.prog 239 [dtree a, dtree b] (dtree (mk2 6 a b)) := by
  refine pcall_intro c239_ok (by simp) (by simp [PureL, Pure, pure_dtree]) ?_ (pure_dtree _)
  (apply red_sound; focus (repeat' (first | exact Red.skip | exact Red.ret | exact RedO.nil | exact RedD.nil | exact Red.exit _ | exact Red.loop _ | exact Red.stop _ | apply Red.ops | apply Red.draw | apply Red.seq | apply Red.cond | apply Red.block | apply RedO.cons | apply RedD.cons | exact (0 : Nat))))
  ((conv => whnf); repeat (refine And.intro rfl ?_; (conv => whnf)))
  (refine .inl ⟨_, (ref_two 6 a b), ?_⟩; ((conv => whnf); repeat (refine And.intro rfl ?_; (conv => whnf))))
  (repeat' (first | exact Deep.refl _ | exact Deep.none _ | exact deep_row _ | exact DeepL.nil | exact DeepLL.nil | refine Deep.agg _ _ ?_ | refine Deep.tup _ _ ?_ | refine Deep.own _ _ _ _ _ _ _ _ rfl ?_ | refine Deep.loc _ _ _ _ _ rfl ?_ | refine Deep.ifc _ _ _ ?_ | refine Deep.fn _ _ _ _ _ ?_ ?_ | refine DeepL.cons _ _ _ _ ?_ ?_ | refine DeepLL.cons _ _ _ _ ?_ ?_))
def c230 : PC := .seq (.ops [⟨(some 1), .box (.tmp 0), none, 0⟩,
    ⟨(some 2), .alloc [(.int .i64 0), (.int .i64 0), (.slice none 0 0)], none, 0⟩] false) (.seq (.ops [⟨(some 3), .loadA 3 (.tmp 1), none, 0⟩,
    ⟨(some 4), .call 237 [(.const (.int .i64 4)), (.tmp 3)], none, 0⟩,
    ⟨none, .store 3 (.tmp 2) (.tmp 4), none, 0⟩] false) (.ret))
set_option maxRecDepth 100000 in
theorem c230_ok : FunOK Try.prog 230 5 [.agg 2 3] c230 := ⟨⟨Try.f230, Try.func230, rfl, by kernel_rfl, rfl, by kernel_rfl⟩⟩
theorem dec_not (a : Tree) : PCall Try.prog 230 [dtree a] (dtree (mk1 4 a)) := by
  refine pcall_intro c230_ok (by simp) (by simp [PureL, Pure, pure_dtree]) ?_ (pure_dtree _)
  (apply red_sound; focus (repeat' (first | exact Red.skip | exact Red.ret | exact RedO.nil | exact RedD.nil | exact Red.exit _ | exact Red.loop _ | exact Red.stop _ | apply Red.ops | apply Red.draw | apply Red.seq | apply Red.cond | apply Red.block | apply RedO.cons | apply RedD.cons | exact (0 : Nat))))
  ((conv => whnf); repeat (refine And.intro rfl ?_; (conv => whnf)))
  (refine .inl ⟨_, (dec_one 4 a), ?_⟩; ((conv => whnf); repeat (refine And.intro rfl ?_; (conv => whnf))))
  (repeat' (first | exact Deep.refl _ | exact Deep.none _ | exact deep_row _ | exact DeepL.nil | exact DeepLL.nil | refine Deep.agg _ _ ?_ | refine Deep.tup _ _ ?_ | refine Deep.own _ _ _ _ _ _ _ _ rfl ?_ | refine Deep.loc _ _ _ _ _ rfl ?_ | refine Deep.ifc _ _ _ ?_ | refine Deep.fn _ _ _ _ _ ?_ ?_ | refine DeepL.cons _ _ _ _ ?_ ?_ | refine DeepLL.cons _ _ _ _ ?_ ?_))
def c231 : PC := .seq (.ops [⟨(some 1), .box (.tmp 0), none, 0⟩,
    ⟨(some 2), .alloc [(.int .i64 0), (.int .i64 0), (.slice none 0 0)], none, 0⟩] false) (.seq (.ops [⟨(some 3), .loadA 3 (.tmp 1), none, 0⟩,
    ⟨(some 4), .call 237 [(.const (.int .i64 10)), (.tmp 3)], none, 0⟩,
    ⟨none, .store 3 (.tmp 2) (.tmp 4), none, 0⟩] false) (.ret))
set_option maxRecDepth 100000 in
theorem c231_ok : FunOK Try.prog 231 5 [.agg 2 3] c231 := ⟨⟨Try.f231, Try.func231, rfl, by kernel_rfl, rfl, by kernel_rfl⟩⟩
theorem dec_some (a : Tree) : PCall Try.prog 231 [dtree a] (dtree (mk1 10 a)) := by
  refine pcall_intro c231_ok (by simp) (by simp [PureL, Pure, pure_dtree]) ?_ (pure_dtree _)
  (apply red_sound; focus (repeat' (first | exact Red.skip | exact Red.ret | exact RedO.nil | exact RedD.nil | exact Red.exit _ | exact Red.loop _ | exact Red.stop _ | apply Red.ops | apply Red.draw | apply Red.seq | apply Red.cond | apply Red.block | apply RedO.cons | apply RedD.cons | exact (0 : Nat))))
  ((conv => whnf); repeat (refine And.intro rfl ?_; (conv => whnf)))
  (refine .inl ⟨_, (dec_one 10 a), ?_⟩; ((conv => whnf); repeat (refine And.intro rfl ?_; (conv => whnf))))
  (repeat' (first | exact Deep.refl _ | exact Deep.none _ | exact deep_row _ | exact DeepL.nil | exact DeepLL.nil | refine Deep.agg _ _ ?_ | refine Deep.tup _ _ ?_ | refine Deep.own _ _ _ _ _ _ _ _ rfl ?_ | refine Deep.loc _ _ _ _ _ rfl ?_ | refine Deep.ifc _ _ _ ?_ | refine Deep.fn _ _ _ _ _ ?_ ?_ | refine DeepL.cons _ _ _ _ ?_ ?_ | refine DeepLL.cons _ _ _ _ ?_ ?_))
def c228 : PC := .seq (.ops [⟨(some 1), .box (.tmp 0), none, 0⟩,
    ⟨(some 2), .alloc [(.int .i64 0), (.int .i64 0), (.slice none 0 0)], none, 0⟩] false) (.seq (.ops [⟨(some 3), .loadA 3 (.tmp 1), none, 0⟩,
    ⟨(some 4), .call 237 [(.const (.int .i64 11)), (.tmp 3)], none, 0⟩,
    ⟨none, .store 3 (.tmp 2) (.tmp 4), none, 0⟩] false) (.ret))
set_option maxRecDepth 100000 in
theorem c228_ok : FunOK Try.prog 228 5 [.agg 2 3] c228 := ⟨⟨Try.f228, Try.func228, rfl, by kernel_rfl, rfl, by kernel_rfl⟩⟩
theorem dec_always (a : Tree) : PCall Try.prog 228 [dtree a] (dtree (mk1 11 a)) := by
  refine pcall_intro c228_ok (by simp) (by simp [PureL, Pure, pure_dtree]) ?_ (pure_dtree _)
  (apply red_sound; focus (repeat' (first | exact Red.skip | exact Red.ret | exact RedO.nil | exact RedD.nil | exact Red.exit _ | exact Red.loop _ | exact Red.stop _ | apply Red.ops | apply Red.draw | apply Red.seq | apply Red.cond | apply Red.block | apply RedO.cons | apply RedD.cons | exact (0 : Nat))))
  ((conv => whnf); repeat (refine And.intro rfl ?_; (conv => whnf)))
  (refine .inl ⟨_, (dec_one 11 a), ?_⟩; ((conv => whnf); repeat (refine And.intro rfl ?_; (conv => whnf))))
  (repeat' (first | exact Deep.refl _ | exact Deep.none _ | exact deep_row _ | exact DeepL.nil | exact DeepLL.nil | refine Deep.agg _ _ ?_ | refine Deep.tup _ _ ?_ | refine Deep.own _ _ _ _ _ _ _ _ rfl ?_ | refine Deep.loc _ _ _ _ _ rfl ?_ | refine Deep.ifc _ _ _ ?_ | refine Deep.fn _ _ _ _ _ ?_ ?_ | refine DeepL.cons _ _ _ _ ?_ ?_ | refine DeepLL.cons _ _ _ _ ?_ ?_))
def c235 : PC := .seq (.ops [⟨(some 2), .box (.tmp 0), none, 0⟩,
    ⟨(some 3), .box (.tmp 1), none, 0⟩,
    ⟨(some 4), .alloc [(.int .i64 0), (.int .i64 0), (.slice none 0 0)], none, 0⟩] false) (.seq (.ops [⟨(some 5), .loadA 3 (.tmp 2), none, 0⟩,
    ⟨(some 6), .loadA 3 (.tmp 3), none, 0⟩,
    ⟨(some 7), .call 233 [(.const (.int .i64 5)), (.tmp 5), (.tmp 6)], none, 0⟩,
    ⟨none, .store 3 (.tmp 4) (.tmp 7), none, 0⟩] false) (.ret))
set_option maxRecDepth 100000 in
theorem c235_ok : FunOK Try.prog 235 8 [.agg 4 3] c235 := ⟨⟨Try.f235, Try.func235, rfl, by kernel_rfl, rfl, by kernel_rfl⟩⟩
theorem dec_and (a b : Tree) : PCall Try.prog 235 [dtree a, dtree b] (dtree (mk2 5 a b)) := by
  refine pcall_intro c235_ok (by simp) (by simp [PureL, Pure, pure_dtree]) ?_ (pure_dtree _)
  (apply red_sound; focus (repeat' (first | exact Red.skip | exact Red.ret | exact RedO.nil | exact RedD.nil | exact Red.exit _ | exact Red.loop _ | exact Red.stop _ | apply Red.ops | apply Red.draw | apply Red.seq | apply Red.cond | apply Red.block | apply RedO.cons | apply RedD.cons | exact (0 : Nat))))
  ((conv => whnf); repeat (refine And.intro rfl ?_; (conv => whnf)))
  (refine .inl ⟨_, (dec_two 5 a b), ?_⟩; ((conv => whnf); repeat (refine And.intro rfl ?_; (conv => whnf))))
  (repeat' (first | exact Deep.refl _ | exact Deep.none _ | exact deep_row _ | exact DeepL.nil | exact DeepLL.nil | refine Deep.agg _ _ ?_ | refine Deep.tup _ _ ?_ | refine Deep.own _ _ _ _ _ _ _ _ rfl ?_ | refine Deep.loc _ _ _ _ _ rfl ?_ | refine Deep.ifc _ _ _ ?_ | refine Deep.fn _ _ _ _ _ ?_ ?_ | refine DeepL.cons _ _ _ _ ?_ ?_ | refine DeepLL.cons _ _ _ _ ?_ ?_))
def c229 : PC := .seq (.ops [⟨(some 2), .box (.tmp 0), none, 0⟩,
    ⟨(some 3), .box (.tmp 1), none, 0⟩,
    ⟨(some 4), .alloc [(.int .i64 0), (.int .i64 0), (.slice none 0 0)], none, 0⟩] false) (.seq (.ops [⟨(some 5), .loadA 3 (.tmp 2), none, 0⟩,
    ⟨(some 6), .loadA 3 (.tmp 3), none, 0⟩,
    ⟨(some 7), .call 233 [(.const (.int .i64 6)), (.tmp 5), (.tmp 6)], none, 0⟩,
    ⟨none, .store 3 (.tmp 4) (.tmp 7), none, 0⟩] false) (.ret))
set_option maxRecDepth 100000 in
theorem c229_ok : FunOK Try.prog 229 8 [.agg 4 3] c229 := ⟨⟨Try.f229, Try.func229, rfl, by kernel_rfl, rfl, by kernel_rfl⟩⟩
theorem dec_or (a b : Tree) : PCall Try.prog 229 [dtree a, dtree b] (dtree (mk2 6 a b)) := by
  refine pcall_intro c229_ok (by simp) (by simp [PureL, Pure, pure_dtree]) ?_ (pure_dtree _)
  (apply red_sound; focus (repeat' (first | exact Red.skip | exact Red.ret | exact RedO.nil | exact RedD.nil | exact Red.exit _ | exact Red.loop _ | exact Red.stop _ | apply Red.ops | apply Red.draw | apply Red.seq | apply Red.cond | apply Red.block | apply RedO.cons | apply RedD.cons | exact (0 : Nat))))
  ((conv => whnf); repeat (refine And.intro rfl ?_; (conv => whnf)))
  (refine .inl ⟨_, (dec_two 6 a b), ?_⟩; ((conv => whnf); repeat (refine And.intro rfl ?_; (conv => whnf))))
  (repeat' (first | exact Deep.refl _ | exact Deep.none _ | exact deep_row _ | exact DeepL.nil | exact DeepLL.nil | refine Deep.agg _ _ ?_ | refine Deep.tup _ _ ?_ | refine Deep.own _ _ _ _ _ _ _ _ rfl ?_ | refine Deep.loc _ _ _ _ _ rfl ?_ | refine Deep.ifc _ _ _ ?_ | refine Deep.fn _ _ _ _ _ ?_ ?_ | refine DeepL.cons _ _ _ _ ?_ ?_ | refine DeepLL.cons _ _ _ _ ?_ ?_))
def c216 : PC := .seq (.ops [⟨(some 1), .box (.tmp 0), none, 0⟩,
    ⟨(some 2), .alloc [(.int .i64 0), (.int .i64 0), (.slice none 0 0)], none, 0⟩] false) (.seq (.ops [⟨(some 3), .loadA 3 (.tmp 1), none, 0⟩,
    ⟨(some 4), .call 218 [(.const (.int .i64 4)), (.tmp 3)], none, 0⟩,
    ⟨none, .store 3 (.tmp 2) (.tmp 4), none, 0⟩] false) (.ret))
set_option maxRecDepth 100000 in
theorem c216_ok : FunOK Try.prog 216 5 [.agg 2 3] c216 := ⟨⟨Try.f216, Try.func216, rfl, by kernel_rfl, rfl, by kernel_rfl⟩⟩
theorem dwy_not (a : Tree) : PCall Try.prog 216 [dtree a] (dtree (mk1 4 a)) := by
  refine pcall_intro c216_ok (by simp) (by simp [PureL, Pure, pure_dtree]) ?_ (pure_dtree _)
  (apply red_sound; focus (repeat' (first | exact Red.skip | exact Red.ret | exact RedO.nil | exact RedD.nil | exact Red.exit _ | exact Red.loop _ | exact Red.stop _ | apply Red.ops | apply Red.draw | apply Red.seq | apply Red.cond | apply Red.block | apply RedO.cons | apply RedD.cons | exact (0 : Nat))))
  ((conv => whnf); repeat (refine And.intro rfl ?_; (conv => whnf)))
  (refine .inl ⟨_, (dwy_one 4 a), ?_⟩; ((conv => whnf); repeat (refine And.intro rfl ?_; (conv => whnf))))
  (repeat' (first | exact Deep.refl _ | exact Deep.none _ | exact deep_row _ | exact DeepL.nil | exact DeepLL.nil | refine Deep.agg _ _ ?_ | refine Deep.tup _ _ ?_ | refine Deep.own _ _ _ _ _ _ _ _ rfl ?_ | refine Deep.loc _ _ _ _ _ rfl ?_ | refine Deep.ifc _ _ _ ?_ | refine Deep.fn _ _ _ _ _ ?_ ?_ | refine DeepL.cons _ _ _ _ ?_ ?_ | refine DeepLL.cons _ _ _ _ ?_ ?_))
def c220 : PC := .seq (.ops [⟨(some 1), .box (.tmp 0), none, 0⟩,
    ⟨(some 2), .alloc [(.int .i64 0), (.int .i64 0), (.slice none 0 0)], none, 0⟩] false) (.seq (.ops [⟨(some 3), .loadA 3 (.tmp 1), none, 0⟩,
    ⟨(some 4), .call 218 [(.const (.int .i64 11)), (.tmp 3)], none, 0⟩,
    ⟨none, .store 3 (.tmp 2) (.tmp 4), none, 0⟩] false) (.ret))
set_option maxRecDepth 100000 in
theorem c220_ok : FunOK Try.prog 220 5 [.agg 2 3] c220 := ⟨⟨Try.f220, Try.func220, rfl, by kernel_rfl, rfl, by kernel_rfl⟩⟩
theorem dwy_always (a : Tree) : PCall Try.prog 220 [dtree a] (dtree (mk1 11 a)) := by
  refine pcall_intro c220_ok (by simp) (by simp [PureL, Pure, pure_dtree]) ?_ (pure_dtree _)
  (apply red_sound; focus (repeat' (first | exact Red.skip | exact Red.ret | exact RedO.nil | exact RedD.nil | exact Red.exit _ | exact Red.loop _ | exact Red.stop _ | apply Red.ops | apply Red.draw | apply Red.seq | apply Red.cond | apply Red.block | apply RedO.cons | apply RedD.cons | exact (0 : Nat))))
  ((conv => whnf); repeat (refine And.intro rfl ?_; (conv => whnf)))
  (refine .inl ⟨_, (dwy_one 11 a), ?_⟩; ((conv => whnf); repeat (refine And.intro rfl ?_; (conv => whnf))))
  (repeat' (first | exact Deep.refl _ | exact Deep.none _ | exact deep_row _ | exact DeepL.nil | exact DeepLL.nil | refine Deep.agg _ _ ?_ | refine Deep.tup _ _ ?_ | refine Deep.own _ _ _ _ _ _ _ _ rfl ?_ | refine Deep.loc _ _ _ _ _ rfl ?_ | refine Deep.ifc _ _ _ ?_ | refine Deep.fn _ _ _ _ _ ?_ ?_ | refine DeepL.cons _ _ _ _ ?_ ?_ | refine DeepLL.cons _ _ _ _ ?_ ?_))
def c222 : PC := .seq (.ops [⟨(some 2), .box (.tmp 0), none, 0⟩,
    ⟨(some 3), .box (.tmp 1), none, 0⟩,
    ⟨(some 4), .alloc [(.int .i64 0), (.int .i64 0), (.slice none 0 0)], none, 0⟩] false) (.seq (.ops [⟨(some 5), .loadA 3 (.tmp 2), none, 0⟩,
    ⟨(some 6), .loadA 3 (.tmp 3), none, 0⟩,
    ⟨(some 7), .call 253 [(.const (.int .i64 5)), (.tmp 5), (.tmp 6)], none, 0⟩,
    ⟨none, .store 3 (.tmp 4) (.tmp 7), none, 0⟩] false) (.ret))
set_option maxRecDepth 100000 in
theorem c222_ok : FunOK Try.prog 222 8 [.agg 4 3] c222 := ⟨⟨Try.f222, Try.func222, rfl, by kernel_rfl, rfl, by kernel_rfl⟩⟩
theorem dwy_and (a b : Tree) : PCall Try.prog 222 [dtree a, dtree b] (dtree (mk2 5 a b)) := by
  refine pcall_intro c222_ok (by simp) (by simp [PureL, Pure, pure_dtree]) ?_ (pure_dtree _)
  (apply red_sound; focus (repeat' (first | exact Red.skip | exact Red.ret | exact RedO.nil | exact RedD.nil | exact Red.exit _ | exact Red.loop _ | exact Red.stop _ | apply Red.ops | apply Red.draw | apply Red.seq | apply Red.cond | apply Red.block | apply RedO.cons | apply RedD.cons | exact (0 : Nat))))
  ((conv => whnf); repeat (refine And.intro rfl ?_; (conv => whnf)))
  (refine .inl ⟨_, (dwy_two 5 a b), ?_⟩; ((conv => whnf); repeat (refine And.intro rfl ?_; (conv => whnf))))
  (repeat' (first | exact Deep.refl _ | exact Deep.none _ | exact deep_row _ | exact DeepL.nil | exact DeepLL.nil | refine Deep.agg _ _ ?_ | refine Deep.tup _ _ ?_ | refine Deep.own _ _ _ _ _ _ _ _ rfl ?_ | refine Deep.loc _ _ _ _ _ rfl ?_ | refine Deep.ifc _ _ _ ?_ | refine Deep.fn _ _ _ _ _ ?_ ?_ | refine DeepL.cons _ _ _ _ ?_ ?_ | refine DeepLL.cons _ _ _ _ ?_ ?_))
def c217 : PC := .seq (.ops [⟨(some 2), .box (.tmp 0), none, 0⟩,
    ⟨(some 3), .box (.tmp 1), none, 0⟩,
    ⟨(some 4), .alloc [(.int .i64 0), (.int .i64 0), (.slice none 0 0)], none, 0⟩] false) (.seq (.ops [⟨(some 5), .loadA 3 (.tmp 2), none, 0⟩,
    ⟨(some 6), .loadA 3 (.tmp 3), none, 0⟩,
    ⟨(some 7), .call 253 [(.const (.int .i64 6)), (.tmp 5), (.tmp 6)], none, 0⟩,
    ⟨none, .store 3 (.tmp 4) (.tmp 7), none, 0⟩] false) (.ret))
set_option maxRecDepth 100000 in
theorem c217_ok : FunOK Try.prog 217 8 [.agg 4 3] c217 := ⟨⟨Try.f217, Try.func217, rfl, by kernel_rfl, rfl, by kernel_rfl⟩⟩
theorem dwy_or (a b : Tree) : PCall Try.prog 217 [dtree a, dtree b] (dtree (mk2 6 a b)) := by
  refine pcall_intro c217_ok (by simp) (by simp [PureL, Pure, pure_dtree]) ?_ (pure_dtree _)
  (apply red_sound; focus (repeat' (first | exact Red.skip | exact Red.ret | exact RedO.nil | exact RedD.nil | exact Red.exit _ | exact Red.loop _ | exact Red.stop _ | apply Red.ops | apply Red.draw | apply Red.seq | apply Red.cond | apply Red.block | apply RedO.cons | apply RedD.cons | exact (0 : Nat))))
  ((conv => whnf); repeat (refine And.intro rfl ?_; (conv => whnf)))
  (refine .inl ⟨_, (dwy_two 6 a b), ?_⟩; ((conv => whnf); repeat (refine And.intro rfl ?_; (conv => whnf))))
  (repeat' (first | exact Deep.refl _ | exact Deep.none _ | exact deep_row _ | exact DeepL.nil | exact DeepLL.nil | refine Deep.agg _ _ ?_ | refine Deep.tup _ _ ?_ | refine Deep.own _ _ _ _ _ _ _ _ rfl ?_ | refine Deep.loc _ _ _ _ _ rfl ?_ | refine Deep.ifc _ _ _ ?_ | refine Deep.fn _ _ _ _ _ ?_ ?_ | refine DeepL.cons _ _ _ _ ?_ ?_ | refine DeepLL.cons _ _ _ _ ?_ ?_))
def c221 : PC := .seq (.ops [⟨(some 2), .box (.tmp 0), none, 0⟩,
    ⟨(some 3), .box (.tmp 1), none, 0⟩,
    ⟨(some 4), .alloc [(.int .i64 0), (.int .i64 0), (.slice none 0 0)], none, 0⟩] false) (.seq (.ops [⟨(some 5), .loadA 3 (.tmp 2), none, 0⟩,
    ⟨(some 6), .loadA 3 (.tmp 3), none, 0⟩,
    ⟨(some 7), .call 253 [(.const (.int .i64 8)), (.tmp 5), (.tmp 6)], none, 0⟩,
    ⟨none, .store 3 (.tmp 4) (.tmp 7), none, 0⟩] false) (.ret))
set_option maxRecDepth 100000 in
theorem c221_ok : FunOK Try.prog 221 8 [.agg 4 3] c221 := ⟨⟨Try.f221, Try.func221, rfl, by kernel_rfl, rfl, by kernel_rfl⟩⟩
theorem dwy_until (a b : Tree) : PCall Try.prog 221 [dtree a, dtree b] (dtree (mk2 8 a b)) := by
  refine pcall_intro c221_ok (by simp) (by simp [PureL, Pure, pure_dtree]) ?_ (pure_dtree _)
  (apply red_sound; focus (repeat' (first | exact Red.skip | exact Red.ret | exact RedO.nil | exact RedD.nil | exact Red.exit _ | exact Red.loop _ | exact Red.stop _ | apply Red.ops | apply Red.draw | apply Red.seq | apply Red.cond | apply Red.block | apply RedO.cons | apply RedD.cons | exact (0 : Nat))))
  ((conv => whnf); repeat (refine And.intro rfl ?_; (conv => whnf)))
  (refine .inl ⟨_, (dwy_two 8 a b), ?_⟩; ((conv => whnf); repeat (refine And.intro rfl ?_; (conv => whnf))))
  (repeat' (first | exact Deep.refl _ | exact Deep.none _ | exact deep_row _ | exact DeepL.nil | exact DeepLL.nil | refine Deep.agg _ _ ?_ | refine Deep.tup _ _ ?_ | refine Deep.own _ _ _ _ _ _ _ _ rfl ?_ | refine Deep.loc _ _ _ _ _ rfl ?_ | refine Deep.ifc _ _ _ ?_ | refine Deep.fn _ _ _ _ _ ?_ ?_ | refine DeepL.cons _ _ _ _ ?_ ?_ | refine DeepLL.cons _ _ _ _ ?_ ?_))
end Go.Proofs.Ytcgjbhnljjlffaa
