/-
  Package push over deep values. No statement is proved here.
-/
import Derived.Test.YtkkfiadefekbbaaDk
import Derived.Test.YtkkfiadefekbbaaProg
namespace Go.Proofs.Ytkkfiadefekbbaa
open Go.RowKit
set_option linter.unusedSimpArgs false
def c165 : PC := .seq (.ops [⟨(some 2), .alloc [(.int .i64 0), (.int .i64 0), (.slice none 0 0)], none, 0⟩] false) (.seq (.ops [⟨(some 3), .move (.tmp 0), none, 0⟩,
    ⟨(some 4), .build [(.int .i64 0), (.int .i64 0), (.slice none 0 0)] [(0, 1, (.tmp 3))], none, 0⟩,
    ⟨none, .store 3 (.tmp 2) (.tmp 4), none, 0⟩] false) (.ret))
set_option maxRecDepth 100000 in
theorem c165_ok : FunOK Try.prog 165 5 [.agg 2 3] c165 := ⟨⟨Try.f165, Try.func165, rfl, by kernel_rfl, rfl, by kernel_rfl⟩⟩
def c170 : PC := .seq (.ops [⟨(some 3), .box (.tmp 1), none, 0⟩,
    ⟨(some 4), .alloc [(.int .i64 0), (.int .i64 0), (.slice none 0 0)], none, 0⟩] false) (.seq (.ops [⟨(some 5), .move (.tmp 0), none, 0⟩,
    ⟨(some 6), .loadA 3 (.tmp 3), none, 0⟩,
    ⟨(some 7), .bslice 3 1 [(.tmp 6)], none, 0⟩,
    ⟨(some 8), .build [(.int .i64 0), (.int .i64 0), (.slice none 0 0)] [(0, 1, (.tmp 5)), (2, 1, (.tmp 7))], none, 0⟩,
    ⟨none, .store 3 (.tmp 4) (.tmp 8), none, 0⟩] false) (.ret))
set_option maxRecDepth 100000 in
theorem c170_ok : FunOK Try.prog 170 9 [.agg 4 3] c170 := ⟨⟨Try.f170, Try.func170, rfl, by kernel_rfl, rfl, by kernel_rfl⟩⟩
def c168 : PC := .seq (.ops [⟨(some 4), .box (.tmp 1), none, 0⟩,
    ⟨(some 5), .box (.tmp 2), none, 0⟩,
    ⟨(some 6), .alloc [(.int .i64 0), (.int .i64 0), (.slice none 0 0)], none, 0⟩] false) (.seq (.ops [⟨(some 7), .move (.tmp 0), none, 0⟩,
    ⟨(some 8), .loadA 3 (.tmp 4), none, 0⟩,
    ⟨(some 9), .loadA 3 (.tmp 5), none, 0⟩,
    ⟨(some 10), .bslice 3 2 [(.tmp 8), (.tmp 9)], none, 0⟩,
    ⟨(some 11), .build [(.int .i64 0), (.int .i64 0), (.slice none 0 0)] [(0, 1, (.tmp 7)), (2, 1, (.tmp 10))], none, 0⟩,
    ⟨none, .store 3 (.tmp 6) (.tmp 11), none, 0⟩] false) (.ret))
set_option maxRecDepth 100000 in
theorem c168_ok : FunOK Try.prog 168 12 [.agg 6 3] c168 := ⟨⟨Try.f168, Try.func168, rfl, by kernel_rfl, rfl, by kernel_rfl⟩⟩
def c169 : PC := .seq (.ops [⟨(some 1), .box (.tmp 0), none, 0⟩,
    ⟨(some 2), .move (.const (.bool false)), none, 0⟩] false) (.seq (.ops [⟨(some 3), .faddr 0 (.tmp 1), none, 0⟩,
    ⟨(some 4), .load1 (.tmp 3), none, 0⟩,
    ⟨(some 5), .bin .eql (.tmp 4) (.const (.int .i64 1)), none, 0⟩,
    ⟨(some 6), .move (.tmp 5), none, 0⟩,
    ⟨(some 7), .faddr 0 (.tmp 1), (some (6, false)), 0⟩,
    ⟨(some 8), .load1 (.tmp 7), (some (6, false)), 0⟩,
    ⟨(some 9), .bin .eql (.tmp 8) (.const (.int .i64 2)), (some (6, false)), 0⟩,
    ⟨(some 10), .pick (.tmp 6) (.const (.bool true)) (.tmp 9), none, 0⟩,
    ⟨(some 2), .move (.tmp 10), none, 0⟩] false) (.ret))
set_option maxRecDepth 100000 in
theorem c169_ok : FunOK Try.prog 169 11 [.tmp 2] c169 := ⟨⟨Try.f169, Try.func169, rfl, by kernel_rfl, rfl, by kernel_rfl⟩⟩
def c166 : PC := .seq (.ops [⟨(some 2), .move (.const (.int .i64 0)), none, 0⟩] false) (.seq (.seq (.ops [⟨(some 3), .move (.tmp 0), none, 0⟩] false) (.block 0 (.seq (.ops [⟨(some 5), .bin .eql (.tmp 3) (.const (.int .i64 1)), none, 0⟩,
    ⟨(some 4), .move (.tmp 5), none, 0⟩] false) (.cond (.tmp 4) (.seq (.ops [⟨(some 2), .move (.const (.int .i64 2)), none, 0⟩] false) (.ret)) (.seq (.ops [⟨(some 7), .bin .eql (.tmp 3) (.const (.int .i64 2)), none, 0⟩,
    ⟨(some 6), .move (.tmp 7), none, 0⟩] false) (.cond (.tmp 6) (.seq (.ops [⟨(some 2), .move (.const (.int .i64 1)), none, 0⟩] false) (.ret)) (.seq (.ops [⟨(some 9), .bin .eql (.tmp 3) (.const (.int .i64 5)), none, 0⟩,
    ⟨(some 8), .move (.tmp 9), none, 0⟩] false) (.cond (.tmp 8) (.seq (.ops [⟨(some 2), .move (.const (.int .i64 6)), none, 0⟩] false) (.ret)) (.seq (.ops [⟨(some 11), .bin .eql (.tmp 3) (.const (.int .i64 6)), none, 0⟩,
    ⟨(some 10), .move (.tmp 11), none, 0⟩] false) (.cond (.tmp 10) (.seq (.ops [⟨(some 2), .move (.const (.int .i64 5)), none, 0⟩] false) (.ret)) (.seq (.ops [⟨(some 13), .bin .eql (.tmp 3) (.const (.int .i64 8)), none, 0⟩,
    ⟨(some 12), .move (.tmp 13), none, 0⟩] false) (.cond (.tmp 12) (.seq (.ops [⟨(some 2), .move (.const (.int .i64 9)), none, 0⟩] false) (.ret)) (.seq (.ops [⟨(some 15), .bin .eql (.tmp 3) (.const (.int .i64 9)), none, 0⟩,
    ⟨(some 14), .move (.tmp 15), none, 0⟩] false) (.cond (.tmp 14) (.seq (.ops [⟨(some 2), .move (.const (.int .i64 8)), none, 0⟩] false) (.ret)) (.seq (.ops [⟨(some 17), .bin .eql (.tmp 3) (.const (.int .i64 10)), none, 0⟩,
    ⟨(some 16), .move (.tmp 17), none, 0⟩] false) (.cond (.tmp 16) (.seq (.ops [⟨(some 2), .move (.const (.int .i64 11)), none, 0⟩] false) (.ret)) (.seq (.ops [⟨(some 19), .bin .eql (.tmp 3) (.const (.int .i64 11)), none, 0⟩,
    ⟨(some 18), .move (.tmp 19), none, 0⟩] false) (.cond (.tmp 18) (.seq (.ops [⟨(some 2), .move (.const (.int .i64 10)), none, 0⟩] false) (.ret)) (.skip))))))))))))))))))) (.seq (.ops [⟨(some 20), .move (.tmp 0), none, 0⟩,
    ⟨(some 2), .move (.tmp 20), none, 0⟩] false) (.ret)))
set_option maxRecDepth 100000 in
theorem c166_ok : FunOK Try.prog 166 21 [.tmp 2] c166 := ⟨⟨Try.f166, Try.func166, rfl, by kernel_rfl, rfl, by kernel_rfl⟩⟩
def c147 : PC := .seq (.ops [⟨(some 3), .box (.tmp 1), none, 0⟩,
    ⟨(some 4), .alloc [(.int .i64 0), (.int .i64 0), (.slice none 0 0)], none, 0⟩] false) (.seq (.block 0 (.seq (.ops [⟨(some 6), .move (.tmp 0), none, 0⟩,
    ⟨(some 7), .bin .eql (.tmp 6) (.const (.int .i64 4)), none, 0⟩,
    ⟨(some 8), .move (.tmp 7), none, 0⟩,
    ⟨(some 9), .loadA 3 (.tmp 3), (some (8, true)), 0⟩,
    ⟨(some 10), .call 169 [(.tmp 9)], (some (8, true)), 0⟩,
    ⟨(some 11), .pick (.tmp 8) (.tmp 10) (.const (.bool false)), none, 0⟩,
    ⟨(some 5), .move (.tmp 11), none, 0⟩] false) (.cond (.tmp 5) (.seq (.ops [⟨(some 12), .faddr 0 (.tmp 3), none, 0⟩,
    ⟨(some 13), .load1 (.tmp 12), none, 0⟩,
    ⟨(some 14), .call 166 [(.tmp 13)], none, 0⟩,
    ⟨(some 15), .call 165 [(.tmp 14)], none, 0⟩,
    ⟨none, .store 3 (.tmp 4) (.tmp 15), none, 0⟩] false) (.ret)) (.seq (.ops [⟨(some 17), .move (.tmp 0), none, 0⟩,
    ⟨(some 18), .bin .eql (.tmp 17) (.const (.int .i64 4)), none, 0⟩,
    ⟨(some 19), .move (.tmp 18), none, 0⟩,
    ⟨(some 20), .faddr 0 (.tmp 3), (some (19, true)), 0⟩,
    ⟨(some 21), .load1 (.tmp 20), (some (19, true)), 0⟩,
    ⟨(some 22), .bin .eql (.tmp 21) (.const (.int .i64 4)), (some (19, true)), 0⟩,
    ⟨(some 23), .pick (.tmp 19) (.tmp 22) (.const (.bool false)), none, 0⟩,
    ⟨(some 16), .move (.tmp 23), none, 0⟩] false) (.cond (.tmp 16) (.seq (.ops [⟨(some 24), .faddr 2 (.tmp 3), none, 0⟩,
    ⟨(some 25), .load1 (.tmp 24), none, 0⟩,
    ⟨(some 26), .iaddr 3 (.tmp 25) (.const (.int .i64 0)), none, 0⟩,
    ⟨(some 27), .loadA 3 (.tmp 26), none, 0⟩,
    ⟨none, .store 3 (.tmp 4) (.tmp 27), none, 0⟩] false) (.ret)) (.seq (.seq (.ops [⟨(some 29), .move (.tmp 0), none, 0⟩,
    ⟨(some 30), .bin .neq (.tmp 29) (.const (.int .i64 4)), none, 0⟩,
    ⟨(some 31), .move (.tmp 30), none, 0⟩,
    ⟨(some 32), .loadA 3 (.tmp 3), (some (31, true)), 0⟩,
    ⟨(some 33), .call 169 [(.tmp 32)], (some (31, true)), 0⟩,
    ⟨(some 34), .pick (.tmp 31) (.tmp 33) (.const (.bool false)), none, 0⟩,
    ⟨(some 28), .move (.tmp 34), none, 0⟩] false) (.cond (.tmp 28) (.skip) (.ops [⟨(some 35), .move (.tmp 0), none, 0⟩,
    ⟨(some 36), .bin .neq (.tmp 35) (.const (.int .i64 7)), none, 0⟩,
    ⟨(some 37), .move (.tmp 36), none, 0⟩,
    ⟨(some 38), .move (.tmp 0), (some (37, true)), 0⟩,
    ⟨(some 39), .bin .neq (.tmp 38) (.const (.int .i64 4)), (some (37, true)), 0⟩,
    ⟨(some 40), .pick (.tmp 37) (.tmp 39) (.const (.bool false)), none, 0⟩,
    ⟨(some 41), .move (.tmp 40), none, 0⟩,
    ⟨(some 42), .faddr 0 (.tmp 3), (some (41, true)), 0⟩,
    ⟨(some 43), .load1 (.tmp 42), (some (41, true)), 0⟩,
    ⟨(some 44), .move (.tmp 0), (some (41, true)), 0⟩,
    ⟨(some 45), .bin .eql (.tmp 43) (.tmp 44), (some (41, true)), 0⟩,
    ⟨(some 46), .pick (.tmp 41) (.tmp 45) (.const (.bool false)), none, 0⟩,
    ⟨(some 28), .move (.tmp 46), none, 0⟩] false))) (.cond (.tmp 28) (.seq (.ops [⟨(some 47), .loadA 3 (.tmp 3), none, 0⟩,
    ⟨none, .store 3 (.tmp 4) (.tmp 47), none, 0⟩] false) (.ret)) (.skip)))))))) (.seq (.ops [⟨(some 48), .move (.tmp 0), none, 0⟩,
    ⟨(some 49), .loadA 3 (.tmp 3), none, 0⟩,
    ⟨(some 50), .call 170 [(.tmp 48), (.tmp 49)], none, 0⟩,
    ⟨none, .store 3 (.tmp 4) (.tmp 50), none, 0⟩] false) (.ret)))
set_option maxRecDepth 100000 in
theorem c147_ok : FunOK Try.prog 147 51 [.agg 4 3] c147 := ⟨⟨Try.f147, Try.func147, rfl, by kernel_rfl, rfl, by kernel_rfl⟩⟩

theorem push_leaf (k : Int) : PCall Try.prog 165 [.sc (.int .i64 k)] (dtree (mk0 k 0)) := by
  refine pcall_intro c165_ok (by simp) (by simp [PureL, Pure]) ?_ (pure_dtree _)
  (apply red_sound; focus (repeat' (first | exact Red.skip | exact Red.ret | exact RedO.nil | exact RedD.nil | exact Red.exit _ | exact Red.loop _ | exact Red.stop _ | apply Red.ops | apply Red.draw | apply Red.seq | apply Red.cond | apply Red.block | apply RedO.cons | apply RedD.cons | exact (0 : Nat))))
  ((conv => whnf); repeat (refine And.intro rfl ?_; (conv => whnf)))
  (repeat' (first | exact Deep.refl _ | exact Deep.none _ | exact deep_row _ | exact DeepL.nil | exact DeepLL.nil | refine Deep.agg _ _ ?_ | refine Deep.tup _ _ ?_ | refine Deep.own _ _ _ _ _ _ _ _ rfl ?_ | refine Deep.loc _ _ _ _ _ rfl ?_ | refine Deep.ifc _ _ _ ?_ | refine DeepL.cons _ _ _ _ ?_ ?_ | refine DeepLL.cons _ _ _ _ ?_ ?_))
theorem push_one (k : Int) (a : Tree) : PCall Try.prog 170 [.sc (.int .i64 k), dtree a] (dtree (mk1 k a)) := by
  refine pcall_intro c170_ok (by simp) (by simp [PureL, Pure, pure_dtree]) ?_ (pure_dtree _)
  (apply red_sound; focus (repeat' (first | exact Red.skip | exact Red.ret | exact RedO.nil | exact RedD.nil | exact Red.exit _ | exact Red.loop _ | exact Red.stop _ | apply Red.ops | apply Red.draw | apply Red.seq | apply Red.cond | apply Red.block | apply RedO.cons | apply RedD.cons | exact (0 : Nat))))
  ((conv => whnf); repeat (refine And.intro rfl ?_; (conv => whnf)))
  (repeat' (first | exact Deep.refl _ | exact Deep.none _ | exact deep_row _ | exact DeepL.nil | exact DeepLL.nil | refine Deep.agg _ _ ?_ | refine Deep.tup _ _ ?_ | refine Deep.own _ _ _ _ _ _ _ _ rfl ?_ | refine Deep.loc _ _ _ _ _ rfl ?_ | refine Deep.ifc _ _ _ ?_ | refine DeepL.cons _ _ _ _ ?_ ?_ | refine DeepLL.cons _ _ _ _ ?_ ?_))
theorem push_two (k : Int) (a b : Tree) : PCall Try.prog 168 [.sc (.int .i64 k), dtree a, dtree b] (dtree (mk2 k a b)) := by
  refine pcall_intro c168_ok (by simp) (by simp [PureL, Pure, pure_dtree]) ?_ (pure_dtree _)
  (apply red_sound; focus (repeat' (first | exact Red.skip | exact Red.ret | exact RedO.nil | exact RedD.nil | exact Red.exit _ | exact Red.loop _ | exact Red.stop _ | apply Red.ops | apply Red.draw | apply Red.seq | apply Red.cond | apply Red.block | apply RedO.cons | apply RedD.cons | exact (0 : Nat))))
  ((conv => whnf); repeat (refine And.intro rfl ?_; (conv => whnf)))
  (repeat' (first | exact Deep.refl _ | exact Deep.none _ | exact deep_row _ | exact DeepL.nil | exact DeepLL.nil | refine Deep.agg _ _ ?_ | refine Deep.tup _ _ ?_ | refine Deep.own _ _ _ _ _ _ _ _ rfl ?_ | refine Deep.loc _ _ _ _ _ rfl ?_ | refine Deep.ifc _ _ _ ?_ | refine DeepL.cons _ _ _ _ ?_ ?_ | refine DeepLL.cons _ _ _ _ ?_ ?_))
theorem push_truth (a : Tree) : PCall Try.prog 169 [dtree a] (.sc (.bool (truthB a.kind))) := by
  refine pcall_intro c169_ok (by simp) (by simp [PureL, Pure, pure_dtree]) ?_ (by simp [Pure])
  (apply red_sound; focus (repeat' (first | exact Red.skip | exact Red.ret | exact RedO.nil | exact RedD.nil | exact Red.exit _ | exact Red.loop _ | exact Red.stop _ | apply Red.ops | apply Red.draw | apply Red.seq | apply Red.cond | apply Red.block | apply RedO.cons | apply RedD.cons | exact (0 : Nat))))
  unfold truthB
  ((conv => whnf); repeat (refine And.intro rfl ?_; (conv => whnf)))
  (refine ifK_split (fun h => ?_) (fun h => ?_) <;> (rw [h]; ((conv => whnf); repeat (refine And.intro rfl ?_; (conv => whnf)))))
  · exact Deep.refl _
  · exact Deep.refl _
theorem push_other (k : Int) : PCall Try.prog 166 [.sc (.int .i64 k)] (.sc (.int .i64 (otherK k))) := by
  refine pcall_intro c166_ok (by simp) (by simp [PureL, Pure]) ?_ (by simp [Pure])
  (apply red_sound; focus (repeat' (first | exact Red.skip | exact Red.ret | exact RedO.nil | exact RedD.nil | exact Red.exit _ | exact Red.loop _ | exact Red.stop _ | apply Red.ops | apply Red.draw | apply Red.seq | apply Red.cond | apply Red.block | apply RedO.cons | apply RedD.cons | exact (0 : Nat))))
  ((conv => whnf); repeat (refine And.intro rfl ?_; (conv => whnf)))
  repeat' (first | (refine ifK_split (fun h => ?_) (fun h => ?_) <;> (rw [h]; ((conv => whnf); repeat (refine And.intro rfl ?_; (conv => whnf))))) | exact deep_eq (by simp_all [otherK]))
theorem push_single (k : Int) (a : Tree) (ha : a.kind = 4 → 0 < a.width) : PCall Try.prog 147 [.sc (.int .i64 k), dtree a] (dtree (singleT k a)) := by
  refine pcall_intro c147_ok (by simp) (by simp [PureL, Pure, pure_dtree]) ?_ (pure_dtree _)
  (apply red_sound; focus (repeat' (first | exact Red.skip | exact Red.ret | exact RedO.nil | exact RedD.nil | exact Red.exit _ | exact Red.loop _ | exact Red.stop _ | apply Red.ops | apply Red.draw | apply Red.seq | apply Red.cond | apply Red.block | apply RedO.cons | apply RedD.cons | exact (0 : Nat))))
  ((conv => whnf); repeat (refine And.intro rfl ?_; (conv => whnf)))
  repeat' (first
    | (refine ifK_split (fun h => ?_) (fun h => ?_) <;> (rw [h]; ((conv => whnf); repeat (refine And.intro rfl ?_; (conv => whnf)))))
    | (refine .inl ⟨_, (push_truth a), ?_⟩; ((conv => whnf); repeat (refine And.intro rfl ?_; (conv => whnf))))
    | (refine .inl ⟨_, (push_other a.kind), ?_⟩; ((conv => whnf); repeat (refine And.intro rfl ?_; (conv => whnf))))
    | (refine .inl ⟨_, (push_leaf (otherK a.kind)), ?_⟩; ((conv => whnf); repeat (refine And.intro rfl ?_; (conv => whnf))))
    | (refine .inl ⟨_, (push_one k a), ?_⟩; ((conv => whnf); repeat (refine And.intro rfl ?_; (conv => whnf))))
    | (refine ⟨by omega, _, kid_at (ha (by simp_all)), ?_⟩; ((conv => whnf); repeat (refine And.intro rfl ?_; (conv => whnf))))
    | exact deep_as (by simp_all [singleT, truthB] : singleT k a = mk0 (otherK a.kind) 0) (.refl _)
    | exact deep_as (by simp_all [singleT, truthB] : singleT k a = a.kid 0) (.refl _)
    | exact deep_as (by simp_all [singleT, truthB] : singleT k a = a) (.refl _)
    | exact deep_as (by simp_all [singleT, truthB] : singleT k a = mk1 k a) (.refl _))
  all_goals trace_state
end Go.Proofs.Ytkkfiadefekbbaa
