/-
  push.Slim over deep values. No statement is proved here.
-/
import Derived.Test.YtkkfiadefekbbaaPu3
import Derived.Test.YtkkfiadefekbbaaCk
namespace Go.Proofs.Ytkkfiadefekbbaa
open Go.RowKit
set_option linter.unusedSimpArgs false
def c51 : PC := .seq (.ops [⟨(some 1), .box (.tmp 0), none, 0⟩,
    ⟨(some 2), .alloc [(.int .i64 0), (.int .i64 0), (.slice none 0 0)], none, 0⟩,
    ⟨(some 3), .move (.const (.int .i64 0)), none, 0⟩] false) (.seq (.seq (.ops [⟨(some 5), .loadA 3 (.tmp 1), none, 0⟩,
    ⟨(some 6), .call 40 [(.tmp 5)], none, 0⟩,
    ⟨(some 4), .move (.tmp 6), none, 0⟩] false) (.seq (.ops [⟨(some 7), .move (.tmp 4), none, 0⟩,
    ⟨(some 8), .bin .neq (.tmp 7) (.const (.int .i64 0)), none, 0⟩] false) (.cond (.tmp 8) (.seq (.ops [⟨(some 9), .build [(.int .i64 0), (.int .i64 0), (.slice none 0 0)] [], none, 0⟩,
    ⟨(some 10), .move (.tmp 4), none, 0⟩,
    ⟨none, .store 3 (.tmp 2) (.tmp 9), none, 0⟩,
    ⟨(some 3), .move (.tmp 10), none, 0⟩] false) (.ret)) (.skip)))) (.seq (.ops [⟨(some 11), .loadA 3 (.tmp 1), none, 0⟩,
    ⟨(some 12), .call 89 [(.tmp 11)], none, 0⟩,
    ⟨none, .store 3 (.tmp 2) (.tmp 12), none, 0⟩,
    ⟨(some 3), .move (.const (.int .i64 0)), none, 0⟩] false) (.ret)))
set_option maxRecDepth 100000 in
theorem c51_ok : FunOK Try.prog 51 13 [.agg 2 3, .tmp 3] c51 := ⟨⟨Try.f51, Try.func51, rfl, by kernel_rfl, rfl, by kernel_rfl⟩⟩

theorem push_Slim (t : Tree) (hs : Small t) : PCall Try.prog 51 [dtree t] (if chk lKids t = 0 then .tup [dtree (slimT t), .sc (.int .i64 0)] else .tup [dtree (mk0 0 0), .sc (.int .i64 (chk lKids t))]) := by
  refine pcall_intro c51_ok (by simp) (by simp [PureL, pure_dtree]) ?_ (by split <;> simp [Pure, PureL, pure_dtree])
  (apply red_sound; focus (repeat' (first | exact Red.skip | exact Red.ret | exact RedO.nil | exact RedD.nil | exact Red.exit _ | exact Red.loop _ | exact Red.stop _ | apply Red.ops | apply Red.draw | apply Red.seq | apply Red.cond | apply Red.block | apply RedO.cons | apply RedD.cons | exact (0 : Nat))))
  ((conv => whnf); repeat (refine And.intro rfl ?_; (conv => whnf)))
  (refine .inl ⟨_, (ltl_Check t hs), ?_⟩; ((conv => whnf); repeat (refine And.intro rfl ?_; (conv => whnf))))
  (refine ifK_split (fun h => ?_) (fun h => ?_) <;> (rw [h]; ((conv => whnf); repeat (refine And.intro rfl ?_; (conv => whnf)))))
  · have h' : chk lKids t ≠ 0 := by simpa using h
    rw [if_neg h']
    (repeat' (first | exact Deep.refl _ | exact Deep.none _ | exact deep_row _ | exact DeepL.nil | exact DeepLL.nil | refine Deep.agg _ _ ?_ | refine Deep.tup _ _ ?_ | refine Deep.own _ _ _ _ _ _ _ _ rfl ?_ | refine Deep.loc _ _ _ _ _ rfl ?_ | refine Deep.ifc _ _ _ ?_ | refine DeepL.cons _ _ _ _ ?_ ?_ | refine DeepLL.cons _ _ _ _ ?_ ?_))
  · have h' : chk lKids t = 0 := by simpa using h
    rw [if_pos h']
    (refine .inl ⟨_, (push_slim t ((chk_zero _ _).1 h').2.2), ?_⟩; ((conv => whnf); repeat (refine And.intro rfl ?_; (conv => whnf))))
    (repeat' (first | exact Deep.refl _ | exact Deep.none _ | exact deep_row _ | exact DeepL.nil | exact DeepLL.nil | refine Deep.agg _ _ ?_ | refine Deep.tup _ _ ?_ | refine Deep.own _ _ _ _ _ _ _ _ rfl ?_ | refine Deep.loc _ _ _ _ _ rfl ?_ | refine Deep.ifc _ _ _ ?_ | refine DeepL.cons _ _ _ _ ?_ ?_ | refine DeepLL.cons _ _ _ _ ?_ ?_))
end Go.Proofs.Ytkkfiadefekbbaa
