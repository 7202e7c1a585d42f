/-
  watchlaw.LassoSays returns true for every formula, every word and every place, and each argument reads afterwards as it read before. No conditions.
-/
import Derived.Test.YtkkfiadefekbbaaDC
import Derived.Test.YtkkfiadefekbbaaAt
import Derived.Test.YtkkfiadefekbbaaAw
import Derived.Test.YtkkfiadefekbbaaLr
import Derived.Test.YtkkfiadefekbbaaRl
import Derived.Test.YtkkfiadefekbbaaRows
namespace Go.Proofs.Ytkkfiadefekbbaa
open Go.RowKit Go.ChangeShapes Go.WideShapes Go.ChangeAt
set_option linter.unusedSimpArgs false
set_option linter.unusedVariables false
def c54 : PC := .seq (.ops [⟨(some 2), .box (.tmp 0), none, 0⟩,
    ⟨(some 4), .move (.const (.int .u64 0)), none, 0⟩,
    ⟨(some 5), .move (.const (.int .i64 0)), none, 0⟩] false) (.seq (.seq (.ops [⟨(some 7), .loadA 2 (.tmp 2), none, 0⟩,
    ⟨(some 8), .call 55 [(.tmp 7)], none, 0⟩,
    ⟨(some 6), .move (.tmp 8), none, 0⟩] false) (.seq (.ops [⟨(some 9), .move (.tmp 6), none, 0⟩,
    ⟨(some 10), .bin .neq (.tmp 9) (.const (.int .i64 0)), none, 0⟩] false) (.cond (.tmp 10) (.seq (.ops [⟨(some 11), .move (.tmp 6), none, 0⟩,
    ⟨(some 4), .move (.const (.int .u64 0)), none, 0⟩,
    ⟨(some 5), .move (.tmp 11), none, 0⟩] false) (.ret)) (.skip)))) (.seq (.seq (.ops [⟨(some 12), .move (.tmp 1), none, 0⟩,
    ⟨(some 13), .bin .lss (.tmp 12) (.const (.int .i64 0)), none, 0⟩] false) (.cond (.tmp 13) (.seq (.ops [⟨(some 4), .move (.const (.int .u64 0)), none, 0⟩,
    ⟨(some 5), .move (.const (.int .i64 1)), none, 0⟩] false) (.ret)) (.skip))) (.seq (.ops [⟨(some 14), .loadA 2 (.tmp 2), none, 0⟩,
    ⟨(some 15), .move (.tmp 1), none, 0⟩,
    ⟨(some 16), .call 92 [(.tmp 14), (.tmp 15)], none, 0⟩,
    ⟨(some 4), .move (.tmp 16), none, 0⟩,
    ⟨(some 5), .move (.const (.int .i64 0)), none, 0⟩] false) (.ret))))
set_option maxRecDepth 100000 in
theorem c54_ok : FunOK Try.prog 54 17 [.tmp 4, .tmp 5] c54 := ⟨⟨Try.f54, Try.func54, rfl, by kernel_rfl, rfl, by kernel_rfl⟩⟩
def c57 : PC := .seq (.ops [⟨(some 2), .box (.tmp 0), none, 0⟩,
    ⟨(some 3), .box (.tmp 1), none, 0⟩,
    ⟨(some 4), .move (.const (.slice none 0 0)), none, 0⟩,
    ⟨(some 5), .move (.const (.int .i64 0)), none, 0⟩] false) (.seq (.seq (.ops [⟨(some 8), .loadA 3 (.tmp 2), none, 0⟩,
    ⟨(some 9), .call 40 [(.tmp 8)], none, 0⟩,
    ⟨(some 6), .move (.tmp 9), none, 0⟩] false) (.seq (.ops [⟨(some 10), .move (.tmp 6), none, 0⟩,
    ⟨(some 11), .bin .neq (.tmp 10) (.const (.int .i64 0)), none, 0⟩] false) (.cond (.tmp 11) (.seq (.ops [⟨(some 12), .move (.tmp 6), none, 0⟩,
    ⟨(some 4), .move (.const (.slice none 0 0)), none, 0⟩,
    ⟨(some 5), .move (.tmp 12), none, 0⟩] false) (.ret)) (.skip)))) (.seq (.seq (.ops [⟨(some 13), .loadA 2 (.tmp 3), none, 0⟩,
    ⟨(some 14), .call 55 [(.tmp 13)], none, 0⟩,
    ⟨(some 7), .move (.tmp 14), none, 0⟩] false) (.seq (.ops [⟨(some 15), .move (.tmp 7), none, 0⟩,
    ⟨(some 16), .bin .neq (.tmp 15) (.const (.int .i64 0)), none, 0⟩] false) (.cond (.tmp 16) (.seq (.ops [⟨(some 17), .move (.tmp 7), none, 0⟩,
    ⟨(some 4), .move (.const (.slice none 0 0)), none, 0⟩,
    ⟨(some 5), .move (.tmp 17), none, 0⟩] false) (.ret)) (.skip)))) (.seq (.ops [⟨(some 18), .loadA 3 (.tmp 2), none, 0⟩,
    ⟨(some 19), .loadA 2 (.tmp 3), none, 0⟩,
    ⟨(some 20), .call 93 [(.tmp 18), (.tmp 19)], none, 0⟩,
    ⟨(some 4), .move (.tmp 20), none, 0⟩,
    ⟨(some 5), .move (.const (.int .i64 0)), none, 0⟩] false) (.ret))))
set_option maxRecDepth 100000 in
theorem c57_ok : FunOK Try.prog 57 21 [.tmp 4, .tmp 5] c57 := ⟨⟨Try.f57, Try.func57, rfl, by kernel_rfl, rfl, by kernel_rfl⟩⟩
def c13 : PC := .seq (.ops [⟨(some 3), .box (.tmp 0), none, 0⟩,
    ⟨(some 4), .box (.tmp 1), none, 0⟩,
    ⟨(some 6), .move (.const (.bool false)), none, 0⟩] false) (.seq (.ops [⟨(some 14), .loadA 2 (.tmp 4), none, 0⟩,
    ⟨(some 15), .call 14 [(.tmp 14)], none, 0⟩,
    ⟨(some 7), .move (.tmp 15), none, 0⟩] false) (.seq (.ops [⟨(some 17), .loadA 2 (.tmp 4), none, 0⟩,
    ⟨(some 18), .move (.tmp 2), none, 0⟩,
    ⟨(some 19), .call 54 [(.tmp 17), (.tmp 18)], none, 0⟩,
    ⟨(some 16), .move (.tmp 19), none, 0⟩,
    ⟨(some 20), .ext 0 (.tmp 16), none, 0⟩,
    ⟨(some 21), .ext 1 (.tmp 16), none, 0⟩,
    ⟨(some 8), .move (.tmp 20), none, 0⟩,
    ⟨(some 9), .move (.tmp 21), none, 0⟩] false) (.seq (.seq (.ops [⟨(some 22), .loadA 2 (.tmp 4), none, 0⟩,
    ⟨(some 23), .call 55 [(.tmp 22)], none, 0⟩,
    ⟨(some 24), .move (.tmp 7), none, 0⟩,
    ⟨(some 25), .bin .neq (.tmp 23) (.tmp 24), none, 0⟩] false) (.cond (.tmp 25) (.seq (.ops [⟨(some 6), .move (.const (.bool false)), none, 0⟩] false) (.ret)) (.skip))) (.seq (.seq (.ops [⟨(some 26), .move (.tmp 7), none, 0⟩,
    ⟨(some 27), .bin .neq (.tmp 26) (.const (.int .i64 0)), none, 0⟩,
    ⟨(some 28), .move (.tmp 27), none, 0⟩,
    ⟨(some 29), .move (.tmp 2), (some (28, false)), 0⟩,
    ⟨(some 30), .bin .lss (.tmp 29) (.const (.int .i64 0)), (some (28, false)), 0⟩,
    ⟨(some 31), .pick (.tmp 28) (.const (.bool true)) (.tmp 30), none, 0⟩] false) (.cond (.tmp 31) (.seq (.ops [⟨(some 32), .move (.tmp 7), none, 0⟩,
    ⟨(some 10), .move (.tmp 32), none, 0⟩] false) (.seq (.seq (.ops [⟨(some 33), .move (.tmp 7), none, 0⟩,
    ⟨(some 34), .bin .eql (.tmp 33) (.const (.int .i64 0)), none, 0⟩] false) (.cond (.tmp 34) (.ops [⟨(some 10), .move (.const (.int .i64 1)), none, 0⟩] false) (.skip))) (.seq (.ops [⟨(some 35), .move (.tmp 8), none, 0⟩,
    ⟨(some 36), .bin .neq (.tmp 35) (.const (.int .u64 0)), none, 0⟩,
    ⟨(some 37), .move (.tmp 36), none, 0⟩,
    ⟨(some 38), .move (.tmp 9), (some (37, false)), 0⟩,
    ⟨(some 39), .move (.tmp 10), (some (37, false)), 0⟩,
    ⟨(some 40), .bin .neq (.tmp 38) (.tmp 39), (some (37, false)), 0⟩,
    ⟨(some 41), .pick (.tmp 37) (.const (.bool true)) (.tmp 40), none, 0⟩] false) (.cond (.tmp 41) (.seq (.ops [⟨(some 6), .move (.const (.bool false)), none, 0⟩] false) (.ret)) (.skip))))) (.seq (.ops [⟨(some 42), .move (.tmp 9), none, 0⟩,
    ⟨(some 43), .bin .neq (.tmp 42) (.const (.int .i64 0)), none, 0⟩,
    ⟨(some 44), .move (.tmp 43), none, 0⟩,
    ⟨(some 45), .move (.tmp 2), (some (44, false)), 0⟩,
    ⟨(some 46), .bin .lss (.tmp 45) (.const (.int .i64 100000)), (some (44, false)), 0⟩,
    ⟨(some 47), .move (.tmp 46), (some (44, false)), 0⟩,
    ⟨(some 48), .move (.tmp 8), (some (47, true)), 0⟩,
    ⟨(some 49), .loadA 2 (.tmp 4), (some (47, true)), 0⟩,
    ⟨(some 50), .move (.tmp 2), (some (47, true)), 0⟩,
    ⟨(some 51), .call 56 [(.tmp 49), (.tmp 50)], (some (47, true)), 0⟩,
    ⟨(some 52), .bin .neq (.tmp 48) (.tmp 51), (some (47, true)), 0⟩,
    ⟨(some 53), .pick (.tmp 47) (.tmp 52) (.const (.bool false)), (some (44, false)), 0⟩,
    ⟨(some 54), .pick (.tmp 44) (.const (.bool true)) (.tmp 53), none, 0⟩] false) (.cond (.tmp 54) (.seq (.ops [⟨(some 6), .move (.const (.bool false)), none, 0⟩] false) (.ret)) (.skip))))) (.seq (.ops [⟨(some 56), .loadA 3 (.tmp 3), none, 0⟩,
    ⟨(some 57), .loadA 2 (.tmp 4), none, 0⟩,
    ⟨(some 58), .call 57 [(.tmp 56), (.tmp 57)], none, 0⟩,
    ⟨(some 55), .move (.tmp 58), none, 0⟩,
    ⟨(some 59), .ext 0 (.tmp 55), none, 0⟩,
    ⟨(some 60), .ext 1 (.tmp 55), none, 0⟩,
    ⟨(some 11), .move (.tmp 59), none, 0⟩,
    ⟨(some 12), .move (.tmp 60), none, 0⟩] false) (.seq (.ops [⟨(some 61), .loadA 3 (.tmp 3), none, 0⟩,
    ⟨(some 62), .call 38 [(.tmp 61)], none, 0⟩,
    ⟨(some 13), .move (.tmp 62), none, 0⟩] false) (.seq (.seq (.ops [⟨(some 63), .move (.tmp 13), none, 0⟩,
    ⟨(some 64), .bin .eql (.tmp 63) (.const (.int .i64 0)), none, 0⟩] false) (.cond (.tmp 64) (.ops [⟨(some 65), .move (.tmp 7), none, 0⟩,
    ⟨(some 13), .move (.tmp 65), none, 0⟩] false) (.skip))) (.seq (.seq (.ops [⟨(some 66), .move (.tmp 13), none, 0⟩,
    ⟨(some 67), .bin .neq (.tmp 66) (.const (.int .i64 0)), none, 0⟩] false) (.cond (.tmp 67) (.seq (.ops [⟨(some 68), .move (.tmp 12), none, 0⟩,
    ⟨(some 69), .move (.tmp 13), none, 0⟩,
    ⟨(some 70), .bin .eql (.tmp 68) (.tmp 69), none, 0⟩,
    ⟨(some 71), .move (.tmp 70), none, 0⟩,
    ⟨(some 72), .move (.tmp 11), (some (71, true)), 0⟩,
    ⟨(some 73), .len (.tmp 72), (some (71, true)), 0⟩,
    ⟨(some 74), .bin .eql (.tmp 73) (.const (.int .i64 0)), (some (71, true)), 0⟩,
    ⟨(some 75), .pick (.tmp 71) (.tmp 74) (.const (.bool false)), none, 0⟩,
    ⟨(some 6), .move (.tmp 75), none, 0⟩] false) (.ret)) (.skip))) (.seq (.ops [⟨(some 76), .move (.tmp 12), none, 0⟩,
    ⟨(some 77), .bin .eql (.tmp 76) (.const (.int .i64 0)), none, 0⟩,
    ⟨(some 78), .move (.tmp 77), none, 0⟩,
    ⟨(some 79), .move (.tmp 11), (some (78, true)), 0⟩,
    ⟨(some 80), .loadA 3 (.tmp 3), (some (78, true)), 0⟩,
    ⟨(some 81), .loadA 2 (.tmp 4), (some (78, true)), 0⟩,
    ⟨(some 82), .call 59 [(.tmp 80), (.tmp 81)], (some (78, true)), 0⟩,
    ⟨(some 83), .call 58 [(.tmp 79), (.tmp 82)], (some (78, true)), 0⟩,
    ⟨(some 84), .pick (.tmp 78) (.tmp 83) (.const (.bool false)), none, 0⟩,
    ⟨(some 6), .move (.tmp 84), none, 0⟩] false) (.ret))))))))))
set_option maxRecDepth 100000 in
theorem c13_ok : FunOK Try.prog 13 85 [.tmp 6] c13 := ⟨⟨Try.f13, Try.func13, rfl, by kernel_rfl, rfl, by kernel_rfl⟩⟩
/-- What is answered of a place. -/
noncomputable def atE (s l : List Int) (i : Int) : Int := if wchk s l ≠ 0 then wchk s l else if i < 0 then 1 else 0
noncomputable def atX (s l : List Int) (i : Int) : Int := if atE s l i = 0 then atW s l i.toNat else 0
theorem las_At (s l : List Int) (i : Int) (hi : i ≤ 9223372036854775807) : PCall Try.prog 54 [dword s l, .sc (.int .i64 i)] (.tup [.sc (.int .u64 (atX s l i)), .sc (.int .i64 (atE s l i))]) := by
  refine pcall_intro c54_ok (by simp) (by simp [PureL, Pure, pure_dword]) ?_ (by simp [Pure, PureL])
  (apply red_sound; focus (repeat' (first | exact Red.skip | exact Red.ret | exact RedO.nil | exact RedD.nil | exact Red.exit _ | exact Red.loop _ | exact Red.stop _ | apply Red.ops | apply Red.draw | apply Red.seq | apply Red.cond | apply Red.block | apply RedO.cons | apply RedD.cons | exact (0 : Nat))))
  ((conv => whnf); repeat (refine And.intro rfl ?_; (conv => whnf)))
  (refine .inl ⟨_, (las_Check s l), ?_⟩; ((conv => whnf); repeat (refine And.intro rfl ?_; (conv => whnf))))
  have fin : ∀ {H : List AObj} {x e : Int}, x = atX s l i → e = atE s l i → Deep H (.tup [.sc (.int .u64 x), .sc (.int .i64 e)]) (.tup [.sc (.int .u64 (atX s l i)), .sc (.int .i64 (atE s l i))]) := fun h k => by rw [h, k]; exact .refl _
  (refine ifK_split (fun h1 => ?_) (fun h1 => ?_) <;> (rw [h1]; ((conv => whnf); repeat (refine And.intro rfl ?_; (conv => whnf)))))
  · have h1 : wchk s l ≠ 0 := by ((try simp only [bne_iff_ne, ne_eq, bne_eq_false_iff_eq, beq_iff_eq, beq_eq_false_iff_ne, decide_eq_true_eq, decide_eq_false_iff_not, List.length_map, Bool.not_eq_true, Bool.not_eq_false, Bool.and_eq_true, Bool.or_eq_true, Bool.and_eq_false_iff, Bool.or_eq_false_iff, Bool.not_eq_true', Bool.not_eq_false', Bool.not_true, Bool.not_false, Bool.not_eq_eq_eq_not, not_true_eq_false, not_false_eq_true, reduceCtorEq, Bool.true_or, Bool.false_or, Bool.or_true, Bool.or_false, Bool.true_and, Bool.and_true, Bool.false_and, Bool.and_false, true_and, and_true, or_false, false_or, true_or, or_true, false_and, and_false, Bool.true_eq_false, Bool.false_eq_true] at *) <;> omega)
    have e : atE s l i = wchk s l := by unfold atE; rw [if_pos h1]
    exact fin (by unfold atX; rw [e, if_neg h1]) e.symm
  have h1 : wchk s l = 0 := by ((try simp only [bne_iff_ne, ne_eq, bne_eq_false_iff_eq, beq_iff_eq, beq_eq_false_iff_ne, decide_eq_true_eq, decide_eq_false_iff_not, List.length_map, Bool.not_eq_true, Bool.not_eq_false, Bool.and_eq_true, Bool.or_eq_true, Bool.and_eq_false_iff, Bool.or_eq_false_iff, Bool.not_eq_true', Bool.not_eq_false', Bool.not_true, Bool.not_false, Bool.not_eq_eq_eq_not, not_true_eq_false, not_false_eq_true, reduceCtorEq, Bool.true_or, Bool.false_or, Bool.or_true, Bool.or_false, Bool.true_and, Bool.and_true, Bool.false_and, Bool.and_false, true_and, and_true, or_false, false_or, true_or, or_true, false_and, and_false, Bool.true_eq_false, Bool.false_eq_true] at *) <;> omega)
  (refine ifK_split (fun h2 => ?_) (fun h2 => ?_) <;> (rw [h2]; ((conv => whnf); repeat (refine And.intro rfl ?_; (conv => whnf)))))
  · have h2 : i < 0 := by ((try simp only [bne_iff_ne, ne_eq, bne_eq_false_iff_eq, beq_iff_eq, beq_eq_false_iff_ne, decide_eq_true_eq, decide_eq_false_iff_not, List.length_map, Bool.not_eq_true, Bool.not_eq_false, Bool.and_eq_true, Bool.or_eq_true, Bool.and_eq_false_iff, Bool.or_eq_false_iff, Bool.not_eq_true', Bool.not_eq_false', Bool.not_true, Bool.not_false, Bool.not_eq_eq_eq_not, not_true_eq_false, not_false_eq_true, reduceCtorEq, Bool.true_or, Bool.false_or, Bool.or_true, Bool.or_false, Bool.true_and, Bool.and_true, Bool.false_and, Bool.and_false, true_and, and_true, or_false, false_or, true_or, or_true, false_and, and_false, Bool.true_eq_false, Bool.false_eq_true] at *) <;> omega)
    have e : atE s l i = 1 := by unfold atE; rw [if_neg (by omega), if_pos h2]
    exact fin (by unfold atX; rw [e]; rfl) e.symm
  · have h2 : ¬ i < 0 := by ((try simp only [bne_iff_ne, ne_eq, bne_eq_false_iff_eq, beq_iff_eq, beq_eq_false_iff_ne, decide_eq_true_eq, decide_eq_false_iff_not, List.length_map, Bool.not_eq_true, Bool.not_eq_false, Bool.and_eq_true, Bool.or_eq_true, Bool.and_eq_false_iff, Bool.or_eq_false_iff, Bool.not_eq_true', Bool.not_eq_false', Bool.not_true, Bool.not_false, Bool.not_eq_eq_eq_not, not_true_eq_false, not_false_eq_true, reduceCtorEq, Bool.true_or, Bool.false_or, Bool.or_true, Bool.or_false, Bool.true_and, Bool.and_true, Bool.false_and, Bool.and_false, true_and, and_true, or_false, false_or, true_or, or_true, false_and, and_false, Bool.true_eq_false, Bool.false_eq_true] at *) <;> omega)
    have w1 := (wchk_zero s l).1 h1
    have e : atE s l i = 0 := by unfold atE; rw [if_neg (by omega), if_neg h2]
    have hA := las_at s l w1.2 (by omega) (by omega) i.toNat (by omega)
    rw [Int.toNat_of_nonneg (by omega)] at hA
    (refine .inl ⟨_, hA, ?_⟩; ((conv => whnf); repeat (refine And.intro rfl ?_; (conv => whnf))))
    exact fin (by unfold atX; rw [e, if_pos rfl]) e.symm
noncomputable def holdsE (t : Tree) (s l : List Int) : Int := if chk lKids t ≠ 0 then chk lKids t else wchk s l
theorem las_Holds1 (t : Tree) (ht : Small t) (s l : List Int) (h : holdsE t s l ≠ 0) : PCall Try.prog 57 [dtree t, dword s l] (.tup [.lst 1 [], .sc (.int .i64 (holdsE t s l))]) := by
  refine pcall_intro c57_ok (by simp) (by simp [PureL, pure_dtree, pure_dword]) ?_ (by simp [Pure, PureL, PureLL])
  (apply red_sound; focus (repeat' (first | exact Red.skip | exact Red.ret | exact RedO.nil | exact RedD.nil | exact Red.exit _ | exact Red.loop _ | exact Red.stop _ | apply Red.ops | apply Red.draw | apply Red.seq | apply Red.cond | apply Red.block | apply RedO.cons | apply RedD.cons | exact (0 : Nat))))
  ((conv => whnf); repeat (refine And.intro rfl ?_; (conv => whnf)))
  have fin : ∀ {H : List AObj} {e : Int}, e = holdsE t s l → Deep H (.tup [.sc (.slice none 0 0), .sc (.int .i64 e)]) (.tup [.lst 1 [], .sc (.int .i64 (holdsE t s l))]) := fun h => by rw [h]; exact .tup _ _ (.cons _ _ _ _ (.none _) (.cons _ _ _ _ (.refl _) .nil))
  (refine .inl ⟨_, (ltl_Check t ht), ?_⟩; ((conv => whnf); repeat (refine And.intro rfl ?_; (conv => whnf))))
  (refine ifK_split (fun h1 => ?_) (fun h1 => ?_) <;> (rw [h1]; ((conv => whnf); repeat (refine And.intro rfl ?_; (conv => whnf)))))
  · have h1 : chk lKids t ≠ 0 := by ((try simp only [bne_iff_ne, ne_eq, bne_eq_false_iff_eq, beq_iff_eq, beq_eq_false_iff_ne, decide_eq_true_eq, decide_eq_false_iff_not, List.length_map, Bool.not_eq_true, Bool.not_eq_false, Bool.and_eq_true, Bool.or_eq_true, Bool.and_eq_false_iff, Bool.or_eq_false_iff, Bool.not_eq_true', Bool.not_eq_false', Bool.not_true, Bool.not_false, Bool.not_eq_eq_eq_not, not_true_eq_false, not_false_eq_true, reduceCtorEq, Bool.true_or, Bool.false_or, Bool.or_true, Bool.or_false, Bool.true_and, Bool.and_true, Bool.false_and, Bool.and_false, true_and, and_true, or_false, false_or, true_or, or_true, false_and, and_false, Bool.true_eq_false, Bool.false_eq_true] at *) <;> omega)
    exact fin (by unfold holdsE; rw [if_pos h1])
  have h1 : chk lKids t = 0 := by ((try simp only [bne_iff_ne, ne_eq, bne_eq_false_iff_eq, beq_iff_eq, beq_eq_false_iff_ne, decide_eq_true_eq, decide_eq_false_iff_not, List.length_map, Bool.not_eq_true, Bool.not_eq_false, Bool.and_eq_true, Bool.or_eq_true, Bool.and_eq_false_iff, Bool.or_eq_false_iff, Bool.not_eq_true', Bool.not_eq_false', Bool.not_true, Bool.not_false, Bool.not_eq_eq_eq_not, not_true_eq_false, not_false_eq_true, reduceCtorEq, Bool.true_or, Bool.false_or, Bool.or_true, Bool.or_false, Bool.true_and, Bool.and_true, Bool.false_and, Bool.and_false, true_and, and_true, or_false, false_or, true_or, or_true, false_and, and_false, Bool.true_eq_false, Bool.false_eq_true] at *) <;> omega)
  (refine .inl ⟨_, (las_Check s l), ?_⟩; ((conv => whnf); repeat (refine And.intro rfl ?_; (conv => whnf))))
  (refine ifK_split (fun h2 => ?_) (fun h2 => ?_) <;> (rw [h2]; ((conv => whnf); repeat (refine And.intro rfl ?_; (conv => whnf)))))
  · exact fin (by unfold holdsE; rw [if_neg (by omega)])
  · exfalso
    have h2 : wchk s l = 0 := by ((try simp only [bne_iff_ne, ne_eq, bne_eq_false_iff_eq, beq_iff_eq, beq_eq_false_iff_ne, decide_eq_true_eq, decide_eq_false_iff_not, List.length_map, Bool.not_eq_true, Bool.not_eq_false, Bool.and_eq_true, Bool.or_eq_true, Bool.and_eq_false_iff, Bool.or_eq_false_iff, Bool.not_eq_true', Bool.not_eq_false', Bool.not_true, Bool.not_false, Bool.not_eq_eq_eq_not, not_true_eq_false, not_false_eq_true, reduceCtorEq, Bool.true_or, Bool.false_or, Bool.or_true, Bool.or_false, Bool.true_and, Bool.and_true, Bool.false_and, Bool.and_false, true_and, and_true, or_false, false_or, true_or, or_true, false_and, and_false, Bool.true_eq_false, Bool.false_eq_true] at *) <;> omega)
    exact h (by unfold holdsE; rw [if_neg (by omega), h2])
theorem las_Holds0 (t : Tree) (ht : Small t) (s l : List Int) (hls : Lett s) (hll : Lett l) (h : holdsE t s l = 0) : PCall Try.prog 57 [dtree t, dword s l] (.tup [dbl (s.length + l.length) (trT s l t), .sc (.int .i64 0)]) := by
  have h1 : chk lKids t = 0 := by
    unfold holdsE at h; split at h <;> omega
  have h2 : wchk s l = 0 := by
    unfold holdsE at h; rw [if_neg (by omega)] at h; exact h
  refine pcall_intro c57_ok (by simp) (by simp [PureL, pure_dtree, pure_dword]) ?_ (by simp [Pure, PureL, pure_dbl])
  (apply red_sound; focus (repeat' (first | exact Red.skip | exact Red.ret | exact RedO.nil | exact RedD.nil | exact Red.exit _ | exact Red.loop _ | exact Red.stop _ | apply Red.ops | apply Red.draw | apply Red.seq | apply Red.cond | apply Red.block | apply RedO.cons | apply RedD.cons | exact (0 : Nat))))
  ((conv => whnf); repeat (refine And.intro rfl ?_; (conv => whnf)))
  (refine .inl ⟨_, (ltl_Check t ht), ?_⟩; ((conv => whnf); repeat (refine And.intro rfl ?_; (conv => whnf))))
  (refine ifK_split (fun q1 => ?_) (fun q1 => ?_) <;> (rw [q1]; ((conv => whnf); repeat (refine And.intro rfl ?_; (conv => whnf)))))
  · exfalso; ((try simp only [bne_iff_ne, ne_eq, bne_eq_false_iff_eq, beq_iff_eq, beq_eq_false_iff_ne, decide_eq_true_eq, decide_eq_false_iff_not, List.length_map, Bool.not_eq_true, Bool.not_eq_false, Bool.and_eq_true, Bool.or_eq_true, Bool.and_eq_false_iff, Bool.or_eq_false_iff, Bool.not_eq_true', Bool.not_eq_false', Bool.not_true, Bool.not_false, Bool.not_eq_eq_eq_not, not_true_eq_false, not_false_eq_true, reduceCtorEq, Bool.true_or, Bool.false_or, Bool.or_true, Bool.or_false, Bool.true_and, Bool.and_true, Bool.false_and, Bool.and_false, true_and, and_true, or_false, false_or, true_or, or_true, false_and, and_false, Bool.true_eq_false, Bool.false_eq_true] at *) <;> omega)
  (refine .inl ⟨_, (las_Check s l), ?_⟩; ((conv => whnf); repeat (refine And.intro rfl ?_; (conv => whnf))))
  (refine ifK_split (fun q2 => ?_) (fun q2 => ?_) <;> (rw [q2]; ((conv => whnf); repeat (refine And.intro rfl ?_; (conv => whnf)))))
  · exfalso; ((try simp only [bne_iff_ne, ne_eq, bne_eq_false_iff_eq, beq_iff_eq, beq_eq_false_iff_ne, decide_eq_true_eq, decide_eq_false_iff_not, List.length_map, Bool.not_eq_true, Bool.not_eq_false, Bool.and_eq_true, Bool.or_eq_true, Bool.and_eq_false_iff, Bool.or_eq_false_iff, Bool.not_eq_true', Bool.not_eq_false', Bool.not_true, Bool.not_false, Bool.not_eq_eq_eq_not, not_true_eq_false, not_false_eq_true, reduceCtorEq, Bool.true_or, Bool.false_or, Bool.or_true, Bool.or_false, Bool.true_and, Bool.and_true, Bool.false_and, Bool.and_false, true_and, and_true, or_false, false_or, true_or, or_true, false_and, and_false, Bool.true_eq_false, Bool.false_eq_true] at *) <;> omega)
  (refine .inl ⟨_, (las_holds s l ((wchk_zero s l).1 h2) hls hll t ((chk_zero _ _).1 h1).2.2), ?_⟩; ((conv => whnf); repeat (refine And.intro rfl ?_; (conv => whnf))))
  exact .refl _
set_option maxRecDepth 100000 in
theorem law_LassoSays (t : Tree) (ht : Small t) (s l : List Int) (hls : Lett s) (hll : Lett l) (i : Int) (hi : i ≤ 9223372036854775807) : PCall Try.prog 13 [dtree t, dword s l, .sc (.int .i64 i)] (dbool true) := by
  have hW := ref_Word s l
  have hC := las_Check s l
  have hA := las_At s l i hi
  have hL := ref_Ltl t ht
  have hH1 := las_Holds1 t ht s l
  have hH0 := las_Holds0 t ht s l hls hll
  have eA : atE s l i = if wchk s l ≠ 0 then wchk s l else if i < 0 then 1 else 0 := rfl
  have eX : atX s l i = if atE s l i = 0 then atW s l i.toNat else 0 := rfl
  have eH : holdsE t s l = if chk lKids t ≠ 0 then chk lKids t else wchk s l := rfl
  have hz : wchk s l = 0 → 1 ≤ l.length ∧ s.length + l.length ≤ 60 := fun h => ⟨((wchk_zero s l).1 h).2, ((wchk_zero s l).1 h).1⟩
  have hw : chk lKids t = 0 → t.wf lKids := fun h => ((chk_zero _ _).1 h).2.2
  refine pcall_intro c13_ok (by simp) (by simp [PureL, Pure, pure_dtree, pure_dword]) ?_ (by simp [dbool, Pure])
  have hT : wchk s l = 0 → chk lKids t = 0 → PCall Try.prog 59 [dtree t, dword s l] (dbl (s.length + l.length) (trT s l t)) := fun h k => ref_True s l ⟨(hz h).2, (hz h).1⟩ t (hw k)
  have hq : wchk s l = 0 → PCall Try.prog 58 [dbl (s.length + l.length) (trT s l t), dbl (s.length + l.length) (trT s l t)] (.sc (.bool true)) := fun h => eq_bool _ _ (by have := hz h; omega)
  have hR : wchk s l = 0 → 0 ≤ i → i < 100000 → PCall Try.prog 56 [dword s l, .sc (.int .i64 i)] (du (atW s l i.toNat)) := fun h h1 h2 => by
    have := ref_At s l (hz h).1 (by have := hz h; omega) (by have := hz h; omega) i.toNat (by omega)
    rwa [Int.toNat_of_nonneg h1] at this
  generalize atW s l i.toNat = x at eX hR
  generalize trT s l t = g at hH0 hT hq
  generalize s.length + l.length = n at hH0 hT hq
  generalize wchk s l = e at *
  generalize chk lKids t = c at *
  generalize holdsE t s l = he at *
  generalize atE s l i = ae at *
  generalize atX s l i = ax at *
  clear hls hll
  (apply red_sound; focus (repeat' (first | exact Red.skip | exact Red.ret | exact RedO.nil | exact RedD.nil | exact Red.exit _ | exact Red.loop _ | exact Red.stop _ | apply Red.ops | apply Red.draw | apply Red.seq | apply Red.cond | apply Red.block | apply RedO.cons | apply RedD.cons | exact (0 : Nat))))
  ((conv => whnf); repeat (refine And.intro rfl ?_; (conv => whnf)))
  by_cases he0 : e = 0
  · subst he0
    rw [if_neg (by omega)] at eA
    (refine .inl ⟨_, hW, ?_⟩; ((conv => whnf); repeat (refine And.intro rfl ?_; (conv => whnf))))
    (refine .inl ⟨_, hA, ?_⟩; ((conv => whnf); repeat (refine And.intro rfl ?_; (conv => whnf))))
    (refine .inl ⟨_, hC, ?_⟩; ((conv => whnf); repeat (refine And.intro rfl ?_; (conv => whnf))))
    by_cases hi0 : i < 0
    · rw [if_pos hi0] at eA
      subst eA
      rw [if_neg (by omega)] at eX
      subst eX
      (refine ifK_split (fun h => ?_) (fun h => ?_) <;> (rw [h]; ((conv => whnf); repeat (refine And.intro rfl ?_; (conv => whnf)))))
      rotate_left
      · exfalso; ((try simp only [bne_iff_ne, ne_eq, bne_eq_false_iff_eq, beq_iff_eq, beq_eq_false_iff_ne, decide_eq_true_eq, decide_eq_false_iff_not, List.length_map, Bool.not_eq_true, Bool.not_eq_false, Bool.and_eq_true, Bool.or_eq_true, Bool.and_eq_false_iff, Bool.or_eq_false_iff, Bool.not_eq_true', Bool.not_eq_false', Bool.not_true, Bool.not_false, Bool.not_eq_eq_eq_not, not_true_eq_false, not_false_eq_true, reduceCtorEq, Bool.true_or, Bool.false_or, Bool.or_true, Bool.or_false, Bool.true_and, Bool.and_true, Bool.false_and, Bool.and_false, true_and, and_true, or_false, false_or, true_or, or_true, false_and, and_false, Bool.true_eq_false, Bool.false_eq_true] at *) <;> omega)
      by_cases hc0 : c = 0
      · subst hc0
        have eH := eH.trans (if_neg (by omega))
        subst eH
        (refine .inl ⟨_, (hH0 rfl), ?_⟩; ((conv => whnf); repeat (refine And.intro rfl ?_; (conv => whnf))))
        (refine .inl ⟨_, hL, ?_⟩; ((conv => whnf); repeat (refine And.intro rfl ?_; (conv => whnf))))
        (refine .inl ⟨_, (hT rfl rfl), ?_⟩; ((conv => whnf); repeat (refine And.intro rfl ?_; (conv => whnf))))
        (refine .inl ⟨_, (hq rfl), ?_⟩; ((conv => whnf); repeat (refine And.intro rfl ?_; (conv => whnf))))
        exact .refl _
      · have eH := eH.trans (if_pos hc0)
        subst eH
        (refine .inl ⟨_, (hH1 hc0), ?_⟩; ((conv => whnf); repeat (refine And.intro rfl ?_; (conv => whnf))))
        (refine .inl ⟨_, hL, ?_⟩; ((conv => whnf); repeat (refine And.intro rfl ?_; (conv => whnf))))
        repeat' (first | (refine ifK_split (fun h => ?_) (fun h => ?_) <;> (rw [h]; ((conv => whnf); repeat (refine And.intro rfl ?_; (conv => whnf))))) | (exfalso; ((try simp only [bne_iff_ne, ne_eq, bne_eq_false_iff_eq, beq_iff_eq, beq_eq_false_iff_ne, decide_eq_true_eq, decide_eq_false_iff_not, List.length_map, Bool.not_eq_true, Bool.not_eq_false, Bool.and_eq_true, Bool.or_eq_true, Bool.and_eq_false_iff, Bool.or_eq_false_iff, Bool.not_eq_true', Bool.not_eq_false', Bool.not_true, Bool.not_false, Bool.not_eq_eq_eq_not, not_true_eq_false, not_false_eq_true, reduceCtorEq, Bool.true_or, Bool.false_or, Bool.or_true, Bool.or_false, Bool.true_and, Bool.and_true, Bool.false_and, Bool.and_false, true_and, and_true, or_false, false_or, true_or, or_true, false_and, and_false, Bool.true_eq_false, Bool.false_eq_true] at *) <;> omega)))
        all_goals exact deep_eq (by simp [dbool])
    · rw [if_neg hi0] at eA
      subst eA
      rw [if_pos rfl] at eX
      subst eX
      (refine ifK_split (fun h => ?_) (fun h => ?_) <;> (rw [h]; ((conv => whnf); repeat (refine And.intro rfl ?_; (conv => whnf)))))
      · exfalso; ((try simp only [bne_iff_ne, ne_eq, bne_eq_false_iff_eq, beq_iff_eq, beq_eq_false_iff_ne, decide_eq_true_eq, decide_eq_false_iff_not, List.length_map, Bool.not_eq_true, Bool.not_eq_false, Bool.and_eq_true, Bool.or_eq_true, Bool.and_eq_false_iff, Bool.or_eq_false_iff, Bool.not_eq_true', Bool.not_eq_false', Bool.not_true, Bool.not_false, Bool.not_eq_eq_eq_not, not_true_eq_false, not_false_eq_true, reduceCtorEq, Bool.true_or, Bool.false_or, Bool.or_true, Bool.or_false, Bool.true_and, Bool.and_true, Bool.false_and, Bool.and_false, true_and, and_true, or_false, false_or, true_or, or_true, false_and, and_false, Bool.true_eq_false, Bool.false_eq_true] at *) <;> omega)
      (refine ifK_split (fun h => ?_) (fun h => ?_) <;> (rw [h]; ((conv => whnf); repeat (refine And.intro rfl ?_; (conv => whnf)))))
      · have h1 : i < 100000 := by ((try simp only [bne_iff_ne, ne_eq, bne_eq_false_iff_eq, beq_iff_eq, beq_eq_false_iff_ne, decide_eq_true_eq, decide_eq_false_iff_not, List.length_map, Bool.not_eq_true, Bool.not_eq_false, Bool.and_eq_true, Bool.or_eq_true, Bool.and_eq_false_iff, Bool.or_eq_false_iff, Bool.not_eq_true', Bool.not_eq_false', Bool.not_true, Bool.not_false, Bool.not_eq_eq_eq_not, not_true_eq_false, not_false_eq_true, reduceCtorEq, Bool.true_or, Bool.false_or, Bool.or_true, Bool.or_false, Bool.true_and, Bool.and_true, Bool.false_and, Bool.and_false, true_and, and_true, or_false, false_or, true_or, or_true, false_and, and_false, Bool.true_eq_false, Bool.false_eq_true] at *) <;> omega)
        (refine .inl ⟨_, (hR rfl (by omega) h1), ?_⟩; ((conv => whnf); repeat (refine And.intro rfl ?_; (conv => whnf))))
        (refine ifK_split (fun h => ?_) (fun h => ?_) <;> (rw [h]; ((conv => whnf); repeat (refine And.intro rfl ?_; (conv => whnf)))))
        · exfalso; simp at *
        by_cases hc0 : c = 0
        · subst hc0
          have eH := eH.trans (if_neg (by omega))
          subst eH
          (refine .inl ⟨_, (hH0 rfl), ?_⟩; ((conv => whnf); repeat (refine And.intro rfl ?_; (conv => whnf))))
          (refine .inl ⟨_, hL, ?_⟩; ((conv => whnf); repeat (refine And.intro rfl ?_; (conv => whnf))))
          (refine .inl ⟨_, (hT rfl rfl), ?_⟩; ((conv => whnf); repeat (refine And.intro rfl ?_; (conv => whnf))))
          (refine .inl ⟨_, (hq rfl), ?_⟩; ((conv => whnf); repeat (refine And.intro rfl ?_; (conv => whnf))))
          exact .refl _
        · have eH := eH.trans (if_pos hc0)
          subst eH
          (refine .inl ⟨_, (hH1 hc0), ?_⟩; ((conv => whnf); repeat (refine And.intro rfl ?_; (conv => whnf))))
          (refine .inl ⟨_, hL, ?_⟩; ((conv => whnf); repeat (refine And.intro rfl ?_; (conv => whnf))))
          repeat' (first | (refine ifK_split (fun h => ?_) (fun h => ?_) <;> (rw [h]; ((conv => whnf); repeat (refine And.intro rfl ?_; (conv => whnf))))) | (exfalso; ((try simp only [bne_iff_ne, ne_eq, bne_eq_false_iff_eq, beq_iff_eq, beq_eq_false_iff_ne, decide_eq_true_eq, decide_eq_false_iff_not, List.length_map, Bool.not_eq_true, Bool.not_eq_false, Bool.and_eq_true, Bool.or_eq_true, Bool.and_eq_false_iff, Bool.or_eq_false_iff, Bool.not_eq_true', Bool.not_eq_false', Bool.not_true, Bool.not_false, Bool.not_eq_eq_eq_not, not_true_eq_false, not_false_eq_true, reduceCtorEq, Bool.true_or, Bool.false_or, Bool.or_true, Bool.or_false, Bool.true_and, Bool.and_true, Bool.false_and, Bool.and_false, true_and, and_true, or_false, false_or, true_or, or_true, false_and, and_false, Bool.true_eq_false, Bool.false_eq_true] at *) <;> omega)))
          all_goals exact deep_eq (by simp [dbool])
      ·
        by_cases hc0 : c = 0
        · subst hc0
          have eH := eH.trans (if_neg (by omega))
          subst eH
          (refine .inl ⟨_, (hH0 rfl), ?_⟩; ((conv => whnf); repeat (refine And.intro rfl ?_; (conv => whnf))))
          (refine .inl ⟨_, hL, ?_⟩; ((conv => whnf); repeat (refine And.intro rfl ?_; (conv => whnf))))
          (refine .inl ⟨_, (hT rfl rfl), ?_⟩; ((conv => whnf); repeat (refine And.intro rfl ?_; (conv => whnf))))
          (refine .inl ⟨_, (hq rfl), ?_⟩; ((conv => whnf); repeat (refine And.intro rfl ?_; (conv => whnf))))
          exact .refl _
        · have eH := eH.trans (if_pos hc0)
          subst eH
          (refine .inl ⟨_, (hH1 hc0), ?_⟩; ((conv => whnf); repeat (refine And.intro rfl ?_; (conv => whnf))))
          (refine .inl ⟨_, hL, ?_⟩; ((conv => whnf); repeat (refine And.intro rfl ?_; (conv => whnf))))
          repeat' (first | (refine ifK_split (fun h => ?_) (fun h => ?_) <;> (rw [h]; ((conv => whnf); repeat (refine And.intro rfl ?_; (conv => whnf))))) | (exfalso; ((try simp only [bne_iff_ne, ne_eq, bne_eq_false_iff_eq, beq_iff_eq, beq_eq_false_iff_ne, decide_eq_true_eq, decide_eq_false_iff_not, List.length_map, Bool.not_eq_true, Bool.not_eq_false, Bool.and_eq_true, Bool.or_eq_true, Bool.and_eq_false_iff, Bool.or_eq_false_iff, Bool.not_eq_true', Bool.not_eq_false', Bool.not_true, Bool.not_false, Bool.not_eq_eq_eq_not, not_true_eq_false, not_false_eq_true, reduceCtorEq, Bool.true_or, Bool.false_or, Bool.or_true, Bool.or_false, Bool.true_and, Bool.and_true, Bool.false_and, Bool.and_false, true_and, and_true, or_false, false_or, true_or, or_true, false_and, and_false, Bool.true_eq_false, Bool.false_eq_true] at *) <;> omega)))
          all_goals exact deep_eq (by simp [dbool])
  · have eA := eA.trans (if_pos he0)
    subst eA
    have eX := eX.trans (if_neg he0)
    subst eX
    (refine .inl ⟨_, hW, ?_⟩; ((conv => whnf); repeat (refine And.intro rfl ?_; (conv => whnf))))
    (refine .inl ⟨_, hA, ?_⟩; ((conv => whnf); repeat (refine And.intro rfl ?_; (conv => whnf))))
    (refine .inl ⟨_, hC, ?_⟩; ((conv => whnf); repeat (refine And.intro rfl ?_; (conv => whnf))))
    repeat' (first | (refine ifK_split (fun h => ?_) (fun h => ?_) <;> (rw [h]; ((conv => whnf); repeat (refine And.intro rfl ?_; (conv => whnf))))) | (exfalso; ((try simp only [bne_iff_ne, ne_eq, bne_eq_false_iff_eq, beq_iff_eq, beq_eq_false_iff_ne, decide_eq_true_eq, decide_eq_false_iff_not, List.length_map, Bool.not_eq_true, Bool.not_eq_false, Bool.and_eq_true, Bool.or_eq_true, Bool.and_eq_false_iff, Bool.or_eq_false_iff, Bool.not_eq_true', Bool.not_eq_false', Bool.not_true, Bool.not_false, Bool.not_eq_eq_eq_not, not_true_eq_false, not_false_eq_true, reduceCtorEq, Bool.true_or, Bool.false_or, Bool.or_true, Bool.or_false, Bool.true_and, Bool.and_true, Bool.false_and, Bool.and_false, true_and, and_true, or_false, false_or, true_or, or_true, false_and, and_false, Bool.true_eq_false, Bool.false_eq_true] at *) <;> omega)))
    all_goals
      by_cases hc0 : c = 0
      · subst hc0
        have eH := eH.trans (if_neg (by omega))
        subst eH
        (refine .inl ⟨_, (hH1 he0), ?_⟩; ((conv => whnf); repeat (refine And.intro rfl ?_; (conv => whnf))))
        (refine .inl ⟨_, hL, ?_⟩; ((conv => whnf); repeat (refine And.intro rfl ?_; (conv => whnf))))
        repeat' (first | (refine ifK_split (fun h => ?_) (fun h => ?_) <;> (rw [h]; ((conv => whnf); repeat (refine And.intro rfl ?_; (conv => whnf))))) | (exfalso; ((try simp only [bne_iff_ne, ne_eq, bne_eq_false_iff_eq, beq_iff_eq, beq_eq_false_iff_ne, decide_eq_true_eq, decide_eq_false_iff_not, List.length_map, Bool.not_eq_true, Bool.not_eq_false, Bool.and_eq_true, Bool.or_eq_true, Bool.and_eq_false_iff, Bool.or_eq_false_iff, Bool.not_eq_true', Bool.not_eq_false', Bool.not_true, Bool.not_false, Bool.not_eq_eq_eq_not, not_true_eq_false, not_false_eq_true, reduceCtorEq, Bool.true_or, Bool.false_or, Bool.or_true, Bool.or_false, Bool.true_and, Bool.and_true, Bool.false_and, Bool.and_false, true_and, and_true, or_false, false_or, true_or, or_true, false_and, and_false, Bool.true_eq_false, Bool.false_eq_true] at *) <;> omega)))
        all_goals exact deep_eq (by simp [dbool])
      · have eH := eH.trans (if_pos hc0)
        subst eH
        (refine .inl ⟨_, (hH1 hc0), ?_⟩; ((conv => whnf); repeat (refine And.intro rfl ?_; (conv => whnf))))
        (refine .inl ⟨_, hL, ?_⟩; ((conv => whnf); repeat (refine And.intro rfl ?_; (conv => whnf))))
        repeat' (first | (refine ifK_split (fun h => ?_) (fun h => ?_) <;> (rw [h]; ((conv => whnf); repeat (refine And.intro rfl ?_; (conv => whnf))))) | (exfalso; ((try simp only [bne_iff_ne, ne_eq, bne_eq_false_iff_eq, beq_iff_eq, beq_eq_false_iff_ne, decide_eq_true_eq, decide_eq_false_iff_not, List.length_map, Bool.not_eq_true, Bool.not_eq_false, Bool.and_eq_true, Bool.or_eq_true, Bool.and_eq_false_iff, Bool.or_eq_false_iff, Bool.not_eq_true', Bool.not_eq_false', Bool.not_true, Bool.not_false, Bool.not_eq_eq_eq_not, not_true_eq_false, not_false_eq_true, reduceCtorEq, Bool.true_or, Bool.false_or, Bool.or_true, Bool.or_false, Bool.true_and, Bool.and_true, Bool.false_and, Bool.and_false, true_and, and_true, or_false, false_or, true_or, or_true, false_and, and_false, Bool.true_eq_false, Bool.false_eq_true] at *) <;> omega)))
        all_goals exact deep_eq (by simp [dbool])
namespace lassoSays
set_option maxRecDepth 100000 in
theorem law : ∀ Ds, OfAs Try.prog [56, 29, 3] Ds → PCall Try.prog 13 Ds (dbool true)
  | [d, e, f], h => by
    obtain ⟨t, rfl, ht⟩ := argLtl h.1
    obtain ⟨s, l, rfl, hs, hl⟩ := argWordL Try.underlying29 rfl rfl Try.underlying27 Try.underlying94 (by kernel_rfl) h.2.1
    obtain ⟨i, rfl, hi⟩ := argInt Try.underlying3 h.2.2.1
    exact law_LassoSays t ht s l hs hl i hi.2
theorem types : typesOK Try.prog [56, 29, 3, 54, 27, 94] = true := by kernel_rfl
set_option maxRecDepth 100000 in
theorem laidOut : laidOutB Try.prog = true := by kernel_rfl
set_option maxRecDepth 100000 in
theorem readable : (Try.f13.params.toList.all fun t => Try.prog.readableRec t && decide (t < Try.prog.types.size)) = true := by kernel_rfl
theorem own : ownKnob Try.prog.godebug = none := by kernel_rfl
set_option maxRecDepth 100000 in
theorem lifted (os : Os) (started : os.Started) (H : Type) (enc : TypeId × Value → H) :
    ReturnsInHanded {} Try.checked os 13 .any (Rows.lassoSaysSpec.pre6 enc Try.prog Try.f13 Rows.lassoSaysRow.domain false) (Rows.lassoSaysSpec.post enc Try.prog Try.f13 false true false false) := by
  refine returnsInHanded_of_change (C := Try.checked) own started (by kernel_rfl) Try.func13
    (ChangeSpec.witness6 (enc := enc) (C := Try.checked) false ⟨#[], #[.agg #[.int .i64 0, .int .i64 0, .slice none 0 0], .agg #[.slice none 0 0, .slice none 0 0], .int .i64 0], []⟩ 8 (by kernel_rfl) (by kernel_rfl) (by kernel_rfl) (by kernel_rfl)) ?_
  intro W base args ds gs before hval0 hW _ _
  have hval : ∀ (j : Nat) t v, Try.f13.params[j]? = some t → args[j]? = some v → Value.okWide Try.prog W .any base t v := hval0
  have hW' := hW
  obtain ⟨p, q, hA0, hV, _, hfz, hnd⟩ := hW
  have hA : DataW.TrodAll enc Try.prog W 0 (fun _ => true) true Try.f13.params.toList args.toList ds p := hA0
  have hps : Try.f13.params.toList = [56, 29, 3] := by kernel_rfl
  obtain ⟨Ds, hD, hR⟩ := args_rep types (base := base) _ _ _ _ (fun t ht => by rw [hps] at ht; revert t; decide) (fun j t v h1 h2 => hval j t v (by simpa using h1) (by simpa using h2)) hA
  rw [hps] at hD
  have hC := (law Ds hD).run noInj (There W) W args.toList (fun b h => h) hR
  rw [show args.toList.toArray = args from rfl] at hC
  refine hC.mono fun e W' ⟨v, F', he, _, hv, hx⟩ => ?_
  have hv' : v = .bool true := by simpa only [rep, dbool] using hv
  subst he hv'
  exact ⟨_, rfl, row_post hW' rfl (by kernel_rfl) Try.underlying4 laidOut (fun t ht => by
      have := List.all_eq_true.1 readable t ht
      simp only [Bool.and_eq_true, decide_eq_true_eq] at this
      exact this) (fun ds h => by rw [hps] at h; match ds, h with | [_, _, _], _ => rfl) (below_of_ext hx) (ok_one (by kernel_rfl) rfl (okWide_bool_mk Try.underlying4 _))⟩

theorem over : Rows.lassoSaysRow.holds Try.pinned (OpenSpec.ofChange Rows.lassoSaysSpec) :=
  OpenClaim.holds_of_wide 13 Try.f13 rfl rfl rfl rfl rfl rfl rfl ⟨rfl, rfl, rfl, rfl, rfl⟩ rfl rfl rfl rfl rfl (by kernel_rfl) Try.func13 (by kernel_rfl)
    (of_decide_eq_true (by kernel_rfl)) (by unfold Func.isWrapper; first | (rw [if_pos (by decide +kernel)]; kernel_rfl) | (rw [if_neg (by decide +kernel)]; exact ⟨rfl, rfl⟩))
    (fun os started H enc _ => lifted os started H enc)

theorem proved : Rows.LassoSaysSaid := over
end lassoSays
end Go.Proofs.Ytkkfiadefekbbaa
