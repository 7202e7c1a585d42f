/-
  Templates and their check, over deep values. No statement is proved here.
-/
import Derived.Test.YtfgklgjbnpjpoaaQLa
namespace Go.Proofs.Ytfgklgjbnpjpoaa
open Go.RowKit
set_option linter.unusedSimpArgs false
set_option linter.unusedVariables false
def dtempl (k a b c : Int) : D := .agg [.sc (.int .i64 k), .sc (.int .i64 a), .sc (.int .i64 b), .sc (.int .i64 c)]
theorem pure_dtempl (k a b c : Int) : Pure (dtempl k a b c) := by simp [dtempl, Pure, PureL]
/-- What a template's check answers. -/
def tmplChk (k a b c : Int) : Int :=
  if k < 1 ∨ 14 < k ∨ a < 0 ∨ 62 < a ∨ b < 0 ∨ 62 < b ∨ (k ≤ 4 ∧ b ≠ 0) then 1
  else if (k ≤ 3 ∧ (c < 1 ∨ 3 < c)) ∨ (3 < k ∧ c ≠ 0) then 1 else 0
def c75 : PC := .seq (.ops [⟨(some 2), .move (.const (.bool false)), none, 0⟩] false) (.seq (.ops [⟨(some 3), .move (.tmp 0), none, 0⟩,
    ⟨(some 4), .bin .geq (.tmp 3) (.const (.int .i64 1)), none, 0⟩,
    ⟨(some 5), .move (.tmp 4), none, 0⟩,
    ⟨(some 6), .move (.tmp 0), (some (5, true)), 0⟩,
    ⟨(some 7), .bin .leq (.tmp 6) (.const (.int .i64 3)), (some (5, true)), 0⟩,
    ⟨(some 8), .pick (.tmp 5) (.tmp 7) (.const (.bool false)), none, 0⟩,
    ⟨(some 2), .move (.tmp 8), none, 0⟩] false) (.ret))
set_option maxRecDepth 100000 in
theorem c75_ok : FunOK Try.prog 75 9 [.tmp 2] c75 := ⟨⟨Try.f75, Try.func75, rfl, by kernel_rfl, rfl, by kernel_rfl⟩⟩
def c72 : PC := .seq (.ops [⟨(some 1), .box (.tmp 0), none, 0⟩,
    ⟨(some 2), .move (.const (.int .i64 0)), none, 0⟩] false) (.seq (.ops [⟨(some 4), .faddr 0 (.tmp 1), none, 0⟩,
    ⟨(some 5), .load1 (.tmp 4), none, 0⟩,
    ⟨(some 6), .call 75 [(.tmp 5)], none, 0⟩,
    ⟨(some 7), .move (.tmp 6), none, 0⟩,
    ⟨(some 8), .faddr 0 (.tmp 1), (some (7, false)), 0⟩,
    ⟨(some 9), .load1 (.tmp 8), (some (7, false)), 0⟩,
    ⟨(some 10), .bin .eql (.tmp 9) (.const (.int .i64 4)), (some (7, false)), 0⟩,
    ⟨(some 11), .pick (.tmp 7) (.const (.bool true)) (.tmp 10), none, 0⟩,
    ⟨(some 3), .move (.tmp 11), none, 0⟩] false) (.seq (.block 0 (.seq (.ops [⟨(some 13), .faddr 0 (.tmp 1), none, 0⟩,
    ⟨(some 14), .load1 (.tmp 13), none, 0⟩,
    ⟨(some 15), .bin .lss (.tmp 14) (.const (.int .i64 1)), none, 0⟩,
    ⟨(some 16), .move (.tmp 15), none, 0⟩,
    ⟨(some 17), .faddr 0 (.tmp 1), (some (16, false)), 0⟩,
    ⟨(some 18), .load1 (.tmp 17), (some (16, false)), 0⟩,
    ⟨(some 19), .bin .gtr (.tmp 18) (.const (.int .i64 14)), (some (16, false)), 0⟩,
    ⟨(some 20), .pick (.tmp 16) (.const (.bool true)) (.tmp 19), none, 0⟩,
    ⟨(some 21), .move (.tmp 20), none, 0⟩,
    ⟨(some 22), .faddr 1 (.tmp 1), (some (21, false)), 0⟩,
    ⟨(some 23), .load1 (.tmp 22), (some (21, false)), 0⟩,
    ⟨(some 24), .bin .lss (.tmp 23) (.const (.int .i64 0)), (some (21, false)), 0⟩,
    ⟨(some 25), .pick (.tmp 21) (.const (.bool true)) (.tmp 24), none, 0⟩,
    ⟨(some 26), .move (.tmp 25), none, 0⟩,
    ⟨(some 27), .faddr 1 (.tmp 1), (some (26, false)), 0⟩,
    ⟨(some 28), .load1 (.tmp 27), (some (26, false)), 0⟩,
    ⟨(some 29), .bin .geq (.tmp 28) (.const (.int .i64 63)), (some (26, false)), 0⟩,
    ⟨(some 30), .pick (.tmp 26) (.const (.bool true)) (.tmp 29), none, 0⟩,
    ⟨(some 31), .move (.tmp 30), none, 0⟩,
    ⟨(some 32), .faddr 2 (.tmp 1), (some (31, false)), 0⟩,
    ⟨(some 33), .load1 (.tmp 32), (some (31, false)), 0⟩,
    ⟨(some 34), .bin .lss (.tmp 33) (.const (.int .i64 0)), (some (31, false)), 0⟩,
    ⟨(some 35), .pick (.tmp 31) (.const (.bool true)) (.tmp 34), none, 0⟩,
    ⟨(some 36), .move (.tmp 35), none, 0⟩,
    ⟨(some 37), .faddr 2 (.tmp 1), (some (36, false)), 0⟩,
    ⟨(some 38), .load1 (.tmp 37), (some (36, false)), 0⟩,
    ⟨(some 39), .bin .geq (.tmp 38) (.const (.int .i64 63)), (some (36, false)), 0⟩,
    ⟨(some 40), .pick (.tmp 36) (.const (.bool true)) (.tmp 39), none, 0⟩,
    ⟨(some 41), .move (.tmp 40), none, 0⟩,
    ⟨(some 42), .move (.tmp 3), (some (41, false)), 0⟩,
    ⟨(some 43), .move (.tmp 42), (some (41, false)), 0⟩,
    ⟨(some 44), .faddr 2 (.tmp 1), (some (43, true)), 0⟩,
    ⟨(some 45), .load1 (.tmp 44), (some (43, true)), 0⟩,
    ⟨(some 46), .bin .neq (.tmp 45) (.const (.int .i64 0)), (some (43, true)), 0⟩,
    ⟨(some 47), .pick (.tmp 43) (.tmp 46) (.const (.bool false)), (some (41, false)), 0⟩,
    ⟨(some 48), .pick (.tmp 41) (.const (.bool true)) (.tmp 47), none, 0⟩,
    ⟨(some 12), .move (.tmp 48), none, 0⟩] false) (.cond (.tmp 12) (.seq (.ops [⟨(some 2), .move (.const (.int .i64 1)), none, 0⟩] false) (.ret)) (.seq (.ops [⟨(some 50), .faddr 0 (.tmp 1), none, 0⟩,
    ⟨(some 51), .load1 (.tmp 50), none, 0⟩,
    ⟨(some 52), .call 75 [(.tmp 51)], none, 0⟩,
    ⟨(some 53), .move (.tmp 52), none, 0⟩,
    ⟨(some 54), .faddr 3 (.tmp 1), (some (53, true)), 0⟩,
    ⟨(some 55), .load1 (.tmp 54), (some (53, true)), 0⟩,
    ⟨(some 56), .bin .lss (.tmp 55) (.const (.int .i64 1)), (some (53, true)), 0⟩,
    ⟨(some 57), .move (.tmp 56), (some (53, true)), 0⟩,
    ⟨(some 58), .faddr 3 (.tmp 1), (some (57, false)), 0⟩,
    ⟨(some 59), .load1 (.tmp 58), (some (57, false)), 0⟩,
    ⟨(some 60), .bin .gtr (.tmp 59) (.const (.int .i64 3)), (some (57, false)), 0⟩,
    ⟨(some 61), .pick (.tmp 57) (.const (.bool true)) (.tmp 60), (some (53, true)), 0⟩,
    ⟨(some 62), .pick (.tmp 53) (.tmp 61) (.const (.bool false)), none, 0⟩,
    ⟨(some 63), .move (.tmp 62), none, 0⟩,
    ⟨(some 64), .faddr 0 (.tmp 1), (some (63, false)), 0⟩,
    ⟨(some 65), .load1 (.tmp 64), (some (63, false)), 0⟩,
    ⟨(some 66), .call 75 [(.tmp 65)], (some (63, false)), 0⟩,
    ⟨(some 67), .un .not (.tmp 66), (some (63, false)), 0⟩,
    ⟨(some 68), .move (.tmp 67), (some (63, false)), 0⟩,
    ⟨(some 69), .faddr 3 (.tmp 1), (some (68, true)), 0⟩,
    ⟨(some 70), .load1 (.tmp 69), (some (68, true)), 0⟩,
    ⟨(some 71), .bin .neq (.tmp 70) (.const (.int .i64 0)), (some (68, true)), 0⟩,
    ⟨(some 72), .pick (.tmp 68) (.tmp 71) (.const (.bool false)), (some (63, false)), 0⟩,
    ⟨(some 73), .pick (.tmp 63) (.const (.bool true)) (.tmp 72), none, 0⟩,
    ⟨(some 49), .move (.tmp 73), none, 0⟩] false) (.cond (.tmp 49) (.seq (.ops [⟨(some 2), .move (.const (.int .i64 1)), none, 0⟩] false) (.ret)) (.skip)))))) (.seq (.ops [⟨(some 2), .move (.const (.int .i64 0)), none, 0⟩] false) (.ret))))
set_option maxRecDepth 100000 in
theorem c72_ok : FunOK Try.prog 72 74 [.tmp 2] c72 := ⟨⟨Try.f72, Try.func72, rfl, by kernel_rfl, rfl, by kernel_rfl⟩⟩
theorem dec_counted (k : Int) : PCall Try.prog 75 [.sc (.int .i64 k)] (.sc (.bool (decide (1 ≤ k) && decide (k ≤ 3)))) := by
  refine pcall_intro c75_ok (by simp) (by simp [PureL, Pure]) ?_ (by simp [Pure])
  (apply rd_sound; focus (repeat' constructor))
  ((conv=>whnf);repeat(refine And.intro rfl ?_;(conv=>whnf)))
  repeat' (first | (refine ifK_split (fun h => ?_) (fun h => ?_) <;> (rw [h]; ((conv=>whnf);repeat(refine And.intro rfl ?_;(conv=>whnf))))) | exact deep_eq (by simp_all))
theorem dec_Check (k a b c : Int) : PCall Try.prog 72 [dtempl k a b c] (.sc (.int .i64 (tmplChk k a b c))) := by
  refine pcall_intro c72_ok (by simp) (by simp [PureL, pure_dtempl]) ?_ (by simp [Pure])
  (apply rd_sound; focus (repeat' constructor))
  ((conv=>whnf);repeat(refine And.intro rfl ?_;(conv=>whnf)))
  repeat' (first
    | (refine ifK_split (fun h => ?_) (fun h => ?_) <;> (rw [h]; ((conv=>whnf);repeat(refine And.intro rfl ?_;(conv=>whnf)))))
    | (refine .inl ⟨_, (dec_counted k), ?_⟩; ((conv=>whnf);repeat(refine And.intro rfl ?_;(conv=>whnf))))
    | exact deep_eq (by unfold tmplChk; congr 2; (repeat' split) <;> first | rfl | ((try simp only [oo, reduceCtorEq] at *) <;> omega)))
def c28 : PC := .seq (.ops [⟨(some 1), .box (.tmp 0), none, 0⟩,
    ⟨(some 2), .move (.const (.int .i64 0)), none, 0⟩] false) (.seq (.seq (.ops [⟨(some 3), .faddr 0 (.tmp 1), none, 0⟩,
    ⟨(some 4), .load1 (.tmp 3), none, 0⟩,
    ⟨(some 5), .bin .lss (.tmp 4) (.const (.int .i64 1)), none, 0⟩,
    ⟨(some 6), .move (.tmp 5), none, 0⟩,
    ⟨(some 7), .faddr 0 (.tmp 1), (some (6, false)), 0⟩,
    ⟨(some 8), .load1 (.tmp 7), (some (6, false)), 0⟩,
    ⟨(some 9), .bin .gtr (.tmp 8) (.const (.int .i64 14)), (some (6, false)), 0⟩,
    ⟨(some 10), .pick (.tmp 6) (.const (.bool true)) (.tmp 9), none, 0⟩,
    ⟨(some 11), .move (.tmp 10), none, 0⟩,
    ⟨(some 12), .faddr 1 (.tmp 1), (some (11, false)), 0⟩,
    ⟨(some 13), .load1 (.tmp 12), (some (11, false)), 0⟩,
    ⟨(some 14), .bin .lss (.tmp 13) (.const (.int .i64 0)), (some (11, false)), 0⟩,
    ⟨(some 15), .pick (.tmp 11) (.const (.bool true)) (.tmp 14), none, 0⟩,
    ⟨(some 16), .move (.tmp 15), none, 0⟩,
    ⟨(some 17), .faddr 1 (.tmp 1), (some (16, false)), 0⟩,
    ⟨(some 18), .load1 (.tmp 17), (some (16, false)), 0⟩,
    ⟨(some 19), .bin .gtr (.tmp 18) (.const (.int .i64 62)), (some (16, false)), 0⟩,
    ⟨(some 20), .pick (.tmp 16) (.const (.bool true)) (.tmp 19), none, 0⟩,
    ⟨(some 21), .move (.tmp 20), none, 0⟩,
    ⟨(some 22), .faddr 2 (.tmp 1), (some (21, false)), 0⟩,
    ⟨(some 23), .load1 (.tmp 22), (some (21, false)), 0⟩,
    ⟨(some 24), .bin .lss (.tmp 23) (.const (.int .i64 0)), (some (21, false)), 0⟩,
    ⟨(some 25), .pick (.tmp 21) (.const (.bool true)) (.tmp 24), none, 0⟩,
    ⟨(some 26), .move (.tmp 25), none, 0⟩,
    ⟨(some 27), .faddr 2 (.tmp 1), (some (26, false)), 0⟩,
    ⟨(some 28), .load1 (.tmp 27), (some (26, false)), 0⟩,
    ⟨(some 29), .bin .gtr (.tmp 28) (.const (.int .i64 62)), (some (26, false)), 0⟩,
    ⟨(some 30), .pick (.tmp 26) (.const (.bool true)) (.tmp 29), none, 0⟩,
    ⟨(some 31), .move (.tmp 30), none, 0⟩,
    ⟨(some 32), .faddr 0 (.tmp 1), (some (31, false)), 0⟩,
    ⟨(some 33), .load1 (.tmp 32), (some (31, false)), 0⟩,
    ⟨(some 34), .bin .leq (.tmp 33) (.const (.int .i64 4)), (some (31, false)), 0⟩,
    ⟨(some 35), .move (.tmp 34), (some (31, false)), 0⟩,
    ⟨(some 36), .faddr 2 (.tmp 1), (some (35, true)), 0⟩,
    ⟨(some 37), .load1 (.tmp 36), (some (35, true)), 0⟩,
    ⟨(some 38), .bin .neq (.tmp 37) (.const (.int .i64 0)), (some (35, true)), 0⟩,
    ⟨(some 39), .pick (.tmp 35) (.tmp 38) (.const (.bool false)), (some (31, false)), 0⟩,
    ⟨(some 40), .pick (.tmp 31) (.const (.bool true)) (.tmp 39), none, 0⟩] false) (.cond (.tmp 40) (.seq (.ops [⟨(some 2), .move (.const (.int .i64 1)), none, 0⟩] false) (.ret)) (.skip))) (.seq (.seq (.ops [⟨(some 41), .faddr 0 (.tmp 1), none, 0⟩,
    ⟨(some 42), .load1 (.tmp 41), none, 0⟩,
    ⟨(some 43), .bin .leq (.tmp 42) (.const (.int .i64 3)), none, 0⟩,
    ⟨(some 44), .move (.tmp 43), none, 0⟩,
    ⟨(some 45), .faddr 3 (.tmp 1), (some (44, true)), 0⟩,
    ⟨(some 46), .load1 (.tmp 45), (some (44, true)), 0⟩,
    ⟨(some 47), .bin .lss (.tmp 46) (.const (.int .i64 1)), (some (44, true)), 0⟩,
    ⟨(some 48), .move (.tmp 47), (some (44, true)), 0⟩,
    ⟨(some 49), .faddr 3 (.tmp 1), (some (48, false)), 0⟩,
    ⟨(some 50), .load1 (.tmp 49), (some (48, false)), 0⟩,
    ⟨(some 51), .bin .gtr (.tmp 50) (.const (.int .i64 3)), (some (48, false)), 0⟩,
    ⟨(some 52), .pick (.tmp 48) (.const (.bool true)) (.tmp 51), (some (44, true)), 0⟩,
    ⟨(some 53), .pick (.tmp 44) (.tmp 52) (.const (.bool false)), none, 0⟩,
    ⟨(some 54), .move (.tmp 53), none, 0⟩,
    ⟨(some 55), .faddr 0 (.tmp 1), (some (54, false)), 0⟩,
    ⟨(some 56), .load1 (.tmp 55), (some (54, false)), 0⟩,
    ⟨(some 57), .bin .gtr (.tmp 56) (.const (.int .i64 3)), (some (54, false)), 0⟩,
    ⟨(some 58), .move (.tmp 57), (some (54, false)), 0⟩,
    ⟨(some 59), .faddr 3 (.tmp 1), (some (58, true)), 0⟩,
    ⟨(some 60), .load1 (.tmp 59), (some (58, true)), 0⟩,
    ⟨(some 61), .bin .neq (.tmp 60) (.const (.int .i64 0)), (some (58, true)), 0⟩,
    ⟨(some 62), .pick (.tmp 58) (.tmp 61) (.const (.bool false)), (some (54, false)), 0⟩,
    ⟨(some 63), .pick (.tmp 54) (.const (.bool true)) (.tmp 62), none, 0⟩] false) (.cond (.tmp 63) (.seq (.ops [⟨(some 2), .move (.const (.int .i64 1)), none, 0⟩] false) (.ret)) (.skip))) (.seq (.ops [⟨(some 2), .move (.const (.int .i64 0)), none, 0⟩] false) (.ret))))
set_option maxRecDepth 100000 in
theorem c28_ok : FunOK Try.prog 28 64 [.tmp 2] c28 := ⟨⟨Try.f28, Try.func28, rfl, by kernel_rfl, rfl, by kernel_rfl⟩⟩
theorem ref_Template (k a b c : Int) : PCall Try.prog 28 [dtempl k a b c] (.sc (.int .i64 (tmplChk k a b c))) := by
  refine pcall_intro c28_ok (by simp) (by simp [PureL, pure_dtempl]) ?_ (by simp [Pure])
  (apply rd_sound; focus (repeat' constructor))
  ((conv=>whnf);repeat(refine And.intro rfl ?_;(conv=>whnf)))
  repeat' (first
    | (refine ifK_split (fun h => ?_) (fun h => ?_) <;> (rw [h]; ((conv=>whnf);repeat(refine And.intro rfl ?_;(conv=>whnf)))))
    | exact deep_eq (by unfold tmplChk; congr 2; (repeat' split) <;> first | rfl | ((try simp only [oo, reduceCtorEq] at *) <;> omega)))
end Go.Proofs.Ytfgklgjbnpjpoaa
