/-
  Patterns and their check, over deep values. No statement is proved here.
-/
import Derived.Test.YtgohkomfkfilnaaLa
namespace Go.Proofs.Ytgohkomfkfilnaa
open Go.RowKit
set_option linter.unusedSimpArgs false
set_option linter.unusedVariables false
set_option maxHeartbeats 4000000
/-- A pattern. -/
structure Pat where
  kind : Int
  scope : Int
  p : Int
  s : Int
  q : Int
  r : Int
  count : Int
def patCells (x : Pat) : List D := [.sc (.int .i64 x.kind), .sc (.int .i64 x.scope), .sc (.int .i64 x.p), .sc (.int .i64 x.s), .sc (.int .i64 x.q), .sc (.int .i64 x.r), .sc (.int .i64 x.count)]
def dpat (x : Pat) : D := .agg (patCells x)
theorem pure_dpat (x : Pat) : Pure (dpat x) := by simp [dpat, patCells, Pure, PureL]
/-- What a pattern's check answers. -/
def patChk (x : Pat) : Int :=
  if x.kind < 1 ∨ 6 < x.kind ∨ x.scope < 1 ∨ 5 < x.scope ∨ x.p < 0 ∨ 63 < x.p ∨ x.s < 0 ∨ 63 < x.s ∨ (x.kind < 5 ∧ x.s ≠ 0)
    ∨ x.q < 0 ∨ 63 < x.q ∨ (x.scope < 3 ∧ x.q ≠ 0) ∨ x.r < 0 ∨ 63 < x.r ∨ (x.scope ≠ 2 ∧ x.scope < 4 ∧ x.r ≠ 0)
    ∨ x.count < 0 ∨ 3 < x.count ∨ (x.kind ≠ 4 ∧ x.count ≠ 0) then 1 else 0
def c85 : PC := .seq (.ops [⟨(some 4), .move (.const (.bool false)), none, 0⟩] false) (.seq (.ops [⟨(some 5), .move (.tmp 0), none, 0⟩,
    ⟨(some 6), .bin .geq (.tmp 5) (.const (.int .i64 0)), none, 0⟩,
    ⟨(some 7), .move (.tmp 6), none, 0⟩,
    ⟨(some 8), .move (.tmp 0), (some (7, true)), 0⟩,
    ⟨(some 9), .bin .leq (.tmp 8) (.const (.int .i64 63)), (some (7, true)), 0⟩,
    ⟨(some 10), .pick (.tmp 7) (.tmp 9) (.const (.bool false)), none, 0⟩,
    ⟨(some 11), .move (.tmp 10), none, 0⟩,
    ⟨(some 12), .move (.tmp 1), (some (11, true)), 0⟩,
    ⟨(some 13), .move (.tmp 12), (some (11, true)), 0⟩,
    ⟨(some 14), .move (.tmp 0), (some (13, false)), 0⟩,
    ⟨(some 15), .bin .eql (.tmp 14) (.const (.int .i64 0)), (some (13, false)), 0⟩,
    ⟨(some 16), .pick (.tmp 13) (.const (.bool true)) (.tmp 15), (some (11, true)), 0⟩,
    ⟨(some 17), .pick (.tmp 11) (.tmp 16) (.const (.bool false)), none, 0⟩,
    ⟨(some 4), .move (.tmp 17), none, 0⟩] false) (.ret))
set_option maxRecDepth 100000 in
theorem c85_ok : FunOK Try.prog 85 18 [.tmp 4] c85 := ⟨⟨Try.f85, Try.func85, rfl, by kernel_rfl, rfl, by kernel_rfl⟩⟩
def c50 : PC := .seq (.ops [⟨(some 1), .box (.tmp 0), none, 0⟩,
    ⟨(some 2), .move (.const (.int .i64 0)), none, 0⟩] false) (.seq (.ops [⟨(some 6), .faddr 0 (.tmp 1), none, 0⟩,
    ⟨(some 7), .load1 (.tmp 6), none, 0⟩,
    ⟨(some 8), .bin .eql (.tmp 7) (.const (.int .i64 5)), none, 0⟩,
    ⟨(some 9), .move (.tmp 8), none, 0⟩,
    ⟨(some 10), .faddr 0 (.tmp 1), (some (9, false)), 0⟩,
    ⟨(some 11), .load1 (.tmp 10), (some (9, false)), 0⟩,
    ⟨(some 12), .bin .eql (.tmp 11) (.const (.int .i64 6)), (some (9, false)), 0⟩,
    ⟨(some 13), .pick (.tmp 9) (.const (.bool true)) (.tmp 12), none, 0⟩,
    ⟨(some 3), .move (.tmp 13), none, 0⟩] false) (.seq (.ops [⟨(some 14), .faddr 1 (.tmp 1), none, 0⟩,
    ⟨(some 15), .load1 (.tmp 14), none, 0⟩,
    ⟨(some 16), .bin .eql (.tmp 15) (.const (.int .i64 3)), none, 0⟩,
    ⟨(some 17), .move (.tmp 16), none, 0⟩,
    ⟨(some 18), .faddr 1 (.tmp 1), (some (17, false)), 0⟩,
    ⟨(some 19), .load1 (.tmp 18), (some (17, false)), 0⟩,
    ⟨(some 20), .bin .eql (.tmp 19) (.const (.int .i64 4)), (some (17, false)), 0⟩,
    ⟨(some 21), .pick (.tmp 17) (.const (.bool true)) (.tmp 20), none, 0⟩,
    ⟨(some 22), .move (.tmp 21), none, 0⟩,
    ⟨(some 23), .faddr 1 (.tmp 1), (some (22, false)), 0⟩,
    ⟨(some 24), .load1 (.tmp 23), (some (22, false)), 0⟩,
    ⟨(some 25), .bin .eql (.tmp 24) (.const (.int .i64 5)), (some (22, false)), 0⟩,
    ⟨(some 26), .pick (.tmp 22) (.const (.bool true)) (.tmp 25), none, 0⟩,
    ⟨(some 4), .move (.tmp 26), none, 0⟩] false) (.seq (.ops [⟨(some 27), .faddr 1 (.tmp 1), none, 0⟩,
    ⟨(some 28), .load1 (.tmp 27), none, 0⟩,
    ⟨(some 29), .bin .eql (.tmp 28) (.const (.int .i64 2)), none, 0⟩,
    ⟨(some 30), .move (.tmp 29), none, 0⟩,
    ⟨(some 31), .faddr 1 (.tmp 1), (some (30, false)), 0⟩,
    ⟨(some 32), .load1 (.tmp 31), (some (30, false)), 0⟩,
    ⟨(some 33), .bin .eql (.tmp 32) (.const (.int .i64 4)), (some (30, false)), 0⟩,
    ⟨(some 34), .pick (.tmp 30) (.const (.bool true)) (.tmp 33), none, 0⟩,
    ⟨(some 35), .move (.tmp 34), none, 0⟩,
    ⟨(some 36), .faddr 1 (.tmp 1), (some (35, false)), 0⟩,
    ⟨(some 37), .load1 (.tmp 36), (some (35, false)), 0⟩,
    ⟨(some 38), .bin .eql (.tmp 37) (.const (.int .i64 5)), (some (35, false)), 0⟩,
    ⟨(some 39), .pick (.tmp 35) (.const (.bool true)) (.tmp 38), none, 0⟩,
    ⟨(some 5), .move (.tmp 39), none, 0⟩] false) (.seq (.block 0 (.seq (.ops [⟨(some 41), .faddr 0 (.tmp 1), none, 0⟩,
    ⟨(some 42), .load1 (.tmp 41), none, 0⟩,
    ⟨(some 43), .bin .lss (.tmp 42) (.const (.int .i64 1)), none, 0⟩,
    ⟨(some 44), .move (.tmp 43), none, 0⟩,
    ⟨(some 45), .faddr 0 (.tmp 1), (some (44, false)), 0⟩,
    ⟨(some 46), .load1 (.tmp 45), (some (44, false)), 0⟩,
    ⟨(some 47), .bin .gtr (.tmp 46) (.const (.int .i64 6)), (some (44, false)), 0⟩,
    ⟨(some 48), .pick (.tmp 44) (.const (.bool true)) (.tmp 47), none, 0⟩,
    ⟨(some 49), .move (.tmp 48), none, 0⟩,
    ⟨(some 50), .faddr 1 (.tmp 1), (some (49, false)), 0⟩,
    ⟨(some 51), .load1 (.tmp 50), (some (49, false)), 0⟩,
    ⟨(some 52), .bin .lss (.tmp 51) (.const (.int .i64 1)), (some (49, false)), 0⟩,
    ⟨(some 53), .pick (.tmp 49) (.const (.bool true)) (.tmp 52), none, 0⟩,
    ⟨(some 54), .move (.tmp 53), none, 0⟩,
    ⟨(some 55), .faddr 1 (.tmp 1), (some (54, false)), 0⟩,
    ⟨(some 56), .load1 (.tmp 55), (some (54, false)), 0⟩,
    ⟨(some 57), .bin .gtr (.tmp 56) (.const (.int .i64 5)), (some (54, false)), 0⟩,
    ⟨(some 58), .pick (.tmp 54) (.const (.bool true)) (.tmp 57), none, 0⟩,
    ⟨(some 40), .move (.tmp 58), none, 0⟩] false) (.cond (.tmp 40) (.seq (.ops [⟨(some 2), .move (.const (.int .i64 1)), none, 0⟩] false) (.ret)) (.seq (.ops [⟨(some 60), .faddr 2 (.tmp 1), none, 0⟩,
    ⟨(some 61), .load1 (.tmp 60), none, 0⟩,
    ⟨(some 62), .call 85 [(.tmp 61), (.const (.bool true))], none, 0⟩,
    ⟨(some 63), .un .not (.tmp 62), none, 0⟩,
    ⟨(some 64), .move (.tmp 63), none, 0⟩,
    ⟨(some 65), .faddr 3 (.tmp 1), (some (64, false)), 0⟩,
    ⟨(some 66), .load1 (.tmp 65), (some (64, false)), 0⟩,
    ⟨(some 67), .move (.tmp 3), (some (64, false)), 0⟩,
    ⟨(some 68), .call 85 [(.tmp 66), (.tmp 67)], (some (64, false)), 0⟩,
    ⟨(some 69), .un .not (.tmp 68), (some (64, false)), 0⟩,
    ⟨(some 70), .pick (.tmp 64) (.const (.bool true)) (.tmp 69), none, 0⟩,
    ⟨(some 71), .move (.tmp 70), none, 0⟩,
    ⟨(some 72), .faddr 4 (.tmp 1), (some (71, false)), 0⟩,
    ⟨(some 73), .load1 (.tmp 72), (some (71, false)), 0⟩,
    ⟨(some 74), .move (.tmp 4), (some (71, false)), 0⟩,
    ⟨(some 75), .call 85 [(.tmp 73), (.tmp 74)], (some (71, false)), 0⟩,
    ⟨(some 76), .un .not (.tmp 75), (some (71, false)), 0⟩,
    ⟨(some 77), .pick (.tmp 71) (.const (.bool true)) (.tmp 76), none, 0⟩,
    ⟨(some 78), .move (.tmp 77), none, 0⟩,
    ⟨(some 79), .faddr 5 (.tmp 1), (some (78, false)), 0⟩,
    ⟨(some 80), .load1 (.tmp 79), (some (78, false)), 0⟩,
    ⟨(some 81), .move (.tmp 5), (some (78, false)), 0⟩,
    ⟨(some 82), .call 85 [(.tmp 80), (.tmp 81)], (some (78, false)), 0⟩,
    ⟨(some 83), .un .not (.tmp 82), (some (78, false)), 0⟩,
    ⟨(some 84), .pick (.tmp 78) (.const (.bool true)) (.tmp 83), none, 0⟩,
    ⟨(some 59), .move (.tmp 84), none, 0⟩] false) (.cond (.tmp 59) (.seq (.ops [⟨(some 2), .move (.const (.int .i64 1)), none, 0⟩] false) (.ret)) (.seq (.ops [⟨(some 86), .faddr 6 (.tmp 1), none, 0⟩,
    ⟨(some 87), .load1 (.tmp 86), none, 0⟩,
    ⟨(some 88), .bin .lss (.tmp 87) (.const (.int .i64 0)), none, 0⟩,
    ⟨(some 89), .move (.tmp 88), none, 0⟩,
    ⟨(some 90), .faddr 6 (.tmp 1), (some (89, false)), 0⟩,
    ⟨(some 91), .load1 (.tmp 90), (some (89, false)), 0⟩,
    ⟨(some 92), .bin .gtr (.tmp 91) (.const (.int .i64 3)), (some (89, false)), 0⟩,
    ⟨(some 93), .pick (.tmp 89) (.const (.bool true)) (.tmp 92), none, 0⟩,
    ⟨(some 94), .move (.tmp 93), none, 0⟩,
    ⟨(some 95), .faddr 0 (.tmp 1), (some (94, false)), 0⟩,
    ⟨(some 96), .load1 (.tmp 95), (some (94, false)), 0⟩,
    ⟨(some 97), .bin .neq (.tmp 96) (.const (.int .i64 4)), (some (94, false)), 0⟩,
    ⟨(some 98), .move (.tmp 97), (some (94, false)), 0⟩,
    ⟨(some 99), .faddr 6 (.tmp 1), (some (98, true)), 0⟩,
    ⟨(some 100), .load1 (.tmp 99), (some (98, true)), 0⟩,
    ⟨(some 101), .bin .neq (.tmp 100) (.const (.int .i64 0)), (some (98, true)), 0⟩,
    ⟨(some 102), .pick (.tmp 98) (.tmp 101) (.const (.bool false)), (some (94, false)), 0⟩,
    ⟨(some 103), .pick (.tmp 94) (.const (.bool true)) (.tmp 102), none, 0⟩,
    ⟨(some 85), .move (.tmp 103), none, 0⟩] false) (.cond (.tmp 85) (.seq (.ops [⟨(some 2), .move (.const (.int .i64 1)), none, 0⟩] false) (.ret)) (.skip)))))))) (.seq (.ops [⟨(some 2), .move (.const (.int .i64 0)), none, 0⟩] false) (.ret))))))
set_option maxRecDepth 100000 in
theorem c50_ok : FunOK Try.prog 50 104 [.tmp 2] c50 := ⟨⟨Try.f50, Try.func50, rfl, by kernel_rfl, rfl, by kernel_rfl⟩⟩
theorem dwy_right (n : Int) (has : Bool) : PCall Try.prog 85 [.sc (.int .i64 n), .sc (.bool has)] (.sc (.bool (decide (0 ≤ n) && decide (n ≤ 63) && (has || n == 0)))) := by
  refine pcall_intro c85_ok (by simp) (by simp [PureL, Pure]) ?_ (by simp [Pure])
  (apply rd_sound; focus (repeat' constructor))
  ((conv=>whnf);repeat(refine And.intro rfl ?_;(conv=>whnf)))
  repeat' (first | (refine ifK_split (fun h => ?_) (fun h => ?_) <;> (rw [h]; ((conv=>whnf);repeat(refine And.intro rfl ?_;(conv=>whnf))))) | exact deep_eq (by simp_all))
theorem dwy_Check (x : Pat) : PCall Try.prog 50 [dpat x] (.sc (.int .i64 (patChk x))) := by
  refine pcall_intro c50_ok (by simp) (by simp [PureL, pure_dpat]) ?_ (by simp [Pure])
  (apply rd_sound; focus (repeat' constructor))
  ((conv=>whnf);repeat(refine And.intro rfl ?_;(conv=>whnf)))
  repeat' (first
    | (refine ifK_split (fun h => ?_) (fun h => ?_) <;> (rw [h]; ((conv=>whnf);repeat(refine And.intro rfl ?_;(conv=>whnf)))))
    | (refine .inl ⟨_, (dwy_right _ _), ?_⟩; ((conv=>whnf);repeat(refine And.intro rfl ?_;(conv=>whnf))))
    | exact deep_eq (by unfold patChk; congr 2; (repeat' split) <;> first | rfl | ((try simp only [oo, reduceCtorEq] at *) <;> omega)))
def c23_1 : PC := .seq (.seq (.ops [⟨(some 48), .move (.tmp 5), none, 0⟩,
    ⟨(some 49), .bin .lss (.tmp 48) (.const (.int .i64 4)), none, 0⟩] false) (.cond (.tmp 49) (.skip) (.exit 0))) (.seq (.block 1 (.seq (.ops [⟨(some 52), .move (.tmp 4), none, 0⟩,
    ⟨(some 53), .move (.tmp 5), none, 0⟩,
    ⟨(some 54), .iaddr 1 (.tmp 52) (.tmp 53), none, 0⟩,
    ⟨(some 55), .load1 (.tmp 54), none, 0⟩,
    ⟨(some 56), .bin .lss (.tmp 55) (.const (.int .i64 0)), none, 0⟩,
    ⟨(some 57), .move (.tmp 56), none, 0⟩,
    ⟨(some 58), .move (.tmp 4), (some (57, false)), 0⟩,
    ⟨(some 59), .move (.tmp 5), (some (57, false)), 0⟩,
    ⟨(some 60), .iaddr 1 (.tmp 58) (.tmp 59), (some (57, false)), 0⟩,
    ⟨(some 61), .load1 (.tmp 60), (some (57, false)), 0⟩,
    ⟨(some 62), .bin .gtr (.tmp 61) (.const (.int .i64 63)), (some (57, false)), 0⟩,
    ⟨(some 63), .pick (.tmp 57) (.const (.bool true)) (.tmp 62), none, 0⟩,
    ⟨(some 64), .move (.tmp 63), none, 0⟩,
    ⟨(some 65), .move (.tmp 3), (some (64, false)), 0⟩,
    ⟨(some 66), .move (.tmp 5), (some (64, false)), 0⟩,
    ⟨(some 67), .iaddr 1 (.tmp 65) (.tmp 66), (some (64, false)), 0⟩,
    ⟨(some 68), .load1 (.tmp 67), (some (64, false)), 0⟩,
    ⟨(some 69), .un .not (.tmp 68), (some (64, false)), 0⟩,
    ⟨(some 70), .move (.tmp 69), (some (64, false)), 0⟩,
    ⟨(some 71), .move (.tmp 4), (some (70, true)), 0⟩,
    ⟨(some 72), .move (.tmp 5), (some (70, true)), 0⟩,
    ⟨(some 73), .iaddr 1 (.tmp 71) (.tmp 72), (some (70, true)), 0⟩,
    ⟨(some 74), .load1 (.tmp 73), (some (70, true)), 0⟩,
    ⟨(some 75), .bin .neq (.tmp 74) (.const (.int .i64 0)), (some (70, true)), 0⟩,
    ⟨(some 76), .pick (.tmp 70) (.tmp 75) (.const (.bool false)), (some (64, false)), 0⟩,
    ⟨(some 77), .pick (.tmp 64) (.const (.bool true)) (.tmp 76), none, 0⟩] false) (.cond (.tmp 77) (.seq (.ops [⟨(some 2), .move (.const (.int .i64 1)), none, 0⟩] false) (.ret)) (.skip)))) (.ops [⟨(some 50), .move (.tmp 5), none, 0⟩,
    ⟨(some 51), .bin .add (.tmp 50) (.const (.int .i64 1)), none, 0⟩,
    ⟨(some 5), .move (.tmp 51), none, 0⟩] false))
def c23 : PC := .seq (.ops [⟨(some 1), .box (.tmp 0), none, 0⟩,
    ⟨(some 2), .move (.const (.int .i64 0)), none, 0⟩] false) (.seq (.seq (.ops [⟨(some 6), .faddr 0 (.tmp 1), none, 0⟩,
    ⟨(some 7), .load1 (.tmp 6), none, 0⟩,
    ⟨(some 8), .bin .lss (.tmp 7) (.const (.int .i64 1)), none, 0⟩,
    ⟨(some 9), .move (.tmp 8), none, 0⟩,
    ⟨(some 10), .faddr 0 (.tmp 1), (some (9, false)), 0⟩,
    ⟨(some 11), .load1 (.tmp 10), (some (9, false)), 0⟩,
    ⟨(some 12), .bin .gtr (.tmp 11) (.const (.int .i64 6)), (some (9, false)), 0⟩,
    ⟨(some 13), .pick (.tmp 9) (.const (.bool true)) (.tmp 12), none, 0⟩,
    ⟨(some 14), .move (.tmp 13), none, 0⟩,
    ⟨(some 15), .faddr 1 (.tmp 1), (some (14, false)), 0⟩,
    ⟨(some 16), .load1 (.tmp 15), (some (14, false)), 0⟩,
    ⟨(some 17), .bin .lss (.tmp 16) (.const (.int .i64 1)), (some (14, false)), 0⟩,
    ⟨(some 18), .pick (.tmp 14) (.const (.bool true)) (.tmp 17), none, 0⟩,
    ⟨(some 19), .move (.tmp 18), none, 0⟩,
    ⟨(some 20), .faddr 1 (.tmp 1), (some (19, false)), 0⟩,
    ⟨(some 21), .load1 (.tmp 20), (some (19, false)), 0⟩,
    ⟨(some 22), .bin .gtr (.tmp 21) (.const (.int .i64 5)), (some (19, false)), 0⟩,
    ⟨(some 23), .pick (.tmp 19) (.const (.bool true)) (.tmp 22), none, 0⟩] false) (.cond (.tmp 23) (.seq (.ops [⟨(some 2), .move (.const (.int .i64 1)), none, 0⟩] false) (.ret)) (.skip))) (.seq (.ops [⟨(some 24), .faddr 0 (.tmp 1), none, 0⟩,
    ⟨(some 25), .load1 (.tmp 24), none, 0⟩,
    ⟨(some 26), .bin .geq (.tmp 25) (.const (.int .i64 5)), none, 0⟩,
    ⟨(some 27), .faddr 1 (.tmp 1), none, 0⟩,
    ⟨(some 28), .load1 (.tmp 27), none, 0⟩,
    ⟨(some 29), .bin .geq (.tmp 28) (.const (.int .i64 3)), none, 0⟩,
    ⟨(some 30), .faddr 1 (.tmp 1), none, 0⟩,
    ⟨(some 31), .load1 (.tmp 30), none, 0⟩,
    ⟨(some 32), .bin .eql (.tmp 31) (.const (.int .i64 2)), none, 0⟩,
    ⟨(some 33), .move (.tmp 32), none, 0⟩,
    ⟨(some 34), .faddr 1 (.tmp 1), (some (33, false)), 0⟩,
    ⟨(some 35), .load1 (.tmp 34), (some (33, false)), 0⟩,
    ⟨(some 36), .bin .geq (.tmp 35) (.const (.int .i64 4)), (some (33, false)), 0⟩,
    ⟨(some 37), .pick (.tmp 33) (.const (.bool true)) (.tmp 36), none, 0⟩,
    ⟨(some 38), .bslice 1 4 [(.const (.bool true)), (.tmp 26), (.tmp 29), (.tmp 37)], none, 0⟩,
    ⟨(some 3), .move (.tmp 38), none, 0⟩] false) (.seq (.ops [⟨(some 39), .faddr 2 (.tmp 1), none, 0⟩,
    ⟨(some 40), .load1 (.tmp 39), none, 0⟩,
    ⟨(some 41), .faddr 3 (.tmp 1), none, 0⟩,
    ⟨(some 42), .load1 (.tmp 41), none, 0⟩,
    ⟨(some 43), .faddr 4 (.tmp 1), none, 0⟩,
    ⟨(some 44), .load1 (.tmp 43), none, 0⟩,
    ⟨(some 45), .faddr 5 (.tmp 1), none, 0⟩,
    ⟨(some 46), .load1 (.tmp 45), none, 0⟩,
    ⟨(some 47), .bslice 1 4 [(.tmp 40), (.tmp 42), (.tmp 44), (.tmp 46)], none, 0⟩,
    ⟨(some 4), .move (.tmp 47), none, 0⟩] false) (.seq (.seq (.ops [⟨(some 5), .move (.const (.int .i64 0)), none, 0⟩] false) (.block 0 (.loop c23_1))) (.seq (.seq (.ops [⟨(some 78), .faddr 6 (.tmp 1), none, 0⟩,
    ⟨(some 79), .load1 (.tmp 78), none, 0⟩,
    ⟨(some 80), .bin .lss (.tmp 79) (.const (.int .i64 0)), none, 0⟩,
    ⟨(some 81), .move (.tmp 80), none, 0⟩,
    ⟨(some 82), .faddr 6 (.tmp 1), (some (81, false)), 0⟩,
    ⟨(some 83), .load1 (.tmp 82), (some (81, false)), 0⟩,
    ⟨(some 84), .bin .gtr (.tmp 83) (.const (.int .i64 3)), (some (81, false)), 0⟩,
    ⟨(some 85), .pick (.tmp 81) (.const (.bool true)) (.tmp 84), none, 0⟩,
    ⟨(some 86), .move (.tmp 85), none, 0⟩,
    ⟨(some 87), .faddr 6 (.tmp 1), (some (86, false)), 0⟩,
    ⟨(some 88), .load1 (.tmp 87), (some (86, false)), 0⟩,
    ⟨(some 89), .bin .neq (.tmp 88) (.const (.int .i64 0)), (some (86, false)), 0⟩,
    ⟨(some 90), .move (.tmp 89), (some (86, false)), 0⟩,
    ⟨(some 91), .faddr 0 (.tmp 1), (some (90, true)), 0⟩,
    ⟨(some 92), .load1 (.tmp 91), (some (90, true)), 0⟩,
    ⟨(some 93), .bin .neq (.tmp 92) (.const (.int .i64 4)), (some (90, true)), 0⟩,
    ⟨(some 94), .pick (.tmp 90) (.tmp 93) (.const (.bool false)), (some (86, false)), 0⟩,
    ⟨(some 95), .pick (.tmp 86) (.const (.bool true)) (.tmp 94), none, 0⟩] false) (.cond (.tmp 95) (.seq (.ops [⟨(some 2), .move (.const (.int .i64 1)), none, 0⟩] false) (.ret)) (.skip))) (.seq (.ops [⟨(some 2), .move (.const (.int .i64 0)), none, 0⟩] false) (.ret)))))))
set_option maxRecDepth 100000 in
theorem c23_ok : FunOK Try.prog 23 96 [.tmp 2] c23 := ⟨⟨Try.f23, Try.func23, rfl, by kernel_rfl, rfl, by kernel_rfl⟩⟩
theorem ref_Pattern (x : Pat) : PCall Try.prog 23 [dpat x] (.sc (.int .i64 (patChk x))) := by
  refine pcall_intro c23_ok (by simp) (by simp [PureL, pure_dpat]) ?_ (by simp [Pure])
  (apply rd_sound; focus (repeat' constructor))
  ((conv=>whnf);repeat(refine And.intro rfl ?_;(conv=>whnf)))
  repeat' (first
    | (refine ifK_split (fun h => ?_) (fun h => ?_) <;> (rw [h]; ((conv=>whnf);repeat(refine And.intro rfl ?_;(conv=>whnf)))))
    | (refine pwp_rounds 5 ?_; (apply rd_sound; focus (repeat' constructor)); ((conv=>whnf);repeat(refine And.intro rfl ?_;(conv=>whnf))))
    | ((apply rd_sound; focus (repeat' constructor)); ((conv=>whnf);repeat(refine And.intro rfl ?_;(conv=>whnf))))
    | (refine ⟨by omega, by omega, ?_⟩; ((conv=>whnf);repeat(refine And.intro rfl ?_;(conv=>whnf))))
    | (refine ⟨_, rfl, ?_⟩; ((conv=>whnf);repeat(refine And.intro rfl ?_;(conv=>whnf))))
    | (refine .inl ⟨by unfold InR; rw [IntKind.wrap_i64]; omega, ?_⟩; ((conv=>whnf);repeat(refine And.intro rfl ?_;(conv=>whnf))))
    | exact deep_eq (by unfold patChk; congr 2; (repeat' split) <;> first | rfl | ((try simp only [oo, reduceCtorEq] at *) <;> omega)))
end Go.Proofs.Ytgohkomfkfilnaa
