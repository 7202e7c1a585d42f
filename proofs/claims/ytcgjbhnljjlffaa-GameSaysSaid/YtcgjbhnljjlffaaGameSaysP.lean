/-
  watchlaw.GameSays returns true for every process, every list of numbers and every number, and each argument reads afterwards as it read before. No conditions.
-/
import Derived.Test.YtcgjbhnljjlffaaDC
import Derived.Test.YtcgjbhnljjlffaaAw
import Derived.Test.YtcgjbhnljjlffaaAp
import Derived.Test.YtcgjbhnljjlffaaSt3
import Derived.Test.YtcgjbhnljjlffaaGa9
import Derived.Test.YtcgjbhnljjlffaaRows
namespace Go.Proofs.Ytcgjbhnljjlffaa
open Go.RowKit Go.ChangeShapes Go.WideShapes Go.ChangeAt
set_option linter.unusedSimpArgs false
set_option linter.unusedVariables false
def c14 : PC := .seq (.ops [⟨(some 3), .box (.tmp 0), none, 0⟩,
    ⟨(some 6), .move (.const (.bool false)), none, 0⟩] false) (.seq (.ops [⟨(some 18), .loadA 2 (.tmp 3), none, 0⟩,
    ⟨(some 19), .call 46 [(.tmp 18)], none, 0⟩,
    ⟨(some 17), .move (.tmp 19), none, 0⟩,
    ⟨(some 20), .ext 0 (.tmp 17), none, 0⟩,
    ⟨(some 21), .ext 1 (.tmp 17), none, 0⟩,
    ⟨(some 7), .move (.tmp 20), none, 0⟩,
    ⟨(some 8), .move (.tmp 21), none, 0⟩] false) (.seq (.ops [⟨(some 23), .loadA 2 (.tmp 3), none, 0⟩,
    ⟨(some 24), .call 58 [(.tmp 23)], none, 0⟩,
    ⟨(some 22), .move (.tmp 24), none, 0⟩,
    ⟨(some 25), .ext 0 (.tmp 22), none, 0⟩,
    ⟨(some 26), .ext 1 (.tmp 22), none, 0⟩,
    ⟨(some 9), .move (.tmp 25), none, 0⟩,
    ⟨(some 10), .move (.tmp 26), none, 0⟩] false) (.seq (.ops [⟨(some 28), .loadA 2 (.tmp 3), none, 0⟩,
    ⟨(some 29), .move (.tmp 1), none, 0⟩,
    ⟨(some 30), .call 59 [(.tmp 28), (.tmp 29)], none, 0⟩,
    ⟨(some 27), .move (.tmp 30), none, 0⟩,
    ⟨(some 31), .ext 0 (.tmp 27), none, 0⟩,
    ⟨(some 32), .ext 1 (.tmp 27), none, 0⟩,
    ⟨(some 11), .move (.tmp 31), none, 0⟩,
    ⟨(some 12), .move (.tmp 32), none, 0⟩] false) (.seq (.ops [⟨(some 34), .loadA 2 (.tmp 3), none, 0⟩,
    ⟨(some 35), .move (.tmp 1), none, 0⟩,
    ⟨(some 36), .move (.tmp 2), none, 0⟩,
    ⟨(some 37), .call 60 [(.tmp 34), (.tmp 35), (.tmp 36)], none, 0⟩,
    ⟨(some 33), .move (.tmp 37), none, 0⟩,
    ⟨(some 38), .ext 0 (.tmp 33), none, 0⟩,
    ⟨(some 39), .ext 1 (.tmp 33), none, 0⟩,
    ⟨(some 13), .move (.tmp 38), none, 0⟩,
    ⟨(some 14), .move (.tmp 39), none, 0⟩] false) (.seq (.seq (.ops [⟨(some 40), .move (.tmp 8), none, 0⟩,
    ⟨(some 41), .bin .neq (.tmp 40) (.const (.int .i64 0)), none, 0⟩] false) (.cond (.tmp 41) (.seq (.ops [⟨(some 42), .move (.tmp 10), none, 0⟩,
    ⟨(some 43), .move (.tmp 8), none, 0⟩,
    ⟨(some 44), .bin .eql (.tmp 42) (.tmp 43), none, 0⟩,
    ⟨(some 45), .move (.tmp 44), none, 0⟩,
    ⟨(some 46), .move (.tmp 12), (some (45, true)), 0⟩,
    ⟨(some 47), .move (.tmp 8), (some (45, true)), 0⟩,
    ⟨(some 48), .bin .eql (.tmp 46) (.tmp 47), (some (45, true)), 0⟩,
    ⟨(some 49), .pick (.tmp 45) (.tmp 48) (.const (.bool false)), none, 0⟩,
    ⟨(some 50), .move (.tmp 49), none, 0⟩,
    ⟨(some 51), .move (.tmp 14), (some (50, true)), 0⟩,
    ⟨(some 52), .move (.tmp 8), (some (50, true)), 0⟩,
    ⟨(some 53), .bin .eql (.tmp 51) (.tmp 52), (some (50, true)), 0⟩,
    ⟨(some 54), .pick (.tmp 50) (.tmp 53) (.const (.bool false)), none, 0⟩,
    ⟨(some 55), .move (.tmp 54), none, 0⟩,
    ⟨(some 56), .move (.tmp 9), (some (55, true)), 0⟩,
    ⟨(some 57), .len (.tmp 56), (some (55, true)), 0⟩,
    ⟨(some 58), .bin .eql (.tmp 57) (.const (.int .i64 0)), (some (55, true)), 0⟩,
    ⟨(some 59), .pick (.tmp 55) (.tmp 58) (.const (.bool false)), none, 0⟩,
    ⟨(some 60), .move (.tmp 59), none, 0⟩,
    ⟨(some 61), .move (.tmp 11), (some (60, true)), 0⟩,
    ⟨(some 62), .len (.tmp 61), (some (60, true)), 0⟩,
    ⟨(some 63), .bin .eql (.tmp 62) (.const (.int .i64 0)), (some (60, true)), 0⟩,
    ⟨(some 64), .pick (.tmp 60) (.tmp 63) (.const (.bool false)), none, 0⟩,
    ⟨(some 65), .move (.tmp 64), none, 0⟩,
    ⟨(some 66), .move (.tmp 13), (some (65, true)), 0⟩,
    ⟨(some 67), .len (.tmp 66), (some (65, true)), 0⟩,
    ⟨(some 68), .bin .eql (.tmp 67) (.const (.int .i64 0)), (some (65, true)), 0⟩,
    ⟨(some 69), .pick (.tmp 65) (.tmp 68) (.const (.bool false)), none, 0⟩,
    ⟨(some 6), .move (.tmp 69), none, 0⟩] false) (.ret)) (.skip))) (.seq (.seq (.ops [⟨(some 70), .move (.tmp 10), none, 0⟩,
    ⟨(some 71), .bin .neq (.tmp 70) (.const (.int .i64 0)), none, 0⟩,
    ⟨(some 72), .move (.tmp 71), none, 0⟩,
    ⟨(some 73), .move (.tmp 9), (some (72, false)), 0⟩,
    ⟨(some 74), .loadA 2 (.tmp 3), (some (72, false)), 0⟩,
    ⟨(some 75), .call 61 [(.tmp 74)], (some (72, false)), 0⟩,
    ⟨(some 76), .call 28 [(.tmp 73), (.tmp 75)], (some (72, false)), 0⟩,
    ⟨(some 77), .un .not (.tmp 76), (some (72, false)), 0⟩,
    ⟨(some 78), .pick (.tmp 72) (.const (.bool true)) (.tmp 77), none, 0⟩] false) (.cond (.tmp 78) (.seq (.ops [⟨(some 6), .move (.const (.bool false)), none, 0⟩] false) (.ret)) (.skip))) (.seq (.seq (.ops [⟨(some 79), .loadA 2 (.tmp 3), none, 0⟩,
    ⟨(some 80), .move (.tmp 1), none, 0⟩,
    ⟨(some 81), .call 62 [(.tmp 79), (.tmp 80)], none, 0⟩,
    ⟨(some 82), .un .not (.tmp 81), none, 0⟩] false) (.cond (.tmp 82) (.seq (.ops [⟨(some 83), .move (.tmp 12), none, 0⟩,
    ⟨(some 84), .bin .eql (.tmp 83) (.const (.int .i64 1)), none, 0⟩,
    ⟨(some 85), .move (.tmp 84), none, 0⟩,
    ⟨(some 86), .move (.tmp 14), (some (85, true)), 0⟩,
    ⟨(some 87), .bin .eql (.tmp 86) (.const (.int .i64 1)), (some (85, true)), 0⟩,
    ⟨(some 88), .pick (.tmp 85) (.tmp 87) (.const (.bool false)), none, 0⟩,
    ⟨(some 89), .move (.tmp 88), none, 0⟩,
    ⟨(some 90), .move (.tmp 11), (some (89, true)), 0⟩,
    ⟨(some 91), .len (.tmp 90), (some (89, true)), 0⟩,
    ⟨(some 92), .bin .eql (.tmp 91) (.const (.int .i64 0)), (some (89, true)), 0⟩,
    ⟨(some 93), .pick (.tmp 89) (.tmp 92) (.const (.bool false)), none, 0⟩,
    ⟨(some 94), .move (.tmp 93), none, 0⟩,
    ⟨(some 95), .move (.tmp 13), (some (94, true)), 0⟩,
    ⟨(some 96), .len (.tmp 95), (some (94, true)), 0⟩,
    ⟨(some 97), .bin .eql (.tmp 96) (.const (.int .i64 0)), (some (94, true)), 0⟩,
    ⟨(some 98), .pick (.tmp 94) (.tmp 97) (.const (.bool false)), none, 0⟩,
    ⟨(some 6), .move (.tmp 98), none, 0⟩] false) (.ret)) (.skip))) (.seq (.seq (.ops [⟨(some 99), .move (.tmp 12), none, 0⟩,
    ⟨(some 100), .bin .neq (.tmp 99) (.const (.int .i64 0)), none, 0⟩,
    ⟨(some 101), .move (.tmp 100), none, 0⟩,
    ⟨(some 102), .move (.tmp 11), (some (101, false)), 0⟩,
    ⟨(some 103), .loadA 2 (.tmp 3), (some (101, false)), 0⟩,
    ⟨(some 104), .move (.tmp 7), (some (101, false)), 0⟩,
    ⟨(some 105), .move (.tmp 1), (some (101, false)), 0⟩,
    ⟨(some 106), .call 63 [(.tmp 103), (.tmp 104), (.tmp 105)], (some (101, false)), 0⟩,
    ⟨(some 107), .call 28 [(.tmp 102), (.tmp 106)], (some (101, false)), 0⟩,
    ⟨(some 108), .un .not (.tmp 107), (some (101, false)), 0⟩,
    ⟨(some 109), .pick (.tmp 101) (.const (.bool true)) (.tmp 108), none, 0⟩] false) (.cond (.tmp 109) (.seq (.ops [⟨(some 6), .move (.const (.bool false)), none, 0⟩] false) (.ret)) (.skip))) (.seq (.seq (.ops [⟨(some 110), .move (.tmp 2), none, 0⟩,
    ⟨(some 111), .bin .lss (.tmp 110) (.const (.int .i64 0)), none, 0⟩,
    ⟨(some 112), .move (.tmp 111), none, 0⟩,
    ⟨(some 113), .move (.tmp 2), (some (112, false)), 0⟩,
    ⟨(some 114), .move (.tmp 7), (some (112, false)), 0⟩,
    ⟨(some 115), .len (.tmp 114), (some (112, false)), 0⟩,
    ⟨(some 116), .bin .geq (.tmp 113) (.tmp 115), (some (112, false)), 0⟩,
    ⟨(some 117), .pick (.tmp 112) (.const (.bool true)) (.tmp 116), none, 0⟩] false) (.cond (.tmp 117) (.seq (.ops [⟨(some 118), .move (.tmp 14), none, 0⟩,
    ⟨(some 119), .bin .eql (.tmp 118) (.const (.int .i64 1)), none, 0⟩,
    ⟨(some 120), .move (.tmp 119), none, 0⟩,
    ⟨(some 121), .move (.tmp 13), (some (120, true)), 0⟩,
    ⟨(some 122), .len (.tmp 121), (some (120, true)), 0⟩,
    ⟨(some 123), .bin .eql (.tmp 122) (.const (.int .i64 0)), (some (120, true)), 0⟩,
    ⟨(some 124), .pick (.tmp 120) (.tmp 123) (.const (.bool false)), none, 0⟩,
    ⟨(some 6), .move (.tmp 124), none, 0⟩] false) (.ret)) (.skip))) (.seq (.seq (.ops [⟨(some 125), .loadA 2 (.tmp 3), none, 0⟩,
    ⟨(some 126), .move (.tmp 1), none, 0⟩,
    ⟨(some 127), .move (.tmp 7), none, 0⟩,
    ⟨(some 128), .move (.tmp 2), none, 0⟩,
    ⟨(some 129), .iaddr 3 (.tmp 127) (.tmp 128), none, 12⟩,
    ⟨(some 130), .loadA 3 (.tmp 129), none, 28⟩,
    ⟨(some 131), .call 64 [(.tmp 125), (.tmp 126), (.tmp 130)], none, 63⟩,
    ⟨(some 132), .un .not (.tmp 131), none, 127⟩] true) (.cond (.tmp 132) (.seq (.ops [⟨(some 133), .move (.tmp 14), none, 0⟩,
    ⟨(some 134), .bin .eql (.tmp 133) (.const (.int .i64 9)), none, 0⟩,
    ⟨(some 135), .move (.tmp 134), none, 0⟩,
    ⟨(some 136), .move (.tmp 13), (some (135, true)), 0⟩,
    ⟨(some 137), .len (.tmp 136), (some (135, true)), 0⟩,
    ⟨(some 138), .bin .eql (.tmp 137) (.const (.int .i64 0)), (some (135, true)), 0⟩,
    ⟨(some 139), .pick (.tmp 135) (.tmp 138) (.const (.bool false)), none, 0⟩,
    ⟨(some 6), .move (.tmp 139), none, 0⟩] false) (.ret)) (.skip))) (.seq (.ops [⟨(some 141), .loadA 2 (.tmp 3), none, 0⟩,
    ⟨(some 142), .move (.tmp 1), none, 0⟩,
    ⟨(some 143), .move (.tmp 7), none, 0⟩,
    ⟨(some 144), .move (.tmp 2), none, 0⟩,
    ⟨(some 145), .iaddr 3 (.tmp 143) (.tmp 144), none, 12⟩,
    ⟨(some 146), .loadA 3 (.tmp 145), none, 28⟩,
    ⟨(some 147), .call 65 [(.tmp 141), (.tmp 142), (.tmp 146)], none, 63⟩,
    ⟨(some 140), .move (.tmp 147), none, 127⟩,
    ⟨(some 148), .ext 0 (.tmp 140), none, 255⟩,
    ⟨(some 149), .ext 1 (.tmp 140), none, 255⟩,
    ⟨(some 15), .move (.tmp 148), none, 511⟩,
    ⟨(some 16), .move (.tmp 149), none, 2047⟩] true) (.seq (.ops [⟨(some 150), .move (.tmp 14), none, 0⟩,
    ⟨(some 151), .move (.tmp 16), none, 0⟩,
    ⟨(some 152), .bin .eql (.tmp 150) (.tmp 151), none, 0⟩,
    ⟨(some 153), .move (.tmp 152), none, 0⟩,
    ⟨(some 154), .move (.tmp 13), (some (153, true)), 0⟩,
    ⟨(some 155), .move (.tmp 15), (some (153, true)), 0⟩,
    ⟨(some 156), .call 28 [(.tmp 154), (.tmp 155)], (some (153, true)), 0⟩,
    ⟨(some 157), .pick (.tmp 153) (.tmp 156) (.const (.bool false)), none, 0⟩,
    ⟨(some 6), .move (.tmp 157), none, 0⟩] false) (.ret)))))))))))))
set_option maxRecDepth 100000 in
theorem c14_ok : FunOK Try.prog 14 158 [.tmp 6] c14 := ⟨⟨Try.f14, Try.func14, rfl, by kernel_rfl, rfl, by kernel_rfl⟩⟩
set_option maxRecDepth 100000 in
theorem law_GameSays (P : ProcD) (hP : P.Fits) (M : List Int) (hM : M.length ≤ 9223372036854775807) (k : Int) : PCall Try.prog 14 [dproc P, dints M, .sc (.int .i64 k)] (dbool true) := by
  have hB := game_Begin P hP
  have hN := game_Enabled P hP M hM
  have hF := game_Fire P hP M hM k
  have eE : P.firE M k = if P.markE M ≠ 0 then P.markE M else if k < 0 ∨ (P.stepsL.length : Int) ≤ k then 1
    else if P.mayB M (P.stepsL.getD k.toNat (0, 0, 0)) = true then P.fireE M (P.stepsL.getD k.toNat (0, 0, 0)) else 9 := by unfold ProcD.firE; rfl
  have eL : P.firL M k = if P.firE M k = 0 then P.fireL M (P.stepsL.getD k.toNat (0, 0, 0)) else [] := rfl
  have eM : P.markE M = if P.stepsE ≠ 0 then P.stepsE else if P.markB M = true then 0 else 1 := rfl
  have eN : P.enL M = if P.markE M = 0 then P.mayTo M P.stepsL P.stepsL.length else [] := rfl
  have eB : P.beginL = if P.stepsE = 0 then gl P.flows.length (begG P) else [] := rfl
  refine pcall_intro c14_ok (by simp) (by simp [PureL, Pure, pure_dproc, pure_dints]) ?_ (by simp [dbool, Pure])
  (apply red_sound; focus (repeat' (first | exact Red.skip | exact Red.ret | exact RedO.nil | exact RedD.nil | exact Red.exit _ | exact Red.loop _ | exact Red.stop _ | apply Red.ops | apply Red.draw | apply Red.seq | apply Red.cond | apply Red.block | apply RedO.cons | apply RedD.cons | exact (0 : Nat))))
  ((conv => whnf); repeat (refine And.intro rfl ?_; (conv => whnf)))
  (refine .inl ⟨_, (ref_Steps P hP), ?_⟩; ((conv => whnf); repeat (refine And.intro rfl ?_; (conv => whnf))))
  (refine .inl ⟨_, hB, ?_⟩; ((conv => whnf); repeat (refine And.intro rfl ?_; (conv => whnf))))
  (refine .inl ⟨_, hN, ?_⟩; ((conv => whnf); repeat (refine And.intro rfl ?_; (conv => whnf))))
  (refine .inl ⟨_, hF, ?_⟩; ((conv => whnf); repeat (refine And.intro rfl ?_; (conv => whnf))))
  (refine ifK_split (fun h1 => ?_) (fun h1 => ?_) <;> (rw [h1]; ((conv => whnf); repeat (refine And.intro rfl ?_; (conv => whnf)))))
  · have h1 : P.stepsE ≠ 0 := by ((try simp only [bne_iff_ne, ne_eq, bne_eq_false_iff_eq, beq_iff_eq, beq_eq_false_iff_ne, decide_eq_true_eq, decide_eq_false_iff_not, List.length_map, Bool.not_eq_true, Bool.not_eq_false, Bool.and_eq_true, Bool.or_eq_true, Bool.and_eq_false_iff, Bool.or_eq_false_iff, Bool.not_eq_true', Bool.not_eq_false', Bool.not_true, Bool.not_false, Bool.not_eq_eq_eq_not, not_true_eq_false, not_false_eq_true, reduceCtorEq, Bool.true_or, Bool.false_or, Bool.or_true, Bool.or_false, Bool.true_and, Bool.and_true, Bool.false_and, Bool.and_false, true_and, and_true, or_false, false_or, true_or, or_true, false_and, and_false, Bool.true_eq_false, Bool.false_eq_true] at *) <;> omega)
    rw [if_pos h1] at eM
    rw [if_neg h1] at eB
    rw [if_neg (by rw [eM]; exact h1)] at eN
    rw [if_pos (by rw [eM]; exact h1)] at eE
    rw [if_neg (by rw [eE, eM]; exact h1)] at eL
    rw [eB, eN, eL, eE, eM]
    have hb : (P.stepsE == P.stepsE) = true := by simp
    rw [hb]
    ((conv => whnf); repeat (refine And.intro rfl ?_; (conv => whnf)))
    rw [hb]
    ((conv => whnf); repeat (refine And.intro rfl ?_; (conv => whnf)))
    rw [hb]
    ((conv => whnf); repeat (refine And.intro rfl ?_; (conv => whnf)))
    exact .refl _
  have h1 : P.stepsE = 0 := by ((try simp only [bne_iff_ne, ne_eq, bne_eq_false_iff_eq, beq_iff_eq, beq_eq_false_iff_ne, decide_eq_true_eq, decide_eq_false_iff_not, List.length_map, Bool.not_eq_true, Bool.not_eq_false, Bool.and_eq_true, Bool.or_eq_true, Bool.and_eq_false_iff, Bool.or_eq_false_iff, Bool.not_eq_true', Bool.not_eq_false', Bool.not_true, Bool.not_false, Bool.not_eq_eq_eq_not, not_true_eq_false, not_false_eq_true, reduceCtorEq, Bool.true_or, Bool.false_or, Bool.or_true, Bool.or_false, Bool.true_and, Bool.and_true, Bool.false_and, Bool.and_false, true_and, and_true, or_false, false_or, true_or, or_true, false_and, and_false, Bool.true_eq_false, Bool.false_eq_true] at *) <;> omega)
  obtain ⟨h0, _, h60⟩ := ProcD.stepsE_zero h1
  obtain ⟨hs1, hs2⟩ := chk_small h0
  rw [if_neg (by omega)] at eM
  rw [if_pos h1] at eB
  rw [h1]
  ((conv => whnf); repeat (refine And.intro rfl ?_; (conv => whnf)))
  (refine .inl ⟨_, (ref_Begin P hP h1), ?_⟩; ((conv => whnf); repeat (refine And.intro rfl ?_; (conv => whnf))))
  (refine .inl ⟨_, (equal_int P.beginL P.beginL (by rw [eB, gl_len]; omega)), ?_⟩; ((conv => whnf); repeat (refine And.intro rfl ?_; (conv => whnf))))
  have t1 : decide (P.beginL = P.beginL) = true := decide_eq_true rfl
  rw [t1]
  ((conv => whnf); repeat (refine And.intro rfl ?_; (conv => whnf)))
  (refine .inl ⟨_, (ref_Mark P hP M hM), ?_⟩; ((conv => whnf); repeat (refine And.intro rfl ?_; (conv => whnf))))
  cases h2 : P.markB M
  · rw [if_neg (by rw [h2]; decide)] at eM
    rw [if_neg (by rw [eM]; decide)] at eN
    rw [if_pos (by rw [eM]; decide)] at eE
    rw [if_neg (by rw [eE, eM]; decide)] at eL
    rw [eN, eL, eE, eM]
    ((conv => whnf); repeat (refine And.intro rfl ?_; (conv => whnf)))
    exact .refl _
  rw [if_pos h2] at eM
  rw [if_pos eM] at eN
  rw [if_neg (by omega)] at eE
  have hK := ProcD.mark_of h2
  rw [eM]
  ((conv => whnf); repeat (refine And.intro rfl ?_; (conv => whnf)))
  (refine .inl ⟨_, (ref_Enabled P hP M eM), ?_⟩; ((conv => whnf); repeat (refine And.intro rfl ?_; (conv => whnf))))
  have lN := P.mayTo_len M P.stepsL P.stepsL.length
  (refine .inl ⟨_, (equal_int (P.enL M) (P.enL M) (by rw [eN]; omega)), ?_⟩; ((conv => whnf); repeat (refine And.intro rfl ?_; (conv => whnf))))
  have t2 : decide (P.enL M = P.enL M) = true := decide_eq_true rfl
  rw [t2]
  ((conv => whnf); repeat (refine And.intro rfl ?_; (conv => whnf)))
  have bad : ∀ {e : Int}, e ≠ 0 → P.firE M k = e → P.firL M k = [] := fun h q => by rw [eL, q, if_neg h]
  cases h3 : decide (k < 0)
  · have h3 : ¬ k < 0 := by ((try simp only [bne_iff_ne, ne_eq, bne_eq_false_iff_eq, beq_iff_eq, beq_eq_false_iff_ne, decide_eq_true_eq, decide_eq_false_iff_not, List.length_map, Bool.not_eq_true, Bool.not_eq_false, Bool.and_eq_true, Bool.or_eq_true, Bool.and_eq_false_iff, Bool.or_eq_false_iff, Bool.not_eq_true', Bool.not_eq_false', Bool.not_true, Bool.not_false, Bool.not_eq_eq_eq_not, not_true_eq_false, not_false_eq_true, reduceCtorEq, Bool.true_or, Bool.false_or, Bool.or_true, Bool.or_false, Bool.true_and, Bool.and_true, Bool.false_and, Bool.and_false, true_and, and_true, or_false, false_or, true_or, or_true, false_and, and_false, Bool.true_eq_false, Bool.false_eq_true] at *) <;> omega)
    ((conv => whnf); repeat (refine And.intro rfl ?_; (conv => whnf)))
    rw [srows_len]
    (refine ifK_split (fun h4 => ?_) (fun h4 => ?_) <;> (rw [h4]; ((conv => whnf); repeat (refine And.intro rfl ?_; (conv => whnf)))))
    · rw [if_pos (.inr (by ((try simp only [bne_iff_ne, ne_eq, bne_eq_false_iff_eq, beq_iff_eq, beq_eq_false_iff_ne, decide_eq_true_eq, decide_eq_false_iff_not, List.length_map, Bool.not_eq_true, Bool.not_eq_false, Bool.and_eq_true, Bool.or_eq_true, Bool.and_eq_false_iff, Bool.or_eq_false_iff, Bool.not_eq_true', Bool.not_eq_false', Bool.not_true, Bool.not_false, Bool.not_eq_eq_eq_not, not_true_eq_false, not_false_eq_true, reduceCtorEq, Bool.true_or, Bool.false_or, Bool.or_true, Bool.or_false, Bool.true_and, Bool.and_true, Bool.false_and, Bool.and_false, true_and, and_true, or_false, false_or, true_or, or_true, false_and, and_false, Bool.true_eq_false, Bool.false_eq_true] at *) <;> omega)))] at eE
      rw [eE, bad (by decide) eE]
      ((conv => whnf); repeat (refine And.intro rfl ?_; (conv => whnf)))
      exact .refl _
    · have h4 : ¬ (P.stepsL.length : Int) ≤ k := by ((try simp only [bne_iff_ne, ne_eq, bne_eq_false_iff_eq, beq_iff_eq, beq_eq_false_iff_ne, decide_eq_true_eq, decide_eq_false_iff_not, List.length_map, Bool.not_eq_true, Bool.not_eq_false, Bool.and_eq_true, Bool.or_eq_true, Bool.and_eq_false_iff, Bool.or_eq_false_iff, Bool.not_eq_true', Bool.not_eq_false', Bool.not_true, Bool.not_false, Bool.not_eq_eq_eq_not, not_true_eq_false, not_false_eq_true, reduceCtorEq, Bool.true_or, Bool.false_or, Bool.or_true, Bool.or_false, Bool.true_and, Bool.and_true, Bool.false_and, Bool.and_false, true_and, and_true, or_false, false_or, true_or, or_true, false_and, and_false, Bool.true_eq_false, Bool.false_eq_true] at *) <;> omega)
      rw [if_neg (by omega)] at eE
      have hk' : k.toNat < P.stepsL.length := by omega
      have hsk := ProcD.stepAt_ok h1 hk'
      refine ⟨by omega, _, step_atD (k := k.toNat) (by omega) hk', ?_⟩
      ((conv => whnf); repeat (refine And.intro rfl ?_; (conv => whnf)))
      generalize hS : P.stepsL.getD k.toNat (0, 0, 0) = s at hsk eE eL
      (refine .inl ⟨_, (ref_May P hP h0 M hK s hsk), ?_⟩; ((conv => whnf); repeat (refine And.intro rfl ?_; (conv => whnf))))
      cases h5 : P.mayB M s
      · rw [if_neg (by rw [h5]; decide)] at eE
        rw [eE, bad (by decide) eE]
        ((conv => whnf); repeat (refine And.intro rfl ?_; (conv => whnf)))
        exact .refl _
      · rw [if_pos h5] at eE
        ((conv => whnf); repeat (refine And.intro rfl ?_; (conv => whnf)))
        refine ⟨by omega, _, step_atD (k := k.toNat) (by omega) hk', ?_⟩
        ((conv => whnf); repeat (refine And.intro rfl ?_; (conv => whnf)))
        rw [hS]
        (refine .inl ⟨_, (ref_Fire P hP h0 M hK s hsk), ?_⟩; ((conv => whnf); repeat (refine And.intro rfl ?_; (conv => whnf))))
        have e : P.firL M k = P.fireL M s := by
          rw [eL, eE]
          split
          · rfl
          · rename_i q; exact (fireL_bad q).symm
        rw [eE, e]
        have t3 : (P.fireE M s == P.fireE M s) = true := by simp
        rw [t3]
        ((conv => whnf); repeat (refine And.intro rfl ?_; (conv => whnf)))
        have lF : (P.fireL M s).length ≤ 9223372036854775807 := by
          unfold ProcD.fireL
          split
          · rw [gl_len]; omega
          · split
            · rw [gl_len]; omega
            · simp
        (refine .inl ⟨_, (equal_int (P.fireL M s) (P.fireL M s) lF), ?_⟩; ((conv => whnf); repeat (refine And.intro rfl ?_; (conv => whnf))))
        have t4 : decide (P.fireL M s = P.fireL M s) = true := decide_eq_true rfl
        rw [t4]
        exact .refl _
  · have h3 : k < 0 := by ((try simp only [bne_iff_ne, ne_eq, bne_eq_false_iff_eq, beq_iff_eq, beq_eq_false_iff_ne, decide_eq_true_eq, decide_eq_false_iff_not, List.length_map, Bool.not_eq_true, Bool.not_eq_false, Bool.and_eq_true, Bool.or_eq_true, Bool.and_eq_false_iff, Bool.or_eq_false_iff, Bool.not_eq_true', Bool.not_eq_false', Bool.not_true, Bool.not_false, Bool.not_eq_eq_eq_not, not_true_eq_false, not_false_eq_true, reduceCtorEq, Bool.true_or, Bool.false_or, Bool.or_true, Bool.or_false, Bool.true_and, Bool.and_true, Bool.false_and, Bool.and_false, true_and, and_true, or_false, false_or, true_or, or_true, false_and, and_false, Bool.true_eq_false, Bool.false_eq_true] at *) <;> omega)
    rw [if_pos (.inl h3)] at eE
    ((conv => whnf); repeat (refine And.intro rfl ?_; (conv => whnf)))
    rw [eE, bad (by decide) eE]
    ((conv => whnf); repeat (refine And.intro rfl ?_; (conv => whnf)))
    exact .refl _
theorem argInts {P : Program} {t u : TypeId} {d : D} (ht : P.underlying t = some (.slice u)) (hu : P.underlying u = some (.int .i64)) (hc : P.cellsOf u = 1) (h : OfA P t d) : ∃ l : List Int, d = dints l ∧ l.length ≤ 9223372036854775807 := by
  unfold OfA at h
  rw [ht] at h
  obtain ⟨xs, e1, hl, hx⟩ := of_slice ht h
  obtain ⟨l, rfl, _⟩ := of_cells (f := fun n : Int => .int .i64 n) (ok := fun _ => True) (fun cs h => by obtain ⟨n, e, _⟩ := of_int hu h; exact ⟨n, e, trivial⟩) hx
  rw [hc] at e1
  cases e1
  exact ⟨l, rfl, by simpa using hl⟩
namespace gameSays
set_option maxRecDepth 100000 in
theorem law : ∀ Ds, OfAs Try.prog [63, 22, 3] Ds → PCall Try.prog 14 Ds (dbool true)
  | [d, e, f], h => by
    obtain ⟨P, rfl, hP⟩ := argProc h.1
    obtain ⟨M, rfl, hM⟩ := argInts Try.underlying22 Try.underlying3 (by kernel_rfl) h.2.1
    obtain ⟨i, rfl, hi⟩ := argInt Try.underlying3 h.2.2.1
    exact law_GameSays P hP M hM i
theorem types : typesOK Try.prog [63, 22, 3, 60, 61, 156, 158, 9] = true := by kernel_rfl
set_option maxRecDepth 100000 in
theorem laidOut : laidOutB Try.prog = true := by kernel_rfl
set_option maxRecDepth 100000 in
theorem readable : (Try.f14.params.toList.all fun t => Try.prog.readableRec t && decide (t < Try.prog.types.size)) = true := by kernel_rfl
theorem own : ownKnob Try.prog.godebug = none := by kernel_rfl
set_option maxRecDepth 100000 in
theorem lifted (os : Os) (started : os.Started) (H : Type) (enc : TypeId × Value → H) :
    ReturnsInHanded {} Try.checked os 14 .any (Rows.gameSaysSpec.pre6 enc Try.prog Try.f14 Rows.gameSaysRow.domain false) (Rows.gameSaysSpec.post enc Try.prog Try.f14 false true false false) := by
  refine returnsInHanded_of_change_sized (C := Try.checked) own started (by kernel_rfl) Try.func14
    (ChangeSpec.witness6 (enc := enc) (C := Try.checked) false ⟨#[], #[.agg #[.slice none 0 0, .slice none 0 0], .slice none 0 0, .int .i64 0], []⟩ 8 (by kernel_rfl) (by kernel_rfl) (by kernel_rfl) (by kernel_rfl)) ?_
  intro W base args ds gs before hval0 hW _ hsz _
  have hval : ∀ (j : Nat) t v, Try.f14.params[j]? = some t → args[j]? = some v → Value.okWide Try.prog W .any base t v := hval0
  have hW' := hW
  obtain ⟨p, q, hA0, hV, _, hfz, hnd⟩ := hW
  have hA : DataW.TrodAll enc Try.prog W 0 (fun _ => true) true Try.f14.params.toList args.toList ds p := hA0
  have hps : Try.f14.params.toList = [63, 22, 3] := by kernel_rfl
  obtain ⟨Ds, hD, hR⟩ := args_rep types (base := base) _ _ _ _ (fun t ht => by rw [hps] at ht; revert t; decide) (fun j t v h1 h2 => hval j t v (by simpa using h1) (by simpa using h2)) hA fun n hn => by
    have := List.all_eq_true.1 hsz n (weightsEach_pre _ _ _ _ (trodAll_len _ _ _ _ hA).symm n hn)
    simpa using this
  rw [hps] at hD
  have hC := (law Ds hD).run noInj (There W) W args.toList (fun b h => h) hR
  rw [show args.toList.toArray = args from rfl] at hC
  refine hC.mono fun e W' ⟨v, F', he, _, hv, hx⟩ => ?_
  have hv' : v = .bool true := by simpa only [rep, dbool] using hv
  subst he hv'
  exact ⟨_, rfl, row_post hW' rfl (by kernel_rfl) Try.underlying4 laidOut (fun t ht => by
      have := List.all_eq_true.1 readable t ht
      simp only [Bool.and_eq_true, decide_eq_true_eq] at this
      exact this) (fun ds h => by rw [hps] at h; match ds, h with | [_, _, _], _ => rfl) (below_of_ext hx) (ok_one (by kernel_rfl) rfl (okWide_bool_mk Try.underlying4 _))⟩

theorem over : Rows.gameSaysRow.holds Try.pinned (OpenSpec.ofChange Rows.gameSaysSpec) :=
  OpenClaim.holds_of_wide 14 Try.f14 rfl rfl rfl rfl rfl rfl rfl ⟨rfl, rfl, rfl, rfl, rfl⟩ rfl rfl rfl rfl rfl (by kernel_rfl) Try.func14 (by kernel_rfl)
    (of_decide_eq_true (by kernel_rfl)) (by unfold Func.isWrapper; first | (rw [if_pos (by decide +kernel)]; kernel_rfl) | (rw [if_neg (by decide +kernel)]; exact ⟨rfl, rfl⟩))
    (fun os started H enc _ => lifted os started H enc)

theorem proved : Rows.GameSaysSaid := over
end gameSays
end Go.Proofs.Ytcgjbhnljjlffaa
