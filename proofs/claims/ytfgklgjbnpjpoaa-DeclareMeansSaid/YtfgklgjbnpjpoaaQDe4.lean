/-
  What a template means: the reference's answer, over deep values. No statement is proved here.
-/
import Derived.Test.YtfgklgjbnpjpoaaQDe3
namespace Go.Proofs.Ytfgklgjbnpjpoaa
open Go.RowKit
set_option linter.unusedSimpArgs false
set_option linter.unusedVariables false
def lastB (kd : Int) (far : Nat) (sn A B : Nat → Bool) (i : Nat) : Bool := !A i || (if kd = 14 then !someB far (i + 1) B else decide (nextR kd far sn A B i < far) && B (nextR kd far sn A B i))
theorem lastB_false {kd : Int} {far n k : Nat} {sn A B : Nat → Bool} (hk : k < n) (h : lastB kd far sn A B k = false) : (List.range n).all (lastB kd far sn A B) = false := by
  rw [Bool.eq_false_iff]
  intro q
  have := all_range.1 q k hk
  rw [h] at this
  cases this
theorem lastB_succ (kd : Int) (far k : Nat) (sn A B : Nat → Bool) : (List.range (k + 1)).all (lastB kd far sn A B) = ((List.range k).all (lastB kd far sn A B) && lastB kd far sn A B k) := by
  rw [List.range_succ, List.all_append]; simp
theorem refTB_last {kd ct : Int} {sn A B : Nat → Bool} {far n : Nat} (h : ∀ v, v = 1 ∨ v = 2 ∨ v = 3 ∨ v = 4 ∨ v = 5 ∨ v = 6 ∨ v = 7 ∨ v = 13 ∨ v = 8 ∨ v = 9 ∨ v = 10 → kd ≠ v) : refTB kd ct sn A B far n = (List.range n).all (lastB kd far sn A B) := by
  unfold refTB
  rw [if_neg (h 1 (by simp)), if_neg (h 2 (by simp)), if_neg (h 3 (by simp)), if_neg (h 4 (by simp)), if_neg (h 5 (by simp)), if_neg (h 6 (by simp)), if_neg (h 7 (by simp)), if_neg (h 13 (by simp)), if_neg (h 8 (by simp)), if_neg (h 9 (by simp)), if_neg (h 10 (by simp))]
  rfl
def c30_1 : PC := .seq (.seq (.ops [⟨(some 37), .move (.tmp 13), none, 0⟩,
    ⟨(some 38), .load1 (.tmp 7), none, 0⟩,
    ⟨(some 39), .bin .lss (.tmp 37) (.tmp 38), none, 0⟩] false) (.cond (.tmp 39) (.skip) (.exit 0))) (.seq (.block 1 (.seq (.ops [⟨(some 42), .load1 (.tmp 9), none, 0⟩,
    ⟨(some 43), .move (.tmp 13), none, 0⟩,
    ⟨(some 44), .callv (.tmp 42) [(.tmp 43)], none, 0⟩] false) (.cond (.tmp 44) (.ops [⟨(some 45), .move (.tmp 12), none, 0⟩,
    ⟨(some 46), .bin .add (.tmp 45) (.const (.int .i64 1)), none, 0⟩,
    ⟨(some 12), .move (.tmp 46), none, 0⟩] false) (.skip)))) (.ops [⟨(some 40), .move (.tmp 13), none, 0⟩,
    ⟨(some 41), .bin .add (.tmp 40) (.const (.int .i64 1)), none, 0⟩,
    ⟨(some 13), .move (.tmp 41), none, 0⟩] false))
def c30_2 : PC := .seq (.seq (.ops [⟨(some 71), .move (.tmp 16), none, 0⟩,
    ⟨(some 72), .load1 (.tmp 5), none, 0⟩,
    ⟨(some 73), .bin .lss (.tmp 71) (.tmp 72), none, 0⟩] false) (.cond (.tmp 73) (.skip) (.exit 3))) (.seq (.block 4 (.seq (.ops [⟨(some 76), .load1 (.tmp 8), none, 0⟩,
    ⟨(some 77), .move (.tmp 16), none, 0⟩,
    ⟨(some 78), .callv (.tmp 76) [(.tmp 77)], none, 0⟩] false) (.cond (.tmp 78) (.seq (.ops [⟨(some 79), .load1 (.tmp 9), none, 0⟩,
    ⟨(some 80), .move (.tmp 16), none, 0⟩,
    ⟨(some 81), .callv (.tmp 79) [(.tmp 80)], none, 0⟩,
    ⟨(some 4), .move (.tmp 81), none, 0⟩] false) (.ret)) (.skip)))) (.ops [⟨(some 74), .move (.tmp 16), none, 0⟩,
    ⟨(some 75), .bin .add (.tmp 74) (.const (.int .i64 1)), none, 0⟩,
    ⟨(some 16), .move (.tmp 75), none, 0⟩] false))
def c30_4 : PC := .seq (.seq (.ops [⟨(some 158), .move (.tmp 18), none, 0⟩,
    ⟨(some 159), .load1 (.tmp 7), none, 0⟩,
    ⟨(some 160), .bin .lss (.tmp 158) (.tmp 159), none, 0⟩,
    ⟨(some 161), .move (.tmp 160), none, 0⟩,
    ⟨(some 162), .faddr 0 (.tmp 2), (some (161, true)), 0⟩,
    ⟨(some 163), .load1 (.tmp 162), (some (161, true)), 0⟩,
    ⟨(some 164), .bin .eql (.tmp 163) (.const (.int .i64 12)), (some (161, true)), 0⟩,
    ⟨(some 165), .move (.tmp 164), (some (161, true)), 0⟩,
    ⟨(some 166), .load1 (.tmp 8), (some (165, true)), 0⟩,
    ⟨(some 167), .move (.tmp 18), (some (165, true)), 0⟩,
    ⟨(some 168), .callv (.tmp 166) [(.tmp 167)], (some (165, true)), 0⟩,
    ⟨(some 169), .pick (.tmp 165) (.tmp 168) (.const (.bool false)), (some (161, true)), 0⟩,
    ⟨(some 170), .move (.tmp 169), (some (161, true)), 0⟩,
    ⟨(some 171), .faddr 0 (.tmp 2), (some (170, false)), 0⟩,
    ⟨(some 172), .load1 (.tmp 171), (some (170, false)), 0⟩,
    ⟨(some 173), .bin .eql (.tmp 172) (.const (.int .i64 11)), (some (170, false)), 0⟩,
    ⟨(some 174), .move (.tmp 173), (some (170, false)), 0⟩,
    ⟨(some 175), .load1 (.tmp 9), (some (174, true)), 0⟩,
    ⟨(some 176), .move (.tmp 18), (some (174, true)), 0⟩,
    ⟨(some 177), .callv (.tmp 175) [(.tmp 176)], (some (174, true)), 0⟩,
    ⟨(some 178), .move (.tmp 177), (some (174, true)), 0⟩,
    ⟨(some 179), .load1 (.tmp 10), (some (178, false)), 0⟩,
    ⟨(some 180), .move (.tmp 18), (some (178, false)), 0⟩,
    ⟨(some 181), .callv (.tmp 179) [(.tmp 180)], (some (178, false)), 0⟩,
    ⟨(some 182), .pick (.tmp 178) (.const (.bool true)) (.tmp 181), (some (174, true)), 0⟩,
    ⟨(some 183), .pick (.tmp 174) (.tmp 182) (.const (.bool false)), (some (170, false)), 0⟩,
    ⟨(some 184), .pick (.tmp 170) (.const (.bool true)) (.tmp 183), (some (161, true)), 0⟩,
    ⟨(some 185), .un .not (.tmp 184), (some (161, true)), 0⟩,
    ⟨(some 186), .pick (.tmp 161) (.tmp 185) (.const (.bool false)), none, 0⟩] false) (.cond (.tmp 186) (.skip) (.exit 7))) (.block 8 (.ops [⟨(some 187), .move (.tmp 18), none, 0⟩,
    ⟨(some 188), .bin .add (.tmp 187) (.const (.int .i64 1)), none, 0⟩,
    ⟨(some 18), .move (.tmp 188), none, 0⟩] false))
def c30_3 : PC := .seq (.seq (.ops [⟨(some 139), .move (.tmp 17), none, 0⟩,
    ⟨(some 140), .load1 (.tmp 5), none, 0⟩,
    ⟨(some 141), .bin .lss (.tmp 139) (.tmp 140), none, 0⟩] false) (.cond (.tmp 141) (.skip) (.exit 5))) (.seq (.block 6 (.seq (.seq (.ops [⟨(some 144), .load1 (.tmp 9), none, 0⟩,
    ⟨(some 145), .move (.tmp 17), none, 0⟩,
    ⟨(some 146), .callv (.tmp 144) [(.tmp 145)], none, 0⟩,
    ⟨(some 147), .un .not (.tmp 146), none, 0⟩] false) (.cond (.tmp 147) (.exit 6) (.skip))) (.seq (.seq (.ops [⟨(some 148), .faddr 0 (.tmp 2), none, 0⟩,
    ⟨(some 149), .load1 (.tmp 148), none, 0⟩,
    ⟨(some 150), .bin .eql (.tmp 149) (.const (.int .i64 14)), none, 0⟩] false) (.cond (.tmp 150) (.seq (.seq (.ops [⟨(some 151), .load1 (.tmp 11), none, 0⟩,
    ⟨(some 152), .move (.tmp 17), none, 0⟩,
    ⟨(some 153), .bin .add (.tmp 152) (.const (.int .i64 1)), none, 0⟩,
    ⟨(some 154), .load1 (.tmp 10), none, 0⟩,
    ⟨(some 155), .callv (.tmp 151) [(.tmp 153), (.tmp 154)], none, 0⟩] false) (.cond (.tmp 155) (.seq (.ops [⟨(some 4), .move (.const (.bool false)), none, 0⟩] false) (.ret)) (.skip))) (.exit 6)) (.skip))) (.seq (.ops [⟨(some 156), .move (.tmp 17), none, 0⟩,
    ⟨(some 157), .bin .add (.tmp 156) (.const (.int .i64 1)), none, 0⟩,
    ⟨(some 18), .move (.tmp 157), none, 0⟩] false) (.seq (.block 7 (.loop c30_4)) (.seq (.ops [⟨(some 189), .move (.tmp 18), none, 0⟩,
    ⟨(some 190), .load1 (.tmp 7), none, 0⟩,
    ⟨(some 191), .bin .eql (.tmp 189) (.tmp 190), none, 0⟩,
    ⟨(some 192), .move (.tmp 191), none, 0⟩,
    ⟨(some 193), .load1 (.tmp 10), (some (192, false)), 0⟩,
    ⟨(some 194), .move (.tmp 18), (some (192, false)), 0⟩,
    ⟨(some 195), .callv (.tmp 193) [(.tmp 194)], (some (192, false)), 0⟩,
    ⟨(some 196), .un .not (.tmp 195), (some (192, false)), 0⟩,
    ⟨(some 197), .pick (.tmp 192) (.const (.bool true)) (.tmp 196), none, 0⟩] false) (.cond (.tmp 197) (.seq (.ops [⟨(some 4), .move (.const (.bool false)), none, 0⟩] false) (.ret)) (.skip)))))))) (.ops [⟨(some 142), .move (.tmp 17), none, 0⟩,
    ⟨(some 143), .bin .add (.tmp 142) (.const (.int .i64 1)), none, 0⟩,
    ⟨(some 17), .move (.tmp 143), none, 0⟩] false))
def c30 : PC := .seq (.ops [⟨(some 2), .box (.tmp 0), none, 0⟩,
    ⟨(some 3), .box (.tmp 1), none, 0⟩,
    ⟨(some 4), .move (.const (.bool false)), none, 0⟩] false) (.seq (.ops [⟨(some 19), .faddr 0 (.tmp 3), none, 0⟩,
    ⟨(some 20), .load1 (.tmp 19), none, 1⟩,
    ⟨(some 21), .len (.tmp 20), none, 3⟩,
    ⟨(some 22), .faddr 1 (.tmp 3), none, 0⟩,
    ⟨(some 23), .load1 (.tmp 22), none, 8⟩,
    ⟨(some 24), .len (.tmp 23), none, 24⟩,
    ⟨(some 25), .bin .add (.tmp 21) (.tmp 24), none, 63⟩,
    ⟨(some 26), .faddr 1 (.tmp 3), none, 0⟩,
    ⟨(some 27), .load1 (.tmp 26), none, 128⟩,
    ⟨(some 28), .len (.tmp 27), none, 384⟩,
    ⟨(some 5), .alloc [(.int .i64 0)], none, 0⟩,
    ⟨none, .store 1 (.tmp 5) (.tmp 25), none, 1151⟩,
    ⟨(some 6), .move (.tmp 28), none, 4095⟩] true) (.seq (.ops [⟨(some 29), .load1 (.tmp 5), none, 0⟩,
    ⟨(some 30), .move (.tmp 6), none, 0⟩,
    ⟨(some 31), .bin .mul (.const (.int .i64 6)) (.tmp 30), none, 0⟩,
    ⟨(some 32), .bin .add (.tmp 29) (.tmp 31), none, 0⟩,
    ⟨(some 7), .alloc [(.int .i64 0)], none, 0⟩,
    ⟨none, .store 1 (.tmp 7) (.tmp 32), none, 0⟩] false) (.seq (.ops [⟨(some 33), .mkfn (.func 77) [] [(.tmp 3)], none, 0⟩,
    ⟨(some 8), .alloc [(.nilFunc)], none, 0⟩,
    ⟨none, .store 1 (.tmp 8) (.tmp 33), none, 0⟩] false) (.seq (.ops [⟨(some 34), .mkfn (.func 79) [] [(.tmp 8), (.tmp 3), (.tmp 2)], none, 0⟩,
    ⟨(some 9), .alloc [(.nilFunc)], none, 0⟩,
    ⟨none, .store 1 (.tmp 9) (.tmp 34), none, 0⟩] false) (.seq (.ops [⟨(some 35), .mkfn (.func 80) [] [(.tmp 8), (.tmp 3), (.tmp 2)], none, 0⟩,
    ⟨(some 10), .alloc [(.nilFunc)], none, 0⟩,
    ⟨none, .store 1 (.tmp 10) (.tmp 35), none, 0⟩] false) (.seq (.ops [⟨(some 36), .mkfn (.func 81) [] [(.tmp 7)], none, 0⟩,
    ⟨(some 11), .alloc [(.nilFunc)], none, 0⟩,
    ⟨none, .store 1 (.tmp 11) (.tmp 36), none, 0⟩] false) (.seq (.ops [⟨(some 12), .move (.const (.int .i64 0)), none, 0⟩] false) (.seq (.seq (.ops [⟨(some 13), .move (.const (.int .i64 0)), none, 0⟩] false) (.block 0 (.loop c30_1))) (.seq (.ops [⟨(some 47), .mkfn (.func 82) [] [(.tmp 5), (.tmp 9), (.tmp 11), (.tmp 10)], none, 0⟩,
    ⟨(some 14), .move (.tmp 47), none, 0⟩] false) (.seq (.ops [⟨(some 48), .mkfn (.func 83) [] [(.tmp 5), (.tmp 9), (.tmp 10)], none, 0⟩,
    ⟨(some 15), .move (.tmp 48), none, 0⟩] false) (.seq (.seq (.ops [⟨(some 49), .faddr 0 (.tmp 2), none, 0⟩,
    ⟨(some 50), .load1 (.tmp 49), none, 0⟩] false) (.block 2 (.seq (.ops [⟨(some 52), .bin .eql (.tmp 50) (.const (.int .i64 1)), none, 0⟩,
    ⟨(some 51), .move (.tmp 52), none, 0⟩] false) (.cond (.tmp 51) (.seq (.ops [⟨(some 53), .move (.tmp 12), none, 0⟩,
    ⟨(some 54), .faddr 3 (.tmp 2), none, 0⟩,
    ⟨(some 55), .load1 (.tmp 54), none, 0⟩,
    ⟨(some 56), .bin .geq (.tmp 53) (.tmp 55), none, 0⟩,
    ⟨(some 4), .move (.tmp 56), none, 0⟩] false) (.ret)) (.seq (.ops [⟨(some 58), .bin .eql (.tmp 50) (.const (.int .i64 2)), none, 0⟩,
    ⟨(some 57), .move (.tmp 58), none, 0⟩] false) (.cond (.tmp 57) (.seq (.ops [⟨(some 59), .move (.tmp 12), none, 0⟩,
    ⟨(some 60), .faddr 3 (.tmp 2), none, 0⟩,
    ⟨(some 61), .load1 (.tmp 60), none, 0⟩,
    ⟨(some 62), .bin .lss (.tmp 59) (.tmp 61), none, 0⟩,
    ⟨(some 4), .move (.tmp 62), none, 0⟩] false) (.ret)) (.seq (.ops [⟨(some 64), .bin .eql (.tmp 50) (.const (.int .i64 3)), none, 0⟩,
    ⟨(some 63), .move (.tmp 64), none, 0⟩] false) (.cond (.tmp 63) (.seq (.ops [⟨(some 65), .move (.tmp 12), none, 0⟩,
    ⟨(some 66), .faddr 3 (.tmp 2), none, 0⟩,
    ⟨(some 67), .load1 (.tmp 66), none, 0⟩,
    ⟨(some 68), .bin .eql (.tmp 65) (.tmp 67), none, 0⟩,
    ⟨(some 4), .move (.tmp 68), none, 0⟩] false) (.ret)) (.seq (.ops [⟨(some 70), .bin .eql (.tmp 50) (.const (.int .i64 4)), none, 0⟩,
    ⟨(some 69), .move (.tmp 70), none, 0⟩] false) (.cond (.tmp 69) (.seq (.seq (.ops [⟨(some 16), .move (.const (.int .i64 0)), none, 0⟩] false) (.block 3 (.loop c30_2))) (.seq (.ops [⟨(some 4), .move (.const (.bool true)), none, 0⟩] false) (.ret))) (.seq (.ops [⟨(some 83), .bin .eql (.tmp 50) (.const (.int .i64 5)), none, 0⟩,
    ⟨(some 82), .move (.tmp 83), none, 0⟩] false) (.cond (.tmp 82) (.seq (.ops [⟨(some 84), .load1 (.tmp 11), none, 0⟩,
    ⟨(some 85), .load1 (.tmp 9), none, 0⟩,
    ⟨(some 86), .callv (.tmp 84) [(.const (.int .i64 0)), (.tmp 85)], none, 0⟩,
    ⟨(some 87), .move (.tmp 86), none, 0⟩,
    ⟨(some 88), .load1 (.tmp 11), (some (87, false)), 0⟩,
    ⟨(some 89), .load1 (.tmp 10), (some (87, false)), 0⟩,
    ⟨(some 90), .callv (.tmp 88) [(.const (.int .i64 0)), (.tmp 89)], (some (87, false)), 0⟩,
    ⟨(some 91), .pick (.tmp 87) (.const (.bool true)) (.tmp 90), none, 0⟩,
    ⟨(some 4), .move (.tmp 91), none, 0⟩] false) (.ret)) (.seq (.ops [⟨(some 93), .bin .eql (.tmp 50) (.const (.int .i64 6)), none, 0⟩,
    ⟨(some 92), .move (.tmp 93), none, 0⟩] false) (.cond (.tmp 92) (.seq (.ops [⟨(some 94), .load1 (.tmp 11), none, 0⟩,
    ⟨(some 95), .load1 (.tmp 9), none, 0⟩,
    ⟨(some 96), .callv (.tmp 94) [(.const (.int .i64 0)), (.tmp 95)], none, 0⟩,
    ⟨(some 97), .un .not (.tmp 96), none, 0⟩,
    ⟨(some 98), .move (.tmp 97), none, 0⟩,
    ⟨(some 99), .load1 (.tmp 11), (some (98, false)), 0⟩,
    ⟨(some 100), .load1 (.tmp 10), (some (98, false)), 0⟩,
    ⟨(some 101), .callv (.tmp 99) [(.const (.int .i64 0)), (.tmp 100)], (some (98, false)), 0⟩,
    ⟨(some 102), .pick (.tmp 98) (.const (.bool true)) (.tmp 101), none, 0⟩,
    ⟨(some 4), .move (.tmp 102), none, 0⟩] false) (.ret)) (.seq (.ops [⟨(some 104), .bin .eql (.tmp 50) (.const (.int .i64 7)), none, 0⟩,
    ⟨(some 103), .move (.tmp 104), none, 0⟩] false) (.cond (.tmp 103) (.seq (.ops [⟨(some 105), .load1 (.tmp 11), none, 0⟩,
    ⟨(some 106), .load1 (.tmp 9), none, 0⟩,
    ⟨(some 107), .callv (.tmp 105) [(.const (.int .i64 0)), (.tmp 106)], none, 3⟩,
    ⟨(some 108), .load1 (.tmp 11), none, 0⟩,
    ⟨(some 109), .load1 (.tmp 10), none, 0⟩,
    ⟨(some 110), .callv (.tmp 108) [(.const (.int .i64 0)), (.tmp 109)], none, 31⟩,
    ⟨(some 111), .eqb false (.tmp 107) (.tmp 110), none, 63⟩,
    ⟨(some 4), .move (.tmp 111), none, 127⟩] true) (.ret)) (.seq (.ops [⟨(some 113), .bin .eql (.tmp 50) (.const (.int .i64 13)), none, 0⟩,
    ⟨(some 112), .move (.tmp 113), none, 0⟩] false) (.cond (.tmp 112) (.seq (.ops [⟨(some 114), .load1 (.tmp 11), none, 0⟩,
    ⟨(some 115), .load1 (.tmp 9), none, 0⟩,
    ⟨(some 116), .callv (.tmp 114) [(.const (.int .i64 0)), (.tmp 115)], none, 0⟩,
    ⟨(some 117), .move (.tmp 116), none, 0⟩,
    ⟨(some 118), .load1 (.tmp 11), (some (117, true)), 0⟩,
    ⟨(some 119), .load1 (.tmp 10), (some (117, true)), 0⟩,
    ⟨(some 120), .callv (.tmp 118) [(.const (.int .i64 0)), (.tmp 119)], (some (117, true)), 0⟩,
    ⟨(some 121), .pick (.tmp 117) (.tmp 120) (.const (.bool false)), none, 0⟩,
    ⟨(some 122), .un .not (.tmp 121), none, 0⟩,
    ⟨(some 4), .move (.tmp 122), none, 0⟩] false) (.ret)) (.seq (.ops [⟨(some 124), .bin .eql (.tmp 50) (.const (.int .i64 8)), none, 0⟩,
    ⟨(some 123), .move (.tmp 124), none, 0⟩] false) (.cond (.tmp 123) (.seq (.ops [⟨(some 125), .move (.tmp 14), none, 0⟩,
    ⟨(some 126), .callv (.tmp 125) [], none, 0⟩,
    ⟨(some 4), .move (.tmp 126), none, 0⟩] false) (.ret)) (.seq (.ops [⟨(some 128), .bin .eql (.tmp 50) (.const (.int .i64 9)), none, 0⟩,
    ⟨(some 127), .move (.tmp 128), none, 0⟩] false) (.cond (.tmp 127) (.seq (.ops [⟨(some 129), .move (.tmp 15), none, 0⟩,
    ⟨(some 130), .callv (.tmp 129) [], none, 0⟩,
    ⟨(some 4), .move (.tmp 130), none, 0⟩] false) (.ret)) (.seq (.ops [⟨(some 132), .bin .eql (.tmp 50) (.const (.int .i64 10)), none, 0⟩,
    ⟨(some 131), .move (.tmp 132), none, 0⟩] false) (.cond (.tmp 131) (.seq (.ops [⟨(some 133), .move (.tmp 14), none, 0⟩,
    ⟨(some 134), .callv (.tmp 133) [], none, 0⟩,
    ⟨(some 135), .move (.tmp 134), none, 0⟩,
    ⟨(some 136), .move (.tmp 15), (some (135, true)), 0⟩,
    ⟨(some 137), .callv (.tmp 136) [], (some (135, true)), 0⟩,
    ⟨(some 138), .pick (.tmp 135) (.tmp 137) (.const (.bool false)), none, 0⟩,
    ⟨(some 4), .move (.tmp 138), none, 0⟩] false) (.ret)) (.skip))))))))))))))))))))))))) (.seq (.seq (.ops [⟨(some 17), .move (.const (.int .i64 0)), none, 0⟩] false) (.block 5 (.loop c30_3))) (.seq (.ops [⟨(some 4), .move (.const (.bool true)), none, 0⟩] false) (.ret))))))))))))))
set_option maxRecDepth 100000 in
theorem c30_ok : FunOK Try.prog 30 198 [.tmp 4] c30 := ⟨⟨Try.f30, Try.func30, rfl, by kernel_rfl, rfl, by kernel_rfl⟩⟩
set_option maxRecDepth 100000 in
theorem ref_Fits (kd a b ct : Int) (s l : List Int) (h : TW kd a b ct s l) : PCall Try.prog 30 [dtempl kd a b ct, dword s l]
    (.sc (.bool (refTB kd ct (snP s l) (seenP s l a) (seenP s l b) (s.length + l.length + 6 * l.length) (s.length + l.length)))) := by
  obtain ⟨hkd, ha, hb, hct⟩ := h.nums
  have hwl := (wchk_zero s l).1 h.word
  have h1 : s.length + l.length ≤ 60 := hwl.1
  have hl : 1 ≤ l.length := hwl.2
  have hSn := fun i hi => fi_seen s l hl h1 i hi
  have hA := fun i hi => fi_a s l hl h1 kd a b ct ha i hi
  have hB := fun i hi => fi_b s l hl h1 kd a b ct hb i hi
  have hfar : s.length + l.length + 6 * l.length ≤ 1000 := by omega
  have sA := fi_some (s.length + l.length + 6 * l.length) hfar 0 (by omega) (seenP s l a) _ [.ipt [seenF s l], .ipt (wcells s l), .ipt (tcells kd a b ct)] (by simp [PureL, Pure, wcells, pure_dlet2, tcells, pure_seenF]) (fun i hi => hA i hi)
  have sB := fun f hf => fi_some (s.length + l.length + 6 * l.length) hfar f hf (seenP s l b) _ [.ipt [seenF s l], .ipt (wcells s l), .ipt (tcells kd a b ct)] (by simp [PureL, Pure, wcells, pure_dlet2, tcells, pure_seenF]) (fun i hi => hB i hi)
  have hR := fi_resp s l hl h1 kd a b ct ha hb (s.length + l.length + 6 * l.length) (s.length + l.length) hfar (by omega)
  have hP := fi_pref s l hl h1 kd a b ct ha hb (s.length + l.length) (by omega)
  refine pcall_intro c30_ok (by simp) (by simp [PureL, Pure, pure_dtempl, pure_dword]) ?_ (by simp [Pure])
  generalize hfe : s.length + l.length + 6 * l.length = far at *
  have hn : s.length + l.length ≤ far := by omega
  generalize snP s l = sn at *
  generalize seenP s l a = A at *
  generalize seenP s l b = B at *
  generalize hRe : respB far (s.length + l.length) A B = vR at hR
  generalize hPe : prefB (s.length + l.length) A B = vP at hP
  unfold aF bF someF seenF tcells at *
  unfold dtempl
  (apply rd_sound; focus (repeat' constructor))
  ((conv=>whnf);repeat(refine And.intro rfl ?_;(conv=>whnf)))
  rw [List.length_map, List.length_map]
  (refine .inl ⟨by (unfold InR; rw [IntKind.wrap_i64]; omega), ?_⟩; ((conv=>whnf);repeat(refine And.intro rfl ?_;(conv=>whnf))))
  rw [show (s.length : Int) + (l.length : Int) = ((s.length + l.length : Nat) : Int) by omega, List.length_map]
  (refine .inl ⟨by (unfold InR; rw [IntKind.wrap_i64]; omega), ?_⟩; ((conv=>whnf);repeat(refine And.intro rfl ?_;(conv=>whnf))))
  (refine .inl ⟨by (unfold InR; rw [IntKind.wrap_i64]; omega), ?_⟩; ((conv=>whnf);repeat(refine And.intro rfl ?_;(conv=>whnf))))
  rw [show ((s.length + l.length : Nat) : Int) + 6 * (l.length : Int) = (far : Int) by omega]
  refine pwp_for [2, 5, 7, 8, 9, 10, 11] (fun k : Nat => [(12, .sc (.int .i64 ((cnt A 0 k : Nat) : Int))), (13, .sc (.int .i64 k))]) (fun _ => []) (fun k => k ≤ far) (fun k => far - k) 0 ?_
  ((conv=>whnf);repeat(refine And.intro rfl ?_;(conv=>whnf)))
  refine ⟨by omega, ⟨by rw [cnt_self]; rfl, by (repeat' (first | exact trivial | refine And.intro rfl ?_))⟩, rfl, ?_⟩
  rintro k hk
  have hcb := cntF_le A 0 k
  change cnt A 0 k ≤ k at hcb
  have e4 := cnt_succ (p := A) (Nat.zero_le k)
  ((conv=>whnf);repeat(refine And.intro rfl ?_;(conv=>whnf)))
  (apply rd_sound; focus (repeat' constructor))
  ((conv=>whnf);repeat(refine And.intro rfl ?_;(conv=>whnf)))
  (refine ifK_split (fun q0 => ?_) (fun q0 => ?_) <;> (rw [q0]; ((conv=>whnf);repeat(refine And.intro rfl ?_;(conv=>whnf)))))
  · have q0 : k < far := by ((try simp only [oo, reduceCtorEq] at *) <;> omega)
    (refine .inr (.inl ⟨_, _, (by (repeat' (first | exact Deep.refl _ | exact Deep.none _ | exact deep_row _ | exact DeepL.nil | exact DeepLL.nil | refine Deep.agg _ _ ?_ | refine Deep.tup _ _ ?_ | refine Deep.own _ _ _ _ _ _ _ _ rfl ?_ | refine Deep.loc _ _ _ _ _ rfl ?_ | refine Deep.ifc _ _ _ ?_ | refine Deep.fn _ _ _ _ _ ?_ ?_ | refine DeepL.cons _ _ _ _ ?_ ?_ | refine DeepLL.cons _ _ _ _ ?_ ?_))), (hA k (by omega)), rfl, ?_⟩); ((conv=>whnf);repeat(refine And.intro rfl ?_;(conv=>whnf))))
    cases p : A k
    · rw [p, if_neg (by decide), Nat.add_zero] at e4
      have e12 : D.sc (.int .i64 ((cnt A 0 k : Nat) : Int)) = D.sc (.int .i64 ((cnt A 0 (k + 1) : Nat) : Int)) := by rw [e4]; rfl
      ((conv=>whnf);repeat(refine And.intro rfl ?_;(conv=>whnf)))
      (refine .inl ⟨by (unfold InR; rw [IntKind.wrap_i64]; omega), ?_⟩; ((conv=>whnf);repeat(refine And.intro rfl ?_;(conv=>whnf))))
      exact ⟨k + 1, by omega, by dsimp only; omega, leB_envH ⟨e12, by (repeat' (first | exact trivial | refine And.intro rfl ?_))⟩ rfl⟩
    · rw [p, if_pos rfl] at e4
      have e12 : D.sc (.int .i64 (((cnt A 0 k : Nat) : Int) + 1)) = D.sc (.int .i64 ((cnt A 0 (k + 1) : Nat) : Int)) := by rw [e4]; rfl
      ((conv=>whnf);repeat(refine And.intro rfl ?_;(conv=>whnf)))
      (refine .inl ⟨by (unfold InR; rw [IntKind.wrap_i64]; omega), ?_⟩; ((conv=>whnf);repeat(refine And.intro rfl ?_;(conv=>whnf))))
      (refine .inl ⟨by (unfold InR; rw [IntKind.wrap_i64]; omega), ?_⟩; ((conv=>whnf);repeat(refine And.intro rfl ?_;(conv=>whnf))))
      exact ⟨k + 1, by omega, by dsimp only; omega, leB_envH ⟨e12, by (repeat' (first | exact trivial | refine And.intro rfl ?_))⟩ rfl⟩
  have q0 : k = far := by have : ¬ k < far := by ((try simp only [oo, reduceCtorEq] at *) <;> omega)
                          omega
  subst q0
  (refine ifK_split (fun k1 => ?_) (fun k1 => ?_) <;> (rw [k1]; ((conv=>whnf);repeat(refine And.intro rfl ?_;(conv=>whnf)))))
  · have k1 : kd = 1 := by ((try simp only [oo, reduceCtorEq] at *) <;> omega)
    subst k1
    refine deep_eq ?_
    unfold refTB
    rw [if_pos rfl]
  have k1 : ¬ kd = 1 := by ((try simp only [oo, reduceCtorEq] at *) <;> omega)
  (refine ifK_split (fun k2 => ?_) (fun k2 => ?_) <;> (rw [k2]; ((conv=>whnf);repeat(refine And.intro rfl ?_;(conv=>whnf)))))
  · have k2 : kd = 2 := by ((try simp only [oo, reduceCtorEq] at *) <;> omega)
    subst k2
    refine deep_eq ?_
    unfold refTB
    rw [if_neg (by omega), if_pos rfl]
  have k2 : ¬ kd = 2 := by ((try simp only [oo, reduceCtorEq] at *) <;> omega)
  (refine ifK_split (fun k3 => ?_) (fun k3 => ?_) <;> (rw [k3]; ((conv=>whnf);repeat(refine And.intro rfl ?_;(conv=>whnf)))))
  · have k3 : kd = 3 := by ((try simp only [oo, reduceCtorEq] at *) <;> omega)
    subst k3
    refine deep_eq ?_
    unfold refTB
    rw [if_neg (by omega), if_neg (by omega), if_pos rfl]
    rfl
  have k3 : ¬ kd = 3 := by ((try simp only [oo, reduceCtorEq] at *) <;> omega)
  (refine ifK_split (fun k4 => ?_) (fun k4 => ?_) <;> (rw [k4]; ((conv=>whnf);repeat(refine And.intro rfl ?_;(conv=>whnf)))))
  · have k4 : kd = 4 := by ((try simp only [oo, reduceCtorEq] at *) <;> omega)
    have eR : refTB kd ct sn A B k (s.length + l.length) = if fst sn (s.length + l.length) 0 < s.length + l.length then A (fst sn (s.length + l.length) 0) else true := by
      unfold refTB
      rw [if_neg k1, if_neg k2, if_neg k3, if_pos k4]
    rw [eR]
    refine pwp_for [5, 8, 9] (fun k : Nat => [(16, .sc (.int .i64 k))]) (fun _ => []) (fun k => k ≤ s.length + l.length ∧ ∀ j, 0 ≤ j → j < k → sn j = false) (fun k => s.length + l.length - k) 0 ?_
    ((conv=>whnf);repeat(refine And.intro rfl ?_;(conv=>whnf)))
    refine ⟨⟨by omega, fun j h1 h2 => by omega⟩, by (repeat' (first | exact trivial | refine And.intro rfl ?_)), rfl, ?_⟩
    rintro i ⟨hi, hno⟩
    ((conv=>whnf);repeat(refine And.intro rfl ?_;(conv=>whnf)))
    (apply rd_sound; focus (repeat' constructor))
    ((conv=>whnf);repeat(refine And.intro rfl ?_;(conv=>whnf)))
    (refine ifK_split (fun q4 => ?_) (fun q4 => ?_) <;> (rw [q4]; ((conv=>whnf);repeat(refine And.intro rfl ?_;(conv=>whnf)))))
    · have q4 : i < s.length + l.length := by ((try simp only [oo, reduceCtorEq] at *) <;> omega)
      (refine .inr (.inl ⟨_, _, (by (repeat' (first | exact Deep.refl _ | exact Deep.none _ | exact deep_row _ | exact DeepL.nil | exact DeepLL.nil | refine Deep.agg _ _ ?_ | refine Deep.tup _ _ ?_ | refine Deep.own _ _ _ _ _ _ _ _ rfl ?_ | refine Deep.loc _ _ _ _ _ rfl ?_ | refine Deep.ifc _ _ _ ?_ | refine Deep.fn _ _ _ _ _ ?_ ?_ | refine DeepL.cons _ _ _ _ ?_ ?_ | refine DeepLL.cons _ _ _ _ ?_ ?_))), (hSn i (by omega)), rfl, ?_⟩); ((conv=>whnf);repeat(refine And.intro rfl ?_;(conv=>whnf))))
      cases t : sn i
      · ((conv=>whnf);repeat(refine And.intro rfl ?_;(conv=>whnf)))
        (refine .inl ⟨by (unfold InR; rw [IntKind.wrap_i64]; omega), ?_⟩; ((conv=>whnf);repeat(refine And.intro rfl ?_;(conv=>whnf))))
        refine ⟨i + 1, ⟨by omega, fun j h1 h2 => ?_⟩, by dsimp only; omega, leB_envH (by (repeat' (first | exact trivial | refine And.intro rfl ?_))) rfl⟩
        by_cases e : j = i
        · subst e; exact t
        · exact hno j h1 (by omega)
      · have e1 : fst sn (s.length + l.length) 0 = i := fst_eq (Nat.zero_le _) hi hno (fun _ => t)
        rw [e1, if_pos q4]
        ((conv=>whnf);repeat(refine And.intro rfl ?_;(conv=>whnf)))
        (refine .inr (.inl ⟨_, _, (by (repeat' (first | exact Deep.refl _ | exact Deep.none _ | exact deep_row _ | exact DeepL.nil | exact DeepLL.nil | refine Deep.agg _ _ ?_ | refine Deep.tup _ _ ?_ | refine Deep.own _ _ _ _ _ _ _ _ rfl ?_ | refine Deep.loc _ _ _ _ _ rfl ?_ | refine Deep.ifc _ _ _ ?_ | refine Deep.fn _ _ _ _ _ ?_ ?_ | refine DeepL.cons _ _ _ _ ?_ ?_ | refine DeepLL.cons _ _ _ _ ?_ ?_))), (hA i (by omega)), rfl, ?_⟩); ((conv=>whnf);repeat(refine And.intro rfl ?_;(conv=>whnf))))
        exact .refl _
    · have q4 : i = s.length + l.length := by have : ¬ i < s.length + l.length := by ((try simp only [oo, reduceCtorEq] at *) <;> omega)
                                              omega
      have e1 : fst sn (s.length + l.length) 0 = i := fst_eq (Nat.zero_le _) hi hno (fun q => by omega)
      rw [e1, if_neg (by omega)]
      exact .refl _
  have k4 : ¬ kd = 4 := by ((try simp only [oo, reduceCtorEq] at *) <;> omega)
  have sB0 := sB 0 (by omega)
  (refine ifK_split (fun k5 => ?_) (fun k5 => ?_) <;> (rw [k5]; ((conv=>whnf);repeat(refine And.intro rfl ?_;(conv=>whnf)))))
  · have k5 : kd = 5 := by ((try simp only [oo, reduceCtorEq] at *) <;> omega)
    have eR : refTB kd ct sn A B k (s.length + l.length) = (someB k 0 A || someB k 0 B) := by
      unfold refTB
      rw [if_neg k1, if_neg k2, if_neg k3, if_neg k4, if_pos k5]
    rw [eR]
    (refine .inr (.inl ⟨_, _, (by (repeat' (first | exact Deep.refl _ | exact Deep.none _ | exact deep_row _ | exact DeepL.nil | exact DeepLL.nil | refine Deep.agg _ _ ?_ | refine Deep.tup _ _ ?_ | refine Deep.own _ _ _ _ _ _ _ _ rfl ?_ | refine Deep.loc _ _ _ _ _ rfl ?_ | refine Deep.ifc _ _ _ ?_ | refine Deep.fn _ _ _ _ _ ?_ ?_ | refine DeepL.cons _ _ _ _ ?_ ?_ | refine DeepLL.cons _ _ _ _ ?_ ?_))), sA, rfl, ?_⟩); ((conv=>whnf);repeat(refine And.intro rfl ?_;(conv=>whnf))))
    generalize someB k 0 A = vA at *
    generalize someB k 0 B = vB at *
    cases vA
    · ((conv=>whnf);repeat(refine And.intro rfl ?_;(conv=>whnf)))
      (refine .inr (.inl ⟨_, _, (by (repeat' (first | exact Deep.refl _ | exact Deep.none _ | exact deep_row _ | exact DeepL.nil | exact DeepLL.nil | refine Deep.agg _ _ ?_ | refine Deep.tup _ _ ?_ | refine Deep.own _ _ _ _ _ _ _ _ rfl ?_ | refine Deep.loc _ _ _ _ _ rfl ?_ | refine Deep.ifc _ _ _ ?_ | refine Deep.fn _ _ _ _ _ ?_ ?_ | refine DeepL.cons _ _ _ _ ?_ ?_ | refine DeepLL.cons _ _ _ _ ?_ ?_))), sB0, rfl, ?_⟩); ((conv=>whnf);repeat(refine And.intro rfl ?_;(conv=>whnf))))
      exact .refl _
    · ((conv=>whnf);repeat(refine And.intro rfl ?_;(conv=>whnf)))
      exact .refl _
  have k5 : ¬ kd = 5 := by ((try simp only [oo, reduceCtorEq] at *) <;> omega)
  (refine ifK_split (fun k6 => ?_) (fun k6 => ?_) <;> (rw [k6]; ((conv=>whnf);repeat(refine And.intro rfl ?_;(conv=>whnf)))))
  · have k6 : kd = 6 := by ((try simp only [oo, reduceCtorEq] at *) <;> omega)
    have eR : refTB kd ct sn A B k (s.length + l.length) = (!someB k 0 A || someB k 0 B) := by
      unfold refTB
      rw [if_neg k1, if_neg k2, if_neg k3, if_neg k4, if_neg k5, if_pos k6]
    rw [eR]
    (refine .inr (.inl ⟨_, _, (by (repeat' (first | exact Deep.refl _ | exact Deep.none _ | exact deep_row _ | exact DeepL.nil | exact DeepLL.nil | refine Deep.agg _ _ ?_ | refine Deep.tup _ _ ?_ | refine Deep.own _ _ _ _ _ _ _ _ rfl ?_ | refine Deep.loc _ _ _ _ _ rfl ?_ | refine Deep.ifc _ _ _ ?_ | refine Deep.fn _ _ _ _ _ ?_ ?_ | refine DeepL.cons _ _ _ _ ?_ ?_ | refine DeepLL.cons _ _ _ _ ?_ ?_))), sA, rfl, ?_⟩); ((conv=>whnf);repeat(refine And.intro rfl ?_;(conv=>whnf))))
    generalize someB k 0 A = vA at *
    generalize someB k 0 B = vB at *
    cases vA
    · ((conv=>whnf);repeat(refine And.intro rfl ?_;(conv=>whnf)))
      exact .refl _
    · ((conv=>whnf);repeat(refine And.intro rfl ?_;(conv=>whnf)))
      (refine .inr (.inl ⟨_, _, (by (repeat' (first | exact Deep.refl _ | exact Deep.none _ | exact deep_row _ | exact DeepL.nil | exact DeepLL.nil | refine Deep.agg _ _ ?_ | refine Deep.tup _ _ ?_ | refine Deep.own _ _ _ _ _ _ _ _ rfl ?_ | refine Deep.loc _ _ _ _ _ rfl ?_ | refine Deep.ifc _ _ _ ?_ | refine Deep.fn _ _ _ _ _ ?_ ?_ | refine DeepL.cons _ _ _ _ ?_ ?_ | refine DeepLL.cons _ _ _ _ ?_ ?_))), sB0, rfl, ?_⟩); ((conv=>whnf);repeat(refine And.intro rfl ?_;(conv=>whnf))))
      exact .refl _
  have k6 : ¬ kd = 6 := by ((try simp only [oo, reduceCtorEq] at *) <;> omega)
  (refine ifK_split (fun k7 => ?_) (fun k7 => ?_) <;> (rw [k7]; ((conv=>whnf);repeat(refine And.intro rfl ?_;(conv=>whnf)))))
  · have k7 : kd = 7 := by ((try simp only [oo, reduceCtorEq] at *) <;> omega)
    have eR : refTB kd ct sn A B k (s.length + l.length) = (someB k 0 A == someB k 0 B) := by
      unfold refTB
      rw [if_neg k1, if_neg k2, if_neg k3, if_neg k4, if_neg k5, if_neg k6, if_pos k7]
    rw [eR]
    generalize someB k 0 A = vA at *
    generalize someB k 0 B = vB at *
    (refine .inr (.inl ⟨_, _, (by (repeat' (first | exact Deep.refl _ | exact Deep.none _ | exact deep_row _ | exact DeepL.nil | exact DeepLL.nil | refine Deep.agg _ _ ?_ | refine Deep.tup _ _ ?_ | refine Deep.own _ _ _ _ _ _ _ _ rfl ?_ | refine Deep.loc _ _ _ _ _ rfl ?_ | refine Deep.ifc _ _ _ ?_ | refine Deep.fn _ _ _ _ _ ?_ ?_ | refine DeepL.cons _ _ _ _ ?_ ?_ | refine DeepLL.cons _ _ _ _ ?_ ?_))), sA, rfl, ?_⟩); ((conv=>whnf);repeat(refine And.intro rfl ?_;(conv=>whnf))))
    (refine .inr (.inl ⟨_, _, (by (repeat' (first | exact Deep.refl _ | exact Deep.none _ | exact deep_row _ | exact DeepL.nil | exact DeepLL.nil | refine Deep.agg _ _ ?_ | refine Deep.tup _ _ ?_ | refine Deep.own _ _ _ _ _ _ _ _ rfl ?_ | refine Deep.loc _ _ _ _ _ rfl ?_ | refine Deep.ifc _ _ _ ?_ | refine Deep.fn _ _ _ _ _ ?_ ?_ | refine DeepL.cons _ _ _ _ ?_ ?_ | refine DeepLL.cons _ _ _ _ ?_ ?_))), sB0, rfl, ?_⟩); ((conv=>whnf);repeat(refine And.intro rfl ?_;(conv=>whnf))))
    exact .refl _
  have k7 : ¬ kd = 7 := by ((try simp only [oo, reduceCtorEq] at *) <;> omega)
  (refine ifK_split (fun k13 => ?_) (fun k13 => ?_) <;> (rw [k13]; ((conv=>whnf);repeat(refine And.intro rfl ?_;(conv=>whnf)))))
  · have k13 : kd = 13 := by ((try simp only [oo, reduceCtorEq] at *) <;> omega)
    have eR : refTB kd ct sn A B k (s.length + l.length) = !(someB k 0 A && someB k 0 B) := by
      unfold refTB
      rw [if_neg k1, if_neg k2, if_neg k3, if_neg k4, if_neg k5, if_neg k6, if_neg k7, if_pos k13]
    rw [eR]
    generalize someB k 0 A = vA at *
    generalize someB k 0 B = vB at *
    (refine .inr (.inl ⟨_, _, (by (repeat' (first | exact Deep.refl _ | exact Deep.none _ | exact deep_row _ | exact DeepL.nil | exact DeepLL.nil | refine Deep.agg _ _ ?_ | refine Deep.tup _ _ ?_ | refine Deep.own _ _ _ _ _ _ _ _ rfl ?_ | refine Deep.loc _ _ _ _ _ rfl ?_ | refine Deep.ifc _ _ _ ?_ | refine Deep.fn _ _ _ _ _ ?_ ?_ | refine DeepL.cons _ _ _ _ ?_ ?_ | refine DeepLL.cons _ _ _ _ ?_ ?_))), sA, rfl, ?_⟩); ((conv=>whnf);repeat(refine And.intro rfl ?_;(conv=>whnf))))
    cases vA
    · ((conv=>whnf);repeat(refine And.intro rfl ?_;(conv=>whnf)))
      exact .refl _
    · ((conv=>whnf);repeat(refine And.intro rfl ?_;(conv=>whnf)))
      (refine .inr (.inl ⟨_, _, (by (repeat' (first | exact Deep.refl _ | exact Deep.none _ | exact deep_row _ | exact DeepL.nil | exact DeepLL.nil | refine Deep.agg _ _ ?_ | refine Deep.tup _ _ ?_ | refine Deep.own _ _ _ _ _ _ _ _ rfl ?_ | refine Deep.loc _ _ _ _ _ rfl ?_ | refine Deep.ifc _ _ _ ?_ | refine Deep.fn _ _ _ _ _ ?_ ?_ | refine DeepL.cons _ _ _ _ ?_ ?_ | refine DeepLL.cons _ _ _ _ ?_ ?_))), sB0, rfl, ?_⟩); ((conv=>whnf);repeat(refine And.intro rfl ?_;(conv=>whnf))))
      exact .refl _
  have k13 : ¬ kd = 13 := by ((try simp only [oo, reduceCtorEq] at *) <;> omega)
  (refine ifK_split (fun k8 => ?_) (fun k8 => ?_) <;> (rw [k8]; ((conv=>whnf);repeat(refine And.intro rfl ?_;(conv=>whnf)))))
  · have k8 : kd = 8 := by ((try simp only [oo, reduceCtorEq] at *) <;> omega)
    have eR : refTB kd ct sn A B k (s.length + l.length) = respB k (s.length + l.length) A B := by
      unfold refTB
      rw [if_neg k1, if_neg k2, if_neg k3, if_neg k4, if_neg k5, if_neg k6, if_neg k7, if_neg k13, if_pos k8]
    rw [eR, hRe]
    (refine .inr (.inl ⟨_, _, (by (repeat' (first | exact Deep.refl _ | exact Deep.none _ | exact deep_row _ | exact DeepL.nil | exact DeepLL.nil | refine Deep.agg _ _ ?_ | refine Deep.tup _ _ ?_ | refine Deep.own _ _ _ _ _ _ _ _ rfl ?_ | refine Deep.loc _ _ _ _ _ rfl ?_ | refine Deep.ifc _ _ _ ?_ | refine Deep.fn _ _ _ _ _ ?_ ?_ | refine DeepL.cons _ _ _ _ ?_ ?_ | refine DeepLL.cons _ _ _ _ ?_ ?_))), hR, rfl, ?_⟩); ((conv=>whnf);repeat(refine And.intro rfl ?_;(conv=>whnf))))
    exact .refl _
  have k8 : ¬ kd = 8 := by ((try simp only [oo, reduceCtorEq] at *) <;> omega)
  (refine ifK_split (fun k9 => ?_) (fun k9 => ?_) <;> (rw [k9]; ((conv=>whnf);repeat(refine And.intro rfl ?_;(conv=>whnf)))))
  · have k9 : kd = 9 := by ((try simp only [oo, reduceCtorEq] at *) <;> omega)
    have eR : refTB kd ct sn A B k (s.length + l.length) = prefB (s.length + l.length) A B := by
      unfold refTB
      rw [if_neg k1, if_neg k2, if_neg k3, if_neg k4, if_neg k5, if_neg k6, if_neg k7, if_neg k13, if_neg k8, if_pos k9]
    rw [eR, hPe]
    (refine .inr (.inl ⟨_, _, (by (repeat' (first | exact Deep.refl _ | exact Deep.none _ | exact deep_row _ | exact DeepL.nil | exact DeepLL.nil | refine Deep.agg _ _ ?_ | refine Deep.tup _ _ ?_ | refine Deep.own _ _ _ _ _ _ _ _ rfl ?_ | refine Deep.loc _ _ _ _ _ rfl ?_ | refine Deep.ifc _ _ _ ?_ | refine Deep.fn _ _ _ _ _ ?_ ?_ | refine DeepL.cons _ _ _ _ ?_ ?_ | refine DeepLL.cons _ _ _ _ ?_ ?_))), hP, rfl, ?_⟩); ((conv=>whnf);repeat(refine And.intro rfl ?_;(conv=>whnf))))
    exact .refl _
  have k9 : ¬ kd = 9 := by ((try simp only [oo, reduceCtorEq] at *) <;> omega)
  (refine ifK_split (fun k10 => ?_) (fun k10 => ?_) <;> (rw [k10]; ((conv=>whnf);repeat(refine And.intro rfl ?_;(conv=>whnf)))))
  · have k10 : kd = 10 := by ((try simp only [oo, reduceCtorEq] at *) <;> omega)
    have eR : refTB kd ct sn A B k (s.length + l.length) = (respB k (s.length + l.length) A B && prefB (s.length + l.length) A B) := by
      unfold refTB
      rw [if_neg k1, if_neg k2, if_neg k3, if_neg k4, if_neg k5, if_neg k6, if_neg k7, if_neg k13, if_neg k8, if_neg k9, if_pos k10]
    rw [eR, hRe, hPe]
    (refine .inr (.inl ⟨_, _, (by (repeat' (first | exact Deep.refl _ | exact Deep.none _ | exact deep_row _ | exact DeepL.nil | exact DeepLL.nil | refine Deep.agg _ _ ?_ | refine Deep.tup _ _ ?_ | refine Deep.own _ _ _ _ _ _ _ _ rfl ?_ | refine Deep.loc _ _ _ _ _ rfl ?_ | refine Deep.ifc _ _ _ ?_ | refine Deep.fn _ _ _ _ _ ?_ ?_ | refine DeepL.cons _ _ _ _ ?_ ?_ | refine DeepLL.cons _ _ _ _ ?_ ?_))), hR, rfl, ?_⟩); ((conv=>whnf);repeat(refine And.intro rfl ?_;(conv=>whnf))))
    cases vR
    · ((conv=>whnf);repeat(refine And.intro rfl ?_;(conv=>whnf)))
      exact .refl _
    · ((conv=>whnf);repeat(refine And.intro rfl ?_;(conv=>whnf)))
      (refine .inr (.inl ⟨_, _, (by (repeat' (first | exact Deep.refl _ | exact Deep.none _ | exact deep_row _ | exact DeepL.nil | exact DeepLL.nil | refine Deep.agg _ _ ?_ | refine Deep.tup _ _ ?_ | refine Deep.own _ _ _ _ _ _ _ _ rfl ?_ | refine Deep.loc _ _ _ _ _ rfl ?_ | refine Deep.ifc _ _ _ ?_ | refine Deep.fn _ _ _ _ _ ?_ ?_ | refine DeepL.cons _ _ _ _ ?_ ?_ | refine DeepLL.cons _ _ _ _ ?_ ?_))), hP, rfl, ?_⟩); ((conv=>whnf);repeat(refine And.intro rfl ?_;(conv=>whnf))))
      exact .refl _
  have k10 : ¬ kd = 10 := by ((try simp only [oo, reduceCtorEq] at *) <;> omega)
  rw [refTB_last (kd := kd) (ct := ct) (by omega)]
  clear hR hP hRe hPe sA sB0
  refine pwp_for [2, 5, 7, 8, 9, 10, 11] (fun i : Nat => [(17, .sc (.int .i64 i))]) (fun _ => []) (fun i => i ≤ s.length + l.length ∧ (List.range i).all (lastB kd k sn A B) = true) (fun i => s.length + l.length - i) 0 ?_
  ((conv=>whnf);repeat(refine And.intro rfl ?_;(conv=>whnf)))
  refine ⟨⟨by omega, rfl⟩, by (repeat' (first | exact trivial | refine And.intro rfl ?_)), rfl, ?_⟩
  rintro i ⟨hi, hall⟩
  have e1 := lastB_succ kd k i sn A B
  rw [hall, Bool.true_and] at e1
  ((conv=>whnf);repeat(refine And.intro rfl ?_;(conv=>whnf)))
  (apply rd_sound; focus (repeat' constructor))
  ((conv=>whnf);repeat(refine And.intro rfl ?_;(conv=>whnf)))
  (refine ifK_split (fun i0 => ?_) (fun i0 => ?_) <;> (rw [i0]; ((conv=>whnf);repeat(refine And.intro rfl ?_;(conv=>whnf)))))
  · have i0 : i < s.length + l.length := by ((try simp only [oo, reduceCtorEq] at *) <;> omega)
    have efl := lastB_false (kd := kd) (far := k) (sn := sn) (A := A) (B := B) i0
    (refine .inr (.inl ⟨_, _, (by (repeat' (first | exact Deep.refl _ | exact Deep.none _ | exact deep_row _ | exact DeepL.nil | exact DeepLL.nil | refine Deep.agg _ _ ?_ | refine Deep.tup _ _ ?_ | refine Deep.own _ _ _ _ _ _ _ _ rfl ?_ | refine Deep.loc _ _ _ _ _ rfl ?_ | refine Deep.ifc _ _ _ ?_ | refine Deep.fn _ _ _ _ _ ?_ ?_ | refine DeepL.cons _ _ _ _ ?_ ?_ | refine DeepLL.cons _ _ _ _ ?_ ?_))), (hA i (by omega)), rfl, ?_⟩); ((conv=>whnf);repeat(refine And.intro rfl ?_;(conv=>whnf))))
    cases r : A i
    · have eL : lastB kd k sn A B i = true := by unfold lastB; rw [r]; rfl
      ((conv=>whnf);repeat(refine And.intro rfl ?_;(conv=>whnf)))
      (refine .inl ⟨by (unfold InR; rw [IntKind.wrap_i64]; omega), ?_⟩; ((conv=>whnf);repeat(refine And.intro rfl ?_;(conv=>whnf))))
      exact ⟨i + 1, ⟨by omega, by rw [e1, eL]⟩, by dsimp only; omega, leB_envH (by (repeat' (first | exact trivial | refine And.intro rfl ?_))) rfl⟩
    · ((conv=>whnf);repeat(refine And.intro rfl ?_;(conv=>whnf)))
      (refine ifK_split (fun k14 => ?_) (fun k14 => ?_) <;> (rw [k14]; ((conv=>whnf);repeat(refine And.intro rfl ?_;(conv=>whnf)))))
      · have k14 : kd = 14 := by ((try simp only [oo, reduceCtorEq] at *) <;> omega)
        have eL : lastB kd k sn A B i = !someB k (i + 1) B := by unfold lastB; rw [r, if_pos k14]; rfl
        (refine .inl ⟨by (unfold InR; rw [IntKind.wrap_i64]; omega), ?_⟩; ((conv=>whnf);repeat(refine And.intro rfl ?_;(conv=>whnf))))
        (refine .inr (.inl ⟨_, _, (by (repeat' (first | exact Deep.refl _ | exact Deep.none _ | exact deep_row _ | exact DeepL.nil | exact DeepLL.nil | refine Deep.agg _ _ ?_ | refine Deep.tup _ _ ?_ | refine Deep.own _ _ _ _ _ _ _ _ rfl ?_ | refine Deep.loc _ _ _ _ _ rfl ?_ | refine Deep.ifc _ _ _ ?_ | refine Deep.fn _ _ _ _ _ ?_ ?_ | refine DeepL.cons _ _ _ _ ?_ ?_ | refine DeepLL.cons _ _ _ _ ?_ ?_))), (sB (i + 1) (by omega)), rfl, ?_⟩); ((conv=>whnf);repeat(refine And.intro rfl ?_;(conv=>whnf))))
        cases r2 : someB k (i + 1) B
        · rw [r2] at eL
          ((conv=>whnf);repeat(refine And.intro rfl ?_;(conv=>whnf)))
          (refine .inl ⟨by (unfold InR; rw [IntKind.wrap_i64]; omega), ?_⟩; ((conv=>whnf);repeat(refine And.intro rfl ?_;(conv=>whnf))))
          exact ⟨i + 1, ⟨by omega, by rw [e1, eL]; rfl⟩, by dsimp only; omega, leB_envH (by (repeat' (first | exact trivial | refine And.intro rfl ?_))) rfl⟩
        · rw [r2] at eL
          ((conv=>whnf);repeat(refine And.intro rfl ?_;(conv=>whnf)))
          rw [efl eL]
          exact .refl _
      have k14 : ¬ kd = 14 := by ((try simp only [oo, reduceCtorEq] at *) <;> omega)
      (refine .inl ⟨by (unfold InR; rw [IntKind.wrap_i64]; omega), ?_⟩; ((conv=>whnf);repeat(refine And.intro rfl ?_;(conv=>whnf))))
      have eL : lastB kd k sn A B i = (decide (nextR kd k sn A B i < k) && B (nextR kd k sn A B i)) := by unfold lastB; rw [r, if_neg k14]; rfl
      obtain ⟨N, hN⟩ : ∃ N : Nat → Bool, N = fun k => if kd = 12 then sn k else if kd = 11 then A k || B k else false := ⟨_, rfl⟩
      have eN : nextR kd k sn A B i = fst N k (i + 1) := by rw [hN]; rfl
      have fin : ∀ j, i + 1 ≤ j → j ≤ k → (∀ t, i + 1 ≤ t → t < j → N t = false) → (j < k → N j = true) → lastB kd k sn A B i = (decide (j < k) && B j) := fun j h1 h2 h3 h4 => by
        rw [eL, eN, fst_eq h1 h2 h3 h4]
      have hN1 := fun t => congrFun hN t
      clear hN eN eL
      refine pwp_for [2, 5, 7, 8, 9, 10, 11, 17] (fun j : Nat => [(18, .sc (.int .i64 j))]) (fun _ => []) (fun j => i + 1 ≤ j ∧ j ≤ k ∧ ∀ t, i + 1 ≤ t → t < j → N t = false) (fun j => k - j) (i + 1) ?_
      ((conv=>whnf);repeat(refine And.intro rfl ?_;(conv=>whnf)))
      refine ⟨⟨by omega, by omega, fun t h1 h2 => by omega⟩, by (repeat' (first | exact trivial | refine And.intro rfl ?_)), rfl, ?_⟩
      rintro j ⟨hj1, hj, hno⟩
      have hNj := hN1 j
      ((conv=>whnf);repeat(refine And.intro rfl ?_;(conv=>whnf)))
      (apply rd_sound; focus (repeat' constructor))
      ((conv=>whnf);repeat(refine And.intro rfl ?_;(conv=>whnf)))
      (refine ifK_split (fun j0 => ?_) (fun j0 => ?_) <;> (rw [j0]; ((conv=>whnf);repeat(refine And.intro rfl ?_;(conv=>whnf)))))
      · have j0 : j < k := by ((try simp only [oo, reduceCtorEq] at *) <;> omega)
        (refine ifK_split (fun k12 => ?_) (fun k12 => ?_) <;> (rw [k12]; ((conv=>whnf);repeat(refine And.intro rfl ?_;(conv=>whnf)))))
        · have k12 : kd = 12 := by ((try simp only [oo, reduceCtorEq] at *) <;> omega)
          simp only [if_pos k12] at hNj
          (refine .inr (.inl ⟨_, _, (by (repeat' (first | exact Deep.refl _ | exact Deep.none _ | exact deep_row _ | exact DeepL.nil | exact DeepLL.nil | refine Deep.agg _ _ ?_ | refine Deep.tup _ _ ?_ | refine Deep.own _ _ _ _ _ _ _ _ rfl ?_ | refine Deep.loc _ _ _ _ _ rfl ?_ | refine Deep.ifc _ _ _ ?_ | refine Deep.fn _ _ _ _ _ ?_ ?_ | refine DeepL.cons _ _ _ _ ?_ ?_ | refine DeepLL.cons _ _ _ _ ?_ ?_))), (hSn j (by omega)), rfl, ?_⟩); ((conv=>whnf);repeat(refine And.intro rfl ?_;(conv=>whnf))))
          cases r2 : sn j
          · rw [r2] at hNj
            ((conv=>whnf);repeat(refine And.intro rfl ?_;(conv=>whnf)))
            (refine ifK_split (fun k11 => ?_) (fun k11 => ?_) <;> (rw [k11]; ((conv=>whnf);repeat(refine And.intro rfl ?_;(conv=>whnf)))))
            · exfalso; ((try simp only [oo, reduceCtorEq] at *) <;> omega)
            · have := 0
              ((conv=>whnf);repeat(refine And.intro rfl ?_;(conv=>whnf)))
              (refine .inl ⟨by (unfold InR; rw [IntKind.wrap_i64]; omega), ?_⟩; ((conv=>whnf);repeat(refine And.intro rfl ?_;(conv=>whnf))))
              refine ⟨j + 1, ⟨by omega, by omega, fun t h1 h2 => ?_⟩, by dsimp only; omega, leB_envH (by (repeat' (first | exact trivial | refine And.intro rfl ?_))) rfl⟩
              by_cases e : t = j
              · subst e; exact hNj
              · exact hno t h1 (by omega)
          · rw [r2] at hNj
            have f1 := fin j hj1 hj hno (fun _ => hNj)
            rw [decide_eq_true j0, Bool.true_and] at f1
            ((conv=>whnf);repeat(refine And.intro rfl ?_;(conv=>whnf)))
            (refine ifK_split (fun j1 => ?_) (fun j1 => ?_) <;> (rw [j1]; ((conv=>whnf);repeat(refine And.intro rfl ?_;(conv=>whnf)))))
            · exfalso; ((try simp only [oo, reduceCtorEq] at *) <;> omega)
            (refine .inr (.inl ⟨_, _, (by (repeat' (first | exact Deep.refl _ | exact Deep.none _ | exact deep_row _ | exact DeepL.nil | exact DeepLL.nil | refine Deep.agg _ _ ?_ | refine Deep.tup _ _ ?_ | refine Deep.own _ _ _ _ _ _ _ _ rfl ?_ | refine Deep.loc _ _ _ _ _ rfl ?_ | refine Deep.ifc _ _ _ ?_ | refine Deep.fn _ _ _ _ _ ?_ ?_ | refine DeepL.cons _ _ _ _ ?_ ?_ | refine DeepLL.cons _ _ _ _ ?_ ?_))), (hB j (by omega)), rfl, ?_⟩); ((conv=>whnf);repeat(refine And.intro rfl ?_;(conv=>whnf))))
            cases r3 : B j
            · rw [r3] at f1
              ((conv=>whnf);repeat(refine And.intro rfl ?_;(conv=>whnf)))
              rw [efl f1]
              exact .refl _
            · rw [r3] at f1
              ((conv=>whnf);repeat(refine And.intro rfl ?_;(conv=>whnf)))
              (refine .inl ⟨by (unfold InR; rw [IntKind.wrap_i64]; omega), ?_⟩; ((conv=>whnf);repeat(refine And.intro rfl ?_;(conv=>whnf))))
              exact ⟨i + 1, ⟨by omega, by rw [e1, f1]⟩, by dsimp only; omega, leB_envH (by (repeat' (first | exact trivial | refine And.intro rfl ?_))) rfl⟩
        · have k12 : ¬ kd = 12 := by ((try simp only [oo, reduceCtorEq] at *) <;> omega)
          have k11 : kd = 11 := by omega
          simp only [if_neg k12, if_pos k11] at hNj
          (refine ifK_split (fun k11' => ?_) (fun k11' => ?_) <;> (rw [k11']; ((conv=>whnf);repeat(refine And.intro rfl ?_;(conv=>whnf)))))
          · (refine .inr (.inl ⟨_, _, (by (repeat' (first | exact Deep.refl _ | exact Deep.none _ | exact deep_row _ | exact DeepL.nil | exact DeepLL.nil | refine Deep.agg _ _ ?_ | refine Deep.tup _ _ ?_ | refine Deep.own _ _ _ _ _ _ _ _ rfl ?_ | refine Deep.loc _ _ _ _ _ rfl ?_ | refine Deep.ifc _ _ _ ?_ | refine Deep.fn _ _ _ _ _ ?_ ?_ | refine DeepL.cons _ _ _ _ ?_ ?_ | refine DeepLL.cons _ _ _ _ ?_ ?_))), (hA j (by omega)), rfl, ?_⟩); ((conv=>whnf);repeat(refine And.intro rfl ?_;(conv=>whnf))))
            cases r2 : A j
            · rw [r2] at hNj
              ((conv=>whnf);repeat(refine And.intro rfl ?_;(conv=>whnf)))
              (refine .inr (.inl ⟨_, _, (by (repeat' (first | exact Deep.refl _ | exact Deep.none _ | exact deep_row _ | exact DeepL.nil | exact DeepLL.nil | refine Deep.agg _ _ ?_ | refine Deep.tup _ _ ?_ | refine Deep.own _ _ _ _ _ _ _ _ rfl ?_ | refine Deep.loc _ _ _ _ _ rfl ?_ | refine Deep.ifc _ _ _ ?_ | refine Deep.fn _ _ _ _ _ ?_ ?_ | refine DeepL.cons _ _ _ _ ?_ ?_ | refine DeepLL.cons _ _ _ _ ?_ ?_))), (hB j (by omega)), rfl, ?_⟩); ((conv=>whnf);repeat(refine And.intro rfl ?_;(conv=>whnf))))
              cases r4 : B j
              · rw [r4] at hNj
                ((conv=>whnf);repeat(refine And.intro rfl ?_;(conv=>whnf)))
                (refine .inl ⟨by (unfold InR; rw [IntKind.wrap_i64]; omega), ?_⟩; ((conv=>whnf);repeat(refine And.intro rfl ?_;(conv=>whnf))))
                refine ⟨j + 1, ⟨by omega, by omega, fun t h1 h2 => ?_⟩, by dsimp only; omega, leB_envH (by (repeat' (first | exact trivial | refine And.intro rfl ?_))) rfl⟩
                by_cases e : t = j
                · subst e; exact hNj
                · exact hno t h1 (by omega)
              · rw [r4] at hNj
                have f1 := fin j hj1 hj hno (fun _ => hNj)
                rw [decide_eq_true j0, Bool.true_and] at f1
                ((conv=>whnf);repeat(refine And.intro rfl ?_;(conv=>whnf)))
                (refine ifK_split (fun j1 => ?_) (fun j1 => ?_) <;> (rw [j1]; ((conv=>whnf);repeat(refine And.intro rfl ?_;(conv=>whnf)))))
                · exfalso; ((try simp only [oo, reduceCtorEq] at *) <;> omega)
                (refine .inr (.inl ⟨_, _, (by (repeat' (first | exact Deep.refl _ | exact Deep.none _ | exact deep_row _ | exact DeepL.nil | exact DeepLL.nil | refine Deep.agg _ _ ?_ | refine Deep.tup _ _ ?_ | refine Deep.own _ _ _ _ _ _ _ _ rfl ?_ | refine Deep.loc _ _ _ _ _ rfl ?_ | refine Deep.ifc _ _ _ ?_ | refine Deep.fn _ _ _ _ _ ?_ ?_ | refine DeepL.cons _ _ _ _ ?_ ?_ | refine DeepLL.cons _ _ _ _ ?_ ?_))), (hB j (by omega)), rfl, ?_⟩); ((conv=>whnf);repeat(refine And.intro rfl ?_;(conv=>whnf))))
                cases r3 : B j
                · rw [r3] at f1
                  ((conv=>whnf);repeat(refine And.intro rfl ?_;(conv=>whnf)))
                  rw [efl f1]
                  exact .refl _
                · rw [r3] at f1
                  ((conv=>whnf);repeat(refine And.intro rfl ?_;(conv=>whnf)))
                  (refine .inl ⟨by (unfold InR; rw [IntKind.wrap_i64]; omega), ?_⟩; ((conv=>whnf);repeat(refine And.intro rfl ?_;(conv=>whnf))))
                  exact ⟨i + 1, ⟨by omega, by rw [e1, f1]⟩, by dsimp only; omega, leB_envH (by (repeat' (first | exact trivial | refine And.intro rfl ?_))) rfl⟩
            · rw [r2] at hNj
              have f1 := fin j hj1 hj hno (fun _ => hNj)
              rw [decide_eq_true j0, Bool.true_and] at f1
              ((conv=>whnf);repeat(refine And.intro rfl ?_;(conv=>whnf)))
              (refine ifK_split (fun j1 => ?_) (fun j1 => ?_) <;> (rw [j1]; ((conv=>whnf);repeat(refine And.intro rfl ?_;(conv=>whnf)))))
              · exfalso; ((try simp only [oo, reduceCtorEq] at *) <;> omega)
              (refine .inr (.inl ⟨_, _, (by (repeat' (first | exact Deep.refl _ | exact Deep.none _ | exact deep_row _ | exact DeepL.nil | exact DeepLL.nil | refine Deep.agg _ _ ?_ | refine Deep.tup _ _ ?_ | refine Deep.own _ _ _ _ _ _ _ _ rfl ?_ | refine Deep.loc _ _ _ _ _ rfl ?_ | refine Deep.ifc _ _ _ ?_ | refine Deep.fn _ _ _ _ _ ?_ ?_ | refine DeepL.cons _ _ _ _ ?_ ?_ | refine DeepLL.cons _ _ _ _ ?_ ?_))), (hB j (by omega)), rfl, ?_⟩); ((conv=>whnf);repeat(refine And.intro rfl ?_;(conv=>whnf))))
              cases r3 : B j
              · rw [r3] at f1
                ((conv=>whnf);repeat(refine And.intro rfl ?_;(conv=>whnf)))
                rw [efl f1]
                exact .refl _
              · rw [r3] at f1
                ((conv=>whnf);repeat(refine And.intro rfl ?_;(conv=>whnf)))
                (refine .inl ⟨by (unfold InR; rw [IntKind.wrap_i64]; omega), ?_⟩; ((conv=>whnf);repeat(refine And.intro rfl ?_;(conv=>whnf))))
                exact ⟨i + 1, ⟨by omega, by rw [e1, f1]⟩, by dsimp only; omega, leB_envH (by (repeat' (first | exact trivial | refine And.intro rfl ?_))) rfl⟩
          · exfalso; ((try simp only [oo, reduceCtorEq] at *) <;> omega)
      · have j0 : j = k := by have : ¬ j < k := by ((try simp only [oo, reduceCtorEq] at *) <;> omega)
                              omega
        have f1 := fin j hj1 hj hno (fun q => by omega)
        rw [decide_eq_false (by omega), Bool.false_and] at f1
        ((conv=>whnf);repeat(refine And.intro rfl ?_;(conv=>whnf)))
        (refine ifK_split (fun j1 => ?_) (fun j1 => ?_) <;> (rw [j1]; ((conv=>whnf);repeat(refine And.intro rfl ?_;(conv=>whnf)))))
        · rw [efl f1]
          exact .refl _
        · exfalso; ((try simp only [oo, reduceCtorEq] at *) <;> omega)
  · have i0 : i = s.length + l.length := by have : ¬ i < s.length + l.length := by ((try simp only [oo, reduceCtorEq] at *) <;> omega)
                                            omega
    subst i0
    rw [hall]
    exact .refl _
end Go.Proofs.Ytfgklgjbnpjpoaa
