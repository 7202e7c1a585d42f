/-
  The reference's truths of a formula along a word, over deep values. No statement is proved here.
-/
import Derived.Test.YtjnfahdolkgnoaaLhA
namespace Go.Proofs.Ytjnfahdolkgnoaa
open Go.RowKit
set_option linter.unusedSimpArgs false
def c82_1 : PC := .seq (.seq (.ops [⟨(some 8), .move (.tmp 1), none, 0⟩,
    ⟨(some 9), .load1 (.tmp 2), none, 0⟩,
    ⟨(some 10), .bin .geq (.tmp 8) (.tmp 9), none, 0⟩] false) (.cond (.tmp 10) (.skip) (.exit 0))) (.block 1 (.ops [⟨(some 11), .move (.tmp 1), none, 0⟩,
    ⟨(some 12), .load1 (.tmp 3), none, 0⟩,
    ⟨(some 13), .bin .sub (.tmp 11) (.tmp 12), none, 0⟩,
    ⟨(some 1), .move (.tmp 13), none, 0⟩] false))
def c82 : PC := .seq (.ops [⟨(some 7), .move (.const (.bool false)), none, 0⟩] false) (.seq (.block 0 (.loop c82_1)) (.seq (.ops [⟨(some 14), .load1 (.tmp 4), none, 0⟩,
    ⟨(some 15), .move (.tmp 0), none, 0⟩,
    ⟨(some 16), .iaddr 1 (.tmp 14) (.tmp 15), none, 0⟩,
    ⟨(some 17), .load1 (.tmp 16), none, 0⟩,
    ⟨(some 18), .move (.tmp 1), none, 0⟩,
    ⟨(some 19), .iaddr 1 (.tmp 17) (.tmp 18), none, 0⟩,
    ⟨(some 20), .load1 (.tmp 19), none, 0⟩,
    ⟨(some 7), .move (.tmp 20), none, 0⟩] false) (.ret)))
set_option maxRecDepth 100000 in
theorem c82_ok : FunOK Try.prog 82 21 [.tmp 7] c82 := ⟨⟨Try.f82, Try.func82, rfl, by kernel_rfl, rfl, by kernel_rfl⟩⟩
def c55_1 : PC := .seq (.seq (.ops [⟨(some 27), .move (.tmp 8), none, 0⟩,
    ⟨(some 28), .faddr 2 (.tmp 2), none, 0⟩,
    ⟨(some 29), .load1 (.tmp 28), none, 0⟩,
    ⟨(some 30), .len (.tmp 29), none, 0⟩,
    ⟨(some 31), .bin .lss (.tmp 27) (.tmp 30), none, 0⟩] false) (.cond (.tmp 31) (.skip) (.exit 0))) (.seq (.block 1 (.ops [⟨(some 34), .load1 (.tmp 7), none, 0⟩,
    ⟨(some 35), .faddr 2 (.tmp 2), none, 0⟩,
    ⟨(some 36), .load1 (.tmp 35), none, 2⟩,
    ⟨(some 37), .move (.tmp 8), none, 0⟩,
    ⟨(some 38), .iaddr 3 (.tmp 36) (.tmp 37), none, 14⟩,
    ⟨(some 39), .loadA 3 (.tmp 38), none, 30⟩,
    ⟨(some 40), .loadA 2 (.tmp 3), none, 0⟩,
    ⟨(some 41), .call 55 [(.tmp 39), (.tmp 40)], none, 126⟩,
    ⟨(some 42), .bslice 1 1 [(.tmp 41)], none, 254⟩,
    ⟨(some 43), .append 1 24 (.tmp 34) (.tmp 42), none, 511⟩,
    ⟨none, .store 1 (.tmp 7) (.tmp 43), none, 1023⟩] true)) (.ops [⟨(some 32), .move (.tmp 8), none, 0⟩,
    ⟨(some 33), .bin .add (.tmp 32) (.const (.int .i64 1)), none, 0⟩,
    ⟨(some 8), .move (.tmp 33), none, 0⟩] false))
def c55_3 : PC := .seq (.seq (.ops [⟨(some 116), .move (.tmp 12), none, 0⟩,
    ⟨(some 117), .load1 (.tmp 5), none, 0⟩,
    ⟨(some 118), .load1 (.tmp 6), none, 0⟩,
    ⟨(some 119), .bin .add (.tmp 117) (.tmp 118), none, 0⟩,
    ⟨(some 120), .bin .lss (.tmp 116) (.tmp 119), none, 0⟩] false) (.cond (.tmp 120) (.skip) (.exit 5))) (.seq (.block 6 (.ops [⟨(some 123), .move (.tmp 10), none, 0⟩,
    ⟨(some 124), .move (.tmp 11), none, 0⟩,
    ⟨(some 125), .move (.tmp 10), none, 0⟩,
    ⟨(some 126), .move (.tmp 11), none, 0⟩,
    ⟨(some 127), .iaddr 1 (.tmp 125) (.tmp 126), none, 0⟩,
    ⟨(some 128), .load1 (.tmp 127), none, 0⟩,
    ⟨(some 129), .move (.tmp 128), none, 0⟩,
    ⟨(some 130), .move (.tmp 9), (some (129, false)), 0⟩,
    ⟨(some 131), .move (.tmp 12), (some (129, false)), 0⟩,
    ⟨(some 132), .callv (.tmp 130) [(.const (.int .i64 0)), (.tmp 131)], (some (129, false)), 0⟩,
    ⟨(some 133), .pick (.tmp 129) (.const (.bool true)) (.tmp 132), none, 0⟩,
    ⟨(some 134), .iaddr 1 (.tmp 123) (.tmp 124), none, 0⟩,
    ⟨none, .store 1 (.tmp 134) (.tmp 133), none, 0⟩] false)) (.ops [⟨(some 121), .move (.tmp 12), none, 0⟩,
    ⟨(some 122), .bin .add (.tmp 121) (.const (.int .i64 1)), none, 0⟩,
    ⟨(some 12), .move (.tmp 122), none, 0⟩] false))
def c55_4 : PC := .seq (.seq (.ops [⟨(some 141), .move (.tmp 13), none, 0⟩,
    ⟨(some 142), .load1 (.tmp 5), none, 0⟩,
    ⟨(some 143), .load1 (.tmp 6), none, 0⟩,
    ⟨(some 144), .bin .add (.tmp 142) (.tmp 143), none, 0⟩,
    ⟨(some 145), .bin .lss (.tmp 141) (.tmp 144), none, 0⟩] false) (.cond (.tmp 145) (.skip) (.exit 7))) (.seq (.block 8 (.ops [⟨(some 148), .move (.tmp 10), none, 0⟩,
    ⟨(some 149), .move (.tmp 11), none, 0⟩,
    ⟨(some 150), .move (.tmp 10), none, 0⟩,
    ⟨(some 151), .move (.tmp 11), none, 0⟩,
    ⟨(some 152), .iaddr 1 (.tmp 150) (.tmp 151), none, 0⟩,
    ⟨(some 153), .load1 (.tmp 152), none, 0⟩,
    ⟨(some 154), .move (.tmp 153), none, 0⟩,
    ⟨(some 155), .move (.tmp 9), (some (154, true)), 0⟩,
    ⟨(some 156), .move (.tmp 13), (some (154, true)), 0⟩,
    ⟨(some 157), .callv (.tmp 155) [(.const (.int .i64 0)), (.tmp 156)], (some (154, true)), 0⟩,
    ⟨(some 158), .pick (.tmp 154) (.tmp 157) (.const (.bool false)), none, 0⟩,
    ⟨(some 159), .iaddr 1 (.tmp 148) (.tmp 149), none, 0⟩,
    ⟨none, .store 1 (.tmp 159) (.tmp 158), none, 0⟩] false)) (.ops [⟨(some 146), .move (.tmp 13), none, 0⟩,
    ⟨(some 147), .bin .add (.tmp 146) (.const (.int .i64 1)), none, 0⟩,
    ⟨(some 13), .move (.tmp 147), none, 0⟩] false))
def c55_5 : PC := .seq (.seq (.ops [⟨(some 163), .move (.tmp 15), none, 0⟩,
    ⟨(some 164), .load1 (.tmp 5), none, 0⟩,
    ⟨(some 165), .load1 (.tmp 6), none, 0⟩,
    ⟨(some 166), .bin .add (.tmp 164) (.tmp 165), none, 0⟩,
    ⟨(some 167), .bin .lss (.tmp 163) (.tmp 166), none, 0⟩,
    ⟨(some 168), .move (.tmp 167), none, 0⟩,
    ⟨(some 169), .move (.tmp 10), (some (168, true)), 0⟩,
    ⟨(some 170), .move (.tmp 11), (some (168, true)), 0⟩,
    ⟨(some 171), .iaddr 1 (.tmp 169) (.tmp 170), (some (168, true)), 0⟩,
    ⟨(some 172), .load1 (.tmp 171), (some (168, true)), 0⟩,
    ⟨(some 173), .un .not (.tmp 172), (some (168, true)), 0⟩,
    ⟨(some 174), .pick (.tmp 168) (.tmp 173) (.const (.bool false)), none, 0⟩] false) (.cond (.tmp 174) (.skip) (.exit 9))) (.seq (.block 10 (.seq (.ops [⟨(some 177), .move (.tmp 10), none, 0⟩,
    ⟨(some 178), .move (.tmp 11), none, 0⟩,
    ⟨(some 179), .move (.tmp 14), none, 0⟩,
    ⟨(some 180), .move (.tmp 179), none, 0⟩,
    ⟨(some 181), .move (.tmp 9), (some (180, true)), 0⟩,
    ⟨(some 182), .move (.tmp 15), (some (180, true)), 0⟩,
    ⟨(some 183), .callv (.tmp 181) [(.const (.int .i64 1)), (.tmp 182)], (some (180, true)), 0⟩,
    ⟨(some 184), .pick (.tmp 180) (.tmp 183) (.const (.bool false)), none, 0⟩,
    ⟨(some 185), .iaddr 1 (.tmp 177) (.tmp 178), none, 0⟩,
    ⟨none, .store 1 (.tmp 185) (.tmp 184), none, 0⟩] false) (.ops [⟨(some 186), .move (.tmp 14), none, 0⟩,
    ⟨(some 187), .move (.tmp 186), none, 0⟩,
    ⟨(some 188), .move (.tmp 9), (some (187, true)), 0⟩,
    ⟨(some 189), .move (.tmp 15), (some (187, true)), 0⟩,
    ⟨(some 190), .callv (.tmp 188) [(.const (.int .i64 0)), (.tmp 189)], (some (187, true)), 0⟩,
    ⟨(some 191), .pick (.tmp 187) (.tmp 190) (.const (.bool false)), none, 0⟩,
    ⟨(some 14), .move (.tmp 191), none, 0⟩] false))) (.ops [⟨(some 175), .move (.tmp 15), none, 0⟩,
    ⟨(some 176), .bin .add (.tmp 175) (.const (.int .i64 1)), none, 0⟩,
    ⟨(some 15), .move (.tmp 176), none, 0⟩] false))
def c55_6 : PC := .seq (.seq (.ops [⟨(some 198), .move (.tmp 16), none, 0⟩,
    ⟨(some 199), .load1 (.tmp 5), none, 0⟩,
    ⟨(some 200), .load1 (.tmp 6), none, 0⟩,
    ⟨(some 201), .bin .add (.tmp 199) (.tmp 200), none, 0⟩,
    ⟨(some 202), .bin .lss (.tmp 198) (.tmp 201), none, 0⟩,
    ⟨(some 203), .move (.tmp 202), none, 0⟩,
    ⟨(some 204), .move (.tmp 10), (some (203, true)), 0⟩,
    ⟨(some 205), .move (.tmp 11), (some (203, true)), 0⟩,
    ⟨(some 206), .iaddr 1 (.tmp 204) (.tmp 205), (some (203, true)), 0⟩,
    ⟨(some 207), .load1 (.tmp 206), (some (203, true)), 0⟩,
    ⟨(some 208), .pick (.tmp 203) (.tmp 207) (.const (.bool false)), none, 0⟩] false) (.cond (.tmp 208) (.skip) (.exit 11))) (.seq (.block 12 (.seq (.ops [⟨(some 211), .move (.tmp 10), none, 0⟩,
    ⟨(some 212), .move (.tmp 11), none, 0⟩,
    ⟨(some 213), .move (.tmp 9), none, 0⟩,
    ⟨(some 214), .move (.tmp 16), none, 0⟩,
    ⟨(some 215), .callv (.tmp 213) [(.const (.int .i64 1)), (.tmp 214)], none, 0⟩,
    ⟨(some 216), .iaddr 1 (.tmp 211) (.tmp 212), none, 0⟩,
    ⟨none, .store 1 (.tmp 216) (.tmp 215), none, 0⟩] false) (.seq (.ops [⟨(some 217), .move (.tmp 9), none, 0⟩,
    ⟨(some 218), .move (.tmp 16), none, 0⟩,
    ⟨(some 219), .callv (.tmp 217) [(.const (.int .i64 0)), (.tmp 218)], none, 0⟩] false) (.cond (.tmp 219) (.exit 11) (.skip))))) (.ops [⟨(some 209), .move (.tmp 16), none, 0⟩,
    ⟨(some 210), .bin .add (.tmp 209) (.const (.int .i64 1)), none, 0⟩,
    ⟨(some 16), .move (.tmp 210), none, 0⟩] false))
def c55_2 : PC := .seq (.seq (.ops [⟨(some 47), .move (.tmp 11), none, 0⟩,
    ⟨(some 48), .load1 (.tmp 5), none, 0⟩,
    ⟨(some 49), .bin .lss (.tmp 47) (.tmp 48), none, 0⟩] false) (.cond (.tmp 49) (.skip) (.exit 2))) (.seq (.block 3 (.seq (.ops [⟨(some 52), .faddr 0 (.tmp 2), none, 0⟩,
    ⟨(some 53), .load1 (.tmp 52), none, 0⟩] false) (.block 4 (.seq (.ops [⟨(some 55), .bin .eql (.tmp 53) (.const (.int .i64 1)), none, 0⟩,
    ⟨(some 54), .move (.tmp 55), none, 0⟩] false) (.cond (.tmp 54) (.ops [⟨(some 56), .move (.tmp 10), none, 0⟩,
    ⟨(some 57), .move (.tmp 11), none, 0⟩,
    ⟨(some 58), .iaddr 1 (.tmp 56) (.tmp 57), none, 0⟩,
    ⟨none, .store 1 (.tmp 58) (.const (.bool true)), none, 0⟩] false) (.seq (.ops [⟨(some 60), .bin .eql (.tmp 53) (.const (.int .i64 3)), none, 0⟩,
    ⟨(some 59), .move (.tmp 60), none, 0⟩] false) (.cond (.tmp 59) (.ops [⟨(some 61), .move (.tmp 10), none, 0⟩,
    ⟨(some 62), .move (.tmp 11), none, 0⟩,
    ⟨(some 63), .loadA 2 (.tmp 3), none, 0⟩,
    ⟨(some 64), .move (.tmp 11), none, 0⟩,
    ⟨(some 65), .faddr 1 (.tmp 2), none, 0⟩,
    ⟨(some 66), .load1 (.tmp 65), none, 0⟩,
    ⟨(some 67), .call 83 [(.tmp 63), (.tmp 64), (.tmp 66)], none, 0⟩,
    ⟨(some 68), .iaddr 1 (.tmp 61) (.tmp 62), none, 0⟩,
    ⟨none, .store 1 (.tmp 68) (.tmp 67), none, 0⟩] false) (.seq (.ops [⟨(some 70), .bin .eql (.tmp 53) (.const (.int .i64 4)), none, 0⟩,
    ⟨(some 69), .move (.tmp 70), none, 0⟩] false) (.cond (.tmp 69) (.ops [⟨(some 71), .move (.tmp 10), none, 0⟩,
    ⟨(some 72), .move (.tmp 11), none, 0⟩,
    ⟨(some 73), .move (.tmp 9), none, 0⟩,
    ⟨(some 74), .move (.tmp 11), none, 0⟩,
    ⟨(some 75), .callv (.tmp 73) [(.const (.int .i64 0)), (.tmp 74)], none, 0⟩,
    ⟨(some 76), .un .not (.tmp 75), none, 0⟩,
    ⟨(some 77), .iaddr 1 (.tmp 71) (.tmp 72), none, 0⟩,
    ⟨none, .store 1 (.tmp 77) (.tmp 76), none, 0⟩] false) (.seq (.ops [⟨(some 79), .bin .eql (.tmp 53) (.const (.int .i64 5)), none, 0⟩,
    ⟨(some 78), .move (.tmp 79), none, 0⟩] false) (.cond (.tmp 78) (.ops [⟨(some 80), .move (.tmp 10), none, 0⟩,
    ⟨(some 81), .move (.tmp 11), none, 0⟩,
    ⟨(some 82), .move (.tmp 9), none, 0⟩,
    ⟨(some 83), .move (.tmp 11), none, 0⟩,
    ⟨(some 84), .callv (.tmp 82) [(.const (.int .i64 0)), (.tmp 83)], none, 0⟩,
    ⟨(some 85), .move (.tmp 84), none, 0⟩,
    ⟨(some 86), .move (.tmp 9), (some (85, true)), 0⟩,
    ⟨(some 87), .move (.tmp 11), (some (85, true)), 0⟩,
    ⟨(some 88), .callv (.tmp 86) [(.const (.int .i64 1)), (.tmp 87)], (some (85, true)), 0⟩,
    ⟨(some 89), .pick (.tmp 85) (.tmp 88) (.const (.bool false)), none, 0⟩,
    ⟨(some 90), .iaddr 1 (.tmp 80) (.tmp 81), none, 0⟩,
    ⟨none, .store 1 (.tmp 90) (.tmp 89), none, 0⟩] false) (.seq (.ops [⟨(some 92), .bin .eql (.tmp 53) (.const (.int .i64 6)), none, 0⟩,
    ⟨(some 91), .move (.tmp 92), none, 0⟩] false) (.cond (.tmp 91) (.ops [⟨(some 93), .move (.tmp 10), none, 0⟩,
    ⟨(some 94), .move (.tmp 11), none, 0⟩,
    ⟨(some 95), .move (.tmp 9), none, 0⟩,
    ⟨(some 96), .move (.tmp 11), none, 0⟩,
    ⟨(some 97), .callv (.tmp 95) [(.const (.int .i64 0)), (.tmp 96)], none, 0⟩,
    ⟨(some 98), .move (.tmp 97), none, 0⟩,
    ⟨(some 99), .move (.tmp 9), (some (98, false)), 0⟩,
    ⟨(some 100), .move (.tmp 11), (some (98, false)), 0⟩,
    ⟨(some 101), .callv (.tmp 99) [(.const (.int .i64 1)), (.tmp 100)], (some (98, false)), 0⟩,
    ⟨(some 102), .pick (.tmp 98) (.const (.bool true)) (.tmp 101), none, 0⟩,
    ⟨(some 103), .iaddr 1 (.tmp 93) (.tmp 94), none, 0⟩,
    ⟨none, .store 1 (.tmp 103) (.tmp 102), none, 0⟩] false) (.seq (.ops [⟨(some 105), .bin .eql (.tmp 53) (.const (.int .i64 7)), none, 0⟩,
    ⟨(some 104), .move (.tmp 105), none, 0⟩] false) (.cond (.tmp 104) (.ops [⟨(some 106), .move (.tmp 10), none, 0⟩,
    ⟨(some 107), .move (.tmp 11), none, 0⟩,
    ⟨(some 108), .move (.tmp 9), none, 0⟩,
    ⟨(some 109), .move (.tmp 11), none, 0⟩,
    ⟨(some 110), .bin .add (.tmp 109) (.const (.int .i64 1)), none, 0⟩,
    ⟨(some 111), .callv (.tmp 108) [(.const (.int .i64 0)), (.tmp 110)], none, 0⟩,
    ⟨(some 112), .iaddr 1 (.tmp 106) (.tmp 107), none, 0⟩,
    ⟨none, .store 1 (.tmp 112) (.tmp 111), none, 0⟩] false) (.seq (.ops [⟨(some 114), .bin .eql (.tmp 53) (.const (.int .i64 10)), none, 0⟩,
    ⟨(some 113), .move (.tmp 114), none, 0⟩] false) (.cond (.tmp 113) (.seq (.ops [⟨(some 115), .move (.tmp 11), none, 0⟩,
    ⟨(some 12), .move (.tmp 115), none, 0⟩] false) (.block 5 (.loop c55_3))) (.seq (.ops [⟨(some 136), .bin .eql (.tmp 53) (.const (.int .i64 11)), none, 0⟩,
    ⟨(some 135), .move (.tmp 136), none, 0⟩] false) (.cond (.tmp 135) (.seq (.ops [⟨(some 137), .move (.tmp 10), none, 0⟩,
    ⟨(some 138), .move (.tmp 11), none, 0⟩,
    ⟨(some 139), .iaddr 1 (.tmp 137) (.tmp 138), none, 0⟩,
    ⟨none, .store 1 (.tmp 139) (.const (.bool true)), none, 0⟩] false) (.seq (.ops [⟨(some 140), .move (.tmp 11), none, 0⟩,
    ⟨(some 13), .move (.tmp 140), none, 0⟩] false) (.block 7 (.loop c55_4)))) (.seq (.ops [⟨(some 161), .bin .eql (.tmp 53) (.const (.int .i64 8)), none, 0⟩,
    ⟨(some 160), .move (.tmp 161), none, 0⟩] false) (.cond (.tmp 160) (.seq (.ops [⟨(some 14), .move (.const (.bool true)), none, 0⟩] false) (.seq (.ops [⟨(some 162), .move (.tmp 11), none, 0⟩,
    ⟨(some 15), .move (.tmp 162), none, 0⟩] false) (.block 9 (.loop c55_5)))) (.seq (.ops [⟨(some 193), .bin .eql (.tmp 53) (.const (.int .i64 9)), none, 0⟩,
    ⟨(some 192), .move (.tmp 193), none, 0⟩] false) (.cond (.tmp 192) (.seq (.ops [⟨(some 194), .move (.tmp 10), none, 0⟩,
    ⟨(some 195), .move (.tmp 11), none, 0⟩,
    ⟨(some 196), .iaddr 1 (.tmp 194) (.tmp 195), none, 0⟩,
    ⟨none, .store 1 (.tmp 196) (.const (.bool true)), none, 0⟩] false) (.seq (.ops [⟨(some 197), .move (.tmp 11), none, 0⟩,
    ⟨(some 16), .move (.tmp 197), none, 0⟩] false) (.block 11 (.loop c55_6)))) (.skip)))))))))))))))))))))))) (.ops [⟨(some 50), .move (.tmp 11), none, 0⟩,
    ⟨(some 51), .bin .add (.tmp 50) (.const (.int .i64 1)), none, 0⟩,
    ⟨(some 11), .move (.tmp 51), none, 0⟩] false))
def c55 : PC := .seq (.ops [⟨(some 2), .box (.tmp 0), none, 0⟩,
    ⟨(some 3), .box (.tmp 1), none, 0⟩,
    ⟨(some 4), .move (.const (.slice none 0 0)), none, 0⟩] false) (.seq (.ops [⟨(some 17), .faddr 0 (.tmp 3), none, 0⟩,
    ⟨(some 18), .load1 (.tmp 17), none, 1⟩,
    ⟨(some 19), .len (.tmp 18), none, 3⟩,
    ⟨(some 20), .faddr 1 (.tmp 3), none, 0⟩,
    ⟨(some 21), .load1 (.tmp 20), none, 8⟩,
    ⟨(some 22), .len (.tmp 21), none, 24⟩,
    ⟨(some 23), .bin .add (.tmp 19) (.tmp 22), none, 63⟩,
    ⟨(some 24), .faddr 1 (.tmp 3), none, 0⟩,
    ⟨(some 25), .load1 (.tmp 24), none, 128⟩,
    ⟨(some 26), .len (.tmp 25), none, 384⟩,
    ⟨(some 5), .alloc [(.int .i64 0)], none, 0⟩,
    ⟨(some 6), .alloc [(.int .i64 0)], none, 0⟩,
    ⟨none, .store 1 (.tmp 5) (.tmp 23), none, 3199⟩,
    ⟨none, .store 1 (.tmp 6) (.tmp 26), none, 8191⟩] true) (.seq (.ops [⟨(some 7), .alloc [(.slice none 0 0)], none, 0⟩] false) (.seq (.seq (.ops [⟨(some 8), .move (.const (.int .i64 0)), none, 0⟩] false) (.block 0 (.loop c55_1))) (.seq (.ops [⟨(some 44), .mkfn (.func 82) [] [(.tmp 5), (.tmp 6), (.tmp 7)], none, 0⟩,
    ⟨(some 9), .move (.tmp 44), none, 0⟩] false) (.seq (.stop (.ops [⟨(some 45), .load1 (.tmp 5), none, 0⟩,
    ⟨(some 46), .mslice 1 1 [(.bool false)] (.tmp 45) (.tmp 45), none, 0⟩,
    ⟨(some 10), .move (.tmp 46), none, 0⟩] false)) (.seq (.seq (.ops [⟨(some 11), .move (.const (.int .i64 0)), none, 0⟩] false) (.block 2 (.loop c55_2))) (.seq (.ops [⟨(some 220), .move (.tmp 10), none, 0⟩,
    ⟨(some 4), .move (.tmp 220), none, 0⟩] false) (.ret))))))))
set_option maxRecDepth 100000 in
theorem c55_ok : FunOK Try.prog 55 221 [.tmp 4] c55 := ⟨⟨Try.f55, Try.func55, rfl, by kernel_rfl, rfl, by kernel_rfl⟩⟩
theorem ref_kid (s l : List Int) (t : Tree) (hw : 1 ≤ l.length ∧ s.length + l.length ≤ 60) (j i : Nat) (hj : j < t.width) (hi : i < s.length + l.length + l.length) :
    PCall Try.prog 82 [.sc (.int .i64 j), .sc (.int .i64 i), .ipt [.sc (.int .i64 (s.length + l.length : Nat))], .ipt [.sc (.int .i64 l.length)], .ipt [.lst 1 (kidsV s l t t.width)]] (.sc (.bool (trT s l (t.kid j) (wr (s.length + l.length) l.length i)))) := by
  obtain ⟨n, hn⟩ : ∃ n, n = s.length + l.length := ⟨_, rfl⟩
  rw [← hn]
  refine pcall_intro c82_ok (by simp) (by simp [PureL, Pure, pure_kidsV]) ?_ (by simp [Pure])
  (apply red_sound; focus (repeat' (first | exact Red.skip | exact Red.ret | exact RedO.nil | exact RedD.nil | exact Red.exit _ | exact Red.loop _ | exact Red.stop _ | apply Red.ops | apply Red.draw | apply Red.seq | apply Red.cond | apply Red.block | apply RedO.cons | apply RedD.cons | exact (0 : Nat))))
  ((conv => whnf); repeat (refine And.intro rfl ?_; (conv => whnf)))
  refine pwp_loop (fun x : Nat => [(0, .sc (.int .i64 j)), (1, .sc (.int .i64 x)), (2, .ipt [.sc (.int .i64 n)]), (3, .ipt [.sc (.int .i64 l.length)]), (4, .ipt [.lst 1 (kidsV s l t t.width)])]) (fun _ => [])
    (fun x => x < n + l.length ∧ wr n l.length x = wr n l.length i) (fun x => x) i ⟨by omega, rfl⟩ (le_env ⟨rfl, rfl, rfl, rfl, rfl, trivial⟩) ?_
  rintro x ⟨hx, hwx⟩
  (apply red_sound; focus (repeat' (first | exact Red.skip | exact Red.ret | exact RedO.nil | exact RedD.nil | exact Red.exit _ | exact Red.loop _ | exact Red.stop _ | apply Red.ops | apply Red.draw | apply Red.seq | apply Red.cond | apply Red.block | apply RedO.cons | apply RedD.cons | exact (0 : Nat))))
  ((conv => whnf); repeat (refine And.intro rfl ?_; (conv => whnf)))
  (refine ifK_split (fun h => ?_) (fun h => ?_) <;> (rw [h]; ((conv => whnf); repeat (refine And.intro rfl ?_; (conv => whnf)))))
  · have h : n ≤ x := by ((try simp only [oo, reduceCtorEq] at *) <;> omega)
    refine .inl ⟨by unfold InR; rw [IntKind.wrap_i64]; omega, ?_⟩
    ((conv => whnf); repeat (refine And.intro rfl ?_; (conv => whnf)))
    refine ⟨x - l.length, ⟨by omega, ?_⟩, by dsimp only; omega, le_env ⟨rfl, ?_, rfl, rfl, rfl, trivial⟩⟩
    · rw [← hwx]
      unfold wr
      rw [if_pos (by omega), if_neg (by omega)]
    · show D.sc (.int .i64 ((x : Int) - l.length)) = .sc (.int .i64 ((x - l.length : Nat) : Int))
      rw [show (x : Int) - l.length = ((x - l.length : Nat) : Int) by omega]
  · have h : x < n := by ((try simp only [oo, reduceCtorEq] at *) <;> omega)
    have e : wr n l.length i = x := by rw [← hwx]; unfold wr; rw [if_pos h]
    rw [e]
    refine ⟨by omega, _, by rw [Int.toNat_natCast]; exact kidsV_at hj, ?_⟩
    rw [← hn]
    ((conv => whnf); repeat (refine And.intro rfl ?_; (conv => whnf)))
    refine ⟨by omega, _, rbl_at (i := x) h, ?_⟩
    ((conv => whnf); repeat (refine And.intro rfl ?_; (conv => whnf)))
    exact .refl _
theorem ref_True (s l : List Int) (hw : s.length + l.length ≤ 60 ∧ 1 ≤ l.length) : ∀ t : Tree, t.wf lKids → PCall Try.prog 55 [dtree t, dword s l] (dbl (s.length + l.length) (trT s l t)) := by
  intro t
  induction t using Tree.ind with
  | h t ih =>
    intro hwf
    have hs := wf_small t hwf
    have hwd := hs.width
    have har := node_arity ((wf_iff _ _).1 hwf).1
    have hnum : 0 ≤ t.num := by have := ((wf_iff _ _).1 hwf).1; unfold oddNode at this; omega
    obtain ⟨n, hn⟩ : ∃ n, n = s.length + l.length := ⟨_, rfl⟩
    obtain ⟨m, hm⟩ : ∃ m, m = l.length := ⟨_, rfl⟩
    have hK : ∀ j i : Nat, j < t.width → i < n + m → PCall Try.prog 82 [.sc (.int .i64 j), .sc (.int .i64 i), .ipt [.sc (.int .i64 n)], .ipt [.sc (.int .i64 m)], .ipt [.lst 1 (kidsV s l t t.width)]] (.sc (.bool (trT s l (t.kid j) (wr n m i)))) :=
      fun j i hj hi => by subst hn hm; exact ref_kid s l t ⟨hw.2, hw.1⟩ j i hj hi
    refine pcall_intro c55_ok (by simp) (by simp [PureL, pure_dtree, pure_dword]) ?_ (pure_dbl _ _)
    (apply red_sound; focus (repeat' (first | exact Red.skip | exact Red.ret | exact RedO.nil | exact RedD.nil | exact Red.exit _ | exact Red.loop _ | exact Red.stop _ | apply Red.ops | apply Red.draw | apply Red.seq | apply Red.cond | apply Red.block | apply RedO.cons | apply RedD.cons | exact (0 : Nat))))
    ((conv => whnf); repeat (refine And.intro rfl ?_; (conv => whnf)))
    rw [List.length_map, List.length_map]
    refine .inl ⟨by unfold InR; rw [IntKind.wrap_i64]; omega, ?_⟩
    rw [show (s.length : Int) + l.length = (n : Int) by omega]
    ((conv => whnf); repeat (refine And.intro rfl ?_; (conv => whnf)))
    rw [List.length_map, ← hm]
    ((conv => whnf); repeat (refine And.intro rfl ?_; (conv => whnf)))
    refine pwp_loopB (fun k : Nat => [(2, .loc 0 0), (3, .loc 1 0), (5, .loc 2 0), (6, .loc 3 0), (7, .loc 4 0), (8, .sc (.int .i64 k))])
      (fun k => [.row true (drow t), .row true (wcells s l), .row true [.sc (.int .i64 n)], .row true [.sc (.int .i64 m)], .row true [.own 5 k 0 k], .vec true k 1 (kidsV s l t k)])
      (fun k => k ≤ t.width) (fun k => t.width - k) 0 (by omega) (leB_trans (leB_nilc 4 0 1 (by simp) rfl rfl) (leB_env ⟨rfl, rfl, rfl, rfl, rfl, rfl, trivial⟩)) ?_
    rintro k hk
    (apply red_sound; focus (repeat' (first | exact Red.skip | exact Red.ret | exact RedO.nil | exact RedD.nil | exact Red.exit _ | exact Red.loop _ | exact Red.stop _ | apply Red.ops | apply Red.draw | apply Red.seq | apply Red.cond | apply Red.block | apply RedO.cons | apply RedD.cons | exact (0 : Nat))))
    ((conv => whnf); repeat (refine And.intro rfl ?_; (conv => whnf)))
    (refine ifK_split (fun h1 => ?_) (fun h1 => ?_) <;> (rw [h1]; ((conv => whnf); repeat (refine And.intro rfl ?_; (conv => whnf)))))
    · have hk' : k < t.width := by simpa [Tree.width] using h1
      refine ⟨by omega, _, kid_at hk', ?_⟩
      ((conv => whnf); repeat (refine And.intro rfl ?_; (conv => whnf)))
      (refine .inl ⟨_, (ih k hk' (wf_kid hwf hk')), ?_⟩; ((conv => whnf); repeat (refine And.intro rfl ?_; (conv => whnf))))
      refine ⟨by unfold sliceAppend; simp only [List.drop_zero, List.take_succ_cons, List.take_zero, List.length_cons, List.length_nil]; omega, ?_⟩
      ((conv => whnf); repeat (refine And.intro rfl ?_; (conv => whnf)))
      refine .inl ⟨by unfold InR; rw [IntKind.wrap_i64]; unfold Tree.width at *; omega, ?_⟩
      ((conv => whnf); repeat (refine And.intro rfl ?_; (conv => whnf)))
      exact ⟨k + 1, by omega, by dsimp only; omega, leB_close 6 (by simp) rfl ⟨.refl _, by simp [Under], .refl _, by simp [Under], .refl _, by simp [Under], .refl _, by simp [Under], .refl _, by simp [Under], .refl _, by simp [Under], trivial⟩
        ⟨⟨rfl, .refl _, underL_pure _ (pure_drow t)⟩, ⟨rfl, .refl _, underL_pure _ (pure_wcells s l)⟩, ⟨rfl, .refl _, by simp [UnderL, Under]⟩, ⟨rfl, .refl _, by simp [UnderL, Under]⟩, ⟨rfl, .refl _, by simp [UnderL, Under]⟩, ⟨rfl, rfl, rfl, deepMLL_eq (kidsV_succ s l t k), underLL_pure _ (pure_kidsV _ _ _ _)⟩, trivial⟩⟩
    have hkw : k = t.width := by have : ¬ k < t.width := by simpa [Tree.width] using h1
                                 omega
    subst hkw
    clear h1 hk
    obtain ⟨KV, hKV⟩ : ∃ x, x = D.lst 1 (kidsV s l t t.width) := ⟨_, rfl⟩
    have hdep : ∀ {H : List AObj}, H[5]? = some (.vec true t.width 1 (kidsV s l t t.width)) → DeepM (fromN 2) H (.own 5 t.width 0 t.width) (.lst 1 (kidsV s l t t.width)) := fun h => .own _ _ _ _ _ _ _ _ rfl h (deepMLL_eq (by rw [List.drop_zero, List.take_of_length_le (by simp)]))
    refine pwp_ghostB (leB_freeze (fromN 2) (env' := [(2, .loc 0 0), (3, .loc 1 0), (5, .ipt [.sc (.int .i64 n)]), (6, .ipt [.sc (.int .i64 m)]), (9, .fn (.func 82) [] [.ipt [.sc (.int .i64 n)], .ipt [.sc (.int .i64 m)], .ipt [.lst 1 (kidsV s l t t.width)]])])
      (H' := [.row true (drow t), .row true (wcells s l), .row false [.sc (.int .i64 n)], .row false [.sc (.int .i64 m)], .row false [.lst 1 (kidsV s l t t.width)], .vec false t.width 1 (kidsV s l t t.width)])
      ⟨.refl _, .refl _, .loc _ _ _ _ _ rfl rfl (.refl _), .loc _ _ _ _ _ rfl rfl (.refl _), .fn _ _ _ _ _ (.refl _) (.cons _ _ _ _ (.loc _ _ _ _ _ rfl rfl (.refl _)) (.cons _ _ _ _ (.loc _ _ _ _ _ rfl rfl (.refl _)) (.cons _ _ _ _ (.loc _ _ _ _ _ rfl rfl (.cons _ _ _ _ (hdep rfl) (.refl _))) (.refl _)))), trivial⟩
      ⟨⟨.inl rfl, (fun h => by cases h), .refl _⟩, ⟨.inl rfl, (fun h => by cases h), .refl _⟩, ⟨.inr ⟨rfl, rfl⟩, fun _ => rfl, .refl _⟩, ⟨.inr ⟨rfl, rfl⟩, fun _ => rfl, .refl _⟩, ⟨.inr ⟨rfl, rfl⟩, fun _ => rfl, .cons _ _ _ _ (hdep rfl) (.refl _)⟩, ⟨.inr ⟨rfl, rfl⟩, fun _ => rfl, rfl, rfl, .refl _⟩, trivial⟩) ?_
    (apply red_sound; focus (repeat' (first | exact Red.skip | exact Red.ret | exact RedO.nil | exact RedD.nil | exact Red.exit _ | exact Red.loop _ | exact Red.stop _ | apply Red.ops | apply Red.draw | apply Red.seq | apply Red.cond | apply Red.block | apply RedO.cons | apply RedD.cons | exact (0 : Nat))))
    ((conv => whnf); repeat (refine And.intro rfl ?_; (conv => whnf)))
    refine ⟨by omega, by omega, by omega, ?_⟩
    rw [Int.toNat_natCast]
    ((conv => whnf); repeat (refine And.intro rfl ?_; (conv => whnf)))
    refine pwp_loop (fun k : Nat => [(2, .loc 0 0), (3, .loc 1 0), (5, .ipt [.sc (.int .i64 n)]), (6, .ipt [.sc (.int .i64 m)]), (9, .fn (.func 82) [] [.ipt [.sc (.int .i64 n)], .ipt [.sc (.int .i64 m)], .ipt [.lst 1 (kidsV s l t t.width)]]), (10, .own 6 0 0 n), (11, .sc (.int .i64 k))])
      (fun k => [.row true (drow t), .row true (wcells s l), .row false [.sc (.int .i64 n)], .row false [.sc (.int .i64 m)], .row false [.lst 1 (kidsV s l t t.width)], .vec false t.width 1 (kidsV s l t t.width), .vec true 0 1 (rbl n (curF (trT s l t) k false))])
      (fun k => k ≤ n) (fun k => n - k) 0 (by omega) (le_envH ⟨rfl, rfl, rfl, rfl, rfl, rfl, rfl, trivial⟩ (by rw [← cur_zero n (trT s l t), ← rbl_rep]; rfl)) ?_
    rintro k hk
    (apply red_sound; focus (repeat' (first | exact Red.skip | exact Red.ret | exact RedO.nil | exact RedD.nil | exact Red.exit _ | exact Red.loop _ | exact Red.stop _ | apply Red.ops | apply Red.draw | apply Red.seq | apply Red.cond | apply Red.block | apply RedO.cons | apply RedD.cons | exact (0 : Nat))))
    ((conv => whnf); repeat (refine And.intro rfl ?_; (conv => whnf)))
    have kid0 : 1 ≤ t.width → kidT s l t 0 = trT s l (t.kid 0) := fun h => kidT_eq s l (by omega)
    have kid1 : 2 ≤ t.width → kidT s l t 1 = trT s l (t.kid 1) := fun h => kidT_eq s l (by omega)
    have tr := trT_eq s l t
    (refine ifK_split (fun g1 => ?_) (fun g1 => ?_) <;> (rw [g1]; ((conv => whnf); repeat (refine And.intro rfl ?_; (conv => whnf)))))
    rotate_left
    · have hkn : k = n := by have : ¬ k < n := by ((try simp only [oo, reduceCtorEq] at *) <;> omega)
                             omega
      subst hkn
      rw [show s.length + m = k by omega]
      exact deep_vec (by rw [← cur_done k (trT s l t) false]; rfl)
    have hk' : k < n := by ((try simp only [oo, reduceCtorEq] at *) <;> omega)
    have put : ∀ {v : Bool}, v = trT s l t k → (rbl n (curF (trT s l t) k false)).set (0 + (k : Int).toNat) [.sc (.bool v)] = rbl n (curF (trT s l t) (k + 1) false) := fun h => by rw [cur_set (by omega), cur_next h]
    have inr : InR .i64 ((k : Int) + 1) := by unfold InR; rw [IntKind.wrap_i64]; omega
    have trk := congrFun tr k
    have hwk : wr n m k = k := by unfold wr; rw [if_pos hk']
    (refine ifK_split (fun g1 => ?_) (fun g1 => ?_) <;> (rw [g1]; ((conv => whnf); repeat (refine And.intro rfl ?_; (conv => whnf)))))
    · have hk1 : t.kind = 1 := by ((try simp only [oo, reduceCtorEq] at *) <;> omega)
      refine ⟨by omega, by omega, ?_⟩
      ((conv => whnf); repeat (refine And.intro rfl ?_; (conv => whnf)))
      refine ⟨_, rbl_atN k (by omega) hk', ?_⟩
      ((conv => whnf); repeat (refine And.intro rfl ?_; (conv => whnf)))
      refine .inl ⟨inr, ?_⟩
      ((conv => whnf); repeat (refine And.intro rfl ?_; (conv => whnf)))
      exact ⟨k + 1, by omega, by dsimp only; omega, le_envH ⟨rfl, rfl, rfl, rfl, rfl, rfl, rfl, trivial⟩ (by rw [put (by rw [trk, hk1]; rfl)])⟩
    (refine ifK_split (fun g3 => ?_) (fun g3 => ?_) <;> (rw [g3]; ((conv => whnf); repeat (refine And.intro rfl ?_; (conv => whnf)))))
    · have hk1 : t.kind = 3 := by ((try simp only [oo, reduceCtorEq] at *) <;> omega)
      (refine .inl ⟨_, (ref_Has s l hw.2 hw.1 k (by omega) t.num hnum), ?_⟩; ((conv => whnf); repeat (refine And.intro rfl ?_; (conv => whnf))))
      refine ⟨by omega, by omega, ?_⟩
      ((conv => whnf); repeat (refine And.intro rfl ?_; (conv => whnf)))
      refine ⟨_, rbl_atN k (by omega) hk', ?_⟩
      ((conv => whnf); repeat (refine And.intro rfl ?_; (conv => whnf)))
      refine .inl ⟨inr, ?_⟩
      ((conv => whnf); repeat (refine And.intro rfl ?_; (conv => whnf)))
      exact ⟨k + 1, by omega, by dsimp only; omega, le_envH ⟨rfl, rfl, rfl, rfl, rfl, rfl, rfl, trivial⟩ (by rw [put (by rw [trk, hk1]; rfl)])⟩
    (refine ifK_split (fun g4 => ?_) (fun g4 => ?_) <;> (rw [g4]; ((conv => whnf); repeat (refine And.intro rfl ?_; (conv => whnf)))))
    · have hk1 : t.kind = 4 := by ((try simp only [oo, reduceCtorEq] at *) <;> omega)
      (refine .inl ⟨_, (hK 0 k (by omega) (by omega)), ?_⟩; ((conv => whnf); repeat (refine And.intro rfl ?_; (conv => whnf))))
      refine ⟨by omega, by omega, ?_⟩
      ((conv => whnf); repeat (refine And.intro rfl ?_; (conv => whnf)))
      refine ⟨_, rbl_atN k (by omega) hk', ?_⟩
      ((conv => whnf); repeat (refine And.intro rfl ?_; (conv => whnf)))
      refine .inl ⟨inr, ?_⟩
      ((conv => whnf); repeat (refine And.intro rfl ?_; (conv => whnf)))
      exact ⟨k + 1, by omega, by dsimp only; omega, le_envH ⟨rfl, rfl, rfl, rfl, rfl, rfl, rfl, trivial⟩ (by rw [put (by rw [trk, hk1, kid0 (by omega), hwk]; rfl)])⟩
    (refine ifK_split (fun g5 => ?_) (fun g5 => ?_) <;> (rw [g5]; ((conv => whnf); repeat (refine And.intro rfl ?_; (conv => whnf)))))
    · have hk1 : t.kind = 5 := by ((try simp only [oo, reduceCtorEq] at *) <;> omega)
      (refine .inl ⟨_, (hK 0 k (by omega) (by omega)), ?_⟩; ((conv => whnf); repeat (refine And.intro rfl ?_; (conv => whnf))))
      rw [hwk]
      cases c0 : trT s l (t.kid 0) k
      · ((conv => whnf); repeat (refine And.intro rfl ?_; (conv => whnf)))
        refine ⟨by omega, by omega, ?_⟩
        ((conv => whnf); repeat (refine And.intro rfl ?_; (conv => whnf)))
        refine ⟨_, rbl_atN k (by omega) hk', ?_⟩
        ((conv => whnf); repeat (refine And.intro rfl ?_; (conv => whnf)))
        refine .inl ⟨inr, ?_⟩
        ((conv => whnf); repeat (refine And.intro rfl ?_; (conv => whnf)))
        exact ⟨k + 1, by omega, by dsimp only; omega, le_envH ⟨rfl, rfl, rfl, rfl, rfl, rfl, rfl, trivial⟩ (by rw [put (by rw [trk, hk1, kid0 (by omega), kid1 (by omega)]; simp [trF, c0])])⟩
      · ((conv => whnf); repeat (refine And.intro rfl ?_; (conv => whnf)))
        (refine .inl ⟨_, (hK 1 k (by omega) (by omega)), ?_⟩; ((conv => whnf); repeat (refine And.intro rfl ?_; (conv => whnf))))
        rw [hwk]
        refine ⟨by omega, by omega, ?_⟩
        ((conv => whnf); repeat (refine And.intro rfl ?_; (conv => whnf)))
        refine ⟨_, rbl_atN k (by omega) hk', ?_⟩
        ((conv => whnf); repeat (refine And.intro rfl ?_; (conv => whnf)))
        refine .inl ⟨inr, ?_⟩
        ((conv => whnf); repeat (refine And.intro rfl ?_; (conv => whnf)))
        exact ⟨k + 1, by omega, by dsimp only; omega, le_envH ⟨rfl, rfl, rfl, rfl, rfl, rfl, rfl, trivial⟩ (by rw [put (by rw [trk, hk1, kid0 (by omega), kid1 (by omega)]; simp [trF, c0])])⟩
    (refine ifK_split (fun g6 => ?_) (fun g6 => ?_) <;> (rw [g6]; ((conv => whnf); repeat (refine And.intro rfl ?_; (conv => whnf)))))
    · have hk1 : t.kind = 6 := by ((try simp only [oo, reduceCtorEq] at *) <;> omega)
      (refine .inl ⟨_, (hK 0 k (by omega) (by omega)), ?_⟩; ((conv => whnf); repeat (refine And.intro rfl ?_; (conv => whnf))))
      rw [hwk]
      cases c0 : trT s l (t.kid 0) k
      · ((conv => whnf); repeat (refine And.intro rfl ?_; (conv => whnf)))
        (refine .inl ⟨_, (hK 1 k (by omega) (by omega)), ?_⟩; ((conv => whnf); repeat (refine And.intro rfl ?_; (conv => whnf))))
        rw [hwk]
        refine ⟨by omega, by omega, ?_⟩
        ((conv => whnf); repeat (refine And.intro rfl ?_; (conv => whnf)))
        refine ⟨_, rbl_atN k (by omega) hk', ?_⟩
        ((conv => whnf); repeat (refine And.intro rfl ?_; (conv => whnf)))
        refine .inl ⟨inr, ?_⟩
        ((conv => whnf); repeat (refine And.intro rfl ?_; (conv => whnf)))
        exact ⟨k + 1, by omega, by dsimp only; omega, le_envH ⟨rfl, rfl, rfl, rfl, rfl, rfl, rfl, trivial⟩ (by rw [put (by rw [trk, hk1, kid0 (by omega), kid1 (by omega)]; simp [trF, c0])])⟩
      · ((conv => whnf); repeat (refine And.intro rfl ?_; (conv => whnf)))
        refine ⟨by omega, by omega, ?_⟩
        ((conv => whnf); repeat (refine And.intro rfl ?_; (conv => whnf)))
        refine ⟨_, rbl_atN k (by omega) hk', ?_⟩
        ((conv => whnf); repeat (refine And.intro rfl ?_; (conv => whnf)))
        refine .inl ⟨inr, ?_⟩
        ((conv => whnf); repeat (refine And.intro rfl ?_; (conv => whnf)))
        exact ⟨k + 1, by omega, by dsimp only; omega, le_envH ⟨rfl, rfl, rfl, rfl, rfl, rfl, rfl, trivial⟩ (by rw [put (by rw [trk, hk1, kid0 (by omega), kid1 (by omega)]; simp [trF, c0])])⟩
    (refine ifK_split (fun g7 => ?_) (fun g7 => ?_) <;> (rw [g7]; ((conv => whnf); repeat (refine And.intro rfl ?_; (conv => whnf)))))
    · have hk1 : t.kind = 7 := by ((try simp only [oo, reduceCtorEq] at *) <;> omega)
      refine .inl ⟨inr, ?_⟩
      ((conv => whnf); repeat (refine And.intro rfl ?_; (conv => whnf)))
      (refine .inl ⟨_, (hK 0 (k + 1) (by omega) (by omega)), ?_⟩; ((conv => whnf); repeat (refine And.intro rfl ?_; (conv => whnf))))
      refine ⟨by omega, by omega, ?_⟩
      ((conv => whnf); repeat (refine And.intro rfl ?_; (conv => whnf)))
      refine ⟨_, rbl_atN k (by omega) hk', ?_⟩
      ((conv => whnf); repeat (refine And.intro rfl ?_; (conv => whnf)))
      refine .inl ⟨inr, ?_⟩
      ((conv => whnf); repeat (refine And.intro rfl ?_; (conv => whnf)))
      exact ⟨k + 1, by omega, by dsimp only; omega, le_envH ⟨rfl, rfl, rfl, rfl, rfl, rfl, rfl, trivial⟩ (by rw [put (by rw [trk, hk1, kid0 (by omega), hn, hm]; rfl)])⟩
    (refine ifK_split (fun g10 => ?_) (fun g10 => ?_) <;> (rw [g10]; ((conv => whnf); repeat (refine And.intro rfl ?_; (conv => whnf)))))
    · have hk1 : t.kind = 10 := by ((try simp only [oo, reduceCtorEq] at *) <;> omega)
      have e0 := kid0 (by omega)
      have spec : trT s l t k = untilF n m (fun _ => true) (trT s l (t.kid 0)) k := by rw [trk, hk1, e0, hn, hm]; rfl
      have inj : ∀ j : Nat, j < n + m → InR .i64 ((j : Int) + 1) := fun j hj => by unfold InR; rw [IntKind.wrap_i64]; omega
      have nm : InR .i64 ((n : Int) + m) := by unfold InR; rw [IntKind.wrap_i64]; omega
      have fin : ∀ {o : Bool}, o = trT s l t k → rbl n (curF (trT s l t) k o) = rbl n (curF (trT s l t) (k + 1) false) := fun h => cur_next h
      refine pwp_loop (fun x : Nat × Bool => [(2, .loc 0 0), (3, .loc 1 0), (5, .ipt [.sc (.int .i64 n)]), (6, .ipt [.sc (.int .i64 m)]), (9, .fn (.func 82) [] [.ipt [.sc (.int .i64 n)], .ipt [.sc (.int .i64 m)], .ipt [.lst 1 (kidsV s l t t.width)]]), (10, .own 6 0 0 n), (11, .sc (.int .i64 k)), (12, .sc (.int .i64 x.1))])
        (fun x => [.row true (drow t), .row true (wcells s l), .row false [.sc (.int .i64 n)], .row false [.sc (.int .i64 m)], .row false [.lst 1 (kidsV s l t t.width)], .vec false t.width 1 (kidsV s l t t.width), .vec true 0 1 (rbl n (curF (trT s l t) k x.2))])
        (fun x => k ≤ x.1 ∧ x.1 ≤ n + m ∧ trT s l t k = (x.2 || untilF n m (fun _ => true) (trT s l (t.kid 0)) x.1)) (fun x => n + m - x.1) (k, false) ⟨by simp, by dsimp only; omega, by simp [spec]⟩ (le_envH ⟨rfl, rfl, rfl, rfl, rfl, rfl, rfl, rfl, trivial⟩ rfl) ?_
      rintro ⟨j, o⟩ ⟨hj0, hj, hinv⟩
      dsimp only at hj0 hj hinv
      (apply red_sound; focus (repeat' (first | exact Red.skip | exact Red.ret | exact RedO.nil | exact RedD.nil | exact Red.exit _ | exact Red.loop _ | exact Red.stop _ | apply Red.ops | apply Red.draw | apply Red.seq | apply Red.cond | apply Red.block | apply RedO.cons | apply RedD.cons | exact (0 : Nat))))
      ((conv => whnf); repeat (refine And.intro rfl ?_; (conv => whnf)))
      refine .inl ⟨nm, ?_⟩
      ((conv => whnf); repeat (refine And.intro rfl ?_; (conv => whnf)))
      (refine ifK_split (fun q1 => ?_) (fun q1 => ?_) <;> (rw [q1]; ((conv => whnf); repeat (refine And.intro rfl ?_; (conv => whnf)))))
      · have hj' : j < n + m := by ((try simp only [oo, reduceCtorEq] at *) <;> omega)
        have st := vv_step (n := n) (m := m) (a := fun _ => true) (b := trT s l (t.kid 0)) hj'
        refine ⟨by omega, by omega, ?_⟩
        ((conv => whnf); repeat (refine And.intro rfl ?_; (conv => whnf)))
        refine ⟨_, rbl_atN k (by omega) hk', ?_⟩
        rw [curF_at]
        ((conv => whnf); repeat (refine And.intro rfl ?_; (conv => whnf)))
        cases o
        · ((conv => whnf); repeat (refine And.intro rfl ?_; (conv => whnf)))
          (refine .inl ⟨_, (hK 0 j (by omega) hj'), ?_⟩; ((conv => whnf); repeat (refine And.intro rfl ?_; (conv => whnf))))
          refine ⟨by omega, by omega, ?_⟩
          ((conv => whnf); repeat (refine And.intro rfl ?_; (conv => whnf)))
          refine ⟨_, rbl_atN k (by omega) hk', ?_⟩
          ((conv => whnf); repeat (refine And.intro rfl ?_; (conv => whnf)))
          refine .inl ⟨inj j hj', ?_⟩
          ((conv => whnf); repeat (refine And.intro rfl ?_; (conv => whnf)))
          refine ⟨(j + 1, trT s l (t.kid 0) (wr n m j)), ⟨by dsimp only; omega, by dsimp only; omega, by rw [hinv, st]; simp⟩, by dsimp only; omega, le_envH ⟨rfl, rfl, rfl, rfl, rfl, rfl, rfl, rfl, trivial⟩ (by rw [cur_set (by omega)])⟩
        · ((conv => whnf); repeat (refine And.intro rfl ?_; (conv => whnf)))
          refine ⟨by omega, by omega, ?_⟩
          ((conv => whnf); repeat (refine And.intro rfl ?_; (conv => whnf)))
          refine ⟨_, rbl_atN k (by omega) hk', ?_⟩
          ((conv => whnf); repeat (refine And.intro rfl ?_; (conv => whnf)))
          refine .inl ⟨inj j hj', ?_⟩
          ((conv => whnf); repeat (refine And.intro rfl ?_; (conv => whnf)))
          refine ⟨(j + 1, true), ⟨by dsimp only; omega, by dsimp only; omega, by rw [hinv]; simp⟩, by dsimp only; omega, le_envH ⟨rfl, rfl, rfl, rfl, rfl, rfl, rfl, rfl, trivial⟩ (by rw [cur_set (by omega)])⟩
      · have hj' : n + m ≤ j := by ((try simp only [oo, reduceCtorEq] at *) <;> omega)
        have st := vv_end (n := n) (m := m) (a := fun _ => true) (b := trT s l (t.kid 0)) hj'
        refine .inl ⟨inr, ?_⟩
        ((conv => whnf); repeat (refine And.intro rfl ?_; (conv => whnf)))
        exact ⟨k + 1, by omega, by dsimp only; omega, le_envH ⟨rfl, rfl, rfl, rfl, rfl, rfl, rfl, trivial⟩ (by rw [fin (by rw [hinv, st]; simp)])⟩
    (refine ifK_split (fun g11 => ?_) (fun g11 => ?_) <;> (rw [g11]; ((conv => whnf); repeat (refine And.intro rfl ?_; (conv => whnf)))))
    · have hk1 : t.kind = 11 := by ((try simp only [oo, reduceCtorEq] at *) <;> omega)
      have e0 := kid0 (by omega)
      have spec : trT s l t k = !(untilF n m (fun _ => true) (fun i => !(trT s l (t.kid 0) i)) k) := by rw [trk, hk1, e0, hn, hm]; rfl
      have inj : ∀ j : Nat, j < n + m → InR .i64 ((j : Int) + 1) := fun j hj => by unfold InR; rw [IntKind.wrap_i64]; omega
      have nm : InR .i64 ((n : Int) + m) := by unfold InR; rw [IntKind.wrap_i64]; omega
      have fin : ∀ {o : Bool}, o = trT s l t k → rbl n (curF (trT s l t) k o) = rbl n (curF (trT s l t) (k + 1) false) := fun h => cur_next h
      refine ⟨by omega, by omega, ?_⟩
      ((conv => whnf); repeat (refine And.intro rfl ?_; (conv => whnf)))
      refine ⟨_, rbl_atN k (by omega) hk', ?_⟩
      ((conv => whnf); repeat (refine And.intro rfl ?_; (conv => whnf)))
      refine pwp_loop (fun x : Nat × Bool => [(2, .loc 0 0), (3, .loc 1 0), (5, .ipt [.sc (.int .i64 n)]), (6, .ipt [.sc (.int .i64 m)]), (9, .fn (.func 82) [] [.ipt [.sc (.int .i64 n)], .ipt [.sc (.int .i64 m)], .ipt [.lst 1 (kidsV s l t t.width)]]), (10, .own 6 0 0 n), (11, .sc (.int .i64 k)), (13, .sc (.int .i64 x.1))])
        (fun x => [.row true (drow t), .row true (wcells s l), .row false [.sc (.int .i64 n)], .row false [.sc (.int .i64 m)], .row false [.lst 1 (kidsV s l t t.width)], .vec false t.width 1 (kidsV s l t t.width), .vec true 0 1 (rbl n (curF (trT s l t) k x.2))])
        (fun x => k ≤ x.1 ∧ x.1 ≤ n + m ∧ trT s l t k = (x.2 && !(untilF n m (fun _ => true) (fun i => !(trT s l (t.kid 0) i)) x.1))) (fun x => n + m - x.1) (k, true) ⟨by simp, by dsimp only; omega, by simp [spec]⟩ (le_envH ⟨rfl, rfl, rfl, rfl, rfl, rfl, rfl, rfl, trivial⟩ (by rw [cur_set (by omega)])) ?_
      rintro ⟨j, o⟩ ⟨hj0, hj, hinv⟩
      dsimp only at hj0 hj hinv
      (apply red_sound; focus (repeat' (first | exact Red.skip | exact Red.ret | exact RedO.nil | exact RedD.nil | exact Red.exit _ | exact Red.loop _ | exact Red.stop _ | apply Red.ops | apply Red.draw | apply Red.seq | apply Red.cond | apply Red.block | apply RedO.cons | apply RedD.cons | exact (0 : Nat))))
      ((conv => whnf); repeat (refine And.intro rfl ?_; (conv => whnf)))
      refine .inl ⟨nm, ?_⟩
      ((conv => whnf); repeat (refine And.intro rfl ?_; (conv => whnf)))
      (refine ifK_split (fun q1 => ?_) (fun q1 => ?_) <;> (rw [q1]; ((conv => whnf); repeat (refine And.intro rfl ?_; (conv => whnf)))))
      · have hj' : j < n + m := by ((try simp only [oo, reduceCtorEq] at *) <;> omega)
        have st := vv_step (n := n) (m := m) (a := fun _ => true) (b := fun i => !(trT s l (t.kid 0) i)) hj'
        refine ⟨by omega, by omega, ?_⟩
        ((conv => whnf); repeat (refine And.intro rfl ?_; (conv => whnf)))
        refine ⟨_, rbl_atN k (by omega) hk', ?_⟩
        rw [curF_at]
        ((conv => whnf); repeat (refine And.intro rfl ?_; (conv => whnf)))
        cases o
        · ((conv => whnf); repeat (refine And.intro rfl ?_; (conv => whnf)))
          refine ⟨by omega, by omega, ?_⟩
          ((conv => whnf); repeat (refine And.intro rfl ?_; (conv => whnf)))
          refine ⟨_, rbl_atN k (by omega) hk', ?_⟩
          ((conv => whnf); repeat (refine And.intro rfl ?_; (conv => whnf)))
          refine .inl ⟨inj j hj', ?_⟩
          ((conv => whnf); repeat (refine And.intro rfl ?_; (conv => whnf)))
          refine ⟨(j + 1, false), ⟨by dsimp only; omega, by dsimp only; omega, by rw [hinv]; simp⟩, by dsimp only; omega, le_envH ⟨rfl, rfl, rfl, rfl, rfl, rfl, rfl, rfl, trivial⟩ (by rw [cur_set (by omega)])⟩
        · ((conv => whnf); repeat (refine And.intro rfl ?_; (conv => whnf)))
          (refine .inl ⟨_, (hK 0 j (by omega) hj'), ?_⟩; ((conv => whnf); repeat (refine And.intro rfl ?_; (conv => whnf))))
          refine ⟨by omega, by omega, ?_⟩
          ((conv => whnf); repeat (refine And.intro rfl ?_; (conv => whnf)))
          refine ⟨_, rbl_atN k (by omega) hk', ?_⟩
          ((conv => whnf); repeat (refine And.intro rfl ?_; (conv => whnf)))
          refine .inl ⟨inj j hj', ?_⟩
          ((conv => whnf); repeat (refine And.intro rfl ?_; (conv => whnf)))
          refine ⟨(j + 1, trT s l (t.kid 0) (wr n m j)), ⟨by dsimp only; omega, by dsimp only; omega, by rw [hinv, st]; cases trT s l (t.kid 0) (wr n m j) <;> simp⟩, by dsimp only; omega, le_envH ⟨rfl, rfl, rfl, rfl, rfl, rfl, rfl, rfl, trivial⟩ (by rw [cur_set (by omega)])⟩
      · have hj' : n + m ≤ j := by ((try simp only [oo, reduceCtorEq] at *) <;> omega)
        have st := vv_end (n := n) (m := m) (a := fun _ => true) (b := fun i => !(trT s l (t.kid 0) i)) hj'
        refine .inl ⟨inr, ?_⟩
        ((conv => whnf); repeat (refine And.intro rfl ?_; (conv => whnf)))
        exact ⟨k + 1, by omega, by dsimp only; omega, le_envH ⟨rfl, rfl, rfl, rfl, rfl, rfl, rfl, trivial⟩ (by rw [fin (by rw [hinv, st]; simp)])⟩
    (refine ifK_split (fun g8 => ?_) (fun g8 => ?_) <;> (rw [g8]; ((conv => whnf); repeat (refine And.intro rfl ?_; (conv => whnf)))))
    · have hk1 : t.kind = 8 := by ((try simp only [oo, reduceCtorEq] at *) <;> omega)
      have e0 := kid0 (by omega)
      have e1 := kid1 (by omega)
      have spec : trT s l t k = untilF n m (trT s l (t.kid 0)) (trT s l (t.kid 1)) k := by rw [trk, hk1, e0, e1, hn, hm]; rfl
      have inj : ∀ j : Nat, j < n + m → InR .i64 ((j : Int) + 1) := fun j hj => by unfold InR; rw [IntKind.wrap_i64]; omega
      have nm : InR .i64 ((n : Int) + m) := by unfold InR; rw [IntKind.wrap_i64]; omega
      have fin : ∀ {o : Bool}, o = trT s l t k → rbl n (curF (trT s l t) k o) = rbl n (curF (trT s l t) (k + 1) false) := fun h => cur_next h
      refine pwp_loop (fun x : Nat × Bool × Bool => [(2, .loc 0 0), (3, .loc 1 0), (5, .ipt [.sc (.int .i64 n)]), (6, .ipt [.sc (.int .i64 m)]), (9, .fn (.func 82) [] [.ipt [.sc (.int .i64 n)], .ipt [.sc (.int .i64 m)], .ipt [.lst 1 (kidsV s l t t.width)]]), (10, .own 6 0 0 n), (11, .sc (.int .i64 k)), (14, .sc (.bool x.2.2)), (15, .sc (.int .i64 x.1))])
        (fun x => [.row true (drow t), .row true (wcells s l), .row false [.sc (.int .i64 n)], .row false [.sc (.int .i64 m)], .row false [.lst 1 (kidsV s l t t.width)], .vec false t.width 1 (kidsV s l t t.width), .vec true 0 1 (rbl n (curF (trT s l t) k x.2.1))])
        (fun x => k ≤ x.1 ∧ x.1 ≤ n + m ∧ trT s l t k = (x.2.1 || (x.2.2 && untilF n m (trT s l (t.kid 0)) (trT s l (t.kid 1)) x.1))) (fun x => n + m - x.1) (k, false, true) ⟨by simp, by dsimp only; omega, by simp [spec]⟩ (le_envH ⟨rfl, rfl, rfl, rfl, rfl, rfl, rfl, rfl, rfl, trivial⟩ rfl) ?_
      rintro ⟨j, o, ah⟩ ⟨hj0, hj, hinv⟩
      dsimp only at hj0 hj hinv
      (apply red_sound; focus (repeat' (first | exact Red.skip | exact Red.ret | exact RedO.nil | exact RedD.nil | exact Red.exit _ | exact Red.loop _ | exact Red.stop _ | apply Red.ops | apply Red.draw | apply Red.seq | apply Red.cond | apply Red.block | apply RedO.cons | apply RedD.cons | exact (0 : Nat))))
      ((conv => whnf); repeat (refine And.intro rfl ?_; (conv => whnf)))
      refine .inl ⟨nm, ?_⟩
      ((conv => whnf); repeat (refine And.intro rfl ?_; (conv => whnf)))
      (refine ifK_split (fun q1 => ?_) (fun q1 => ?_) <;> (rw [q1]; ((conv => whnf); repeat (refine And.intro rfl ?_; (conv => whnf)))))
      · have hj' : j < n + m := by ((try simp only [oo, reduceCtorEq] at *) <;> omega)
        have st := vv_step (n := n) (m := m) (a := trT s l (t.kid 0)) (b := trT s l (t.kid 1)) hj'
        refine ⟨by omega, by omega, ?_⟩
        ((conv => whnf); repeat (refine And.intro rfl ?_; (conv => whnf)))
        refine ⟨_, rbl_atN k (by omega) hk', ?_⟩
        rw [curF_at]
        ((conv => whnf); repeat (refine And.intro rfl ?_; (conv => whnf)))
        cases o
        · ((conv => whnf); repeat (refine And.intro rfl ?_; (conv => whnf)))
          cases ah
          · ((conv => whnf); repeat (refine And.intro rfl ?_; (conv => whnf)))
            refine ⟨by omega, by omega, ?_⟩
            ((conv => whnf); repeat (refine And.intro rfl ?_; (conv => whnf)))
            refine ⟨_, rbl_atN k (by omega) hk', ?_⟩
            ((conv => whnf); repeat (refine And.intro rfl ?_; (conv => whnf)))
            refine .inl ⟨inj j hj', ?_⟩
            ((conv => whnf); repeat (refine And.intro rfl ?_; (conv => whnf)))
            refine ⟨(j + 1, false, false), ⟨by dsimp only; omega, by dsimp only; omega, by rw [hinv]; simp⟩, by dsimp only; omega, le_envH ⟨rfl, rfl, rfl, rfl, rfl, rfl, rfl, rfl, rfl, trivial⟩ (by rw [cur_set (by omega)])⟩
          · ((conv => whnf); repeat (refine And.intro rfl ?_; (conv => whnf)))
            (refine .inl ⟨_, (hK 1 j (by omega) hj'), ?_⟩; ((conv => whnf); repeat (refine And.intro rfl ?_; (conv => whnf))))
            refine ⟨by omega, by omega, ?_⟩
            ((conv => whnf); repeat (refine And.intro rfl ?_; (conv => whnf)))
            refine ⟨_, rbl_atN k (by omega) hk', ?_⟩
            ((conv => whnf); repeat (refine And.intro rfl ?_; (conv => whnf)))
            (refine .inl ⟨_, (hK 0 j (by omega) hj'), ?_⟩; ((conv => whnf); repeat (refine And.intro rfl ?_; (conv => whnf))))
            refine .inl ⟨inj j hj', ?_⟩
            ((conv => whnf); repeat (refine And.intro rfl ?_; (conv => whnf)))
            refine ⟨(j + 1, trT s l (t.kid 1) (wr n m j), trT s l (t.kid 0) (wr n m j)), ⟨by dsimp only; omega, by dsimp only; omega, by rw [hinv, st]; simp⟩, by dsimp only; omega, le_envH ⟨rfl, rfl, rfl, rfl, rfl, rfl, rfl, rfl, rfl, trivial⟩ (by rw [cur_set (by omega)])⟩
        · ((conv => whnf); repeat (refine And.intro rfl ?_; (conv => whnf)))
          refine .inl ⟨inr, ?_⟩
          ((conv => whnf); repeat (refine And.intro rfl ?_; (conv => whnf)))
          exact ⟨k + 1, by omega, by dsimp only; omega, le_envH ⟨rfl, rfl, rfl, rfl, rfl, rfl, rfl, trivial⟩ (by rw [fin (by rw [hinv]; simp)])⟩
      · have hj' : n + m ≤ j := by ((try simp only [oo, reduceCtorEq] at *) <;> omega)
        have st := vv_end (n := n) (m := m) (a := trT s l (t.kid 0)) (b := trT s l (t.kid 1)) hj'
        refine .inl ⟨inr, ?_⟩
        ((conv => whnf); repeat (refine And.intro rfl ?_; (conv => whnf)))
        exact ⟨k + 1, by omega, by dsimp only; omega, le_envH ⟨rfl, rfl, rfl, rfl, rfl, rfl, rfl, trivial⟩ (by rw [fin (by rw [hinv, st]; simp)])⟩
    (refine ifK_split (fun g9 => ?_) (fun g9 => ?_) <;> (rw [g9]; ((conv => whnf); repeat (refine And.intro rfl ?_; (conv => whnf)))))
    · have hk1 : t.kind = 9 := by ((try simp only [oo, reduceCtorEq] at *) <;> omega)
      have e0 := kid0 (by omega)
      have e1 := kid1 (by omega)
      have spec : trT s l t k = !(untilF n m (fun i => !(trT s l (t.kid 0) i)) (fun i => !(trT s l (t.kid 1) i)) k) := by rw [trk, hk1, e0, e1, hn, hm]; rfl
      have inj : ∀ j : Nat, j < n + m → InR .i64 ((j : Int) + 1) := fun j hj => by unfold InR; rw [IntKind.wrap_i64]; omega
      have nm : InR .i64 ((n : Int) + m) := by unfold InR; rw [IntKind.wrap_i64]; omega
      have fin : ∀ {o : Bool}, o = trT s l t k → rbl n (curF (trT s l t) k o) = rbl n (curF (trT s l t) (k + 1) false) := fun h => cur_next h
      refine ⟨by omega, by omega, ?_⟩
      ((conv => whnf); repeat (refine And.intro rfl ?_; (conv => whnf)))
      refine ⟨_, rbl_atN k (by omega) hk', ?_⟩
      ((conv => whnf); repeat (refine And.intro rfl ?_; (conv => whnf)))
      refine pwp_loop (fun x : Nat × Bool => [(2, .loc 0 0), (3, .loc 1 0), (5, .ipt [.sc (.int .i64 n)]), (6, .ipt [.sc (.int .i64 m)]), (9, .fn (.func 82) [] [.ipt [.sc (.int .i64 n)], .ipt [.sc (.int .i64 m)], .ipt [.lst 1 (kidsV s l t t.width)]]), (10, .own 6 0 0 n), (11, .sc (.int .i64 k)), (16, .sc (.int .i64 x.1))])
        (fun x => [.row true (drow t), .row true (wcells s l), .row false [.sc (.int .i64 n)], .row false [.sc (.int .i64 m)], .row false [.lst 1 (kidsV s l t t.width)], .vec false t.width 1 (kidsV s l t t.width), .vec true 0 1 (rbl n (curF (trT s l t) k x.2))])
        (fun x => k ≤ x.1 ∧ x.1 ≤ n + m ∧ trT s l t k = (x.2 && !(untilF n m (fun i => !(trT s l (t.kid 0) i)) (fun i => !(trT s l (t.kid 1) i)) x.1))) (fun x => n + m - x.1) (k, true) ⟨by simp, by dsimp only; omega, by simp [spec]⟩ (le_envH ⟨rfl, rfl, rfl, rfl, rfl, rfl, rfl, rfl, trivial⟩ (by rw [cur_set (by omega)])) ?_
      rintro ⟨j, o⟩ ⟨hj0, hj, hinv⟩
      dsimp only at hj0 hj hinv
      (apply red_sound; focus (repeat' (first | exact Red.skip | exact Red.ret | exact RedO.nil | exact RedD.nil | exact Red.exit _ | exact Red.loop _ | exact Red.stop _ | apply Red.ops | apply Red.draw | apply Red.seq | apply Red.cond | apply Red.block | apply RedO.cons | apply RedD.cons | exact (0 : Nat))))
      ((conv => whnf); repeat (refine And.intro rfl ?_; (conv => whnf)))
      refine .inl ⟨nm, ?_⟩
      ((conv => whnf); repeat (refine And.intro rfl ?_; (conv => whnf)))
      (refine ifK_split (fun q1 => ?_) (fun q1 => ?_) <;> (rw [q1]; ((conv => whnf); repeat (refine And.intro rfl ?_; (conv => whnf)))))
      · have hj' : j < n + m := by ((try simp only [oo, reduceCtorEq] at *) <;> omega)
        have st := vv_step (n := n) (m := m) (a := fun i => !(trT s l (t.kid 0) i)) (b := fun i => !(trT s l (t.kid 1) i)) hj'
        refine ⟨by omega, by omega, ?_⟩
        ((conv => whnf); repeat (refine And.intro rfl ?_; (conv => whnf)))
        refine ⟨_, rbl_atN k (by omega) hk', ?_⟩
        rw [curF_at]
        ((conv => whnf); repeat (refine And.intro rfl ?_; (conv => whnf)))
        cases o
        · ((conv => whnf); repeat (refine And.intro rfl ?_; (conv => whnf)))
          refine .inl ⟨inr, ?_⟩
          ((conv => whnf); repeat (refine And.intro rfl ?_; (conv => whnf)))
          exact ⟨k + 1, by omega, by dsimp only; omega, le_envH ⟨rfl, rfl, rfl, rfl, rfl, rfl, rfl, trivial⟩ (by rw [fin (by rw [hinv]; simp)])⟩
        · ((conv => whnf); repeat (refine And.intro rfl ?_; (conv => whnf)))
          (refine .inl ⟨_, (hK 1 j (by omega) hj'), ?_⟩; ((conv => whnf); repeat (refine And.intro rfl ?_; (conv => whnf))))
          refine ⟨by omega, by omega, ?_⟩
          ((conv => whnf); repeat (refine And.intro rfl ?_; (conv => whnf)))
          refine ⟨_, rbl_atN k (by omega) hk', ?_⟩
          ((conv => whnf); repeat (refine And.intro rfl ?_; (conv => whnf)))
          (refine .inl ⟨_, (hK 0 j (by omega) hj'), ?_⟩; ((conv => whnf); repeat (refine And.intro rfl ?_; (conv => whnf))))
          cases c0 : trT s l (t.kid 0) (wr n m j)
          · ((conv => whnf); repeat (refine And.intro rfl ?_; (conv => whnf)))
            refine .inl ⟨inj j hj', ?_⟩
            ((conv => whnf); repeat (refine And.intro rfl ?_; (conv => whnf)))
            refine ⟨(j + 1, trT s l (t.kid 1) (wr n m j)), ⟨by dsimp only; omega, by dsimp only; omega, by rw [hinv, st, c0]; cases trT s l (t.kid 1) (wr n m j) <;> simp⟩, by dsimp only; omega, le_envH ⟨rfl, rfl, rfl, rfl, rfl, rfl, rfl, rfl, trivial⟩ (by rw [cur_set (by omega)])⟩
          · ((conv => whnf); repeat (refine And.intro rfl ?_; (conv => whnf)))
            refine .inl ⟨inr, ?_⟩
            ((conv => whnf); repeat (refine And.intro rfl ?_; (conv => whnf)))
            exact ⟨k + 1, by omega, by dsimp only; omega, le_envH ⟨rfl, rfl, rfl, rfl, rfl, rfl, rfl, trivial⟩ (by rw [cur_set (by omega), fin (by rw [hinv, st, c0]; cases trT s l (t.kid 1) (wr n m j) <;> simp)])⟩
      · have hj' : n + m ≤ j := by ((try simp only [oo, reduceCtorEq] at *) <;> omega)
        have st := vv_end (n := n) (m := m) (a := fun i => !(trT s l (t.kid 0) i)) (b := fun i => !(trT s l (t.kid 1) i)) hj'
        refine .inl ⟨inr, ?_⟩
        ((conv => whnf); repeat (refine And.intro rfl ?_; (conv => whnf)))
        exact ⟨k + 1, by omega, by dsimp only; omega, le_envH ⟨rfl, rfl, rfl, rfl, rfl, rfl, rfl, trivial⟩ (by rw [fin (by rw [hinv, st]; simp)])⟩
    · have hk1 : t.kind = 2 := by ((try simp only [oo, reduceCtorEq] at *) <;> omega)
      refine .inl ⟨inr, ?_⟩
      ((conv => whnf); repeat (refine And.intro rfl ?_; (conv => whnf)))
      exact ⟨k + 1, by omega, by dsimp only; omega, le_envH ⟨rfl, rfl, rfl, rfl, rfl, rfl, rfl, trivial⟩ (by rw [cur_next (by rw [trk, hk1]; rfl)])⟩
end Go.Proofs.Ytjnfahdolkgnoaa
