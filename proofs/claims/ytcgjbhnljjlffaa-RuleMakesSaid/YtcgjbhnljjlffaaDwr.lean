/-
  Patterns: the reference's formulas, over deep values. No statement is proved here.
-/
import Derived.Test.YtcgjbhnljjlffaaDwy
namespace Go.Proofs.Ytcgjbhnljjlffaa
open Go.RowKit
set_option linter.unusedSimpArgs false
set_option maxHeartbeats 4000000
def c246 : PC := .seq (.ops [⟨(some 2), .box (.tmp 0), none, 0⟩,
    ⟨(some 4), .alloc [(.int .i64 0), (.int .i64 0), (.slice none 0 0)], none, 0⟩] false) (.seq (.block 0 (.seq (.ops [⟨(some 6), .faddr 0 (.tmp 2), none, 0⟩,
    ⟨(some 7), .load1 (.tmp 6), none, 0⟩,
    ⟨(some 8), .bin .eql (.tmp 7) (.const (.int .i64 1)), none, 0⟩,
    ⟨(some 9), .move (.tmp 8), none, 0⟩,
    ⟨(some 10), .faddr 0 (.tmp 2), (some (9, false)), 0⟩,
    ⟨(some 11), .load1 (.tmp 10), (some (9, false)), 0⟩,
    ⟨(some 12), .bin .eql (.tmp 11) (.const (.int .i64 4)), (some (9, false)), 0⟩,
    ⟨(some 13), .move (.tmp 12), (some (9, false)), 0⟩,
    ⟨(some 14), .move (.tmp 1), (some (13, true)), 0⟩,
    ⟨(some 15), .bin .eql (.tmp 14) (.const (.int .i64 0)), (some (13, true)), 0⟩,
    ⟨(some 16), .pick (.tmp 13) (.tmp 15) (.const (.bool false)), (some (9, false)), 0⟩,
    ⟨(some 17), .pick (.tmp 9) (.const (.bool true)) (.tmp 16), none, 0⟩,
    ⟨(some 5), .move (.tmp 17), none, 0⟩] false) (.cond (.tmp 5) (.seq (.ops [⟨(some 18), .faddr 2 (.tmp 2), none, 0⟩,
    ⟨(some 19), .load1 (.tmp 18), none, 0⟩,
    ⟨(some 20), .call 242 [(.tmp 19)], none, 0⟩,
    ⟨(some 21), .call 240 [(.tmp 20)], none, 0⟩,
    ⟨(some 22), .call 241 [(.const (.int .i64 11)), (.tmp 21)], none, 0⟩,
    ⟨none, .store 3 (.tmp 4) (.tmp 22), none, 0⟩] false) (.ret)) (.seq (.ops [⟨(some 24), .faddr 0 (.tmp 2), none, 0⟩,
    ⟨(some 25), .load1 (.tmp 24), none, 0⟩,
    ⟨(some 26), .bin .eql (.tmp 25) (.const (.int .i64 2)), none, 0⟩,
    ⟨(some 23), .move (.tmp 26), none, 0⟩] false) (.cond (.tmp 23) (.seq (.ops [⟨(some 27), .faddr 2 (.tmp 2), none, 0⟩,
    ⟨(some 28), .load1 (.tmp 27), none, 0⟩,
    ⟨(some 29), .call 242 [(.tmp 28)], none, 0⟩,
    ⟨(some 30), .call 241 [(.const (.int .i64 11)), (.tmp 29)], none, 0⟩,
    ⟨none, .store 3 (.tmp 4) (.tmp 30), none, 0⟩] false) (.ret)) (.seq (.ops [⟨(some 32), .faddr 0 (.tmp 2), none, 0⟩,
    ⟨(some 33), .load1 (.tmp 32), none, 0⟩,
    ⟨(some 34), .bin .eql (.tmp 33) (.const (.int .i64 3)), none, 0⟩,
    ⟨(some 31), .move (.tmp 34), none, 0⟩] false) (.cond (.tmp 31) (.seq (.ops [⟨(some 35), .faddr 2 (.tmp 2), none, 0⟩,
    ⟨(some 36), .load1 (.tmp 35), none, 0⟩,
    ⟨(some 37), .call 242 [(.tmp 36)], none, 0⟩,
    ⟨(some 38), .call 241 [(.const (.int .i64 10)), (.tmp 37)], none, 0⟩,
    ⟨none, .store 3 (.tmp 4) (.tmp 38), none, 0⟩] false) (.ret)) (.seq (.ops [⟨(some 40), .faddr 0 (.tmp 2), none, 0⟩,
    ⟨(some 41), .load1 (.tmp 40), none, 0⟩,
    ⟨(some 42), .bin .eql (.tmp 41) (.const (.int .i64 4)), none, 0⟩,
    ⟨(some 39), .move (.tmp 42), none, 0⟩] false) (.cond (.tmp 39) (.seq (.ops [⟨(some 43), .faddr 2 (.tmp 2), none, 0⟩,
    ⟨(some 44), .load1 (.tmp 43), none, 1⟩,
    ⟨(some 45), .call 242 [(.tmp 44)], none, 3⟩,
    ⟨(some 46), .call 240 [(.tmp 45)], none, 7⟩,
    ⟨(some 47), .faddr 2 (.tmp 2), none, 0⟩,
    ⟨(some 48), .load1 (.tmp 47), none, 16⟩,
    ⟨(some 49), .call 242 [(.tmp 48)], none, 63⟩,
    ⟨(some 50), .loadA 7 (.tmp 2), none, 0⟩,
    ⟨(some 51), .move (.tmp 1), none, 0⟩,
    ⟨(some 52), .bin .sub (.tmp 51) (.const (.int .i64 1)), none, 256⟩,
    ⟨(some 53), .call 246 [(.tmp 50), (.tmp 52)], none, 1023⟩,
    ⟨(some 54), .call 241 [(.const (.int .i64 7)), (.tmp 53)], none, 2047⟩,
    ⟨(some 55), .call 245 [(.tmp 49), (.tmp 54)], none, 4095⟩,
    ⟨(some 56), .call 244 [(.const (.int .i64 8)), (.tmp 46), (.tmp 55)], none, 8191⟩,
    ⟨(some 57), .faddr 2 (.tmp 2), none, 0⟩,
    ⟨(some 58), .load1 (.tmp 57), none, 16384⟩,
    ⟨(some 59), .call 242 [(.tmp 58)], none, 65535⟩,
    ⟨(some 60), .call 240 [(.tmp 59)], none, 131071⟩,
    ⟨(some 61), .call 241 [(.const (.int .i64 11)), (.tmp 60)], none, 262143⟩,
    ⟨(some 62), .call 239 [(.tmp 56), (.tmp 61)], none, 524287⟩,
    ⟨none, .store 3 (.tmp 4) (.tmp 62), none, 1048575⟩] true) (.ret)) (.seq (.ops [⟨(some 64), .faddr 0 (.tmp 2), none, 0⟩,
    ⟨(some 65), .load1 (.tmp 64), none, 0⟩,
    ⟨(some 66), .bin .eql (.tmp 65) (.const (.int .i64 5)), none, 0⟩,
    ⟨(some 63), .move (.tmp 66), none, 0⟩] false) (.cond (.tmp 63) (.seq (.ops [⟨(some 67), .faddr 2 (.tmp 2), none, 0⟩,
    ⟨(some 68), .load1 (.tmp 67), none, 1⟩,
    ⟨(some 69), .call 242 [(.tmp 68)], none, 3⟩,
    ⟨(some 70), .call 240 [(.tmp 69)], none, 7⟩,
    ⟨(some 71), .faddr 3 (.tmp 2), none, 0⟩,
    ⟨(some 72), .load1 (.tmp 71), none, 16⟩,
    ⟨(some 73), .call 242 [(.tmp 72)], none, 63⟩,
    ⟨(some 74), .call 244 [(.const (.int .i64 8)), (.tmp 70), (.tmp 73)], none, 127⟩,
    ⟨(some 75), .faddr 2 (.tmp 2), none, 0⟩,
    ⟨(some 76), .load1 (.tmp 75), none, 256⟩,
    ⟨(some 77), .call 242 [(.tmp 76)], none, 1023⟩,
    ⟨(some 78), .call 240 [(.tmp 77)], none, 2047⟩,
    ⟨(some 79), .call 241 [(.const (.int .i64 11)), (.tmp 78)], none, 4095⟩,
    ⟨(some 80), .call 239 [(.tmp 74), (.tmp 79)], none, 8191⟩,
    ⟨none, .store 3 (.tmp 4) (.tmp 80), none, 16383⟩] true) (.ret)) (.skip)))))))))))) (.seq (.ops [⟨(some 81), .faddr 2 (.tmp 2), none, 0⟩,
    ⟨(some 82), .load1 (.tmp 81), none, 1⟩,
    ⟨(some 83), .call 242 [(.tmp 82)], none, 3⟩,
    ⟨(some 84), .call 240 [(.tmp 83)], none, 7⟩,
    ⟨(some 85), .faddr 3 (.tmp 2), none, 0⟩,
    ⟨(some 86), .load1 (.tmp 85), none, 16⟩,
    ⟨(some 87), .call 242 [(.tmp 86)], none, 63⟩,
    ⟨(some 88), .call 241 [(.const (.int .i64 10)), (.tmp 87)], none, 127⟩,
    ⟨(some 89), .call 239 [(.tmp 84), (.tmp 88)], none, 255⟩,
    ⟨(some 90), .call 241 [(.const (.int .i64 11)), (.tmp 89)], none, 511⟩,
    ⟨none, .store 3 (.tmp 4) (.tmp 90), none, 1023⟩] true) (.ret)))
set_option maxRecDepth 100000 in
theorem c246_ok : FunOK Try.prog 246 91 [.agg 4 3] c246 := ⟨⟨Try.f246, Try.func246, rfl, by kernel_rfl, rfl, by kernel_rfl⟩⟩
def c243 : PC := .seq (.ops [⟨(some 3), .box (.tmp 0), none, 0⟩,
    ⟨(some 6), .alloc [(.int .i64 0), (.int .i64 0), (.slice none 0 0)], none, 0⟩] false) (.seq (.ops [⟨(some 9), .faddr 2 (.tmp 3), none, 0⟩,
    ⟨(some 10), .load1 (.tmp 9), none, 1⟩,
    ⟨(some 11), .call 242 [(.tmp 10)], none, 3⟩,
    ⟨(some 12), .call 240 [(.tmp 11)], none, 7⟩,
    ⟨(some 13), .faddr 5 (.tmp 3), none, 0⟩,
    ⟨(some 14), .load1 (.tmp 13), none, 16⟩,
    ⟨(some 15), .call 242 [(.tmp 14)], none, 63⟩,
    ⟨(some 7), .alloc [(.int .i64 0), (.int .i64 0), (.slice none 0 0)], none, 0⟩,
    ⟨(some 8), .alloc [(.int .i64 0), (.int .i64 0), (.slice none 0 0)], none, 0⟩,
    ⟨none, .store 3 (.tmp 7) (.tmp 12), none, 511⟩,
    ⟨none, .store 3 (.tmp 8) (.tmp 15), none, 1023⟩] true) (.seq (.seq (.ops [⟨(some 16), .faddr 0 (.tmp 3), none, 0⟩,
    ⟨(some 17), .load1 (.tmp 16), none, 0⟩] false) (.block 0 (.seq (.ops [⟨(some 19), .bin .eql (.tmp 17) (.const (.int .i64 3)), none, 0⟩,
    ⟨(some 18), .move (.tmp 19), none, 0⟩] false) (.cond (.tmp 18) (.seq (.ops [⟨(some 20), .faddr 5 (.tmp 3), none, 0⟩,
    ⟨(some 21), .load1 (.tmp 20), none, 1⟩,
    ⟨(some 22), .call 242 [(.tmp 21)], none, 3⟩,
    ⟨(some 23), .call 240 [(.tmp 22)], none, 7⟩,
    ⟨(some 24), .faddr 2 (.tmp 3), none, 0⟩,
    ⟨(some 25), .load1 (.tmp 24), none, 16⟩,
    ⟨(some 26), .call 242 [(.tmp 25)], none, 63⟩,
    ⟨(some 27), .faddr 5 (.tmp 3), none, 0⟩,
    ⟨(some 28), .load1 (.tmp 27), none, 128⟩,
    ⟨(some 29), .call 242 [(.tmp 28)], none, 511⟩,
    ⟨(some 30), .call 240 [(.tmp 29)], none, 1023⟩,
    ⟨(some 31), .call 245 [(.tmp 26), (.tmp 30)], none, 2047⟩,
    ⟨(some 32), .call 244 [(.const (.int .i64 8)), (.tmp 23), (.tmp 31)], none, 4095⟩,
    ⟨none, .store 3 (.tmp 6) (.tmp 32), none, 8191⟩] true) (.ret)) (.seq (.ops [⟨(some 34), .bin .eql (.tmp 17) (.const (.int .i64 2)), none, 0⟩,
    ⟨(some 33), .move (.tmp 34), none, 0⟩] false) (.cond (.tmp 33) (.ops [⟨(some 35), .faddr 2 (.tmp 3), none, 0⟩,
    ⟨(some 36), .load1 (.tmp 35), none, 0⟩,
    ⟨(some 37), .call 242 [(.tmp 36)], none, 0⟩,
    ⟨none, .store 3 (.tmp 7) (.tmp 37), none, 0⟩] false) (.seq (.ops [⟨(some 39), .bin .eql (.tmp 17) (.const (.int .i64 4)), none, 0⟩,
    ⟨(some 38), .move (.tmp 39), none, 0⟩] false) (.cond (.tmp 38) (.seq (.ops [⟨(some 40), .move (.tmp 1), none, 0⟩,
    ⟨(some 41), .bin .gtr (.tmp 40) (.const (.int .i64 0)), none, 0⟩] false) (.cond (.tmp 41) (.ops [⟨(some 42), .faddr 5 (.tmp 3), none, 0⟩,
    ⟨(some 43), .load1 (.tmp 42), none, 1⟩,
    ⟨(some 44), .call 242 [(.tmp 43)], none, 3⟩,
    ⟨(some 45), .faddr 2 (.tmp 3), none, 0⟩,
    ⟨(some 46), .load1 (.tmp 45), none, 8⟩,
    ⟨(some 47), .call 242 [(.tmp 46)], none, 31⟩,
    ⟨(some 48), .faddr 5 (.tmp 3), none, 0⟩,
    ⟨(some 49), .load1 (.tmp 48), none, 64⟩,
    ⟨(some 50), .call 242 [(.tmp 49)], none, 255⟩,
    ⟨(some 51), .call 240 [(.tmp 50)], none, 511⟩,
    ⟨(some 52), .call 245 [(.tmp 47), (.tmp 51)], none, 1023⟩,
    ⟨(some 53), .loadA 7 (.tmp 3), none, 0⟩,
    ⟨(some 54), .move (.tmp 1), none, 0⟩,
    ⟨(some 55), .bin .sub (.tmp 54) (.const (.int .i64 1)), none, 4096⟩,
    ⟨(some 56), .move (.tmp 2), none, 0⟩,
    ⟨(some 57), .call 243 [(.tmp 53), (.tmp 55), (.tmp 56)], none, 32767⟩,
    ⟨(some 58), .call 241 [(.const (.int .i64 7)), (.tmp 57)], none, 65535⟩,
    ⟨(some 59), .call 245 [(.tmp 52), (.tmp 58)], none, 131071⟩,
    ⟨(some 60), .call 239 [(.tmp 44), (.tmp 59)], none, 262143⟩,
    ⟨none, .store 3 (.tmp 8) (.tmp 60), none, 524287⟩] true) (.skip))) (.seq (.ops [⟨(some 62), .bin .eql (.tmp 17) (.const (.int .i64 5)), none, 0⟩,
    ⟨(some 61), .move (.tmp 62), none, 0⟩] false) (.cond (.tmp 61) (.ops [⟨(some 63), .faddr 3 (.tmp 3), none, 0⟩,
    ⟨(some 64), .load1 (.tmp 63), none, 1⟩,
    ⟨(some 65), .call 242 [(.tmp 64)], none, 3⟩,
    ⟨(some 66), .faddr 5 (.tmp 3), none, 0⟩,
    ⟨(some 67), .load1 (.tmp 66), none, 8⟩,
    ⟨(some 68), .call 242 [(.tmp 67)], none, 31⟩,
    ⟨(some 69), .call 239 [(.tmp 65), (.tmp 68)], none, 63⟩,
    ⟨none, .store 3 (.tmp 8) (.tmp 69), none, 127⟩] true) (.seq (.ops [⟨(some 71), .bin .eql (.tmp 17) (.const (.int .i64 6)), none, 0⟩,
    ⟨(some 70), .move (.tmp 71), none, 0⟩] false) (.cond (.tmp 70) (.ops [⟨(some 72), .faddr 2 (.tmp 3), none, 0⟩,
    ⟨(some 73), .load1 (.tmp 72), none, 1⟩,
    ⟨(some 74), .call 242 [(.tmp 73)], none, 3⟩,
    ⟨(some 75), .call 240 [(.tmp 74)], none, 7⟩,
    ⟨(some 76), .faddr 5 (.tmp 3), none, 0⟩,
    ⟨(some 77), .load1 (.tmp 76), none, 16⟩,
    ⟨(some 78), .call 242 [(.tmp 77)], none, 63⟩,
    ⟨(some 79), .call 240 [(.tmp 78)], none, 127⟩,
    ⟨(some 80), .faddr 3 (.tmp 3), none, 0⟩,
    ⟨(some 81), .load1 (.tmp 80), none, 256⟩,
    ⟨(some 82), .call 242 [(.tmp 81)], none, 1023⟩,
    ⟨(some 83), .faddr 5 (.tmp 3), none, 0⟩,
    ⟨(some 84), .load1 (.tmp 83), none, 2048⟩,
    ⟨(some 85), .call 242 [(.tmp 84)], none, 8191⟩,
    ⟨(some 86), .call 240 [(.tmp 85)], none, 16383⟩,
    ⟨(some 87), .call 245 [(.tmp 82), (.tmp 86)], none, 32767⟩,
    ⟨(some 88), .call 244 [(.const (.int .i64 8)), (.tmp 79), (.tmp 87)], none, 65535⟩,
    ⟨(some 89), .call 239 [(.tmp 75), (.tmp 88)], none, 131071⟩,
    ⟨none, .store 3 (.tmp 7) (.tmp 89), none, 262143⟩] true) (.skip))))))))))))) (.seq (.seq (.ops [⟨(some 90), .move (.tmp 2), none, 0⟩] false) (.cond (.tmp 90) (.seq (.ops [⟨(some 91), .loadA 3 (.tmp 7), none, 0⟩,
    ⟨(some 92), .loadA 3 (.tmp 8), none, 0⟩,
    ⟨(some 93), .call 244 [(.const (.int .i64 8)), (.tmp 91), (.tmp 92)], none, 3⟩,
    ⟨(some 94), .loadA 3 (.tmp 7), none, 0⟩,
    ⟨(some 95), .call 241 [(.const (.int .i64 11)), (.tmp 94)], none, 15⟩,
    ⟨(some 96), .call 239 [(.tmp 93), (.tmp 95)], none, 31⟩,
    ⟨none, .store 3 (.tmp 6) (.tmp 96), none, 63⟩] true) (.ret)) (.skip))) (.seq (.ops [⟨(some 97), .loadA 3 (.tmp 7), none, 0⟩,
    ⟨(some 98), .loadA 3 (.tmp 8), none, 0⟩,
    ⟨(some 99), .call 244 [(.const (.int .i64 8)), (.tmp 97), (.tmp 98)], none, 0⟩,
    ⟨none, .store 3 (.tmp 6) (.tmp 99), none, 0⟩] false) (.ret)))))
set_option maxRecDepth 100000 in
theorem c243_ok : FunOK Try.prog 243 100 [.agg 6 3] c243 := ⟨⟨Try.f243, Try.func243, rfl, by kernel_rfl, rfl, by kernel_rfl⟩⟩
def c182 : PC := .seq (.ops [⟨(some 1), .box (.tmp 0), none, 0⟩,
    ⟨(some 2), .alloc [(.int .i64 0), (.int .i64 0), (.slice none 0 0)], none, 0⟩] false) (.seq (.seq (.ops [⟨(some 3), .faddr 1 (.tmp 1), none, 0⟩,
    ⟨(some 4), .load1 (.tmp 3), none, 0⟩] false) (.block 0 (.seq (.ops [⟨(some 6), .bin .eql (.tmp 4) (.const (.int .i64 2)), none, 0⟩,
    ⟨(some 5), .move (.tmp 6), none, 0⟩] false) (.cond (.tmp 5) (.seq (.ops [⟨(some 7), .faddr 5 (.tmp 1), none, 0⟩,
    ⟨(some 8), .load1 (.tmp 7), none, 1⟩,
    ⟨(some 9), .call 242 [(.tmp 8)], none, 3⟩,
    ⟨(some 10), .call 241 [(.const (.int .i64 10)), (.tmp 9)], none, 7⟩,
    ⟨(some 11), .call 240 [(.tmp 10)], none, 15⟩,
    ⟨(some 12), .loadA 7 (.tmp 1), none, 0⟩,
    ⟨(some 13), .faddr 6 (.tmp 1), none, 0⟩,
    ⟨(some 14), .load1 (.tmp 13), none, 64⟩,
    ⟨(some 15), .call 243 [(.tmp 12), (.tmp 14), (.const (.bool false))], none, 255⟩,
    ⟨(some 16), .call 239 [(.tmp 11), (.tmp 15)], none, 511⟩,
    ⟨none, .store 3 (.tmp 2) (.tmp 16), none, 1023⟩] true) (.ret)) (.seq (.ops [⟨(some 18), .bin .eql (.tmp 4) (.const (.int .i64 3)), none, 0⟩,
    ⟨(some 17), .move (.tmp 18), none, 0⟩] false) (.cond (.tmp 17) (.seq (.ops [⟨(some 19), .faddr 4 (.tmp 1), none, 0⟩,
    ⟨(some 20), .load1 (.tmp 19), none, 1⟩,
    ⟨(some 21), .call 242 [(.tmp 20)], none, 3⟩,
    ⟨(some 22), .call 240 [(.tmp 21)], none, 7⟩,
    ⟨(some 23), .call 241 [(.const (.int .i64 11)), (.tmp 22)], none, 15⟩,
    ⟨(some 24), .faddr 4 (.tmp 1), none, 0⟩,
    ⟨(some 25), .load1 (.tmp 24), none, 32⟩,
    ⟨(some 26), .call 242 [(.tmp 25)], none, 127⟩,
    ⟨(some 27), .call 240 [(.tmp 26)], none, 255⟩,
    ⟨(some 28), .faddr 4 (.tmp 1), none, 0⟩,
    ⟨(some 29), .load1 (.tmp 28), none, 512⟩,
    ⟨(some 30), .call 242 [(.tmp 29)], none, 2047⟩,
    ⟨(some 31), .loadA 7 (.tmp 1), none, 0⟩,
    ⟨(some 32), .faddr 6 (.tmp 1), none, 0⟩,
    ⟨(some 33), .load1 (.tmp 32), none, 8192⟩,
    ⟨(some 34), .call 246 [(.tmp 31), (.tmp 33)], none, 32767⟩,
    ⟨(some 35), .call 245 [(.tmp 30), (.tmp 34)], none, 65535⟩,
    ⟨(some 36), .call 244 [(.const (.int .i64 8)), (.tmp 27), (.tmp 35)], none, 131071⟩,
    ⟨(some 37), .call 239 [(.tmp 23), (.tmp 36)], none, 262143⟩,
    ⟨none, .store 3 (.tmp 2) (.tmp 37), none, 524287⟩] true) (.ret)) (.seq (.ops [⟨(some 39), .bin .eql (.tmp 4) (.const (.int .i64 4)), none, 0⟩,
    ⟨(some 38), .move (.tmp 39), none, 0⟩] false) (.cond (.tmp 38) (.seq (.ops [⟨(some 40), .faddr 4 (.tmp 1), none, 0⟩,
    ⟨(some 41), .load1 (.tmp 40), none, 1⟩,
    ⟨(some 42), .call 242 [(.tmp 41)], none, 3⟩,
    ⟨(some 43), .faddr 5 (.tmp 1), none, 0⟩,
    ⟨(some 44), .load1 (.tmp 43), none, 8⟩,
    ⟨(some 45), .call 242 [(.tmp 44)], none, 31⟩,
    ⟨(some 46), .call 240 [(.tmp 45)], none, 63⟩,
    ⟨(some 47), .call 245 [(.tmp 42), (.tmp 46)], none, 127⟩,
    ⟨(some 48), .faddr 5 (.tmp 1), none, 0⟩,
    ⟨(some 49), .load1 (.tmp 48), none, 256⟩,
    ⟨(some 50), .call 242 [(.tmp 49)], none, 1023⟩,
    ⟨(some 51), .call 241 [(.const (.int .i64 10)), (.tmp 50)], none, 2047⟩,
    ⟨(some 52), .call 245 [(.tmp 47), (.tmp 51)], none, 4095⟩,
    ⟨(some 53), .call 240 [(.tmp 52)], none, 8191⟩,
    ⟨(some 54), .loadA 7 (.tmp 1), none, 0⟩,
    ⟨(some 55), .faddr 6 (.tmp 1), none, 0⟩,
    ⟨(some 56), .load1 (.tmp 55), none, 32768⟩,
    ⟨(some 57), .call 243 [(.tmp 54), (.tmp 56), (.const (.bool false))], none, 131071⟩,
    ⟨(some 58), .call 239 [(.tmp 53), (.tmp 57)], none, 262143⟩,
    ⟨(some 59), .call 241 [(.const (.int .i64 11)), (.tmp 58)], none, 524287⟩,
    ⟨none, .store 3 (.tmp 2) (.tmp 59), none, 1048575⟩] true) (.ret)) (.seq (.ops [⟨(some 61), .bin .eql (.tmp 4) (.const (.int .i64 5)), none, 0⟩,
    ⟨(some 60), .move (.tmp 61), none, 0⟩] false) (.cond (.tmp 60) (.seq (.ops [⟨(some 62), .faddr 4 (.tmp 1), none, 0⟩,
    ⟨(some 63), .load1 (.tmp 62), none, 1⟩,
    ⟨(some 64), .call 242 [(.tmp 63)], none, 3⟩,
    ⟨(some 65), .faddr 5 (.tmp 1), none, 0⟩,
    ⟨(some 66), .load1 (.tmp 65), none, 8⟩,
    ⟨(some 67), .call 242 [(.tmp 66)], none, 31⟩,
    ⟨(some 68), .call 240 [(.tmp 67)], none, 63⟩,
    ⟨(some 69), .call 245 [(.tmp 64), (.tmp 68)], none, 127⟩,
    ⟨(some 70), .call 240 [(.tmp 69)], none, 255⟩,
    ⟨(some 71), .loadA 7 (.tmp 1), none, 0⟩,
    ⟨(some 72), .faddr 6 (.tmp 1), none, 0⟩,
    ⟨(some 73), .load1 (.tmp 72), none, 1024⟩,
    ⟨(some 74), .call 243 [(.tmp 71), (.tmp 73), (.const (.bool true))], none, 4095⟩,
    ⟨(some 75), .call 239 [(.tmp 70), (.tmp 74)], none, 8191⟩,
    ⟨(some 76), .call 241 [(.const (.int .i64 11)), (.tmp 75)], none, 16383⟩,
    ⟨none, .store 3 (.tmp 2) (.tmp 76), none, 32767⟩] true) (.ret)) (.skip))))))))))) (.seq (.ops [⟨(some 77), .loadA 7 (.tmp 1), none, 0⟩,
    ⟨(some 78), .faddr 6 (.tmp 1), none, 0⟩,
    ⟨(some 79), .load1 (.tmp 78), none, 0⟩,
    ⟨(some 80), .call 246 [(.tmp 77), (.tmp 79)], none, 0⟩,
    ⟨none, .store 3 (.tmp 2) (.tmp 80), none, 0⟩] false) (.ret)))
set_option maxRecDepth 100000 in
theorem c182_ok : FunOK Try.prog 182 81 [.agg 2 3] c182 := ⟨⟨Try.f182, Try.func182, rfl, by kernel_rfl, rfl, by kernel_rfl⟩⟩
def c118 : PC := .seq (.ops [⟨(some 1), .box (.tmp 0), none, 0⟩,
    ⟨(some 2), .alloc [(.int .i64 0), (.int .i64 0), (.slice none 0 0)], none, 0⟩,
    ⟨(some 3), .move (.const (.int .i64 0)), none, 0⟩] false) (.seq (.ops [⟨(some 6), .loadA 7 (.tmp 1), none, 0⟩,
    ⟨(some 7), .call 182 [(.tmp 6)], none, 0⟩,
    ⟨(some 4), .alloc [(.int .i64 0), (.int .i64 0), (.slice none 0 0)], none, 0⟩,
    ⟨none, .store 3 (.tmp 4) (.tmp 7), none, 0⟩] false) (.seq (.seq (.ops [⟨(some 8), .loadA 3 (.tmp 4), none, 0⟩,
    ⟨(some 9), .call 120 [(.tmp 8)], none, 0⟩,
    ⟨(some 5), .move (.tmp 9), none, 0⟩] false) (.seq (.ops [⟨(some 10), .move (.tmp 5), none, 0⟩,
    ⟨(some 11), .bin .neq (.tmp 10) (.const (.int .i64 0)), none, 0⟩] false) (.cond (.tmp 11) (.seq (.ops [⟨(some 12), .build [(.int .i64 0), (.int .i64 0), (.slice none 0 0)] [], none, 0⟩,
    ⟨(some 13), .move (.tmp 5), none, 0⟩,
    ⟨none, .store 3 (.tmp 2) (.tmp 12), none, 0⟩,
    ⟨(some 3), .move (.tmp 13), none, 0⟩] false) (.ret)) (.skip)))) (.seq (.ops [⟨(some 14), .loadA 3 (.tmp 4), none, 0⟩,
    ⟨none, .store 3 (.tmp 2) (.tmp 14), none, 0⟩,
    ⟨(some 3), .move (.const (.int .i64 0)), none, 0⟩] false) (.ret))))
set_option maxRecDepth 100000 in
theorem c118_ok : FunOK Try.prog 118 15 [.agg 2 3, .tmp 3] c118 := ⟨⟨Try.f118, Try.func118, rfl, by kernel_rfl, rfl, by kernel_rfl⟩⟩
theorem ref_global (x : Pat) (hk : 1 ≤ x.kind ∧ x.kind ≤ 6) : ∀ n : Nat, n ≤ 3 → PCall Try.prog 246 [dpat x, .sc (.int .i64 n)] (dtree (globT x n)) := by
  intro n
  induction n with
  | zero =>
    intro _
    refine pcall_intro c246_ok (by simp) (by simp [PureL, Pure, pure_dpat]) ?_ (pure_dtree _)
    (apply red_sound; focus (repeat' (first | exact Red.skip | exact Red.ret | exact RedO.nil | exact RedD.nil | exact Red.exit _ | exact Red.loop _ | exact Red.stop _ | apply Red.ops | apply Red.draw | apply Red.seq | apply Red.cond | apply Red.block | apply RedO.cons | apply RedD.cons | exact (0 : Nat))))
    ((conv => whnf); repeat (refine And.intro rfl ?_; (conv => whnf)))
    repeat' (first
      | (refine ifK_split (fun h => ?_) (fun h => ?_) <;> (rw [h]; ((conv => whnf); repeat (refine And.intro rfl ?_; (conv => whnf)))))
      | (refine .inl ⟨_, (ref_atom _), ?_⟩; ((conv => whnf); repeat (refine And.intro rfl ?_; (conv => whnf))))
      | (refine .inl ⟨_, (ref_not _), ?_⟩; ((conv => whnf); repeat (refine And.intro rfl ?_; (conv => whnf))))
      | (refine .inl ⟨_, (ref_or _ _), ?_⟩; ((conv => whnf); repeat (refine And.intro rfl ?_; (conv => whnf))))
      | (refine .inl ⟨_, (ref_and _ _), ?_⟩; ((conv => whnf); repeat (refine And.intro rfl ?_; (conv => whnf))))
      | (refine .inl ⟨_, (ref_two 8 _ _), ?_⟩; ((conv => whnf); repeat (refine And.intro rfl ?_; (conv => whnf))))
      | (refine .inl ⟨_, (ref_one 10 _), ?_⟩; ((conv => whnf); repeat (refine And.intro rfl ?_; (conv => whnf))))
      | (refine .inl ⟨_, (ref_one 11 _), ?_⟩; ((conv => whnf); repeat (refine And.intro rfl ?_; (conv => whnf))))
      | exact deep_as (by unfold globT globN noP; (repeat' split) <;> first | rfl | (exfalso; ((try simp only [bne_iff_ne, ne_eq, bne_eq_false_iff_eq, beq_iff_eq, beq_eq_false_iff_ne, decide_eq_true_eq, decide_eq_false_iff_not, List.length_map, Bool.not_eq_true, Bool.not_eq_false, Bool.and_eq_true, Bool.or_eq_true, Bool.and_eq_false_iff, Bool.or_eq_false_iff, Bool.not_eq_true', Bool.not_eq_false', Bool.not_true, Bool.not_false, Bool.not_eq_eq_eq_not, not_true_eq_false, not_false_eq_true, reduceCtorEq, Bool.true_or, Bool.false_or, Bool.or_true, Bool.or_false, Bool.true_and, Bool.and_true, Bool.false_and, Bool.and_false, true_and, and_true, or_false, false_or, true_or, or_true, false_and, and_false, Bool.true_eq_false, Bool.false_eq_true] at *) <;> omega))) (.refl _)
      | (exfalso; ((try simp only [bne_iff_ne, ne_eq, bne_eq_false_iff_eq, beq_iff_eq, beq_eq_false_iff_ne, decide_eq_true_eq, decide_eq_false_iff_not, List.length_map, Bool.not_eq_true, Bool.not_eq_false, Bool.and_eq_true, Bool.or_eq_true, Bool.and_eq_false_iff, Bool.or_eq_false_iff, Bool.not_eq_true', Bool.not_eq_false', Bool.not_true, Bool.not_false, Bool.not_eq_eq_eq_not, not_true_eq_false, not_false_eq_true, reduceCtorEq, Bool.true_or, Bool.false_or, Bool.or_true, Bool.or_false, Bool.true_and, Bool.and_true, Bool.false_and, Bool.and_false, true_and, and_true, or_false, false_or, true_or, or_true, false_and, and_false, Bool.true_eq_false, Bool.false_eq_true] at *) <;> omega)))
  | succ n ih =>
    intro hn
    have ih := ih (by omega)
    refine pcall_intro c246_ok (by simp) (by simp [PureL, Pure, pure_dpat]) ?_ (pure_dtree _)
    (apply red_sound; focus (repeat' (first | exact Red.skip | exact Red.ret | exact RedO.nil | exact RedD.nil | exact Red.exit _ | exact Red.loop _ | exact Red.stop _ | apply Red.ops | apply Red.draw | apply Red.seq | apply Red.cond | apply Red.block | apply RedO.cons | apply RedD.cons | exact (0 : Nat))))
    ((conv => whnf); repeat (refine And.intro rfl ?_; (conv => whnf)))
    repeat' (first
      | (refine ifK_split (fun h => ?_) (fun h => ?_) <;> (rw [h]; ((conv => whnf); repeat (refine And.intro rfl ?_; (conv => whnf)))))
      | (refine .inl ⟨_, (ref_atom _), ?_⟩; ((conv => whnf); repeat (refine And.intro rfl ?_; (conv => whnf))))
      | (refine .inl ⟨_, (ref_not _), ?_⟩; ((conv => whnf); repeat (refine And.intro rfl ?_; (conv => whnf))))
      | (refine .inl ⟨_, (ref_or _ _), ?_⟩; ((conv => whnf); repeat (refine And.intro rfl ?_; (conv => whnf))))
      | (refine .inl ⟨_, (ref_and _ _), ?_⟩; ((conv => whnf); repeat (refine And.intro rfl ?_; (conv => whnf))))
      | (refine .inl ⟨_, (ref_two 8 _ _), ?_⟩; ((conv => whnf); repeat (refine And.intro rfl ?_; (conv => whnf))))
      | (refine .inl ⟨_, (ref_one 10 _), ?_⟩; ((conv => whnf); repeat (refine And.intro rfl ?_; (conv => whnf))))
      | (refine .inl ⟨_, (ref_one 11 _), ?_⟩; ((conv => whnf); repeat (refine And.intro rfl ?_; (conv => whnf))))
      | (refine .inl ⟨_, (ref_one 7 _), ?_⟩; ((conv => whnf); repeat (refine And.intro rfl ?_; (conv => whnf))))
      | (refine .inl ⟨_, ih, ?_⟩; ((conv => whnf); repeat (refine And.intro rfl ?_; (conv => whnf))))
      | (refine .inl ⟨by unfold InR; rw [IntKind.wrap_i64]; omega, ?_⟩; rw [show (((n + 1 : Nat) : Int) - 1) = (n : Int) by omega]; ((conv => whnf); repeat (refine And.intro rfl ?_; (conv => whnf))))
      | exact deep_as (by rw [show globT x (n + 1) = globN x true (globT x n) from rfl]; generalize globT x n = T; unfold globN noP; (repeat' split) <;> first | rfl | (exfalso; ((try simp only [bne_iff_ne, ne_eq, bne_eq_false_iff_eq, beq_iff_eq, beq_eq_false_iff_ne, decide_eq_true_eq, decide_eq_false_iff_not, List.length_map, Bool.not_eq_true, Bool.not_eq_false, Bool.and_eq_true, Bool.or_eq_true, Bool.and_eq_false_iff, Bool.or_eq_false_iff, Bool.not_eq_true', Bool.not_eq_false', Bool.not_true, Bool.not_false, Bool.not_eq_eq_eq_not, not_true_eq_false, not_false_eq_true, reduceCtorEq, Bool.true_or, Bool.false_or, Bool.or_true, Bool.or_false, Bool.true_and, Bool.and_true, Bool.false_and, Bool.and_false, true_and, and_true, or_false, false_or, true_or, or_true, false_and, and_false, Bool.true_eq_false, Bool.false_eq_true] at *) <;> omega))) (.refl _)
      | (exfalso; ((try simp only [bne_iff_ne, ne_eq, bne_eq_false_iff_eq, beq_iff_eq, beq_eq_false_iff_ne, decide_eq_true_eq, decide_eq_false_iff_not, List.length_map, Bool.not_eq_true, Bool.not_eq_false, Bool.and_eq_true, Bool.or_eq_true, Bool.and_eq_false_iff, Bool.or_eq_false_iff, Bool.not_eq_true', Bool.not_eq_false', Bool.not_true, Bool.not_false, Bool.not_eq_eq_eq_not, not_true_eq_false, not_false_eq_true, reduceCtorEq, Bool.true_or, Bool.false_or, Bool.or_true, Bool.or_false, Bool.true_and, Bool.and_true, Bool.false_and, Bool.and_false, true_and, and_true, or_false, false_or, true_or, or_true, false_and, and_false, Bool.true_eq_false, Bool.false_eq_true] at *) <;> omega)))
theorem upT_succ (x : Pat) (w : Bool) (n : Nat) : upT x w (n + 1) = upN x w true (upT x w n) := rfl
theorem ref_upTo (x : Pat) (weak : Bool) : ∀ n : Nat, n ≤ 3 → PCall Try.prog 243 [dpat x, .sc (.int .i64 n), .sc (.bool weak)] (dtree (upT x weak n)) := by
  intro n
  induction n with
  | zero =>
    intro _
    refine pcall_intro c243_ok (by simp) (by simp [PureL, Pure, pure_dpat]) ?_ (pure_dtree _)
    (apply red_sound; focus (repeat' (first | exact Red.skip | exact Red.ret | exact RedO.nil | exact RedD.nil | exact Red.exit _ | exact Red.loop _ | exact Red.stop _ | apply Red.ops | apply Red.draw | apply Red.seq | apply Red.cond | apply Red.block | apply RedO.cons | apply RedD.cons | exact (0 : Nat))))
    ((conv => whnf); repeat (refine And.intro rfl ?_; (conv => whnf)))
    repeat' (first
      | (refine ifK_split (fun h => ?_) (fun h => ?_) <;> (rw [h]; ((conv => whnf); repeat (refine And.intro rfl ?_; (conv => whnf)))))
      | (refine .inl ⟨_, (ref_atom _), ?_⟩; ((conv => whnf); repeat (refine And.intro rfl ?_; (conv => whnf))))
      | (refine .inl ⟨_, (ref_not _), ?_⟩; ((conv => whnf); repeat (refine And.intro rfl ?_; (conv => whnf))))
      | (refine .inl ⟨_, (ref_or _ _), ?_⟩; ((conv => whnf); repeat (refine And.intro rfl ?_; (conv => whnf))))
      | (refine .inl ⟨_, (ref_and _ _), ?_⟩; ((conv => whnf); repeat (refine And.intro rfl ?_; (conv => whnf))))
      | (refine .inl ⟨_, (ref_two 8 _ _), ?_⟩; ((conv => whnf); repeat (refine And.intro rfl ?_; (conv => whnf))))
      | (refine .inl ⟨_, (ref_one 11 _), ?_⟩; ((conv => whnf); repeat (refine And.intro rfl ?_; (conv => whnf))))
      | exact deep_as (by unfold upT upN weakT answT noP noR; (repeat' split) <;> first | rfl | (exfalso; ((try simp only [bne_iff_ne, ne_eq, bne_eq_false_iff_eq, beq_iff_eq, beq_eq_false_iff_ne, decide_eq_true_eq, decide_eq_false_iff_not, List.length_map, Bool.not_eq_true, Bool.not_eq_false, Bool.and_eq_true, Bool.or_eq_true, Bool.and_eq_false_iff, Bool.or_eq_false_iff, Bool.not_eq_true', Bool.not_eq_false', Bool.not_true, Bool.not_false, Bool.not_eq_eq_eq_not, not_true_eq_false, not_false_eq_true, reduceCtorEq, Bool.true_or, Bool.false_or, Bool.or_true, Bool.or_false, Bool.true_and, Bool.and_true, Bool.false_and, Bool.and_false, true_and, and_true, or_false, false_or, true_or, or_true, false_and, and_false, Bool.true_eq_false, Bool.false_eq_true] at *) <;> omega))) (.refl _)
      | (exfalso; ((try simp only [bne_iff_ne, ne_eq, bne_eq_false_iff_eq, beq_iff_eq, beq_eq_false_iff_ne, decide_eq_true_eq, decide_eq_false_iff_not, List.length_map, Bool.not_eq_true, Bool.not_eq_false, Bool.and_eq_true, Bool.or_eq_true, Bool.and_eq_false_iff, Bool.or_eq_false_iff, Bool.not_eq_true', Bool.not_eq_false', Bool.not_true, Bool.not_false, Bool.not_eq_eq_eq_not, not_true_eq_false, not_false_eq_true, reduceCtorEq, Bool.true_or, Bool.false_or, Bool.or_true, Bool.or_false, Bool.true_and, Bool.and_true, Bool.false_and, Bool.and_false, true_and, and_true, or_false, false_or, true_or, or_true, false_and, and_false, Bool.true_eq_false, Bool.false_eq_true] at *) <;> omega)))
  | succ n ih =>
    intro hn
    have ih := ih (by omega)
    refine pcall_intro c243_ok (by simp) (by simp [PureL, Pure, pure_dpat]) ?_ (pure_dtree _)
    (apply red_sound; focus (repeat' (first | exact Red.skip | exact Red.ret | exact RedO.nil | exact RedD.nil | exact Red.exit _ | exact Red.loop _ | exact Red.stop _ | apply Red.ops | apply Red.draw | apply Red.seq | apply Red.cond | apply Red.block | apply RedO.cons | apply RedD.cons | exact (0 : Nat))))
    ((conv => whnf); repeat (refine And.intro rfl ?_; (conv => whnf)))
    repeat' (first
      | (refine ifK_split (fun h => ?_) (fun h => ?_) <;> (rw [h]; ((conv => whnf); repeat (refine And.intro rfl ?_; (conv => whnf)))))
      | (refine .inl ⟨_, (ref_atom _), ?_⟩; ((conv => whnf); repeat (refine And.intro rfl ?_; (conv => whnf))))
      | (refine .inl ⟨_, (ref_not _), ?_⟩; ((conv => whnf); repeat (refine And.intro rfl ?_; (conv => whnf))))
      | (refine .inl ⟨_, (ref_or _ _), ?_⟩; ((conv => whnf); repeat (refine And.intro rfl ?_; (conv => whnf))))
      | (refine .inl ⟨_, (ref_and _ _), ?_⟩; ((conv => whnf); repeat (refine And.intro rfl ?_; (conv => whnf))))
      | (refine .inl ⟨_, (ref_two 8 _ _), ?_⟩; ((conv => whnf); repeat (refine And.intro rfl ?_; (conv => whnf))))
      | (refine .inl ⟨_, (ref_one 11 _), ?_⟩; ((conv => whnf); repeat (refine And.intro rfl ?_; (conv => whnf))))
      | (refine .inl ⟨_, (ref_one 7 _), ?_⟩; ((conv => whnf); repeat (refine And.intro rfl ?_; (conv => whnf))))
      | (refine .inl ⟨_, ih, ?_⟩; ((conv => whnf); repeat (refine And.intro rfl ?_; (conv => whnf))))
      | (refine .inl ⟨by unfold InR; rw [IntKind.wrap_i64]; omega, ?_⟩; rw [show (((n + 1 : Nat) : Int) - 1) = (n : Int) by omega]; ((conv => whnf); repeat (refine And.intro rfl ?_; (conv => whnf))))
      | exact deep_as (by rw [upT_succ]; generalize upT x _ n = T; unfold upN weakT answT moreT noP noR; (repeat' split) <;> first | rfl | (exfalso; ((try simp only [bne_iff_ne, ne_eq, bne_eq_false_iff_eq, beq_iff_eq, beq_eq_false_iff_ne, decide_eq_true_eq, decide_eq_false_iff_not, List.length_map, Bool.not_eq_true, Bool.not_eq_false, Bool.and_eq_true, Bool.or_eq_true, Bool.and_eq_false_iff, Bool.or_eq_false_iff, Bool.not_eq_true', Bool.not_eq_false', Bool.not_true, Bool.not_false, Bool.not_eq_eq_eq_not, not_true_eq_false, not_false_eq_true, reduceCtorEq, Bool.true_or, Bool.false_or, Bool.or_true, Bool.or_false, Bool.true_and, Bool.and_true, Bool.false_and, Bool.and_false, true_and, and_true, or_false, false_or, true_or, or_true, false_and, and_false, Bool.true_eq_false, Bool.false_eq_true] at *) <;> omega))) (.refl _)
      | (exfalso; ((try simp only [bne_iff_ne, ne_eq, bne_eq_false_iff_eq, beq_iff_eq, beq_eq_false_iff_ne, decide_eq_true_eq, decide_eq_false_iff_not, List.length_map, Bool.not_eq_true, Bool.not_eq_false, Bool.and_eq_true, Bool.or_eq_true, Bool.and_eq_false_iff, Bool.or_eq_false_iff, Bool.not_eq_true', Bool.not_eq_false', Bool.not_true, Bool.not_false, Bool.not_eq_eq_eq_not, not_true_eq_false, not_false_eq_true, reduceCtorEq, Bool.true_or, Bool.false_or, Bool.or_true, Bool.or_false, Bool.true_and, Bool.and_true, Bool.false_and, Bool.and_false, true_and, and_true, or_false, false_or, true_or, or_true, false_and, and_false, Bool.true_eq_false, Bool.false_eq_true] at *) <;> omega)))
theorem ref_scoped (x : Pat) (h : patChk x = 0) : PCall Try.prog 182 [dpat x] (dtree (scopeT x)) := by
  have hc : (0 ≤ x.count ∧ x.count ≤ 3) ∧ 1 ≤ x.kind ∧ x.kind ≤ 6 := by
    unfold patChk at h
    split at h <;> omega
  have hn : x.count = (x.count.toNat : Int) := by omega
  have hg := ref_global x hc.2 x.count.toNat (by omega)
  have hu := fun weak => ref_upTo x weak x.count.toNat (by omega)
  rw [← hn] at hg hu
  clear hn hc h
  refine pcall_intro c182_ok (by simp) (by simp [PureL, pure_dpat]) ?_ (pure_dtree _)
  (apply red_sound; focus (repeat' (first | exact Red.skip | exact Red.ret | exact RedO.nil | exact RedD.nil | exact Red.exit _ | exact Red.loop _ | exact Red.stop _ | apply Red.ops | apply Red.draw | apply Red.seq | apply Red.cond | apply Red.block | apply RedO.cons | apply RedD.cons | exact (0 : Nat))))
  ((conv => whnf); repeat (refine And.intro rfl ?_; (conv => whnf)))
  repeat' (first
    | (refine ifK_split (fun h => ?_) (fun h => ?_) <;> (rw [h]; ((conv => whnf); repeat (refine And.intro rfl ?_; (conv => whnf)))))
    | (refine .inl ⟨_, hg, ?_⟩; ((conv => whnf); repeat (refine And.intro rfl ?_; (conv => whnf))))
    | (refine .inl ⟨_, (hu true), ?_⟩; ((conv => whnf); repeat (refine And.intro rfl ?_; (conv => whnf))))
    | (refine .inl ⟨_, (hu false), ?_⟩; ((conv => whnf); repeat (refine And.intro rfl ?_; (conv => whnf))))
    | (refine .inl ⟨_, (ref_atom _), ?_⟩; ((conv => whnf); repeat (refine And.intro rfl ?_; (conv => whnf))))
    | (refine .inl ⟨_, (ref_not _), ?_⟩; ((conv => whnf); repeat (refine And.intro rfl ?_; (conv => whnf))))
    | (refine .inl ⟨_, (ref_or _ _), ?_⟩; ((conv => whnf); repeat (refine And.intro rfl ?_; (conv => whnf))))
    | (refine .inl ⟨_, (ref_and _ _), ?_⟩; ((conv => whnf); repeat (refine And.intro rfl ?_; (conv => whnf))))
    | (refine .inl ⟨_, (ref_two 8 _ _), ?_⟩; ((conv => whnf); repeat (refine And.intro rfl ?_; (conv => whnf))))
    | (refine .inl ⟨_, (ref_one 10 _), ?_⟩; ((conv => whnf); repeat (refine And.intro rfl ?_; (conv => whnf))))
    | (refine .inl ⟨_, (ref_one 11 _), ?_⟩; ((conv => whnf); repeat (refine And.intro rfl ?_; (conv => whnf))))
    | exact deep_as (by simp_all [scopeT, noR]) (.refl _))
end Go.Proofs.Ytcgjbhnljjlffaa
