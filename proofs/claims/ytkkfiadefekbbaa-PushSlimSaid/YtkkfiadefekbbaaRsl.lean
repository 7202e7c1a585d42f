/-
  The document's slimmer over deep values. No statement is proved here.
-/
import Derived.Test.YtkkfiadefekbbaaDk
import Derived.Test.YtkkfiadefekbbaaProg
namespace Go.Proofs.Ytkkfiadefekbbaa
open Go.RowKit
set_option linter.unusedSimpArgs false
def c90 : PC := .seq (.ops [⟨(some 4), .alloc [(.int .i64 0), (.int .i64 0), (.slice none 0 0)], none, 0⟩] false) (.seq (.ops [⟨(some 5), .move (.tmp 0), none, 0⟩,
    ⟨(some 6), .move (.tmp 1), none, 0⟩,
    ⟨(some 7), .build [(.int .i64 0), (.int .i64 0), (.slice none 0 0)] [(0, 1, (.tmp 5)), (1, 1, (.tmp 6))], none, 0⟩,
    ⟨none, .store 3 (.tmp 4) (.tmp 7), none, 0⟩] false) (.ret))
set_option maxRecDepth 100000 in
theorem c90_ok : FunOK Try.prog 90 8 [.agg 4 3] c90 := ⟨⟨Try.f90, Try.func90, rfl, by kernel_rfl, rfl, by kernel_rfl⟩⟩
def c114 : PC := .seq (.ops [⟨(some 3), .box (.tmp 1), none, 0⟩,
    ⟨(some 4), .alloc [(.int .i64 0), (.int .i64 0), (.slice none 0 0)], none, 0⟩] false) (.seq (.ops [⟨(some 5), .move (.tmp 0), none, 0⟩,
    ⟨(some 6), .loadA 3 (.tmp 3), none, 0⟩,
    ⟨(some 7), .bslice 3 1 [(.tmp 6)], none, 0⟩,
    ⟨(some 8), .build [(.int .i64 0), (.int .i64 0), (.slice none 0 0)] [(0, 1, (.tmp 5)), (2, 1, (.tmp 7))], none, 0⟩,
    ⟨none, .store 3 (.tmp 4) (.tmp 8), none, 0⟩] false) (.ret))
set_option maxRecDepth 100000 in
theorem c114_ok : FunOK Try.prog 114 9 [.agg 4 3] c114 := ⟨⟨Try.f114, Try.func114, rfl, by kernel_rfl, rfl, by kernel_rfl⟩⟩
def c32_1 : PC := .seq (.seq (.ops [⟨(some 27), .move (.tmp 5), none, 0⟩,
    ⟨(some 28), .faddr 2 (.tmp 2), none, 0⟩,
    ⟨(some 29), .load1 (.tmp 28), none, 0⟩,
    ⟨(some 30), .len (.tmp 29), none, 0⟩,
    ⟨(some 31), .bin .lss (.tmp 27) (.tmp 30), none, 0⟩] false) (.cond (.tmp 31) (.skip) (.exit 0))) (.seq (.block 1 (.seq (.ops [⟨(some 34), .faddr 2 (.tmp 2), none, 0⟩,
    ⟨(some 35), .load1 (.tmp 34), none, 1⟩,
    ⟨(some 36), .move (.tmp 5), none, 0⟩,
    ⟨(some 37), .iaddr 3 (.tmp 35) (.tmp 36), none, 7⟩,
    ⟨(some 38), .loadA 3 (.tmp 37), none, 15⟩,
    ⟨(some 39), .faddr 2 (.tmp 3), none, 0⟩,
    ⟨(some 40), .load1 (.tmp 39), none, 32⟩,
    ⟨(some 41), .move (.tmp 5), none, 0⟩,
    ⟨(some 42), .iaddr 3 (.tmp 40) (.tmp 41), none, 224⟩,
    ⟨(some 43), .loadA 3 (.tmp 42), none, 480⟩,
    ⟨(some 44), .call 32 [(.tmp 38), (.tmp 43)], none, 1023⟩,
    ⟨(some 45), .un .not (.tmp 44), none, 2047⟩] true) (.cond (.tmp 45) (.seq (.ops [⟨(some 4), .move (.const (.bool false)), none, 0⟩] false) (.ret)) (.skip)))) (.ops [⟨(some 32), .move (.tmp 5), none, 0⟩,
    ⟨(some 33), .bin .add (.tmp 32) (.const (.int .i64 1)), none, 0⟩,
    ⟨(some 5), .move (.tmp 33), none, 0⟩] false))
def c32 : PC := .seq (.ops [⟨(some 2), .box (.tmp 0), none, 0⟩,
    ⟨(some 3), .box (.tmp 1), none, 0⟩,
    ⟨(some 4), .move (.const (.bool false)), none, 0⟩] false) (.seq (.seq (.ops [⟨(some 6), .faddr 0 (.tmp 2), none, 0⟩,
    ⟨(some 7), .load1 (.tmp 6), none, 0⟩,
    ⟨(some 8), .faddr 0 (.tmp 3), none, 0⟩,
    ⟨(some 9), .load1 (.tmp 8), none, 0⟩,
    ⟨(some 10), .bin .neq (.tmp 7) (.tmp 9), none, 0⟩,
    ⟨(some 11), .move (.tmp 10), none, 0⟩,
    ⟨(some 12), .faddr 1 (.tmp 2), (some (11, false)), 0⟩,
    ⟨(some 13), .load1 (.tmp 12), (some (11, false)), 0⟩,
    ⟨(some 14), .faddr 1 (.tmp 3), (some (11, false)), 0⟩,
    ⟨(some 15), .load1 (.tmp 14), (some (11, false)), 0⟩,
    ⟨(some 16), .bin .neq (.tmp 13) (.tmp 15), (some (11, false)), 0⟩,
    ⟨(some 17), .pick (.tmp 11) (.const (.bool true)) (.tmp 16), none, 0⟩,
    ⟨(some 18), .move (.tmp 17), none, 0⟩,
    ⟨(some 19), .faddr 2 (.tmp 2), (some (18, false)), 0⟩,
    ⟨(some 20), .load1 (.tmp 19), (some (18, false)), 0⟩,
    ⟨(some 21), .len (.tmp 20), (some (18, false)), 0⟩,
    ⟨(some 22), .faddr 2 (.tmp 3), (some (18, false)), 0⟩,
    ⟨(some 23), .load1 (.tmp 22), (some (18, false)), 0⟩,
    ⟨(some 24), .len (.tmp 23), (some (18, false)), 0⟩,
    ⟨(some 25), .bin .neq (.tmp 21) (.tmp 24), (some (18, false)), 0⟩,
    ⟨(some 26), .pick (.tmp 18) (.const (.bool true)) (.tmp 25), none, 0⟩] false) (.cond (.tmp 26) (.seq (.ops [⟨(some 4), .move (.const (.bool false)), none, 0⟩] false) (.ret)) (.skip))) (.seq (.seq (.ops [⟨(some 5), .move (.const (.int .i64 0)), none, 0⟩] false) (.block 0 (.loop c32_1))) (.seq (.ops [⟨(some 4), .move (.const (.bool true)), none, 0⟩] false) (.ret))))
set_option maxRecDepth 100000 in
theorem c32_ok : FunOK Try.prog 32 46 [.tmp 4] c32 := ⟨⟨Try.f32, Try.func32, rfl, by kernel_rfl, rfl, by kernel_rfl⟩⟩
def c148 : PC := .seq (.ops [⟨(some 1), .box (.tmp 0), none, 0⟩,
    ⟨(some 2), .move (.const (.bool false)), none, 0⟩] false) (.seq (.ops [⟨(some 3), .faddr 0 (.tmp 1), none, 0⟩,
    ⟨(some 4), .load1 (.tmp 3), none, 0⟩,
    ⟨(some 5), .bin .eql (.tmp 4) (.const (.int .i64 1)), none, 0⟩,
    ⟨(some 6), .move (.tmp 5), none, 0⟩,
    ⟨(some 7), .faddr 0 (.tmp 1), (some (6, false)), 0⟩,
    ⟨(some 8), .load1 (.tmp 7), (some (6, false)), 0⟩,
    ⟨(some 9), .bin .eql (.tmp 8) (.const (.int .i64 2)), (some (6, false)), 0⟩,
    ⟨(some 10), .pick (.tmp 6) (.const (.bool true)) (.tmp 9), none, 0⟩,
    ⟨(some 2), .move (.tmp 10), none, 0⟩] false) (.ret))
set_option maxRecDepth 100000 in
theorem c148_ok : FunOK Try.prog 148 11 [.tmp 2] c148 := ⟨⟨Try.f148, Try.func148, rfl, by kernel_rfl, rfl, by kernel_rfl⟩⟩
def c91 : PC := .seq (.ops [⟨(some 1), .box (.tmp 0), none, 0⟩,
    ⟨(some 2), .alloc [(.int .i64 0), (.int .i64 0), (.slice none 0 0)], none, 0⟩] false) (.seq (.ops [⟨(some 3), .alloc [(.int .i64 0), (.int .i64 0), (.slice none 0 0)], none, 0⟩,
    ⟨(some 4), .alloc [(.int .i64 0), (.int .i64 0), (.slice none 0 0)], none, 0⟩] false) (.seq (.seq (.ops [⟨(some 8), .faddr 2 (.tmp 1), none, 0⟩,
    ⟨(some 9), .load1 (.tmp 8), none, 0⟩,
    ⟨(some 10), .len (.tmp 9), none, 0⟩,
    ⟨(some 11), .bin .gtr (.tmp 10) (.const (.int .i64 0)), none, 0⟩] false) (.cond (.tmp 11) (.ops [⟨(some 12), .faddr 2 (.tmp 1), none, 0⟩,
    ⟨(some 13), .load1 (.tmp 12), none, 1⟩,
    ⟨(some 14), .iaddr 3 (.tmp 13) (.const (.int .i64 0)), none, 3⟩,
    ⟨(some 15), .loadA 3 (.tmp 14), none, 7⟩,
    ⟨(some 16), .faddr 2 (.tmp 1), none, 0⟩,
    ⟨(some 17), .load1 (.tmp 16), none, 16⟩,
    ⟨(some 18), .faddr 2 (.tmp 1), none, 0⟩,
    ⟨(some 19), .load1 (.tmp 18), none, 64⟩,
    ⟨(some 20), .len (.tmp 19), none, 192⟩,
    ⟨(some 21), .bin .sub (.tmp 20) (.const (.int .i64 1)), none, 448⟩,
    ⟨(some 22), .iaddr 3 (.tmp 17) (.tmp 21), none, 1008⟩,
    ⟨(some 23), .loadA 3 (.tmp 22), none, 2032⟩,
    ⟨none, .store 3 (.tmp 3) (.tmp 15), none, 15⟩,
    ⟨none, .store 3 (.tmp 4) (.tmp 23), none, 8191⟩] true) (.skip))) (.seq (.ops [⟨(some 24), .call 90 [(.const (.int .i64 1)), (.const (.int .i64 0))], none, 0⟩,
    ⟨(some 25), .call 90 [(.const (.int .i64 2)), (.const (.int .i64 0))], none, 0⟩,
    ⟨(some 5), .alloc [(.int .i64 0), (.int .i64 0), (.slice none 0 0)], none, 0⟩,
    ⟨(some 6), .alloc [(.int .i64 0), (.int .i64 0), (.slice none 0 0)], none, 0⟩,
    ⟨none, .store 3 (.tmp 5) (.tmp 24), none, 0⟩,
    ⟨none, .store 3 (.tmp 6) (.tmp 25), none, 0⟩] false) (.seq (.ops [⟨(some 7), .move (.func 148), none, 0⟩] false) (.seq (.seq (.ops [⟨(some 26), .faddr 0 (.tmp 1), none, 0⟩,
    ⟨(some 27), .load1 (.tmp 26), none, 0⟩] false) (.block 0 (.seq (.ops [⟨(some 29), .bin .eql (.tmp 27) (.const (.int .i64 4)), none, 0⟩,
    ⟨(some 28), .move (.tmp 29), none, 0⟩] false) (.cond (.tmp 28) (.seq (.seq (.ops [⟨(some 30), .faddr 0 (.tmp 3), none, 0⟩,
    ⟨(some 31), .load1 (.tmp 30), none, 0⟩,
    ⟨(some 32), .bin .eql (.tmp 31) (.const (.int .i64 1)), none, 0⟩] false) (.cond (.tmp 32) (.seq (.ops [⟨(some 33), .loadA 3 (.tmp 6), none, 0⟩,
    ⟨none, .store 3 (.tmp 2) (.tmp 33), none, 0⟩] false) (.ret)) (.skip))) (.seq (.seq (.ops [⟨(some 34), .faddr 0 (.tmp 3), none, 0⟩,
    ⟨(some 35), .load1 (.tmp 34), none, 0⟩,
    ⟨(some 36), .bin .eql (.tmp 35) (.const (.int .i64 2)), none, 0⟩] false) (.cond (.tmp 36) (.seq (.ops [⟨(some 37), .loadA 3 (.tmp 5), none, 0⟩,
    ⟨none, .store 3 (.tmp 2) (.tmp 37), none, 0⟩] false) (.ret)) (.skip))) (.seq (.ops [⟨(some 38), .faddr 0 (.tmp 3), none, 0⟩,
    ⟨(some 39), .load1 (.tmp 38), none, 0⟩,
    ⟨(some 40), .bin .eql (.tmp 39) (.const (.int .i64 4)), none, 0⟩] false) (.cond (.tmp 40) (.seq (.ops [⟨(some 41), .faddr 2 (.tmp 3), none, 0⟩,
    ⟨(some 42), .load1 (.tmp 41), none, 0⟩,
    ⟨(some 43), .iaddr 3 (.tmp 42) (.const (.int .i64 0)), none, 0⟩,
    ⟨(some 44), .loadA 3 (.tmp 43), none, 0⟩,
    ⟨none, .store 3 (.tmp 2) (.tmp 44), none, 0⟩] false) (.ret)) (.skip))))) (.seq (.ops [⟨(some 46), .bin .eql (.tmp 27) (.const (.int .i64 5)), none, 0⟩,
    ⟨(some 45), .move (.tmp 46), none, 0⟩] false) (.cond (.tmp 45) (.seq (.seq (.ops [⟨(some 47), .faddr 0 (.tmp 3), none, 0⟩,
    ⟨(some 48), .load1 (.tmp 47), none, 0⟩,
    ⟨(some 49), .bin .eql (.tmp 48) (.const (.int .i64 2)), none, 0⟩,
    ⟨(some 50), .move (.tmp 49), none, 0⟩,
    ⟨(some 51), .faddr 0 (.tmp 4), (some (50, false)), 0⟩,
    ⟨(some 52), .load1 (.tmp 51), (some (50, false)), 0⟩,
    ⟨(some 53), .bin .eql (.tmp 52) (.const (.int .i64 2)), (some (50, false)), 0⟩,
    ⟨(some 54), .pick (.tmp 50) (.const (.bool true)) (.tmp 53), none, 0⟩] false) (.cond (.tmp 54) (.seq (.ops [⟨(some 55), .loadA 3 (.tmp 6), none, 0⟩,
    ⟨none, .store 3 (.tmp 2) (.tmp 55), none, 0⟩] false) (.ret)) (.skip))) (.seq (.seq (.ops [⟨(some 56), .faddr 0 (.tmp 3), none, 0⟩,
    ⟨(some 57), .load1 (.tmp 56), none, 0⟩,
    ⟨(some 58), .bin .eql (.tmp 57) (.const (.int .i64 1)), none, 0⟩] false) (.cond (.tmp 58) (.seq (.ops [⟨(some 59), .loadA 3 (.tmp 4), none, 0⟩,
    ⟨none, .store 3 (.tmp 2) (.tmp 59), none, 0⟩] false) (.ret)) (.skip))) (.seq (.ops [⟨(some 60), .faddr 0 (.tmp 4), none, 0⟩,
    ⟨(some 61), .load1 (.tmp 60), none, 0⟩,
    ⟨(some 62), .bin .eql (.tmp 61) (.const (.int .i64 1)), none, 0⟩,
    ⟨(some 63), .move (.tmp 62), none, 0⟩,
    ⟨(some 64), .loadA 3 (.tmp 3), (some (63, false)), 0⟩,
    ⟨(some 65), .loadA 3 (.tmp 4), (some (63, false)), 0⟩,
    ⟨(some 66), .call 32 [(.tmp 64), (.tmp 65)], (some (63, false)), 0⟩,
    ⟨(some 67), .pick (.tmp 63) (.const (.bool true)) (.tmp 66), none, 0⟩] false) (.cond (.tmp 67) (.seq (.ops [⟨(some 68), .loadA 3 (.tmp 3), none, 0⟩,
    ⟨none, .store 3 (.tmp 2) (.tmp 68), none, 0⟩] false) (.ret)) (.skip))))) (.seq (.ops [⟨(some 70), .bin .eql (.tmp 27) (.const (.int .i64 6)), none, 0⟩,
    ⟨(some 69), .move (.tmp 70), none, 0⟩] false) (.cond (.tmp 69) (.seq (.seq (.ops [⟨(some 71), .faddr 0 (.tmp 3), none, 0⟩,
    ⟨(some 72), .load1 (.tmp 71), none, 0⟩,
    ⟨(some 73), .bin .eql (.tmp 72) (.const (.int .i64 1)), none, 0⟩,
    ⟨(some 74), .move (.tmp 73), none, 0⟩,
    ⟨(some 75), .faddr 0 (.tmp 4), (some (74, false)), 0⟩,
    ⟨(some 76), .load1 (.tmp 75), (some (74, false)), 0⟩,
    ⟨(some 77), .bin .eql (.tmp 76) (.const (.int .i64 1)), (some (74, false)), 0⟩,
    ⟨(some 78), .pick (.tmp 74) (.const (.bool true)) (.tmp 77), none, 0⟩] false) (.cond (.tmp 78) (.seq (.ops [⟨(some 79), .loadA 3 (.tmp 5), none, 0⟩,
    ⟨none, .store 3 (.tmp 2) (.tmp 79), none, 0⟩] false) (.ret)) (.skip))) (.seq (.seq (.ops [⟨(some 80), .faddr 0 (.tmp 3), none, 0⟩,
    ⟨(some 81), .load1 (.tmp 80), none, 0⟩,
    ⟨(some 82), .bin .eql (.tmp 81) (.const (.int .i64 2)), none, 0⟩] false) (.cond (.tmp 82) (.seq (.ops [⟨(some 83), .loadA 3 (.tmp 4), none, 0⟩,
    ⟨none, .store 3 (.tmp 2) (.tmp 83), none, 0⟩] false) (.ret)) (.skip))) (.seq (.ops [⟨(some 84), .faddr 0 (.tmp 4), none, 0⟩,
    ⟨(some 85), .load1 (.tmp 84), none, 0⟩,
    ⟨(some 86), .bin .eql (.tmp 85) (.const (.int .i64 2)), none, 0⟩,
    ⟨(some 87), .move (.tmp 86), none, 0⟩,
    ⟨(some 88), .loadA 3 (.tmp 3), (some (87, false)), 0⟩,
    ⟨(some 89), .loadA 3 (.tmp 4), (some (87, false)), 0⟩,
    ⟨(some 90), .call 32 [(.tmp 88), (.tmp 89)], (some (87, false)), 0⟩,
    ⟨(some 91), .pick (.tmp 87) (.const (.bool true)) (.tmp 90), none, 0⟩] false) (.cond (.tmp 91) (.seq (.ops [⟨(some 92), .loadA 3 (.tmp 3), none, 0⟩,
    ⟨none, .store 3 (.tmp 2) (.tmp 92), none, 0⟩] false) (.ret)) (.skip))))) (.seq (.ops [⟨(some 94), .bin .eql (.tmp 27) (.const (.int .i64 7)), none, 0⟩,
    ⟨(some 93), .move (.tmp 94), none, 0⟩] false) (.cond (.tmp 93) (.seq (.ops [⟨(some 95), .move (.tmp 7), none, 0⟩,
    ⟨(some 96), .loadA 3 (.tmp 3), none, 0⟩,
    ⟨(some 97), .callv (.tmp 95) [(.tmp 96)], none, 0⟩] false) (.cond (.tmp 97) (.seq (.ops [⟨(some 98), .loadA 3 (.tmp 3), none, 0⟩,
    ⟨none, .store 3 (.tmp 2) (.tmp 98), none, 0⟩] false) (.ret)) (.skip))) (.seq (.seq (.ops [⟨(some 100), .bin .eql (.tmp 27) (.const (.int .i64 10)), none, 0⟩,
    ⟨(some 99), .move (.tmp 100), none, 0⟩] false) (.cond (.tmp 99) (.skip) (.ops [⟨(some 101), .bin .eql (.tmp 27) (.const (.int .i64 11)), none, 0⟩,
    ⟨(some 99), .move (.tmp 101), none, 0⟩] false))) (.cond (.tmp 99) (.seq (.ops [⟨(some 102), .move (.tmp 7), none, 0⟩,
    ⟨(some 103), .loadA 3 (.tmp 3), none, 0⟩,
    ⟨(some 104), .callv (.tmp 102) [(.tmp 103)], none, 0⟩,
    ⟨(some 105), .move (.tmp 104), none, 0⟩,
    ⟨(some 106), .faddr 0 (.tmp 3), (some (105, false)), 0⟩,
    ⟨(some 107), .load1 (.tmp 106), (some (105, false)), 0⟩,
    ⟨(some 108), .faddr 0 (.tmp 1), (some (105, false)), 0⟩,
    ⟨(some 109), .load1 (.tmp 108), (some (105, false)), 0⟩,
    ⟨(some 110), .bin .eql (.tmp 107) (.tmp 109), (some (105, false)), 0⟩,
    ⟨(some 111), .pick (.tmp 105) (.const (.bool true)) (.tmp 110), none, 0⟩] false) (.cond (.tmp 111) (.seq (.ops [⟨(some 112), .loadA 3 (.tmp 3), none, 0⟩,
    ⟨none, .store 3 (.tmp 2) (.tmp 112), none, 0⟩] false) (.ret)) (.skip))) (.seq (.ops [⟨(some 114), .bin .eql (.tmp 27) (.const (.int .i64 8)), none, 0⟩,
    ⟨(some 113), .move (.tmp 114), none, 0⟩] false) (.cond (.tmp 113) (.seq (.seq (.ops [⟨(some 115), .move (.tmp 7), none, 0⟩,
    ⟨(some 116), .loadA 3 (.tmp 4), none, 0⟩,
    ⟨(some 117), .callv (.tmp 115) [(.tmp 116)], none, 0⟩,
    ⟨(some 118), .move (.tmp 117), none, 0⟩,
    ⟨(some 119), .faddr 0 (.tmp 3), (some (118, false)), 0⟩,
    ⟨(some 120), .load1 (.tmp 119), (some (118, false)), 0⟩,
    ⟨(some 121), .bin .eql (.tmp 120) (.const (.int .i64 2)), (some (118, false)), 0⟩,
    ⟨(some 122), .pick (.tmp 118) (.const (.bool true)) (.tmp 121), none, 0⟩] false) (.cond (.tmp 122) (.seq (.ops [⟨(some 123), .loadA 3 (.tmp 4), none, 0⟩,
    ⟨none, .store 3 (.tmp 2) (.tmp 123), none, 0⟩] false) (.ret)) (.skip))) (.seq (.seq (.ops [⟨(some 124), .faddr 0 (.tmp 3), none, 0⟩,
    ⟨(some 125), .load1 (.tmp 124), none, 0⟩,
    ⟨(some 126), .bin .eql (.tmp 125) (.const (.int .i64 1)), none, 0⟩] false) (.cond (.tmp 126) (.seq (.ops [⟨(some 127), .loadA 3 (.tmp 4), none, 0⟩,
    ⟨(some 128), .call 114 [(.const (.int .i64 10)), (.tmp 127)], none, 0⟩,
    ⟨(some 129), .call 91 [(.tmp 128)], none, 0⟩,
    ⟨none, .store 3 (.tmp 2) (.tmp 129), none, 0⟩] false) (.ret)) (.skip))) (.seq (.ops [⟨(some 130), .loadA 3 (.tmp 3), none, 0⟩,
    ⟨(some 131), .loadA 3 (.tmp 4), none, 0⟩,
    ⟨(some 132), .call 32 [(.tmp 130), (.tmp 131)], none, 0⟩] false) (.cond (.tmp 132) (.seq (.ops [⟨(some 133), .loadA 3 (.tmp 4), none, 0⟩,
    ⟨none, .store 3 (.tmp 2) (.tmp 133), none, 0⟩] false) (.ret)) (.skip))))) (.seq (.ops [⟨(some 135), .bin .eql (.tmp 27) (.const (.int .i64 9)), none, 0⟩,
    ⟨(some 134), .move (.tmp 135), none, 0⟩] false) (.cond (.tmp 134) (.seq (.seq (.ops [⟨(some 136), .move (.tmp 7), none, 0⟩,
    ⟨(some 137), .loadA 3 (.tmp 4), none, 0⟩,
    ⟨(some 138), .callv (.tmp 136) [(.tmp 137)], none, 0⟩,
    ⟨(some 139), .move (.tmp 138), none, 0⟩,
    ⟨(some 140), .faddr 0 (.tmp 3), (some (139, false)), 0⟩,
    ⟨(some 141), .load1 (.tmp 140), (some (139, false)), 0⟩,
    ⟨(some 142), .bin .eql (.tmp 141) (.const (.int .i64 1)), (some (139, false)), 0⟩,
    ⟨(some 143), .pick (.tmp 139) (.const (.bool true)) (.tmp 142), none, 0⟩] false) (.cond (.tmp 143) (.seq (.ops [⟨(some 144), .loadA 3 (.tmp 4), none, 0⟩,
    ⟨none, .store 3 (.tmp 2) (.tmp 144), none, 0⟩] false) (.ret)) (.skip))) (.seq (.seq (.ops [⟨(some 145), .faddr 0 (.tmp 3), none, 0⟩,
    ⟨(some 146), .load1 (.tmp 145), none, 0⟩,
    ⟨(some 147), .bin .eql (.tmp 146) (.const (.int .i64 2)), none, 0⟩] false) (.cond (.tmp 147) (.seq (.ops [⟨(some 148), .loadA 3 (.tmp 4), none, 0⟩,
    ⟨(some 149), .call 114 [(.const (.int .i64 11)), (.tmp 148)], none, 0⟩,
    ⟨(some 150), .call 91 [(.tmp 149)], none, 0⟩,
    ⟨none, .store 3 (.tmp 2) (.tmp 150), none, 0⟩] false) (.ret)) (.skip))) (.seq (.ops [⟨(some 151), .loadA 3 (.tmp 3), none, 0⟩,
    ⟨(some 152), .loadA 3 (.tmp 4), none, 0⟩,
    ⟨(some 153), .call 32 [(.tmp 151), (.tmp 152)], none, 0⟩] false) (.cond (.tmp 153) (.seq (.ops [⟨(some 154), .loadA 3 (.tmp 4), none, 0⟩,
    ⟨none, .store 3 (.tmp 2) (.tmp 154), none, 0⟩] false) (.ret)) (.skip))))) (.skip))))))))))))))))) (.seq (.ops [⟨(some 155), .loadA 3 (.tmp 1), none, 0⟩,
    ⟨none, .store 3 (.tmp 2) (.tmp 155), none, 0⟩] false) (.ret)))))))
set_option maxRecDepth 100000 in
theorem c91_ok : FunOK Try.prog 91 156 [.agg 2 3] c91 := ⟨⟨Try.f91, Try.func91, rfl, by kernel_rfl, rfl, by kernel_rfl⟩⟩

theorem ref_leaf (k n : Int) : PCall Try.prog 90 [.sc (.int .i64 k), .sc (.int .i64 n)] (dtree (mk0 k n)) := by
  refine pcall_intro c90_ok (by simp) (by simp [PureL, Pure]) ?_ (pure_dtree _)
  (apply red_sound; focus (repeat' (first | exact Red.skip | exact Red.ret | exact RedO.nil | exact RedD.nil | exact Red.exit _ | exact Red.loop _ | exact Red.stop _ | apply Red.ops | apply Red.draw | apply Red.seq | apply Red.cond | apply Red.block | apply RedO.cons | apply RedD.cons | exact (0 : Nat))))
  ((conv => whnf); repeat (refine And.intro rfl ?_; (conv => whnf)))
  (repeat' (first | exact Deep.refl _ | exact Deep.none _ | exact deep_row _ | exact DeepL.nil | exact DeepLL.nil | refine Deep.agg _ _ ?_ | refine Deep.tup _ _ ?_ | refine Deep.own _ _ _ _ _ _ _ _ rfl ?_ | refine Deep.loc _ _ _ _ _ rfl ?_ | refine Deep.ifc _ _ _ ?_ | refine DeepL.cons _ _ _ _ ?_ ?_ | refine DeepLL.cons _ _ _ _ ?_ ?_))
theorem ref_one (k : Int) (a : Tree) : PCall Try.prog 114 [.sc (.int .i64 k), dtree a] (dtree (mk1 k a)) := by
  refine pcall_intro c114_ok (by simp) (by simp [PureL, Pure, pure_dtree]) ?_ (pure_dtree _)
  (apply red_sound; focus (repeat' (first | exact Red.skip | exact Red.ret | exact RedO.nil | exact RedD.nil | exact Red.exit _ | exact Red.loop _ | exact Red.stop _ | apply Red.ops | apply Red.draw | apply Red.seq | apply Red.cond | apply Red.block | apply RedO.cons | apply RedD.cons | exact (0 : Nat))))
  ((conv => whnf); repeat (refine And.intro rfl ?_; (conv => whnf)))
  (repeat' (first | exact Deep.refl _ | exact Deep.none _ | exact deep_row _ | exact DeepL.nil | exact DeepLL.nil | refine Deep.agg _ _ ?_ | refine Deep.tup _ _ ?_ | refine Deep.own _ _ _ _ _ _ _ _ rfl ?_ | refine Deep.loc _ _ _ _ _ rfl ?_ | refine Deep.ifc _ _ _ ?_ | refine DeepL.cons _ _ _ _ ?_ ?_ | refine DeepLL.cons _ _ _ _ ?_ ?_))
theorem ref_truth (a : Tree) : PCall Try.prog 148 [dtree a] (.sc (.bool (truthB a.kind))) := by
  refine pcall_intro c148_ok (by simp) (by simp [PureL, pure_dtree]) ?_ (by simp [Pure])
  (apply red_sound; focus (repeat' (first | exact Red.skip | exact Red.ret | exact RedO.nil | exact RedD.nil | exact Red.exit _ | exact Red.loop _ | exact Red.stop _ | apply Red.ops | apply Red.draw | apply Red.seq | apply Red.cond | apply Red.block | apply RedO.cons | apply RedD.cons | exact (0 : Nat))))
  unfold truthB
  ((conv => whnf); repeat (refine And.intro rfl ?_; (conv => whnf)))
  (refine ifK_split (fun h => ?_) (fun h => ?_) <;> (rw [h]; ((conv => whnf); repeat (refine And.intro rfl ?_; (conv => whnf)))))
  · exact Deep.refl _
  · exact Deep.refl _
theorem ref_SameLtl : ∀ a b : Tree, Small a → PCall Try.prog 32 [dtree a, dtree b] (.sc (.bool (eqT a b))) := by
  intro a
  induction a using Tree.ind with
  | h a ih =>
    intro b hs
    refine pcall_intro c32_ok (by simp) (by simp [PureL, pure_dtree]) ?_ (by simp [Pure])
    (apply red_sound; focus (repeat' (first | exact Red.skip | exact Red.ret | exact RedO.nil | exact RedD.nil | exact Red.exit _ | exact Red.loop _ | exact Red.stop _ | apply Red.ops | apply Red.draw | apply Red.seq | apply Red.cond | apply Red.block | apply RedO.cons | apply RedD.cons | exact (0 : Nat))))
    ((conv => whnf); repeat (refine And.intro rfl ?_; (conv => whnf)))
    have no : a.kind ≠ b.kind ∨ a.num ≠ b.num ∨ a.kids.length ≠ b.kids.length → false = eqT a b := fun h => eqT_false (by rintro rfl; simp at h)
    (refine ifK_split (fun h1 => ?_) (fun h1 => ?_) <;> (rw [h1]; ((conv => whnf); repeat (refine And.intro rfl ?_; (conv => whnf)))))
    · exact deep_eq (congrArg (fun x => D.sc (.bool x)) (no (.inl (by simpa using h1))))
    (refine ifK_split (fun h2 => ?_) (fun h2 => ?_) <;> (rw [h2]; ((conv => whnf); repeat (refine And.intro rfl ?_; (conv => whnf)))))
    · exact deep_eq (congrArg (fun x => D.sc (.bool x)) (no (.inr (.inl (by simpa using h2)))))
    (refine ifK_split (fun h3 => ?_) (fun h3 => ?_) <;> (rw [h3]; ((conv => whnf); repeat (refine And.intro rfl ?_; (conv => whnf)))))
    · exact deep_eq (congrArg (fun x => D.sc (.bool x)) (no (.inr (.inr (by simp at h3; omega)))))
    simp at h1 h2 h3
    have hsz := hs.width
    refine pwp_loop (fun k : Nat => [(2, .loc 0 0), (3, .loc 1 0), (5, .sc (.int .i64 k))]) (fun _ => [.row true (drow a), .row true (drow b)])
      (fun k => k ≤ a.width ∧ ∀ j, j < k → a.kid j = b.kid j) (fun k => a.width - k) 0 ⟨by omega, fun j h => by omega⟩ (le_env ⟨rfl, rfl, rfl, trivial⟩) ?_
    rintro k ⟨hk, hall⟩
    (apply red_sound; focus (repeat' (first | exact Red.skip | exact Red.ret | exact RedO.nil | exact RedD.nil | exact Red.exit _ | exact Red.loop _ | exact Red.stop _ | apply Red.ops | apply Red.draw | apply Red.seq | apply Red.cond | apply Red.block | apply RedO.cons | apply RedD.cons | exact (0 : Nat))))
    ((conv => whnf); repeat (refine And.intro rfl ?_; (conv => whnf)))
    (refine ifK_split (fun h4 => ?_) (fun h4 => ?_) <;> (rw [h4]; ((conv => whnf); repeat (refine And.intro rfl ?_; (conv => whnf)))))
    · have hk' : k < a.width := by simpa [Tree.width] using h4
      refine ⟨by omega, _, kid_at hk', ?_⟩
      ((conv => whnf); repeat (refine And.intro rfl ?_; (conv => whnf)))
      refine ⟨by omega, _, kid_at (t := b) (by unfold Tree.width at *; omega), ?_⟩
      ((conv => whnf); repeat (refine And.intro rfl ?_; (conv => whnf)))
      (refine .inl ⟨_, (ih k hk' (b.kid k) (hs.kid hk')), ?_⟩; ((conv => whnf); repeat (refine And.intro rfl ?_; (conv => whnf))))
      (refine ifK_split (fun h5 => ?_) (fun h5 => ?_) <;> (rw [h5]; ((conv => whnf); repeat (refine And.intro rfl ?_; (conv => whnf)))))
      · exact deep_eq (congrArg (fun x => D.sc (.bool x)) (eqT_false (by rintro rfl; simp [eqT] at h5)))
      · simp [eqT_iff] at h5
        refine .inl ⟨by unfold InR; rw [IntKind.wrap_i64]; unfold Tree.width at *; omega, ?_⟩
        ((conv => whnf); repeat (refine And.intro rfl ?_; (conv => whnf)))
        refine ⟨k + 1, ⟨by omega, fun j hj => ?_⟩, by dsimp only; omega, le_env ⟨rfl, rfl, rfl, trivial⟩⟩
        by_cases e : j = k
        · subst e; exact h5
        · exact hall j (by omega)
    · have hk' : ¬ k < a.width := by simpa [Tree.width] using h4
      exact deep_eq (congrArg (fun x => D.sc (.bool x)) (eqT_true (Tree.ext_kids h1 h2 (by unfold Tree.width; omega) fun j hj => hall j (by omega))))

theorem slimmer_one (k : Int) (b : Tree) (hk : k = 10 ∨ k = 11) : slimmerT (mk1 k b) = if truthB b.kind = true ∨ b.kind = k then b else mk1 k b := by
  have e : (mk1 k b).kid 0 = b := rfl
  have e2 : (mk1 k b).kind = k := rfl
  unfold slimmerT
  rcases hk with rfl | rfl <;> simp [e, e2]
set_option maxHeartbeats 4000000 in
theorem slimmer_any (t : Tree) (har : (t.kind = 1 ∨ t.kind = 2 ∨ t.kind = 3) ∧ t.width = 0 ∨ (t.kind = 4 ∨ t.kind = 7 ∨ t.kind = 10 ∨ t.kind = 11) ∧ t.width = 1 ∨ (t.kind = 5 ∨ t.kind = 6 ∨ t.kind = 8 ∨ t.kind = 9) ∧ t.width = 2) (hs : Small t)
    (h4 : (t.kid 0).kind = 4 → 0 < (t.kid 0).width) (h5 : (t.kid (t.width - 1)).kind = 4 → 0 < (t.kid (t.width - 1)).width) (hr : t.kind = 8 ∨ t.kind = 9 → ∀ k b, k = 10 ∨ k = 11 → Small b → (b.kind = 4 → 0 < b.width) → PCall Try.prog 91 [dtree (mk1 k b)] (dtree (slimmerT (mk1 k b)))) :
    PCall Try.prog 91 [dtree t] (dtree (slimmerT t)) := by
  refine pcall_intro c91_ok (by simp) (by simp [PureL, pure_dtree]) ?_ (pure_dtree _)
  (apply red_sound; focus (repeat' (first | exact Red.skip | exact Red.ret | exact RedO.nil | exact RedD.nil | exact Red.exit _ | exact Red.loop _ | exact Red.stop _ | apply Red.ops | apply Red.draw | apply Red.seq | apply Red.cond | apply Red.block | apply RedO.cons | apply RedD.cons | exact (0 : Nat))))
  ((conv => whnf); repeat (refine And.intro rfl ?_; (conv => whnf)))
  (refine ifK_split (fun h0 => ?_) (fun h0 => ?_) <;> (rw [h0]; ((conv => whnf); repeat (refine And.intro rfl ?_; (conv => whnf)))))
  · have hw : 0 < t.width := by simpa [Tree.width] using h0
    have hs0 := hs.kid hw
    have e1 : (((t.kids.map dcells).length : Int) - 1).toNat = t.width - 1 := by simp [Tree.width]
    refine ⟨by omega, _, kid_at hw, ?_⟩
    ((conv => whnf); repeat (refine And.intro rfl ?_; (conv => whnf)))
    refine .inl ⟨by unfold InR; rw [IntKind.wrap_i64]; simp; unfold Tree.width at *; omega, ?_⟩
    ((conv => whnf); repeat (refine And.intro rfl ?_; (conv => whnf)))
    refine ⟨by simp; unfold Tree.width at *; omega, _, by rw [e1]; exact kid_at (by omega), ?_⟩
    ((conv => whnf); repeat (refine And.intro rfl ?_; (conv => whnf)))
    (refine .inl ⟨_, (ref_leaf 1 0), ?_⟩; ((conv => whnf); repeat (refine And.intro rfl ?_; (conv => whnf))))
    (refine .inl ⟨_, (ref_leaf 2 0), ?_⟩; ((conv => whnf); repeat (refine And.intro rfl ?_; (conv => whnf))))
    (refine ifK_split (fun k4 => ?_) (fun k4 => ?_) <;> (rw [k4]; ((conv => whnf); repeat (refine And.intro rfl ?_; (conv => whnf)))))
    · simp at k4
      have hw1 : t.width = 1 := by omega
      (refine ifK_split (fun a1 => ?_) (fun a1 => ?_) <;> (rw [a1]; ((conv => whnf); repeat (refine And.intro rfl ?_; (conv => whnf)))))
      · refine deep_as ?_ (.refl (dtree (mk0 2 0))); simp at a1; simp [slimmerT, k4, a1]
      (refine ifK_split (fun a2 => ?_) (fun a2 => ?_) <;> (rw [a2]; ((conv => whnf); repeat (refine And.intro rfl ?_; (conv => whnf)))))
      · refine deep_as ?_ (.refl (dtree (mk0 1 0))); simp at a1 a2; simp [slimmerT, k4, a1, a2]
      (refine ifK_split (fun a4 => ?_) (fun a4 => ?_) <;> (rw [a4]; ((conv => whnf); repeat (refine And.intro rfl ?_; (conv => whnf)))))
      · simp at a1 a2 a4
        refine ⟨by omega, _, kid_at (h4 a4), ?_⟩
        ((conv => whnf); repeat (refine And.intro rfl ?_; (conv => whnf)))
        refine deep_as ?_ (.refl (dtree ((t.kid 0).kid 0))); simp [slimmerT, k4, a4]
      · simp at a1 a2 a4
        refine deep_as ?_ (.refl (dtree t)); simp [slimmerT, k4, a1, a2, a4]
    (refine ifK_split (fun k5 => ?_) (fun k5 => ?_) <;> (rw [k5]; ((conv => whnf); repeat (refine And.intro rfl ?_; (conv => whnf)))))
    · simp at k5
      have hw2 : t.width = 2 := by omega
      repeat' (first
        | (refine ifK_split (fun h => ?_) (fun h => ?_) <;> (rw [h]; ((conv => whnf); repeat (refine And.intro rfl ?_; (conv => whnf)))))
        | (refine .inl ⟨_, (ref_SameLtl (t.kid 0) (t.kid (t.width - 1)) hs0), ?_⟩; ((conv => whnf); repeat (refine And.intro rfl ?_; (conv => whnf))))
        | refine deep_as ?_ (.refl (dtree _)))
      all_goals (clear hr har h4 h5 hs hs0 e1 h0; (try clear hr10); (try clear hr11); (try clear hsb); unfold slimmerT; simp_all)
    (refine ifK_split (fun k6 => ?_) (fun k6 => ?_) <;> (rw [k6]; ((conv => whnf); repeat (refine And.intro rfl ?_; (conv => whnf)))))
    · simp at k6
      have hw2 : t.width = 2 := by omega
      repeat' (first
        | (refine ifK_split (fun h => ?_) (fun h => ?_) <;> (rw [h]; ((conv => whnf); repeat (refine And.intro rfl ?_; (conv => whnf)))))
        | (refine .inl ⟨_, (ref_SameLtl (t.kid 0) (t.kid (t.width - 1)) hs0), ?_⟩; ((conv => whnf); repeat (refine And.intro rfl ?_; (conv => whnf))))
        | refine deep_as ?_ (.refl (dtree _)))
      all_goals (clear hr har h4 h5 hs hs0 e1 h0; (try clear hr10); (try clear hr11); (try clear hsb); unfold slimmerT; simp_all)
    (refine ifK_split (fun k7 => ?_) (fun k7 => ?_) <;> (rw [k7]; ((conv => whnf); repeat (refine And.intro rfl ?_; (conv => whnf)))))
    · simp at k7
      (refine .inl ⟨_, (ref_truth (t.kid 0)), ?_⟩; ((conv => whnf); repeat (refine And.intro rfl ?_; (conv => whnf))))
      repeat' (first
        | (refine ifK_split (fun h => ?_) (fun h => ?_) <;> (rw [h]; ((conv => whnf); repeat (refine And.intro rfl ?_; (conv => whnf)))))
        | refine deep_as ?_ (.refl (dtree _)))
      all_goals (clear hr har h4 h5 hs hs0 e1 h0; (try clear hr10); (try clear hr11); (try clear hsb); unfold slimmerT; simp_all)
    (refine ifK_split (fun k10 => ?_) (fun k10 => ?_) <;> (rw [k10]; ((conv => whnf); repeat (refine And.intro rfl ?_; (conv => whnf)))))
    · simp at k10
      (refine .inl ⟨_, (ref_truth (t.kid 0)), ?_⟩; ((conv => whnf); repeat (refine And.intro rfl ?_; (conv => whnf))))
      repeat' (first
        | (refine ifK_split (fun h => ?_) (fun h => ?_) <;> (rw [h]; ((conv => whnf); repeat (refine And.intro rfl ?_; (conv => whnf)))))
        | refine deep_as ?_ (.refl (dtree _)))
      all_goals (clear hr har h4 h5 hs hs0 e1 h0; (try clear hr10); (try clear hr11); (try clear hsb); unfold slimmerT; simp_all)
    (refine ifK_split (fun k11 => ?_) (fun k11 => ?_) <;> (rw [k11]; ((conv => whnf); repeat (refine And.intro rfl ?_; (conv => whnf)))))
    · simp at k11
      (refine .inl ⟨_, (ref_truth (t.kid 0)), ?_⟩; ((conv => whnf); repeat (refine And.intro rfl ?_; (conv => whnf))))
      repeat' (first
        | (refine ifK_split (fun h => ?_) (fun h => ?_) <;> (rw [h]; ((conv => whnf); repeat (refine And.intro rfl ?_; (conv => whnf)))))
        | refine deep_as ?_ (.refl (dtree _)))
      all_goals (clear hr har h4 h5 hs hs0 e1 h0; (try clear hr10); (try clear hr11); (try clear hsb); unfold slimmerT; simp_all)
    have hsb : 8 ≤ t.kind → Small (t.kid (t.width - 1)) := fun h => hs.kid (by omega)
    (refine ifK_split (fun k8 => ?_) (fun k8 => ?_) <;> (rw [k8]; ((conv => whnf); repeat (refine And.intro rfl ?_; (conv => whnf)))))
    · simp at k8
      have hr10 := hr (.inl k8) 10 (t.kid (t.width - 1)) (.inl rfl) (hsb (by omega))
      (refine .inl ⟨_, (ref_truth (t.kid (t.width - 1))), ?_⟩; ((conv => whnf); repeat (refine And.intro rfl ?_; (conv => whnf))))
      repeat' (first
        | (refine ifK_split (fun h => ?_) (fun h => ?_) <;> (rw [h]; ((conv => whnf); repeat (refine And.intro rfl ?_; (conv => whnf)))))
        | (refine .inl ⟨_, (ref_SameLtl (t.kid 0) (t.kid (t.width - 1)) hs0), ?_⟩; ((conv => whnf); repeat (refine And.intro rfl ?_; (conv => whnf))))
        | (refine .inl ⟨_, (ref_one 10 (t.kid (t.width - 1))), ?_⟩; ((conv => whnf); repeat (refine And.intro rfl ?_; (conv => whnf))))
        | (refine .inl ⟨_, (hr10 h5), ?_⟩; ((conv => whnf); repeat (refine And.intro rfl ?_; (conv => whnf))))
        | refine deep_as ?_ (.refl (dtree _)))
      all_goals
        clear hr har h4 h5 hs hs0 e1 h0 hsb hr10
        (try rw [slimmer_one _ _ (.inl rfl)])
        unfold slimmerT
        simp only [k8]
        (try simp only [Int.toNat_zero] at *)
        generalize t.kid (t.width - 1) = b at *
        generalize t.kid 0 = a at *
        clear hw k4 k5 k6 k7 k10 k11
        simp_all
    (refine ifK_split (fun k9 => ?_) (fun k9 => ?_) <;> (rw [k9]; ((conv => whnf); repeat (refine And.intro rfl ?_; (conv => whnf)))))
    · simp at k9
      have hr11 := hr (.inr k9) 11 (t.kid (t.width - 1)) (.inr rfl) (hsb (by omega))
      (refine .inl ⟨_, (ref_truth (t.kid (t.width - 1))), ?_⟩; ((conv => whnf); repeat (refine And.intro rfl ?_; (conv => whnf))))
      repeat' (first
        | (refine ifK_split (fun h => ?_) (fun h => ?_) <;> (rw [h]; ((conv => whnf); repeat (refine And.intro rfl ?_; (conv => whnf)))))
        | (refine .inl ⟨_, (ref_SameLtl (t.kid 0) (t.kid (t.width - 1)) hs0), ?_⟩; ((conv => whnf); repeat (refine And.intro rfl ?_; (conv => whnf))))
        | (refine .inl ⟨_, (ref_one 11 (t.kid (t.width - 1))), ?_⟩; ((conv => whnf); repeat (refine And.intro rfl ?_; (conv => whnf))))
        | (refine .inl ⟨_, (hr11 h5), ?_⟩; ((conv => whnf); repeat (refine And.intro rfl ?_; (conv => whnf))))
        | refine deep_as ?_ (.refl (dtree _)))
      all_goals
        clear hr har h4 h5 hs hs0 e1 h0 hsb hr11
        (try rw [slimmer_one _ _ (.inr rfl)])
        unfold slimmerT
        simp only [k9]
        (try simp only [Int.toNat_zero] at *)
        generalize t.kid (t.width - 1) = b at *
        generalize t.kid 0 = a at *
        clear hw k4 k5 k6 k7 k10 k11 k8
        simp_all
    exfalso
    simp at k4 k5 k6 k7 k10 k11 k8 k9
    omega
  · have hw : t.width = 0 := by have : ¬ 0 < t.width := by simpa [Tree.width] using h0
                                omega
    (refine .inl ⟨_, (ref_leaf 1 0), ?_⟩; ((conv => whnf); repeat (refine And.intro rfl ?_; (conv => whnf))))
    (refine .inl ⟨_, (ref_leaf 2 0), ?_⟩; ((conv => whnf); repeat (refine And.intro rfl ?_; (conv => whnf))))
    (refine ifK_split (fun k4 => ?_) (fun k4 => ?_) <;> (rw [k4]; ((conv => whnf); repeat (refine And.intro rfl ?_; (conv => whnf)))))
    · exfalso; simp at k4; omega
    (refine ifK_split (fun k5 => ?_) (fun k5 => ?_) <;> (rw [k5]; ((conv => whnf); repeat (refine And.intro rfl ?_; (conv => whnf)))))
    · exfalso; simp at k5; omega
    (refine ifK_split (fun k6 => ?_) (fun k6 => ?_) <;> (rw [k6]; ((conv => whnf); repeat (refine And.intro rfl ?_; (conv => whnf)))))
    · exfalso; simp at k6; omega
    (refine ifK_split (fun k7 => ?_) (fun k7 => ?_) <;> (rw [k7]; ((conv => whnf); repeat (refine And.intro rfl ?_; (conv => whnf)))))
    · exfalso; simp at k7; omega
    (refine ifK_split (fun k10 => ?_) (fun k10 => ?_) <;> (rw [k10]; ((conv => whnf); repeat (refine And.intro rfl ?_; (conv => whnf)))))
    · exfalso; simp at k10; omega
    (refine ifK_split (fun k11 => ?_) (fun k11 => ?_) <;> (rw [k11]; ((conv => whnf); repeat (refine And.intro rfl ?_; (conv => whnf)))))
    · exfalso; simp at k11; omega
    (refine ifK_split (fun k8 => ?_) (fun k8 => ?_) <;> (rw [k8]; ((conv => whnf); repeat (refine And.intro rfl ?_; (conv => whnf)))))
    · exfalso; simp at k8; omega
    (refine ifK_split (fun k9 => ?_) (fun k9 => ?_) <;> (rw [k9]; ((conv => whnf); repeat (refine And.intro rfl ?_; (conv => whnf)))))
    · exfalso; simp at k9; omega
    refine deep_as ?_ (.refl (dtree t))
    simp at k4 k5 k6 k7 k10 k11 k8 k9
    simp [slimmerT, k4, k5, k6, k7, k10, k11, k8, k9]
theorem ref_slimmer (t : Tree) (har : (t.kind = 1 ∨ t.kind = 2 ∨ t.kind = 3) ∧ t.width = 0 ∨ (t.kind = 4 ∨ t.kind = 7 ∨ t.kind = 10 ∨ t.kind = 11) ∧ t.width = 1 ∨ (t.kind = 5 ∨ t.kind = 6 ∨ t.kind = 8 ∨ t.kind = 9) ∧ t.width = 2) (hs : Small t)
    (h4 : ∀ j, j < t.width → (t.kid j).kind = 4 → 0 < (t.kid j).width) : PCall Try.prog 91 [dtree t] (dtree (slimmerT t)) := by
  have none_ : ∀ j, t.width ≤ j → (t.kid j).kind = 4 → 0 < (t.kid j).width := fun j hj h => by
    have e : t.kid j = default := by unfold Tree.kid; rw [List.getD_eq_getElem?_getD, List.getElem?_eq_none (by unfold Tree.width at hj; exact hj)]; rfl
    rw [e] at h
    have : (default : Tree).kind = 0 := rfl
    omega
  have all : ∀ j, (t.kid j).kind = 4 → 0 < (t.kid j).width := fun j => (Nat.lt_or_ge j t.width).elim (h4 j) (none_ j)
  refine slimmer_any t har hs (all _) (all _) fun hk k b hkb hb hb4 => ?_
  have e0 : (mk1 k b).kid 0 = b := rfl
  have ek : (mk1 k b).kind = k := rfl
  have ew : (mk1 k b).width = 1 := rfl
  refine slimmer_any (mk1 k b) (by rw [ek, ew]; omega) (.mk _ (by rw [ew]; omega) fun j hj => ?_) (by rw [e0]; exact hb4) (by rw [ew]; exact hb4) fun h => by rw [ek] at h; omega
  rw [ew] at hj
  obtain rfl : j = 0 := by omega
  exact hb
end Go.Proofs.Ytkkfiadefekbbaa
