/-
  The reference's check of a process, over deep values. No statement is proved here.
-/
import Derived.Test.YtikdngjdhncioaaPr2
namespace Go.Proofs.Ytikdngjdhncioaa
open Go.RowKit
set_option linter.unusedSimpArgs false
set_option linter.unusedVariables false
theorem inB_flow (P : ProcD) (i : Nat) : inB [P.src i, P.dst i] P.nodes.length = P.flowOK i := by
  unfold inB ProcD.flowOK
  simp only [List.all_cons, List.all_nil, Bool.and_true]
  rw [← Bool.and_assoc]
theorem nodeE_zero {P : ProcD} {i : Nat} (h : P.nodeE i = 0) : 1 ≤ P.kind i ∧ P.kind i ≤ 7 := by
  unfold ProcD.nodeE at h
  split at h
  · exact absurd h (by decide)
  · rename_i q
    omega
def FClosed (P : ProcD) (s : Nat → Bool) : Prop := ∀ i, i < P.flows.length → s (P.src i).toNat = true → s (P.dst i).toNat = true
theorem mark_same {s : Nat → Bool} {v : Nat} (h : s v = true) : mark s v = s := by
  funext i
  unfold mark
  split
  · rename_i e; subst e; exact h.symm
  · rfl
theorem fclosed_come {P : ProcD} (hf : ∀ i, i < P.flows.length → P.flowOK i = true) {s : Nat → Bool} (h0 : s (P.startI P.nodes.length).toNat = true) (hc : FClosed P s) (hs : ∀ v, s v = true → P.Come v) (v : Nat) : s v = rchB (P.graph P.flows.length) [P.startI P.nodes.length] v :=
  rchB_eq ⟨hs v, rch_closed (fun x hx => by rw [List.mem_singleton] at hx; subst hx; exact h0) (fun v hv x hx => by
    obtain ⟨i, q1, q2, q3⟩ := (ProcD.graph_mem hf).1 hx
    have := hc i q1 (by rw [q2]; exact hv)
    rwa [q3] at this) v⟩
def c48_2 : PC := .seq (.seq (.ops [⟨(some 58), .move (.tmp 7), none, 0⟩,
    ⟨(some 59), .move (.tmp 6), none, 0⟩,
    ⟨(some 60), .bin .lss (.tmp 58) (.tmp 59), none, 0⟩] false) (.cond (.tmp 60) (.skip) (.exit 2))) (.seq (.block 3 (.seq (.ops [⟨(some 63), .faddr 0 (.tmp 1), none, 0⟩,
    ⟨(some 64), .load1 (.tmp 63), none, 1⟩,
    ⟨(some 65), .move (.tmp 7), none, 0⟩,
    ⟨(some 66), .iaddr 2 (.tmp 64) (.tmp 65), none, 7⟩,
    ⟨(some 67), .faddr 0 (.tmp 66), none, 15⟩,
    ⟨(some 68), .load1 (.tmp 67), none, 31⟩,
    ⟨(some 69), .faddr 0 (.tmp 1), none, 0⟩,
    ⟨(some 70), .load1 (.tmp 69), none, 64⟩,
    ⟨(some 71), .move (.tmp 6), none, 0⟩,
    ⟨(some 72), .iaddr 2 (.tmp 70) (.tmp 71), none, 448⟩,
    ⟨(some 73), .faddr 0 (.tmp 72), none, 960⟩,
    ⟨(some 74), .load1 (.tmp 73), none, 1984⟩,
    ⟨(some 75), .bin .eql (.tmp 68) (.tmp 74), none, 4095⟩] true) (.cond (.tmp 75) (.seq (.ops [⟨(some 2), .move (.const (.int .i64 4)), none, 0⟩] false) (.ret)) (.skip)))) (.ops [⟨(some 61), .move (.tmp 7), none, 0⟩,
    ⟨(some 62), .bin .add (.tmp 61) (.const (.int .i64 1)), none, 0⟩,
    ⟨(some 7), .move (.tmp 62), none, 0⟩] false))
def c48_1 : PC := .seq (.seq (.ops [⟨(some 27), .move (.tmp 6), none, 0⟩,
    ⟨(some 28), .move (.tmp 3), none, 0⟩,
    ⟨(some 29), .bin .lss (.tmp 27) (.tmp 28), none, 0⟩] false) (.cond (.tmp 29) (.skip) (.exit 0))) (.seq (.block 1 (.seq (.seq (.ops [⟨(some 32), .faddr 0 (.tmp 1), none, 0⟩,
    ⟨(some 33), .load1 (.tmp 32), none, 0⟩,
    ⟨(some 34), .move (.tmp 6), none, 0⟩,
    ⟨(some 35), .iaddr 2 (.tmp 33) (.tmp 34), none, 0⟩,
    ⟨(some 36), .faddr 0 (.tmp 35), none, 0⟩,
    ⟨(some 37), .load1 (.tmp 36), none, 0⟩,
    ⟨(some 38), .call 69 [(.tmp 37)], none, 0⟩,
    ⟨(some 39), .un .not (.tmp 38), none, 0⟩,
    ⟨(some 40), .move (.tmp 39), none, 0⟩,
    ⟨(some 41), .faddr 0 (.tmp 1), (some (40, false)), 0⟩,
    ⟨(some 42), .load1 (.tmp 41), (some (40, false)), 0⟩,
    ⟨(some 43), .move (.tmp 6), (some (40, false)), 0⟩,
    ⟨(some 44), .iaddr 2 (.tmp 42) (.tmp 43), (some (40, false)), 0⟩,
    ⟨(some 45), .faddr 1 (.tmp 44), (some (40, false)), 0⟩,
    ⟨(some 46), .load1 (.tmp 45), (some (40, false)), 0⟩,
    ⟨(some 47), .bin .lss (.tmp 46) (.const (.int .i64 1)), (some (40, false)), 0⟩,
    ⟨(some 48), .pick (.tmp 40) (.const (.bool true)) (.tmp 47), none, 0⟩,
    ⟨(some 49), .move (.tmp 48), none, 0⟩,
    ⟨(some 50), .faddr 0 (.tmp 1), (some (49, false)), 0⟩,
    ⟨(some 51), .load1 (.tmp 50), (some (49, false)), 0⟩,
    ⟨(some 52), .move (.tmp 6), (some (49, false)), 0⟩,
    ⟨(some 53), .iaddr 2 (.tmp 51) (.tmp 52), (some (49, false)), 0⟩,
    ⟨(some 54), .faddr 1 (.tmp 53), (some (49, false)), 0⟩,
    ⟨(some 55), .load1 (.tmp 54), (some (49, false)), 0⟩,
    ⟨(some 56), .bin .gtr (.tmp 55) (.const (.int .i64 7)), (some (49, false)), 0⟩,
    ⟨(some 57), .pick (.tmp 49) (.const (.bool true)) (.tmp 56), none, 0⟩] false) (.cond (.tmp 57) (.seq (.ops [⟨(some 2), .move (.const (.int .i64 1)), none, 0⟩] false) (.ret)) (.skip))) (.seq (.seq (.ops [⟨(some 7), .move (.const (.int .i64 0)), none, 0⟩] false) (.block 2 (.loop c48_2))) (.seq (.ops [⟨(some 76), .faddr 0 (.tmp 1), none, 0⟩,
    ⟨(some 77), .load1 (.tmp 76), none, 0⟩,
    ⟨(some 78), .move (.tmp 6), none, 0⟩,
    ⟨(some 79), .iaddr 2 (.tmp 77) (.tmp 78), none, 0⟩,
    ⟨(some 80), .faddr 1 (.tmp 79), none, 0⟩,
    ⟨(some 81), .load1 (.tmp 80), none, 0⟩,
    ⟨(some 82), .bin .eql (.tmp 81) (.const (.int .i64 1)), none, 0⟩] false) (.cond (.tmp 82) (.seq (.ops [⟨(some 83), .move (.tmp 6), none, 0⟩,
    ⟨(some 4), .move (.tmp 83), none, 0⟩] false) (.ops [⟨(some 84), .move (.tmp 5), none, 0⟩,
    ⟨(some 85), .bin .add (.tmp 84) (.const (.int .i64 1)), none, 0⟩,
    ⟨(some 5), .move (.tmp 85), none, 0⟩] false)) (.skip)))))) (.ops [⟨(some 30), .move (.tmp 6), none, 0⟩,
    ⟨(some 31), .bin .add (.tmp 30) (.const (.int .i64 1)), none, 0⟩,
    ⟨(some 6), .move (.tmp 31), none, 0⟩] false))
def c48_3 : PC := .seq (.seq (.ops [⟨(some 86), .move (.tmp 8), none, 0⟩,
    ⟨(some 87), .faddr 1 (.tmp 1), none, 0⟩,
    ⟨(some 88), .load1 (.tmp 87), none, 0⟩,
    ⟨(some 89), .len (.tmp 88), none, 0⟩,
    ⟨(some 90), .bin .lss (.tmp 86) (.tmp 89), none, 0⟩] false) (.cond (.tmp 90) (.skip) (.exit 4))) (.seq (.block 5 (.seq (.ops [⟨(some 93), .faddr 1 (.tmp 1), none, 0⟩,
    ⟨(some 94), .load1 (.tmp 93), none, 1⟩,
    ⟨(some 95), .move (.tmp 8), none, 0⟩,
    ⟨(some 96), .iaddr 2 (.tmp 94) (.tmp 95), none, 7⟩,
    ⟨(some 97), .faddr 0 (.tmp 96), none, 15⟩,
    ⟨(some 98), .load1 (.tmp 97), none, 31⟩,
    ⟨(some 99), .faddr 1 (.tmp 1), none, 0⟩,
    ⟨(some 100), .load1 (.tmp 99), none, 64⟩,
    ⟨(some 101), .move (.tmp 8), none, 0⟩,
    ⟨(some 102), .iaddr 2 (.tmp 100) (.tmp 101), none, 448⟩,
    ⟨(some 103), .faddr 1 (.tmp 102), none, 960⟩,
    ⟨(some 104), .load1 (.tmp 103), none, 1984⟩,
    ⟨(some 105), .bslice 1 2 [(.tmp 98), (.tmp 104)], none, 4095⟩,
    ⟨(some 106), .move (.tmp 3), none, 0⟩,
    ⟨(some 107), .call 31 [(.tmp 105), (.tmp 106)], none, 16383⟩,
    ⟨(some 108), .un .not (.tmp 107), none, 32767⟩] true) (.cond (.tmp 108) (.seq (.ops [⟨(some 2), .move (.const (.int .i64 1)), none, 0⟩] false) (.ret)) (.skip)))) (.ops [⟨(some 91), .move (.tmp 8), none, 0⟩,
    ⟨(some 92), .bin .add (.tmp 91) (.const (.int .i64 1)), none, 0⟩,
    ⟨(some 8), .move (.tmp 92), none, 0⟩] false))
def c48_4 : PC := .seq (.seq (.ops [⟨(some 111), .move (.tmp 9), none, 0⟩,
    ⟨(some 112), .move (.tmp 3), none, 0⟩,
    ⟨(some 113), .bin .lss (.tmp 111) (.tmp 112), none, 0⟩] false) (.cond (.tmp 113) (.skip) (.exit 6))) (.seq (.block 7 (.seq (.ops [⟨(some 116), .loadA 2 (.tmp 1), none, 0⟩,
    ⟨(some 117), .move (.tmp 9), none, 0⟩,
    ⟨(some 118), .call 49 [(.tmp 116), (.tmp 117)], none, 3⟩,
    ⟨(some 119), .len (.tmp 118), none, 7⟩,
    ⟨(some 120), .loadA 2 (.tmp 1), none, 0⟩,
    ⟨(some 121), .move (.tmp 9), none, 0⟩,
    ⟨(some 122), .call 50 [(.tmp 120), (.tmp 121)], none, 55⟩,
    ⟨(some 123), .len (.tmp 122), none, 119⟩,
    ⟨(some 10), .move (.tmp 119), none, 127⟩,
    ⟨(some 11), .move (.tmp 123), none, 511⟩] true) (.seq (.ops [⟨(some 124), .move (.tmp 10), none, 0⟩,
    ⟨(some 125), .bin .gtr (.tmp 124) (.const (.int .i64 0)), none, 0⟩,
    ⟨(some 126), .move (.tmp 125), none, 0⟩,
    ⟨(some 127), .move (.tmp 11), (some (126, true)), 0⟩,
    ⟨(some 128), .bin .gtr (.tmp 127) (.const (.int .i64 0)), (some (126, true)), 0⟩,
    ⟨(some 129), .pick (.tmp 126) (.tmp 128) (.const (.bool false)), none, 0⟩,
    ⟨(some 12), .move (.tmp 129), none, 0⟩] false) (.seq (.seq (.ops [⟨(some 130), .faddr 0 (.tmp 1), none, 0⟩,
    ⟨(some 131), .load1 (.tmp 130), none, 0⟩,
    ⟨(some 132), .move (.tmp 9), none, 0⟩,
    ⟨(some 133), .iaddr 2 (.tmp 131) (.tmp 132), none, 0⟩,
    ⟨(some 134), .faddr 1 (.tmp 133), none, 0⟩,
    ⟨(some 135), .load1 (.tmp 134), none, 0⟩] false) (.block 8 (.seq (.ops [⟨(some 137), .bin .eql (.tmp 135) (.const (.int .i64 1)), none, 0⟩,
    ⟨(some 136), .move (.tmp 137), none, 0⟩] false) (.cond (.tmp 136) (.ops [⟨(some 138), .move (.tmp 10), none, 0⟩,
    ⟨(some 139), .bin .eql (.tmp 138) (.const (.int .i64 0)), none, 0⟩,
    ⟨(some 140), .move (.tmp 139), none, 0⟩,
    ⟨(some 141), .move (.tmp 11), (some (140, true)), 0⟩,
    ⟨(some 142), .bin .eql (.tmp 141) (.const (.int .i64 1)), (some (140, true)), 0⟩,
    ⟨(some 143), .pick (.tmp 140) (.tmp 142) (.const (.bool false)), none, 0⟩,
    ⟨(some 12), .move (.tmp 143), none, 0⟩] false) (.seq (.seq (.ops [⟨(some 145), .bin .eql (.tmp 135) (.const (.int .i64 2)), none, 0⟩,
    ⟨(some 144), .move (.tmp 145), none, 0⟩] false) (.cond (.tmp 144) (.skip) (.ops [⟨(some 146), .bin .eql (.tmp 135) (.const (.int .i64 3)), none, 0⟩,
    ⟨(some 144), .move (.tmp 146), none, 0⟩] false))) (.cond (.tmp 144) (.ops [⟨(some 147), .move (.tmp 10), none, 0⟩,
    ⟨(some 148), .bin .gtr (.tmp 147) (.const (.int .i64 0)), none, 0⟩,
    ⟨(some 149), .move (.tmp 148), none, 0⟩,
    ⟨(some 150), .move (.tmp 11), (some (149, true)), 0⟩,
    ⟨(some 151), .bin .eql (.tmp 150) (.const (.int .i64 0)), (some (149, true)), 0⟩,
    ⟨(some 152), .pick (.tmp 149) (.tmp 151) (.const (.bool false)), none, 0⟩,
    ⟨(some 12), .move (.tmp 152), none, 0⟩] false) (.seq (.ops [⟨(some 154), .bin .eql (.tmp 135) (.const (.int .i64 4)), none, 0⟩,
    ⟨(some 153), .move (.tmp 154), none, 0⟩] false) (.cond (.tmp 153) (.ops [⟨(some 155), .move (.tmp 10), none, 0⟩,
    ⟨(some 156), .bin .gtr (.tmp 155) (.const (.int .i64 0)), none, 0⟩,
    ⟨(some 157), .move (.tmp 156), none, 0⟩,
    ⟨(some 158), .move (.tmp 11), (some (157, true)), 0⟩,
    ⟨(some 159), .bin .eql (.tmp 158) (.const (.int .i64 1)), (some (157, true)), 0⟩,
    ⟨(some 160), .pick (.tmp 157) (.tmp 159) (.const (.bool false)), none, 0⟩,
    ⟨(some 12), .move (.tmp 160), none, 0⟩] false) (.seq (.ops [⟨(some 162), .bin .eql (.tmp 135) (.const (.int .i64 7)), none, 0⟩,
    ⟨(some 161), .move (.tmp 162), none, 0⟩] false) (.cond (.tmp 161) (.ops [⟨(some 163), .move (.tmp 10), none, 0⟩,
    ⟨(some 164), .bin .gtr (.tmp 163) (.const (.int .i64 0)), none, 0⟩,
    ⟨(some 165), .move (.tmp 164), none, 0⟩,
    ⟨(some 166), .move (.tmp 11), (some (165, true)), 0⟩,
    ⟨(some 167), .bin .gtr (.tmp 166) (.const (.int .i64 0)), (some (165, true)), 0⟩,
    ⟨(some 168), .pick (.tmp 165) (.tmp 167) (.const (.bool false)), none, 0⟩,
    ⟨(some 169), .move (.tmp 168), none, 0⟩,
    ⟨(some 170), .move (.tmp 11), (some (169, true)), 0⟩,
    ⟨(some 171), .bin .leq (.tmp 170) (.const (.int .i64 4)), (some (169, true)), 0⟩,
    ⟨(some 172), .pick (.tmp 169) (.tmp 171) (.const (.bool false)), none, 0⟩,
    ⟨(some 12), .move (.tmp 172), none, 0⟩] false) (.skip))))))))))) (.seq (.ops [⟨(some 173), .move (.tmp 12), none, 0⟩,
    ⟨(some 174), .un .not (.tmp 173), none, 0⟩] false) (.cond (.tmp 174) (.seq (.ops [⟨(some 2), .move (.const (.int .i64 1)), none, 0⟩] false) (.ret)) (.skip))))))) (.ops [⟨(some 114), .move (.tmp 9), none, 0⟩,
    ⟨(some 115), .bin .add (.tmp 114) (.const (.int .i64 1)), none, 0⟩,
    ⟨(some 9), .move (.tmp 115), none, 0⟩] false))
def c48_6 : PC := .seq (.seq (.ops [⟨(some 185), .move (.tmp 15), none, 0⟩,
    ⟨(some 186), .faddr 1 (.tmp 1), none, 0⟩,
    ⟨(some 187), .load1 (.tmp 186), none, 0⟩,
    ⟨(some 188), .len (.tmp 187), none, 0⟩,
    ⟨(some 189), .bin .lss (.tmp 185) (.tmp 188), none, 0⟩] false) (.cond (.tmp 189) (.skip) (.exit 11))) (.seq (.block 12 (.seq (.ops [⟨(some 192), .move (.tmp 13), none, 0⟩,
    ⟨(some 193), .faddr 1 (.tmp 1), none, 0⟩,
    ⟨(some 194), .load1 (.tmp 193), none, 0⟩,
    ⟨(some 195), .move (.tmp 15), none, 0⟩,
    ⟨(some 196), .iaddr 2 (.tmp 194) (.tmp 195), none, 0⟩,
    ⟨(some 197), .faddr 0 (.tmp 196), none, 0⟩,
    ⟨(some 198), .load1 (.tmp 197), none, 0⟩,
    ⟨(some 199), .iaddr 1 (.tmp 192) (.tmp 198), none, 0⟩,
    ⟨(some 200), .load1 (.tmp 199), none, 0⟩] false) (.cond (.tmp 200) (.ops [⟨(some 201), .move (.tmp 13), none, 0⟩,
    ⟨(some 202), .faddr 1 (.tmp 1), none, 0⟩,
    ⟨(some 203), .load1 (.tmp 202), none, 0⟩,
    ⟨(some 204), .move (.tmp 15), none, 0⟩,
    ⟨(some 205), .iaddr 2 (.tmp 203) (.tmp 204), none, 0⟩,
    ⟨(some 206), .faddr 1 (.tmp 205), none, 0⟩,
    ⟨(some 207), .load1 (.tmp 206), none, 0⟩,
    ⟨(some 208), .iaddr 1 (.tmp 201) (.tmp 207), none, 0⟩,
    ⟨none, .store 1 (.tmp 208) (.const (.bool true)), none, 0⟩] false) (.skip)))) (.ops [⟨(some 190), .move (.tmp 15), none, 0⟩,
    ⟨(some 191), .bin .add (.tmp 190) (.const (.int .i64 1)), none, 0⟩,
    ⟨(some 15), .move (.tmp 191), none, 0⟩] false))
def c48_5 : PC := .seq (.seq (.ops [⟨(some 180), .move (.tmp 14), none, 0⟩,
    ⟨(some 181), .move (.tmp 3), none, 0⟩,
    ⟨(some 182), .bin .lss (.tmp 180) (.tmp 181), none, 0⟩] false) (.cond (.tmp 182) (.skip) (.exit 9))) (.seq (.block 10 (.seq (.ops [⟨(some 15), .move (.const (.int .i64 0)), none, 0⟩] false) (.block 11 (.loop c48_6)))) (.ops [⟨(some 183), .move (.tmp 14), none, 0⟩,
    ⟨(some 184), .bin .add (.tmp 183) (.const (.int .i64 1)), none, 0⟩,
    ⟨(some 14), .move (.tmp 184), none, 0⟩] false))
def c48 : PC := .seq (.ops [⟨(some 1), .box (.tmp 0), none, 0⟩,
    ⟨(some 2), .move (.const (.int .i64 0)), none, 0⟩] false) (.seq (.ops [⟨(some 16), .faddr 0 (.tmp 1), none, 0⟩,
    ⟨(some 17), .load1 (.tmp 16), none, 0⟩,
    ⟨(some 18), .len (.tmp 17), none, 0⟩,
    ⟨(some 3), .move (.tmp 18), none, 0⟩] false) (.seq (.seq (.ops [⟨(some 19), .move (.tmp 3), none, 0⟩,
    ⟨(some 20), .bin .gtr (.tmp 19) (.const (.int .i64 20)), none, 0⟩,
    ⟨(some 21), .move (.tmp 20), none, 0⟩,
    ⟨(some 22), .faddr 1 (.tmp 1), (some (21, false)), 0⟩,
    ⟨(some 23), .load1 (.tmp 22), (some (21, false)), 0⟩,
    ⟨(some 24), .len (.tmp 23), (some (21, false)), 0⟩,
    ⟨(some 25), .bin .gtr (.tmp 24) (.const (.int .i64 30)), (some (21, false)), 0⟩,
    ⟨(some 26), .pick (.tmp 21) (.const (.bool true)) (.tmp 25), none, 0⟩] false) (.cond (.tmp 26) (.seq (.ops [⟨(some 2), .move (.const (.int .i64 2)), none, 0⟩] false) (.ret)) (.skip))) (.seq (.ops [⟨(some 4), .move (.const (.int .i64 (-1))), none, 0⟩] false) (.seq (.ops [⟨(some 5), .move (.const (.int .i64 0)), none, 0⟩] false) (.seq (.seq (.ops [⟨(some 6), .move (.const (.int .i64 0)), none, 0⟩] false) (.block 0 (.loop c48_1))) (.seq (.seq (.ops [⟨(some 8), .move (.const (.int .i64 0)), none, 0⟩] false) (.block 4 (.loop c48_3))) (.seq (.seq (.ops [⟨(some 109), .move (.tmp 5), none, 0⟩,
    ⟨(some 110), .bin .neq (.tmp 109) (.const (.int .i64 1)), none, 0⟩] false) (.cond (.tmp 110) (.seq (.ops [⟨(some 2), .move (.const (.int .i64 1)), none, 0⟩] false) (.ret)) (.skip))) (.seq (.seq (.ops [⟨(some 9), .move (.const (.int .i64 0)), none, 0⟩] false) (.block 6 (.loop c48_4))) (.seq (.ops [⟨(some 175), .move (.tmp 3), none, 0⟩,
    ⟨(some 176), .mslice 1 1 [(.bool false)] (.tmp 175) (.tmp 175), none, 0⟩,
    ⟨(some 13), .move (.tmp 176), none, 0⟩] false) (.seq (.ops [⟨(some 177), .move (.tmp 13), none, 0⟩,
    ⟨(some 178), .move (.tmp 4), none, 0⟩,
    ⟨(some 179), .iaddr 1 (.tmp 177) (.tmp 178), none, 0⟩,
    ⟨none, .store 1 (.tmp 179) (.const (.bool true)), none, 0⟩] false) (.seq (.seq (.ops [⟨(some 14), .move (.const (.int .i64 0)), none, 0⟩] false) (.block 9 (.loop c48_5))) (.seq (.seq (.ops [⟨(some 209), .move (.tmp 13), none, 0⟩,
    ⟨(some 210), .call 70 [(.tmp 209), (.const (.bool false))], none, 0⟩] false) (.cond (.tmp 210) (.seq (.ops [⟨(some 2), .move (.const (.int .i64 6)), none, 0⟩] false) (.ret)) (.skip))) (.seq (.ops [⟨(some 2), .move (.const (.int .i64 0)), none, 0⟩] false) (.ret))))))))))))))
set_option maxRecDepth 100000 in
theorem c48_ok : FunOK Try.prog 48 211 [.tmp 2] c48 := ⟨⟨Try.f48, Try.func48, rfl, by kernel_rfl, rfl, by kernel_rfl⟩⟩
set_option maxRecDepth 100000 in
theorem ref_Process (P : ProcD) (hP : P.Fits) : PCall Try.prog 48 [dproc P] (.sc (.int .i64 P.chk)) := by
  have b1 := hP.nodes
  have b2 := hP.flows
  refine pcall_intro c48_ok (by simp) (by simp [PureL, Pure, pure_dproc]) ?_ (by simp [Pure])
  (apply red_sound; focus (repeat' (first | exact Red.skip | exact Red.ret | exact RedO.nil | exact RedD.nil | exact Red.exit _ | exact Red.loop _ | exact Red.stop _ | apply Red.ops | apply Red.draw | apply Red.seq | apply Red.cond | apply Red.block | apply RedO.cons | apply RedD.cons | exact (0 : Nat))))
  ((conv => whnf); repeat (refine And.intro rfl ?_; (conv => whnf)))
  rw [List.length_map]
  have fin : ∀ {H : List AObj} {z : Int}, z = P.chk → Deep H (.sc (.int .i64 z)) (.sc (.int .i64 P.chk)) := fun h => h ▸ .refl _
  (refine ifK_split (fun h1 => ?_) (fun h1 => ?_) <;> (rw [h1]; ((conv => whnf); repeat (refine And.intro rfl ?_; (conv => whnf)))))
  · exact fin (by unfold ProcD.chk; rw [if_pos (.inl (by ((try simp only [oo, reduceCtorEq] at *) <;> omega)))])
  rw [List.length_map]
  (refine ifK_split (fun h2 => ?_) (fun h2 => ?_) <;> (rw [h2]; ((conv => whnf); repeat (refine And.intro rfl ?_; (conv => whnf)))))
  · exact fin (by unfold ProcD.chk; rw [if_pos (.inr (by ((try simp only [oo, reduceCtorEq] at *) <;> omega)))])
  have c1 : ¬ (20 < P.nodes.length ∨ 30 < P.flows.length) := by ((try simp only [oo, reduceCtorEq] at *) <;> omega)
  have hit : ∀ {H : List AObj} {z : Int} (k : Nat), k < P.nodes.length → (∀ j, j < k → P.nodeE j = 0) → P.nodeE k = z → z ≠ 0 → Deep H (.sc (.int .i64 z)) (.sc (.int .i64 P.chk)) := fun k h1 h2 h3 h4 => fin (by
    have e : P.nodesE = P.nodeE k := ProcD.firstE_hit h1 h2 (by rw [h3]; exact h4)
    unfold ProcD.chk
    rw [if_neg c1, if_pos (by rw [e, h3]; exact h4), e, h3])
  refine pwp_for [1, 3] (fun ((k, s, m) : Nat × Int × Int) => [(4, .sc (.int .i64 s)), (5, .sc (.int .i64 m)), (6, .sc (.int .i64 k))]) (fun _ => []) (fun (k, s, m) => k ≤ P.nodes.length ∧ s = P.startI k ∧ m = P.starts k ∧ ∀ j, j < k → P.nodeE j = 0) (fun (k, s, m) => P.nodes.length - k) (0, -1, 0) ?_
  ((conv => whnf); repeat (refine And.intro rfl ?_; (conv => whnf)))
  refine ⟨⟨by omega, rfl, rfl, fun j hj => by omega⟩, by (repeat' (first | exact trivial | refine And.intro rfl ?_)), rfl, ?_⟩
  rintro ⟨k, s, m⟩ ⟨hk, hs, hm, hall⟩
  ((conv => whnf); repeat (refine And.intro rfl ?_; (conv => whnf)))
  (apply red_sound; focus (repeat' (first | exact Red.skip | exact Red.ret | exact RedO.nil | exact RedD.nil | exact Red.exit _ | exact Red.loop _ | exact Red.stop _ | apply Red.ops | apply Red.draw | apply Red.seq | apply Red.cond | apply Red.block | apply RedO.cons | apply RedD.cons | exact (0 : Nat))))
  ((conv => whnf); repeat (refine And.intro rfl ?_; (conv => whnf)))
  (refine ifK_split (fun h => ?_) (fun h => ?_) <;> (rw [h]; ((conv => whnf); repeat (refine And.intro rfl ?_; (conv => whnf)))))
  · have hk' : k < P.nodes.length := by ((try simp only [oo, reduceCtorEq] at *) <;> omega)
    have hle := P.starts_le k
    refine ⟨by omega, _, node_at P (k := k) (by omega) hk', ?_⟩
    ((conv => whnf); repeat (refine And.intro rfl ?_; (conv => whnf)))
    (refine .inl ⟨_, (ref_Named (P.name k) (hP.at hk')), ?_⟩; ((conv => whnf); repeat (refine And.intro rfl ?_; (conv => whnf))))
    (refine ifK_split (fun h3 => ?_) (fun h3 => ?_) <;> (rw [h3]; ((conv => whnf); repeat (refine And.intro rfl ?_; (conv => whnf)))))
    · exact hit k hk' hall (by unfold ProcD.nodeE; rw [if_pos (.inl (by simpa using h3))]) (by decide)
    have h3 : namedB (P.name k) = true := by simpa using h3
    refine ⟨by omega, _, node_at P (k := k) (by omega) hk', ?_⟩
    ((conv => whnf); repeat (refine And.intro rfl ?_; (conv => whnf)))
    (refine ifK_split (fun h4 => ?_) (fun h4 => ?_) <;> (rw [h4]; ((conv => whnf); repeat (refine And.intro rfl ?_; (conv => whnf)))))
    · exact hit k hk' hall (by unfold ProcD.nodeE; rw [if_pos (.inr (.inl (by ((try simp only [oo, reduceCtorEq] at *) <;> omega))))]) (by decide)
    refine ⟨by omega, _, node_at P (k := k) (by omega) hk', ?_⟩
    ((conv => whnf); repeat (refine And.intro rfl ?_; (conv => whnf)))
    (refine ifK_split (fun h5 => ?_) (fun h5 => ?_) <;> (rw [h5]; ((conv => whnf); repeat (refine And.intro rfl ?_; (conv => whnf)))))
    · exact hit k hk' hall (by unfold ProcD.nodeE; rw [if_pos (.inr (.inr (by ((try simp only [oo, reduceCtorEq] at *) <;> omega))))]) (by decide)
    have d1 : ¬ (namedB (P.name k) = false ∨ P.kind k < 1 ∨ 7 < P.kind k) := by
      rintro (q | q | q)
      · rw [h3] at q; cases q
      · ((try simp only [oo, reduceCtorEq] at *) <;> omega)
      · ((try simp only [oo, reduceCtorEq] at *) <;> omega)
    refine pwp_for [1, 3, 4, 5, 6] (fun j : Nat => [(7, .sc (.int .i64 j))]) (fun _ => []) (fun j => j ≤ k ∧ ∀ i, i < j → eqS (P.name i) (P.name k) = false) (fun j => k - j) 0 ?_
    ((conv => whnf); repeat (refine And.intro rfl ?_; (conv => whnf)))
    refine ⟨⟨by omega, fun j hj => by omega⟩, by (repeat' (first | exact trivial | refine And.intro rfl ?_)), rfl, ?_⟩
    rintro j ⟨hj, hno⟩
    ((conv => whnf); repeat (refine And.intro rfl ?_; (conv => whnf)))
    (apply red_sound; focus (repeat' (first | exact Red.skip | exact Red.ret | exact RedO.nil | exact RedD.nil | exact Red.exit _ | exact Red.loop _ | exact Red.stop _ | apply Red.ops | apply Red.draw | apply Red.seq | apply Red.cond | apply Red.block | apply RedO.cons | apply RedD.cons | exact (0 : Nat))))
    ((conv => whnf); repeat (refine And.intro rfl ?_; (conv => whnf)))
    (refine ifK_split (fun h6 => ?_) (fun h6 => ?_) <;> (rw [h6]; ((conv => whnf); repeat (refine And.intro rfl ?_; (conv => whnf)))))
    · have hj' : j < k := by ((try simp only [oo, reduceCtorEq] at *) <;> omega)
      refine ⟨by omega, _, node_at P (k := j) (by omega) (by omega), ?_⟩
      ((conv => whnf); repeat (refine And.intro rfl ?_; (conv => whnf)))
      refine ⟨by omega, _, node_at P (k := k) (by omega) hk', ?_⟩
      ((conv => whnf); repeat (refine And.intro rfl ?_; (conv => whnf)))
      (refine ifK_split (fun h7 => ?_) (fun h7 => ?_) <;> (rw [h7]; ((conv => whnf); repeat (refine And.intro rfl ?_; (conv => whnf)))))
      · exact hit k hk' hall (by
          unfold ProcD.nodeE
          rw [if_neg d1, if_pos]
          rw [List.any_eq_true]
          exact ⟨j, List.mem_range.2 hj', h7⟩) (by decide)
      · (refine .inl ⟨by (unfold InR; rw [IntKind.wrap_i64]; omega), ?_⟩; ((conv => whnf); repeat (refine And.intro rfl ?_; (conv => whnf))))
        refine ⟨j + 1, ⟨by omega, fun i hi => ?_⟩, by dsimp only; omega, leB_envH (by (repeat' (first | exact trivial | refine And.intro rfl ?_))) rfl⟩
        by_cases e : i = j
        · subst e; exact h7
        · exact hno i (by omega)
    have hjk : j = k := by have : ¬ j < k := by ((try simp only [oo, reduceCtorEq] at *) <;> omega)
                           omega
    subst hjk
    have hz : P.nodeE j = 0 := by
      unfold ProcD.nodeE
      rw [if_neg d1, if_neg]
      rw [List.any_eq_true]
      rintro ⟨i, q1, q2⟩
      rw [hno i (List.mem_range.1 q1)] at q2; cases q2
    have hall' : ∀ i, i < j + 1 → P.nodeE i = 0 := fun i hi => by
      by_cases e : i = j
      · subst e; exact hz
      · exact hall i (by omega)
    refine ⟨by omega, _, node_at P (k := j) (by omega) hk', ?_⟩
    ((conv => whnf); repeat (refine And.intro rfl ?_; (conv => whnf)))
    (refine ifK_split (fun h8 => ?_) (fun h8 => ?_) <;> (rw [h8]; ((conv => whnf); repeat (refine And.intro rfl ?_; (conv => whnf)))))
    · have h8 : P.kind j = 1 := by ((try simp only [oo, reduceCtorEq] at *) <;> omega)
      (refine .inl ⟨by (unfold InR; rw [IntKind.wrap_i64]; omega), ?_⟩; ((conv => whnf); repeat (refine And.intro rfl ?_; (conv => whnf))))
      (refine .inl ⟨by (unfold InR; rw [IntKind.wrap_i64]; omega), ?_⟩; ((conv => whnf); repeat (refine And.intro rfl ?_; (conv => whnf))))
      exact ⟨(j + 1, j, m + 1), ⟨by omega, by simp [ProcD.startI, h8], by simp [ProcD.starts, h8, hm], hall'⟩, by dsimp only; omega, leB_envH (by (repeat' (first | exact trivial | refine And.intro rfl ?_))) rfl⟩
    · have h8 : P.kind j ≠ 1 := by ((try simp only [oo, reduceCtorEq] at *) <;> omega)
      (refine .inl ⟨by (unfold InR; rw [IntKind.wrap_i64]; omega), ?_⟩; ((conv => whnf); repeat (refine And.intro rfl ?_; (conv => whnf))))
      exact ⟨(j + 1, s, m), ⟨by omega, by simp [ProcD.startI, h8, hs], by simp [ProcD.starts, h8, hm], hall'⟩, by dsimp only; omega, leB_envH (by (repeat' (first | exact trivial | refine And.intro rfl ?_))) rfl⟩
  have hkn : k = P.nodes.length := by have : ¬ k < P.nodes.length := by ((try simp only [oo, reduceCtorEq] at *) <;> omega)
                                      omega
  subst hs hm
  subst hkn
  clear h hk
  have c2 : ¬ P.nodesE ≠ 0 := fun q => q (ProcD.firstE_zero.2 hall)
  clear hall
  refine pwp_for [1, 3, 4, 5] (fun k : Nat => [(8, .sc (.int .i64 k))]) (fun _ => []) (fun k => k ≤ P.flows.length ∧ ∀ i, i < k → P.flowOK i = true) (fun k => P.flows.length - k) 0 ?_
  ((conv => whnf); repeat (refine And.intro rfl ?_; (conv => whnf)))
  refine ⟨⟨by omega, fun i hi => by omega⟩, by (repeat' (first | exact trivial | refine And.intro rfl ?_)), rfl, ?_⟩
  rintro k ⟨hk, hall⟩
  ((conv => whnf); repeat (refine And.intro rfl ?_; (conv => whnf)))
  (apply red_sound; focus (repeat' (first | exact Red.skip | exact Red.ret | exact RedO.nil | exact RedD.nil | exact Red.exit _ | exact Red.loop _ | exact Red.stop _ | apply Red.ops | apply Red.draw | apply Red.seq | apply Red.cond | apply Red.block | apply RedO.cons | apply RedD.cons | exact (0 : Nat))))
  ((conv => whnf); repeat (refine And.intro rfl ?_; (conv => whnf)))
  rw [List.length_map]
  (refine ifK_split (fun h => ?_) (fun h => ?_) <;> (rw [h]; ((conv => whnf); repeat (refine And.intro rfl ?_; (conv => whnf)))))
  · have hk' : k < P.flows.length := by ((try simp only [oo, reduceCtorEq] at *) <;> omega)
    refine ⟨by omega, _, flow_at P (k := k) (by omega) hk', ?_⟩
    ((conv => whnf); repeat (refine And.intro rfl ?_; (conv => whnf)))
    refine ⟨by omega, _, flow_at P (k := k) (by omega) hk', ?_⟩
    ((conv => whnf); repeat (refine And.intro rfl ?_; (conv => whnf)))
    refine .inr (.inl ⟨_, _, .cons _ _ _ _ (deep_ints (l := [P.src k, P.dst k]) rfl rfl) (.cons _ _ _ _ (.refl _) .nil), ref_In [P.src k, P.dst k] (by simp) P.nodes.length, rfl, ?_⟩)
    ((conv => whnf); repeat (refine And.intro rfl ?_; (conv => whnf)))
    rw [inB_flow]
    (refine ifK_split (fun h3 => ?_) (fun h3 => ?_) <;> (rw [h3]; ((conv => whnf); repeat (refine And.intro rfl ?_; (conv => whnf)))))
    · exact fin (by
        unfold ProcD.chk
        rw [if_neg c1, if_neg c2, if_pos]
        intro q
        rw [q k hk'] at h3; cases h3)
    · (refine .inl ⟨by (unfold InR; rw [IntKind.wrap_i64]; omega), ?_⟩; ((conv => whnf); repeat (refine And.intro rfl ?_; (conv => whnf))))
      refine ⟨k + 1, ⟨by omega, fun i hi => ?_⟩, by dsimp only; omega, ?_⟩
      · by_cases e : i = k
        · subst e; simpa using h3
        · exact hall i (by omega)
      (refine leB_close 1 (by simp) rfl ?_ ?_ <;> (repeat' (first | exact trivial | exact rfl | exact DeepM.refl _ | exact DeepML.refl _ | exact DeepMLL.refl _ | refine And.intro ?_ ?_ | (simp [Under, UnderL, UnderLL, -List.map_take, -List.map_drop]; done))))
  have hkn : k = P.flows.length := by have : ¬ k < P.flows.length := by ((try simp only [oo, reduceCtorEq] at *) <;> omega)
                                      omega
  subst hkn
  have c3 : ¬ ¬ ∀ i, i < P.flows.length → P.flowOK i = true := fun q => q hall
  (refine ifK_split (fun h4 => ?_) (fun h4 => ?_) <;> (rw [h4]; ((conv => whnf); repeat (refine And.intro rfl ?_; (conv => whnf)))))
  · have h4 : P.starts P.nodes.length ≠ 1 := by ((try simp only [oo, reduceCtorEq] at *) <;> omega)
    exact fin (by unfold ProcD.chk; rw [if_neg c1, if_neg c2, if_neg c3, if_pos h4])
  have h4 : P.starts P.nodes.length = 1 := by ((try simp only [oo, reduceCtorEq] at *) <;> omega)
  have hst := P.startI_pos P.nodes.length (by omega)
  have c4 : ¬ P.starts P.nodes.length ≠ 1 := fun q => q h4
  clear h hk
  refine pwp_for [1, 3, 4] (fun k : Nat => [(9, .sc (.int .i64 k))]) (fun _ => []) (fun k => k ≤ P.nodes.length ∧ ∀ i, i < k → P.nodeOK i = true) (fun k => P.nodes.length - k) 0 ?_
  ((conv => whnf); repeat (refine And.intro rfl ?_; (conv => whnf)))
  refine ⟨⟨by omega, fun i hi => by omega⟩, by (repeat' (first | exact trivial | refine And.intro rfl ?_)), rfl, ?_⟩
  rintro k ⟨hk, hok⟩
  ((conv => whnf); repeat (refine And.intro rfl ?_; (conv => whnf)))
  (apply red_sound; focus (repeat' (first | exact Red.skip | exact Red.ret | exact RedO.nil | exact RedD.nil | exact Red.exit _ | exact Red.loop _ | exact Red.stop _ | apply Red.ops | apply Red.draw | apply Red.seq | apply Red.cond | apply Red.block | apply RedO.cons | apply RedD.cons | exact (0 : Nat))))
  ((conv => whnf); repeat (refine And.intro rfl ?_; (conv => whnf)))
  (refine ifK_split (fun h => ?_) (fun h => ?_) <;> (rw [h]; ((conv => whnf); repeat (refine And.intro rfl ?_; (conv => whnf)))))
  · have hk' : k < P.nodes.length := by ((try simp only [oo, reduceCtorEq] at *) <;> omega)
    (refine .inl ⟨_, (ref_FlowsIn P hP (by omega) k), ?_⟩; ((conv => whnf); repeat (refine And.intro rfl ?_; (conv => whnf))))
    (refine .inl ⟨_, (ref_FlowsOut P hP (by omega) k), ?_⟩; ((conv => whnf); repeat (refine And.intro rfl ?_; (conv => whnf))))
    rw [List.length_map, List.length_map]
    have no : P.nodeOK k = false → Deep [AObj.row true P.cells] (.sc (.int .i64 1)) (.sc (.int .i64 P.chk)) := fun h5 => fin (by
        unfold ProcD.chk
        rw [if_neg c1, if_neg c2, if_neg c3, if_neg c4, if_pos]
        intro q
        rw [q k hk'] at h5; cases h5)
    have yes : P.nodeOK k = true → ∀ i, i < k + 1 → P.nodeOK i = true := fun h5 i hi => by
      by_cases e : i = k
      · subst e; exact h5
      · exact hok i (by omega)
    have eOK : P.nodeOK k = ProcD.countsB (P.kind k) (P.inL k).length (P.outL k).length := rfl
    generalize (P.inL k).length = a at eOK ⊢
    generalize (P.outL k).length = b at eOK ⊢
    have hi : InR .i64 ((k : Int) + 1) := inr_succ hk' (by omega)
    have hkr : 1 ≤ P.kind k ∧ P.kind k ≤ 7 := nodeE_zero (ProcD.firstE_zero.1 (Classical.not_not.1 c2) k hk')
    generalize hK : P.kind k = K at eOK hkr
    have hn : ∀ {z : Nat}, z = k → (P.nodes.map nrow)[z]? = some [.sc (.string (P.name k)), .sc (.int .i64 K)] := fun h => hK ▸ node_at P h hk'
    generalize P.nodeOK k = ok at eOK no yes
    have yes' : ok = true → k + 1 ≤ P.nodes.length ∧ ∀ i, i < k + 1 → P.nodeOK i = true := fun h => ⟨by omega, yes h⟩
    clear hit h1 h2 c1 c2 c3 c4 h4 hst hok hall fin b1 b2 yes hK h hP
    repeat' (first
      | (refine ⟨by omega, _, hn (by omega), ?_⟩; ((conv => whnf); repeat (refine And.intro rfl ?_; (conv => whnf))))
      | (refine ifK_split (fun h => ?_) (fun h => ?_) <;> (rw [h]; ((conv => whnf); repeat (refine And.intro rfl ?_; (conv => whnf)))))
      | exact no (by rw [eOK]; clear no yes' hn eOK hk hk' hi; unfold ProcD.countsB; simp_all; try omega)
      | (refine .inl ⟨hi, ?_⟩; ((conv => whnf); repeat (refine And.intro rfl ?_; (conv => whnf))))
      | exact ⟨k + 1, yes' (by rw [eOK]; clear no yes' hn eOK hk hk' hi; unfold ProcD.countsB; simp_all; try omega), by dsimp only; omega, leB_envH (by (repeat' (first | exact trivial | refine And.intro rfl ?_))) rfl⟩)
  have hkn : k = P.nodes.length := by have : ¬ k < P.nodes.length := by ((try simp only [oo, reduceCtorEq] at *) <;> omega)
                                      omega
  subst hkn
  have c5 : ¬ ¬ ∀ i, i < P.nodes.length → P.nodeOK i = true := fun q => q hok
  clear h hk hok
  refine ⟨by omega, by omega, by omega, ?_⟩
  rw [Int.toNat_natCast, show List.replicate P.nodes.length (List.map D.sc [Value.bool false]) = rbl P.nodes.length (fun _ => false) from rbl_rep _]
  ((conv => whnf); repeat (refine And.intro rfl ?_; (conv => whnf)))
  (refine ⟨by omega, (by first | omega | (simp; done) | (simp; omega) | (simp only [ll]; omega)), ?_⟩; ((conv => whnf); repeat (refine And.intro rfl ?_; (conv => whnf))))
  refine ⟨_, rbl_atN (P.startI P.nodes.length).toNat (by omega) (by omega), ?_⟩
  ((conv => whnf); repeat (refine And.intro rfl ?_; (conv => whnf)))
  rw [rbl_mark (v := (P.startI P.nodes.length).toNat) (by omega)]
  have s0 : unseen (mark (fun _ => false) (P.startI P.nodes.length).toNat) P.nodes.length + 1 ≤ P.nodes.length := by
    have := unseen_lt (s := fun _ => false) (s' := mark (fun _ => false) (P.startI P.nodes.length).toNat) (n := P.nodes.length) (i := (P.startI P.nodes.length).toNat) (by omega) (fun j _ h => by cases h) rfl (mark_self _ _)
    have := unseen_le (fun _ => false) P.nodes.length
    omega
  refine pwp_for [1, 3, 13] (fun ((r, s) : Nat × (Nat → Bool)) => [(14, .sc (.int .i64 r))]) (fun (r, s) => [(1, .vec true 0 1 (rbl P.nodes.length s))]) (fun (r, s) => r ≤ P.nodes.length ∧ s (P.startI P.nodes.length).toNat = true ∧ (∀ v, s v = true → P.Come v) ∧ (FClosed P s ∨ unseen s P.nodes.length + r + 1 ≤ P.nodes.length)) (fun (r, s) => P.nodes.length - r) (0, mark (fun _ => false) (P.startI P.nodes.length).toNat) ?_
  ((conv => whnf); repeat (refine And.intro rfl ?_; (conv => whnf)))
  refine ⟨⟨by omega, mark_self _ _, fun v hv => ?_, .inr (by omega)⟩, by (repeat' (first | exact trivial | refine And.intro rfl ?_)), rfl, ?_⟩
  · rcases mark_iff.1 hv with q | q
    · subst q; exact .base (by simp)
    · cases q
  rintro ⟨r, s⟩ ⟨hr, hs0, hsc, hcl⟩
  ((conv => whnf); repeat (refine And.intro rfl ?_; (conv => whnf)))
  (apply red_sound; focus (repeat' (first | exact Red.skip | exact Red.ret | exact RedO.nil | exact RedD.nil | exact Red.exit _ | exact Red.loop _ | exact Red.stop _ | apply Red.ops | apply Red.draw | apply Red.seq | apply Red.cond | apply Red.block | apply RedO.cons | apply RedD.cons | exact (0 : Nat))))
  ((conv => whnf); repeat (refine And.intro rfl ?_; (conv => whnf)))
  (refine ifK_split (fun h => ?_) (fun h => ?_) <;> (rw [h]; ((conv => whnf); repeat (refine And.intro rfl ?_; (conv => whnf)))))
  · have hr' : r < P.nodes.length := by ((try simp only [oo, reduceCtorEq] at *) <;> omega)
    refine pwp_for [1, 3, 13, 14] (fun ((j, s') : Nat × (Nat → Bool)) => [(15, .sc (.int .i64 j))]) (fun (j, s') => [(1, .vec true 0 1 (rbl P.nodes.length s'))]) (fun (j, s') => j ≤ P.flows.length ∧ s' (P.startI P.nodes.length).toNat = true ∧ (∀ v, s' v = true → P.Come v) ∧ (FClosed P s → s' = s) ∧ ((s' = s ∧ ∀ i, i < j → s (P.src i).toNat = true → s (P.dst i).toNat = true) ∨ unseen s' P.nodes.length < unseen s P.nodes.length)) (fun (j, s') => P.flows.length - j) (0, s) ?_
    ((conv => whnf); repeat (refine And.intro rfl ?_; (conv => whnf)))
    refine ⟨⟨by omega, hs0, hsc, fun _ => rfl, .inl ⟨rfl, fun i hi => by omega⟩⟩, by (repeat' (first | exact trivial | refine And.intro rfl ?_)), rfl, ?_⟩
    rintro ⟨j, s'⟩ ⟨hj, hs0', hsc', heq, hdo⟩
    ((conv => whnf); repeat (refine And.intro rfl ?_; (conv => whnf)))
    (apply red_sound; focus (repeat' (first | exact Red.skip | exact Red.ret | exact RedO.nil | exact RedD.nil | exact Red.exit _ | exact Red.loop _ | exact Red.stop _ | apply Red.ops | apply Red.draw | apply Red.seq | apply Red.cond | apply Red.block | apply RedO.cons | apply RedD.cons | exact (0 : Nat))))
    ((conv => whnf); repeat (refine And.intro rfl ?_; (conv => whnf)))
    rw [List.length_map]
    (refine ifK_split (fun h6 => ?_) (fun h6 => ?_) <;> (rw [h6]; ((conv => whnf); repeat (refine And.intro rfl ?_; (conv => whnf)))))
    · have hj' : j < P.flows.length := by ((try simp only [oo, reduceCtorEq] at *) <;> omega)
      have ho := ProcD.flowOK_iff.1 (hall j hj')
      refine ⟨by omega, _, flow_at P (k := j) (by omega) hj', ?_⟩
      ((conv => whnf); repeat (refine And.intro rfl ?_; (conv => whnf)))
      (refine ⟨by omega, (by first | omega | (simp; done) | (simp; omega) | (simp only [ll]; omega)), ?_⟩; ((conv => whnf); repeat (refine And.intro rfl ?_; (conv => whnf))))
      refine ⟨_, rbl_atN (P.src j).toNat (by omega) (by omega), ?_⟩
      ((conv => whnf); repeat (refine And.intro rfl ?_; (conv => whnf)))
      (refine ifK_split (fun h7 => ?_) (fun h7 => ?_) <;> (rw [h7]; ((conv => whnf); repeat (refine And.intro rfl ?_; (conv => whnf)))))
      · refine ⟨by omega, _, flow_at P (k := j) (by omega) hj', ?_⟩
        ((conv => whnf); repeat (refine And.intro rfl ?_; (conv => whnf)))
        (refine ⟨by omega, (by first | omega | (simp; done) | (simp; omega) | (simp only [ll]; omega)), ?_⟩; ((conv => whnf); repeat (refine And.intro rfl ?_; (conv => whnf))))
        refine ⟨_, rbl_atN (P.dst j).toNat (by omega) (by omega), ?_⟩
        ((conv => whnf); repeat (refine And.intro rfl ?_; (conv => whnf)))
        (refine .inl ⟨by (unfold InR; rw [IntKind.wrap_i64]; omega), ?_⟩; ((conv => whnf); repeat (refine And.intro rfl ?_; (conv => whnf))))
        refine ⟨(j + 1, mark s' (P.dst j).toNat), ⟨by omega, mark_of hs0', fun v hv => ?_, fun hc => ?_, ?_⟩, by dsimp only; omega, leB_envH (by (repeat' (first | exact trivial | refine And.intro rfl ?_))) ?_⟩
        · rcases mark_iff.1 hv with q | q
          · subst q
            exact .step (hsc' _ h7) ((ProcD.graph_mem hall).2 ⟨j, hj', by omega, rfl⟩)
          · exact hsc' v q
        · have e := heq hc
          subst e
          exact mark_same (hc j hj' h7)
        · cases hd : s' (P.dst j).toNat with
          | true =>
            rw [mark_same hd]
            refine hdo.imp_left fun ⟨q1, q2⟩ => ⟨q1, fun i hi => ?_⟩
            by_cases e : i = j
            · subst e; subst q1; exact fun _ => hd
            · exact q2 i (by omega)
          | false =>
            refine .inr ?_
            have := unseen_lt (s := s') (s' := mark s' (P.dst j).toNat) (n := P.nodes.length) (i := (P.dst j).toNat) (by omega) (fun _ _ h => mark_of h) hd (mark_self _ _)
            rcases hdo with ⟨q, _⟩ | q
            · subst q; exact this
            · omega
        · rw [rbl_mark (v := (P.dst j).toNat) (by omega)]
          rfl
      · (refine .inl ⟨by (unfold InR; rw [IntKind.wrap_i64]; omega), ?_⟩; ((conv => whnf); repeat (refine And.intro rfl ?_; (conv => whnf))))
        refine ⟨(j + 1, s'), ⟨by omega, hs0', hsc', heq, hdo.imp_left fun ⟨q1, q2⟩ => ⟨q1, fun i hi => ?_⟩⟩, by dsimp only; omega, leB_envH (by (repeat' (first | exact trivial | refine And.intro rfl ?_))) rfl⟩
        by_cases e : i = j
        · subst e; subst q1; intro q; rw [q] at h7; cases h7
        · exact q2 i (by omega)
    · have hjn : j = P.flows.length := by have : ¬ j < P.flows.length := by ((try simp only [oo, reduceCtorEq] at *) <;> omega)
                                          omega
      subst hjn
      (refine .inl ⟨by (unfold InR; rw [IntKind.wrap_i64]; omega), ?_⟩; ((conv => whnf); repeat (refine And.intro rfl ?_; (conv => whnf))))
      refine ⟨(r + 1, s'), ⟨by omega, hs0', hsc', ?_⟩, by dsimp only; omega, leB_envH (by (repeat' (first | exact trivial | refine And.intro rfl ?_))) rfl⟩
      rcases hdo with ⟨q1, q2⟩ | q
      · subst q1; exact .inl q2
      · rcases hcl with hc | hc
        · have e := heq hc
          subst e
          exact .inl hc
        · exact .inr (by omega)
  have hrn : r = P.nodes.length := by have : ¬ r < P.nodes.length := by ((try simp only [oo, reduceCtorEq] at *) <;> omega)
                                      omega
  subst hrn
  have hc : FClosed P s := hcl.resolve_right (by omega)
  have hB := fun v => fclosed_come hall hs0 hc hsc v
  rw [rbl_congr (g' := rchB (P.graph P.flows.length) [P.startI P.nodes.length]) fun i _ => hB i]
  refine .inr (.inl ⟨_, _, .cons _ _ _ _ (deep_vec rfl) (.cons _ _ _ _ (.refl _) .nil), contains_truth _ (rchB (P.graph P.flows.length) [P.startI P.nodes.length]) (by omega) false, rfl, ?_⟩)
  ((conv => whnf); repeat (refine And.intro rfl ?_; (conv => whnf)))
  (refine ifK_split (fun h6 => ?_) (fun h6 => ?_) <;> (rw [h6]; ((conv => whnf); repeat (refine And.intro rfl ?_; (conv => whnf)))))
  · obtain ⟨v, q1, q2⟩ := contains_truth_iff.1 h6
    exact fin (by
      unfold ProcD.chk
      rw [if_neg c1, if_neg c2, if_neg c3, if_neg c4, if_neg c5, if_pos]
      intro q
      rw [rchB_iff.2 (q v q1)] at q2; cases q2)
  · exact fin (by
      unfold ProcD.chk
      rw [if_neg c1, if_neg c2, if_neg c3, if_neg c4, if_neg c5, if_neg]
      intro q
      refine q fun v hv => ?_
      unfold ProcD.Come
      rw [← rchB_iff, ← Bool.not_eq_false]
      intro q2
      rw [contains_truth_iff.2 ⟨v, hv, q2⟩] at h6; cases h6)
end Go.Proofs.Ytikdngjdhncioaa
