/-
  Verdicts that are played: the reference, over deep values. No statement is proved here.
-/
import Derived.Test.YteckcflliaecpaaRy1
import Derived.Test.YteckcflliaecpaaSt3
namespace Go.Proofs.Yteckcflliaecpaa
open Go.RowKit
set_option linter.unusedSimpArgs false
set_option linter.unusedVariables false
def c5_1 : PC := .seq (.seq (.ops [⟨(some 49), .move (.tmp 10), none, 0⟩,
    ⟨(some 50), .move (.tmp 9), none, 0⟩,
    ⟨(some 51), .len (.tmp 50), none, 0⟩,
    ⟨(some 52), .bin .lss (.tmp 49) (.tmp 51), none, 0⟩] false) (.cond (.tmp 52) (.skip) (.exit 0))) (.seq (.block 1 (.seq (.ops [⟨(some 55), .move (.tmp 8), none, 0⟩,
    ⟨(some 56), .move (.tmp 8), none, 0⟩,
    ⟨(some 57), .len (.tmp 56), none, 0⟩,
    ⟨(some 58), .bin .sub (.tmp 57) (.const (.int .i64 1)), none, 0⟩,
    ⟨(some 59), .iaddr 1 (.tmp 55) (.tmp 58), none, 0⟩,
    ⟨(some 60), .load1 (.tmp 59), none, 0⟩,
    ⟨(some 11), .move (.tmp 60), none, 0⟩] false) (.seq (.seq (.ops [⟨(some 61), .move (.tmp 9), none, 0⟩,
    ⟨(some 62), .move (.tmp 10), none, 0⟩,
    ⟨(some 63), .iaddr 1 (.tmp 61) (.tmp 62), none, 0⟩,
    ⟨(some 64), .load1 (.tmp 63), none, 0⟩,
    ⟨(some 65), .bin .eql (.tmp 64) (.const (.int .i64 (-1))), none, 0⟩] false) (.cond (.tmp 65) (.seq (.seq (.ops [⟨(some 66), .loadA 2 (.tmp 2), none, 0⟩,
    ⟨(some 67), .move (.tmp 6), none, 0⟩,
    ⟨(some 68), .move (.tmp 11), none, 0⟩,
    ⟨(some 69), .call 12 [(.tmp 66), (.tmp 67), (.tmp 68)], none, 0⟩,
    ⟨(some 70), .len (.tmp 69), none, 0⟩,
    ⟨(some 71), .bin .gtr (.tmp 70) (.const (.int .i64 0)), none, 0⟩] false) (.cond (.tmp 71) (.seq (.ops [⟨(some 4), .move (.const (.slice none 0 0)), none, 0⟩,
    ⟨(some 5), .move (.const (.int .i64 9)), none, 0⟩] false) (.ret)) (.skip))) (.seq (.ops [⟨(some 72), .move (.tmp 8), none, 0⟩,
    ⟨(some 73), .move (.tmp 11), none, 0⟩,
    ⟨(some 74), .append 1 8 (.const (.slice none 0 0)) (.tmp 73), none, 0⟩,
    ⟨(some 75), .bslice 1 1 [(.tmp 74)], none, 0⟩,
    ⟨(some 76), .append 1 24 (.tmp 72) (.tmp 75), none, 0⟩,
    ⟨(some 8), .move (.tmp 76), none, 0⟩] false) (.exit 1))) (.skip))) (.seq (.seq (.ops [⟨(some 77), .move (.tmp 9), none, 0⟩,
    ⟨(some 78), .move (.tmp 10), none, 0⟩,
    ⟨(some 79), .iaddr 1 (.tmp 77) (.tmp 78), none, 0⟩,
    ⟨(some 80), .load1 (.tmp 79), none, 0⟩,
    ⟨(some 81), .bin .lss (.tmp 80) (.const (.int .i64 0)), none, 0⟩,
    ⟨(some 82), .move (.tmp 81), none, 0⟩,
    ⟨(some 83), .move (.tmp 9), (some (82, false)), 0⟩,
    ⟨(some 84), .move (.tmp 10), (some (82, false)), 0⟩,
    ⟨(some 85), .iaddr 1 (.tmp 83) (.tmp 84), (some (82, false)), 0⟩,
    ⟨(some 86), .load1 (.tmp 85), (some (82, false)), 0⟩,
    ⟨(some 87), .move (.tmp 6), (some (82, false)), 0⟩,
    ⟨(some 88), .len (.tmp 87), (some (82, false)), 0⟩,
    ⟨(some 89), .bin .geq (.tmp 86) (.tmp 88), (some (82, false)), 0⟩,
    ⟨(some 90), .pick (.tmp 82) (.const (.bool true)) (.tmp 89), none, 0⟩] false) (.cond (.tmp 90) (.seq (.ops [⟨(some 4), .move (.const (.slice none 0 0)), none, 0⟩,
    ⟨(some 5), .move (.const (.int .i64 1)), none, 0⟩] false) (.ret)) (.skip))) (.seq (.seq (.ops [⟨(some 91), .loadA 2 (.tmp 2), none, 0⟩,
    ⟨(some 92), .move (.tmp 11), none, 0⟩,
    ⟨(some 93), .move (.tmp 6), none, 0⟩,
    ⟨(some 94), .move (.tmp 9), none, 0⟩,
    ⟨(some 95), .move (.tmp 10), none, 0⟩,
    ⟨(some 96), .iaddr 1 (.tmp 94) (.tmp 95), none, 24⟩,
    ⟨(some 97), .load1 (.tmp 96), none, 56⟩,
    ⟨(some 98), .iaddr 3 (.tmp 93) (.tmp 97), none, 124⟩,
    ⟨(some 99), .loadA 3 (.tmp 98), none, 252⟩,
    ⟨(some 100), .call 13 [(.tmp 91), (.tmp 92), (.tmp 99)], none, 511⟩,
    ⟨(some 101), .un .not (.tmp 100), none, 1023⟩] true) (.cond (.tmp 101) (.seq (.ops [⟨(some 4), .move (.const (.slice none 0 0)), none, 0⟩,
    ⟨(some 5), .move (.const (.int .i64 9)), none, 0⟩] false) (.ret)) (.skip))) (.seq (.ops [⟨(some 103), .loadA 2 (.tmp 2), none, 0⟩,
    ⟨(some 104), .move (.tmp 11), none, 0⟩,
    ⟨(some 105), .move (.tmp 6), none, 0⟩,
    ⟨(some 106), .move (.tmp 9), none, 0⟩,
    ⟨(some 107), .move (.tmp 10), none, 0⟩,
    ⟨(some 108), .iaddr 1 (.tmp 106) (.tmp 107), none, 24⟩,
    ⟨(some 109), .load1 (.tmp 108), none, 56⟩,
    ⟨(some 110), .iaddr 3 (.tmp 105) (.tmp 109), none, 124⟩,
    ⟨(some 111), .loadA 3 (.tmp 110), none, 252⟩,
    ⟨(some 112), .call 14 [(.tmp 103), (.tmp 104), (.tmp 111)], none, 511⟩,
    ⟨(some 102), .move (.tmp 112), none, 1023⟩,
    ⟨(some 113), .ext 0 (.tmp 102), none, 2047⟩,
    ⟨(some 114), .ext 1 (.tmp 102), none, 2047⟩,
    ⟨(some 12), .move (.tmp 113), none, 4095⟩,
    ⟨(some 13), .move (.tmp 114), none, 16383⟩] true) (.seq (.seq (.ops [⟨(some 115), .move (.tmp 13), none, 0⟩,
    ⟨(some 116), .bin .neq (.tmp 115) (.const (.int .i64 0)), none, 0⟩] false) (.cond (.tmp 116) (.seq (.ops [⟨(some 117), .move (.tmp 13), none, 0⟩,
    ⟨(some 4), .move (.const (.slice none 0 0)), none, 0⟩,
    ⟨(some 5), .move (.tmp 117), none, 0⟩] false) (.ret)) (.skip))) (.ops [⟨(some 118), .move (.tmp 8), none, 0⟩,
    ⟨(some 119), .move (.tmp 12), none, 0⟩,
    ⟨(some 120), .bslice 1 1 [(.tmp 119)], none, 0⟩,
    ⟨(some 121), .append 1 24 (.tmp 118) (.tmp 120), none, 0⟩,
    ⟨(some 8), .move (.tmp 121), none, 0⟩] false)))))))) (.ops [⟨(some 53), .move (.tmp 10), none, 0⟩,
    ⟨(some 54), .bin .add (.tmp 53) (.const (.int .i64 1)), none, 0⟩,
    ⟨(some 10), .move (.tmp 54), none, 0⟩] false))
def c5 : PC := .seq (.ops [⟨(some 2), .box (.tmp 0), none, 0⟩,
    ⟨(some 3), .box (.tmp 1), none, 0⟩,
    ⟨(some 4), .move (.const (.slice none 0 0)), none, 0⟩,
    ⟨(some 5), .move (.const (.int .i64 0)), none, 0⟩] false) (.seq (.ops [⟨(some 15), .loadA 2 (.tmp 2), none, 0⟩,
    ⟨(some 16), .call 10 [(.tmp 15)], none, 0⟩,
    ⟨(some 14), .move (.tmp 16), none, 0⟩,
    ⟨(some 17), .ext 0 (.tmp 14), none, 0⟩,
    ⟨(some 18), .ext 1 (.tmp 14), none, 0⟩,
    ⟨(some 6), .move (.tmp 17), none, 0⟩,
    ⟨(some 7), .move (.tmp 18), none, 0⟩] false) (.seq (.seq (.ops [⟨(some 19), .move (.tmp 7), none, 0⟩,
    ⟨(some 20), .bin .neq (.tmp 19) (.const (.int .i64 0)), none, 0⟩] false) (.cond (.tmp 20) (.seq (.ops [⟨(some 21), .move (.tmp 7), none, 0⟩,
    ⟨(some 4), .move (.const (.slice none 0 0)), none, 0⟩,
    ⟨(some 5), .move (.tmp 21), none, 0⟩] false) (.ret)) (.skip))) (.seq (.seq (.ops [⟨(some 22), .faddr 2 (.tmp 3), none, 0⟩,
    ⟨(some 23), .load1 (.tmp 22), none, 0⟩,
    ⟨(some 24), .len (.tmp 23), none, 0⟩,
    ⟨(some 25), .bin .eql (.tmp 24) (.const (.int .i64 0)), none, 0⟩] false) (.cond (.tmp 25) (.seq (.ops [⟨(some 4), .move (.const (.slice none 0 0)), none, 0⟩,
    ⟨(some 5), .move (.const (.int .i64 1)), none, 0⟩] false) (.ret)) (.skip))) (.seq (.seq (.ops [⟨(some 26), .faddr 1 (.tmp 3), none, 0⟩,
    ⟨(some 27), .load1 (.tmp 26), none, 0⟩,
    ⟨(some 28), .len (.tmp 27), none, 0⟩,
    ⟨(some 29), .bin .gtr (.tmp 28) (.const (.int .i64 60000)), none, 0⟩,
    ⟨(some 30), .move (.tmp 29), none, 0⟩,
    ⟨(some 31), .faddr 2 (.tmp 3), (some (30, false)), 0⟩,
    ⟨(some 32), .load1 (.tmp 31), (some (30, false)), 0⟩,
    ⟨(some 33), .len (.tmp 32), (some (30, false)), 0⟩,
    ⟨(some 34), .faddr 1 (.tmp 3), (some (30, false)), 0⟩,
    ⟨(some 35), .load1 (.tmp 34), (some (30, false)), 0⟩,
    ⟨(some 36), .len (.tmp 35), (some (30, false)), 0⟩,
    ⟨(some 37), .bin .sub (.const (.int .i64 60000)) (.tmp 36), (some (30, false)), 0⟩,
    ⟨(some 38), .bin .gtr (.tmp 33) (.tmp 37), (some (30, false)), 0⟩,
    ⟨(some 39), .pick (.tmp 30) (.const (.bool true)) (.tmp 38), none, 0⟩] false) (.cond (.tmp 39) (.seq (.ops [⟨(some 4), .move (.const (.slice none 0 0)), none, 0⟩,
    ⟨(some 5), .move (.const (.int .i64 2)), none, 0⟩] false) (.ret)) (.skip))) (.seq (.ops [⟨(some 40), .loadA 2 (.tmp 2), none, 0⟩,
    ⟨(some 41), .call 11 [(.tmp 40)], none, 0⟩,
    ⟨(some 42), .bslice 1 1 [(.tmp 41)], none, 0⟩,
    ⟨(some 8), .move (.tmp 42), none, 0⟩] false) (.seq (.ops [⟨(some 43), .faddr 1 (.tmp 3), none, 0⟩,
    ⟨(some 44), .load1 (.tmp 43), none, 1⟩,
    ⟨(some 45), .append 1 8 (.const (.slice none 0 0)) (.tmp 44), none, 3⟩,
    ⟨(some 46), .faddr 2 (.tmp 3), none, 0⟩,
    ⟨(some 47), .load1 (.tmp 46), none, 8⟩,
    ⟨(some 48), .append 1 8 (.tmp 45) (.tmp 47), none, 31⟩,
    ⟨(some 9), .move (.tmp 48), none, 63⟩] true) (.seq (.seq (.ops [⟨(some 10), .move (.const (.int .i64 0)), none, 0⟩] false) (.block 0 (.loop c5_1))) (.seq (.seq (.ops [⟨(some 122), .move (.tmp 8), none, 0⟩,
    ⟨(some 123), .faddr 1 (.tmp 3), none, 0⟩,
    ⟨(some 124), .load1 (.tmp 123), none, 2⟩,
    ⟨(some 125), .len (.tmp 124), none, 6⟩,
    ⟨(some 126), .iaddr 1 (.tmp 122) (.tmp 125), none, 15⟩,
    ⟨(some 127), .load1 (.tmp 126), none, 31⟩,
    ⟨(some 128), .move (.tmp 8), none, 0⟩,
    ⟨(some 129), .move (.tmp 8), none, 0⟩,
    ⟨(some 130), .len (.tmp 129), none, 128⟩,
    ⟨(some 131), .bin .sub (.tmp 130) (.const (.int .i64 1)), none, 384⟩,
    ⟨(some 132), .iaddr 1 (.tmp 128) (.tmp 131), none, 960⟩,
    ⟨(some 133), .load1 (.tmp 132), none, 1984⟩,
    ⟨(some 134), .call 9 [(.tmp 127), (.tmp 133)], none, 4095⟩,
    ⟨(some 135), .un .not (.tmp 134), none, 8191⟩] true) (.cond (.tmp 135) (.seq (.ops [⟨(some 4), .move (.const (.slice none 0 0)), none, 0⟩,
    ⟨(some 5), .move (.const (.int .i64 9)), none, 0⟩] false) (.ret)) (.skip))) (.seq (.ops [⟨(some 136), .move (.tmp 8), none, 0⟩,
    ⟨(some 4), .move (.tmp 136), none, 0⟩,
    ⟨(some 5), .move (.const (.int .i64 0)), none, 0⟩] false) (.ret))))))))))
set_option maxRecDepth 100000 in
theorem c5_ok : FunOK Try.prog 5 137 [.tmp 4, .tmp 5] c5 := ⟨⟨Try.f5, Try.func5, rfl, by kernel_rfl, rfl, by kernel_rfl⟩⟩
set_option maxRecDepth 100000 in
theorem ref_Frames (P : ProcD) (hP : P.Fits) (h : Bool) (stem loop : List Int) (l1 : stem.length ≤ 9223372036854775807) (l2 : loop.length ≤ 9223372036854775807) (n : Nat) (hn : n ≤ stem.length + loop.length) (hz : ∀ j, j < n → P.rerr (stem ++ loop) j = 0) (hs : n = stem.length + loop.length ∨ P.rerr (stem ++ loop) n ≠ 0) :
    PCall Try.prog 5 [dproc P, dverd h stem loop] (.tup [dgrid (P.fraL stem loop n), .sc (.int .i64 (P.fraE stem loop n))]) := by
  have eE : P.fraE stem loop n = if P.stepsE ≠ 0 then P.stepsE else if loop.length = 0 then 1 else if 60000 < stem.length + loop.length then 2
      else if n ≠ stem.length + loop.length then P.rerr (stem ++ loop) n
      else if P.rnow (stem ++ loop) stem.length = P.rnow (stem ++ loop) (stem.length + loop.length) then 0 else 9 := rfl
  have eL : P.fraL stem loop n = if P.fraE stem loop n = 0 then P.rgrid (stem ++ loop) (stem.length + loop.length) else [] := rfl
  refine pcall_intro c5_ok (by simp) (by simp [PureL, Pure, pure_dproc, pure_dverd]) ?_ (by simp [Pure, PureL, pure_dgrid'])
  have bad : ∀ {H : List AObj} {e : Int}, e ≠ 0 → P.fraE stem loop n = e → Deep H (.tup [.sc (.slice none 0 0), .sc (.int .i64 e)]) (.tup [dgrid (P.fraL stem loop n), .sc (.int .i64 (P.fraE stem loop n))]) := fun h q => by
    rw [eL, q, if_neg h]
    exact .tup _ _ (.cons _ _ _ _ (.none _) (.cons _ _ _ _ (.refl _) .nil))
  (apply red_sound; focus (repeat' (first | exact Red.skip | exact Red.ret | exact RedO.nil | exact RedD.nil | exact Red.exit _ | exact Red.loop _ | exact Red.stop _ | apply Red.ops | apply Red.draw | apply Red.seq | apply Red.cond | apply Red.block | apply RedO.cons | apply RedD.cons | exact (0 : Nat))))
  ((conv => whnf); repeat (refine And.intro rfl ?_; (conv => whnf)))
  (refine .inl ⟨_, (ref_Steps P hP), ?_⟩; ((conv => whnf); repeat (refine And.intro rfl ?_; (conv => whnf))))
  (refine ifK_split (fun h1 => ?_) (fun h1 => ?_) <;> (rw [h1]; ((conv => whnf); repeat (refine And.intro rfl ?_; (conv => whnf)))))
  · have h1 : P.stepsE ≠ 0 := by ((try simp only [bne_iff_ne, ne_eq, bne_eq_false_iff_eq, beq_iff_eq, beq_eq_false_iff_ne, decide_eq_true_eq, decide_eq_false_iff_not, List.length_map, Bool.not_eq_true, Bool.not_eq_false, Bool.and_eq_true, Bool.or_eq_true, Bool.and_eq_false_iff, Bool.or_eq_false_iff, Bool.not_eq_true', Bool.not_eq_false', Bool.not_true, Bool.not_false, Bool.not_eq_eq_eq_not, not_true_eq_false, not_false_eq_true, reduceCtorEq, Bool.true_or, Bool.false_or, Bool.or_true, Bool.or_false, Bool.true_and, Bool.and_true, Bool.false_and, Bool.and_false, true_and, and_true, or_false, false_or, true_or, or_true, false_and, and_false, Bool.true_eq_false, Bool.false_eq_true] at *) <;> omega)
    exact bad h1 (by rw [eE, if_pos h1])
  have h1 : P.stepsE = 0 := by ((try simp only [bne_iff_ne, ne_eq, bne_eq_false_iff_eq, beq_iff_eq, beq_eq_false_iff_ne, decide_eq_true_eq, decide_eq_false_iff_not, List.length_map, Bool.not_eq_true, Bool.not_eq_false, Bool.and_eq_true, Bool.or_eq_true, Bool.and_eq_false_iff, Bool.or_eq_false_iff, Bool.not_eq_true', Bool.not_eq_false', Bool.not_true, Bool.not_false, Bool.not_eq_eq_eq_not, not_true_eq_false, not_false_eq_true, reduceCtorEq, Bool.true_or, Bool.false_or, Bool.or_true, Bool.or_false, Bool.true_and, Bool.and_true, Bool.false_and, Bool.and_false, true_and, and_true, or_false, false_or, true_or, or_true, false_and, and_false, Bool.true_eq_false, Bool.false_eq_true] at *) <;> omega)
  rw [if_neg (by omega)] at eE
  rw [List.length_map]
  (refine ifK_split (fun h2 => ?_) (fun h2 => ?_) <;> (rw [h2]; ((conv => whnf); repeat (refine And.intro rfl ?_; (conv => whnf)))))
  · exact bad (by decide) (by rw [eE, if_pos (by ((try simp only [bne_iff_ne, ne_eq, bne_eq_false_iff_eq, beq_iff_eq, beq_eq_false_iff_ne, decide_eq_true_eq, decide_eq_false_iff_not, List.length_map, Bool.not_eq_true, Bool.not_eq_false, Bool.and_eq_true, Bool.or_eq_true, Bool.and_eq_false_iff, Bool.or_eq_false_iff, Bool.not_eq_true', Bool.not_eq_false', Bool.not_true, Bool.not_false, Bool.not_eq_eq_eq_not, not_true_eq_false, not_false_eq_true, reduceCtorEq, Bool.true_or, Bool.false_or, Bool.or_true, Bool.or_false, Bool.true_and, Bool.and_true, Bool.false_and, Bool.and_false, true_and, and_true, or_false, false_or, true_or, or_true, false_and, and_false, Bool.true_eq_false, Bool.false_eq_true] at *) <;> omega))])
  rw [if_neg (by ((try simp only [bne_iff_ne, ne_eq, bne_eq_false_iff_eq, beq_iff_eq, beq_eq_false_iff_ne, decide_eq_true_eq, decide_eq_false_iff_not, List.length_map, Bool.not_eq_true, Bool.not_eq_false, Bool.and_eq_true, Bool.or_eq_true, Bool.and_eq_false_iff, Bool.or_eq_false_iff, Bool.not_eq_true', Bool.not_eq_false', Bool.not_true, Bool.not_false, Bool.not_eq_eq_eq_not, not_true_eq_false, not_false_eq_true, reduceCtorEq, Bool.true_or, Bool.false_or, Bool.or_true, Bool.or_false, Bool.true_and, Bool.and_true, Bool.false_and, Bool.and_false, true_and, and_true, or_false, false_or, true_or, or_true, false_and, and_false, Bool.true_eq_false, Bool.false_eq_true] at *) <;> omega))] at eE
  rw [List.length_map]
  by_cases h3 : 60000 < stem.length
  · have hb : decide ((stem.length : Int) > 60000) = true := decide_eq_true (by omega)
    rw [hb]
    ((conv => whnf); repeat (refine And.intro rfl ?_; (conv => whnf)))
    exact bad (by decide) (by rw [eE, if_pos (by omega)])
  have hb : decide ((stem.length : Int) > 60000) = false := decide_eq_false (by omega)
  rw [hb]
  ((conv => whnf); repeat (refine And.intro rfl ?_; (conv => whnf)))
  rw [List.length_map, List.length_map]
  (refine .inl ⟨by (unfold InR; rw [IntKind.wrap_i64]; omega), ?_⟩; ((conv => whnf); repeat (refine And.intro rfl ?_; (conv => whnf))))
  (refine ifK_split (fun h4 => ?_) (fun h4 => ?_) <;> (rw [h4]; ((conv => whnf); repeat (refine And.intro rfl ?_; (conv => whnf)))))
  · exact bad (by decide) (by rw [eE, if_pos (by ((try simp only [bne_iff_ne, ne_eq, bne_eq_false_iff_eq, beq_iff_eq, beq_eq_false_iff_ne, decide_eq_true_eq, decide_eq_false_iff_not, List.length_map, Bool.not_eq_true, Bool.not_eq_false, Bool.and_eq_true, Bool.or_eq_true, Bool.and_eq_false_iff, Bool.or_eq_false_iff, Bool.not_eq_true', Bool.not_eq_false', Bool.not_true, Bool.not_false, Bool.not_eq_eq_eq_not, not_true_eq_false, not_false_eq_true, reduceCtorEq, Bool.true_or, Bool.false_or, Bool.or_true, Bool.or_false, Bool.true_and, Bool.and_true, Bool.false_and, Bool.and_false, true_and, and_true, or_false, false_or, true_or, or_true, false_and, and_false, Bool.true_eq_false, Bool.false_eq_true] at *) <;> omega))])
  rw [if_neg (by ((try simp only [bne_iff_ne, ne_eq, bne_eq_false_iff_eq, beq_iff_eq, beq_eq_false_iff_ne, decide_eq_true_eq, decide_eq_false_iff_not, List.length_map, Bool.not_eq_true, Bool.not_eq_false, Bool.and_eq_true, Bool.or_eq_true, Bool.and_eq_false_iff, Bool.or_eq_false_iff, Bool.not_eq_true', Bool.not_eq_false', Bool.not_true, Bool.not_false, Bool.not_eq_eq_eq_not, not_true_eq_false, not_false_eq_true, reduceCtorEq, Bool.true_or, Bool.false_or, Bool.or_true, Bool.or_false, Bool.true_and, Bool.and_true, Bool.false_and, Bool.and_false, true_and, and_true, or_false, false_or, true_or, or_true, false_and, and_false, Bool.true_eq_false, Bool.false_eq_true] at *) <;> omega))] at eE
  have h4 : stem.length + loop.length ≤ 60000 := by ((try simp only [bne_iff_ne, ne_eq, bne_eq_false_iff_eq, beq_iff_eq, beq_eq_false_iff_ne, decide_eq_true_eq, decide_eq_false_iff_not, List.length_map, Bool.not_eq_true, Bool.not_eq_false, Bool.and_eq_true, Bool.or_eq_true, Bool.and_eq_false_iff, Bool.or_eq_false_iff, Bool.not_eq_true', Bool.not_eq_false', Bool.not_true, Bool.not_false, Bool.not_eq_eq_eq_not, not_true_eq_false, not_false_eq_true, reduceCtorEq, Bool.true_or, Bool.false_or, Bool.or_true, Bool.or_false, Bool.true_and, Bool.and_true, Bool.false_and, Bool.and_false, true_and, and_true, or_false, false_or, true_or, or_true, false_and, and_false, Bool.true_eq_false, Bool.false_eq_true] at *) <;> omega)
  (refine .inl ⟨_, (ref_Begin P hP h1), ?_⟩; ((conv => whnf); repeat (refine And.intro rfl ?_; (conv => whnf))))
  refine ⟨(by unfold sliceAppend; simp only [List.length_map, List.length_cons, List.length_nil, List.length_append, List.length_take, List.length_drop, List.drop_zero, List.take_succ_cons, List.take_zero]; omega), ?_⟩
  ((conv => whnf); repeat (refine And.intro rfl ?_; (conv => whnf)))
  refine ⟨(by unfold sliceAppend; simp only [List.length_map, List.length_cons, List.length_nil, List.length_append, List.length_take, List.length_drop, List.drop_zero, List.take_succ_cons, List.take_zero]; omega), ?_⟩
  ((conv => whnf); repeat (refine And.intro rfl ?_; (conv => whnf)))
  rw [List.length_map, List.length_map, drop_take_all (by simp)]
  have eA : (List.map (fun n => [D.sc (Value.int IntKind.i64 n)]) stem ++ List.map (fun n => [D.sc (Value.int IntKind.i64 n)]) loop) = i64s (stem ++ loop) := by simp [i64s]
  rw [eA]
  have lA : (stem ++ loop).length = stem.length + loop.length := List.length_append
  refine pwp_for [2, 3, 6, 9] (fun i : Nat => [(8, .own 2 i 0 (i + 1)), (10, .sc (.int .i64 i))]) (fun i => [(2, .vec true i 1 (grows (P.rgrid (stem ++ loop) i)))]) (fun i => i ≤ n) (fun i => stem.length + loop.length - i) 0 ?_
  ((conv => whnf); repeat (refine And.intro rfl ?_; (conv => whnf)))
  refine ⟨by omega, by (repeat' (first | exact trivial | refine And.intro rfl ?_)), rfl, ?_⟩
  rintro i hi
  ((conv => whnf); repeat (refine And.intro rfl ?_; (conv => whnf)))
  (apply red_sound; focus (repeat' (first | exact Red.skip | exact Red.ret | exact RedO.nil | exact RedD.nil | exact Red.exit _ | exact Red.loop _ | exact Red.stop _ | apply Red.ops | apply Red.draw | apply Red.seq | apply Red.cond | apply Red.block | apply RedO.cons | apply RedD.cons | exact (0 : Nat))))
  ((conv => whnf); repeat (refine And.intro rfl ?_; (conv => whnf)))
  have hzi : ∀ q, q < i → P.rerr (stem ++ loop) q = 0 := fun q hq => hz q (by omega)
  have lN := ProcD.rnow_len h1 hzi
  have lG := P.rgrid_len (stem ++ loop) i
  (refine ifK_split (fun h5 => ?_) (fun h5 => ?_) <;> (rw [h5]; ((conv => whnf); repeat (refine And.intro rfl ?_; (conv => whnf)))))
  · have hi' : i < stem.length + loop.length := by ((try simp only [bne_iff_ne, ne_eq, bne_eq_false_iff_eq, beq_iff_eq, beq_eq_false_iff_ne, decide_eq_true_eq, decide_eq_false_iff_not, List.length_map, Bool.not_eq_true, Bool.not_eq_false, Bool.and_eq_true, Bool.or_eq_true, Bool.and_eq_false_iff, Bool.or_eq_false_iff, Bool.not_eq_true', Bool.not_eq_false', Bool.not_true, Bool.not_false, Bool.not_eq_eq_eq_not, not_true_eq_false, not_false_eq_true, reduceCtorEq, Bool.true_or, Bool.false_or, Bool.or_true, Bool.or_false, Bool.true_and, Bool.and_true, Bool.false_and, Bool.and_false, true_and, and_true, or_false, false_or, true_or, or_true, false_and, and_false, Bool.true_eq_false, Bool.false_eq_true] at *) <;> omega)
    have hB := ProcD.rnow_ok h1 i hzi
    have hK := ProcD.mark_of hB
    obtain ⟨h0, _, h60⟩ := ProcD.stepsE_zero h1
    have eM : P.markE (P.rnow (stem ++ loop) i) = 0 := by unfold ProcD.markE; rw [if_neg (by omega), if_pos hB]
    have er : P.rerr (stem ++ loop) i = oneE P (P.rnow (stem ++ loop) i) ((stem ++ loop).getD i 0) := rerr_one P _ i
    have eo := rnow_one (P := P) (l := stem ++ loop) (i := i)
    have eg : P.rgrid (stem ++ loop) (i + 1) = P.rgrid (stem ++ loop) i ++ [P.rnow (stem ++ loop) (i + 1)] := rfl
    have stop : P.rerr (stem ++ loop) i ≠ 0 → P.fraE stem loop n = P.rerr (stem ++ loop) i := fun hne => by
      have e : i = n := by
        by_cases q : i = n
        · exact q
        · exact absurd (hz i (by omega)) hne
      rw [eE, if_pos (by omega), e]
    have go : P.rerr (stem ++ loop) i = 0 → i < n := fun h0 => by
      by_cases q : i = n
      · subst q
        rcases hs with hs | hs
        · omega
        · exact absurd h0 hs
      · omega
    (refine .inl ⟨by (unfold InR; rw [IntKind.wrap_i64]; omega), ?_⟩; ((conv => whnf); repeat (refine And.intro rfl ?_; (conv => whnf))))
    (refine ⟨by omega, (by first | omega | (simp; done) | (simp; omega) | (simp only [List.length_map, List.length_append, List.length_cons, List.length_nil, List.length_take, List.length_drop, List.drop_zero, List.take_succ_cons, List.take_zero]; omega)), ?_⟩; ((conv => whnf); repeat (refine And.intro rfl ?_; (conv => whnf))))
    refine ⟨_, grows_at (k := i) (by omega) (by omega), ?_⟩
    ((conv => whnf); repeat (refine And.intro rfl ?_; (conv => whnf)))
    rw [ProcD.rgrid_at P (stem ++ loop) (Nat.le_refl i)]
    (refine ⟨by omega, (by first | omega | (simp; done) | (simp; omega) | (simp only [List.length_map, List.length_append, List.length_cons, List.length_nil, List.length_take, List.length_drop, List.drop_zero, List.take_succ_cons, List.take_zero]; omega)), ?_⟩; ((conv => whnf); repeat (refine And.intro rfl ?_; (conv => whnf))))
    refine ⟨_, i64s_at (l := stem ++ loop) (k := i) (by omega) (by omega), ?_⟩
    ((conv => whnf); repeat (refine And.intro rfl ?_; (conv => whnf)))
    have rd : ∀ {z : Nat}, z = i → (i64s (stem ++ loop))[z]? = some [.sc (.int .i64 ((stem ++ loop).getD i 0))] := fun hz => i64s_at hz (by omega)
    have eF : P.firE (P.rnow (stem ++ loop) i) ((stem ++ loop).getD i 0) = if (stem ++ loop).getD i 0 < 0 ∨ (P.stepsL.length : Int) ≤ (stem ++ loop).getD i 0 then 1
      else if P.mayB (P.rnow (stem ++ loop) i) (P.stepsL.getD ((stem ++ loop).getD i 0).toNat (0, 0, 0)) = true then P.fireE (P.rnow (stem ++ loop) i) (P.stepsL.getD ((stem ++ loop).getD i 0).toNat (0, 0, 0)) else 9 := by
      unfold ProcD.firE
      rw [if_neg (by omega)]
    have eoE : oneE P (P.rnow (stem ++ loop) i) ((stem ++ loop).getD i 0) = if (stem ++ loop).getD i 0 = -1 then (if P.enL (P.rnow (stem ++ loop) i) = [] then 0 else 9) else P.firE (P.rnow (stem ++ loop) i) ((stem ++ loop).getD i 0) := by unfold oneE; rfl
    have eoL : oneL P (P.rnow (stem ++ loop) i) ((stem ++ loop).getD i 0) = if (stem ++ loop).getD i 0 = -1 then (if P.enL (P.rnow (stem ++ loop) i) = [] then P.rnow (stem ++ loop) i else []) else P.firL (P.rnow (stem ++ loop) i) ((stem ++ loop).getD i 0) := by unfold oneL; rfl
    generalize (stem ++ loop).getD i 0 = k at *
    (refine ifK_split (fun h6 => ?_) (fun h6 => ?_) <;> (rw [h6]; ((conv => whnf); repeat (refine And.intro rfl ?_; (conv => whnf)))))
    · have h6 : k = -1 := by ((try simp only [bne_iff_ne, ne_eq, bne_eq_false_iff_eq, beq_iff_eq, beq_eq_false_iff_ne, decide_eq_true_eq, decide_eq_false_iff_not, List.length_map, Bool.not_eq_true, Bool.not_eq_false, Bool.and_eq_true, Bool.or_eq_true, Bool.and_eq_false_iff, Bool.or_eq_false_iff, Bool.not_eq_true', Bool.not_eq_false', Bool.not_true, Bool.not_false, Bool.not_eq_eq_eq_not, not_true_eq_false, not_false_eq_true, reduceCtorEq, Bool.true_or, Bool.false_or, Bool.or_true, Bool.or_false, Bool.true_and, Bool.and_true, Bool.false_and, Bool.and_false, true_and, and_true, or_false, false_or, true_or, or_true, false_and, and_false, Bool.true_eq_false, Bool.false_eq_true] at *) <;> omega)
      rw [if_pos h6] at eoE eoL
      (refine .inl ⟨_, (ref_Enabled P hP (P.rnow (stem ++ loop) i) eM), ?_⟩; ((conv => whnf); repeat (refine And.intro rfl ?_; (conv => whnf))))
      rw [List.length_map]
      (refine ifK_split (fun h7 => ?_) (fun h7 => ?_) <;> (rw [h7]; ((conv => whnf); repeat (refine And.intro rfl ?_; (conv => whnf)))))
      · have hne : P.enL (P.rnow (stem ++ loop) i) ≠ [] := fun e => by rw [e] at h7; simp at h7
        rw [if_neg hne] at eoE
        rw [eoE] at er
        exact bad (by decide) (by rw [stop (by rw [er]; decide), er])
      · have hne : P.enL (P.rnow (stem ++ loop) i) = [] := List.length_eq_zero_iff.1 (by ((try simp only [bne_iff_ne, ne_eq, bne_eq_false_iff_eq, beq_iff_eq, beq_eq_false_iff_ne, decide_eq_true_eq, decide_eq_false_iff_not, List.length_map, Bool.not_eq_true, Bool.not_eq_false, Bool.and_eq_true, Bool.or_eq_true, Bool.and_eq_false_iff, Bool.or_eq_false_iff, Bool.not_eq_true', Bool.not_eq_false', Bool.not_true, Bool.not_false, Bool.not_eq_eq_eq_not, not_true_eq_false, not_false_eq_true, reduceCtorEq, Bool.true_or, Bool.false_or, Bool.or_true, Bool.or_false, Bool.true_and, Bool.and_true, Bool.false_and, Bool.and_false, true_and, and_true, or_false, false_or, true_or, or_true, false_and, and_false, Bool.true_eq_false, Bool.false_eq_true] at *) <;> omega))
        rw [if_pos hne] at eoE eoL
        rw [eoE] at er
        have hg := go er
        have eo := eo er
        rw [eoL] at eo
        refine ⟨(by unfold sliceAppend; simp only [List.length_map, List.length_cons, List.length_nil, List.length_append, List.length_take, List.length_drop, List.drop_zero, List.take_succ_cons, List.take_zero]; omega), ?_⟩
        ((conv => whnf); repeat (refine And.intro rfl ?_; (conv => whnf)))
        refine ⟨(by unfold sliceAppend; simp only [List.length_map, List.length_cons, List.length_nil, List.length_append, List.length_take, List.length_drop, List.drop_zero, List.take_succ_cons, List.take_zero]; omega), ?_⟩
        ((conv => whnf); repeat (refine And.intro rfl ?_; (conv => whnf)))
        (refine .inl ⟨by (unfold InR; rw [IntKind.wrap_i64]; omega), ?_⟩; ((conv => whnf); repeat (refine And.intro rfl ?_; (conv => whnf))))
        refine ⟨i + 1, by omega, by dsimp only; omega, ?_⟩
        have e2 : grows (P.rgrid (stem ++ loop) (i + 1)) = grows (P.rgrid (stem ++ loop) i) ++ [[dints (P.rnow (stem ++ loop) i)]] := by
          rw [eg, eo]
          simp [grows]
        (refine leB_close 4 (by simp) rfl ?_ ?_ <;> (repeat' (first | exact trivial | exact rfl | exact DeepM.refl _ | exact DeepML.refl _ | exact DeepMLL.refl _ | refine And.intro ?_ ?_ | (simp [Under, UnderL, UnderLL, -List.map_take, -List.map_drop]; done))))
        rw [e2]
        refine DeepMLL.append _ _ _ _ (deepMLL_eq (drop_take_all (by rw [grows_len]; omega))) (DeepMLL.cons _ _ _ _ (DeepML.cons _ _ _ _ ?_ (DeepML.refl _)) (DeepMLL.refl _))
        exact DeepM.own _ _ _ _ _ _ _ _ rfl rfl (deepMLL_eq (drop_take_all (Nat.le_refl _)))
    · have h6 : k ≠ -1 := by ((try simp only [bne_iff_ne, ne_eq, bne_eq_false_iff_eq, beq_iff_eq, beq_eq_false_iff_ne, decide_eq_true_eq, decide_eq_false_iff_not, List.length_map, Bool.not_eq_true, Bool.not_eq_false, Bool.and_eq_true, Bool.or_eq_true, Bool.and_eq_false_iff, Bool.or_eq_false_iff, Bool.not_eq_true', Bool.not_eq_false', Bool.not_true, Bool.not_false, Bool.not_eq_eq_eq_not, not_true_eq_false, not_false_eq_true, reduceCtorEq, Bool.true_or, Bool.false_or, Bool.or_true, Bool.or_false, Bool.true_and, Bool.and_true, Bool.false_and, Bool.and_false, true_and, and_true, or_false, false_or, true_or, or_true, false_and, and_false, Bool.true_eq_false, Bool.false_eq_true] at *) <;> omega)
      rw [if_neg h6] at eoE eoL
      rw [eoE] at er
      (refine ⟨by omega, (by first | omega | (simp; done) | (simp; omega) | (simp only [List.length_map, List.length_append, List.length_cons, List.length_nil, List.length_take, List.length_drop, List.drop_zero, List.take_succ_cons, List.take_zero]; omega)), ?_⟩; ((conv => whnf); repeat (refine And.intro rfl ?_; (conv => whnf))))
      refine ⟨_, rd (by omega), ?_⟩
      ((conv => whnf); repeat (refine And.intro rfl ?_; (conv => whnf)))
      cases h8 : decide (k < 0)
      · have h8 : ¬ k < 0 := by ((try simp only [bne_iff_ne, ne_eq, bne_eq_false_iff_eq, beq_iff_eq, beq_eq_false_iff_ne, decide_eq_true_eq, decide_eq_false_iff_not, List.length_map, Bool.not_eq_true, Bool.not_eq_false, Bool.and_eq_true, Bool.or_eq_true, Bool.and_eq_false_iff, Bool.or_eq_false_iff, Bool.not_eq_true', Bool.not_eq_false', Bool.not_true, Bool.not_false, Bool.not_eq_eq_eq_not, not_true_eq_false, not_false_eq_true, reduceCtorEq, Bool.true_or, Bool.false_or, Bool.or_true, Bool.or_false, Bool.true_and, Bool.and_true, Bool.false_and, Bool.and_false, true_and, and_true, or_false, false_or, true_or, or_true, false_and, and_false, Bool.true_eq_false, Bool.false_eq_true] at *) <;> omega)
        ((conv => whnf); repeat (refine And.intro rfl ?_; (conv => whnf)))
        (refine ⟨by omega, (by first | omega | (simp; done) | (simp; omega) | (simp only [List.length_map, List.length_append, List.length_cons, List.length_nil, List.length_take, List.length_drop, List.drop_zero, List.take_succ_cons, List.take_zero]; omega)), ?_⟩; ((conv => whnf); repeat (refine And.intro rfl ?_; (conv => whnf))))
        refine ⟨_, rd (by omega), ?_⟩
        ((conv => whnf); repeat (refine And.intro rfl ?_; (conv => whnf)))
        rw [srows_len]
        (refine ifK_split (fun h9 => ?_) (fun h9 => ?_) <;> (rw [h9]; ((conv => whnf); repeat (refine And.intro rfl ?_; (conv => whnf)))))
        · rw [if_pos (.inr (by ((try simp only [bne_iff_ne, ne_eq, bne_eq_false_iff_eq, beq_iff_eq, beq_eq_false_iff_ne, decide_eq_true_eq, decide_eq_false_iff_not, List.length_map, Bool.not_eq_true, Bool.not_eq_false, Bool.and_eq_true, Bool.or_eq_true, Bool.and_eq_false_iff, Bool.or_eq_false_iff, Bool.not_eq_true', Bool.not_eq_false', Bool.not_true, Bool.not_false, Bool.not_eq_eq_eq_not, not_true_eq_false, not_false_eq_true, reduceCtorEq, Bool.true_or, Bool.false_or, Bool.or_true, Bool.or_false, Bool.true_and, Bool.and_true, Bool.false_and, Bool.and_false, true_and, and_true, or_false, false_or, true_or, or_true, false_and, and_false, Bool.true_eq_false, Bool.false_eq_true] at *) <;> omega)))] at eF
          exact bad (by decide) (by rw [stop (by rw [er, eF]; decide), er, eF])
        · have h9 : ¬ (P.stepsL.length : Int) ≤ k := by ((try simp only [bne_iff_ne, ne_eq, bne_eq_false_iff_eq, beq_iff_eq, beq_eq_false_iff_ne, decide_eq_true_eq, decide_eq_false_iff_not, List.length_map, Bool.not_eq_true, Bool.not_eq_false, Bool.and_eq_true, Bool.or_eq_true, Bool.and_eq_false_iff, Bool.or_eq_false_iff, Bool.not_eq_true', Bool.not_eq_false', Bool.not_true, Bool.not_false, Bool.not_eq_eq_eq_not, not_true_eq_false, not_false_eq_true, reduceCtorEq, Bool.true_or, Bool.false_or, Bool.or_true, Bool.or_false, Bool.true_and, Bool.and_true, Bool.false_and, Bool.and_false, true_and, and_true, or_false, false_or, true_or, or_true, false_and, and_false, Bool.true_eq_false, Bool.false_eq_true] at *) <;> omega)
          rw [if_neg (by omega)] at eF
          have hk' : k.toNat < P.stepsL.length := by omega
          have hsk := ProcD.stepAt_ok h1 hk'
          (refine ⟨by omega, (by first | omega | (simp; done) | (simp; omega) | (simp only [List.length_map, List.length_append, List.length_cons, List.length_nil, List.length_take, List.length_drop, List.drop_zero, List.take_succ_cons, List.take_zero]; omega)), ?_⟩; ((conv => whnf); repeat (refine And.intro rfl ?_; (conv => whnf))))
          refine ⟨_, rd (by omega), ?_⟩
          ((conv => whnf); repeat (refine And.intro rfl ?_; (conv => whnf)))
          refine ⟨by omega, _, step_atD (k := k.toNat) (by omega) hk', ?_⟩
          ((conv => whnf); repeat (refine And.intro rfl ?_; (conv => whnf)))
          have eFL : P.firE (P.rnow (stem ++ loop) i) k = 0 → P.firL (P.rnow (stem ++ loop) i) k = P.fireL (P.rnow (stem ++ loop) i) (P.stepsL.getD k.toNat (0, 0, 0)) := fun h => by unfold ProcD.firL; rw [if_pos h]
          generalize hS : P.stepsL.getD k.toNat (0, 0, 0) = s at hsk eF eFL
          (refine .inl ⟨_, (ref_May P hP h0 (P.rnow (stem ++ loop) i) hK s hsk), ?_⟩; ((conv => whnf); repeat (refine And.intro rfl ?_; (conv => whnf))))
          cases h10 : P.mayB (P.rnow (stem ++ loop) i) s
          · rw [if_neg (by rw [h10]; decide)] at eF
            ((conv => whnf); repeat (refine And.intro rfl ?_; (conv => whnf)))
            exact bad (by decide) (by rw [stop (by rw [er, eF]; decide), er, eF])
          · rw [if_pos h10] at eF
            ((conv => whnf); repeat (refine And.intro rfl ?_; (conv => whnf)))
            (refine ⟨by omega, (by first | omega | (simp; done) | (simp; omega) | (simp only [List.length_map, List.length_append, List.length_cons, List.length_nil, List.length_take, List.length_drop, List.drop_zero, List.take_succ_cons, List.take_zero]; omega)), ?_⟩; ((conv => whnf); repeat (refine And.intro rfl ?_; (conv => whnf))))
            refine ⟨_, rd (by omega), ?_⟩
            ((conv => whnf); repeat (refine And.intro rfl ?_; (conv => whnf)))
            refine ⟨by omega, _, step_atD (k := k.toNat) (by omega) hk', ?_⟩
            ((conv => whnf); repeat (refine And.intro rfl ?_; (conv => whnf)))
            rw [hS]
            (refine .inl ⟨_, (ref_Fire P hP h0 (P.rnow (stem ++ loop) i) hK s hsk), ?_⟩; ((conv => whnf); repeat (refine And.intro rfl ?_; (conv => whnf))))
            (refine ifK_split (fun h11 => ?_) (fun h11 => ?_) <;> (rw [h11]; ((conv => whnf); repeat (refine And.intro rfl ?_; (conv => whnf)))))
            · have h11 : P.fireE (P.rnow (stem ++ loop) i) s ≠ 0 := by ((try simp only [bne_iff_ne, ne_eq, bne_eq_false_iff_eq, beq_iff_eq, beq_eq_false_iff_ne, decide_eq_true_eq, decide_eq_false_iff_not, List.length_map, Bool.not_eq_true, Bool.not_eq_false, Bool.and_eq_true, Bool.or_eq_true, Bool.and_eq_false_iff, Bool.or_eq_false_iff, Bool.not_eq_true', Bool.not_eq_false', Bool.not_true, Bool.not_false, Bool.not_eq_eq_eq_not, not_true_eq_false, not_false_eq_true, reduceCtorEq, Bool.true_or, Bool.false_or, Bool.or_true, Bool.or_false, Bool.true_and, Bool.and_true, Bool.false_and, Bool.and_false, true_and, and_true, or_false, false_or, true_or, or_true, false_and, and_false, Bool.true_eq_false, Bool.false_eq_true] at *) <;> omega)
              exact bad h11 (by rw [stop (by rw [er, eF]; exact h11), er, eF])
            · have h11 : P.fireE (P.rnow (stem ++ loop) i) s = 0 := by ((try simp only [bne_iff_ne, ne_eq, bne_eq_false_iff_eq, beq_iff_eq, beq_eq_false_iff_ne, decide_eq_true_eq, decide_eq_false_iff_not, List.length_map, Bool.not_eq_true, Bool.not_eq_false, Bool.and_eq_true, Bool.or_eq_true, Bool.and_eq_false_iff, Bool.or_eq_false_iff, Bool.not_eq_true', Bool.not_eq_false', Bool.not_true, Bool.not_false, Bool.not_eq_eq_eq_not, not_true_eq_false, not_false_eq_true, reduceCtorEq, Bool.true_or, Bool.false_or, Bool.or_true, Bool.or_false, Bool.true_and, Bool.and_true, Bool.false_and, Bool.and_false, true_and, and_true, or_false, false_or, true_or, or_true, false_and, and_false, Bool.true_eq_false, Bool.false_eq_true] at *) <;> omega)
              have e0 : P.rerr (stem ++ loop) i = 0 := by rw [er, eF, h11]
              have hg := go e0
              have eo := eo e0
              rw [eoL, eFL (by rw [eF, h11])] at eo
              rw [← eo]
              refine ⟨(by unfold sliceAppend; simp only [List.length_map, List.length_cons, List.length_nil, List.length_append, List.length_take, List.length_drop, List.drop_zero, List.take_succ_cons, List.take_zero]; omega), ?_⟩
              ((conv => whnf); repeat (refine And.intro rfl ?_; (conv => whnf)))
              (refine .inl ⟨by (unfold InR; rw [IntKind.wrap_i64]; omega), ?_⟩; ((conv => whnf); repeat (refine And.intro rfl ?_; (conv => whnf))))
              refine ⟨i + 1, by omega, by dsimp only; omega, ?_⟩
              (refine leB_close 4 (by simp) rfl ?_ ?_ <;> (repeat' (first | exact trivial | exact rfl | exact DeepM.refl _ | exact DeepML.refl _ | exact DeepMLL.refl _ | refine And.intro ?_ ?_ | (simp [Under, UnderL, UnderLL, -List.map_take, -List.map_drop]; done))))
              exact deepMLL_eq (by rw [eg]; exact grows_snoc lG.symm)
      · have h8 : k < 0 := by ((try simp only [bne_iff_ne, ne_eq, bne_eq_false_iff_eq, beq_iff_eq, beq_eq_false_iff_ne, decide_eq_true_eq, decide_eq_false_iff_not, List.length_map, Bool.not_eq_true, Bool.not_eq_false, Bool.and_eq_true, Bool.or_eq_true, Bool.and_eq_false_iff, Bool.or_eq_false_iff, Bool.not_eq_true', Bool.not_eq_false', Bool.not_true, Bool.not_false, Bool.not_eq_eq_eq_not, not_true_eq_false, not_false_eq_true, reduceCtorEq, Bool.true_or, Bool.false_or, Bool.or_true, Bool.or_false, Bool.true_and, Bool.and_true, Bool.false_and, Bool.and_false, true_and, and_true, or_false, false_or, true_or, or_true, false_and, and_false, Bool.true_eq_false, Bool.false_eq_true] at *) <;> omega)
        rw [if_pos (.inl h8)] at eF
        ((conv => whnf); repeat (refine And.intro rfl ?_; (conv => whnf)))
        exact bad (by decide) (by rw [stop (by rw [er, eF]; decide), er, eF])
  · have hi' : i = stem.length + loop.length := by have : ¬ i < stem.length + loop.length := by ((try simp only [bne_iff_ne, ne_eq, bne_eq_false_iff_eq, beq_iff_eq, beq_eq_false_iff_ne, decide_eq_true_eq, decide_eq_false_iff_not, List.length_map, Bool.not_eq_true, Bool.not_eq_false, Bool.and_eq_true, Bool.or_eq_true, Bool.and_eq_false_iff, Bool.or_eq_false_iff, Bool.not_eq_true', Bool.not_eq_false', Bool.not_true, Bool.not_false, Bool.not_eq_eq_eq_not, not_true_eq_false, not_false_eq_true, reduceCtorEq, Bool.true_or, Bool.false_or, Bool.or_true, Bool.or_false, Bool.true_and, Bool.and_true, Bool.false_and, Bool.and_false, true_and, and_true, or_false, false_or, true_or, or_true, false_and, and_false, Bool.true_eq_false, Bool.false_eq_true] at *) <;> omega)
                                                   omega
    subst hi'
    have e : n = stem.length + loop.length := by omega
    subst e
    rw [if_neg (by omega)] at eE
    rw [List.length_map]
    have lN' := ProcD.rnow_len (l := stem ++ loop) h1 (i := stem.length) fun q hq => hz q (by omega)
    (refine ⟨by omega, (by first | omega | (simp; done) | (simp; omega) | (simp only [List.length_map, List.length_append, List.length_cons, List.length_nil, List.length_take, List.length_drop, List.drop_zero, List.take_succ_cons, List.take_zero]; omega)), ?_⟩; ((conv => whnf); repeat (refine And.intro rfl ?_; (conv => whnf))))
    refine ⟨_, grows_at (k := stem.length) (by omega) (by omega), ?_⟩
    ((conv => whnf); repeat (refine And.intro rfl ?_; (conv => whnf)))
    rw [ProcD.rgrid_at P (stem ++ loop) (by omega)]
    (refine .inl ⟨by (unfold InR; rw [IntKind.wrap_i64]; omega), ?_⟩; ((conv => whnf); repeat (refine And.intro rfl ?_; (conv => whnf))))
    (refine ⟨by omega, (by first | omega | (simp; done) | (simp; omega) | (simp only [List.length_map, List.length_append, List.length_cons, List.length_nil, List.length_take, List.length_drop, List.drop_zero, List.take_succ_cons, List.take_zero]; omega)), ?_⟩; ((conv => whnf); repeat (refine And.intro rfl ?_; (conv => whnf))))
    refine ⟨_, grows_at (k := stem.length + loop.length) (by omega) (by omega), ?_⟩
    ((conv => whnf); repeat (refine And.intro rfl ?_; (conv => whnf)))
    rw [ProcD.rgrid_at P (stem ++ loop) (Nat.le_refl _)]
    (refine .inl ⟨_, (equal_int (P.rnow (stem ++ loop) stem.length) (P.rnow (stem ++ loop) (stem.length + loop.length)) (by omega)), ?_⟩; ((conv => whnf); repeat (refine And.intro rfl ?_; (conv => whnf))))
    by_cases h8 : P.rnow (stem ++ loop) stem.length = P.rnow (stem ++ loop) (stem.length + loop.length)
    · rw [if_pos h8] at eE
      rw [decide_eq_true h8]
      ((conv => whnf); repeat (refine And.intro rfl ?_; (conv => whnf)))
      rw [eL, eE, if_pos rfl]
      exact .tup _ _ (.cons _ _ _ _ (deep_grows lG.symm rfl) (.cons _ _ _ _ (.refl _) .nil))
    · rw [if_neg h8] at eE
      rw [decide_eq_false h8]
      ((conv => whnf); repeat (refine And.intro rfl ?_; (conv => whnf)))
      exact bad (by decide) eE
end Go.Proofs.Yteckcflliaecpaa
