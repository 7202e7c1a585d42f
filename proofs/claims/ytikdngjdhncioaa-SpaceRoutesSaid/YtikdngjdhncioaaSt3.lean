/-
  The steps of a process: the reference's list. No statement is proved here.
-/
import Derived.Test.YtikdngjdhncioaaSt1
namespace Go.Proofs.Ytikdngjdhncioaa
open Go.RowKit
set_option linter.unusedSimpArgs false
set_option linter.unusedVariables false
def c19_2 : PC := .seq (.seq (.ops [⟨(some 33), .move (.tmp 10), none, 0⟩,
    ⟨(some 34), .move (.tmp 8), none, 0⟩,
    ⟨(some 35), .bin .lss (.tmp 33) (.tmp 34), none, 0⟩] false) (.cond (.tmp 35) (.skip) (.exit 2))) (.seq (.block 3 (.ops [⟨(some 38), .move (.tmp 9), none, 0⟩,
    ⟨(some 39), .bin .mul (.tmp 38) (.const (.int .i64 2)), none, 0⟩,
    ⟨(some 40), .bin .add (.tmp 39) (.const (.int .i64 1)), none, 0⟩,
    ⟨(some 9), .move (.tmp 40), none, 0⟩] false)) (.ops [⟨(some 36), .move (.tmp 10), none, 0⟩,
    ⟨(some 37), .bin .add (.tmp 36) (.const (.int .i64 1)), none, 0⟩,
    ⟨(some 10), .move (.tmp 37), none, 0⟩] false))
def c19_4 : PC := .seq (.seq (.ops [⟨(some 75), .move (.tmp 12), none, 0⟩,
    ⟨(some 76), .move (.tmp 8), none, 0⟩,
    ⟨(some 77), .bin .lss (.tmp 75) (.tmp 76), none, 0⟩,
    ⟨(some 78), .move (.tmp 77), none, 0⟩,
    ⟨(some 79), .faddr 0 (.tmp 1), (some (78, true)), 0⟩,
    ⟨(some 80), .load1 (.tmp 79), (some (78, true)), 0⟩,
    ⟨(some 81), .move (.tmp 6), (some (78, true)), 0⟩,
    ⟨(some 82), .iaddr 2 (.tmp 80) (.tmp 81), (some (78, true)), 0⟩,
    ⟨(some 83), .faddr 1 (.tmp 82), (some (78, true)), 0⟩,
    ⟨(some 84), .load1 (.tmp 83), (some (78, true)), 0⟩,
    ⟨(some 85), .bin .eql (.tmp 84) (.const (.int .i64 5)), (some (78, true)), 0⟩,
    ⟨(some 86), .pick (.tmp 78) (.tmp 85) (.const (.bool false)), none, 0⟩] false) (.cond (.tmp 86) (.skip) (.exit 7))) (.seq (.block 8 (.ops [⟨(some 89), .move (.tmp 5), none, 0⟩,
    ⟨(some 90), .move (.tmp 6), none, 0⟩,
    ⟨(some 91), .move (.tmp 7), none, 0⟩,
    ⟨(some 92), .move (.tmp 11), none, 0⟩,
    ⟨(some 93), .iaddr 1 (.tmp 91) (.tmp 92), none, 12⟩,
    ⟨(some 94), .load1 (.tmp 93), none, 28⟩,
    ⟨(some 95), .move (.tmp 12), none, 0⟩,
    ⟨(some 96), .bin .shl (.const (.int .i64 1)) (.tmp 95), none, 64⟩,
    ⟨(some 97), .build [(.int .i64 0), (.int .i64 0), (.int .i64 0)] [(0, 1, (.tmp 90)), (1, 1, (.tmp 94)), (2, 1, (.tmp 96))], none, 254⟩,
    ⟨(some 98), .bslice 3 1 [(.tmp 97)], none, 510⟩,
    ⟨(some 99), .append 3 24 (.tmp 89) (.tmp 98), none, 1023⟩,
    ⟨(some 5), .move (.tmp 99), none, 2047⟩] true)) (.ops [⟨(some 87), .move (.tmp 12), none, 0⟩,
    ⟨(some 88), .bin .add (.tmp 87) (.const (.int .i64 1)), none, 0⟩,
    ⟨(some 12), .move (.tmp 88), none, 0⟩] false))
def c19_3 : PC := .seq (.seq (.ops [⟨(some 52), .move (.tmp 11), none, 0⟩,
    ⟨(some 53), .move (.tmp 7), none, 0⟩,
    ⟨(some 54), .len (.tmp 53), none, 0⟩,
    ⟨(some 55), .bin .lss (.tmp 52) (.tmp 54), none, 0⟩] false) (.cond (.tmp 55) (.skip) (.exit 5))) (.seq (.block 6 (.seq (.seq (.ops [⟨(some 58), .faddr 0 (.tmp 1), none, 0⟩,
    ⟨(some 59), .load1 (.tmp 58), none, 0⟩,
    ⟨(some 60), .move (.tmp 6), none, 0⟩,
    ⟨(some 61), .iaddr 2 (.tmp 59) (.tmp 60), none, 0⟩,
    ⟨(some 62), .faddr 1 (.tmp 61), none, 0⟩,
    ⟨(some 63), .load1 (.tmp 62), none, 0⟩,
    ⟨(some 64), .bin .neq (.tmp 63) (.const (.int .i64 5)), none, 0⟩] false) (.cond (.tmp 64) (.ops [⟨(some 65), .move (.tmp 5), none, 0⟩,
    ⟨(some 66), .move (.tmp 6), none, 0⟩,
    ⟨(some 67), .move (.tmp 7), none, 0⟩,
    ⟨(some 68), .move (.tmp 11), none, 0⟩,
    ⟨(some 69), .iaddr 1 (.tmp 67) (.tmp 68), none, 0⟩,
    ⟨(some 70), .load1 (.tmp 69), none, 0⟩,
    ⟨(some 71), .move (.tmp 9), none, 0⟩,
    ⟨(some 72), .build [(.int .i64 0), (.int .i64 0), (.int .i64 0)] [(0, 1, (.tmp 66)), (1, 1, (.tmp 70)), (2, 1, (.tmp 71))], none, 0⟩,
    ⟨(some 73), .bslice 3 1 [(.tmp 72)], none, 0⟩,
    ⟨(some 74), .append 3 24 (.tmp 65) (.tmp 73), none, 0⟩,
    ⟨(some 5), .move (.tmp 74), none, 0⟩] false) (.skip))) (.seq (.ops [⟨(some 12), .move (.const (.int .i64 0)), none, 0⟩] false) (.block 7 (.loop c19_4))))) (.ops [⟨(some 56), .move (.tmp 11), none, 0⟩,
    ⟨(some 57), .bin .add (.tmp 56) (.const (.int .i64 1)), none, 0⟩,
    ⟨(some 11), .move (.tmp 57), none, 0⟩] false))
def c19_5 : PC := .seq (.seq (.ops [⟨(some 110), .move (.tmp 13), none, 0⟩,
    ⟨(some 111), .move (.tmp 9), none, 0⟩,
    ⟨(some 112), .bin .leq (.tmp 110) (.tmp 111), none, 0⟩] false) (.cond (.tmp 112) (.skip) (.exit 9))) (.seq (.block 10 (.ops [⟨(some 115), .move (.tmp 5), none, 0⟩,
    ⟨(some 116), .move (.tmp 6), none, 0⟩,
    ⟨(some 117), .move (.tmp 13), none, 0⟩,
    ⟨(some 118), .build [(.int .i64 0), (.int .i64 0), (.int .i64 0)] [(0, 1, (.tmp 116)), (1, 1, (.const (.int .i64 (-1)))), (2, 1, (.tmp 117))], none, 0⟩,
    ⟨(some 119), .bslice 3 1 [(.tmp 118)], none, 0⟩,
    ⟨(some 120), .append 3 24 (.tmp 115) (.tmp 119), none, 0⟩,
    ⟨(some 5), .move (.tmp 120), none, 0⟩] false)) (.ops [⟨(some 113), .move (.tmp 13), none, 0⟩,
    ⟨(some 114), .bin .add (.tmp 113) (.const (.int .i64 1)), none, 0⟩,
    ⟨(some 13), .move (.tmp 114), none, 0⟩] false))
def c19_1 : PC := .seq (.seq (.ops [⟨(some 19), .move (.tmp 6), none, 0⟩,
    ⟨(some 20), .faddr 0 (.tmp 1), none, 0⟩,
    ⟨(some 21), .load1 (.tmp 20), none, 0⟩,
    ⟨(some 22), .len (.tmp 21), none, 0⟩,
    ⟨(some 23), .bin .lss (.tmp 19) (.tmp 22), none, 0⟩] false) (.cond (.tmp 23) (.skip) (.exit 0))) (.seq (.block 1 (.seq (.ops [⟨(some 26), .loadA 2 (.tmp 1), none, 0⟩,
    ⟨(some 27), .move (.tmp 6), none, 0⟩,
    ⟨(some 28), .call 49 [(.tmp 26), (.tmp 27)], none, 3⟩,
    ⟨(some 29), .loadA 2 (.tmp 1), none, 0⟩,
    ⟨(some 30), .move (.tmp 6), none, 0⟩,
    ⟨(some 31), .call 50 [(.tmp 29), (.tmp 30)], none, 31⟩,
    ⟨(some 32), .len (.tmp 31), none, 63⟩,
    ⟨(some 7), .move (.tmp 28), none, 63⟩,
    ⟨(some 8), .move (.tmp 32), none, 255⟩] true) (.seq (.ops [⟨(some 9), .move (.const (.int .i64 0)), none, 0⟩] false) (.seq (.seq (.ops [⟨(some 10), .move (.const (.int .i64 0)), none, 0⟩] false) (.block 2 (.loop c19_2))) (.seq (.ops [⟨(some 41), .faddr 0 (.tmp 1), none, 0⟩,
    ⟨(some 42), .load1 (.tmp 41), none, 0⟩,
    ⟨(some 43), .move (.tmp 6), none, 0⟩,
    ⟨(some 44), .iaddr 2 (.tmp 42) (.tmp 43), none, 0⟩,
    ⟨(some 45), .faddr 1 (.tmp 44), none, 0⟩,
    ⟨(some 46), .load1 (.tmp 45), none, 0⟩] false) (.block 4 (.seq (.seq (.ops [⟨(some 48), .bin .eql (.tmp 46) (.const (.int .i64 4)), none, 0⟩,
    ⟨(some 47), .move (.tmp 48), none, 0⟩] false) (.cond (.tmp 47) (.skip) (.seq (.ops [⟨(some 49), .bin .eql (.tmp 46) (.const (.int .i64 5)), none, 0⟩,
    ⟨(some 47), .move (.tmp 49), none, 0⟩] false) (.cond (.tmp 47) (.skip) (.seq (.ops [⟨(some 50), .bin .eql (.tmp 46) (.const (.int .i64 2)), none, 0⟩,
    ⟨(some 47), .move (.tmp 50), none, 0⟩] false) (.cond (.tmp 47) (.skip) (.ops [⟨(some 51), .bin .eql (.tmp 46) (.const (.int .i64 3)), none, 0⟩,
    ⟨(some 47), .move (.tmp 51), none, 0⟩] false))))))) (.cond (.tmp 47) (.seq (.ops [⟨(some 11), .move (.const (.int .i64 0)), none, 0⟩] false) (.block 5 (.loop c19_3))) (.seq (.ops [⟨(some 101), .bin .eql (.tmp 46) (.const (.int .i64 6)), none, 0⟩,
    ⟨(some 100), .move (.tmp 101), none, 0⟩] false) (.cond (.tmp 100) (.ops [⟨(some 102), .move (.tmp 5), none, 0⟩,
    ⟨(some 103), .move (.tmp 6), none, 0⟩,
    ⟨(some 104), .move (.tmp 9), none, 0⟩,
    ⟨(some 105), .build [(.int .i64 0), (.int .i64 0), (.int .i64 0)] [(0, 1, (.tmp 103)), (1, 1, (.const (.int .i64 (-1)))), (2, 1, (.tmp 104))], none, 0⟩,
    ⟨(some 106), .bslice 3 1 [(.tmp 105)], none, 0⟩,
    ⟨(some 107), .append 3 24 (.tmp 102) (.tmp 106), none, 0⟩,
    ⟨(some 5), .move (.tmp 107), none, 0⟩] false) (.seq (.ops [⟨(some 109), .bin .eql (.tmp 46) (.const (.int .i64 7)), none, 0⟩,
    ⟨(some 108), .move (.tmp 109), none, 0⟩] false) (.cond (.tmp 108) (.seq (.ops [⟨(some 13), .move (.const (.int .i64 1)), none, 0⟩] false) (.block 9 (.loop c19_5))) (.skip))))))))))))) (.ops [⟨(some 24), .move (.tmp 6), none, 0⟩,
    ⟨(some 25), .bin .add (.tmp 24) (.const (.int .i64 1)), none, 0⟩,
    ⟨(some 6), .move (.tmp 25), none, 0⟩] false))
def c19 : PC := .seq (.ops [⟨(some 1), .box (.tmp 0), none, 0⟩,
    ⟨(some 2), .move (.const (.slice none 0 0)), none, 0⟩,
    ⟨(some 3), .move (.const (.int .i64 0)), none, 0⟩] false) (.seq (.seq (.ops [⟨(some 14), .loadA 2 (.tmp 1), none, 0⟩,
    ⟨(some 15), .call 48 [(.tmp 14)], none, 0⟩,
    ⟨(some 4), .move (.tmp 15), none, 0⟩] false) (.seq (.ops [⟨(some 16), .move (.tmp 4), none, 0⟩,
    ⟨(some 17), .bin .neq (.tmp 16) (.const (.int .i64 0)), none, 0⟩] false) (.cond (.tmp 17) (.seq (.ops [⟨(some 18), .move (.tmp 4), none, 0⟩,
    ⟨(some 2), .move (.const (.slice none 0 0)), none, 0⟩,
    ⟨(some 3), .move (.tmp 18), none, 0⟩] false) (.ret)) (.skip)))) (.seq (.ops [⟨(some 5), .move (.const (.slice none 0 0)), none, 0⟩] false) (.seq (.seq (.ops [⟨(some 6), .move (.const (.int .i64 0)), none, 0⟩] false) (.block 0 (.loop c19_1))) (.seq (.seq (.ops [⟨(some 121), .move (.tmp 5), none, 0⟩,
    ⟨(some 122), .len (.tmp 121), none, 0⟩,
    ⟨(some 123), .bin .gtr (.tmp 122) (.const (.int .i64 60)), none, 0⟩] false) (.cond (.tmp 123) (.seq (.ops [⟨(some 2), .move (.const (.slice none 0 0)), none, 0⟩,
    ⟨(some 3), .move (.const (.int .i64 2)), none, 0⟩] false) (.ret)) (.skip))) (.seq (.ops [⟨(some 124), .move (.tmp 5), none, 0⟩,
    ⟨(some 2), .move (.tmp 124), none, 0⟩,
    ⟨(some 3), .move (.const (.int .i64 0)), none, 0⟩] false) (.ret))))))
set_option maxRecDepth 100000 in
theorem c19_ok : FunOK Try.prog 19 125 [.tmp 2, .tmp 3] c19 := ⟨⟨Try.f19, Try.func19, rfl, by kernel_rfl, rfl, by kernel_rfl⟩⟩
set_option maxRecDepth 100000 in
theorem ref_Steps (P : ProcD) (hP : P.Fits) : PCall Try.prog 19 [dproc P] (.tup [dsteps P.stepsL, .sc (.int .i64 P.stepsE)]) := by
  refine pcall_intro c19_ok (by simp) (by simp [PureL, Pure, pure_dproc]) ?_ (by simp [Pure, PureL, pure_dsteps])
  have bad : ∀ {H : List AObj} {e : Int}, e ≠ 0 → P.stepsE = e → Deep H (.tup [.sc (.slice none 0 0), .sc (.int .i64 e)]) (.tup [dsteps P.stepsL, .sc (.int .i64 P.stepsE)]) := fun h k => by
    have : P.stepsL = [] := by unfold ProcD.stepsL; rw [if_neg (by rw [k]; exact h)]
    rw [k, this]
    exact .tup _ _ (.cons _ _ _ _ (.none _) (.cons _ _ _ _ (.refl _) .nil))
  (apply red_sound; focus (repeat' (first | exact Red.skip | exact Red.ret | exact RedO.nil | exact RedD.nil | exact Red.exit _ | exact Red.loop _ | exact Red.stop _ | apply Red.ops | apply Red.draw | apply Red.seq | apply Red.cond | apply Red.block | apply RedO.cons | apply RedD.cons | exact (0 : Nat))))
  ((conv => whnf); repeat (refine And.intro rfl ?_; (conv => whnf)))
  (refine .inl ⟨_, (ref_Process P hP), ?_⟩; ((conv => whnf); repeat (refine And.intro rfl ?_; (conv => whnf))))
  (refine ifK_split (fun h1 => ?_) (fun h1 => ?_) <;> (rw [h1]; ((conv => whnf); repeat (refine And.intro rfl ?_; (conv => whnf)))))
  · have h1 : P.chk ≠ 0 := by ((try simp only [oo, reduceCtorEq] at *) <;> omega)
    exact bad h1 (by unfold ProcD.stepsE; rw [if_pos h1])
  have h0 : P.chk = 0 := by ((try simp only [oo, reduceCtorEq] at *) <;> omega)
  obtain ⟨hs1, hs2⟩ := chk_small h0
  have hall := ProcD.nodeOK_of h0
  have e1 : P.stepsE = if 60 < (P.stepsTo P.nodes.length).length then 2 else 0 := by unfold ProcD.stepsE; rw [if_neg (by omega)]
  refine pwp_ghostB (leB_nil 5 3 (by simp) rfl) ?_
  refine pwp_for [1] (fun ((n, c, l) : Nat × Nat × List StepD) => [(5, .own 1 c 0 c), (6, .sc (.int .i64 n))]) (fun (n, c, l) => [(1, .vec true c 3 (srows l))]) (fun (n, c, l) => n ≤ P.nodes.length ∧ c = l.length ∧ l = P.stepsTo n) (fun (n, c, l) => P.nodes.length - n) (0, 0, []) ?_
  ((conv => whnf); repeat (refine And.intro rfl ?_; (conv => whnf)))
  refine ⟨⟨by omega, rfl, rfl⟩, by (repeat' (first | exact trivial | refine And.intro rfl ?_)), rfl, ?_⟩
  rintro ⟨n, c, l⟩ ⟨hn, hc, hl⟩
  ((conv => whnf); repeat (refine And.intro rfl ?_; (conv => whnf)))
  (apply red_sound; focus (repeat' (first | exact Red.skip | exact Red.ret | exact RedO.nil | exact RedD.nil | exact Red.exit _ | exact Red.loop _ | exact Red.stop _ | apply Red.ops | apply Red.draw | apply Red.seq | apply Red.cond | apply Red.block | apply RedO.cons | apply RedD.cons | exact (0 : Nat))))
  ((conv => whnf); repeat (refine And.intro rfl ?_; (conv => whnf)))
  rw [List.length_map]
  (refine ifK_split (fun h2 => ?_) (fun h2 => ?_) <;> (rw [h2]; ((conv => whnf); repeat (refine And.intro rfl ?_; (conv => whnf)))))
  · have hn' : n < P.nodes.length := by ((try simp only [oo, reduceCtorEq] at *) <;> omega)
    have b1 := ProcD.stepsTo_len hs2 n fun i hi => hall i (by omega)
    have b2 := ProcD.stepsOf_len (hall n hn') hs2
    have b3 : l.length = (P.stepsTo n).length := by rw [hl]
    have l1 := P.inL_len n
    have l2 := P.outL_len n
    have eS : P.stepsOf n = if P.kind n = 4 ∨ P.kind n = 5 ∨ P.kind n = 2 ∨ P.kind n = 3 then P.byIns (P.kind n) n (P.inL n).length
      else if P.kind n = 6 then [((n : Int), -1, P.allO n)] else if P.kind n = 7 then orS n (P.allO n).toNat else [] := rfl
    have eT : P.stepsTo (n + 1) = P.stepsTo n ++ P.stepsOf n := rfl
    have ei : ∀ k, P.byIns (P.kind n) n (k + 1) = P.byIns (P.kind n) n k ++ P.byIn (P.kind n) n ((P.inL n).getD k 0) := fun k => rfl
    have ea : ones (P.outL n).length = P.allO n := rfl
    have e30 : ones 30 = 1073741823 := rfl
    (refine .inl ⟨_, (ref_FlowsIn P hP (by omega) n), ?_⟩; ((conv => whnf); repeat (refine And.intro rfl ?_; (conv => whnf))))
    (refine .inl ⟨_, (ref_FlowsOut P hP (by omega) n), ?_⟩; ((conv => whnf); repeat (refine And.intro rfl ?_; (conv => whnf))))
    rw [List.length_map]
    refine pwp_for [1, 5, 6, 7, 8] (fun k : Nat => [(9, .sc (.int .i64 (ones k))), (10, .sc (.int .i64 k))]) (fun _ => []) (fun k => k ≤ (P.outL n).length) (fun k => (P.outL n).length - k) 0 ?_
    ((conv => whnf); repeat (refine And.intro rfl ?_; (conv => whnf)))
    refine ⟨by omega, by (repeat' (first | exact trivial | refine And.intro rfl ?_)), rfl, ?_⟩
    rintro k hk
    ((conv => whnf); repeat (refine And.intro rfl ?_; (conv => whnf)))
    (apply red_sound; focus (repeat' (first | exact Red.skip | exact Red.ret | exact RedO.nil | exact RedD.nil | exact Red.exit _ | exact Red.loop _ | exact Red.stop _ | apply Red.ops | apply Red.draw | apply Red.seq | apply Red.cond | apply Red.block | apply RedO.cons | apply RedD.cons | exact (0 : Nat))))
    ((conv => whnf); repeat (refine And.intro rfl ?_; (conv => whnf)))
    (refine ifK_split (fun h3 => ?_) (fun h3 => ?_) <;> (rw [h3]; ((conv => whnf); repeat (refine And.intro rfl ?_; (conv => whnf)))))
    · have hk' : k < (P.outL n).length := by ((try simp only [oo, reduceCtorEq] at *) <;> omega)
      have o1 := ones_le (k := k) (n := 30) (by omega)
      have o2 := ones_le (k := k + 1) (n := 30) (by omega)
      have o3 : ones (k + 1) = ones k * 2 + 1 := rfl
      (refine .inl ⟨by (unfold InR; rw [IntKind.wrap_i64]; omega), ?_⟩; ((conv => whnf); repeat (refine And.intro rfl ?_; (conv => whnf))))
      (refine .inl ⟨by (unfold InR; rw [IntKind.wrap_i64]; omega), ?_⟩; ((conv => whnf); repeat (refine And.intro rfl ?_; (conv => whnf))))
      (refine .inl ⟨by (unfold InR; rw [IntKind.wrap_i64]; omega), ?_⟩; ((conv => whnf); repeat (refine And.intro rfl ?_; (conv => whnf))))
      refine ⟨k + 1, by omega, by dsimp only; omega, leB_envH (by (repeat' (first | exact trivial | refine And.intro rfl ?_))) rfl⟩
    have hk' : k = (P.outL n).length := by have : ¬ k < (P.outL n).length := by ((try simp only [oo, reduceCtorEq] at *) <;> omega)
                                           omega
    subst hk'
    rw [ea]
    refine ⟨by omega, _, node_at P (k := n) (by omega) hn', ?_⟩
    ((conv => whnf); repeat (refine And.intro rfl ?_; (conv => whnf)))
    (refine ifK_split (fun h4 => ?_) (fun h4 => ?_) <;> (rw [h4]; ((conv => whnf); repeat (refine And.intro rfl ?_; (conv => whnf)))))
    · have h4 : P.kind n = 4 := by ((try simp only [oo, reduceCtorEq] at *) <;> omega)
      rw [if_pos (by omega)] at eS
      ((conv => whnf); repeat (refine And.intro rfl ?_; (conv => whnf)))
      refine pwp_for [1, 6, 7, 8, 9] (fun ((i, c', m) : Nat × Nat × List StepD) => [(5, .own 1 c' 0 c'), (11, .sc (.int .i64 i))]) (fun (i, c', m) => [(1, .vec true c' 3 (srows m))]) (fun (i, c', m) => i ≤ (P.inL n).length ∧ c' = m.length ∧ m = l ++ P.byIns (P.kind n) n i) (fun (i, c', m) => (P.inL n).length - i) (0, c, l) ?_
      ((conv => whnf); repeat (refine And.intro rfl ?_; (conv => whnf)))
      refine ⟨⟨by omega, hc, (List.append_nil l).symm⟩, by (repeat' (first | exact trivial | refine And.intro rfl ?_)), rfl, ?_⟩
      rintro ⟨i, c', m⟩ ⟨hi, hc', hm⟩
      ((conv => whnf); repeat (refine And.intro rfl ?_; (conv => whnf)))
      (apply red_sound; focus (repeat' (first | exact Red.skip | exact Red.ret | exact RedO.nil | exact RedD.nil | exact Red.exit _ | exact Red.loop _ | exact Red.stop _ | apply Red.ops | apply Red.draw | apply Red.seq | apply Red.cond | apply Red.block | apply RedO.cons | apply RedD.cons | exact (0 : Nat))))
      ((conv => whnf); repeat (refine And.intro rfl ?_; (conv => whnf)))
      rw [List.length_map]
      have b4 := P.byIns_len (P.kind n) n (by omega) i
      have b5 : m.length = l.length + (P.byIns (P.kind n) n i).length := by rw [hm, List.length_append]
      (refine ifK_split (fun hi5 => ?_) (fun hi5 => ?_) <;> (rw [hi5]; ((conv => whnf); repeat (refine And.intro rfl ?_; (conv => whnf)))))
      · have hi' : i < (P.inL n).length := by ((try simp only [oo, reduceCtorEq] at *) <;> omega)
        refine ⟨by omega, _, node_at P (k := n) (by omega) hn', ?_⟩
        ((conv => whnf); repeat (refine And.intro rfl ?_; (conv => whnf)))
        have hne : (P.kind n != 5) = true := by simp; omega
        have heq : (P.kind n == 5) = false := by simp; omega
        rw [hne]
        ((conv => whnf); repeat (refine And.intro rfl ?_; (conv => whnf)))
        refine ⟨by omega, _, intsD_at (k := i) (by omega) hi', ?_⟩
        ((conv => whnf); repeat (refine And.intro rfl ?_; (conv => whnf)))
        refine ⟨(by unfold sliceAppend; simp only [ll]; omega), ?_⟩
        ((conv => whnf); repeat (refine And.intro rfl ?_; (conv => whnf)))
        have e5 : ∀ i : Int, P.byIn (P.kind n) n i = [((n : Int), i, P.allO n)] := fun i => by unfold ProcD.byIn; rw [if_neg (by omega)]
        refine pwp_for [1, 6, 7, 8, 9, 11] (fun _ : Unit => [(5, .own 1 (c' + 1) 0 (c' + 1)), (12, .sc (.int .i64 0))]) (fun _ => [(1, .vec true (c' + 1) 3 (srows (m ++ [((n : Int), (P.inL n).getD i 0, P.allO n)])))]) (fun _ => True) (fun _ => 0) () ?_
        ((conv => whnf); repeat (refine And.intro rfl ?_; (conv => whnf)))
        refine ⟨trivial, by (repeat' (first | exact trivial | refine And.intro rfl ?_)), by rw [← srow_snoc hc']; rfl, ?_⟩
        rintro ⟨⟩ -
        ((conv => whnf); repeat (refine And.intro rfl ?_; (conv => whnf)))
        (apply red_sound; focus (repeat' (first | exact Red.skip | exact Red.ret | exact RedO.nil | exact RedD.nil | exact Red.exit _ | exact Red.loop _ | exact Red.stop _ | apply Red.ops | apply Red.draw | apply Red.seq | apply Red.cond | apply Red.block | apply RedO.cons | apply RedD.cons | exact (0 : Nat))))
        ((conv => whnf); repeat (refine And.intro rfl ?_; (conv => whnf)))
        (refine ifK_split (fun h6 => ?_) (fun h6 => ?_) <;> (rw [h6]; ((conv => whnf); repeat (refine And.intro rfl ?_; (conv => whnf)))))
        · refine ⟨by omega, _, node_at P (k := n) (by omega) hn', ?_⟩
          ((conv => whnf); repeat (refine And.intro rfl ?_; (conv => whnf)))
          rw [heq]
          ((conv => whnf); repeat (refine And.intro rfl ?_; (conv => whnf)))
          (refine .inl ⟨by (unfold InR; rw [IntKind.wrap_i64]; omega), ?_⟩; ((conv => whnf); repeat (refine And.intro rfl ?_; (conv => whnf))))
          refine ⟨(i + 1, c' + 1, m ++ [((n : Int), (P.inL n).getD i 0, P.allO n)]), ⟨by omega, by simp [hc'], by rw [ei, e5, hm, List.append_assoc]⟩, by dsimp only; omega, ?_⟩
          (refine leB_close 2 (by simp) rfl ?_ ?_ <;> (repeat' (first | exact trivial | exact rfl | exact DeepM.refl _ | exact DeepML.refl _ | exact DeepMLL.refl _ | refine And.intro ?_ ?_ | (simp [Under, UnderL, UnderLL, -List.map_take, -List.map_drop]; done))))
        · skip
          (refine .inl ⟨by (unfold InR; rw [IntKind.wrap_i64]; omega), ?_⟩; ((conv => whnf); repeat (refine And.intro rfl ?_; (conv => whnf))))
          refine ⟨(i + 1, c' + 1, m ++ [((n : Int), (P.inL n).getD i 0, P.allO n)]), ⟨by omega, by simp [hc'], by rw [ei, e5, hm, List.append_assoc]⟩, by dsimp only; omega, ?_⟩
          (refine leB_close 2 (by simp) rfl ?_ ?_ <;> (repeat' (first | exact trivial | exact rfl | exact DeepM.refl _ | exact DeepML.refl _ | exact DeepMLL.refl _ | refine And.intro ?_ ?_ | (simp [Under, UnderL, UnderLL, -List.map_take, -List.map_drop]; done))))
      · have hi' : i = (P.inL n).length := by have : ¬ i < (P.inL n).length := by ((try simp only [oo, reduceCtorEq] at *) <;> omega)
                                              omega
        subst hi'
        (refine .inl ⟨by (unfold InR; rw [IntKind.wrap_i64]; omega), ?_⟩; ((conv => whnf); repeat (refine And.intro rfl ?_; (conv => whnf))))
        refine ⟨(n + 1, c', m), ⟨by omega, hc', by rw [eT, eS, ← hl, hm]⟩, by dsimp only; omega, ?_⟩
        (refine leB_close 2 (by simp) rfl ?_ ?_ <;> (repeat' (first | exact trivial | exact rfl | exact DeepM.refl _ | exact DeepML.refl _ | exact DeepMLL.refl _ | refine And.intro ?_ ?_ | (simp [Under, UnderL, UnderLL, -List.map_take, -List.map_drop]; done))))
    have h4 : P.kind n ≠ 4 := by ((try simp only [oo, reduceCtorEq] at *) <;> omega)
    (refine ifK_split (fun h5 => ?_) (fun h5 => ?_) <;> (rw [h5]; ((conv => whnf); repeat (refine And.intro rfl ?_; (conv => whnf)))))
    · have h5 : P.kind n = 5 := by ((try simp only [oo, reduceCtorEq] at *) <;> omega)
      rw [if_pos (by omega)] at eS
      ((conv => whnf); repeat (refine And.intro rfl ?_; (conv => whnf)))
      refine pwp_for [1, 6, 7, 8, 9] (fun ((i, c', m) : Nat × Nat × List StepD) => [(5, .own 1 c' 0 c'), (11, .sc (.int .i64 i))]) (fun (i, c', m) => [(1, .vec true c' 3 (srows m))]) (fun (i, c', m) => i ≤ (P.inL n).length ∧ c' = m.length ∧ m = l ++ P.byIns (P.kind n) n i) (fun (i, c', m) => (P.inL n).length - i) (0, c, l) ?_
      ((conv => whnf); repeat (refine And.intro rfl ?_; (conv => whnf)))
      refine ⟨⟨by omega, hc, (List.append_nil l).symm⟩, by (repeat' (first | exact trivial | refine And.intro rfl ?_)), rfl, ?_⟩
      rintro ⟨i, c', m⟩ ⟨hi, hc', hm⟩
      ((conv => whnf); repeat (refine And.intro rfl ?_; (conv => whnf)))
      (apply red_sound; focus (repeat' (first | exact Red.skip | exact Red.ret | exact RedO.nil | exact RedD.nil | exact Red.exit _ | exact Red.loop _ | exact Red.stop _ | apply Red.ops | apply Red.draw | apply Red.seq | apply Red.cond | apply Red.block | apply RedO.cons | apply RedD.cons | exact (0 : Nat))))
      ((conv => whnf); repeat (refine And.intro rfl ?_; (conv => whnf)))
      rw [List.length_map]
      have b4 := P.byIns_len (P.kind n) n (by omega) i
      have b5 : m.length = l.length + (P.byIns (P.kind n) n i).length := by rw [hm, List.length_append]
      (refine ifK_split (fun hi5 => ?_) (fun hi5 => ?_) <;> (rw [hi5]; ((conv => whnf); repeat (refine And.intro rfl ?_; (conv => whnf)))))
      · have hi' : i < (P.inL n).length := by ((try simp only [oo, reduceCtorEq] at *) <;> omega)
        refine ⟨by omega, _, node_at P (k := n) (by omega) hn', ?_⟩
        ((conv => whnf); repeat (refine And.intro rfl ?_; (conv => whnf)))
        have hne : (P.kind n != 5) = false := by simp; omega
        have heq : (P.kind n == 5) = true := by simp; omega
        rw [hne]
        ((conv => whnf); repeat (refine And.intro rfl ?_; (conv => whnf)))
        have e5 : ∀ i : Int, P.byIn (P.kind n) n i = xorS n i (P.outL n).length := fun i => by unfold ProcD.byIn; rw [if_pos h5]
        refine pwp_for [1, 6, 7, 8, 9, 11] (fun ((j, d, q) : Nat × Nat × List StepD) => [(5, .own 1 d 0 d), (12, .sc (.int .i64 j))]) (fun (j, d, q) => [(1, .vec true d 3 (srows q))]) (fun (j, d, q) => j ≤ (P.outL n).length ∧ d = q.length ∧ d = m.length + j ∧ q = m ++ xorS n ((P.inL n).getD i 0) j) (fun (j, d, q) => (P.outL n).length - j) (0, c', m) ?_
        ((conv => whnf); repeat (refine And.intro rfl ?_; (conv => whnf)))
        refine ⟨⟨by omega, hc', hc', (List.append_nil m).symm⟩, by (repeat' (first | exact trivial | refine And.intro rfl ?_)), rfl, ?_⟩
        rintro ⟨j, d, q⟩ ⟨hj, hd, hdj, hq⟩
        ((conv => whnf); repeat (refine And.intro rfl ?_; (conv => whnf)))
        (apply red_sound; focus (repeat' (first | exact Red.skip | exact Red.ret | exact RedO.nil | exact RedD.nil | exact Red.exit _ | exact Red.loop _ | exact Red.stop _ | apply Red.ops | apply Red.draw | apply Red.seq | apply Red.cond | apply Red.block | apply RedO.cons | apply RedD.cons | exact (0 : Nat))))
        ((conv => whnf); repeat (refine And.intro rfl ?_; (conv => whnf)))
        (refine ifK_split (fun h6 => ?_) (fun h6 => ?_) <;> (rw [h6]; ((conv => whnf); repeat (refine And.intro rfl ?_; (conv => whnf)))))
        · have hj' : j < (P.outL n).length := by ((try simp only [oo, reduceCtorEq] at *) <;> omega)
          refine ⟨by omega, _, node_at P (k := n) (by omega) hn', ?_⟩
          ((conv => whnf); repeat (refine And.intro rfl ?_; (conv => whnf)))
          rw [heq]
          ((conv => whnf); repeat (refine And.intro rfl ?_; (conv => whnf)))
          refine ⟨by omega, _, intsD_at (k := i) (by omega) hi', ?_⟩
          ((conv => whnf); repeat (refine And.intro rfl ?_; (conv => whnf)))
          refine ⟨by omega, ?_⟩
          rw [shl_fit (k := j) rfl (by omega)]
          have e4 := pow30 (k := j) (by omega)
          (refine .inl ⟨by (unfold InR; rw [IntKind.wrap_i64]; omega), ?_⟩; ((conv => whnf); repeat (refine And.intro rfl ?_; (conv => whnf))))
          refine ⟨(by unfold sliceAppend; simp only [ll]; omega), ?_⟩
          ((conv => whnf); repeat (refine And.intro rfl ?_; (conv => whnf)))
          (refine .inl ⟨by (unfold InR; rw [IntKind.wrap_i64]; omega), ?_⟩; ((conv => whnf); repeat (refine And.intro rfl ?_; (conv => whnf))))
          refine ⟨(j + 1, d + 1, q ++ [((n : Int), (P.inL n).getD i 0, 2 ^ j)]), ⟨by omega, by simp [hd], by omega, by rw [hq, List.append_assoc]; rfl⟩, by dsimp only; omega, ?_⟩
          (refine leB_close 2 (by simp) rfl ?_ ?_ <;> (repeat' (first | exact trivial | exact rfl | exact DeepM.refl _ | exact DeepML.refl _ | exact DeepMLL.refl _ | refine And.intro ?_ ?_ | (simp [Under, UnderL, UnderLL, -List.map_take, -List.map_drop]; done))))
          exact deepMLL_eq (srow_snoc hd)
        · have hj' : j = (P.outL n).length := by have : ¬ j < (P.outL n).length := by ((try simp only [oo, reduceCtorEq] at *) <;> omega)
                                                 omega
          subst hj'
          (refine .inl ⟨by (unfold InR; rw [IntKind.wrap_i64]; omega), ?_⟩; ((conv => whnf); repeat (refine And.intro rfl ?_; (conv => whnf))))
          refine ⟨(i + 1, d, q), ⟨by omega, hd, by rw [ei, e5, hq, hm, List.append_assoc]⟩, by dsimp only; omega, ?_⟩
          (refine leB_close 2 (by simp) rfl ?_ ?_ <;> (repeat' (first | exact trivial | exact rfl | exact DeepM.refl _ | exact DeepML.refl _ | exact DeepMLL.refl _ | refine And.intro ?_ ?_ | (simp [Under, UnderL, UnderLL, -List.map_take, -List.map_drop]; done))))
      · have hi' : i = (P.inL n).length := by have : ¬ i < (P.inL n).length := by ((try simp only [oo, reduceCtorEq] at *) <;> omega)
                                              omega
        subst hi'
        (refine .inl ⟨by (unfold InR; rw [IntKind.wrap_i64]; omega), ?_⟩; ((conv => whnf); repeat (refine And.intro rfl ?_; (conv => whnf))))
        refine ⟨(n + 1, c', m), ⟨by omega, hc', by rw [eT, eS, ← hl, hm]⟩, by dsimp only; omega, ?_⟩
        (refine leB_close 2 (by simp) rfl ?_ ?_ <;> (repeat' (first | exact trivial | exact rfl | exact DeepM.refl _ | exact DeepML.refl _ | exact DeepMLL.refl _ | refine And.intro ?_ ?_ | (simp [Under, UnderL, UnderLL, -List.map_take, -List.map_drop]; done))))
    have h5 : P.kind n ≠ 5 := by ((try simp only [oo, reduceCtorEq] at *) <;> omega)
    (refine ifK_split (fun h6 => ?_) (fun h6 => ?_) <;> (rw [h6]; ((conv => whnf); repeat (refine And.intro rfl ?_; (conv => whnf)))))
    · have h6 : P.kind n = 2 := by ((try simp only [oo, reduceCtorEq] at *) <;> omega)
      rw [if_pos (by omega)] at eS
      ((conv => whnf); repeat (refine And.intro rfl ?_; (conv => whnf)))
      refine pwp_for [1, 6, 7, 8, 9] (fun ((i, c', m) : Nat × Nat × List StepD) => [(5, .own 1 c' 0 c'), (11, .sc (.int .i64 i))]) (fun (i, c', m) => [(1, .vec true c' 3 (srows m))]) (fun (i, c', m) => i ≤ (P.inL n).length ∧ c' = m.length ∧ m = l ++ P.byIns (P.kind n) n i) (fun (i, c', m) => (P.inL n).length - i) (0, c, l) ?_
      ((conv => whnf); repeat (refine And.intro rfl ?_; (conv => whnf)))
      refine ⟨⟨by omega, hc, (List.append_nil l).symm⟩, by (repeat' (first | exact trivial | refine And.intro rfl ?_)), rfl, ?_⟩
      rintro ⟨i, c', m⟩ ⟨hi, hc', hm⟩
      ((conv => whnf); repeat (refine And.intro rfl ?_; (conv => whnf)))
      (apply red_sound; focus (repeat' (first | exact Red.skip | exact Red.ret | exact RedO.nil | exact RedD.nil | exact Red.exit _ | exact Red.loop _ | exact Red.stop _ | apply Red.ops | apply Red.draw | apply Red.seq | apply Red.cond | apply Red.block | apply RedO.cons | apply RedD.cons | exact (0 : Nat))))
      ((conv => whnf); repeat (refine And.intro rfl ?_; (conv => whnf)))
      rw [List.length_map]
      have b4 := P.byIns_len (P.kind n) n (by omega) i
      have b5 : m.length = l.length + (P.byIns (P.kind n) n i).length := by rw [hm, List.length_append]
      (refine ifK_split (fun hi5 => ?_) (fun hi5 => ?_) <;> (rw [hi5]; ((conv => whnf); repeat (refine And.intro rfl ?_; (conv => whnf)))))
      · have hi' : i < (P.inL n).length := by ((try simp only [oo, reduceCtorEq] at *) <;> omega)
        refine ⟨by omega, _, node_at P (k := n) (by omega) hn', ?_⟩
        ((conv => whnf); repeat (refine And.intro rfl ?_; (conv => whnf)))
        have hne : (P.kind n != 5) = true := by simp; omega
        have heq : (P.kind n == 5) = false := by simp; omega
        rw [hne]
        ((conv => whnf); repeat (refine And.intro rfl ?_; (conv => whnf)))
        refine ⟨by omega, _, intsD_at (k := i) (by omega) hi', ?_⟩
        ((conv => whnf); repeat (refine And.intro rfl ?_; (conv => whnf)))
        refine ⟨(by unfold sliceAppend; simp only [ll]; omega), ?_⟩
        ((conv => whnf); repeat (refine And.intro rfl ?_; (conv => whnf)))
        have e5 : ∀ i : Int, P.byIn (P.kind n) n i = [((n : Int), i, P.allO n)] := fun i => by unfold ProcD.byIn; rw [if_neg (by omega)]
        refine pwp_for [1, 6, 7, 8, 9, 11] (fun _ : Unit => [(5, .own 1 (c' + 1) 0 (c' + 1)), (12, .sc (.int .i64 0))]) (fun _ => [(1, .vec true (c' + 1) 3 (srows (m ++ [((n : Int), (P.inL n).getD i 0, P.allO n)])))]) (fun _ => True) (fun _ => 0) () ?_
        ((conv => whnf); repeat (refine And.intro rfl ?_; (conv => whnf)))
        refine ⟨trivial, by (repeat' (first | exact trivial | refine And.intro rfl ?_)), by rw [← srow_snoc hc']; rfl, ?_⟩
        rintro ⟨⟩ -
        ((conv => whnf); repeat (refine And.intro rfl ?_; (conv => whnf)))
        (apply red_sound; focus (repeat' (first | exact Red.skip | exact Red.ret | exact RedO.nil | exact RedD.nil | exact Red.exit _ | exact Red.loop _ | exact Red.stop _ | apply Red.ops | apply Red.draw | apply Red.seq | apply Red.cond | apply Red.block | apply RedO.cons | apply RedD.cons | exact (0 : Nat))))
        ((conv => whnf); repeat (refine And.intro rfl ?_; (conv => whnf)))
        (refine ifK_split (fun h6 => ?_) (fun h6 => ?_) <;> (rw [h6]; ((conv => whnf); repeat (refine And.intro rfl ?_; (conv => whnf)))))
        · refine ⟨by omega, _, node_at P (k := n) (by omega) hn', ?_⟩
          ((conv => whnf); repeat (refine And.intro rfl ?_; (conv => whnf)))
          rw [heq]
          ((conv => whnf); repeat (refine And.intro rfl ?_; (conv => whnf)))
          (refine .inl ⟨by (unfold InR; rw [IntKind.wrap_i64]; omega), ?_⟩; ((conv => whnf); repeat (refine And.intro rfl ?_; (conv => whnf))))
          refine ⟨(i + 1, c' + 1, m ++ [((n : Int), (P.inL n).getD i 0, P.allO n)]), ⟨by omega, by simp [hc'], by rw [ei, e5, hm, List.append_assoc]⟩, by dsimp only; omega, ?_⟩
          (refine leB_close 2 (by simp) rfl ?_ ?_ <;> (repeat' (first | exact trivial | exact rfl | exact DeepM.refl _ | exact DeepML.refl _ | exact DeepMLL.refl _ | refine And.intro ?_ ?_ | (simp [Under, UnderL, UnderLL, -List.map_take, -List.map_drop]; done))))
        · skip
          (refine .inl ⟨by (unfold InR; rw [IntKind.wrap_i64]; omega), ?_⟩; ((conv => whnf); repeat (refine And.intro rfl ?_; (conv => whnf))))
          refine ⟨(i + 1, c' + 1, m ++ [((n : Int), (P.inL n).getD i 0, P.allO n)]), ⟨by omega, by simp [hc'], by rw [ei, e5, hm, List.append_assoc]⟩, by dsimp only; omega, ?_⟩
          (refine leB_close 2 (by simp) rfl ?_ ?_ <;> (repeat' (first | exact trivial | exact rfl | exact DeepM.refl _ | exact DeepML.refl _ | exact DeepMLL.refl _ | refine And.intro ?_ ?_ | (simp [Under, UnderL, UnderLL, -List.map_take, -List.map_drop]; done))))
      · have hi' : i = (P.inL n).length := by have : ¬ i < (P.inL n).length := by ((try simp only [oo, reduceCtorEq] at *) <;> omega)
                                              omega
        subst hi'
        (refine .inl ⟨by (unfold InR; rw [IntKind.wrap_i64]; omega), ?_⟩; ((conv => whnf); repeat (refine And.intro rfl ?_; (conv => whnf))))
        refine ⟨(n + 1, c', m), ⟨by omega, hc', by rw [eT, eS, ← hl, hm]⟩, by dsimp only; omega, ?_⟩
        (refine leB_close 2 (by simp) rfl ?_ ?_ <;> (repeat' (first | exact trivial | exact rfl | exact DeepM.refl _ | exact DeepML.refl _ | exact DeepMLL.refl _ | refine And.intro ?_ ?_ | (simp [Under, UnderL, UnderLL, -List.map_take, -List.map_drop]; done))))
    have h6 : P.kind n ≠ 2 := by ((try simp only [oo, reduceCtorEq] at *) <;> omega)
    (refine ifK_split (fun h7 => ?_) (fun h7 => ?_) <;> (rw [h7]; ((conv => whnf); repeat (refine And.intro rfl ?_; (conv => whnf)))))
    · have h7 : P.kind n = 3 := by ((try simp only [oo, reduceCtorEq] at *) <;> omega)
      rw [if_pos (by omega)] at eS
      ((conv => whnf); repeat (refine And.intro rfl ?_; (conv => whnf)))
      refine pwp_for [1, 6, 7, 8, 9] (fun ((i, c', m) : Nat × Nat × List StepD) => [(5, .own 1 c' 0 c'), (11, .sc (.int .i64 i))]) (fun (i, c', m) => [(1, .vec true c' 3 (srows m))]) (fun (i, c', m) => i ≤ (P.inL n).length ∧ c' = m.length ∧ m = l ++ P.byIns (P.kind n) n i) (fun (i, c', m) => (P.inL n).length - i) (0, c, l) ?_
      ((conv => whnf); repeat (refine And.intro rfl ?_; (conv => whnf)))
      refine ⟨⟨by omega, hc, (List.append_nil l).symm⟩, by (repeat' (first | exact trivial | refine And.intro rfl ?_)), rfl, ?_⟩
      rintro ⟨i, c', m⟩ ⟨hi, hc', hm⟩
      ((conv => whnf); repeat (refine And.intro rfl ?_; (conv => whnf)))
      (apply red_sound; focus (repeat' (first | exact Red.skip | exact Red.ret | exact RedO.nil | exact RedD.nil | exact Red.exit _ | exact Red.loop _ | exact Red.stop _ | apply Red.ops | apply Red.draw | apply Red.seq | apply Red.cond | apply Red.block | apply RedO.cons | apply RedD.cons | exact (0 : Nat))))
      ((conv => whnf); repeat (refine And.intro rfl ?_; (conv => whnf)))
      rw [List.length_map]
      have b4 := P.byIns_len (P.kind n) n (by omega) i
      have b5 : m.length = l.length + (P.byIns (P.kind n) n i).length := by rw [hm, List.length_append]
      (refine ifK_split (fun hi5 => ?_) (fun hi5 => ?_) <;> (rw [hi5]; ((conv => whnf); repeat (refine And.intro rfl ?_; (conv => whnf)))))
      · have hi' : i < (P.inL n).length := by ((try simp only [oo, reduceCtorEq] at *) <;> omega)
        refine ⟨by omega, _, node_at P (k := n) (by omega) hn', ?_⟩
        ((conv => whnf); repeat (refine And.intro rfl ?_; (conv => whnf)))
        have hne : (P.kind n != 5) = true := by simp; omega
        have heq : (P.kind n == 5) = false := by simp; omega
        rw [hne]
        ((conv => whnf); repeat (refine And.intro rfl ?_; (conv => whnf)))
        refine ⟨by omega, _, intsD_at (k := i) (by omega) hi', ?_⟩
        ((conv => whnf); repeat (refine And.intro rfl ?_; (conv => whnf)))
        refine ⟨(by unfold sliceAppend; simp only [ll]; omega), ?_⟩
        ((conv => whnf); repeat (refine And.intro rfl ?_; (conv => whnf)))
        have e5 : ∀ i : Int, P.byIn (P.kind n) n i = [((n : Int), i, P.allO n)] := fun i => by unfold ProcD.byIn; rw [if_neg (by omega)]
        refine pwp_for [1, 6, 7, 8, 9, 11] (fun _ : Unit => [(5, .own 1 (c' + 1) 0 (c' + 1)), (12, .sc (.int .i64 0))]) (fun _ => [(1, .vec true (c' + 1) 3 (srows (m ++ [((n : Int), (P.inL n).getD i 0, P.allO n)])))]) (fun _ => True) (fun _ => 0) () ?_
        ((conv => whnf); repeat (refine And.intro rfl ?_; (conv => whnf)))
        refine ⟨trivial, by (repeat' (first | exact trivial | refine And.intro rfl ?_)), by rw [← srow_snoc hc']; rfl, ?_⟩
        rintro ⟨⟩ -
        ((conv => whnf); repeat (refine And.intro rfl ?_; (conv => whnf)))
        (apply red_sound; focus (repeat' (first | exact Red.skip | exact Red.ret | exact RedO.nil | exact RedD.nil | exact Red.exit _ | exact Red.loop _ | exact Red.stop _ | apply Red.ops | apply Red.draw | apply Red.seq | apply Red.cond | apply Red.block | apply RedO.cons | apply RedD.cons | exact (0 : Nat))))
        ((conv => whnf); repeat (refine And.intro rfl ?_; (conv => whnf)))
        (refine ifK_split (fun h6 => ?_) (fun h6 => ?_) <;> (rw [h6]; ((conv => whnf); repeat (refine And.intro rfl ?_; (conv => whnf)))))
        · refine ⟨by omega, _, node_at P (k := n) (by omega) hn', ?_⟩
          ((conv => whnf); repeat (refine And.intro rfl ?_; (conv => whnf)))
          rw [heq]
          ((conv => whnf); repeat (refine And.intro rfl ?_; (conv => whnf)))
          (refine .inl ⟨by (unfold InR; rw [IntKind.wrap_i64]; omega), ?_⟩; ((conv => whnf); repeat (refine And.intro rfl ?_; (conv => whnf))))
          refine ⟨(i + 1, c' + 1, m ++ [((n : Int), (P.inL n).getD i 0, P.allO n)]), ⟨by omega, by simp [hc'], by rw [ei, e5, hm, List.append_assoc]⟩, by dsimp only; omega, ?_⟩
          (refine leB_close 2 (by simp) rfl ?_ ?_ <;> (repeat' (first | exact trivial | exact rfl | exact DeepM.refl _ | exact DeepML.refl _ | exact DeepMLL.refl _ | refine And.intro ?_ ?_ | (simp [Under, UnderL, UnderLL, -List.map_take, -List.map_drop]; done))))
        · skip
          (refine .inl ⟨by (unfold InR; rw [IntKind.wrap_i64]; omega), ?_⟩; ((conv => whnf); repeat (refine And.intro rfl ?_; (conv => whnf))))
          refine ⟨(i + 1, c' + 1, m ++ [((n : Int), (P.inL n).getD i 0, P.allO n)]), ⟨by omega, by simp [hc'], by rw [ei, e5, hm, List.append_assoc]⟩, by dsimp only; omega, ?_⟩
          (refine leB_close 2 (by simp) rfl ?_ ?_ <;> (repeat' (first | exact trivial | exact rfl | exact DeepM.refl _ | exact DeepML.refl _ | exact DeepMLL.refl _ | refine And.intro ?_ ?_ | (simp [Under, UnderL, UnderLL, -List.map_take, -List.map_drop]; done))))
      · have hi' : i = (P.inL n).length := by have : ¬ i < (P.inL n).length := by ((try simp only [oo, reduceCtorEq] at *) <;> omega)
                                              omega
        subst hi'
        (refine .inl ⟨by (unfold InR; rw [IntKind.wrap_i64]; omega), ?_⟩; ((conv => whnf); repeat (refine And.intro rfl ?_; (conv => whnf))))
        refine ⟨(n + 1, c', m), ⟨by omega, hc', by rw [eT, eS, ← hl, hm]⟩, by dsimp only; omega, ?_⟩
        (refine leB_close 2 (by simp) rfl ?_ ?_ <;> (repeat' (first | exact trivial | exact rfl | exact DeepM.refl _ | exact DeepML.refl _ | exact DeepMLL.refl _ | refine And.intro ?_ ?_ | (simp [Under, UnderL, UnderLL, -List.map_take, -List.map_drop]; done))))
    have h7 : P.kind n ≠ 3 := by ((try simp only [oo, reduceCtorEq] at *) <;> omega)
    rw [if_neg (by omega)] at eS
    (refine ifK_split (fun h8 => ?_) (fun h8 => ?_) <;> (rw [h8]; ((conv => whnf); repeat (refine And.intro rfl ?_; (conv => whnf)))))
    · have h8 : P.kind n = 6 := by ((try simp only [oo, reduceCtorEq] at *) <;> omega)
      rw [if_pos h8] at eS
      refine ⟨(by unfold sliceAppend; simp only [ll]; omega), ?_⟩
      ((conv => whnf); repeat (refine And.intro rfl ?_; (conv => whnf)))
      (refine .inl ⟨by (unfold InR; rw [IntKind.wrap_i64]; omega), ?_⟩; ((conv => whnf); repeat (refine And.intro rfl ?_; (conv => whnf))))
      refine ⟨(n + 1, c + 1, l ++ [((n : Int), -1, P.allO n)]), ⟨by omega, by simp [hc], by rw [eT, eS, hl]⟩, by dsimp only; omega, ?_⟩
      (refine leB_close 2 (by simp) rfl ?_ ?_ <;> (repeat' (first | exact trivial | exact rfl | exact DeepM.refl _ | exact DeepML.refl _ | exact DeepMLL.refl _ | refine And.intro ?_ ?_ | (simp [Under, UnderL, UnderLL, -List.map_take, -List.map_drop]; done))))
      exact deepMLL_eq (srow_snoc hc)
    rw [if_neg (by ((try simp only [oo, reduceCtorEq] at *) <;> omega))] at eS
    (refine ifK_split (fun h9 => ?_) (fun h9 => ?_) <;> (rw [h9]; ((conv => whnf); repeat (refine And.intro rfl ?_; (conv => whnf)))))
    · have h9 : P.kind n = 7 := by ((try simp only [oo, reduceCtorEq] at *) <;> omega)
      rw [if_pos h9] at eS
      have b3 := ProcD.orO_le (hall n hn') h9
      have b4 := (ones_le (Nat.le_refl (P.outL n).length)).1
      rw [ea] at b4
      refine pwp_for [1, 6, 9] (fun ((k, d, q) : Nat × Nat × List StepD) => [(5, .own 1 d 0 d), (13, .sc (.int .i64 ((k : Int) + 1)))]) (fun (k, d, q) => [(1, .vec true d 3 (srows q))]) (fun (k, d, q) => k ≤ (P.allO n).toNat ∧ d = q.length ∧ d = l.length + k ∧ q = l ++ orS n k) (fun (k, d, q) => (P.allO n).toNat - k) (0, c, l) ?_
      ((conv => whnf); repeat (refine And.intro rfl ?_; (conv => whnf)))
      refine ⟨⟨by omega, hc, hc, (List.append_nil l).symm⟩, by (repeat' (first | exact trivial | refine And.intro rfl ?_)), rfl, ?_⟩
      rintro ⟨k, d, q⟩ ⟨hk, hd, hdk, hq⟩
      ((conv => whnf); repeat (refine And.intro rfl ?_; (conv => whnf)))
      (apply red_sound; focus (repeat' (first | exact Red.skip | exact Red.ret | exact RedO.nil | exact RedD.nil | exact Red.exit _ | exact Red.loop _ | exact Red.stop _ | apply Red.ops | apply Red.draw | apply Red.seq | apply Red.cond | apply Red.block | apply RedO.cons | apply RedD.cons | exact (0 : Nat))))
      ((conv => whnf); repeat (refine And.intro rfl ?_; (conv => whnf)))
      (refine ifK_split (fun h1 => ?_) (fun h1 => ?_) <;> (rw [h1]; ((conv => whnf); repeat (refine And.intro rfl ?_; (conv => whnf)))))
      · have hk' : k < (P.allO n).toNat := by ((try simp only [oo, reduceCtorEq] at *) <;> omega)
        refine ⟨(by unfold sliceAppend; simp only [ll]; omega), ?_⟩
        ((conv => whnf); repeat (refine And.intro rfl ?_; (conv => whnf)))
        (refine .inl ⟨by (unfold InR; rw [IntKind.wrap_i64]; omega), ?_⟩; ((conv => whnf); repeat (refine And.intro rfl ?_; (conv => whnf))))
        refine ⟨(k + 1, d + 1, q ++ [((n : Int), -1, (k : Int) + 1)]), ⟨by omega, by simp [hd], by omega, by rw [hq, List.append_assoc]; rfl⟩, by dsimp only; omega, ?_⟩
        (refine leB_close 2 (by simp) rfl ?_ ?_ <;> (repeat' (first | exact trivial | exact rfl | exact DeepM.refl _ | exact DeepML.refl _ | exact DeepMLL.refl _ | refine And.intro ?_ ?_ | (simp [Under, UnderL, UnderLL, -List.map_take, -List.map_drop]; done))))
        exact deepMLL_eq (srow_snoc hd)
      · have hk' : k = (P.allO n).toNat := by have : ¬ k < (P.allO n).toNat := by ((try simp only [oo, reduceCtorEq] at *) <;> omega)
                                              omega
        subst hk'
        (refine .inl ⟨by (unfold InR; rw [IntKind.wrap_i64]; omega), ?_⟩; ((conv => whnf); repeat (refine And.intro rfl ?_; (conv => whnf))))
        refine ⟨(n + 1, d, q), ⟨by omega, hd, by rw [eT, eS, hq, hl]⟩, by dsimp only; omega, ?_⟩
        (refine leB_close 2 (by simp) rfl ?_ ?_ <;> (repeat' (first | exact trivial | exact rfl | exact DeepM.refl _ | exact DeepML.refl _ | exact DeepMLL.refl _ | refine And.intro ?_ ?_ | (simp [Under, UnderL, UnderLL, -List.map_take, -List.map_drop]; done))))
    · rw [if_neg (by ((try simp only [oo, reduceCtorEq] at *) <;> omega))] at eS
      (refine .inl ⟨by (unfold InR; rw [IntKind.wrap_i64]; omega), ?_⟩; ((conv => whnf); repeat (refine And.intro rfl ?_; (conv => whnf))))
      refine ⟨(n + 1, c, l), ⟨by omega, hc, by rw [eT, eS, hl, List.append_nil]⟩, by dsimp only; omega, ?_⟩
      (refine leB_close 2 (by simp) rfl ?_ ?_ <;> (repeat' (first | exact trivial | exact rfl | exact DeepM.refl _ | exact DeepML.refl _ | exact DeepMLL.refl _ | refine And.intro ?_ ?_ | (simp [Under, UnderL, UnderLL, -List.map_take, -List.map_drop]; done))))
  · have hn' : n = P.nodes.length := by have : ¬ n < P.nodes.length := by ((try simp only [oo, reduceCtorEq] at *) <;> omega)
                                        omega
    subst hn'
    have b3 : l.length = (P.stepsTo P.nodes.length).length := by rw [hl]
    (refine ifK_split (fun h3 => ?_) (fun h3 => ?_) <;> (rw [h3]; ((conv => whnf); repeat (refine And.intro rfl ?_; (conv => whnf)))))
    · exact bad (by decide) (by rw [e1, if_pos (by ((try simp only [oo, reduceCtorEq] at *) <;> omega))])
    · have e2 : P.stepsE = 0 := by rw [e1, if_neg (by ((try simp only [oo, reduceCtorEq] at *) <;> omega))]
      have e3 : P.stepsL = l := by unfold ProcD.stepsL; rw [if_pos e2, hl]
      rw [e2, e3]
      exact .tup _ _ (.cons _ _ _ _ (deep_steps hc rfl) (.cons _ _ _ _ (.refl _) .nil))
end Go.Proofs.Ytikdngjdhncioaa
