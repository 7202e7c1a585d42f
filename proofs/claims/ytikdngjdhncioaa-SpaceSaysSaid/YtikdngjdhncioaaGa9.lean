/-
  Tokens: the reference's Enabled and Fire, over deep values. No statement is proved here.
-/
import Derived.Test.YtikdngjdhncioaaGa8
import Derived.Test.YtikdngjdhncioaaGa7
namespace Go.Proofs.Ytikdngjdhncioaa
open Go.RowKit
set_option linter.unusedSimpArgs false
set_option linter.unusedVariables false
def c21_1 : PC := .seq (.seq (.ops [⟨(some 9), .move (.tmp 8), none, 0⟩,
    ⟨(some 10), .move (.tmp 1), none, 0⟩,
    ⟨(some 11), .len (.tmp 10), none, 0⟩,
    ⟨(some 12), .bin .lss (.tmp 9) (.tmp 11), none, 0⟩] false) (.cond (.tmp 12) (.skip) (.exit 0))) (.seq (.block 1 (.seq (.ops [⟨(some 15), .loadA 2 (.tmp 3), none, 0⟩,
    ⟨(some 16), .move (.tmp 2), none, 0⟩,
    ⟨(some 17), .move (.tmp 1), none, 0⟩,
    ⟨(some 18), .move (.tmp 8), none, 0⟩,
    ⟨(some 19), .iaddr 3 (.tmp 17) (.tmp 18), none, 12⟩,
    ⟨(some 20), .loadA 3 (.tmp 19), none, 28⟩,
    ⟨(some 21), .call 51 [(.tmp 15), (.tmp 16), (.tmp 20)], none, 63⟩] true) (.cond (.tmp 21) (.ops [⟨(some 22), .move (.tmp 7), none, 0⟩,
    ⟨(some 23), .move (.tmp 8), none, 0⟩,
    ⟨(some 24), .bslice 1 1 [(.tmp 23)], none, 0⟩,
    ⟨(some 25), .append 1 8 (.tmp 22) (.tmp 24), none, 0⟩,
    ⟨(some 7), .move (.tmp 25), none, 0⟩] false) (.skip)))) (.ops [⟨(some 13), .move (.tmp 8), none, 0⟩,
    ⟨(some 14), .bin .add (.tmp 13) (.const (.int .i64 1)), none, 0⟩,
    ⟨(some 8), .move (.tmp 14), none, 0⟩] false))
def c21 : PC := .seq (.ops [⟨(some 3), .box (.tmp 0), none, 0⟩,
    ⟨(some 6), .move (.const (.slice none 0 0)), none, 0⟩] false) (.seq (.ops [⟨(some 7), .move (.const (.slice none 0 0)), none, 0⟩] false) (.seq (.seq (.ops [⟨(some 8), .move (.const (.int .i64 0)), none, 0⟩] false) (.block 0 (.loop c21_1))) (.seq (.ops [⟨(some 26), .move (.tmp 7), none, 0⟩,
    ⟨(some 6), .move (.tmp 26), none, 0⟩] false) (.ret))))
set_option maxRecDepth 100000 in
theorem c21_ok : FunOK Try.prog 21 27 [.tmp 6] c21 := ⟨⟨Try.f21, Try.func21, rfl, by kernel_rfl, rfl, by kernel_rfl⟩⟩
set_option maxRecDepth 100000 in
theorem ref_Enabled (P : ProcD) (hP : P.Fits) (M : List Int) (h1 : P.markE M = 0) : PCall Try.prog 21 [dproc P, dsteps P.stepsL, dints M] (dints (P.enL M)) := by
  obtain ⟨hE, hB⟩ := ProcD.markE_zero h1
  obtain ⟨h0, _, h60⟩ := ProcD.stepsE_zero hE
  have hK := ProcD.mark_of hB
  have eN : P.enL M = P.mayTo M P.stepsL P.stepsL.length := by unfold ProcD.enL; rw [if_pos h1]
  refine pcall_intro c21_ok (by simp) (by simp [PureL, Pure, pure_dproc, pure_dints, pure_dsteps]) ?_ (pure_dints _)
  (apply red_sound; focus (repeat' (first | exact Red.skip | exact Red.ret | exact RedO.nil | exact RedD.nil | exact Red.exit _ | exact Red.loop _ | exact Red.stop _ | apply Red.ops | apply Red.draw | apply Red.seq | apply Red.cond | apply Red.block | apply RedO.cons | apply RedD.cons | exact (0 : Nat))))
  ((conv => whnf); repeat (refine And.intro rfl ?_; (conv => whnf)))
  rw [eN]
  refine pwp_ghostB (leB_nil 7 1 (by simp) rfl) ?_
  refine pwp_for [1, 2, 3] (fun ((k, c, l) : Nat × Nat × List Int) => [(7, .own 1 c 0 c), (8, .sc (.int .i64 k))]) (fun (k, c, l) => [(1, .vec true c 1 (i64s l))]) (fun (k, c, l) => k ≤ P.stepsL.length ∧ c = l.length ∧ c ≤ k ∧ l = P.mayTo M P.stepsL k) (fun (k, c, l) => P.stepsL.length - k) (0, 0, []) ?_
  ((conv => whnf); repeat (refine And.intro rfl ?_; (conv => whnf)))
  refine ⟨⟨by omega, rfl, by omega, rfl⟩, by (repeat' (first | exact trivial | refine And.intro rfl ?_)), rfl, ?_⟩
  rintro ⟨k, c, l⟩ ⟨hk, hc, hck, hl⟩
  ((conv => whnf); repeat (refine And.intro rfl ?_; (conv => whnf)))
  (apply red_sound; focus (repeat' (first | exact Red.skip | exact Red.ret | exact RedO.nil | exact RedD.nil | exact Red.exit _ | exact Red.loop _ | exact Red.stop _ | apply Red.ops | apply Red.draw | apply Red.seq | apply Red.cond | apply Red.block | apply RedO.cons | apply RedD.cons | exact (0 : Nat))))
  ((conv => whnf); repeat (refine And.intro rfl ?_; (conv => whnf)))
  rw [srows_len]
  (refine ifK_split (fun h2 => ?_) (fun h2 => ?_) <;> (rw [h2]; ((conv => whnf); repeat (refine And.intro rfl ?_; (conv => whnf)))))
  · have hk' : k < P.stepsL.length := by ((try simp only [oo, reduceCtorEq] at *) <;> omega)
    have hsk := ProcD.stepAt_ok hE hk'
    have eT : P.mayTo M P.stepsL (k + 1) = if P.mayB M (P.stepsL.getD k (0, 0, 0)) = true then P.mayTo M P.stepsL k ++ [(k : Int)] else P.mayTo M P.stepsL k := rfl
    refine ⟨by omega, _, step_atD (k := k) (by omega) hk', ?_⟩
    ((conv => whnf); repeat (refine And.intro rfl ?_; (conv => whnf)))
    generalize P.stepsL.getD k (0, 0, 0) = s at hsk eT
    (refine .inl ⟨_, (ref_May P hP h0 M hK s hsk), ?_⟩; ((conv => whnf); repeat (refine And.intro rfl ?_; (conv => whnf))))
    cases hm : P.mayB M s
    · ((conv => whnf); repeat (refine And.intro rfl ?_; (conv => whnf)))
      (refine .inl ⟨by (unfold InR; rw [IntKind.wrap_i64]; omega), ?_⟩; ((conv => whnf); repeat (refine And.intro rfl ?_; (conv => whnf))))
      refine ⟨(k + 1, c, l), ⟨by omega, hc, by omega, by rw [eT, hm, hl]; rfl⟩, by dsimp only; omega, ?_⟩
      (refine leB_close 2 (by simp) rfl ?_ ?_ <;> (repeat' (first | exact trivial | exact rfl | exact DeepM.refl _ | exact DeepML.refl _ | exact DeepMLL.refl _ | refine And.intro ?_ ?_ | (simp [Under, UnderL, UnderLL, -List.map_take, -List.map_drop]; done))))
    · ((conv => whnf); repeat (refine And.intro rfl ?_; (conv => whnf)))
      refine ⟨(by unfold sliceAppend; simp only [ll]; omega), ?_⟩
      ((conv => whnf); repeat (refine And.intro rfl ?_; (conv => whnf)))
      (refine .inl ⟨by (unfold InR; rw [IntKind.wrap_i64]; omega), ?_⟩; ((conv => whnf); repeat (refine And.intro rfl ?_; (conv => whnf))))
      refine ⟨(k + 1, c + 1, l ++ [(k : Int)]), ⟨by omega, by simp [hc], by omega, by rw [eT, hm, hl]; rfl⟩, by dsimp only; omega, ?_⟩
      (refine leB_close 2 (by simp) rfl ?_ ?_ <;> (repeat' (first | exact trivial | exact rfl | exact DeepM.refl _ | exact DeepML.refl _ | exact DeepMLL.refl _ | refine And.intro ?_ ?_ | (simp [Under, UnderL, UnderLL, -List.map_take, -List.map_drop]; done))))
      exact deepMLL_eq (i64s_snoc hc)
  · have hk' : k = P.stepsL.length := by have : ¬ k < P.stepsL.length := by ((try simp only [oo, reduceCtorEq] at *) <;> omega)
                                         omega
    subst hk'
    rw [← hl]
    exact deep_ints hc rfl
theorem putA_put (g : Nat → Int) (k : Nat) (a b : Int) : putA (putA g k a) k b = putA g k b := by
  funext i
  unfold putA
  split <;> rfl
def ProcD.errTo (P : ProcD) (M : List Int) (s : StepD) : Nat → Int
  | 0 => 0
  | f + 1 => if 9 < P.finI M s f then 7 else P.errTo M s f
theorem errTo_spec {P : ProcD} {M : List Int} {s : StepD} : ∀ n, (P.errTo M s n = 7 ∧ ∃ f, f < n ∧ 9 < P.finI M s f) ∨ (P.errTo M s n = 0 ∧ ∀ f, f < n → ¬ 9 < P.finI M s f)
  | 0 => .inr ⟨rfl, fun f h => by omega⟩
  | n + 1 => by
    simp only [ProcD.errTo]
    split
    · rename_i h
      exact .inl ⟨rfl, n, by omega, h⟩
    · rename_i h
      rcases errTo_spec (P := P) (M := M) (s := s) n with ⟨e, f, h1, h2⟩ | ⟨e, h1⟩
      · exact .inl ⟨e, f, by omega, h2⟩
      · refine .inr ⟨e, fun f hf => ?_⟩
        by_cases q : f = n
        · subst q; exact h
        · exact h1 f (by omega)
def c22_2 : PC := .seq (.seq (.ops [⟨(some 75), .move (.tmp 12), none, 0⟩,
    ⟨(some 76), .move (.tmp 9), none, 0⟩,
    ⟨(some 77), .len (.tmp 76), none, 0⟩,
    ⟨(some 78), .bin .lss (.tmp 75) (.tmp 77), none, 0⟩] false) (.cond (.tmp 78) (.skip) (.exit 2))) (.seq (.block 3 (.seq (.ops [⟨(some 81), .move (.tmp 9), none, 0⟩,
    ⟨(some 82), .move (.tmp 12), none, 0⟩,
    ⟨(some 83), .iaddr 1 (.tmp 81) (.tmp 82), none, 0⟩,
    ⟨(some 84), .load1 (.tmp 83), none, 0⟩,
    ⟨(some 85), .move (.tmp 11), none, 0⟩,
    ⟨(some 86), .bin .eql (.tmp 84) (.tmp 85), none, 0⟩,
    ⟨(some 87), .move (.tmp 86), none, 0⟩,
    ⟨(some 88), .faddr 2 (.tmp 5), (some (87, true)), 0⟩,
    ⟨(some 89), .load1 (.tmp 88), (some (87, true)), 0⟩,
    ⟨(some 90), .move (.tmp 12), (some (87, true)), 0⟩,
    ⟨(some 91), .bin .shr (.tmp 89) (.tmp 90), (some (87, true)), 0⟩,
    ⟨(some 92), .bin .rem (.tmp 91) (.const (.int .i64 2)), (some (87, true)), 0⟩,
    ⟨(some 93), .bin .eql (.tmp 92) (.const (.int .i64 1)), (some (87, true)), 0⟩,
    ⟨(some 94), .pick (.tmp 87) (.tmp 93) (.const (.bool false)), none, 0⟩] false) (.cond (.tmp 94) (.ops [⟨(some 95), .move (.tmp 8), none, 0⟩,
    ⟨(some 96), .move (.tmp 11), none, 0⟩,
    ⟨(some 97), .iaddr 1 (.tmp 95) (.tmp 96), none, 0⟩,
    ⟨(some 98), .load1 (.tmp 97), none, 0⟩,
    ⟨(some 99), .bin .add (.tmp 98) (.const (.int .i64 1)), none, 0⟩,
    ⟨(some 100), .iaddr 1 (.tmp 95) (.tmp 96), none, 0⟩,
    ⟨none, .store 1 (.tmp 100) (.tmp 99), none, 0⟩] false) (.skip)))) (.ops [⟨(some 79), .move (.tmp 12), none, 0⟩,
    ⟨(some 80), .bin .add (.tmp 79) (.const (.int .i64 1)), none, 0⟩,
    ⟨(some 12), .move (.tmp 80), none, 0⟩] false))
def c22_1 : PC := .seq (.seq (.ops [⟨(some 29), .move (.tmp 11), none, 0⟩,
    ⟨(some 30), .move (.tmp 1), none, 0⟩,
    ⟨(some 31), .len (.tmp 30), none, 0⟩,
    ⟨(some 32), .bin .lss (.tmp 29) (.tmp 31), none, 0⟩] false) (.cond (.tmp 32) (.skip) (.exit 0))) (.seq (.block 1 (.seq (.ops [⟨(some 35), .move (.tmp 8), none, 0⟩,
    ⟨(some 36), .move (.tmp 11), none, 0⟩,
    ⟨(some 37), .move (.tmp 1), none, 0⟩,
    ⟨(some 38), .move (.tmp 11), none, 0⟩,
    ⟨(some 39), .iaddr 1 (.tmp 37) (.tmp 38), none, 0⟩,
    ⟨(some 40), .load1 (.tmp 39), none, 0⟩,
    ⟨(some 41), .iaddr 1 (.tmp 35) (.tmp 36), none, 0⟩,
    ⟨none, .store 1 (.tmp 41) (.tmp 40), none, 0⟩] false) (.seq (.seq (.ops [⟨(some 42), .faddr 1 (.tmp 3), none, 0⟩,
    ⟨(some 43), .load1 (.tmp 42), none, 1⟩,
    ⟨(some 44), .move (.tmp 11), none, 0⟩,
    ⟨(some 45), .iaddr 2 (.tmp 43) (.tmp 44), none, 7⟩,
    ⟨(some 46), .faddr 1 (.tmp 45), none, 15⟩,
    ⟨(some 47), .load1 (.tmp 46), none, 31⟩,
    ⟨(some 48), .faddr 0 (.tmp 5), none, 0⟩,
    ⟨(some 49), .load1 (.tmp 48), none, 64⟩,
    ⟨(some 50), .bin .eql (.tmp 47) (.tmp 49), none, 255⟩,
    ⟨(some 51), .move (.tmp 50), none, 511⟩,
    ⟨(some 52), .faddr 1 (.tmp 5), (some (51, true)), 1023⟩,
    ⟨(some 53), .load1 (.tmp 52), (some (51, true)), 2047⟩,
    ⟨(some 54), .move (.tmp 11), (some (51, true)), 1023⟩,
    ⟨(some 55), .bin .eql (.tmp 53) (.tmp 54), (some (51, true)), 8191⟩,
    ⟨(some 56), .move (.tmp 55), (some (51, true)), 16383⟩,
    ⟨(some 57), .faddr 1 (.tmp 5), (some (56, false)), 32767⟩,
    ⟨(some 58), .load1 (.tmp 57), (some (56, false)), 65535⟩,
    ⟨(some 59), .bin .lss (.tmp 58) (.const (.int .i64 0)), (some (56, false)), 131071⟩,
    ⟨(some 60), .move (.tmp 59), (some (56, false)), 262143⟩,
    ⟨(some 61), .move (.tmp 1), (some (60, true)), 524287⟩,
    ⟨(some 62), .move (.tmp 11), (some (60, true)), 524287⟩,
    ⟨(some 63), .iaddr 1 (.tmp 61) (.tmp 62), (some (60, true)), 2097151⟩,
    ⟨(some 64), .load1 (.tmp 63), (some (60, true)), 4194303⟩,
    ⟨(some 65), .bin .gtr (.tmp 64) (.const (.int .i64 0)), (some (60, true)), 8388607⟩,
    ⟨(some 66), .pick (.tmp 60) (.tmp 65) (.const (.bool false)), (some (56, false)), 16777215⟩,
    ⟨(some 67), .pick (.tmp 56) (.const (.bool true)) (.tmp 66), (some (51, true)), 33554431⟩,
    ⟨(some 68), .pick (.tmp 51) (.tmp 67) (.const (.bool false)), none, 67108863⟩] true) (.cond (.tmp 68) (.ops [⟨(some 69), .move (.tmp 8), none, 0⟩,
    ⟨(some 70), .move (.tmp 11), none, 0⟩,
    ⟨(some 71), .iaddr 1 (.tmp 69) (.tmp 70), none, 0⟩,
    ⟨(some 72), .load1 (.tmp 71), none, 0⟩,
    ⟨(some 73), .bin .sub (.tmp 72) (.const (.int .i64 1)), none, 0⟩,
    ⟨(some 74), .iaddr 1 (.tmp 69) (.tmp 70), none, 0⟩,
    ⟨none, .store 1 (.tmp 74) (.tmp 73), none, 0⟩] false) (.skip))) (.seq (.seq (.ops [⟨(some 12), .move (.const (.int .i64 0)), none, 0⟩] false) (.block 2 (.loop c22_2))) (.seq (.ops [⟨(some 101), .move (.tmp 8), none, 0⟩,
    ⟨(some 102), .move (.tmp 11), none, 0⟩,
    ⟨(some 103), .iaddr 1 (.tmp 101) (.tmp 102), none, 0⟩,
    ⟨(some 104), .load1 (.tmp 103), none, 0⟩,
    ⟨(some 105), .bin .gtr (.tmp 104) (.const (.int .i64 9)), none, 0⟩] false) (.cond (.tmp 105) (.ops [⟨(some 10), .move (.const (.int .i64 7)), none, 0⟩] false) (.skip))))))) (.ops [⟨(some 33), .move (.tmp 11), none, 0⟩,
    ⟨(some 34), .bin .add (.tmp 33) (.const (.int .i64 1)), none, 0⟩,
    ⟨(some 11), .move (.tmp 34), none, 0⟩] false))
def c22 : PC := .seq (.ops [⟨(some 3), .box (.tmp 0), none, 0⟩,
    ⟨(some 5), .box (.tmp 2), none, 0⟩,
    ⟨(some 6), .move (.const (.slice none 0 0)), none, 0⟩,
    ⟨(some 7), .move (.const (.int .i64 0)), none, 0⟩] false) (.seq (.ops [⟨(some 13), .move (.tmp 1), none, 0⟩,
    ⟨(some 14), .len (.tmp 13), none, 0⟩,
    ⟨(some 15), .mslice 1 8 [(.int .i64 0)] (.tmp 14) (.tmp 14), none, 0⟩,
    ⟨(some 8), .move (.tmp 15), none, 0⟩] false) (.seq (.seq (.ops [⟨(some 16), .faddr 0 (.tmp 3), none, 0⟩,
    ⟨(some 17), .load1 (.tmp 16), none, 0⟩,
    ⟨(some 18), .faddr 0 (.tmp 5), none, 0⟩,
    ⟨(some 19), .load1 (.tmp 18), none, 0⟩,
    ⟨(some 20), .iaddr 2 (.tmp 17) (.tmp 19), none, 0⟩,
    ⟨(some 21), .faddr 1 (.tmp 20), none, 0⟩,
    ⟨(some 22), .load1 (.tmp 21), none, 0⟩,
    ⟨(some 23), .bin .eql (.tmp 22) (.const (.int .i64 3)), none, 0⟩] false) (.cond (.tmp 23) (.seq (.ops [⟨(some 24), .move (.tmp 8), none, 0⟩,
    ⟨(some 6), .move (.tmp 24), none, 0⟩,
    ⟨(some 7), .move (.const (.int .i64 0)), none, 0⟩] false) (.ret)) (.skip))) (.seq (.ops [⟨(some 25), .loadA 2 (.tmp 3), none, 0⟩,
    ⟨(some 26), .faddr 0 (.tmp 5), none, 0⟩,
    ⟨(some 27), .load1 (.tmp 26), none, 0⟩,
    ⟨(some 28), .call 50 [(.tmp 25), (.tmp 27)], none, 0⟩,
    ⟨(some 9), .move (.tmp 28), none, 0⟩] false) (.seq (.ops [⟨(some 10), .move (.const (.int .i64 0)), none, 0⟩] false) (.seq (.seq (.ops [⟨(some 11), .move (.const (.int .i64 0)), none, 0⟩] false) (.block 0 (.loop c22_1))) (.seq (.seq (.ops [⟨(some 106), .move (.tmp 10), none, 0⟩,
    ⟨(some 107), .bin .neq (.tmp 106) (.const (.int .i64 0)), none, 0⟩] false) (.cond (.tmp 107) (.seq (.ops [⟨(some 108), .move (.tmp 10), none, 0⟩,
    ⟨(some 6), .move (.const (.slice none 0 0)), none, 0⟩,
    ⟨(some 7), .move (.tmp 108), none, 0⟩] false) (.ret)) (.skip))) (.seq (.ops [⟨(some 109), .move (.tmp 8), none, 0⟩,
    ⟨(some 6), .move (.tmp 109), none, 0⟩,
    ⟨(some 7), .move (.const (.int .i64 0)), none, 0⟩] false) (.ret))))))))
set_option maxRecDepth 100000 in
theorem c22_ok : FunOK Try.prog 22 110 [.tmp 6, .tmp 7] c22 := ⟨⟨Try.f22, Try.func22, rfl, by kernel_rfl, rfl, by kernel_rfl⟩⟩
set_option maxRecDepth 100000 in
theorem ref_Fire (P : ProcD) (hP : P.Fits) (h0 : P.chk = 0) (M : List Int) (hM : P.Mark M) (s : StepD) (hs : P.StepOK s) :
    PCall Try.prog 22 [dproc P, dints M, .agg (srow s)] (.tup [dints (P.fireL M s), .sc (.int .i64 (P.fireE M s))]) := by
  obtain ⟨hs1, hs2⟩ := chk_small h0
  have hn := hs.node
  have l2 := P.outL_len s.1
  have lM := hM.len
  have hout := hs.out
  have eE : P.fireE M s = if P.kind s.1.toNat = 3 then 0 else if ∃ f, f < P.flows.length ∧ 9 < P.finI M s f then 7 else 0 := by unfold ProcD.fireE; rfl
  have eL : P.fireL M s = if P.kind s.1.toNat = 3 then gl P.flows.length fun _ => 0 else if P.fireE M s = 0 then gl P.flows.length (P.finI M s) else [] := rfl
  refine pcall_intro c22_ok (by simp) (by simp [PureL, Pure, pure_dproc, pure_dints, pure_srow]) ?_ (by simp [Pure, PureL, pure_dints])
  (apply red_sound; focus (repeat' (first | exact Red.skip | exact Red.ret | exact RedO.nil | exact RedD.nil | exact Red.exit _ | exact Red.loop _ | exact Red.stop _ | apply Red.ops | apply Red.draw | apply Red.seq | apply Red.cond | apply Red.block | apply RedO.cons | apply RedD.cons | exact (0 : Nat))))
  ((conv => whnf); repeat (refine And.intro rfl ?_; (conv => whnf)))
  rw [List.length_map, lM]
  refine ⟨by omega, by omega, by omega, ?_⟩
  rw [Int.toNat_natCast, show List.map D.sc [Value.int .i64 0] = [D.sc (.int .i64 0)] from rfl, gl_rep]
  ((conv => whnf); repeat (refine And.intro rfl ?_; (conv => whnf)))
  refine ⟨by omega, _, node_at P (k := s.1.toNat) (by omega) (by omega), ?_⟩
  ((conv => whnf); repeat (refine And.intro rfl ?_; (conv => whnf)))
  (refine ifK_split (fun h1 => ?_) (fun h1 => ?_) <;> (rw [h1]; ((conv => whnf); repeat (refine And.intro rfl ?_; (conv => whnf)))))
  · have h1 : P.kind s.1.toNat = 3 := by ((try simp only [oo, reduceCtorEq] at *) <;> omega)
    rw [if_pos h1] at eE eL
    rw [eE, eL]
    exact .tup _ _ (.cons _ _ _ _ (deep_gl rfl) (.cons _ _ _ _ (.refl _) .nil))
  have h1 : P.kind s.1.toNat ≠ 3 := by ((try simp only [oo, reduceCtorEq] at *) <;> omega)
  rw [if_neg h1] at eE eL
  (refine .inl ⟨_, (ref_FlowsOut P hP (by omega) s.1), ?_⟩; ((conv => whnf); repeat (refine And.intro rfl ?_; (conv => whnf))))
  refine pwp_for [1, 3, 5, 8, 9] (fun ((f, g) : Nat × (Nat → Int)) => [(10, .sc (.int .i64 (P.errTo M s f))), (11, .sc (.int .i64 f))]) (fun (f, g) => [(2, .vec true 0 1 (i64s (gl P.flows.length g)))]) (fun (f, g) => f ≤ P.flows.length ∧ ∀ i, g i = if i < f then P.finI M s i else 0) (fun (f, g) => P.flows.length - f) (0, fun _ => 0) ?_
  ((conv => whnf); repeat (refine And.intro rfl ?_; (conv => whnf)))
  refine ⟨⟨by omega, fun i => rfl⟩, by (repeat' (first | exact trivial | refine And.intro rfl ?_)), rfl, ?_⟩
  rintro ⟨f, g⟩ ⟨hf, hg⟩
  ((conv => whnf); repeat (refine And.intro rfl ?_; (conv => whnf)))
  (apply red_sound; focus (repeat' (first | exact Red.skip | exact Red.ret | exact RedO.nil | exact RedD.nil | exact Red.exit _ | exact Red.loop _ | exact Red.stop _ | apply Red.ops | apply Red.draw | apply Red.seq | apply Red.cond | apply Red.block | apply RedO.cons | apply RedD.cons | exact (0 : Nat))))
  ((conv => whnf); repeat (refine And.intro rfl ?_; (conv => whnf)))
  rw [List.length_map, lM]
  (refine ifK_split (fun h2 => ?_) (fun h2 => ?_) <;> (rw [h2]; ((conv => whnf); repeat (refine And.intro rfl ?_; (conv => whnf)))))
  · have hf' : f < P.flows.length := by ((try simp only [oo, reduceCtorEq] at *) <;> omega)
    have v1 := hM.pos f
    have v2 := hM.top f
    have b1 := ProcD.baseI_ok hM s f
    have eBase : P.baseI M s f = val M f - if P.decB M s f = true then 1 else 0 := rfl
    have eD0 : P.decB M s f = (decide (P.dst f = s.1) && (s.2.1 == (f : Int) || decide (s.2.1 < 0) && decide (0 < val M f))) := rfl
    refine ⟨by omega, _, val_at (k := f) (by omega) (by omega), ?_⟩
    ((conv => whnf); repeat (refine And.intro rfl ?_; (conv => whnf)))
    (refine ⟨by omega, (by first | omega | (simp; done) | (simp; omega) | (simp only [ll]; omega)), ?_⟩; ((conv => whnf); repeat (refine And.intro rfl ?_; (conv => whnf))))
    refine ⟨_, gl_atN f (by omega) (by omega), ?_⟩
    ((conv => whnf); repeat (refine And.intro rfl ?_; (conv => whnf)))
    rw [gl_set (k := f) (by omega)]
    refine ⟨by omega, _, flow_at P (k := f) (by omega) hf', ?_⟩
    ((conv => whnf); repeat (refine And.intro rfl ?_; (conv => whnf)))
    cases h3 : (P.dst f == s.1)
    · have eD : P.decB M s f = false := by rw [eD0, decide_eq_false (by ((try simp only [oo, reduceCtorEq] at *) <;> omega))]; rfl
      rw [if_neg (by rw [eD]; decide), Int.sub_zero] at eBase
      ((conv => whnf); repeat (refine And.intro rfl ?_; (conv => whnf)))
      rw [← eBase]
      refine pwp_for [1, 3, 5, 8, 9, 10, 11] (fun k : Nat => [(12, .sc (.int .i64 k))]) (fun k => [(2, .vec true 0 1 (i64s (gl P.flows.length (putA g f (P.baseI M s f + P.incs s f k)))))]) (fun k => k ≤ (P.outL s.1).length) (fun k => (P.outL s.1).length - k) 0 ?_
      ((conv => whnf); repeat (refine And.intro rfl ?_; (conv => whnf)))
      refine ⟨by omega, by (repeat' (first | exact trivial | refine And.intro rfl ?_)), by rw [show P.incs s f 0 = 0 from rfl, Int.add_zero]; rfl, ?_⟩
      rintro k hk
      ((conv => whnf); repeat (refine And.intro rfl ?_; (conv => whnf)))
      (apply red_sound; focus (repeat' (first | exact Red.skip | exact Red.ret | exact RedO.nil | exact RedD.nil | exact Red.exit _ | exact Red.loop _ | exact Red.stop _ | apply Red.ops | apply Red.draw | apply Red.seq | apply Red.cond | apply Red.block | apply RedO.cons | apply RedD.cons | exact (0 : Nat))))
      ((conv => whnf); repeat (refine And.intro rfl ?_; (conv => whnf)))
      rw [List.length_map]
      (refine ifK_split (fun h8 => ?_) (fun h8 => ?_) <;> (rw [h8]; ((conv => whnf); repeat (refine And.intro rfl ?_; (conv => whnf)))))
      · have hk' : k < (P.outL s.1).length := by ((try simp only [oo, reduceCtorEq] at *) <;> omega)
        have hoa := ProcD.outAt_ok (P := P) (n := s.1) hk'
        have b2 := ProcD.incs_ok P s f k
        refine ⟨by omega, _, intsD_at (k := k) (by omega) hk', ?_⟩
        ((conv => whnf); repeat (refine And.intro rfl ?_; (conv => whnf)))
        rw [show (P.outL s.1).getD k 0 = P.outAt s.1 k from rfl]
        cases h9 : (P.outAt s.1 k == (f : Int))
        · ((conv => whnf); repeat (refine And.intro rfl ?_; (conv => whnf)))
          (refine .inl ⟨by (unfold InR; rw [IntKind.wrap_i64]; omega), ?_⟩; ((conv => whnf); repeat (refine And.intro rfl ?_; (conv => whnf))))
          refine ⟨k + 1, by omega, by dsimp only; omega, leB_envH (by (repeat' (first | exact trivial | refine And.intro rfl ?_))) ?_⟩
          have := ProcD.incs_miss (P := P) (s := s) (k := k) (f := f) (.inl (by ((try simp only [oo, reduceCtorEq] at *) <;> omega)))
          dsimp only
          rw [this]
          rfl
        · have h9 : P.outAt s.1 k = (f : Int) := by ((try simp only [oo, reduceCtorEq] at *) <;> omega)
          ((conv => whnf); repeat (refine And.intro rfl ?_; (conv => whnf)))
          refine ⟨by omega, ?_⟩
          ((conv => whnf); repeat (refine And.intro rfl ?_; (conv => whnf)))
          refine ⟨by decide, ?_⟩
          ((conv => whnf); repeat (refine And.intro rfl ?_; (conv => whnf)))
          have eb : ((s.2.2.fdiv (2 ^ min (k : Int).toNat IntKind.i64.bits)).tmod 2 == 1) = bitB s.2.2 k := rfl
          rw [eb]
          cases hb : bitB s.2.2 k
          · ((conv => whnf); repeat (refine And.intro rfl ?_; (conv => whnf)))
            (refine .inl ⟨by (unfold InR; rw [IntKind.wrap_i64]; omega), ?_⟩; ((conv => whnf); repeat (refine And.intro rfl ?_; (conv => whnf))))
            refine ⟨k + 1, by omega, by dsimp only; omega, leB_envH (by (repeat' (first | exact trivial | refine And.intro rfl ?_))) ?_⟩
            have := ProcD.incs_miss (P := P) (s := s) (k := k) (f := f) (.inr hb)
            dsimp only
            rw [this]
            rfl
          · have hh := ProcD.incs_hit h9 hb
            ((conv => whnf); repeat (refine And.intro rfl ?_; (conv => whnf)))
            (refine ⟨by omega, (by first | omega | (simp; done) | (simp; omega) | (simp only [ll]; omega)), ?_⟩; ((conv => whnf); repeat (refine And.intro rfl ?_; (conv => whnf))))
            refine ⟨_, gl_atN f (by omega) (by omega), ?_⟩
            ((conv => whnf); repeat (refine And.intro rfl ?_; (conv => whnf)))
            rw [putA_self]
            (refine .inl ⟨by (unfold InR; rw [IntKind.wrap_i64]; omega), ?_⟩; ((conv => whnf); repeat (refine And.intro rfl ?_; (conv => whnf))))
            (refine ⟨by omega, (by first | omega | (simp; done) | (simp; omega) | (simp only [ll]; omega)), ?_⟩; ((conv => whnf); repeat (refine And.intro rfl ?_; (conv => whnf))))
            refine ⟨_, gl_atN f (by omega) (by omega), ?_⟩
            ((conv => whnf); repeat (refine And.intro rfl ?_; (conv => whnf)))
            (refine .inl ⟨by (unfold InR; rw [IntKind.wrap_i64]; omega), ?_⟩; ((conv => whnf); repeat (refine And.intro rfl ?_; (conv => whnf))))
            refine ⟨k + 1, by omega, by dsimp only; omega, leB_envH (by (repeat' (first | exact trivial | refine And.intro rfl ?_))) ?_⟩
            dsimp only
            rw [gl_set (k := f) (by omega), putA_put, hh, ← Int.add_assoc]
            rfl
      have hk' : k = (P.outL s.1).length := by have : ¬ k < (P.outL s.1).length := by ((try simp only [oo, reduceCtorEq] at *) <;> omega)
                                               omega
      subst hk'
      (refine ⟨by omega, (by first | omega | (simp; done) | (simp; omega) | (simp only [ll]; omega)), ?_⟩; ((conv => whnf); repeat (refine And.intro rfl ?_; (conv => whnf))))
      refine ⟨_, gl_atN f (by omega) (by omega), ?_⟩
      ((conv => whnf); repeat (refine And.intro rfl ?_; (conv => whnf)))
      rw [putA_self, show P.baseI M s f + P.incs s f (P.outL s.1).length = P.finI M s f from rfl]
      have eT : P.errTo M s (f + 1) = if 9 < P.finI M s f then 7 else P.errTo M s f := rfl
      have hnext : ∀ i, putA g f (P.finI M s f) i = if i < f + 1 then P.finI M s i else 0 := fun i => by
        by_cases e : i = f
        · subst e; rw [putA_self, if_pos (by omega)]
        · rw [putA_ne e, hg]
          by_cases q : i < f
          · rw [if_pos q, if_pos (by omega)]
          · rw [if_neg q, if_neg (by omega)]
      (refine ifK_split (fun h10 => ?_) (fun h10 => ?_) <;> (rw [h10]; ((conv => whnf); repeat (refine And.intro rfl ?_; (conv => whnf)))))
      · rw [if_pos (by ((try simp only [oo, reduceCtorEq] at *) <;> omega))] at eT
        (refine .inl ⟨by (unfold InR; rw [IntKind.wrap_i64]; omega), ?_⟩; ((conv => whnf); repeat (refine And.intro rfl ?_; (conv => whnf))))
        refine ⟨(f + 1, putA g f (P.finI M s f)), ⟨by omega, hnext⟩, by dsimp only; omega, leB_envH ⟨by simp only [eT]; rfl, by (repeat' (first | exact trivial | refine And.intro rfl ?_))⟩ rfl⟩
      · rw [if_neg (by ((try simp only [oo, reduceCtorEq] at *) <;> omega))] at eT
        (refine .inl ⟨by (unfold InR; rw [IntKind.wrap_i64]; omega), ?_⟩; ((conv => whnf); repeat (refine And.intro rfl ?_; (conv => whnf))))
        refine ⟨(f + 1, putA g f (P.finI M s f)), ⟨by omega, hnext⟩, by dsimp only; omega, leB_envH ⟨by simp only [eT]; rfl, by (repeat' (first | exact trivial | refine And.intro rfl ?_))⟩ rfl⟩
    · rw [decide_eq_true (by ((try simp only [oo, reduceCtorEq] at *) <;> omega)), Bool.true_and] at eD0
      ((conv => whnf); repeat (refine And.intro rfl ?_; (conv => whnf)))
      cases h4 : (s.2.1 == (f : Int))
      · rw [h4, Bool.false_or] at eD0
        ((conv => whnf); repeat (refine And.intro rfl ?_; (conv => whnf)))
        cases h5 : decide (s.2.1 < 0)
        · have eD : P.decB M s f = false := by rw [eD0, h5]; rfl
          rw [if_neg (by rw [eD]; decide), Int.sub_zero] at eBase
          ((conv => whnf); repeat (refine And.intro rfl ?_; (conv => whnf)))
          rw [← eBase]
          refine pwp_for [1, 3, 5, 8, 9, 10, 11] (fun k : Nat => [(12, .sc (.int .i64 k))]) (fun k => [(2, .vec true 0 1 (i64s (gl P.flows.length (putA g f (P.baseI M s f + P.incs s f k)))))]) (fun k => k ≤ (P.outL s.1).length) (fun k => (P.outL s.1).length - k) 0 ?_
          ((conv => whnf); repeat (refine And.intro rfl ?_; (conv => whnf)))
          refine ⟨by omega, by (repeat' (first | exact trivial | refine And.intro rfl ?_)), by rw [show P.incs s f 0 = 0 from rfl, Int.add_zero]; rfl, ?_⟩
          rintro k hk
          ((conv => whnf); repeat (refine And.intro rfl ?_; (conv => whnf)))
          (apply red_sound; focus (repeat' (first | exact Red.skip | exact Red.ret | exact RedO.nil | exact RedD.nil | exact Red.exit _ | exact Red.loop _ | exact Red.stop _ | apply Red.ops | apply Red.draw | apply Red.seq | apply Red.cond | apply Red.block | apply RedO.cons | apply RedD.cons | exact (0 : Nat))))
          ((conv => whnf); repeat (refine And.intro rfl ?_; (conv => whnf)))
          rw [List.length_map]
          (refine ifK_split (fun h8 => ?_) (fun h8 => ?_) <;> (rw [h8]; ((conv => whnf); repeat (refine And.intro rfl ?_; (conv => whnf)))))
          · have hk' : k < (P.outL s.1).length := by ((try simp only [oo, reduceCtorEq] at *) <;> omega)
            have hoa := ProcD.outAt_ok (P := P) (n := s.1) hk'
            have b2 := ProcD.incs_ok P s f k
            refine ⟨by omega, _, intsD_at (k := k) (by omega) hk', ?_⟩
            ((conv => whnf); repeat (refine And.intro rfl ?_; (conv => whnf)))
            rw [show (P.outL s.1).getD k 0 = P.outAt s.1 k from rfl]
            cases h9 : (P.outAt s.1 k == (f : Int))
            · ((conv => whnf); repeat (refine And.intro rfl ?_; (conv => whnf)))
              (refine .inl ⟨by (unfold InR; rw [IntKind.wrap_i64]; omega), ?_⟩; ((conv => whnf); repeat (refine And.intro rfl ?_; (conv => whnf))))
              refine ⟨k + 1, by omega, by dsimp only; omega, leB_envH (by (repeat' (first | exact trivial | refine And.intro rfl ?_))) ?_⟩
              have := ProcD.incs_miss (P := P) (s := s) (k := k) (f := f) (.inl (by ((try simp only [oo, reduceCtorEq] at *) <;> omega)))
              dsimp only
              rw [this]
              rfl
            · have h9 : P.outAt s.1 k = (f : Int) := by ((try simp only [oo, reduceCtorEq] at *) <;> omega)
              ((conv => whnf); repeat (refine And.intro rfl ?_; (conv => whnf)))
              refine ⟨by omega, ?_⟩
              ((conv => whnf); repeat (refine And.intro rfl ?_; (conv => whnf)))
              refine ⟨by decide, ?_⟩
              ((conv => whnf); repeat (refine And.intro rfl ?_; (conv => whnf)))
              have eb : ((s.2.2.fdiv (2 ^ min (k : Int).toNat IntKind.i64.bits)).tmod 2 == 1) = bitB s.2.2 k := rfl
              rw [eb]
              cases hb : bitB s.2.2 k
              · ((conv => whnf); repeat (refine And.intro rfl ?_; (conv => whnf)))
                (refine .inl ⟨by (unfold InR; rw [IntKind.wrap_i64]; omega), ?_⟩; ((conv => whnf); repeat (refine And.intro rfl ?_; (conv => whnf))))
                refine ⟨k + 1, by omega, by dsimp only; omega, leB_envH (by (repeat' (first | exact trivial | refine And.intro rfl ?_))) ?_⟩
                have := ProcD.incs_miss (P := P) (s := s) (k := k) (f := f) (.inr hb)
                dsimp only
                rw [this]
                rfl
              · have hh := ProcD.incs_hit h9 hb
                ((conv => whnf); repeat (refine And.intro rfl ?_; (conv => whnf)))
                (refine ⟨by omega, (by first | omega | (simp; done) | (simp; omega) | (simp only [ll]; omega)), ?_⟩; ((conv => whnf); repeat (refine And.intro rfl ?_; (conv => whnf))))
                refine ⟨_, gl_atN f (by omega) (by omega), ?_⟩
                ((conv => whnf); repeat (refine And.intro rfl ?_; (conv => whnf)))
                rw [putA_self]
                (refine .inl ⟨by (unfold InR; rw [IntKind.wrap_i64]; omega), ?_⟩; ((conv => whnf); repeat (refine And.intro rfl ?_; (conv => whnf))))
                (refine ⟨by omega, (by first | omega | (simp; done) | (simp; omega) | (simp only [ll]; omega)), ?_⟩; ((conv => whnf); repeat (refine And.intro rfl ?_; (conv => whnf))))
                refine ⟨_, gl_atN f (by omega) (by omega), ?_⟩
                ((conv => whnf); repeat (refine And.intro rfl ?_; (conv => whnf)))
                (refine .inl ⟨by (unfold InR; rw [IntKind.wrap_i64]; omega), ?_⟩; ((conv => whnf); repeat (refine And.intro rfl ?_; (conv => whnf))))
                refine ⟨k + 1, by omega, by dsimp only; omega, leB_envH (by (repeat' (first | exact trivial | refine And.intro rfl ?_))) ?_⟩
                dsimp only
                rw [gl_set (k := f) (by omega), putA_put, hh, ← Int.add_assoc]
                rfl
          have hk' : k = (P.outL s.1).length := by have : ¬ k < (P.outL s.1).length := by ((try simp only [oo, reduceCtorEq] at *) <;> omega)
                                                   omega
          subst hk'
          (refine ⟨by omega, (by first | omega | (simp; done) | (simp; omega) | (simp only [ll]; omega)), ?_⟩; ((conv => whnf); repeat (refine And.intro rfl ?_; (conv => whnf))))
          refine ⟨_, gl_atN f (by omega) (by omega), ?_⟩
          ((conv => whnf); repeat (refine And.intro rfl ?_; (conv => whnf)))
          rw [putA_self, show P.baseI M s f + P.incs s f (P.outL s.1).length = P.finI M s f from rfl]
          have eT : P.errTo M s (f + 1) = if 9 < P.finI M s f then 7 else P.errTo M s f := rfl
          have hnext : ∀ i, putA g f (P.finI M s f) i = if i < f + 1 then P.finI M s i else 0 := fun i => by
            by_cases e : i = f
            · subst e; rw [putA_self, if_pos (by omega)]
            · rw [putA_ne e, hg]
              by_cases q : i < f
              · rw [if_pos q, if_pos (by omega)]
              · rw [if_neg q, if_neg (by omega)]
          (refine ifK_split (fun h10 => ?_) (fun h10 => ?_) <;> (rw [h10]; ((conv => whnf); repeat (refine And.intro rfl ?_; (conv => whnf)))))
          · rw [if_pos (by ((try simp only [oo, reduceCtorEq] at *) <;> omega))] at eT
            (refine .inl ⟨by (unfold InR; rw [IntKind.wrap_i64]; omega), ?_⟩; ((conv => whnf); repeat (refine And.intro rfl ?_; (conv => whnf))))
            refine ⟨(f + 1, putA g f (P.finI M s f)), ⟨by omega, hnext⟩, by dsimp only; omega, leB_envH ⟨by simp only [eT]; rfl, by (repeat' (first | exact trivial | refine And.intro rfl ?_))⟩ rfl⟩
          · rw [if_neg (by ((try simp only [oo, reduceCtorEq] at *) <;> omega))] at eT
            (refine .inl ⟨by (unfold InR; rw [IntKind.wrap_i64]; omega), ?_⟩; ((conv => whnf); repeat (refine And.intro rfl ?_; (conv => whnf))))
            refine ⟨(f + 1, putA g f (P.finI M s f)), ⟨by omega, hnext⟩, by dsimp only; omega, leB_envH ⟨by simp only [eT]; rfl, by (repeat' (first | exact trivial | refine And.intro rfl ?_))⟩ rfl⟩
        · rw [h5, Bool.true_and] at eD0
          ((conv => whnf); repeat (refine And.intro rfl ?_; (conv => whnf)))
          refine ⟨by omega, _, val_at (k := f) (by omega) (by omega), ?_⟩
          ((conv => whnf); repeat (refine And.intro rfl ?_; (conv => whnf)))
          cases h6 : decide (val M f > 0)
          · have eD : P.decB M s f = false := by rw [eD0]; exact h6
            rw [if_neg (by rw [eD]; decide), Int.sub_zero] at eBase
            ((conv => whnf); repeat (refine And.intro rfl ?_; (conv => whnf)))
            rw [← eBase]
            refine pwp_for [1, 3, 5, 8, 9, 10, 11] (fun k : Nat => [(12, .sc (.int .i64 k))]) (fun k => [(2, .vec true 0 1 (i64s (gl P.flows.length (putA g f (P.baseI M s f + P.incs s f k)))))]) (fun k => k ≤ (P.outL s.1).length) (fun k => (P.outL s.1).length - k) 0 ?_
            ((conv => whnf); repeat (refine And.intro rfl ?_; (conv => whnf)))
            refine ⟨by omega, by (repeat' (first | exact trivial | refine And.intro rfl ?_)), by rw [show P.incs s f 0 = 0 from rfl, Int.add_zero]; rfl, ?_⟩
            rintro k hk
            ((conv => whnf); repeat (refine And.intro rfl ?_; (conv => whnf)))
            (apply red_sound; focus (repeat' (first | exact Red.skip | exact Red.ret | exact RedO.nil | exact RedD.nil | exact Red.exit _ | exact Red.loop _ | exact Red.stop _ | apply Red.ops | apply Red.draw | apply Red.seq | apply Red.cond | apply Red.block | apply RedO.cons | apply RedD.cons | exact (0 : Nat))))
            ((conv => whnf); repeat (refine And.intro rfl ?_; (conv => whnf)))
            rw [List.length_map]
            (refine ifK_split (fun h8 => ?_) (fun h8 => ?_) <;> (rw [h8]; ((conv => whnf); repeat (refine And.intro rfl ?_; (conv => whnf)))))
            · have hk' : k < (P.outL s.1).length := by ((try simp only [oo, reduceCtorEq] at *) <;> omega)
              have hoa := ProcD.outAt_ok (P := P) (n := s.1) hk'
              have b2 := ProcD.incs_ok P s f k
              refine ⟨by omega, _, intsD_at (k := k) (by omega) hk', ?_⟩
              ((conv => whnf); repeat (refine And.intro rfl ?_; (conv => whnf)))
              rw [show (P.outL s.1).getD k 0 = P.outAt s.1 k from rfl]
              cases h9 : (P.outAt s.1 k == (f : Int))
              · ((conv => whnf); repeat (refine And.intro rfl ?_; (conv => whnf)))
                (refine .inl ⟨by (unfold InR; rw [IntKind.wrap_i64]; omega), ?_⟩; ((conv => whnf); repeat (refine And.intro rfl ?_; (conv => whnf))))
                refine ⟨k + 1, by omega, by dsimp only; omega, leB_envH (by (repeat' (first | exact trivial | refine And.intro rfl ?_))) ?_⟩
                have := ProcD.incs_miss (P := P) (s := s) (k := k) (f := f) (.inl (by ((try simp only [oo, reduceCtorEq] at *) <;> omega)))
                dsimp only
                rw [this]
                rfl
              · have h9 : P.outAt s.1 k = (f : Int) := by ((try simp only [oo, reduceCtorEq] at *) <;> omega)
                ((conv => whnf); repeat (refine And.intro rfl ?_; (conv => whnf)))
                refine ⟨by omega, ?_⟩
                ((conv => whnf); repeat (refine And.intro rfl ?_; (conv => whnf)))
                refine ⟨by decide, ?_⟩
                ((conv => whnf); repeat (refine And.intro rfl ?_; (conv => whnf)))
                have eb : ((s.2.2.fdiv (2 ^ min (k : Int).toNat IntKind.i64.bits)).tmod 2 == 1) = bitB s.2.2 k := rfl
                rw [eb]
                cases hb : bitB s.2.2 k
                · ((conv => whnf); repeat (refine And.intro rfl ?_; (conv => whnf)))
                  (refine .inl ⟨by (unfold InR; rw [IntKind.wrap_i64]; omega), ?_⟩; ((conv => whnf); repeat (refine And.intro rfl ?_; (conv => whnf))))
                  refine ⟨k + 1, by omega, by dsimp only; omega, leB_envH (by (repeat' (first | exact trivial | refine And.intro rfl ?_))) ?_⟩
                  have := ProcD.incs_miss (P := P) (s := s) (k := k) (f := f) (.inr hb)
                  dsimp only
                  rw [this]
                  rfl
                · have hh := ProcD.incs_hit h9 hb
                  ((conv => whnf); repeat (refine And.intro rfl ?_; (conv => whnf)))
                  (refine ⟨by omega, (by first | omega | (simp; done) | (simp; omega) | (simp only [ll]; omega)), ?_⟩; ((conv => whnf); repeat (refine And.intro rfl ?_; (conv => whnf))))
                  refine ⟨_, gl_atN f (by omega) (by omega), ?_⟩
                  ((conv => whnf); repeat (refine And.intro rfl ?_; (conv => whnf)))
                  rw [putA_self]
                  (refine .inl ⟨by (unfold InR; rw [IntKind.wrap_i64]; omega), ?_⟩; ((conv => whnf); repeat (refine And.intro rfl ?_; (conv => whnf))))
                  (refine ⟨by omega, (by first | omega | (simp; done) | (simp; omega) | (simp only [ll]; omega)), ?_⟩; ((conv => whnf); repeat (refine And.intro rfl ?_; (conv => whnf))))
                  refine ⟨_, gl_atN f (by omega) (by omega), ?_⟩
                  ((conv => whnf); repeat (refine And.intro rfl ?_; (conv => whnf)))
                  (refine .inl ⟨by (unfold InR; rw [IntKind.wrap_i64]; omega), ?_⟩; ((conv => whnf); repeat (refine And.intro rfl ?_; (conv => whnf))))
                  refine ⟨k + 1, by omega, by dsimp only; omega, leB_envH (by (repeat' (first | exact trivial | refine And.intro rfl ?_))) ?_⟩
                  dsimp only
                  rw [gl_set (k := f) (by omega), putA_put, hh, ← Int.add_assoc]
                  rfl
            have hk' : k = (P.outL s.1).length := by have : ¬ k < (P.outL s.1).length := by ((try simp only [oo, reduceCtorEq] at *) <;> omega)
                                                     omega
            subst hk'
            (refine ⟨by omega, (by first | omega | (simp; done) | (simp; omega) | (simp only [ll]; omega)), ?_⟩; ((conv => whnf); repeat (refine And.intro rfl ?_; (conv => whnf))))
            refine ⟨_, gl_atN f (by omega) (by omega), ?_⟩
            ((conv => whnf); repeat (refine And.intro rfl ?_; (conv => whnf)))
            rw [putA_self, show P.baseI M s f + P.incs s f (P.outL s.1).length = P.finI M s f from rfl]
            have eT : P.errTo M s (f + 1) = if 9 < P.finI M s f then 7 else P.errTo M s f := rfl
            have hnext : ∀ i, putA g f (P.finI M s f) i = if i < f + 1 then P.finI M s i else 0 := fun i => by
              by_cases e : i = f
              · subst e; rw [putA_self, if_pos (by omega)]
              · rw [putA_ne e, hg]
                by_cases q : i < f
                · rw [if_pos q, if_pos (by omega)]
                · rw [if_neg q, if_neg (by omega)]
            (refine ifK_split (fun h10 => ?_) (fun h10 => ?_) <;> (rw [h10]; ((conv => whnf); repeat (refine And.intro rfl ?_; (conv => whnf)))))
            · rw [if_pos (by ((try simp only [oo, reduceCtorEq] at *) <;> omega))] at eT
              (refine .inl ⟨by (unfold InR; rw [IntKind.wrap_i64]; omega), ?_⟩; ((conv => whnf); repeat (refine And.intro rfl ?_; (conv => whnf))))
              refine ⟨(f + 1, putA g f (P.finI M s f)), ⟨by omega, hnext⟩, by dsimp only; omega, leB_envH ⟨by simp only [eT]; rfl, by (repeat' (first | exact trivial | refine And.intro rfl ?_))⟩ rfl⟩
            · rw [if_neg (by ((try simp only [oo, reduceCtorEq] at *) <;> omega))] at eT
              (refine .inl ⟨by (unfold InR; rw [IntKind.wrap_i64]; omega), ?_⟩; ((conv => whnf); repeat (refine And.intro rfl ?_; (conv => whnf))))
              refine ⟨(f + 1, putA g f (P.finI M s f)), ⟨by omega, hnext⟩, by dsimp only; omega, leB_envH ⟨by simp only [eT]; rfl, by (repeat' (first | exact trivial | refine And.intro rfl ?_))⟩ rfl⟩
          · have eD : P.decB M s f = true := by rw [eD0]; exact h6
            rw [if_pos eD] at eBase
            ((conv => whnf); repeat (refine And.intro rfl ?_; (conv => whnf)))
            (refine ⟨by omega, (by first | omega | (simp; done) | (simp; omega) | (simp only [ll]; omega)), ?_⟩; ((conv => whnf); repeat (refine And.intro rfl ?_; (conv => whnf))))
            refine ⟨_, gl_atN f (by omega) (by omega), ?_⟩
            ((conv => whnf); repeat (refine And.intro rfl ?_; (conv => whnf)))
            rw [putA_self]
            (refine .inl ⟨by (unfold InR; rw [IntKind.wrap_i64]; omega), ?_⟩; ((conv => whnf); repeat (refine And.intro rfl ?_; (conv => whnf))))
            (refine ⟨by omega, (by first | omega | (simp; done) | (simp; omega) | (simp only [ll]; omega)), ?_⟩; ((conv => whnf); repeat (refine And.intro rfl ?_; (conv => whnf))))
            refine ⟨_, gl_atN f (by omega) (by omega), ?_⟩
            ((conv => whnf); repeat (refine And.intro rfl ?_; (conv => whnf)))
            rw [gl_set (k := f) (by omega), putA_put, ← eBase]
            refine pwp_for [1, 3, 5, 8, 9, 10, 11] (fun k : Nat => [(12, .sc (.int .i64 k))]) (fun k => [(2, .vec true 0 1 (i64s (gl P.flows.length (putA g f (P.baseI M s f + P.incs s f k)))))]) (fun k => k ≤ (P.outL s.1).length) (fun k => (P.outL s.1).length - k) 0 ?_
            ((conv => whnf); repeat (refine And.intro rfl ?_; (conv => whnf)))
            refine ⟨by omega, by (repeat' (first | exact trivial | refine And.intro rfl ?_)), by rw [show P.incs s f 0 = 0 from rfl, Int.add_zero]; rfl, ?_⟩
            rintro k hk
            ((conv => whnf); repeat (refine And.intro rfl ?_; (conv => whnf)))
            (apply red_sound; focus (repeat' (first | exact Red.skip | exact Red.ret | exact RedO.nil | exact RedD.nil | exact Red.exit _ | exact Red.loop _ | exact Red.stop _ | apply Red.ops | apply Red.draw | apply Red.seq | apply Red.cond | apply Red.block | apply RedO.cons | apply RedD.cons | exact (0 : Nat))))
            ((conv => whnf); repeat (refine And.intro rfl ?_; (conv => whnf)))
            rw [List.length_map]
            (refine ifK_split (fun h8 => ?_) (fun h8 => ?_) <;> (rw [h8]; ((conv => whnf); repeat (refine And.intro rfl ?_; (conv => whnf)))))
            · have hk' : k < (P.outL s.1).length := by ((try simp only [oo, reduceCtorEq] at *) <;> omega)
              have hoa := ProcD.outAt_ok (P := P) (n := s.1) hk'
              have b2 := ProcD.incs_ok P s f k
              refine ⟨by omega, _, intsD_at (k := k) (by omega) hk', ?_⟩
              ((conv => whnf); repeat (refine And.intro rfl ?_; (conv => whnf)))
              rw [show (P.outL s.1).getD k 0 = P.outAt s.1 k from rfl]
              cases h9 : (P.outAt s.1 k == (f : Int))
              · ((conv => whnf); repeat (refine And.intro rfl ?_; (conv => whnf)))
                (refine .inl ⟨by (unfold InR; rw [IntKind.wrap_i64]; omega), ?_⟩; ((conv => whnf); repeat (refine And.intro rfl ?_; (conv => whnf))))
                refine ⟨k + 1, by omega, by dsimp only; omega, leB_envH (by (repeat' (first | exact trivial | refine And.intro rfl ?_))) ?_⟩
                have := ProcD.incs_miss (P := P) (s := s) (k := k) (f := f) (.inl (by ((try simp only [oo, reduceCtorEq] at *) <;> omega)))
                dsimp only
                rw [this]
                rfl
              · have h9 : P.outAt s.1 k = (f : Int) := by ((try simp only [oo, reduceCtorEq] at *) <;> omega)
                ((conv => whnf); repeat (refine And.intro rfl ?_; (conv => whnf)))
                refine ⟨by omega, ?_⟩
                ((conv => whnf); repeat (refine And.intro rfl ?_; (conv => whnf)))
                refine ⟨by decide, ?_⟩
                ((conv => whnf); repeat (refine And.intro rfl ?_; (conv => whnf)))
                have eb : ((s.2.2.fdiv (2 ^ min (k : Int).toNat IntKind.i64.bits)).tmod 2 == 1) = bitB s.2.2 k := rfl
                rw [eb]
                cases hb : bitB s.2.2 k
                · ((conv => whnf); repeat (refine And.intro rfl ?_; (conv => whnf)))
                  (refine .inl ⟨by (unfold InR; rw [IntKind.wrap_i64]; omega), ?_⟩; ((conv => whnf); repeat (refine And.intro rfl ?_; (conv => whnf))))
                  refine ⟨k + 1, by omega, by dsimp only; omega, leB_envH (by (repeat' (first | exact trivial | refine And.intro rfl ?_))) ?_⟩
                  have := ProcD.incs_miss (P := P) (s := s) (k := k) (f := f) (.inr hb)
                  dsimp only
                  rw [this]
                  rfl
                · have hh := ProcD.incs_hit h9 hb
                  ((conv => whnf); repeat (refine And.intro rfl ?_; (conv => whnf)))
                  (refine ⟨by omega, (by first | omega | (simp; done) | (simp; omega) | (simp only [ll]; omega)), ?_⟩; ((conv => whnf); repeat (refine And.intro rfl ?_; (conv => whnf))))
                  refine ⟨_, gl_atN f (by omega) (by omega), ?_⟩
                  ((conv => whnf); repeat (refine And.intro rfl ?_; (conv => whnf)))
                  rw [putA_self]
                  (refine .inl ⟨by (unfold InR; rw [IntKind.wrap_i64]; omega), ?_⟩; ((conv => whnf); repeat (refine And.intro rfl ?_; (conv => whnf))))
                  (refine ⟨by omega, (by first | omega | (simp; done) | (simp; omega) | (simp only [ll]; omega)), ?_⟩; ((conv => whnf); repeat (refine And.intro rfl ?_; (conv => whnf))))
                  refine ⟨_, gl_atN f (by omega) (by omega), ?_⟩
                  ((conv => whnf); repeat (refine And.intro rfl ?_; (conv => whnf)))
                  (refine .inl ⟨by (unfold InR; rw [IntKind.wrap_i64]; omega), ?_⟩; ((conv => whnf); repeat (refine And.intro rfl ?_; (conv => whnf))))
                  refine ⟨k + 1, by omega, by dsimp only; omega, leB_envH (by (repeat' (first | exact trivial | refine And.intro rfl ?_))) ?_⟩
                  dsimp only
                  rw [gl_set (k := f) (by omega), putA_put, hh, ← Int.add_assoc]
                  rfl
            have hk' : k = (P.outL s.1).length := by have : ¬ k < (P.outL s.1).length := by ((try simp only [oo, reduceCtorEq] at *) <;> omega)
                                                     omega
            subst hk'
            (refine ⟨by omega, (by first | omega | (simp; done) | (simp; omega) | (simp only [ll]; omega)), ?_⟩; ((conv => whnf); repeat (refine And.intro rfl ?_; (conv => whnf))))
            refine ⟨_, gl_atN f (by omega) (by omega), ?_⟩
            ((conv => whnf); repeat (refine And.intro rfl ?_; (conv => whnf)))
            rw [putA_self, show P.baseI M s f + P.incs s f (P.outL s.1).length = P.finI M s f from rfl]
            have eT : P.errTo M s (f + 1) = if 9 < P.finI M s f then 7 else P.errTo M s f := rfl
            have hnext : ∀ i, putA g f (P.finI M s f) i = if i < f + 1 then P.finI M s i else 0 := fun i => by
              by_cases e : i = f
              · subst e; rw [putA_self, if_pos (by omega)]
              · rw [putA_ne e, hg]
                by_cases q : i < f
                · rw [if_pos q, if_pos (by omega)]
                · rw [if_neg q, if_neg (by omega)]
            (refine ifK_split (fun h10 => ?_) (fun h10 => ?_) <;> (rw [h10]; ((conv => whnf); repeat (refine And.intro rfl ?_; (conv => whnf)))))
            · rw [if_pos (by ((try simp only [oo, reduceCtorEq] at *) <;> omega))] at eT
              (refine .inl ⟨by (unfold InR; rw [IntKind.wrap_i64]; omega), ?_⟩; ((conv => whnf); repeat (refine And.intro rfl ?_; (conv => whnf))))
              refine ⟨(f + 1, putA g f (P.finI M s f)), ⟨by omega, hnext⟩, by dsimp only; omega, leB_envH ⟨by simp only [eT]; rfl, by (repeat' (first | exact trivial | refine And.intro rfl ?_))⟩ rfl⟩
            · rw [if_neg (by ((try simp only [oo, reduceCtorEq] at *) <;> omega))] at eT
              (refine .inl ⟨by (unfold InR; rw [IntKind.wrap_i64]; omega), ?_⟩; ((conv => whnf); repeat (refine And.intro rfl ?_; (conv => whnf))))
              refine ⟨(f + 1, putA g f (P.finI M s f)), ⟨by omega, hnext⟩, by dsimp only; omega, leB_envH ⟨by simp only [eT]; rfl, by (repeat' (first | exact trivial | refine And.intro rfl ?_))⟩ rfl⟩
      · have eD : P.decB M s f = true := by rw [eD0, h4]; rfl
        rw [if_pos eD] at eBase
        ((conv => whnf); repeat (refine And.intro rfl ?_; (conv => whnf)))
        (refine ⟨by omega, (by first | omega | (simp; done) | (simp; omega) | (simp only [ll]; omega)), ?_⟩; ((conv => whnf); repeat (refine And.intro rfl ?_; (conv => whnf))))
        refine ⟨_, gl_atN f (by omega) (by omega), ?_⟩
        ((conv => whnf); repeat (refine And.intro rfl ?_; (conv => whnf)))
        rw [putA_self]
        (refine .inl ⟨by (unfold InR; rw [IntKind.wrap_i64]; omega), ?_⟩; ((conv => whnf); repeat (refine And.intro rfl ?_; (conv => whnf))))
        (refine ⟨by omega, (by first | omega | (simp; done) | (simp; omega) | (simp only [ll]; omega)), ?_⟩; ((conv => whnf); repeat (refine And.intro rfl ?_; (conv => whnf))))
        refine ⟨_, gl_atN f (by omega) (by omega), ?_⟩
        ((conv => whnf); repeat (refine And.intro rfl ?_; (conv => whnf)))
        rw [gl_set (k := f) (by omega), putA_put, ← eBase]
        refine pwp_for [1, 3, 5, 8, 9, 10, 11] (fun k : Nat => [(12, .sc (.int .i64 k))]) (fun k => [(2, .vec true 0 1 (i64s (gl P.flows.length (putA g f (P.baseI M s f + P.incs s f k)))))]) (fun k => k ≤ (P.outL s.1).length) (fun k => (P.outL s.1).length - k) 0 ?_
        ((conv => whnf); repeat (refine And.intro rfl ?_; (conv => whnf)))
        refine ⟨by omega, by (repeat' (first | exact trivial | refine And.intro rfl ?_)), by rw [show P.incs s f 0 = 0 from rfl, Int.add_zero]; rfl, ?_⟩
        rintro k hk
        ((conv => whnf); repeat (refine And.intro rfl ?_; (conv => whnf)))
        (apply red_sound; focus (repeat' (first | exact Red.skip | exact Red.ret | exact RedO.nil | exact RedD.nil | exact Red.exit _ | exact Red.loop _ | exact Red.stop _ | apply Red.ops | apply Red.draw | apply Red.seq | apply Red.cond | apply Red.block | apply RedO.cons | apply RedD.cons | exact (0 : Nat))))
        ((conv => whnf); repeat (refine And.intro rfl ?_; (conv => whnf)))
        rw [List.length_map]
        (refine ifK_split (fun h8 => ?_) (fun h8 => ?_) <;> (rw [h8]; ((conv => whnf); repeat (refine And.intro rfl ?_; (conv => whnf)))))
        · have hk' : k < (P.outL s.1).length := by ((try simp only [oo, reduceCtorEq] at *) <;> omega)
          have hoa := ProcD.outAt_ok (P := P) (n := s.1) hk'
          have b2 := ProcD.incs_ok P s f k
          refine ⟨by omega, _, intsD_at (k := k) (by omega) hk', ?_⟩
          ((conv => whnf); repeat (refine And.intro rfl ?_; (conv => whnf)))
          rw [show (P.outL s.1).getD k 0 = P.outAt s.1 k from rfl]
          cases h9 : (P.outAt s.1 k == (f : Int))
          · ((conv => whnf); repeat (refine And.intro rfl ?_; (conv => whnf)))
            (refine .inl ⟨by (unfold InR; rw [IntKind.wrap_i64]; omega), ?_⟩; ((conv => whnf); repeat (refine And.intro rfl ?_; (conv => whnf))))
            refine ⟨k + 1, by omega, by dsimp only; omega, leB_envH (by (repeat' (first | exact trivial | refine And.intro rfl ?_))) ?_⟩
            have := ProcD.incs_miss (P := P) (s := s) (k := k) (f := f) (.inl (by ((try simp only [oo, reduceCtorEq] at *) <;> omega)))
            dsimp only
            rw [this]
            rfl
          · have h9 : P.outAt s.1 k = (f : Int) := by ((try simp only [oo, reduceCtorEq] at *) <;> omega)
            ((conv => whnf); repeat (refine And.intro rfl ?_; (conv => whnf)))
            refine ⟨by omega, ?_⟩
            ((conv => whnf); repeat (refine And.intro rfl ?_; (conv => whnf)))
            refine ⟨by decide, ?_⟩
            ((conv => whnf); repeat (refine And.intro rfl ?_; (conv => whnf)))
            have eb : ((s.2.2.fdiv (2 ^ min (k : Int).toNat IntKind.i64.bits)).tmod 2 == 1) = bitB s.2.2 k := rfl
            rw [eb]
            cases hb : bitB s.2.2 k
            · ((conv => whnf); repeat (refine And.intro rfl ?_; (conv => whnf)))
              (refine .inl ⟨by (unfold InR; rw [IntKind.wrap_i64]; omega), ?_⟩; ((conv => whnf); repeat (refine And.intro rfl ?_; (conv => whnf))))
              refine ⟨k + 1, by omega, by dsimp only; omega, leB_envH (by (repeat' (first | exact trivial | refine And.intro rfl ?_))) ?_⟩
              have := ProcD.incs_miss (P := P) (s := s) (k := k) (f := f) (.inr hb)
              dsimp only
              rw [this]
              rfl
            · have hh := ProcD.incs_hit h9 hb
              ((conv => whnf); repeat (refine And.intro rfl ?_; (conv => whnf)))
              (refine ⟨by omega, (by first | omega | (simp; done) | (simp; omega) | (simp only [ll]; omega)), ?_⟩; ((conv => whnf); repeat (refine And.intro rfl ?_; (conv => whnf))))
              refine ⟨_, gl_atN f (by omega) (by omega), ?_⟩
              ((conv => whnf); repeat (refine And.intro rfl ?_; (conv => whnf)))
              rw [putA_self]
              (refine .inl ⟨by (unfold InR; rw [IntKind.wrap_i64]; omega), ?_⟩; ((conv => whnf); repeat (refine And.intro rfl ?_; (conv => whnf))))
              (refine ⟨by omega, (by first | omega | (simp; done) | (simp; omega) | (simp only [ll]; omega)), ?_⟩; ((conv => whnf); repeat (refine And.intro rfl ?_; (conv => whnf))))
              refine ⟨_, gl_atN f (by omega) (by omega), ?_⟩
              ((conv => whnf); repeat (refine And.intro rfl ?_; (conv => whnf)))
              (refine .inl ⟨by (unfold InR; rw [IntKind.wrap_i64]; omega), ?_⟩; ((conv => whnf); repeat (refine And.intro rfl ?_; (conv => whnf))))
              refine ⟨k + 1, by omega, by dsimp only; omega, leB_envH (by (repeat' (first | exact trivial | refine And.intro rfl ?_))) ?_⟩
              dsimp only
              rw [gl_set (k := f) (by omega), putA_put, hh, ← Int.add_assoc]
              rfl
        have hk' : k = (P.outL s.1).length := by have : ¬ k < (P.outL s.1).length := by ((try simp only [oo, reduceCtorEq] at *) <;> omega)
                                                 omega
        subst hk'
        (refine ⟨by omega, (by first | omega | (simp; done) | (simp; omega) | (simp only [ll]; omega)), ?_⟩; ((conv => whnf); repeat (refine And.intro rfl ?_; (conv => whnf))))
        refine ⟨_, gl_atN f (by omega) (by omega), ?_⟩
        ((conv => whnf); repeat (refine And.intro rfl ?_; (conv => whnf)))
        rw [putA_self, show P.baseI M s f + P.incs s f (P.outL s.1).length = P.finI M s f from rfl]
        have eT : P.errTo M s (f + 1) = if 9 < P.finI M s f then 7 else P.errTo M s f := rfl
        have hnext : ∀ i, putA g f (P.finI M s f) i = if i < f + 1 then P.finI M s i else 0 := fun i => by
          by_cases e : i = f
          · subst e; rw [putA_self, if_pos (by omega)]
          · rw [putA_ne e, hg]
            by_cases q : i < f
            · rw [if_pos q, if_pos (by omega)]
            · rw [if_neg q, if_neg (by omega)]
        (refine ifK_split (fun h10 => ?_) (fun h10 => ?_) <;> (rw [h10]; ((conv => whnf); repeat (refine And.intro rfl ?_; (conv => whnf)))))
        · rw [if_pos (by ((try simp only [oo, reduceCtorEq] at *) <;> omega))] at eT
          (refine .inl ⟨by (unfold InR; rw [IntKind.wrap_i64]; omega), ?_⟩; ((conv => whnf); repeat (refine And.intro rfl ?_; (conv => whnf))))
          refine ⟨(f + 1, putA g f (P.finI M s f)), ⟨by omega, hnext⟩, by dsimp only; omega, leB_envH ⟨by simp only [eT]; rfl, by (repeat' (first | exact trivial | refine And.intro rfl ?_))⟩ rfl⟩
        · rw [if_neg (by ((try simp only [oo, reduceCtorEq] at *) <;> omega))] at eT
          (refine .inl ⟨by (unfold InR; rw [IntKind.wrap_i64]; omega), ?_⟩; ((conv => whnf); repeat (refine And.intro rfl ?_; (conv => whnf))))
          refine ⟨(f + 1, putA g f (P.finI M s f)), ⟨by omega, hnext⟩, by dsimp only; omega, leB_envH ⟨by simp only [eT]; rfl, by (repeat' (first | exact trivial | refine And.intro rfl ?_))⟩ rfl⟩
  have hf' : f = P.flows.length := by have : ¬ f < P.flows.length := by ((try simp only [oo, reduceCtorEq] at *) <;> omega)
                                      omega
  subst hf'
  rcases errTo_spec (P := P) (M := M) (s := s) P.flows.length with ⟨q1, q2⟩ | ⟨q1, q2⟩
  · rw [if_pos q2] at eE
    rw [eE] at eL
    rw [q1, eE, eL]
    ((conv => whnf); repeat (refine And.intro rfl ?_; (conv => whnf)))
    exact .tup _ _ (.cons _ _ _ _ (.none _) (.cons _ _ _ _ (.refl _) .nil))
  · rw [if_neg (by rintro ⟨i, h1, h2⟩; exact q2 i h1 h2)] at eE
    rw [eE, if_pos rfl] at eL
    have e : gl P.flows.length (P.finI M s) = gl P.flows.length g := gl_congr fun i hi => by rw [hg, if_pos hi]
    rw [q1, eE, eL, e]
    ((conv => whnf); repeat (refine And.intro rfl ?_; (conv => whnf)))
    exact .tup _ _ (.cons _ _ _ _ (deep_gl rfl) (.cons _ _ _ _ (.refl _) .nil))
end Go.Proofs.Ytikdngjdhncioaa
