/-
  Tokens: the reference's Begin, Mark, May and Enabled, over deep values. No statement is proved here.
-/
import Derived.Test.YtikdngjdhncioaaGa6
import Derived.Test.YtikdngjdhncioaaGa2
namespace Go.Proofs.Ytikdngjdhncioaa
open Go.RowKit
set_option linter.unusedSimpArgs false
set_option linter.unusedVariables false
def c20_1 : PC := .seq (.seq (.ops [⟨(some 9), .move (.tmp 4), none, 0⟩,
    ⟨(some 10), .move (.tmp 3), none, 0⟩,
    ⟨(some 11), .len (.tmp 10), none, 0⟩,
    ⟨(some 12), .bin .lss (.tmp 9) (.tmp 11), none, 0⟩] false) (.cond (.tmp 12) (.skip) (.exit 0))) (.seq (.block 1 (.seq (.ops [⟨(some 15), .faddr 0 (.tmp 1), none, 0⟩,
    ⟨(some 16), .load1 (.tmp 15), none, 1⟩,
    ⟨(some 17), .faddr 1 (.tmp 1), none, 0⟩,
    ⟨(some 18), .load1 (.tmp 17), none, 4⟩,
    ⟨(some 19), .move (.tmp 4), none, 0⟩,
    ⟨(some 20), .iaddr 2 (.tmp 18) (.tmp 19), none, 28⟩,
    ⟨(some 21), .faddr 0 (.tmp 20), none, 60⟩,
    ⟨(some 22), .load1 (.tmp 21), none, 124⟩,
    ⟨(some 23), .iaddr 2 (.tmp 16) (.tmp 22), none, 255⟩,
    ⟨(some 24), .faddr 1 (.tmp 23), none, 511⟩,
    ⟨(some 25), .load1 (.tmp 24), none, 1023⟩,
    ⟨(some 26), .bin .eql (.tmp 25) (.const (.int .i64 1)), none, 2047⟩] true) (.cond (.tmp 26) (.ops [⟨(some 27), .move (.tmp 3), none, 0⟩,
    ⟨(some 28), .move (.tmp 4), none, 0⟩,
    ⟨(some 29), .iaddr 1 (.tmp 27) (.tmp 28), none, 0⟩,
    ⟨none, .store 1 (.tmp 29) (.const (.int .i64 1)), none, 0⟩] false) (.skip)))) (.ops [⟨(some 13), .move (.tmp 4), none, 0⟩,
    ⟨(some 14), .bin .add (.tmp 13) (.const (.int .i64 1)), none, 0⟩,
    ⟨(some 4), .move (.tmp 14), none, 0⟩] false))
def c20 : PC := .seq (.ops [⟨(some 1), .box (.tmp 0), none, 0⟩,
    ⟨(some 2), .move (.const (.slice none 0 0)), none, 0⟩] false) (.seq (.ops [⟨(some 5), .faddr 1 (.tmp 1), none, 0⟩,
    ⟨(some 6), .load1 (.tmp 5), none, 0⟩,
    ⟨(some 7), .len (.tmp 6), none, 0⟩,
    ⟨(some 8), .mslice 1 8 [(.int .i64 0)] (.tmp 7) (.tmp 7), none, 0⟩,
    ⟨(some 3), .move (.tmp 8), none, 0⟩] false) (.seq (.seq (.ops [⟨(some 4), .move (.const (.int .i64 0)), none, 0⟩] false) (.block 0 (.loop c20_1))) (.seq (.ops [⟨(some 30), .move (.tmp 3), none, 0⟩,
    ⟨(some 2), .move (.tmp 30), none, 0⟩] false) (.ret))))
set_option maxRecDepth 100000 in
theorem c20_ok : FunOK Try.prog 20 31 [.tmp 2] c20 := ⟨⟨Try.f20, Try.func20, rfl, by kernel_rfl, rfl, by kernel_rfl⟩⟩
set_option maxRecDepth 100000 in
theorem ref_Begin (P : ProcD) (hP : P.Fits) (h1 : P.stepsE = 0) : PCall Try.prog 20 [dproc P] (dints P.beginL) := by
  obtain ⟨h0, _, _⟩ := ProcD.stepsE_zero h1
  obtain ⟨hs1, hs2⟩ := chk_small h0
  have eB : P.beginL = gl P.flows.length (begG P) := by unfold ProcD.beginL; rw [if_pos h1]
  refine pcall_intro c20_ok (by simp) (by simp [PureL, Pure, pure_dproc]) ?_ (pure_dints _)
  (apply red_sound; focus (repeat' (first | exact Red.skip | exact Red.ret | exact RedO.nil | exact RedD.nil | exact Red.exit _ | exact Red.loop _ | exact Red.stop _ | apply Red.ops | apply Red.draw | apply Red.seq | apply Red.cond | apply Red.block | apply RedO.cons | apply RedD.cons | exact (0 : Nat))))
  ((conv => whnf); repeat (refine And.intro rfl ?_; (conv => whnf)))
  rw [List.length_map, eB]
  refine ⟨by omega, by omega, by omega, ?_⟩
  rw [Int.toNat_natCast, show List.map D.sc [Value.int .i64 0] = [D.sc (.int .i64 0)] from rfl, gl_rep]
  ((conv => whnf); repeat (refine And.intro rfl ?_; (conv => whnf)))
  refine pwp_for [1, 3] (fun ((k, g) : Nat × (Nat → Int)) => [(4, .sc (.int .i64 k))]) (fun (k, g) => [(1, .vec true 0 1 (i64s (gl P.flows.length g)))]) (fun (k, g) => k ≤ P.flows.length ∧ ∀ i, g i = if i < k then begG P i else 0) (fun (k, g) => P.flows.length - k) (0, fun _ => 0) ?_
  ((conv => whnf); repeat (refine And.intro rfl ?_; (conv => whnf)))
  refine ⟨⟨by omega, fun i => rfl⟩, by (repeat' (first | exact trivial | refine And.intro rfl ?_)), rfl, ?_⟩
  rintro ⟨k, g⟩ ⟨hk, hg⟩
  ((conv => whnf); repeat (refine And.intro rfl ?_; (conv => whnf)))
  (apply red_sound; focus (repeat' (first | exact Red.skip | exact Red.ret | exact RedO.nil | exact RedD.nil | exact Red.exit _ | exact Red.loop _ | exact Red.stop _ | apply Red.ops | apply Red.draw | apply Red.seq | apply Red.cond | apply Red.block | apply RedO.cons | apply RedD.cons | exact (0 : Nat))))
  ((conv => whnf); repeat (refine And.intro rfl ?_; (conv => whnf)))
  (refine ifK_split (fun h2 => ?_) (fun h2 => ?_) <;> (rw [h2]; ((conv => whnf); repeat (refine And.intro rfl ?_; (conv => whnf)))))
  · have hk' : k < P.flows.length := by ((try simp only [oo, reduceCtorEq] at *) <;> omega)
    have hfk := ProcD.flowOK_iff.1 (flowOK_of h0 k hk')
    refine ⟨by omega, _, flow_at P (k := k) (by omega) hk', ?_⟩
    ((conv => whnf); repeat (refine And.intro rfl ?_; (conv => whnf)))
    refine ⟨by omega, _, node_at P (k := (P.src k).toNat) (by omega) (by omega), ?_⟩
    ((conv => whnf); repeat (refine And.intro rfl ?_; (conv => whnf)))
    (refine ifK_split (fun h3 => ?_) (fun h3 => ?_) <;> (rw [h3]; ((conv => whnf); repeat (refine And.intro rfl ?_; (conv => whnf)))))
    · have h3 : P.kind (P.src k).toNat = 1 := by ((try simp only [oo, reduceCtorEq] at *) <;> omega)
      (refine ⟨by omega, (by first | omega | (simp; done) | (simp; omega) | (simp only [ll]; omega)), ?_⟩; ((conv => whnf); repeat (refine And.intro rfl ?_; (conv => whnf))))
      refine ⟨_, gl_atN k (by omega) (by omega), ?_⟩
      ((conv => whnf); repeat (refine And.intro rfl ?_; (conv => whnf)))
      (refine .inl ⟨by (unfold InR; rw [IntKind.wrap_i64]; omega), ?_⟩; ((conv => whnf); repeat (refine And.intro rfl ?_; (conv => whnf))))
      refine ⟨(k + 1, putA g k 1), ⟨by omega, fun i => ?_⟩, by dsimp only; omega, leB_envH (by (repeat' (first | exact trivial | refine And.intro rfl ?_))) (by rw [gl_set (k := k) (by omega)]; rfl)⟩
      by_cases e : i = k
      · subst e
        rw [putA_self, if_pos (by omega)]
        unfold begG
        rw [if_pos h3]
      · rw [putA_ne e, hg]
        by_cases q : i < k
        · rw [if_pos q, if_pos (by omega)]
        · rw [if_neg q, if_neg (by omega)]
    · have h3 : P.kind (P.src k).toNat ≠ 1 := by ((try simp only [oo, reduceCtorEq] at *) <;> omega)
      (refine .inl ⟨by (unfold InR; rw [IntKind.wrap_i64]; omega), ?_⟩; ((conv => whnf); repeat (refine And.intro rfl ?_; (conv => whnf))))
      refine ⟨(k + 1, g), ⟨by omega, fun i => ?_⟩, by dsimp only; omega, leB_envH (by (repeat' (first | exact trivial | refine And.intro rfl ?_))) rfl⟩
      rw [hg]
      by_cases e : i = k
      · subst e
        rw [if_neg (by omega), if_pos (by omega)]
        unfold begG
        rw [if_neg h3]
      · by_cases q : i < k
        · rw [if_pos q, if_pos (by omega)]
        · rw [if_neg q, if_neg (by omega)]
  · have hk' : k = P.flows.length := by have : ¬ k < P.flows.length := by ((try simp only [oo, reduceCtorEq] at *) <;> omega)
                                        omega
    subst hk'
    have e : gl P.flows.length (begG P) = gl P.flows.length g := gl_congr fun i hi => by rw [hg, if_pos hi]
    rw [e]
    exact deep_gl rfl
def c51_1 : PC := .seq (.seq (.ops [⟨(some 26), .move (.tmp 10), none, 0⟩,
    ⟨(some 27), .move (.tmp 7), none, 0⟩,
    ⟨(some 28), .len (.tmp 27), none, 0⟩,
    ⟨(some 29), .bin .lss (.tmp 26) (.tmp 28), none, 0⟩] false) (.cond (.tmp 29) (.skip) (.exit 0))) (.seq (.block 1 (.seq (.ops [⟨(some 32), .move (.tmp 8), none, 0⟩,
    ⟨(some 33), .move (.tmp 32), none, 0⟩,
    ⟨(some 34), .move (.tmp 1), (some (33, false)), 0⟩,
    ⟨(some 35), .move (.tmp 7), (some (33, false)), 0⟩,
    ⟨(some 36), .move (.tmp 10), (some (33, false)), 0⟩,
    ⟨(some 37), .iaddr 1 (.tmp 35) (.tmp 36), (some (33, false)), 0⟩,
    ⟨(some 38), .load1 (.tmp 37), (some (33, false)), 0⟩,
    ⟨(some 39), .iaddr 1 (.tmp 34) (.tmp 38), (some (33, false)), 0⟩,
    ⟨(some 40), .load1 (.tmp 39), (some (33, false)), 0⟩,
    ⟨(some 41), .bin .gtr (.tmp 40) (.const (.int .i64 0)), (some (33, false)), 0⟩,
    ⟨(some 42), .pick (.tmp 33) (.const (.bool true)) (.tmp 41), none, 0⟩,
    ⟨(some 8), .move (.tmp 42), none, 0⟩] false) (.ops [⟨(some 43), .move (.tmp 9), none, 0⟩,
    ⟨(some 44), .move (.tmp 43), none, 0⟩,
    ⟨(some 45), .move (.tmp 1), (some (44, true)), 0⟩,
    ⟨(some 46), .move (.tmp 7), (some (44, true)), 0⟩,
    ⟨(some 47), .move (.tmp 10), (some (44, true)), 0⟩,
    ⟨(some 48), .iaddr 1 (.tmp 46) (.tmp 47), (some (44, true)), 0⟩,
    ⟨(some 49), .load1 (.tmp 48), (some (44, true)), 0⟩,
    ⟨(some 50), .iaddr 1 (.tmp 45) (.tmp 49), (some (44, true)), 0⟩,
    ⟨(some 51), .load1 (.tmp 50), (some (44, true)), 0⟩,
    ⟨(some 52), .bin .gtr (.tmp 51) (.const (.int .i64 0)), (some (44, true)), 0⟩,
    ⟨(some 53), .pick (.tmp 44) (.tmp 52) (.const (.bool false)), none, 0⟩,
    ⟨(some 9), .move (.tmp 53), none, 0⟩] false))) (.ops [⟨(some 30), .move (.tmp 10), none, 0⟩,
    ⟨(some 31), .bin .add (.tmp 30) (.const (.int .i64 1)), none, 0⟩,
    ⟨(some 10), .move (.tmp 31), none, 0⟩] false))
def c51_3 : PC := .seq (.seq (.ops [⟨(some 69), .move (.tmp 12), none, 0⟩,
    ⟨(some 70), .move (.tmp 1), none, 0⟩,
    ⟨(some 71), .len (.tmp 70), none, 0⟩,
    ⟨(some 72), .bin .lss (.tmp 69) (.tmp 71), none, 0⟩] false) (.cond (.tmp 72) (.skip) (.exit 4))) (.seq (.block 5 (.seq (.ops [⟨(some 75), .move (.tmp 1), none, 0⟩,
    ⟨(some 76), .move (.tmp 7), none, 0⟩,
    ⟨(some 77), .move (.tmp 11), none, 0⟩,
    ⟨(some 78), .iaddr 1 (.tmp 76) (.tmp 77), none, 6⟩,
    ⟨(some 79), .load1 (.tmp 78), none, 14⟩,
    ⟨(some 80), .iaddr 1 (.tmp 75) (.tmp 79), none, 31⟩,
    ⟨(some 81), .load1 (.tmp 80), none, 63⟩,
    ⟨(some 82), .bin .eql (.tmp 81) (.const (.int .i64 0)), none, 127⟩,
    ⟨(some 83), .move (.tmp 82), none, 255⟩,
    ⟨(some 84), .move (.tmp 1), (some (83, true)), 511⟩,
    ⟨(some 85), .move (.tmp 12), (some (83, true)), 511⟩,
    ⟨(some 86), .iaddr 1 (.tmp 84) (.tmp 85), (some (83, true)), 2047⟩,
    ⟨(some 87), .load1 (.tmp 86), (some (83, true)), 4095⟩,
    ⟨(some 88), .bin .gtr (.tmp 87) (.const (.int .i64 0)), (some (83, true)), 8191⟩,
    ⟨(some 89), .pick (.tmp 83) (.tmp 88) (.const (.bool false)), none, 16383⟩,
    ⟨(some 90), .move (.tmp 89), none, 32767⟩,
    ⟨(some 91), .loadA 2 (.tmp 3), (some (90, true)), 65535⟩,
    ⟨(some 92), .move (.tmp 12), (some (90, true)), 65535⟩,
    ⟨(some 93), .move (.tmp 7), (some (90, true)), 65535⟩,
    ⟨(some 94), .move (.tmp 11), (some (90, true)), 65535⟩,
    ⟨(some 95), .iaddr 1 (.tmp 93) (.tmp 94), (some (90, true)), 851967⟩,
    ⟨(some 96), .load1 (.tmp 95), (some (90, true)), 1900543⟩,
    ⟨(some 97), .faddr 0 (.tmp 5), (some (90, true)), 65535⟩,
    ⟨(some 98), .load1 (.tmp 97), (some (90, true)), 4259839⟩,
    ⟨(some 99), .call 71 [(.tmp 91), (.tmp 92), (.tmp 96), (.tmp 98)], (some (90, true)), 16777215⟩,
    ⟨(some 100), .pick (.tmp 90) (.tmp 99) (.const (.bool false)), none, 33554431⟩] true) (.cond (.tmp 100) (.seq (.ops [⟨(some 6), .move (.const (.bool false)), none, 0⟩] false) (.ret)) (.skip)))) (.ops [⟨(some 73), .move (.tmp 12), none, 0⟩,
    ⟨(some 74), .bin .add (.tmp 73) (.const (.int .i64 1)), none, 0⟩,
    ⟨(some 12), .move (.tmp 74), none, 0⟩] false))
def c51_2 : PC := .seq (.seq (.ops [⟨(some 63), .move (.tmp 11), none, 0⟩,
    ⟨(some 64), .move (.tmp 7), none, 0⟩,
    ⟨(some 65), .len (.tmp 64), none, 0⟩,
    ⟨(some 66), .bin .lss (.tmp 63) (.tmp 65), none, 0⟩] false) (.cond (.tmp 66) (.skip) (.exit 2))) (.seq (.block 3 (.seq (.ops [⟨(some 12), .move (.const (.int .i64 0)), none, 0⟩] false) (.block 4 (.loop c51_3)))) (.ops [⟨(some 67), .move (.tmp 11), none, 0⟩,
    ⟨(some 68), .bin .add (.tmp 67) (.const (.int .i64 1)), none, 0⟩,
    ⟨(some 11), .move (.tmp 68), none, 0⟩] false))
def c51 : PC := .seq (.ops [⟨(some 3), .box (.tmp 0), none, 0⟩,
    ⟨(some 5), .box (.tmp 2), none, 0⟩,
    ⟨(some 6), .move (.const (.bool false)), none, 0⟩] false) (.seq (.seq (.ops [⟨(some 13), .faddr 1 (.tmp 5), none, 0⟩,
    ⟨(some 14), .load1 (.tmp 13), none, 0⟩,
    ⟨(some 15), .bin .geq (.tmp 14) (.const (.int .i64 0)), none, 0⟩] false) (.cond (.tmp 15) (.seq (.ops [⟨(some 16), .move (.tmp 1), none, 0⟩,
    ⟨(some 17), .faddr 1 (.tmp 5), none, 0⟩,
    ⟨(some 18), .load1 (.tmp 17), none, 0⟩,
    ⟨(some 19), .iaddr 1 (.tmp 16) (.tmp 18), none, 0⟩,
    ⟨(some 20), .load1 (.tmp 19), none, 0⟩,
    ⟨(some 21), .bin .gtr (.tmp 20) (.const (.int .i64 0)), none, 0⟩,
    ⟨(some 6), .move (.tmp 21), none, 0⟩] false) (.ret)) (.skip))) (.seq (.ops [⟨(some 22), .loadA 2 (.tmp 3), none, 0⟩,
    ⟨(some 23), .faddr 0 (.tmp 5), none, 0⟩,
    ⟨(some 24), .load1 (.tmp 23), none, 0⟩,
    ⟨(some 25), .call 49 [(.tmp 22), (.tmp 24)], none, 0⟩,
    ⟨(some 7), .move (.tmp 25), none, 0⟩] false) (.seq (.ops [⟨(some 8), .move (.const (.bool false)), none, 0⟩,
    ⟨(some 9), .move (.const (.bool true)), none, 0⟩] false) (.seq (.seq (.ops [⟨(some 10), .move (.const (.int .i64 0)), none, 0⟩] false) (.block 0 (.loop c51_1))) (.seq (.seq (.ops [⟨(some 54), .faddr 0 (.tmp 3), none, 0⟩,
    ⟨(some 55), .load1 (.tmp 54), none, 0⟩,
    ⟨(some 56), .faddr 0 (.tmp 5), none, 0⟩,
    ⟨(some 57), .load1 (.tmp 56), none, 0⟩,
    ⟨(some 58), .iaddr 2 (.tmp 55) (.tmp 57), none, 0⟩,
    ⟨(some 59), .faddr 1 (.tmp 58), none, 0⟩,
    ⟨(some 60), .load1 (.tmp 59), none, 0⟩,
    ⟨(some 61), .bin .eql (.tmp 60) (.const (.int .i64 6)), none, 0⟩] false) (.cond (.tmp 61) (.seq (.ops [⟨(some 62), .move (.tmp 9), none, 0⟩,
    ⟨(some 6), .move (.tmp 62), none, 0⟩] false) (.ret)) (.skip))) (.seq (.seq (.ops [⟨(some 11), .move (.const (.int .i64 0)), none, 0⟩] false) (.block 2 (.loop c51_2))) (.seq (.ops [⟨(some 101), .move (.tmp 8), none, 0⟩,
    ⟨(some 6), .move (.tmp 101), none, 0⟩] false) (.ret))))))))
set_option maxRecDepth 100000 in
theorem c51_ok : FunOK Try.prog 51 102 [.tmp 6] c51 := ⟨⟨Try.f51, Try.func51, rfl, by kernel_rfl, rfl, by kernel_rfl⟩⟩
set_option maxRecDepth 100000 in
theorem ref_May (P : ProcD) (hP : P.Fits) (h0 : P.chk = 0) (M : List Int) (hM : P.Mark M) (s : StepD) (hs : P.StepOK s) :
    PCall Try.prog 51 [dproc P, dints M, .agg (srow s)] (.sc (.bool (P.mayB M s))) := by
  obtain ⟨hs1, hs2⟩ := chk_small h0
  have hn := hs.node
  have hin := hs.in_
  have l1 := P.inL_len s.1
  have lM := hM.len
  refine pcall_intro c51_ok (by simp) (by simp [PureL, Pure, pure_dproc, pure_dints, pure_srow]) ?_ (by simp [Pure])
  have e : P.mayB M s = if 0 ≤ s.2.1 then decide (0 < val M s.2.1.toNat) else if P.kind s.1.toNat = 7 then P.joinB M s.1 else P.allTo M s.1 (P.inL s.1).length := rfl
  (apply red_sound; focus (repeat' (first | exact Red.skip | exact Red.ret | exact RedO.nil | exact RedD.nil | exact Red.exit _ | exact Red.loop _ | exact Red.stop _ | apply Red.ops | apply Red.draw | apply Red.seq | apply Red.cond | apply Red.block | apply RedO.cons | apply RedD.cons | exact (0 : Nat))))
  ((conv => whnf); repeat (refine And.intro rfl ?_; (conv => whnf)))
  (refine ifK_split (fun h1 => ?_) (fun h1 => ?_) <;> (rw [h1]; ((conv => whnf); repeat (refine And.intro rfl ?_; (conv => whnf)))))
  · have h1 : 0 ≤ s.2.1 := by ((try simp only [oo, reduceCtorEq] at *) <;> omega)
    rw [if_pos h1] at e
    refine ⟨by omega, _, val_at (k := s.2.1.toNat) (by omega) (by omega), ?_⟩
    ((conv => whnf); repeat (refine And.intro rfl ?_; (conv => whnf)))
    rw [e]
    exact .refl _
  have h1 : ¬ 0 ≤ s.2.1 := by ((try simp only [oo, reduceCtorEq] at *) <;> omega)
  have hkind := hs.kind (by omega)
  rw [if_neg h1] at e
  (refine .inl ⟨_, (ref_FlowsIn P hP (by omega) s.1), ?_⟩; ((conv => whnf); repeat (refine And.intro rfl ?_; (conv => whnf))))
  refine pwp_for [1, 3, 5, 7] (fun a : Nat => [(8, .sc (.bool (P.posTo M s.1 a))), (9, .sc (.bool (P.allTo M s.1 a))), (10, .sc (.int .i64 a))]) (fun _ => []) (fun a => a ≤ (P.inL s.1).length) (fun a => (P.inL s.1).length - a) 0 ?_
  ((conv => whnf); repeat (refine And.intro rfl ?_; (conv => whnf)))
  refine ⟨by omega, by (repeat' (first | exact trivial | refine And.intro rfl ?_)), rfl, ?_⟩
  rintro a ha
  ((conv => whnf); repeat (refine And.intro rfl ?_; (conv => whnf)))
  (apply red_sound; focus (repeat' (first | exact Red.skip | exact Red.ret | exact RedO.nil | exact RedD.nil | exact Red.exit _ | exact Red.loop _ | exact Red.stop _ | apply Red.ops | apply Red.draw | apply Red.seq | apply Red.cond | apply Red.block | apply RedO.cons | apply RedD.cons | exact (0 : Nat))))
  ((conv => whnf); repeat (refine And.intro rfl ?_; (conv => whnf)))
  rw [List.length_map]
  (refine ifK_split (fun h2 => ?_) (fun h2 => ?_) <;> (rw [h2]; ((conv => whnf); repeat (refine And.intro rfl ?_; (conv => whnf)))))
  · have ha' : a < (P.inL s.1).length := by ((try simp only [oo, reduceCtorEq] at *) <;> omega)
    have hia := ProcD.inAt_ok (P := P) (n := s.1) ha'
    have ep : P.posTo M s.1 (a + 1) = (P.posTo M s.1 a || decide (0 < val M (P.inAt s.1 a).toNat)) := rfl
    have el : P.allTo M s.1 (a + 1) = (P.allTo M s.1 a && decide (0 < val M (P.inAt s.1 a).toNat)) := rfl
    have rd : (P.inL s.1).getD a 0 = P.inAt s.1 a := rfl
    cases hp : P.posTo M s.1 a <;> cases hq : P.allTo M s.1 a <;> rw [hp] at ep <;> rw [hq] at el <;> ((conv => whnf); repeat (refine And.intro rfl ?_; (conv => whnf)))
    · refine ⟨by omega, _, intsD_at (k := a) (by omega) ha', ?_⟩
      ((conv => whnf); repeat (refine And.intro rfl ?_; (conv => whnf)))
      rw [rd]
      refine ⟨by omega, _, val_at (k := (P.inAt s.1 a).toNat) (by omega) (by omega), ?_⟩
      ((conv => whnf); repeat (refine And.intro rfl ?_; (conv => whnf)))
      (refine .inl ⟨by (unfold InR; rw [IntKind.wrap_i64]; omega), ?_⟩; ((conv => whnf); repeat (refine And.intro rfl ?_; (conv => whnf))))
      exact ⟨a + 1, by omega, by dsimp only; omega, leB_envH ⟨by simp only [ep, Bool.false_or]; rfl, by simp only [el, Bool.false_and]; rfl, by (repeat' (first | exact trivial | refine And.intro rfl ?_))⟩ rfl⟩
    · refine ⟨by omega, _, intsD_at (k := a) (by omega) ha', ?_⟩
      ((conv => whnf); repeat (refine And.intro rfl ?_; (conv => whnf)))
      rw [rd]
      refine ⟨by omega, _, val_at (k := (P.inAt s.1 a).toNat) (by omega) (by omega), ?_⟩
      ((conv => whnf); repeat (refine And.intro rfl ?_; (conv => whnf)))
      refine ⟨by omega, _, intsD_at (k := a) (by omega) ha', ?_⟩
      ((conv => whnf); repeat (refine And.intro rfl ?_; (conv => whnf)))
      rw [rd]
      refine ⟨by omega, _, val_at (k := (P.inAt s.1 a).toNat) (by omega) (by omega), ?_⟩
      ((conv => whnf); repeat (refine And.intro rfl ?_; (conv => whnf)))
      (refine .inl ⟨by (unfold InR; rw [IntKind.wrap_i64]; omega), ?_⟩; ((conv => whnf); repeat (refine And.intro rfl ?_; (conv => whnf))))
      exact ⟨a + 1, by omega, by dsimp only; omega, leB_envH ⟨by simp only [ep, Bool.false_or]; rfl, by simp only [el, Bool.true_and]; rfl, by (repeat' (first | exact trivial | refine And.intro rfl ?_))⟩ rfl⟩
    · (refine .inl ⟨by (unfold InR; rw [IntKind.wrap_i64]; omega), ?_⟩; ((conv => whnf); repeat (refine And.intro rfl ?_; (conv => whnf))))
      exact ⟨a + 1, by omega, by dsimp only; omega, leB_envH ⟨by simp only [ep, Bool.true_or]; rfl, by simp only [el, Bool.false_and]; rfl, by (repeat' (first | exact trivial | refine And.intro rfl ?_))⟩ rfl⟩
    · refine ⟨by omega, _, intsD_at (k := a) (by omega) ha', ?_⟩
      ((conv => whnf); repeat (refine And.intro rfl ?_; (conv => whnf)))
      rw [rd]
      refine ⟨by omega, _, val_at (k := (P.inAt s.1 a).toNat) (by omega) (by omega), ?_⟩
      ((conv => whnf); repeat (refine And.intro rfl ?_; (conv => whnf)))
      (refine .inl ⟨by (unfold InR; rw [IntKind.wrap_i64]; omega), ?_⟩; ((conv => whnf); repeat (refine And.intro rfl ?_; (conv => whnf))))
      exact ⟨a + 1, by omega, by dsimp only; omega, leB_envH ⟨by simp only [ep, Bool.true_or]; rfl, by simp only [el, Bool.true_and]; rfl, by (repeat' (first | exact trivial | refine And.intro rfl ?_))⟩ rfl⟩
  have ha' : a = (P.inL s.1).length := by have : ¬ a < (P.inL s.1).length := by ((try simp only [oo, reduceCtorEq] at *) <;> omega)
                                          omega
  subst ha'
  refine ⟨by omega, _, node_at P (k := s.1.toNat) (by omega) (by omega), ?_⟩
  ((conv => whnf); repeat (refine And.intro rfl ?_; (conv => whnf)))
  (refine ifK_split (fun h3 => ?_) (fun h3 => ?_) <;> (rw [h3]; ((conv => whnf); repeat (refine And.intro rfl ?_; (conv => whnf)))))
  · have h3 : P.kind s.1.toNat = 6 := by ((try simp only [oo, reduceCtorEq] at *) <;> omega)
    rw [if_neg (by omega)] at e
    rw [e]
    exact .refl _
  have h3 : P.kind s.1.toNat ≠ 6 := by ((try simp only [oo, reduceCtorEq] at *) <;> omega)
  rw [if_pos (by omega)] at e
  rw [e]
  refine pwp_for [1, 3, 5, 7, 8] (fun a : Nat => [(11, .sc (.int .i64 a))]) (fun _ => []) (fun a => a ≤ (P.inL s.1).length ∧ ∀ j, j < a → ¬ P.badAt M s.1 j) (fun a => (P.inL s.1).length - a) 0 ?_
  ((conv => whnf); repeat (refine And.intro rfl ?_; (conv => whnf)))
  refine ⟨⟨by omega, fun j h => by omega⟩, by (repeat' (first | exact trivial | refine And.intro rfl ?_)), rfl, ?_⟩
  clear h2 ha
  rintro a ⟨ha, hall⟩
  ((conv => whnf); repeat (refine And.intro rfl ?_; (conv => whnf)))
  (apply red_sound; focus (repeat' (first | exact Red.skip | exact Red.ret | exact RedO.nil | exact RedD.nil | exact Red.exit _ | exact Red.loop _ | exact Red.stop _ | apply Red.ops | apply Red.draw | apply Red.seq | apply Red.cond | apply Red.block | apply RedO.cons | apply RedD.cons | exact (0 : Nat))))
  ((conv => whnf); repeat (refine And.intro rfl ?_; (conv => whnf)))
  rw [List.length_map]
  (refine ifK_split (fun h2 => ?_) (fun h2 => ?_) <;> (rw [h2]; ((conv => whnf); repeat (refine And.intro rfl ?_; (conv => whnf)))))
  · have ha' : a < (P.inL s.1).length := by ((try simp only [oo, reduceCtorEq] at *) <;> omega)
    have hia := ProcD.inAt_ok (P := P) (n := s.1) ha'
    have rd : (P.inL s.1).getD a 0 = P.inAt s.1 a := rfl
    obtain ⟨X, hX⟩ : ∃ X : Nat, P.inAt s.1 a = X := ⟨_, (Int.toNat_of_nonneg hia.1).symm⟩
    rw [hX] at rd hia
    refine pwp_for [1, 3, 5, 7, 8, 11] (fun k : Nat => [(12, .sc (.int .i64 k))]) (fun _ => []) (fun k => k ≤ P.flows.length ∧ (val M X = 0 → ∀ i, i < k → ¬ P.hold M s.1 X i)) (fun k => P.flows.length - k) 0 ?_
    ((conv => whnf); repeat (refine And.intro rfl ?_; (conv => whnf)))
    refine ⟨⟨by omega, fun _ j h => by omega⟩, by (repeat' (first | exact trivial | refine And.intro rfl ?_)), rfl, ?_⟩
    rintro k ⟨hk, hno⟩
    ((conv => whnf); repeat (refine And.intro rfl ?_; (conv => whnf)))
    (apply red_sound; focus (repeat' (first | exact Red.skip | exact Red.ret | exact RedO.nil | exact RedD.nil | exact Red.exit _ | exact Red.loop _ | exact Red.stop _ | apply Red.ops | apply Red.draw | apply Red.seq | apply Red.cond | apply Red.block | apply RedO.cons | apply RedD.cons | exact (0 : Nat))))
    ((conv => whnf); repeat (refine And.intro rfl ?_; (conv => whnf)))
    rw [List.length_map, lM]
    have next : (val M X = 0 → ¬ P.hold M s.1 X k) → (val M X = 0 → ∀ i, i < k + 1 → ¬ P.hold M s.1 X i) := fun h1 h2 i h3 => by
      by_cases e : i = k
      · subst e; exact h1 h2
      · exact hno h2 i (by omega)
    (refine ifK_split (fun h4 => ?_) (fun h4 => ?_) <;> (rw [h4]; ((conv => whnf); repeat (refine And.intro rfl ?_; (conv => whnf)))))
    · have hk' : k < P.flows.length := by ((try simp only [oo, reduceCtorEq] at *) <;> omega)
      refine ⟨by omega, _, intsD_at (k := a) (by omega) ha', ?_⟩
      ((conv => whnf); repeat (refine And.intro rfl ?_; (conv => whnf)))
      rw [rd]
      refine ⟨by omega, _, val_at (k := X) (by omega) (by omega), ?_⟩
      ((conv => whnf); repeat (refine And.intro rfl ?_; (conv => whnf)))
      cases h5 : (val M X == 0)
      · ((conv => whnf); repeat (refine And.intro rfl ?_; (conv => whnf)))
        (refine .inl ⟨by (unfold InR; rw [IntKind.wrap_i64]; omega), ?_⟩; ((conv => whnf); repeat (refine And.intro rfl ?_; (conv => whnf))))
        refine ⟨k + 1, ⟨by omega, next fun h => by rw [h] at h5; cases h5⟩, by dsimp only; omega, leB_envH (by (repeat' (first | exact trivial | refine And.intro rfl ?_))) rfl⟩
      · have h5 : val M X = 0 := by ((try simp only [oo, reduceCtorEq] at *) <;> omega)
        ((conv => whnf); repeat (refine And.intro rfl ?_; (conv => whnf)))
        refine ⟨by omega, _, val_at (k := k) (by omega) (by omega), ?_⟩
        ((conv => whnf); repeat (refine And.intro rfl ?_; (conv => whnf)))
        cases h6 : decide (val M k > 0)
        · ((conv => whnf); repeat (refine And.intro rfl ?_; (conv => whnf)))
          (refine .inl ⟨by (unfold InR; rw [IntKind.wrap_i64]; omega), ?_⟩; ((conv => whnf); repeat (refine And.intro rfl ?_; (conv => whnf))))
          refine ⟨k + 1, ⟨by omega, next fun h q => by rw [decide_eq_true q.2.1] at h6; cases h6⟩, by dsimp only; omega, leB_envH (by (repeat' (first | exact trivial | refine And.intro rfl ?_))) rfl⟩
        · have h6 : 0 < val M k := of_decide_eq_true h6
          ((conv => whnf); repeat (refine And.intro rfl ?_; (conv => whnf)))
          refine ⟨by omega, _, intsD_at (k := a) (by omega) ha', ?_⟩
          ((conv => whnf); repeat (refine And.intro rfl ?_; (conv => whnf)))
          rw [rd]
          (refine .inl ⟨_, (ref_Gets P hP hs2 k X hk' (by omega) s.1), ?_⟩; ((conv => whnf); repeat (refine And.intro rfl ?_; (conv => whnf))))
          cases h7 : ((k : Int) != X && P.viaB s.1 k X)
          · ((conv => whnf); repeat (refine And.intro rfl ?_; (conv => whnf)))
            (refine .inl ⟨by (unfold InR; rw [IntKind.wrap_i64]; omega), ?_⟩; ((conv => whnf); repeat (refine And.intro rfl ?_; (conv => whnf))))
            refine ⟨k + 1, ⟨by omega, next fun h q => ?_⟩, by dsimp only; omega, leB_envH (by (repeat' (first | exact trivial | refine And.intro rfl ?_))) rfl⟩
            have := (ProcD.hold_iff h5 h6).1 q
            rw [ProcD.viaB_iff.2 this.2, Bool.and_true] at h7
            have := this.1
            ((try simp only [oo, reduceCtorEq] at *) <;> omega)
          · rw [Bool.and_eq_true, ProcD.viaB_iff] at h7
            ((conv => whnf); repeat (refine And.intro rfl ?_; (conv => whnf)))
            rw [ProcD.joinB_false ha' ⟨by rw [hX, Int.toNat_natCast]; omega, k, hk', by rw [hX, Int.toNat_natCast]; exact (ProcD.hold_iff h5 h6).2 ⟨fun e => by subst e; simp at h7, h7.2⟩⟩]
            exact .refl _
    · have hk' : k = P.flows.length := by have : ¬ k < P.flows.length := by ((try simp only [oo, reduceCtorEq] at *) <;> omega)
                                          omega
      subst hk'
      (refine .inl ⟨by (unfold InR; rw [IntKind.wrap_i64]; omega), ?_⟩; ((conv => whnf); repeat (refine And.intro rfl ?_; (conv => whnf))))
      refine ⟨a + 1, ⟨by omega, fun j hj => ?_⟩, by dsimp only; omega, leB_envH (by (repeat' (first | exact trivial | refine And.intro rfl ?_))) rfl⟩
      by_cases e : j = a
      · subst e
        rintro ⟨q0, i, q1, q2⟩
        rw [hX, Int.toNat_natCast] at q0 q2
        have := hM.pos X
        exact hno (by omega) i q1 q2
      · exact hall j (by omega)
  · have ha' : a = (P.inL s.1).length := by have : ¬ a < (P.inL s.1).length := by ((try simp only [oo, reduceCtorEq] at *) <;> omega)
                                            omega
    subst ha'
    rw [ProcD.joinB_some hall]
    exact .refl _
end Go.Proofs.Ytikdngjdhncioaa
