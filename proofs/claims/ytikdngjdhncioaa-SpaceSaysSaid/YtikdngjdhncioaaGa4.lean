/-
  Tokens: the program's test of a step, over deep values. No statement is proved here.
-/
import Derived.Test.YtikdngjdhncioaaGa1
import Derived.Test.YtikdngjdhncioaaGa3
import Derived.Test.YtikdngjdhncioaaPr4
import Derived.Test.YtikdngjdhncioaaFn
namespace Go.Proofs.Ytikdngjdhncioaa
open Go.RowKit
set_option linter.unusedSimpArgs false
set_option linter.unusedVariables false
/-- A marking of a process. -/
structure ProcD.Mark (P : ProcD) (M : List Int) : Prop where
  len : M.length = P.flows.length
  pos : ∀ i, 0 ≤ val M i
  top : ∀ i, val M i ≤ 9
theorem val_at {M : List Int} {z k : Nat} (hz : z = k) (h : k < M.length) : (M.map fun n => [D.sc (.int .i64 n)])[z]? = some [.sc (.int .i64 (val M k))] := intsD_at hz h
theorem listE_ok {P : ProcD} (h0 : P.chk = 0) {n : Int} (h1 : 0 ≤ n) (h2 : n < P.nodes.length) : P.listE n = 0 ∧ P.insT n = P.inL n ∧ P.outsT n = P.outL n := by
  have hE : P.listE n = 0 := by unfold ProcD.listE; rw [if_neg (by omega), if_neg (by omega)]
  exact ⟨hE, by unfold ProcD.insT; rw [if_pos hE], by unfold ProcD.outsT; rw [if_pos hE]⟩
theorem flowOK_of {P : ProcD} (h : P.chk = 0) : ∀ i, i < P.flows.length → P.flowOK i = true := by
  unfold ProcD.chk at h
  repeat' (split at h)
  all_goals first | (exact absurd h (by decide)) | (exact absurd h (by assumption)) | skip
  all_goals exact Classical.not_not.1 (by assumption)
def c95_2 : PC := .seq (.ops [⟨(some 37), .bin .lss (.tmp 36) (.tmp 35), none, 0⟩] false) (.seq (.cond (.tmp 37) (.skip) (.exit 2)) (.seq (.block 3 (.seq (.ops [⟨(some 38), .move (.tmp 36), none, 0⟩,
    ⟨(some 39), .iaddr 1 (.tmp 34) (.tmp 36), none, 0⟩,
    ⟨(some 40), .load1 (.tmp 39), none, 0⟩,
    ⟨(some 12), .move (.tmp 38), none, 0⟩,
    ⟨(some 13), .move (.tmp 40), none, 0⟩] false) (.seq (.ops [⟨(some 41), .move (.tmp 13), none, 0⟩,
    ⟨(some 42), .move (.tmp 41), none, 0⟩,
    ⟨(some 43), .move (.tmp 1), (some (42, true)), 0⟩,
    ⟨(some 44), .move (.tmp 12), (some (42, true)), 0⟩,
    ⟨(some 45), .iaddr 1 (.tmp 43) (.tmp 44), (some (42, true)), 0⟩,
    ⟨(some 46), .load1 (.tmp 45), (some (42, true)), 0⟩,
    ⟨(some 47), .bin .gtr (.tmp 46) (.const (.int .i64 0)), (some (42, true)), 0⟩,
    ⟨(some 48), .pick (.tmp 42) (.tmp 47) (.const (.bool false)), none, 0⟩,
    ⟨(some 49), .move (.tmp 48), none, 0⟩,
    ⟨(some 50), .faddr 1 (.tmp 3), (some (49, true)), 0⟩,
    ⟨(some 51), .load1 (.tmp 50), (some (49, true)), 0⟩,
    ⟨(some 52), .move (.tmp 12), (some (49, true)), 0⟩,
    ⟨(some 53), .iaddr 2 (.tmp 51) (.tmp 52), (some (49, true)), 0⟩,
    ⟨(some 54), .faddr 1 (.tmp 53), (some (49, true)), 0⟩,
    ⟨(some 55), .load1 (.tmp 54), (some (49, true)), 0⟩,
    ⟨(some 56), .move (.tmp 2), (some (49, true)), 0⟩,
    ⟨(some 57), .bin .neq (.tmp 55) (.tmp 56), (some (49, true)), 0⟩,
    ⟨(some 58), .pick (.tmp 49) (.tmp 57) (.const (.bool false)), none, 0⟩] false) (.cond (.tmp 58) (.seq (.ops [⟨(some 6), .move (.const (.bool false)), none, 0⟩] false) (.ret)) (.skip))))) (.ops [⟨(some 59), .bin .add (.tmp 36) (.const (.int .i64 1)), none, 0⟩,
    ⟨(some 36), .move (.tmp 59), none, 0⟩] false)))
def c95_1 : PC := .seq (.ops [⟨(some 23), .bin .lss (.tmp 22) (.tmp 21), none, 0⟩] false) (.seq (.cond (.tmp 23) (.skip) (.exit 0)) (.seq (.block 1 (.seq (.ops [⟨(some 24), .iaddr 1 (.tmp 20) (.tmp 22), none, 0⟩,
    ⟨(some 25), .load1 (.tmp 24), none, 0⟩,
    ⟨(some 11), .move (.tmp 25), none, 0⟩] false) (.seq (.seq (.ops [⟨(some 26), .move (.tmp 1), none, 0⟩,
    ⟨(some 27), .move (.tmp 11), none, 0⟩,
    ⟨(some 28), .iaddr 1 (.tmp 26) (.tmp 27), none, 0⟩,
    ⟨(some 29), .load1 (.tmp 28), none, 0⟩,
    ⟨(some 30), .bin .gtr (.tmp 29) (.const (.int .i64 0)), none, 0⟩] false) (.cond (.tmp 30) (.seq (.ops [⟨(some 9), .move (.const (.bool true)), none, 0⟩] false) (.exit 1)) (.skip))) (.seq (.ops [⟨(some 31), .loadA 2 (.tmp 3), none, 0⟩,
    ⟨(some 32), .move (.tmp 11), none, 0⟩,
    ⟨(some 33), .move (.tmp 2), none, 0⟩,
    ⟨(some 34), .call 100 [(.tmp 31), (.tmp 32), (.tmp 33)], none, 0⟩,
    ⟨(some 35), .len (.tmp 34), none, 0⟩,
    ⟨(some 36), .move (.const (.int .i64 0)), none, 0⟩] false) (.block 2 (.loop c95_2)))))) (.ops [⟨(some 60), .bin .add (.tmp 22) (.const (.int .i64 1)), none, 0⟩,
    ⟨(some 22), .move (.tmp 60), none, 0⟩] false)))
def c95 : PC := .seq (.ops [⟨(some 3), .box (.tmp 0), none, 0⟩,
    ⟨(some 6), .move (.const (.bool false)), none, 0⟩] false) (.seq (.ops [⟨(some 15), .loadA 2 (.tmp 3), none, 0⟩,
    ⟨(some 16), .move (.tmp 2), none, 0⟩,
    ⟨(some 17), .call 79 [(.tmp 15), (.tmp 16)], none, 0⟩,
    ⟨(some 14), .move (.tmp 17), none, 0⟩,
    ⟨(some 18), .ext 0 (.tmp 14), none, 0⟩,
    ⟨(some 19), .ext 1 (.tmp 14), none, 0⟩,
    ⟨(some 7), .move (.tmp 18), none, 0⟩,
    ⟨(some 8), .move (.tmp 19), none, 0⟩] false) (.seq (.ops [⟨(some 9), .move (.const (.bool false)), none, 0⟩] false) (.seq (.seq (.ops [⟨(some 20), .move (.tmp 7), none, 0⟩,
    ⟨(some 21), .len (.tmp 20), none, 0⟩,
    ⟨(some 22), .move (.const (.int .i64 0)), none, 0⟩] false) (.block 0 (.loop c95_1))) (.seq (.ops [⟨(some 61), .move (.tmp 9), none, 0⟩,
    ⟨(some 6), .move (.tmp 61), none, 0⟩] false) (.ret)))))
set_option maxRecDepth 100000 in
theorem c95_ok : FunOK Try.prog 95 62 [.tmp 6] c95 := ⟨⟨Try.f95, Try.func95, rfl, by kernel_rfl, rfl, by kernel_rfl⟩⟩
set_option maxRecDepth 100000 in
theorem game_joins (P : ProcD) (hP : P.Fits) (h0 : P.chk = 0) (M : List Int) (hM : P.Mark M) (n : Int) (h1 : 0 ≤ n) (h2 : n < P.nodes.length) :
    PCall Try.prog 95 [dproc P, dints M, .sc (.int .i64 n)] (.sc (.bool (P.joinB M n))) := by
  obtain ⟨hs1, hs2⟩ := chk_small h0
  obtain ⟨hE, hI, _⟩ := listE_ok h0 h1 h2
  have hi := proc_Ins P hP n
  rw [hI, hE] at hi
  have l1 := P.inL_len n
  have lM := hM.len
  refine pcall_intro c95_ok (by simp) (by simp [PureL, Pure, pure_dproc, pure_dints]) ?_ (by simp [Pure])
  (apply red_sound; focus (repeat' (first | exact Red.skip | exact Red.ret | exact RedO.nil | exact RedD.nil | exact Red.exit _ | exact Red.loop _ | exact Red.stop _ | apply Red.ops | apply Red.draw | apply Red.seq | apply Red.cond | apply Red.block | apply RedO.cons | apply RedD.cons | exact (0 : Nat))))
  ((conv => whnf); repeat (refine And.intro rfl ?_; (conv => whnf)))
  (refine .inl ⟨_, hi, ?_⟩; ((conv => whnf); repeat (refine And.intro rfl ?_; (conv => whnf))))
  rw [List.length_map]
  refine pwp_for [1, 2, 3, 20, 21] (fun a : Nat => [(9, .sc (.bool (P.posTo M n a))), (22, .sc (.int .i64 a))]) (fun _ => []) (fun a => a ≤ (P.inL n).length ∧ ∀ j, j < a → ¬ P.badAt M n j) (fun a => (P.inL n).length - a) 0 ?_
  ((conv => whnf); repeat (refine And.intro rfl ?_; (conv => whnf)))
  refine ⟨⟨by omega, fun j h => by omega⟩, by (repeat' (first | exact trivial | refine And.intro rfl ?_)), rfl, ?_⟩
  rintro a ⟨ha, hall⟩
  ((conv => whnf); repeat (refine And.intro rfl ?_; (conv => whnf)))
  (apply red_sound; focus (repeat' (first | exact Red.skip | exact Red.ret | exact RedO.nil | exact RedD.nil | exact Red.exit _ | exact Red.loop _ | exact Red.stop _ | apply Red.ops | apply Red.draw | apply Red.seq | apply Red.cond | apply Red.block | apply RedO.cons | apply RedD.cons | exact (0 : Nat))))
  ((conv => whnf); repeat (refine And.intro rfl ?_; (conv => whnf)))
  (refine ifK_split (fun h3 => ?_) (fun h3 => ?_) <;> (rw [h3]; ((conv => whnf); repeat (refine And.intro rfl ?_; (conv => whnf)))))
  · have ha' : a < (P.inL n).length := by ((try simp only [oo, reduceCtorEq] at *) <;> omega)
    have hin := ProcD.inAt_ok (P := P) (n := n) ha'
    have ep : P.posTo M n (a + 1) = (P.posTo M n a || decide (0 < val M (P.inAt n a).toNat)) := rfl
    refine ⟨by omega, _, intsD_at (k := a) (by omega) ha', ?_⟩
    ((conv => whnf); repeat (refine And.intro rfl ?_; (conv => whnf)))
    rw [show (P.inL n).getD a 0 = P.inAt n a from rfl]
    generalize hx : P.inAt n a = x at hin ep
    refine ⟨by omega, _, val_at (k := x.toNat) (by omega) (by omega), ?_⟩
    ((conv => whnf); repeat (refine And.intro rfl ?_; (conv => whnf)))
    (refine ifK_split (fun h4 => ?_) (fun h4 => ?_) <;> (rw [h4]; ((conv => whnf); repeat (refine And.intro rfl ?_; (conv => whnf)))))
    · have h4 : 0 < val M x.toNat := by ((try simp only [oo, reduceCtorEq] at *) <;> omega)
      ((conv => whnf); repeat (refine And.intro rfl ?_; (conv => whnf)))
      (refine .inl ⟨by (unfold InR; rw [IntKind.wrap_i64]; omega), ?_⟩; ((conv => whnf); repeat (refine And.intro rfl ?_; (conv => whnf))))
      refine ⟨a + 1, ⟨by omega, fun j hj => ?_⟩, by dsimp only; omega, ?_⟩
      · by_cases e : j = a
        · subst e; exact fun q => by have := q.1; rw [hx] at this; omega
        · exact hall j (by omega)
      · rw [decide_eq_true h4, Bool.or_true] at ep
        exact leB_envH ⟨by simp only [ep]; rfl, by (repeat' (first | exact trivial | refine And.intro rfl ?_))⟩ rfl
    · have h4 : ¬ 0 < val M x.toNat := by ((try simp only [oo, reduceCtorEq] at *) <;> omega)
      rw [decide_eq_false h4, Bool.or_false] at ep
      have hc := game_come P hP hs2 x.toNat (by omega) (flowOK_of h0) n
      rw [show ((x.toNat : Nat) : Int) = x by omega] at hc
      ((conv => whnf); repeat (refine And.intro rfl ?_; (conv => whnf)))
      (refine .inl ⟨_, hc, ?_⟩; ((conv => whnf); repeat (refine And.intro rfl ?_; (conv => whnf))))
      rw [rbl_len]
      refine pwp_for [1, 2, 3, 9, 20, 21, 22, 34, 35] (fun k : Nat => [(36, .sc (.int .i64 k))]) (fun _ => []) (fun k => k ≤ P.flows.length ∧ ∀ i, i < k → ¬ P.hold M n x.toNat i) (fun k => P.flows.length - k) 0 ?_
      ((conv => whnf); repeat (refine And.intro rfl ?_; (conv => whnf)))
      refine ⟨⟨by omega, fun j h => by omega⟩, by (repeat' (first | exact trivial | refine And.intro rfl ?_)), rfl, ?_⟩
      rintro k ⟨hk, hno⟩
      ((conv => whnf); repeat (refine And.intro rfl ?_; (conv => whnf)))
      (apply red_sound; focus (repeat' (first | exact Red.skip | exact Red.ret | exact RedO.nil | exact RedD.nil | exact Red.exit _ | exact Red.loop _ | exact Red.stop _ | apply Red.ops | apply Red.draw | apply Red.seq | apply Red.cond | apply Red.block | apply RedO.cons | apply RedD.cons | exact (0 : Nat))))
      ((conv => whnf); repeat (refine And.intro rfl ?_; (conv => whnf)))
      have next : ∀ {i : Nat}, ¬ P.hold M n x.toNat k → i < k + 1 → ¬ P.hold M n x.toNat i := fun h1 h2 => by
        rename_i i
        by_cases e : i = k
        · subst e; exact h1
        · exact hno i (by omega)
      (refine ifK_split (fun h5 => ?_) (fun h5 => ?_) <;> (rw [h5]; ((conv => whnf); repeat (refine And.intro rfl ?_; (conv => whnf)))))
      · have hk' : k < P.flows.length := by ((try simp only [oo, reduceCtorEq] at *) <;> omega)
        refine ⟨by omega, _, rbl_atN k (by omega) hk', ?_⟩
        ((conv => whnf); repeat (refine And.intro rfl ?_; (conv => whnf)))
        cases hv : P.viaB n k x.toNat
        · ((conv => whnf); repeat (refine And.intro rfl ?_; (conv => whnf)))
          (refine .inl ⟨by (unfold InR; rw [IntKind.wrap_i64]; omega), ?_⟩; ((conv => whnf); repeat (refine And.intro rfl ?_; (conv => whnf))))
          refine ⟨k + 1, ⟨by omega, fun i hi => next (fun q => by rw [ProcD.viaB_iff.2 q.1] at hv; cases hv) hi⟩, by dsimp only; omega, leB_envH (by (repeat' (first | exact trivial | refine And.intro rfl ?_))) rfl⟩
        · ((conv => whnf); repeat (refine And.intro rfl ?_; (conv => whnf)))
          refine ⟨by omega, _, val_at (k := k) (by omega) (by omega), ?_⟩
          ((conv => whnf); repeat (refine And.intro rfl ?_; (conv => whnf)))
          cases hg : decide (val M k > 0)
          · ((conv => whnf); repeat (refine And.intro rfl ?_; (conv => whnf)))
            (refine .inl ⟨by (unfold InR; rw [IntKind.wrap_i64]; omega), ?_⟩; ((conv => whnf); repeat (refine And.intro rfl ?_; (conv => whnf))))
            refine ⟨k + 1, ⟨by omega, fun i hi => next (fun q => by rw [decide_eq_true q.2.1] at hg; cases hg) hi⟩, by dsimp only; omega, leB_envH (by (repeat' (first | exact trivial | refine And.intro rfl ?_))) rfl⟩
          · ((conv => whnf); repeat (refine And.intro rfl ?_; (conv => whnf)))
            refine ⟨by omega, _, flow_at P (k := k) (by omega) hk', ?_⟩
            ((conv => whnf); repeat (refine And.intro rfl ?_; (conv => whnf)))
            (refine ifK_split (fun h6 => ?_) (fun h6 => ?_) <;> (rw [h6]; ((conv => whnf); repeat (refine And.intro rfl ?_; (conv => whnf)))))
            · have h6 : P.dst k ≠ n := by ((try simp only [oo, reduceCtorEq] at *) <;> omega)
              rw [ProcD.joinB_false ha' ⟨by rw [hx]; omega, k, hk', by rw [hx]; exact ⟨ProcD.viaB_iff.1 hv, of_decide_eq_true hg, h6⟩⟩]
              exact .refl _
            · have h6 : P.dst k = n := by ((try simp only [oo, reduceCtorEq] at *) <;> omega)
              (refine .inl ⟨by (unfold InR; rw [IntKind.wrap_i64]; omega), ?_⟩; ((conv => whnf); repeat (refine And.intro rfl ?_; (conv => whnf))))
              refine ⟨k + 1, ⟨by omega, fun i hi => next (fun q => q.2.2 h6) hi⟩, by dsimp only; omega, leB_envH (by (repeat' (first | exact trivial | refine And.intro rfl ?_))) rfl⟩
      · have hk' : k = P.flows.length := by have : ¬ k < P.flows.length := by ((try simp only [oo, reduceCtorEq] at *) <;> omega)
                                            omega
        subst hk'
        (refine .inl ⟨by (unfold InR; rw [IntKind.wrap_i64]; omega), ?_⟩; ((conv => whnf); repeat (refine And.intro rfl ?_; (conv => whnf))))
        refine ⟨a + 1, ⟨by omega, fun j hj => ?_⟩, by dsimp only; omega, leB_envH ⟨by simp only [ep]; rfl, by (repeat' (first | exact trivial | refine And.intro rfl ?_))⟩ rfl⟩
        by_cases e : j = a
        · subst e
          rintro ⟨-, i, q1, q2⟩
          rw [hx] at q2
          exact hno i q1 q2
        · exact hall j (by omega)
  · have ha' : a = (P.inL n).length := by have : ¬ a < (P.inL n).length := by ((try simp only [oo, reduceCtorEq] at *) <;> omega)
                                          omega
    subst ha'
    rw [ProcD.joinB_some hall]
    exact .refl _
def c96 : PC := .seq (.ops [⟨(some 3), .move (.const (.bool false)), none, 0⟩] false) (.seq (.ops [⟨(some 4), .load1 (.tmp 1), none, 0⟩,
    ⟨(some 5), .move (.tmp 0), none, 0⟩,
    ⟨(some 6), .iaddr 1 (.tmp 4) (.tmp 5), none, 0⟩,
    ⟨(some 7), .load1 (.tmp 6), none, 0⟩,
    ⟨(some 8), .bin .eql (.tmp 7) (.const (.int .i64 0)), none, 0⟩,
    ⟨(some 3), .move (.tmp 8), none, 0⟩] false) (.ret))
set_option maxRecDepth 100000 in
theorem c96_ok : FunOK Try.prog 96 9 [.tmp 3] c96 := ⟨⟨Try.f96, Try.func96, rfl, by kernel_rfl, rfl, by kernel_rfl⟩⟩
def c83 : PC := .seq (.ops [⟨(some 3), .box (.tmp 0), none, 0⟩,
    ⟨(some 4), .box (.tmp 1), none, 0⟩,
    ⟨(some 5), .box (.tmp 2), none, 0⟩,
    ⟨(some 6), .move (.const (.bool false)), none, 0⟩] false) (.seq (.seq (.ops [⟨(some 9), .faddr 1 (.tmp 5), none, 0⟩,
    ⟨(some 10), .load1 (.tmp 9), none, 0⟩,
    ⟨(some 11), .bin .geq (.tmp 10) (.const (.int .i64 0)), none, 0⟩] false) (.cond (.tmp 11) (.seq (.ops [⟨(some 12), .load1 (.tmp 4), none, 0⟩,
    ⟨(some 13), .faddr 1 (.tmp 5), none, 0⟩,
    ⟨(some 14), .load1 (.tmp 13), none, 0⟩,
    ⟨(some 15), .iaddr 1 (.tmp 12) (.tmp 14), none, 0⟩,
    ⟨(some 16), .load1 (.tmp 15), none, 0⟩,
    ⟨(some 17), .bin .gtr (.tmp 16) (.const (.int .i64 0)), none, 0⟩,
    ⟨(some 6), .move (.tmp 17), none, 0⟩] false) (.ret)) (.skip))) (.seq (.seq (.ops [⟨(some 18), .faddr 0 (.tmp 3), none, 0⟩,
    ⟨(some 19), .load1 (.tmp 18), none, 0⟩,
    ⟨(some 20), .faddr 0 (.tmp 5), none, 0⟩,
    ⟨(some 21), .load1 (.tmp 20), none, 0⟩,
    ⟨(some 22), .iaddr 2 (.tmp 19) (.tmp 21), none, 0⟩,
    ⟨(some 23), .faddr 1 (.tmp 22), none, 0⟩,
    ⟨(some 24), .load1 (.tmp 23), none, 0⟩,
    ⟨(some 25), .bin .eql (.tmp 24) (.const (.int .i64 7)), none, 0⟩] false) (.cond (.tmp 25) (.seq (.ops [⟨(some 26), .loadA 2 (.tmp 3), none, 0⟩,
    ⟨(some 27), .load1 (.tmp 4), none, 0⟩,
    ⟨(some 28), .faddr 0 (.tmp 5), none, 0⟩,
    ⟨(some 29), .load1 (.tmp 28), none, 0⟩,
    ⟨(some 30), .call 95 [(.tmp 26), (.tmp 27), (.tmp 29)], none, 0⟩,
    ⟨(some 6), .move (.tmp 30), none, 0⟩] false) (.ret)) (.skip))) (.seq (.ops [⟨(some 32), .loadA 2 (.tmp 3), none, 0⟩,
    ⟨(some 33), .faddr 0 (.tmp 5), none, 0⟩,
    ⟨(some 34), .load1 (.tmp 33), none, 0⟩,
    ⟨(some 35), .call 79 [(.tmp 32), (.tmp 34)], none, 0⟩,
    ⟨(some 31), .move (.tmp 35), none, 0⟩,
    ⟨(some 36), .ext 0 (.tmp 31), none, 0⟩,
    ⟨(some 37), .ext 1 (.tmp 31), none, 0⟩,
    ⟨(some 7), .move (.tmp 36), none, 0⟩,
    ⟨(some 8), .move (.tmp 37), none, 0⟩] false) (.seq (.ops [⟨(some 38), .move (.tmp 7), none, 0⟩,
    ⟨(some 39), .mkfn (.func 96) [] [(.tmp 4)], none, 0⟩,
    ⟨(some 40), .call 64 [(.tmp 38), (.tmp 39)], none, 0⟩,
    ⟨(some 41), .un .not (.tmp 40), none, 0⟩,
    ⟨(some 6), .move (.tmp 41), none, 0⟩] false) (.ret)))))
set_option maxRecDepth 100000 in
theorem c83_ok : FunOK Try.prog 83 42 [.tmp 6] c83 := ⟨⟨Try.f83, Try.func83, rfl, by kernel_rfl, rfl, by kernel_rfl⟩⟩
theorem game_enabled1 (M : List Int) (x : Int) (h1 : 0 ≤ x) (h2 : x < M.length) : PCall Try.prog 96 [.sc (.int .i64 x), .ipt [dints M]] (.sc (.bool (val M x.toNat == 0))) := by
  refine pcall_intro c96_ok (by simp) (by simp [PureL, Pure, pure_dints]) ?_ (by simp [Pure])
  (apply red_sound; focus (repeat' (first | exact Red.skip | exact Red.ret | exact RedO.nil | exact RedD.nil | exact Red.exit _ | exact Red.loop _ | exact Red.stop _ | apply Red.ops | apply Red.draw | apply Red.seq | apply Red.cond | apply Red.block | apply RedO.cons | apply RedD.cons | exact (0 : Nat))))
  ((conv => whnf); repeat (refine And.intro rfl ?_; (conv => whnf)))
  refine ⟨by omega, _, val_at (k := x.toNat) (by omega) (by omega), ?_⟩
  ((conv => whnf); repeat (refine And.intro rfl ?_; (conv => whnf)))
  exact .refl _
theorem pure_sagg (s : StepD) : Pure (.agg (srow s)) := by simp [Pure, pure_srow]
set_option maxRecDepth 100000 in
theorem game_enabled (P : ProcD) (hP : P.Fits) (h0 : P.chk = 0) (M : List Int) (hM : P.Mark M) (s : StepD) (hs : P.StepOK s) :
    PCall Try.prog 83 [dproc P, dints M, .agg (srow s)] (.sc (.bool (P.mayB M s))) := by
  obtain ⟨hs1, hs2⟩ := chk_small h0
  have hn := hs.node
  have hin := hs.in_
  obtain ⟨hE, hI, _⟩ := listE_ok h0 hn.1 hn.2
  have hi := proc_Ins P hP s.1
  rw [hI, hE] at hi
  have l1 := P.inL_len s.1
  have lM := hM.len
  have hcf : PCall Try.prog 64 [dints (P.inL s.1), .fn (.func 96) [] [.ipt [dints M]]] (.sc (.bool ((P.inL s.1).any fun x => val M x.toNat == 0))) :=
    containsF_int (fun n => .sc (.int .i64 n)) (fun _ => by simp [Pure]) (P.inL s.1) (by omega) (fun x => val M x.toNat == 0) 96 [.ipt [dints M]] (by simp [PureL, Pure, pure_dints]) fun a ha => by
      obtain ⟨k, hk, e⟩ := ProcD.getD_mem_of ha
      have := ProcD.inAt_ok (P := P) (n := s.1) hk
      unfold ProcD.inAt at this
      rw [e] at this
      exact game_enabled1 M _ this.1 (by omega)
  refine pcall_intro c83_ok (by simp) (by simp [PureL, Pure, pure_dproc, pure_dints, pure_srow]) ?_ (by simp [Pure])
  have e : P.mayB M s = if 0 ≤ s.2.1 then decide (0 < val M s.2.1.toNat) else if P.kind s.1.toNat = 7 then P.joinB M s.1 else P.allTo M s.1 (P.inL s.1).length := rfl
  (apply red_sound; focus (repeat' (first | exact Red.skip | exact Red.ret | exact RedO.nil | exact RedD.nil | exact Red.exit _ | exact Red.loop _ | exact Red.stop _ | apply Red.ops | apply Red.draw | apply Red.seq | apply Red.cond | apply Red.block | apply RedO.cons | apply RedD.cons | exact (0 : Nat))))
  ((conv => whnf); repeat (refine And.intro rfl ?_; (conv => whnf)))
  (refine ifK_split (fun h1 => ?_) (fun h1 => ?_) <;> (rw [h1]; ((conv => whnf); repeat (refine And.intro rfl ?_; (conv => whnf)))))
  · have h1 : 0 ≤ s.2.1 := by ((try simp only [oo, reduceCtorEq] at *) <;> omega)
    rw [if_pos h1] at e
    refine ⟨by omega, _, val_at (k := s.2.1.toNat) (by omega) (by omega), ?_⟩
    ((conv => whnf); repeat (refine And.intro rfl ?_; (conv => whnf)))
    rw [e]
    exact .refl _
  have h1 : ¬ 0 ≤ s.2.1 := by ((try simp only [oo, reduceCtorEq] at *) <;> omega)
  rw [if_neg h1] at e
  refine ⟨by omega, _, node_at P (k := s.1.toNat) (by omega) (by omega), ?_⟩
  ((conv => whnf); repeat (refine And.intro rfl ?_; (conv => whnf)))
  (refine ifK_split (fun h2 => ?_) (fun h2 => ?_) <;> (rw [h2]; ((conv => whnf); repeat (refine And.intro rfl ?_; (conv => whnf)))))
  · have h2 : P.kind s.1.toNat = 7 := by ((try simp only [oo, reduceCtorEq] at *) <;> omega)
    rw [if_pos h2] at e
    (refine .inl ⟨_, (game_joins P hP h0 M hM s.1 hn.1 hn.2), ?_⟩; ((conv => whnf); repeat (refine And.intro rfl ?_; (conv => whnf))))
    rw [e]
    exact .refl _
  have h2 : P.kind s.1.toNat ≠ 7 := by ((try simp only [oo, reduceCtorEq] at *) <;> omega)
  rw [if_neg h2] at e
  (refine .inl ⟨_, hi, ?_⟩; ((conv => whnf); repeat (refine And.intro rfl ?_; (conv => whnf))))
  (refine .inr (.inl ⟨_, _, (by (repeat' (first | exact Deep.refl _ | exact Deep.none _ | exact deep_row _ | exact DeepL.nil | exact DeepLL.nil | refine Deep.agg _ _ ?_ | refine Deep.tup _ _ ?_ | refine Deep.own _ _ _ _ _ _ _ _ rfl ?_ | refine Deep.loc _ _ _ _ _ rfl ?_ | refine Deep.ifc _ _ _ ?_ | refine Deep.fn _ _ _ _ _ ?_ ?_ | refine DeepL.cons _ _ _ _ ?_ ?_ | refine DeepLL.cons _ _ _ _ ?_ ?_))), hcf, rfl, ?_⟩); ((conv => whnf); repeat (refine And.intro rfl ?_; (conv => whnf))))
  rw [e, ProcD.allTo_any hM.pos, ProcD.any_range]
  exact .refl _
end Go.Proofs.Ytikdngjdhncioaa
