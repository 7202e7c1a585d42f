/-
  The steps of a process: the program's list and the reference's. No statement is proved here.
-/
import Derived.Test.YtikdngjdhncioaaSt1
namespace Go.Proofs.Ytikdngjdhncioaa
open Go.RowKit
set_option linter.unusedSimpArgs false
set_option linter.unusedVariables false
theorem step_at {l : List StepD} {z k : Nat} (hz : z = k) (h : k < l.length) : (srows l)[z]? = some (srow l[k]) := by
  subst hz
  unfold srows
  rw [List.getElem?_map, List.getElem?_eq_getElem h]
  rfl
def c44_1 : PC := .seq (.ops [⟨(some 16), .bin .lss (.tmp 15) (.tmp 14), none, 0⟩] false) (.seq (.cond (.tmp 16) (.skip) (.exit 0)) (.seq (.block 1 (.seq (.ops [⟨(some 17), .move (.tmp 15), none, 0⟩,
    ⟨(some 6), .move (.tmp 17), none, 0⟩] false) (.ops [⟨(some 18), .move (.tmp 5), none, 0⟩,
    ⟨(some 19), .loadA 2 (.tmp 1), none, 0⟩,
    ⟨(some 20), .move (.tmp 6), none, 0⟩,
    ⟨(some 21), .call 63 [(.tmp 19), (.tmp 20)], none, 0⟩,
    ⟨(some 22), .append 3 24 (.tmp 18) (.tmp 21), none, 0⟩,
    ⟨(some 5), .move (.tmp 22), none, 0⟩] false))) (.ops [⟨(some 23), .bin .add (.tmp 15) (.const (.int .i64 1)), none, 0⟩,
    ⟨(some 15), .move (.tmp 23), none, 0⟩] false)))
def c44 : PC := .seq (.ops [⟨(some 1), .box (.tmp 0), none, 0⟩,
    ⟨(some 2), .move (.const (.slice none 0 0)), none, 0⟩,
    ⟨(some 3), .move (.const (.int .i64 0)), none, 0⟩] false) (.seq (.seq (.ops [⟨(some 7), .loadA 2 (.tmp 1), none, 0⟩,
    ⟨(some 8), .call 62 [(.tmp 7)], none, 0⟩,
    ⟨(some 4), .move (.tmp 8), none, 0⟩] false) (.seq (.ops [⟨(some 9), .move (.tmp 4), none, 0⟩,
    ⟨(some 10), .bin .neq (.tmp 9) (.const (.int .i64 0)), none, 0⟩] false) (.cond (.tmp 10) (.seq (.ops [⟨(some 11), .move (.tmp 4), none, 0⟩,
    ⟨(some 2), .move (.const (.slice none 0 0)), none, 0⟩,
    ⟨(some 3), .move (.tmp 11), none, 0⟩] false) (.ret)) (.skip)))) (.seq (.ops [⟨(some 5), .move (.const (.slice none 0 0)), none, 0⟩] false) (.seq (.seq (.ops [⟨(some 12), .faddr 0 (.tmp 1), none, 0⟩,
    ⟨(some 13), .load1 (.tmp 12), none, 0⟩,
    ⟨(some 14), .len (.tmp 13), none, 0⟩,
    ⟨(some 15), .move (.const (.int .i64 0)), none, 0⟩] false) (.block 0 (.loop c44_1))) (.seq (.seq (.ops [⟨(some 24), .move (.tmp 5), none, 0⟩,
    ⟨(some 25), .len (.tmp 24), none, 0⟩,
    ⟨(some 26), .bin .gtr (.tmp 25) (.const (.int .i64 60)), none, 0⟩] false) (.cond (.tmp 26) (.seq (.ops [⟨(some 2), .move (.const (.slice none 0 0)), none, 0⟩,
    ⟨(some 3), .move (.const (.int .i64 2)), none, 0⟩] false) (.ret)) (.skip))) (.seq (.ops [⟨(some 27), .move (.tmp 5), none, 0⟩,
    ⟨(some 2), .move (.tmp 27), none, 0⟩,
    ⟨(some 3), .move (.const (.int .i64 0)), none, 0⟩] false) (.ret))))))
set_option maxRecDepth 100000 in
theorem c44_ok : FunOK Try.prog 44 28 [.tmp 2, .tmp 3] c44 := ⟨⟨Try.f44, Try.func44, rfl, by kernel_rfl, rfl, by kernel_rfl⟩⟩
set_option maxRecDepth 100000 in
theorem steps_Of (P : ProcD) (hP : P.Fits) : PCall Try.prog 44 [dproc P] (.tup [dsteps P.stepsL, .sc (.int .i64 P.stepsE)]) := by
  refine pcall_intro c44_ok (by simp) (by simp [PureL, Pure, pure_dproc]) ?_ (by simp [Pure, PureL, pure_dsteps])
  have bad : ∀ {H : List AObj} {e : Int}, e ≠ 0 → P.stepsE = e → Deep H (.tup [.sc (.slice none 0 0), .sc (.int .i64 e)]) (.tup [dsteps P.stepsL, .sc (.int .i64 P.stepsE)]) := fun h k => by
    have : P.stepsL = [] := by unfold ProcD.stepsL; rw [if_neg (by rw [k]; exact h)]
    rw [k, this]
    exact .tup _ _ (.cons _ _ _ _ (.none _) (.cons _ _ _ _ (.refl _) .nil))
  (apply red_sound; focus (repeat' (first | exact Red.skip | exact Red.ret | exact RedO.nil | exact RedD.nil | exact Red.exit _ | exact Red.loop _ | exact Red.stop _ | apply Red.ops | apply Red.draw | apply Red.seq | apply Red.cond | apply Red.block | apply RedO.cons | apply RedD.cons | exact (0 : Nat))))
  ((conv => whnf); repeat (refine And.intro rfl ?_; (conv => whnf)))
  (refine .inl ⟨_, (proc_Check P hP), ?_⟩; ((conv => whnf); repeat (refine And.intro rfl ?_; (conv => whnf))))
  (refine ifK_split (fun h1 => ?_) (fun h1 => ?_) <;> (rw [h1]; ((conv => whnf); repeat (refine And.intro rfl ?_; (conv => whnf)))))
  · have h1 : P.chk ≠ 0 := by ((try simp only [oo, reduceCtorEq] at *) <;> omega)
    exact bad h1 (by unfold ProcD.stepsE; rw [if_pos h1])
  have h0 : P.chk = 0 := by ((try simp only [oo, reduceCtorEq] at *) <;> omega)
  obtain ⟨hs1, hs2⟩ := chk_small h0
  have hall := ProcD.nodeOK_of h0
  have e1 : P.stepsE = if 60 < (P.stepsTo P.nodes.length).length then 2 else 0 := by unfold ProcD.stepsE; rw [if_neg (by omega)]
  rw [List.length_map]
  refine pwp_ghostB (leB_nil 5 3 (by simp) rfl) ?_
  refine pwp_for [1, 14] (fun ((k, c, l) : Nat × Nat × List StepD) => [(5, .own 1 k 0 c), (15, .sc (.int .i64 k))]) (fun (k, c, l) => [(1, .vec true k 3 (srows l))]) (fun (k, c, l) => k ≤ P.nodes.length ∧ c = l.length ∧ l = P.stepsTo k) (fun (k, c, l) => P.nodes.length - k) (0, 0, []) ?_
  ((conv => whnf); repeat (refine And.intro rfl ?_; (conv => whnf)))
  refine ⟨⟨by omega, rfl, rfl⟩, by (repeat' (first | exact trivial | refine And.intro rfl ?_)), rfl, ?_⟩
  rintro ⟨k, c, l⟩ ⟨hk, hc, hl⟩
  ((conv => whnf); repeat (refine And.intro rfl ?_; (conv => whnf)))
  (apply red_sound; focus (repeat' (first | exact Red.skip | exact Red.ret | exact RedO.nil | exact RedD.nil | exact Red.exit _ | exact Red.loop _ | exact Red.stop _ | apply Red.ops | apply Red.draw | apply Red.seq | apply Red.cond | apply Red.block | apply RedO.cons | apply RedD.cons | exact (0 : Nat))))
  ((conv => whnf); repeat (refine And.intro rfl ?_; (conv => whnf)))
  (refine ifK_split (fun h2 => ?_) (fun h2 => ?_) <;> (rw [h2]; ((conv => whnf); repeat (refine And.intro rfl ?_; (conv => whnf)))))
  · have hk' : k < P.nodes.length := by ((try simp only [oo, reduceCtorEq] at *) <;> omega)
    have b1 := ProcD.stepsTo_len hs2 k fun i hi => hall i (by omega)
    have b2 := ProcD.stepsOf_len (hall k hk') hs2
    have b3 : l.length = (P.stepsTo k).length := by rw [hl]
    (refine .inl ⟨_, (steps_of P hP h0 k hk'), ?_⟩; ((conv => whnf); repeat (refine And.intro rfl ?_; (conv => whnf))))
    refine ⟨(by unfold sliceAppend; rw [srows_len]; omega), ?_⟩
    ((conv => whnf); repeat (refine And.intro rfl ?_; (conv => whnf)))
    (refine .inl ⟨by (unfold InR; rw [IntKind.wrap_i64]; omega), ?_⟩; ((conv => whnf); repeat (refine And.intro rfl ?_; (conv => whnf))))
    refine ⟨(k + 1, c + (srows (P.stepsOf k)).length, l ++ P.stepsOf k), ⟨by omega, by simp [hc, srows_len], by rw [hl]; rfl⟩, by dsimp only; omega, ?_⟩
    (refine leB_close 2 (by simp) rfl ?_ ?_ <;> (repeat' (first | exact trivial | exact rfl | exact DeepM.refl _ | exact DeepML.refl _ | exact DeepMLL.refl _ | refine And.intro ?_ ?_ | (simp [Under, UnderL, UnderLL, -List.map_take, -List.map_drop]; done))))
    exact deepMLL_eq (srow_app hc)
  · have hk' : k = P.nodes.length := by have : ¬ k < P.nodes.length := by ((try simp only [oo, reduceCtorEq] at *) <;> omega)
                                        omega
    subst hk'
    have b3 : l.length = (P.stepsTo P.nodes.length).length := by rw [hl]
    (refine ifK_split (fun h3 => ?_) (fun h3 => ?_) <;> (rw [h3]; ((conv => whnf); repeat (refine And.intro rfl ?_; (conv => whnf)))))
    · exact bad (by decide) (by rw [e1, if_pos (by ((try simp only [oo, reduceCtorEq] at *) <;> omega))])
    · have e2 : P.stepsE = 0 := by rw [e1, if_neg (by ((try simp only [oo, reduceCtorEq] at *) <;> omega))]
      have e3 : P.stepsL = l := by unfold ProcD.stepsL; rw [if_pos e2, hl]
      rw [e2, e3]
      exact .tup _ _ (.cons _ _ _ _ (deep_steps hc rfl) (.cons _ _ _ _ (.refl _) .nil))
end Go.Proofs.Ytikdngjdhncioaa
