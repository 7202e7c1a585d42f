/-
  Tokens: the program's Begin, check and Enabled, over deep values. No statement is proved here.
-/
import Derived.Test.YtikdngjdhncioaaGa5
import Derived.Test.YtikdngjdhncioaaSt2
namespace Go.Proofs.Ytikdngjdhncioaa
open Go.RowKit
set_option linter.unusedSimpArgs false
set_option linter.unusedVariables false
@[simp] theorem under_dsteps {m : Nat} (l : List StepD) : Under m (dsteps l) ↔ True := ⟨fun _ => trivial, fun _ => under_pure _ (pure_dsteps l)⟩
namespace ProcD
def markB (P : ProcD) (M : List Int) : Bool := decide (M.length = P.flows.length) && inB M 10
noncomputable def markE (P : ProcD) (M : List Int) : Int := if P.stepsE ≠ 0 then P.stepsE else if P.markB M = true then 0 else 1
noncomputable def markL (P : ProcD) (M : List Int) : List StepD := if P.markE M = 0 then P.stepsL else []
theorem mark_of {P : ProcD} {M : List Int} (h : P.markB M = true) : P.Mark M := by
  unfold markB at h
  rw [Bool.and_eq_true, decide_eq_true_eq] at h
  have k : ∀ i, 0 ≤ val M i ∧ val M i ≤ 9 := fun i => by
    by_cases hi : i < M.length
    · have := inB_getD h.2 hi
      unfold val
      omega
    · unfold val
      rw [List.getD_eq_getElem?_getD, List.getElem?_eq_none (by omega)]
      simp
  exact ⟨h.1, fun i => (k i).1, fun i => (k i).2⟩
theorem stepsE_zero {P : ProcD} (h : P.stepsE = 0) : P.chk = 0 ∧ P.stepsL = P.stepsTo P.nodes.length ∧ P.stepsL.length ≤ 60 := by
  have e : P.stepsL = P.stepsTo P.nodes.length := by unfold stepsL; rw [if_pos h]
  unfold stepsE at h
  split at h
  · rename_i q; exact absurd h q
  · rename_i q
    split at h
    · cases h
    · exact ⟨Classical.not_not.1 q, e, by rw [e]; omega⟩
theorem markE_zero {P : ProcD} {M : List Int} (h : P.markE M = 0) : P.stepsE = 0 ∧ P.markB M = true := by
  unfold markE at h
  split at h
  · rename_i q; exact absurd h q
  · rename_i q
    split at h
    · rename_i q2; exact ⟨Classical.not_not.1 q, q2⟩
    · cases h
theorem stepAt_ok {P : ProcD} (h : P.stepsE = 0) {k : Nat} (hk : k < P.stepsL.length) : P.StepOK (P.stepsL.getD k (0, 0, 0)) := by
  obtain ⟨h0, e, _⟩ := stepsE_zero h
  refine stepsTo_mem (chk_small h0).2 (Nat.le_refl _) ?_
  rw [e] at hk ⊢
  rw [List.getD_eq_getElem?_getD, List.getElem?_eq_getElem hk]
  exact List.getElem_mem hk
end ProcD
theorem step_atD {l : List StepD} {z k : Nat} (hz : z = k) (h : k < l.length) : (srows l)[z]? = some (srow (l.getD k (0, 0, 0))) := by
  rw [step_at hz h, List.getD_eq_getElem?_getD, List.getElem?_eq_getElem h]
  rfl
def begG (P : ProcD) (i : Nat) : Int := if P.kind (P.src i).toNat = 1 then 1 else 0
noncomputable def ProcD.beginL (P : ProcD) : List Int := if P.stepsE = 0 then gl P.flows.length (begG P) else []
def c94 : PC := .seq (.ops [⟨(some 2), .move (.const (.bool false)), none, 0⟩] false) (.seq (.ops [⟨(some 3), .move (.tmp 0), none, 0⟩,
    ⟨(some 4), .bin .lss (.tmp 3) (.const (.int .i64 0)), none, 0⟩,
    ⟨(some 5), .move (.tmp 4), none, 0⟩,
    ⟨(some 6), .move (.tmp 0), (some (5, false)), 0⟩,
    ⟨(some 7), .bin .gtr (.tmp 6) (.const (.int .i64 9)), (some (5, false)), 0⟩,
    ⟨(some 8), .pick (.tmp 5) (.const (.bool true)) (.tmp 7), none, 0⟩,
    ⟨(some 2), .move (.tmp 8), none, 0⟩] false) (.ret))
set_option maxRecDepth 100000 in
theorem c94_ok : FunOK Try.prog 94 9 [.tmp 2] c94 := ⟨⟨Try.f94, Try.func94, rfl, by kernel_rfl, rfl, by kernel_rfl⟩⟩
def c82 : PC := .seq (.ops [⟨(some 2), .box (.tmp 0), none, 0⟩,
    ⟨(some 4), .move (.const (.slice none 0 0)), none, 0⟩,
    ⟨(some 5), .move (.const (.int .i64 0)), none, 0⟩] false) (.seq (.ops [⟨(some 9), .loadA 2 (.tmp 2), none, 0⟩,
    ⟨(some 10), .call 44 [(.tmp 9)], none, 0⟩,
    ⟨(some 8), .move (.tmp 10), none, 0⟩,
    ⟨(some 11), .ext 0 (.tmp 8), none, 0⟩,
    ⟨(some 12), .ext 1 (.tmp 8), none, 0⟩,
    ⟨(some 6), .move (.tmp 11), none, 0⟩,
    ⟨(some 7), .move (.tmp 12), none, 0⟩] false) (.seq (.seq (.ops [⟨(some 13), .move (.tmp 7), none, 0⟩,
    ⟨(some 14), .bin .neq (.tmp 13) (.const (.int .i64 0)), none, 0⟩] false) (.cond (.tmp 14) (.seq (.ops [⟨(some 15), .move (.tmp 7), none, 0⟩,
    ⟨(some 4), .move (.const (.slice none 0 0)), none, 0⟩,
    ⟨(some 5), .move (.tmp 15), none, 0⟩] false) (.ret)) (.skip))) (.seq (.seq (.ops [⟨(some 16), .move (.tmp 1), none, 0⟩,
    ⟨(some 17), .len (.tmp 16), none, 0⟩,
    ⟨(some 18), .faddr 1 (.tmp 2), none, 0⟩,
    ⟨(some 19), .load1 (.tmp 18), none, 0⟩,
    ⟨(some 20), .len (.tmp 19), none, 0⟩,
    ⟨(some 21), .bin .neq (.tmp 17) (.tmp 20), none, 0⟩,
    ⟨(some 22), .move (.tmp 21), none, 0⟩,
    ⟨(some 23), .move (.tmp 1), (some (22, false)), 0⟩,
    ⟨(some 24), .call 64 [(.tmp 23), (.func 94)], (some (22, false)), 0⟩,
    ⟨(some 25), .pick (.tmp 22) (.const (.bool true)) (.tmp 24), none, 0⟩] false) (.cond (.tmp 25) (.seq (.ops [⟨(some 4), .move (.const (.slice none 0 0)), none, 0⟩,
    ⟨(some 5), .move (.const (.int .i64 1)), none, 0⟩] false) (.ret)) (.skip))) (.seq (.ops [⟨(some 26), .move (.tmp 6), none, 0⟩,
    ⟨(some 4), .move (.tmp 26), none, 0⟩,
    ⟨(some 5), .move (.const (.int .i64 0)), none, 0⟩] false) (.ret)))))
set_option maxRecDepth 100000 in
theorem c82_ok : FunOK Try.prog 82 27 [.tmp 4, .tmp 5] c82 := ⟨⟨Try.f82, Try.func82, rfl, by kernel_rfl, rfl, by kernel_rfl⟩⟩
theorem game_check1 (x : Int) : PCall Try.prog 94 [.sc (.int .i64 x)] (.sc (.bool (decide (x < 0) || decide (x > 9)))) := by
  refine pcall_intro c94_ok (by simp) (by simp [PureL, Pure]) ?_ (by simp [Pure])
  (apply red_sound; focus (repeat' (first | exact Red.skip | exact Red.ret | exact RedO.nil | exact RedD.nil | exact Red.exit _ | exact Red.loop _ | exact Red.stop _ | apply Red.ops | apply Red.draw | apply Red.seq | apply Red.cond | apply Red.block | apply RedO.cons | apply RedD.cons | exact (0 : Nat))))
  ((conv => whnf); repeat (refine And.intro rfl ?_; (conv => whnf)))
  cases h : decide (x < 0)
  · ((conv => whnf); repeat (refine And.intro rfl ?_; (conv => whnf)))
    exact .refl _
  · ((conv => whnf); repeat (refine And.intro rfl ?_; (conv => whnf)))
    exact .refl _
theorem inB_ten (M : List Int) : (M.any fun x => decide (x < 0) || decide (x > 9)) = !inB M 10 := by
  unfold inB
  rw [List.all_eq_not_any_not, Bool.not_not]
  congr 1
  funext x
  by_cases h1 : x < 0 <;> by_cases h2 : x > 9 <;> simp [h1, h2] <;> omega
set_option maxRecDepth 100000 in
theorem game_check (P : ProcD) (hP : P.Fits) (M : List Int) (hM : M.length ≤ 9223372036854775807) : PCall Try.prog 82 [dproc P, dints M] (.tup [dsteps (P.markL M), .sc (.int .i64 (P.markE M))]) := by
  refine pcall_intro c82_ok (by simp) (by simp [PureL, Pure, pure_dproc, pure_dints]) ?_ (by simp [Pure, PureL, pure_dsteps])
  have bad : ∀ {H : List AObj} {e : Int}, e ≠ 0 → P.markE M = e → Deep H (.tup [.sc (.slice none 0 0), .sc (.int .i64 e)]) (.tup [dsteps (P.markL M), .sc (.int .i64 (P.markE M))]) := fun h k => by
    have : P.markL M = [] := by unfold ProcD.markL; rw [if_neg (by rw [k]; exact h)]
    rw [k, this]
    exact .tup _ _ (.cons _ _ _ _ (.none _) (.cons _ _ _ _ (.refl _) .nil))
  have hcf := containsF_int (fun n => .sc (.int .i64 n)) (fun _ => by simp [Pure]) M hM (fun x => decide (x < 0) || decide (x > 9)) 94 [] (by simp [PureL]) fun a _ => game_check1 a
  rw [inB_ten] at hcf
  have hfl := hP.flows
  have eE : P.markE M = if P.stepsE ≠ 0 then P.stepsE else if P.markB M = true then 0 else 1 := rfl
  (apply red_sound; focus (repeat' (first | exact Red.skip | exact Red.ret | exact RedO.nil | exact RedD.nil | exact Red.exit _ | exact Red.loop _ | exact Red.stop _ | apply Red.ops | apply Red.draw | apply Red.seq | apply Red.cond | apply Red.block | apply RedO.cons | apply RedD.cons | exact (0 : Nat))))
  ((conv => whnf); repeat (refine And.intro rfl ?_; (conv => whnf)))
  (refine .inl ⟨_, (steps_Of P hP), ?_⟩; ((conv => whnf); repeat (refine And.intro rfl ?_; (conv => whnf))))
  (refine ifK_split (fun h1 => ?_) (fun h1 => ?_) <;> (rw [h1]; ((conv => whnf); repeat (refine And.intro rfl ?_; (conv => whnf)))))
  · have h1 : P.stepsE ≠ 0 := by ((try simp only [oo, reduceCtorEq] at *) <;> omega)
    exact bad h1 (by rw [eE, if_pos h1])
  have h1 : P.stepsE = 0 := by ((try simp only [oo, reduceCtorEq] at *) <;> omega)
  rw [if_neg (by omega)] at eE
  rw [List.length_map, List.length_map]
  cases h2 : ((M.length : Int) != P.flows.length)
  · have h2 : M.length = P.flows.length := by ((try simp only [oo, reduceCtorEq] at *) <;> omega)
    ((conv => whnf); repeat (refine And.intro rfl ?_; (conv => whnf)))
    (refine .inl ⟨_, hcf, ?_⟩; ((conv => whnf); repeat (refine And.intro rfl ?_; (conv => whnf))))
    have eM : P.markB M = inB M 10 := by unfold ProcD.markB; rw [decide_eq_true h2, Bool.true_and]
    cases h3 : inB M 10
    · ((conv => whnf); repeat (refine And.intro rfl ?_; (conv => whnf)))
      exact bad (by decide) (by rw [eE, if_neg (by rw [eM, h3]; decide)])
    · ((conv => whnf); repeat (refine And.intro rfl ?_; (conv => whnf)))
      have e0 : P.markE M = 0 := by rw [eE, if_pos (by rw [eM, h3])]
      have eL : P.markL M = P.stepsL := by unfold ProcD.markL; rw [if_pos e0]
      rw [e0, eL]
      exact .refl _
  · have h2 : M.length ≠ P.flows.length := by ((try simp only [oo, reduceCtorEq] at *) <;> omega)
    ((conv => whnf); repeat (refine And.intro rfl ?_; (conv => whnf)))
    exact bad (by decide) (by rw [eE, if_neg (by unfold ProcD.markB; rw [decide_eq_false h2]; simp)])
def c67_1 : PC := .seq (.ops [⟨(some 23), .bin .lss (.tmp 22) (.tmp 21), none, 0⟩] false) (.seq (.cond (.tmp 23) (.skip) (.exit 0)) (.seq (.block 1 (.seq (.ops [⟨(some 24), .move (.tmp 22), none, 0⟩,
    ⟨(some 25), .iaddr 3 (.tmp 20) (.tmp 22), none, 0⟩,
    ⟨(some 26), .loadA 3 (.tmp 25), none, 0⟩,
    ⟨(some 10), .alloc [(.int .i64 0), (.int .i64 0), (.int .i64 0)], none, 0⟩,
    ⟨(some 9), .move (.tmp 24), none, 0⟩,
    ⟨none, .store 3 (.tmp 10) (.tmp 26), none, 0⟩] false) (.seq (.ops [⟨(some 27), .loadA 2 (.tmp 2), none, 0⟩,
    ⟨(some 28), .move (.tmp 1), none, 0⟩,
    ⟨(some 29), .loadA 3 (.tmp 10), none, 0⟩,
    ⟨(some 30), .call 83 [(.tmp 27), (.tmp 28), (.tmp 29)], none, 0⟩] false) (.cond (.tmp 30) (.ops [⟨(some 31), .move (.tmp 8), none, 0⟩,
    ⟨(some 32), .move (.tmp 9), none, 0⟩,
    ⟨(some 33), .bslice 1 1 [(.tmp 32)], none, 0⟩,
    ⟨(some 34), .append 1 8 (.tmp 31) (.tmp 33), none, 0⟩,
    ⟨(some 8), .move (.tmp 34), none, 0⟩] false) (.skip))))) (.ops [⟨(some 35), .bin .add (.tmp 22) (.const (.int .i64 1)), none, 0⟩,
    ⟨(some 22), .move (.tmp 35), none, 0⟩] false)))
def c67 : PC := .seq (.ops [⟨(some 2), .box (.tmp 0), none, 0⟩,
    ⟨(some 4), .move (.const (.slice none 0 0)), none, 0⟩,
    ⟨(some 5), .move (.const (.int .i64 0)), none, 0⟩] false) (.seq (.ops [⟨(some 12), .loadA 2 (.tmp 2), none, 0⟩,
    ⟨(some 13), .move (.tmp 1), none, 0⟩,
    ⟨(some 14), .call 82 [(.tmp 12), (.tmp 13)], none, 0⟩,
    ⟨(some 11), .move (.tmp 14), none, 0⟩,
    ⟨(some 15), .ext 0 (.tmp 11), none, 0⟩,
    ⟨(some 16), .ext 1 (.tmp 11), none, 0⟩,
    ⟨(some 6), .move (.tmp 15), none, 0⟩,
    ⟨(some 7), .move (.tmp 16), none, 0⟩] false) (.seq (.seq (.ops [⟨(some 17), .move (.tmp 7), none, 0⟩,
    ⟨(some 18), .bin .neq (.tmp 17) (.const (.int .i64 0)), none, 0⟩] false) (.cond (.tmp 18) (.seq (.ops [⟨(some 19), .move (.tmp 7), none, 0⟩,
    ⟨(some 4), .move (.const (.slice none 0 0)), none, 0⟩,
    ⟨(some 5), .move (.tmp 19), none, 0⟩] false) (.ret)) (.skip))) (.seq (.ops [⟨(some 8), .move (.const (.slice none 0 0)), none, 0⟩] false) (.seq (.seq (.ops [⟨(some 20), .move (.tmp 6), none, 0⟩,
    ⟨(some 21), .len (.tmp 20), none, 0⟩,
    ⟨(some 22), .move (.const (.int .i64 0)), none, 0⟩] false) (.block 0 (.loop c67_1))) (.seq (.ops [⟨(some 36), .move (.tmp 8), none, 0⟩,
    ⟨(some 4), .move (.tmp 36), none, 0⟩,
    ⟨(some 5), .move (.const (.int .i64 0)), none, 0⟩] false) (.ret))))))
set_option maxRecDepth 100000 in
theorem c67_ok : FunOK Try.prog 67 37 [.tmp 4, .tmp 5] c67 := ⟨⟨Try.f67, Try.func67, rfl, by kernel_rfl, rfl, by kernel_rfl⟩⟩
noncomputable def ProcD.enL (P : ProcD) (M : List Int) : List Int := if P.markE M = 0 then P.mayTo M P.stepsL P.stepsL.length else []
set_option maxRecDepth 100000 in
theorem game_Enabled (P : ProcD) (hP : P.Fits) (M : List Int) (hM : M.length ≤ 9223372036854775807) : PCall Try.prog 67 [dproc P, dints M] (.tup [dints (P.enL M), .sc (.int .i64 (P.markE M))]) := by
  refine pcall_intro c67_ok (by simp) (by simp [PureL, Pure, pure_dproc, pure_dints]) ?_ (by simp [Pure, PureL, pure_dints])
  (apply red_sound; focus (repeat' (first | exact Red.skip | exact Red.ret | exact RedO.nil | exact RedD.nil | exact Red.exit _ | exact Red.loop _ | exact Red.stop _ | apply Red.ops | apply Red.draw | apply Red.seq | apply Red.cond | apply Red.block | apply RedO.cons | apply RedD.cons | exact (0 : Nat))))
  ((conv => whnf); repeat (refine And.intro rfl ?_; (conv => whnf)))
  (refine .inl ⟨_, (game_check P hP M hM), ?_⟩; ((conv => whnf); repeat (refine And.intro rfl ?_; (conv => whnf))))
  (refine ifK_split (fun h1 => ?_) (fun h1 => ?_) <;> (rw [h1]; ((conv => whnf); repeat (refine And.intro rfl ?_; (conv => whnf)))))
  · have h1 : P.markE M ≠ 0 := by ((try simp only [oo, reduceCtorEq] at *) <;> omega)
    have : P.enL M = [] := by unfold ProcD.enL; rw [if_neg h1]
    rw [this]
    exact .tup _ _ (.cons _ _ _ _ (.none _) (.cons _ _ _ _ (.refl _) .nil))
  have h1 : P.markE M = 0 := by ((try simp only [oo, reduceCtorEq] at *) <;> omega)
  obtain ⟨hE, hB⟩ := ProcD.markE_zero h1
  obtain ⟨h0, _, h60⟩ := ProcD.stepsE_zero hE
  have hK := ProcD.mark_of hB
  have eL : P.markL M = P.stepsL := by unfold ProcD.markL; rw [if_pos h1]
  have eN : P.enL M = P.mayTo M P.stepsL P.stepsL.length := by unfold ProcD.enL; rw [if_pos h1]
  rw [eL, h1, eN, srows_len]
  refine pwp_ghostB (leB_nil 8 1 (by simp) rfl) ?_
  refine pwp_for [1, 2, 20, 21] (fun ((k, c, l) : Nat × Nat × List Int) => [(8, .own 1 c 0 c), (22, .sc (.int .i64 k))]) (fun (k, c, l) => [(1, .vec true c 1 (i64s l))]) (fun (k, c, l) => k ≤ P.stepsL.length ∧ c = l.length ∧ c ≤ k ∧ l = P.mayTo M P.stepsL k) (fun (k, c, l) => P.stepsL.length - k) (0, 0, []) ?_
  ((conv => whnf); repeat (refine And.intro rfl ?_; (conv => whnf)))
  refine ⟨⟨by omega, rfl, by omega, rfl⟩, by (repeat' (first | exact trivial | refine And.intro rfl ?_)), rfl, ?_⟩
  rintro ⟨k, c, l⟩ ⟨hk, hc, hck, hl⟩
  ((conv => whnf); repeat (refine And.intro rfl ?_; (conv => whnf)))
  (apply red_sound; focus (repeat' (first | exact Red.skip | exact Red.ret | exact RedO.nil | exact RedD.nil | exact Red.exit _ | exact Red.loop _ | exact Red.stop _ | apply Red.ops | apply Red.draw | apply Red.seq | apply Red.cond | apply Red.block | apply RedO.cons | apply RedD.cons | exact (0 : Nat))))
  ((conv => whnf); repeat (refine And.intro rfl ?_; (conv => whnf)))
  (refine ifK_split (fun h2 => ?_) (fun h2 => ?_) <;> (rw [h2]; ((conv => whnf); repeat (refine And.intro rfl ?_; (conv => whnf)))))
  · have hk' : k < P.stepsL.length := by ((try simp only [oo, reduceCtorEq] at *) <;> omega)
    have hsk := ProcD.stepAt_ok hE hk'
    have eT : P.mayTo M P.stepsL (k + 1) = if P.mayB M (P.stepsL.getD k (0, 0, 0)) = true then P.mayTo M P.stepsL k ++ [(k : Int)] else P.mayTo M P.stepsL k := rfl
    refine ⟨by omega, _, step_atD (k := k) (by omega) hk', ?_⟩
    ((conv => whnf); repeat (refine And.intro rfl ?_; (conv => whnf)))
    generalize P.stepsL.getD k (0, 0, 0) = s at hsk eT
    (refine .inl ⟨_, (game_enabled P hP h0 M hK s hsk), ?_⟩; ((conv => whnf); repeat (refine And.intro rfl ?_; (conv => whnf))))
    cases hm : P.mayB M s
    · ((conv => whnf); repeat (refine And.intro rfl ?_; (conv => whnf)))
      (refine .inl ⟨by (unfold InR; rw [IntKind.wrap_i64]; omega), ?_⟩; ((conv => whnf); repeat (refine And.intro rfl ?_; (conv => whnf))))
      refine ⟨(k + 1, c, l), ⟨by omega, hc, by omega, by rw [eT, hm, hl]; rfl⟩, by dsimp only; omega, ?_⟩
      (refine leB_close 2 (by simp) rfl ?_ ?_ <;> (repeat' (first | exact trivial | exact rfl | exact DeepM.refl _ | exact DeepML.refl _ | exact DeepMLL.refl _ | refine And.intro ?_ ?_ | (simp [Under, UnderL, UnderLL, -List.map_take, -List.map_drop]; done))))
    · ((conv => whnf); repeat (refine And.intro rfl ?_; (conv => whnf)))
      refine ⟨(by unfold sliceAppend; simp only [ll]; omega), ?_⟩
      ((conv => whnf); repeat (refine And.intro rfl ?_; (conv => whnf)))
      (refine .inl ⟨by (unfold InR; rw [IntKind.wrap_i64]; omega), ?_⟩; ((conv => whnf); repeat (refine And.intro rfl ?_; (conv => whnf))))
      refine ⟨(k + 1, c + 1, l ++ [(k : Int)]), ⟨by omega, by simp [hc], by omega, by rw [eT, hm, hl]; rfl⟩, by dsimp only; omega, ?_⟩
      (refine leB_close 2 (by simp) rfl ?_ ?_ <;> (repeat' (first | exact trivial | exact rfl | exact DeepM.refl _ | exact DeepML.refl _ | exact DeepMLL.refl _ | refine And.intro ?_ ?_ | (simp [Under, UnderL, UnderLL, -List.map_take, -List.map_drop]; done))))
      exact deepMLL_eq (i64s_snoc hc)
  · have hk' : k = P.stepsL.length := by have : ¬ k < P.stepsL.length := by ((try simp only [oo, reduceCtorEq] at *) <;> omega)
                                         omega
    subst hk'
    rw [← hl]
    exact .tup _ _ (.cons _ _ _ _ (deep_ints hc rfl) (.cons _ _ _ _ (.refl _) .nil))
def c45_1 : PC := .seq (.ops [⟨(some 25), .bin .lss (.tmp 24) (.tmp 23), none, 0⟩] false) (.seq (.cond (.tmp 25) (.skip) (.exit 0)) (.seq (.block 1 (.seq (.ops [⟨(some 26), .move (.tmp 24), none, 0⟩,
    ⟨(some 27), .iaddr 2 (.tmp 22) (.tmp 24), none, 0⟩,
    ⟨(some 28), .loadA 2 (.tmp 27), none, 0⟩,
    ⟨(some 8), .alloc [(.int .i64 0), (.int .i64 0)], none, 0⟩,
    ⟨(some 7), .move (.tmp 26), none, 0⟩,
    ⟨none, .store 2 (.tmp 8) (.tmp 28), none, 0⟩] false) (.seq (.ops [⟨(some 29), .faddr 0 (.tmp 1), none, 0⟩,
    ⟨(some 30), .load1 (.tmp 29), none, 0⟩,
    ⟨(some 31), .faddr 0 (.tmp 8), none, 0⟩,
    ⟨(some 32), .load1 (.tmp 31), none, 0⟩,
    ⟨(some 33), .iaddr 2 (.tmp 30) (.tmp 32), none, 0⟩,
    ⟨(some 34), .faddr 1 (.tmp 33), none, 0⟩,
    ⟨(some 35), .load1 (.tmp 34), none, 0⟩,
    ⟨(some 36), .bin .eql (.tmp 35) (.const (.int .i64 1)), none, 0⟩] false) (.cond (.tmp 36) (.ops [⟨(some 37), .move (.tmp 6), none, 0⟩,
    ⟨(some 38), .move (.tmp 7), none, 0⟩,
    ⟨(some 39), .iaddr 1 (.tmp 37) (.tmp 38), none, 0⟩,
    ⟨none, .store 1 (.tmp 39) (.const (.int .i64 1)), none, 0⟩] false) (.skip))))) (.ops [⟨(some 40), .bin .add (.tmp 24) (.const (.int .i64 1)), none, 0⟩,
    ⟨(some 24), .move (.tmp 40), none, 0⟩] false)))
def c45 : PC := .seq (.ops [⟨(some 1), .box (.tmp 0), none, 0⟩,
    ⟨(some 2), .move (.const (.slice none 0 0)), none, 0⟩,
    ⟨(some 3), .move (.const (.int .i64 0)), none, 0⟩] false) (.seq (.seq (.ops [⟨(some 10), .loadA 2 (.tmp 1), none, 0⟩,
    ⟨(some 11), .call 44 [(.tmp 10)], none, 0⟩,
    ⟨(some 9), .move (.tmp 11), none, 0⟩,
    ⟨(some 12), .ext 0 (.tmp 9), none, 0⟩,
    ⟨(some 13), .ext 1 (.tmp 9), none, 0⟩,
    ⟨(some 4), .move (.tmp 12), none, 0⟩,
    ⟨(some 5), .move (.tmp 13), none, 0⟩] false) (.seq (.ops [⟨(some 14), .move (.tmp 5), none, 0⟩,
    ⟨(some 15), .bin .neq (.tmp 14) (.const (.int .i64 0)), none, 0⟩] false) (.cond (.tmp 15) (.seq (.ops [⟨(some 16), .move (.tmp 5), none, 0⟩,
    ⟨(some 2), .move (.const (.slice none 0 0)), none, 0⟩,
    ⟨(some 3), .move (.tmp 16), none, 0⟩] false) (.ret)) (.skip)))) (.seq (.ops [⟨(some 17), .faddr 1 (.tmp 1), none, 0⟩,
    ⟨(some 18), .load1 (.tmp 17), none, 0⟩,
    ⟨(some 19), .len (.tmp 18), none, 0⟩,
    ⟨(some 20), .mslice 1 8 [(.int .i64 0)] (.tmp 19) (.tmp 19), none, 0⟩,
    ⟨(some 6), .move (.tmp 20), none, 0⟩] false) (.seq (.seq (.ops [⟨(some 21), .faddr 1 (.tmp 1), none, 0⟩,
    ⟨(some 22), .load1 (.tmp 21), none, 0⟩,
    ⟨(some 23), .len (.tmp 22), none, 0⟩,
    ⟨(some 24), .move (.const (.int .i64 0)), none, 0⟩] false) (.block 0 (.loop c45_1))) (.seq (.ops [⟨(some 41), .move (.tmp 6), none, 0⟩,
    ⟨(some 2), .move (.tmp 41), none, 0⟩,
    ⟨(some 3), .move (.const (.int .i64 0)), none, 0⟩] false) (.ret)))))
set_option maxRecDepth 100000 in
theorem c45_ok : FunOK Try.prog 45 42 [.tmp 2, .tmp 3] c45 := ⟨⟨Try.f45, Try.func45, rfl, by kernel_rfl, rfl, by kernel_rfl⟩⟩
set_option maxRecDepth 100000 in
theorem game_Begin (P : ProcD) (hP : P.Fits) : PCall Try.prog 45 [dproc P] (.tup [dints P.beginL, .sc (.int .i64 P.stepsE)]) := by
  refine pcall_intro c45_ok (by simp) (by simp [PureL, Pure, pure_dproc]) ?_ (by simp [Pure, PureL, pure_dints])
  (apply red_sound; focus (repeat' (first | exact Red.skip | exact Red.ret | exact RedO.nil | exact RedD.nil | exact Red.exit _ | exact Red.loop _ | exact Red.stop _ | apply Red.ops | apply Red.draw | apply Red.seq | apply Red.cond | apply Red.block | apply RedO.cons | apply RedD.cons | exact (0 : Nat))))
  ((conv => whnf); repeat (refine And.intro rfl ?_; (conv => whnf)))
  (refine .inl ⟨_, (steps_Of P hP), ?_⟩; ((conv => whnf); repeat (refine And.intro rfl ?_; (conv => whnf))))
  (refine ifK_split (fun h1 => ?_) (fun h1 => ?_) <;> (rw [h1]; ((conv => whnf); repeat (refine And.intro rfl ?_; (conv => whnf)))))
  · have h1 : P.stepsE ≠ 0 := by ((try simp only [oo, reduceCtorEq] at *) <;> omega)
    have : P.beginL = [] := by unfold ProcD.beginL; rw [if_neg h1]
    rw [this]
    exact .tup _ _ (.cons _ _ _ _ (.none _) (.cons _ _ _ _ (.refl _) .nil))
  have h1 : P.stepsE = 0 := by ((try simp only [oo, reduceCtorEq] at *) <;> omega)
  obtain ⟨h0, _, _⟩ := ProcD.stepsE_zero h1
  obtain ⟨hs1, hs2⟩ := chk_small h0
  have eB : P.beginL = gl P.flows.length (begG P) := by unfold ProcD.beginL; rw [if_pos h1]
  rw [List.length_map, h1, eB]
  refine ⟨by omega, by omega, by omega, ?_⟩
  rw [Int.toNat_natCast, show List.map D.sc [Value.int .i64 0] = [D.sc (.int .i64 0)] from rfl, gl_rep]
  ((conv => whnf); repeat (refine And.intro rfl ?_; (conv => whnf)))
  rw [List.length_map]
  refine pwp_for [1, 6, 22, 23] (fun ((k, g) : Nat × (Nat → Int)) => [(24, .sc (.int .i64 k))]) (fun (k, g) => [(1, .vec true 0 1 (i64s (gl P.flows.length g)))]) (fun (k, g) => k ≤ P.flows.length ∧ ∀ i, g i = if i < k then begG P i else 0) (fun (k, g) => P.flows.length - k) (0, fun _ => 0) ?_
  ((conv => whnf); repeat (refine And.intro rfl ?_; (conv => whnf)))
  refine ⟨⟨by omega, fun i => rfl⟩, by (repeat' (first | exact trivial | refine And.intro rfl ?_)), rfl, ?_⟩
  rintro ⟨k, g⟩ ⟨hk, hg⟩
  ((conv => whnf); repeat (refine And.intro rfl ?_; (conv => whnf)))
  (apply red_sound; focus (repeat' (first | exact Red.skip | exact Red.ret | exact RedO.nil | exact RedD.nil | exact Red.exit _ | exact Red.loop _ | exact Red.stop _ | apply Red.ops | apply Red.draw | apply Red.seq | apply Red.cond | apply Red.block | apply RedO.cons | apply RedD.cons | exact (0 : Nat))))
  ((conv => whnf); repeat (refine And.intro rfl ?_; (conv => whnf)))
  (refine ifK_split (fun h2 => ?_) (fun h2 => ?_) <;> (rw [h2]; ((conv => whnf); repeat (refine And.intro rfl ?_; (conv => whnf)))))
  · have hk' : k < P.flows.length := by ((try simp only [oo, reduceCtorEq] at *) <;> omega)
    have hfk := ProcD.flowOK_iff.1 (flowOK_of h0 k hk')
    refine ⟨by omega, _, flow_at P (k := k) (by omega) hk', ?_⟩
    ((conv => whnf); repeat (refine And.intro rfl ?_; (conv => whnf)))
    refine ⟨by omega, _, node_at P (k := (P.src k).toNat) (by omega) (by omega), ?_⟩
    ((conv => whnf); repeat (refine And.intro rfl ?_; (conv => whnf)))
    (refine ifK_split (fun h3 => ?_) (fun h3 => ?_) <;> (rw [h3]; ((conv => whnf); repeat (refine And.intro rfl ?_; (conv => whnf)))))
    · have h3 : P.kind (P.src k).toNat = 1 := by ((try simp only [oo, reduceCtorEq] at *) <;> omega)
      (refine ⟨by omega, (by first | omega | (simp; done) | (simp; omega) | (simp only [ll]; omega)), ?_⟩; ((conv => whnf); repeat (refine And.intro rfl ?_; (conv => whnf))))
      refine ⟨_, gl_atN k (by omega) (by omega), ?_⟩
      ((conv => whnf); repeat (refine And.intro rfl ?_; (conv => whnf)))
      (refine .inl ⟨by (unfold InR; rw [IntKind.wrap_i64]; omega), ?_⟩; ((conv => whnf); repeat (refine And.intro rfl ?_; (conv => whnf))))
      refine ⟨(k + 1, putA g k 1), ⟨by omega, fun i => ?_⟩, by dsimp only; omega, ?_⟩
      · by_cases e : i = k
        · subst e
          rw [putA_self, if_pos (by omega)]
          unfold begG
          rw [if_pos h3]
        · rw [putA_ne e, hg]
          by_cases q : i < k
          · rw [if_pos q, if_pos (by omega)]
          · rw [if_neg q, if_neg (by omega)]
      · (refine leB_close 2 (by simp) rfl ?_ ?_ <;> (repeat' (first | exact trivial | exact rfl | exact DeepM.refl _ | exact DeepML.refl _ | exact DeepMLL.refl _ | refine And.intro ?_ ?_ | (simp [Under, UnderL, UnderLL, -List.map_take, -List.map_drop]; done))))
        exact deepMLL_eq (gl_set (by omega))
    · have h3 : P.kind (P.src k).toNat ≠ 1 := by ((try simp only [oo, reduceCtorEq] at *) <;> omega)
      (refine .inl ⟨by (unfold InR; rw [IntKind.wrap_i64]; omega), ?_⟩; ((conv => whnf); repeat (refine And.intro rfl ?_; (conv => whnf))))
      refine ⟨(k + 1, g), ⟨by omega, fun i => ?_⟩, by dsimp only; omega, ?_⟩
      · rw [hg]
        by_cases e : i = k
        · subst e
          rw [if_neg (by omega), if_pos (by omega)]
          unfold begG
          rw [if_neg h3]
        · by_cases q : i < k
          · rw [if_pos q, if_pos (by omega)]
          · rw [if_neg q, if_neg (by omega)]
      · (refine leB_close 2 (by simp) rfl ?_ ?_ <;> (repeat' (first | exact trivial | exact rfl | exact DeepM.refl _ | exact DeepML.refl _ | exact DeepMLL.refl _ | refine And.intro ?_ ?_ | (simp [Under, UnderL, UnderLL, -List.map_take, -List.map_drop]; done))))
  · have hk' : k = P.flows.length := by have : ¬ k < P.flows.length := by ((try simp only [oo, reduceCtorEq] at *) <;> omega)
                                        omega
    subst hk'
    have e : gl P.flows.length (begG P) = gl P.flows.length g := gl_congr fun i hi => by rw [hg, if_pos hi]
    rw [e]
    exact .tup _ _ (.cons _ _ _ _ (deep_gl rfl) (.cons _ _ _ _ (.refl _) .nil))
end Go.Proofs.Ytikdngjdhncioaa
