/-
  The program's answers on flows in and out, over deep values. No statement is proved here.
-/
import Derived.Test.YtikdngjdhncioaaPr2
namespace Go.Proofs.Ytikdngjdhncioaa
open Go.RowKit
set_option linter.unusedSimpArgs false
set_option linter.unusedVariables false
noncomputable def ProcD.listE (P : ProcD) (n : Int) : Int := if P.chk ≠ 0 then P.chk else if n < 0 ∨ (P.nodes.length : Int) ≤ n then 1 else 0
theorem chk_small {P : ProcD} (h : P.chk = 0) : P.nodes.length ≤ 20 ∧ P.flows.length ≤ 30 := by
  unfold ProcD.chk at h
  split at h
  · exact absurd h (by decide)
  · omega
def c93 : PC := .seq (.ops [⟨(some 3), .box (.tmp 0), none, 0⟩,
    ⟨(some 6), .move (.const (.slice none 0 0)), none, 0⟩,
    ⟨(some 7), .move (.const (.int .i64 0)), none, 0⟩] false) (.seq (.seq (.ops [⟨(some 9), .loadA 2 (.tmp 3), none, 0⟩,
    ⟨(some 10), .call 62 [(.tmp 9)], none, 0⟩,
    ⟨(some 8), .move (.tmp 10), none, 0⟩] false) (.seq (.ops [⟨(some 11), .move (.tmp 8), none, 0⟩,
    ⟨(some 12), .bin .neq (.tmp 11) (.const (.int .i64 0)), none, 0⟩] false) (.cond (.tmp 12) (.seq (.ops [⟨(some 13), .move (.tmp 8), none, 0⟩,
    ⟨(some 6), .move (.const (.slice none 0 0)), none, 0⟩,
    ⟨(some 7), .move (.tmp 13), none, 0⟩] false) (.ret)) (.skip)))) (.seq (.seq (.ops [⟨(some 14), .move (.tmp 1), none, 0⟩,
    ⟨(some 15), .bin .lss (.tmp 14) (.const (.int .i64 0)), none, 0⟩,
    ⟨(some 16), .move (.tmp 15), none, 0⟩,
    ⟨(some 17), .move (.tmp 1), (some (16, false)), 0⟩,
    ⟨(some 18), .faddr 0 (.tmp 3), (some (16, false)), 0⟩,
    ⟨(some 19), .load1 (.tmp 18), (some (16, false)), 0⟩,
    ⟨(some 20), .len (.tmp 19), (some (16, false)), 0⟩,
    ⟨(some 21), .bin .geq (.tmp 17) (.tmp 20), (some (16, false)), 0⟩,
    ⟨(some 22), .pick (.tmp 16) (.const (.bool true)) (.tmp 21), none, 0⟩] false) (.cond (.tmp 22) (.seq (.ops [⟨(some 6), .move (.const (.slice none 0 0)), none, 0⟩,
    ⟨(some 7), .move (.const (.int .i64 1)), none, 0⟩] false) (.ret)) (.skip))) (.seq (.ops [⟨(some 23), .move (.tmp 2), none, 0⟩,
    ⟨(some 24), .loadA 2 (.tmp 3), none, 0⟩,
    ⟨(some 25), .move (.tmp 1), none, 0⟩,
    ⟨(some 26), .callv (.tmp 23) [(.tmp 24), (.tmp 25)], none, 0⟩,
    ⟨(some 6), .move (.tmp 26), none, 0⟩,
    ⟨(some 7), .move (.const (.int .i64 0)), none, 0⟩] false) (.ret))))
set_option maxRecDepth 100000 in
theorem c93_ok : FunOK Try.prog 93 27 [.tmp 6, .tmp 7] c93 := ⟨⟨Try.f93, Try.func93, rfl, by kernel_rfl, rfl, by kernel_rfl⟩⟩
theorem proc_list (P : ProcD) (hP : P.Fits) (n : Int) (f : FuncId) (l : List Int) (hl : P.listE n = 0 → PCall Try.prog f [dproc P, .sc (.int .i64 n)] (dints l)) (hb : P.listE n ≠ 0 → l = []) :
    PCall Try.prog 93 [dproc P, .sc (.int .i64 n), .fn (.func f) [] []] (.tup [dints l, .sc (.int .i64 (P.listE n))]) := by
  have b1 := hP.nodes
  refine pcall_intro c93_ok (by simp) (by simp [PureL, Pure, pure_dproc]) ?_ (by simp [Pure, PureL, pure_dints])
  have bad : ∀ {H : List AObj} {e : Int}, e ≠ 0 → P.listE n = e → Deep H (.tup [.sc (.slice none 0 0), .sc (.int .i64 e)]) (.tup [dints l, .sc (.int .i64 (P.listE n))]) := fun h k => by
    rw [k, hb (by rw [k]; exact h)]
    exact .tup _ _ (.cons _ _ _ _ (.none _) (.cons _ _ _ _ (.refl _) .nil))
  (apply red_sound; focus (repeat' (first | exact Red.skip | exact Red.ret | exact RedO.nil | exact RedD.nil | exact Red.exit _ | exact Red.loop _ | exact Red.stop _ | apply Red.ops | apply Red.draw | apply Red.seq | apply Red.cond | apply Red.block | apply RedO.cons | apply RedD.cons | exact (0 : Nat))))
  ((conv => whnf); repeat (refine And.intro rfl ?_; (conv => whnf)))
  (refine .inl ⟨_, (proc_Check P hP), ?_⟩; ((conv => whnf); repeat (refine And.intro rfl ?_; (conv => whnf))))
  (refine ifK_split (fun h1 => ?_) (fun h1 => ?_) <;> (rw [h1]; ((conv => whnf); repeat (refine And.intro rfl ?_; (conv => whnf)))))
  · have h1 : P.chk ≠ 0 := by ((try simp only [oo, reduceCtorEq] at *) <;> omega)
    exact bad h1 (by unfold ProcD.listE; rw [if_pos h1])
  have h1 : P.chk = 0 := by ((try simp only [oo, reduceCtorEq] at *) <;> omega)
  (refine ifK_split (fun h2 => ?_) (fun h2 => ?_) <;> (rw [h2]; ((conv => whnf); repeat (refine And.intro rfl ?_; (conv => whnf)))))
  · exact bad (by decide) (by unfold ProcD.listE; rw [if_neg (by omega), if_pos (.inl (by ((try simp only [oo, reduceCtorEq] at *) <;> omega)))])
  rw [List.length_map]
  (refine ifK_split (fun h3 => ?_) (fun h3 => ?_) <;> (rw [h3]; ((conv => whnf); repeat (refine And.intro rfl ?_; (conv => whnf)))))
  · exact bad (by decide) (by unfold ProcD.listE; rw [if_neg (by omega), if_pos (.inr (by ((try simp only [oo, reduceCtorEq] at *) <;> omega)))])
  · have e : P.listE n = 0 := by unfold ProcD.listE; rw [if_neg (by omega), if_neg (by ((try simp only [oo, reduceCtorEq] at *) <;> omega))]
    (refine .inl ⟨_, (hl e), ?_⟩; ((conv => whnf); repeat (refine And.intro rfl ?_; (conv => whnf))))
    rw [e]
    exact .refl _
noncomputable def ProcD.insT (P : ProcD) (n : Int) : List Int := if P.listE n = 0 then P.inL n else []
noncomputable def ProcD.outsT (P : ProcD) (n : Int) : List Int := if P.listE n = 0 then P.outL n else []
def c79 : PC := .seq (.ops [⟨(some 2), .box (.tmp 0), none, 0⟩,
    ⟨(some 4), .move (.const (.slice none 0 0)), none, 0⟩,
    ⟨(some 5), .move (.const (.int .i64 0)), none, 0⟩] false) (.seq (.ops [⟨(some 6), .loadA 2 (.tmp 2), none, 0⟩,
    ⟨(some 7), .move (.tmp 1), none, 0⟩,
    ⟨(some 8), .call 93 [(.tmp 6), (.tmp 7), (.func 76)], none, 0⟩,
    ⟨(some 9), .ext 0 (.tmp 8), none, 0⟩,
    ⟨(some 10), .ext 1 (.tmp 8), none, 0⟩,
    ⟨(some 4), .move (.tmp 9), none, 0⟩,
    ⟨(some 5), .move (.tmp 10), none, 0⟩] false) (.ret))
set_option maxRecDepth 100000 in
theorem c79_ok : FunOK Try.prog 79 11 [.tmp 4, .tmp 5] c79 := ⟨⟨Try.f79, Try.func79, rfl, by kernel_rfl, rfl, by kernel_rfl⟩⟩
theorem proc_Ins (P : ProcD) (hP : P.Fits) (n : Int) : PCall Try.prog 79 [dproc P, .sc (.int .i64 n)] (.tup [dints (P.insT n), .sc (.int .i64 (P.listE n))]) := by
  refine pcall_intro c79_ok (by simp) (by simp [PureL, Pure, pure_dproc]) ?_ (by simp [Pure, PureL, pure_dints])
  (apply red_sound; focus (repeat' (first | exact Red.skip | exact Red.ret | exact RedO.nil | exact RedD.nil | exact Red.exit _ | exact Red.loop _ | exact Red.stop _ | apply Red.ops | apply Red.draw | apply Red.seq | apply Red.cond | apply Red.block | apply RedO.cons | apply RedD.cons | exact (0 : Nat))))
  ((conv => whnf); repeat (refine And.intro rfl ?_; (conv => whnf)))
  (refine .inl ⟨_, (proc_list P hP n 76 (P.insT n) (fun h => by
    unfold ProcD.insT
    rw [if_pos h]
    refine proc_ins P hP ?_ n
    unfold ProcD.listE at h
    split at h
    · rename_i q; exact absurd h q
    · rename_i q
      have := chk_small (Classical.not_not.1 q)
      omega) (fun h => by unfold ProcD.insT; rw [if_neg h])), ?_⟩; ((conv => whnf); repeat (refine And.intro rfl ?_; (conv => whnf))))
  exact .refl _
def c80 : PC := .seq (.ops [⟨(some 2), .box (.tmp 0), none, 0⟩,
    ⟨(some 4), .move (.const (.slice none 0 0)), none, 0⟩,
    ⟨(some 5), .move (.const (.int .i64 0)), none, 0⟩] false) (.seq (.ops [⟨(some 6), .loadA 2 (.tmp 2), none, 0⟩,
    ⟨(some 7), .move (.tmp 1), none, 0⟩,
    ⟨(some 8), .call 93 [(.tmp 6), (.tmp 7), (.func 77)], none, 0⟩,
    ⟨(some 9), .ext 0 (.tmp 8), none, 0⟩,
    ⟨(some 10), .ext 1 (.tmp 8), none, 0⟩,
    ⟨(some 4), .move (.tmp 9), none, 0⟩,
    ⟨(some 5), .move (.tmp 10), none, 0⟩] false) (.ret))
set_option maxRecDepth 100000 in
theorem c80_ok : FunOK Try.prog 80 11 [.tmp 4, .tmp 5] c80 := ⟨⟨Try.f80, Try.func80, rfl, by kernel_rfl, rfl, by kernel_rfl⟩⟩
theorem proc_Outs (P : ProcD) (hP : P.Fits) (n : Int) : PCall Try.prog 80 [dproc P, .sc (.int .i64 n)] (.tup [dints (P.outsT n), .sc (.int .i64 (P.listE n))]) := by
  refine pcall_intro c80_ok (by simp) (by simp [PureL, Pure, pure_dproc]) ?_ (by simp [Pure, PureL, pure_dints])
  (apply red_sound; focus (repeat' (first | exact Red.skip | exact Red.ret | exact RedO.nil | exact RedD.nil | exact Red.exit _ | exact Red.loop _ | exact Red.stop _ | apply Red.ops | apply Red.draw | apply Red.seq | apply Red.cond | apply Red.block | apply RedO.cons | apply RedD.cons | exact (0 : Nat))))
  ((conv => whnf); repeat (refine And.intro rfl ?_; (conv => whnf)))
  (refine .inl ⟨_, (proc_list P hP n 77 (P.outsT n) (fun h => by
    unfold ProcD.outsT
    rw [if_pos h]
    refine proc_outs P hP ?_ n
    unfold ProcD.listE at h
    split at h
    · rename_i q; exact absurd h q
    · rename_i q
      have := chk_small (Classical.not_not.1 q)
      omega) (fun h => by unfold ProcD.outsT; rw [if_neg h])), ?_⟩; ((conv => whnf); repeat (refine And.intro rfl ?_; (conv => whnf))))
  exact .refl _
end Go.Proofs.Ytikdngjdhncioaa
