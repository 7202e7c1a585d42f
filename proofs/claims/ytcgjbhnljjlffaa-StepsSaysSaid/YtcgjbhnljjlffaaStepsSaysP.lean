/-
  watchlaw.StepsSays returns true for every process, and the argument reads afterwards as it read before. No conditions.
-/
import Derived.Test.YtcgjbhnljjlffaaDC
import Derived.Test.YtcgjbhnljjlffaaAp
import Derived.Test.YtcgjbhnljjlffaaSt2
import Derived.Test.YtcgjbhnljjlffaaSt3
import Derived.Test.YtcgjbhnljjlffaaRows
namespace Go.Proofs.Ytcgjbhnljjlffaa
open Go.RowKit Go.ChangeShapes Go.WideShapes Go.ChangeAt
set_option linter.unusedSimpArgs false
set_option linter.unusedVariables false
def c10 : PC := .seq (.ops [⟨(some 1), .box (.tmp 0), none, 0⟩,
    ⟨(some 2), .move (.const (.bool false)), none, 0⟩] false) (.seq (.ops [⟨(some 8), .loadA 2 (.tmp 1), none, 0⟩,
    ⟨(some 9), .call 45 [(.tmp 8)], none, 0⟩,
    ⟨(some 7), .move (.tmp 9), none, 0⟩,
    ⟨(some 10), .ext 0 (.tmp 7), none, 0⟩,
    ⟨(some 11), .ext 1 (.tmp 7), none, 0⟩,
    ⟨(some 3), .move (.tmp 10), none, 0⟩,
    ⟨(some 4), .move (.tmp 11), none, 0⟩] false) (.seq (.ops [⟨(some 13), .loadA 2 (.tmp 1), none, 0⟩,
    ⟨(some 14), .call 46 [(.tmp 13)], none, 0⟩,
    ⟨(some 12), .move (.tmp 14), none, 0⟩,
    ⟨(some 15), .ext 0 (.tmp 12), none, 0⟩,
    ⟨(some 16), .ext 1 (.tmp 12), none, 0⟩,
    ⟨(some 5), .move (.tmp 15), none, 0⟩,
    ⟨(some 6), .move (.tmp 16), none, 0⟩] false) (.seq (.ops [⟨(some 17), .move (.tmp 3), none, 0⟩,
    ⟨(some 18), .move (.tmp 5), none, 0⟩,
    ⟨(some 19), .call 47 [(.tmp 17), (.tmp 18)], none, 0⟩,
    ⟨(some 20), .move (.tmp 19), none, 0⟩,
    ⟨(some 21), .move (.tmp 4), (some (20, true)), 0⟩,
    ⟨(some 22), .move (.tmp 6), (some (20, true)), 0⟩,
    ⟨(some 23), .bin .eql (.tmp 21) (.tmp 22), (some (20, true)), 0⟩,
    ⟨(some 24), .pick (.tmp 20) (.tmp 23) (.const (.bool false)), none, 0⟩,
    ⟨(some 2), .move (.tmp 24), none, 0⟩] false) (.ret))))
set_option maxRecDepth 100000 in
theorem c10_ok : FunOK Try.prog 10 25 [.tmp 2] c10 := ⟨⟨Try.f10, Try.func10, rfl, by kernel_rfl, rfl, by kernel_rfl⟩⟩
set_option maxRecDepth 100000 in
theorem law_StepsSays (P : ProcD) (hP : P.Fits) : PCall Try.prog 10 [dproc P] (dbool true) := by
  have hlen : P.stepsL.length ≤ 9223372036854775807 := by
    unfold ProcD.stepsL
    split
    · rename_i h
      have h0 : P.chk = 0 := by unfold ProcD.stepsE at h; split at h; exact absurd h (by assumption); omega
      have := ProcD.stepsTo_len (chk_small h0).2 P.nodes.length (ProcD.nodeOK_of h0)
      have := (chk_small h0).1
      omega
    · simp
  refine pcall_intro c10_ok (by simp) (by simp [PureL, Pure, pure_dproc]) ?_ (by simp [dbool, Pure])
  (apply red_sound; focus (repeat' (first | exact Red.skip | exact Red.ret | exact RedO.nil | exact RedD.nil | exact Red.exit _ | exact Red.loop _ | exact Red.stop _ | apply Red.ops | apply Red.draw | apply Red.seq | apply Red.cond | apply Red.block | apply RedO.cons | apply RedD.cons | exact (0 : Nat))))
  ((conv => whnf); repeat (refine And.intro rfl ?_; (conv => whnf)))
  (refine .inl ⟨_, (steps_Of P hP), ?_⟩; ((conv => whnf); repeat (refine And.intro rfl ?_; (conv => whnf))))
  (refine .inl ⟨_, (ref_Steps P hP), ?_⟩; ((conv => whnf); repeat (refine And.intro rfl ?_; (conv => whnf))))
  (refine .inl ⟨_, (equal_step P.stepsL P.stepsL hlen), ?_⟩; ((conv => whnf); repeat (refine And.intro rfl ?_; (conv => whnf))))
  have h1 : decide (P.stepsL = P.stepsL) = true := decide_eq_true rfl
  rw [h1]
  ((conv => whnf); repeat (refine And.intro rfl ?_; (conv => whnf)))
  have h2 : (P.stepsE == P.stepsE) = true := by simp
  rw [h2]
  exact .refl _
namespace stepsSays
set_option maxRecDepth 100000 in
theorem law : ∀ Ds, OfAs Try.prog [63] Ds → PCall Try.prog 10 Ds (dbool true)
  | [d], h => by
    obtain ⟨P, rfl, hP⟩ := argProc h.1
    exact law_StepsSays P hP
theorem types : typesOK Try.prog [63, 60, 61, 156, 158, 9, 3] = true := by kernel_rfl
set_option maxRecDepth 100000 in
theorem laidOut : laidOutB Try.prog = true := by kernel_rfl
set_option maxRecDepth 100000 in
theorem readable : (Try.f10.params.toList.all fun t => Try.prog.readableRec t && decide (t < Try.prog.types.size)) = true := by kernel_rfl
theorem own : ownKnob Try.prog.godebug = none := by kernel_rfl
set_option maxRecDepth 100000 in
theorem lifted (os : Os) (started : os.Started) (H : Type) (enc : TypeId × Value → H) :
    ReturnsInHanded {} Try.checked os 10 .any (Rows.stepsSaysSpec.pre6 enc Try.prog Try.f10 Rows.stepsSaysRow.domain false) (Rows.stepsSaysSpec.post enc Try.prog Try.f10 false true false false) := by
  refine returnsInHanded_of_change_sized (C := Try.checked) own started (by kernel_rfl) Try.func10
    (ChangeSpec.witness6 (enc := enc) (C := Try.checked) false ⟨#[], #[.agg #[.slice none 0 0, .slice none 0 0]], []⟩ 8 (by kernel_rfl) (by kernel_rfl) (by kernel_rfl) (by kernel_rfl)) ?_
  intro W base args ds gs before hval0 hW _ hsz _
  have hval : ∀ (j : Nat) t v, Try.f10.params[j]? = some t → args[j]? = some v → Value.okWide Try.prog W .any base t v := hval0
  have hW' := hW
  obtain ⟨p, q, hA0, hV, _, hfz, hnd⟩ := hW
  have hA : DataW.TrodAll enc Try.prog W 0 (fun _ => true) true Try.f10.params.toList args.toList ds p := hA0
  have hps : Try.f10.params.toList = [63] := by kernel_rfl
  obtain ⟨Ds, hD, hR⟩ := args_rep types (base := base) _ _ _ _ (fun t ht => by rw [hps] at ht; revert t; decide) (fun j t v h1 h2 => hval j t v (by simpa using h1) (by simpa using h2)) hA fun n hn => by
    have := List.all_eq_true.1 hsz n (weightsEach_pre _ _ _ _ (trodAll_len _ _ _ _ hA).symm n hn)
    simpa using this
  rw [hps] at hD
  have hC := (law Ds hD).run noInj (There W) W args.toList (fun b h => h) hR
  rw [show args.toList.toArray = args from rfl] at hC
  refine hC.mono fun e W' ⟨v, F', he, _, hv, hx⟩ => ?_
  have hv' : v = .bool true := by simpa only [rep, dbool] using hv
  subst he hv'
  exact ⟨_, rfl, row_post hW' rfl (by kernel_rfl) Try.underlying4 laidOut (fun t ht => by
      have := List.all_eq_true.1 readable t ht
      simp only [Bool.and_eq_true, decide_eq_true_eq] at this
      exact this) (fun ds h => by rw [hps] at h; match ds, h with | [_], _ => rfl) (below_of_ext hx) (ok_one (by kernel_rfl) rfl (okWide_bool_mk Try.underlying4 _))⟩

theorem over : Rows.stepsSaysRow.holds Try.pinned (OpenSpec.ofChange Rows.stepsSaysSpec) :=
  OpenClaim.holds_of_wide 10 Try.f10 rfl rfl rfl rfl rfl rfl rfl ⟨rfl, rfl, rfl, rfl, rfl⟩ rfl rfl rfl rfl rfl (by kernel_rfl) Try.func10 (by kernel_rfl)
    (of_decide_eq_true (by kernel_rfl)) (by unfold Func.isWrapper; first | (rw [if_pos (by decide +kernel)]; kernel_rfl) | (rw [if_neg (by decide +kernel)]; exact ⟨rfl, rfl⟩))
    (fun os started H enc _ => lifted os started H enc)

theorem proved : Rows.StepsSaysSaid := over
end stepsSays
end Go.Proofs.Ytcgjbhnljjlffaa
