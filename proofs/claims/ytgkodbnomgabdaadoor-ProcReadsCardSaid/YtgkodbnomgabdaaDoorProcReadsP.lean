/-
  ProcReads: the law. 
-/
import Derived.Test.YtgkodbnomgabdaaDoorPqb
import Derived.Test.YtgkodbnomgabdaaDoorAp
import Derived.Test.YtgkodbnomgabdaaDoorGw
import Derived.Test.YtgkodbnomgabdaaDoorCards
import Derived.Test.YtgkodbnomgabdaaDoorTie
import Derived.SevenTiedAt
namespace Go.Proofs.YtgkodbnomgabdaaDoor
open Go.RowKit Go.ChangeShapes Go.WideShapes Go.ChangeAt
set_option linter.unusedSimpArgs false
set_option linter.unusedVariables false
def c3 : PC := .seq (.ops [q 2 (.box (.tmp 0)),q 4 (.move (.const (.bool false)))] false) (.seq (.ops [q 15 (.loadA 2 (.tmp 2)),q 16 (.call 4 [(.tmp 15)]),qm 5 16] false) (.seq (.ops [q 6 (.move (.const (.string ⟨#[]⟩)))] false) (.seq (.seq (.ops [qm 17 5,q 18 (.bin .eql (.tmp 17) (.const (.int .i64 0)))] false) (.cond (.tmp 18) (.ops [q 19 (.loadA 2 (.tmp 2)),q 20 (.call 5 [(.tmp 19)]),qm 6 20] false) (.skip))) (.seq (.ops [q 22 (.loadA 2 (.tmp 2)),q 23 (.call 6 [(.tmp 22)]),qm 21 23,q 24 (.ext 0 (.tmp 21)),q 25 (.ext 1 (.tmp 21)),qm 7 24,qm 8 25] false) (.seq (.ops [qm 27 1,q 28 (.call 7 [(.tmp 27)]),qm 26 28,q 29 (.ext 0 (.tmp 26)),q 30 (.ext 1 (.tmp 26)),q 31 (.ext 2 (.tmp 26)),q 9 (.alloc [(.slice none 0 0), (.slice none 0 0)]),qn (.store 2 (.tmp 9) (.tmp 29)),qm 10 30,qm 11 31] false) (.seq (.ops [qm 33 1,q 34 (.call 8 [(.tmp 33)]),qm 32 34,q 35 (.ext 0 (.tmp 32)),q 36 (.ext 1 (.tmp 32)),q 37 (.ext 2 (.tmp 32)),q 12 (.alloc [(.slice none 0 0), (.slice none 0 0)]),qn (.store 2 (.tmp 12) (.tmp 35)),qm 13 36,qm 14 37] false) (.seq (.ops [qm 38 7,qm 39 6,q 40 (.bin .eql (.tmp 38) (.tmp 39)),qm 41 40,⟨some 42,.move (.tmp 8),some (41,true),0⟩,⟨some 43,.move (.tmp 5),some (41,true),0⟩,⟨some 44,.bin .eql (.tmp 42) (.tmp 43),some (41,true),0⟩,q 45 (.pick (.tmp 41) (.tmp 44) (.const (.bool false))),qm 46 45,⟨some 47,.loadA 2 (.tmp 9),some (46,true),0⟩,⟨some 48,.loadA 2 (.tmp 12),some (46,true),0⟩,⟨some 49,.call 9 [(.tmp 47), (.tmp 48)],some (46,true),0⟩,q 50 (.pick (.tmp 46) (.tmp 49) (.const (.bool false))),qm 51 50,⟨some 52,.move (.tmp 10),some (51,true),0⟩,⟨some 53,.move (.tmp 13),some (51,true),0⟩,⟨some 54,.bin .eql (.tmp 52) (.tmp 53),some (51,true),0⟩,q 55 (.pick (.tmp 51) (.tmp 54) (.const (.bool false))),qm 56 55,⟨some 57,.move (.tmp 11),some (56,true),0⟩,⟨some 58,.move (.tmp 14),some (56,true),0⟩,⟨some 59,.bin .eql (.tmp 57) (.tmp 58),some (56,true),0⟩,q 60 (.pick (.tmp 56) (.tmp 59) (.const (.bool false))),qm 4 60] false) (.ret))))))))
set_option maxRecDepth 100000 in
theorem c3_ok : FunOK Tryd.prog 3 61 [.tmp 4] c3 := ⟨⟨Tryd.f3, Tryd.func3, rfl, by kernel_rfl, rfl, by kernel_rfl⟩⟩
theorem sameP_self (P : ProcD) : sameP P P = true := by simp [sameP]
theorem reads_both (s : ByteArray) : ∃ x : ProcD × Int × Int, x.1.nodes.length ≤ 1000000000 ∧ x.1.flows.length ≤ 1000000000 ∧ PCall Tryd.prog 7 [.sc (.string s)] (dpans x) ∧ PCall Tryd.prog 8 [.sc (.string s)] (dpans x) := by
  by_cases hs : s.size ≤ 4096
  · refine ⟨_, ?_, ?_, proc_Parse s hs, ref_ReadProcess s hs⟩
    all_goals
      unfold procR
      split
      · simp
      · split
        · simp
        · split
          · rename_i h; have := chk_right h; dsimp only at *; omega
          · simp
  · exact ⟨_, by simp, by simp, proc_Parse_large s hs, ref_ReadProcess_large s hs⟩
theorem law_ProcReads (P : ProcD) (hP : P.Fits) (s : ByteArray) : PCall Tryd.prog 3 [dproc P, .sc (.string s)] (dbool true) := by
  refine pcall_intro c3_ok (by simp) (by simp [PureL, Pure, pure_dproc]) ?_ (by simp [dbool, Pure])
  obtain ⟨⟨Q, a, e⟩, hn, hf, h1, h2⟩ := reads_both s
  have hS := ref_SameProcess Q Q hn hf
  rw [sameP_self] at hS
  have hR := ref_Process P hP
  by_cases h0 : P.chk = 0
  · have hPr := proc_Print_ok P hP h0
    have hT := ref_ProcessText P h0
    rw [h0] at hR
    (apply rd_sound; focus (repeat' constructor))
    ((conv=>whnf);repeat(refine⟨rfl,?_⟩;conv=>whnf))
    (refine .inl ⟨_, hR, ?_⟩; ((conv=>whnf);repeat(refine⟨rfl,?_⟩;conv=>whnf)))
    (refine .inl ⟨_, hT, ?_⟩; ((conv=>whnf);repeat(refine⟨rfl,?_⟩;conv=>whnf)))
    (refine .inl ⟨_, hPr, ?_⟩; ((conv=>whnf);repeat(refine⟨rfl,?_⟩;conv=>whnf)))
    (refine .inl ⟨_, h1, ?_⟩; ((conv=>whnf);repeat(refine⟨rfl,?_⟩;conv=>whnf)))
    (refine .inl ⟨_, h2, ?_⟩; ((conv=>whnf);repeat(refine⟨rfl,?_⟩;conv=>whnf)))
    rw [show ((textP P P.flows).toList == (textP P P.flows).toList) = true from beq_self_eq_true _]
    ((conv=>whnf);repeat(refine⟨rfl,?_⟩;conv=>whnf))
    (refine .inl ⟨_, hS, ?_⟩; ((conv=>whnf);repeat(refine⟨rfl,?_⟩;conv=>whnf)))
    rw [show (((Q, a, e) : ProcD × Int × Int).snd.fst == ((Q, a, e) : ProcD × Int × Int).snd.fst) = true from beq_self_eq_true a]
    ((conv=>whnf);repeat(refine⟨rfl,?_⟩;conv=>whnf))
    exact deep_eq (congrArg (fun b => D.sc (.bool b)) (beq_self_eq_true e))
  · have hPr := proc_Print_bad P hP h0
    (apply rd_sound; focus (repeat' constructor))
    ((conv=>whnf);repeat(refine⟨rfl,?_⟩;conv=>whnf))
    (refine .inl ⟨_, hR, ?_⟩; ((conv=>whnf);repeat(refine⟨rfl,?_⟩;conv=>whnf)))
    refine ifK_f (by simpa using h0) ?_
    ((conv=>whnf);repeat(refine⟨rfl,?_⟩;conv=>whnf))
    (refine .inl ⟨_, hPr, ?_⟩; ((conv=>whnf);repeat(refine⟨rfl,?_⟩;conv=>whnf)))
    (refine .inl ⟨_, h1, ?_⟩; ((conv=>whnf);repeat(refine⟨rfl,?_⟩;conv=>whnf)))
    (refine .inl ⟨_, h2, ?_⟩; ((conv=>whnf);repeat(refine⟨rfl,?_⟩;conv=>whnf)))
    rw [show ((⟨#[]⟩ : ByteArray).toList == (⟨#[]⟩ : ByteArray).toList) = true from beq_self_eq_true _]
    ((conv=>whnf);repeat(refine⟨rfl,?_⟩;conv=>whnf))
    rw [show (P.chk == P.chk) = true from beq_self_eq_true _]
    ((conv=>whnf);repeat(refine⟨rfl,?_⟩;conv=>whnf))
    (refine .inl ⟨_, hS, ?_⟩; ((conv=>whnf);repeat(refine⟨rfl,?_⟩;conv=>whnf)))
    rw [show (((Q, a, e) : ProcD × Int × Int).snd.fst == ((Q, a, e) : ProcD × Int × Int).snd.fst) = true from beq_self_eq_true a]
    ((conv=>whnf);repeat(refine⟨rfl,?_⟩;conv=>whnf))
    exact deep_eq (congrArg (fun b => D.sc (.bool b)) (beq_self_eq_true e))
theorem argStrR {P : Program} {t : TypeId} {d : D} (ht : P.underlying t = some .string) (h : OfA P t d) : ∃ s : ByteArray, d = .sc (.string s) ∧ s.size ≤ 9223372036854775807 := by
  unfold OfA OfAz at h
  rw [ht] at h
  obtain ⟨s, e, hs⟩ := of_str ht h
  cases e
  exact ⟨s, rfl, hs⟩
namespace procReads
set_option maxRecDepth 100000 in
theorem law : ∀ Ds, OfAs Tryd.prog [25, 9] Ds → PCall Tryd.prog 3 Ds (dbool true)
  | [d, e], h => by
    obtain ⟨P, rfl, hP⟩ := argProc h.1
    obtain ⟨s, rfl, hs⟩ := argStrR Tryd.underlying9 h.2.1
    exact law_ProcReads P hP s
theorem types : typesOK Tryd.prog [25, 9, 22, 23, 37, 40, 3] = true := by kernel_rfl
set_option maxRecDepth 100000 in
theorem laidOut : laidOutB Tryd.prog = true := by kernel_rfl
set_option maxRecDepth 100000 in
theorem readable : (Tryd.f3.params.toList.all fun t => Tryd.prog.readableRec t && decide (t < Tryd.prog.types.size)) = true := by kernel_rfl
theorem own : ownKnob Tryd.prog.godebug = none := by kernel_rfl
theorem fok {W : World} (_h : laidMetH Tryd.prog Rows.procReadsRow.laid W) : FOK (There W) W := ⟨fun b h => h, fun g cs hg => absurd hg (by simp [theGlobs]), fun g t s hg => absurd hg (by simp [theSents])⟩
set_option maxRecDepth 100000 in
theorem lifted (os : Os) (started : os.Started) (H : Type) (enc : TypeId × Value → H) :
    ReturnsInHanded {} Tryd.checked os 3 .any (fun w args => (Rows.procReadsSpec.pre enc Tryd.prog Tryd.f3 Rows.procReadsRow.domain false w args ∧ laidMetH Tryd.prog Rows.procReadsRow.laid w) ∧ sizedMet enc Tryd.prog Tryd.f3 (OpenSpec.ofChange Rows.procReadsSpec) false w args)
      (Rows.procReadsSpec.post enc Tryd.prog Tryd.f3 false true false false) := by
  refine returnsInHanded_of_change_and (C := Tryd.checked) (X := fun w _ => laidMetH Tryd.prog Rows.procReadsRow.laid w) (fun _ _ _ hh h => h.of_heap hh) own started (by kernel_rfl) Tryd.func3
    (ChangeSpec.witness_at (enc := enc) (C := Tryd.checked) (os := os) (X := fun w _ => laidMetH Tryd.prog Rows.procReadsRow.laid w) false (World.laidAll Tryd.prog os Rows.procReadsRow.laid) #[.agg #[.slice none 0 0, .slice none 0 0], .string ⟨#[]⟩] 8 (World.laidAll_os _ _ _) (by kernel_rfl) (by kernel_rfl) (by kernel_rfl) (by kernel_rfl) (by kernel_rfl) (show laidMet _ _ _ from laidMet_laidAll _ (by kernel_rfl) (by kernel_rfl))) ?_
  intro W base args ds gs before hval0 hW _ hsz hL _
  have hval : ∀ (j : Nat) t v, Tryd.f3.params[j]? = some t → args[j]? = some v → Value.okWide Tryd.prog W .any base t v := hval0
  have hW' := hW
  obtain ⟨p, q, hA0, hV, _, hfz, hnd⟩ := hW
  have hA : DataW.TrodAll enc Tryd.prog W 0 (fun _ => true) true Tryd.f3.params.toList args.toList ds p := hA0
  have hps : Tryd.f3.params.toList = [25, 9] := by kernel_rfl
  obtain ⟨Ds, hD, hR⟩ := args_rep types (base := base) _ _ _ _ (fun t ht => by rw [hps] at ht; revert t; decide) (fun j t v h1 h2 => hval j t v (by simpa using h1) (by simpa using h2)) hA fun n hn => by
    have := List.all_eq_true.1 hsz n (weightsEach_pre _ _ _ _ (trodAll_len _ _ _ _ hA).symm n hn)
    simpa using this
  rw [hps] at hD
  have hC := (law Ds hD).run noInj (There W) W args.toList (fok hL) hR
  rw [show args.toList.toArray = args from rfl] at hC
  refine hC.mono fun e W' ⟨v, F', he, _, hv, hx⟩ => ?_
  have hv' : v = .bool true := by simpa only [rep, dbool] using hv
  subst he hv'
  exact ⟨_, rfl, row_post hW' rfl (by kernel_rfl) Tryd.underlying4 laidOut (fun t ht => by
      have := List.all_eq_true.1 readable t ht
      simp only [Bool.and_eq_true, decide_eq_true_eq] at this
      exact this) (fun ds h => by rw [hps] at h; match ds, h with | [_, _], _ => rfl) (below_of_ext hx) (ok_one (by kernel_rfl) rfl (okWide_bool_mk Tryd.underlying4 _))⟩

theorem over : Rows.procReadsRow.holds Tryd.pinned (OpenSpec.ofChange Rows.procReadsSpec) :=
  OpenClaim.holds_of_wide 3 Tryd.f3 rfl rfl rfl rfl rfl rfl rfl ⟨rfl, rfl, rfl, rfl, rfl⟩ rfl rfl rfl rfl rfl (by kernel_rfl) Tryd.func3 (by kernel_rfl)
    (of_decide_eq_true (by kernel_rfl)) (by unfold Func.isWrapper; first | (rw [if_pos (by decide +kernel)]; kernel_rfl) | (rw [if_neg (by decide +kernel)]; exact ⟨rfl, rfl⟩))
    (fun os started H enc _ => lifted os started H enc)

theorem proved : Rows.ProcReadsCardSaid :=
  Claim7.holds_tied_plain_at .later [] [.data, .pinned] true (true, "17a13a9f6f7e33be197a33d516af8355926d07b97d60adfac64cdf76ab421ab6") false
    over (fun _ h => by cases h) (by kernel_rfl) (fun _ h => by cases h) procReads_row_tie rfl ⟨rfl, rfl⟩ (by kernel_rfl) rfl
    (fun f fn hf hfn => by
      obtain rfl : f = 3 := Option.some.inj ((show Tryd.prog.funcNamed "watchway/watchlaw.ProcReads" = some 3 by kernel_rfl).symm.trans hf) |>.symm
      obtain rfl : fn = Tryd.f3 := (Option.some.inj (Tryd.func3.symm.trans hfn)).symm
      refine ⟨by kernel_rfl, fun j t ht => ?_⟩
      have hm : t ∈ Tryd.f3.params.toList := by
        rw [Array.mem_toList_iff]
        exact Array.mem_of_getElem? ht
      rw [show Tryd.f3.params.toList = [25, 9] by kernel_rfl] at hm
      have := List.all_eq_true.1 (show ([25, 9] : List TypeId).all (fun t => !Tryd.prog.wantsStandIn t) = true by kernel_rfl) t hm
      have h2 : Tryd.prog.wantsStandIn t = false := by simpa using this
      exact h2)
    (by kernel_rfl)
end procReads
end Go.Proofs.YtgkodbnomgabdaaDoor
