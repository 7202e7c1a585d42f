/-
  watchlaw.ProcSays returns true for every process and every number, and each argument reads afterwards as it read before. No conditions.
-/
import Derived.Test.YtcgjbhnljjlffaaDC
import Derived.Test.YtcgjbhnljjlffaaAw
import Derived.Test.YtcgjbhnljjlffaaAp
import Derived.Test.YtcgjbhnljjlffaaPr3
import Derived.Test.YtcgjbhnljjlffaaPr4
import Derived.Test.YtcgjbhnljjlffaaRows
namespace Go.Proofs.Ytcgjbhnljjlffaa
open Go.RowKit Go.ChangeShapes Go.WideShapes Go.ChangeAt
set_option linter.unusedSimpArgs false
set_option linter.unusedVariables false
def c8 : PC := .seq (.ops [⟨(some 2), .box (.tmp 0), none, 0⟩,
    ⟨(some 4), .move (.const (.bool false)), none, 0⟩] false) (.seq (.ops [⟨(some 10), .loadA 2 (.tmp 2), none, 0⟩,
    ⟨(some 11), .call 36 [(.tmp 10)], none, 0⟩,
    ⟨(some 5), .move (.tmp 11), none, 0⟩] false) (.seq (.ops [⟨(some 13), .loadA 2 (.tmp 2), none, 0⟩,
    ⟨(some 14), .move (.tmp 1), none, 0⟩,
    ⟨(some 15), .call 37 [(.tmp 13), (.tmp 14)], none, 0⟩,
    ⟨(some 12), .move (.tmp 15), none, 0⟩,
    ⟨(some 16), .ext 0 (.tmp 12), none, 0⟩,
    ⟨(some 17), .ext 1 (.tmp 12), none, 0⟩,
    ⟨(some 6), .move (.tmp 16), none, 0⟩,
    ⟨(some 7), .move (.tmp 17), none, 0⟩] false) (.seq (.ops [⟨(some 19), .loadA 2 (.tmp 2), none, 0⟩,
    ⟨(some 20), .move (.tmp 1), none, 0⟩,
    ⟨(some 21), .call 38 [(.tmp 19), (.tmp 20)], none, 0⟩,
    ⟨(some 18), .move (.tmp 21), none, 0⟩,
    ⟨(some 22), .ext 0 (.tmp 18), none, 0⟩,
    ⟨(some 23), .ext 1 (.tmp 18), none, 0⟩,
    ⟨(some 8), .move (.tmp 22), none, 0⟩,
    ⟨(some 9), .move (.tmp 23), none, 0⟩] false) (.seq (.seq (.ops [⟨(some 24), .loadA 2 (.tmp 2), none, 0⟩,
    ⟨(some 25), .call 39 [(.tmp 24)], none, 0⟩,
    ⟨(some 26), .move (.tmp 5), none, 0⟩,
    ⟨(some 27), .bin .neq (.tmp 25) (.tmp 26), none, 0⟩] false) (.cond (.tmp 27) (.seq (.ops [⟨(some 4), .move (.const (.bool false)), none, 0⟩] false) (.ret)) (.skip))) (.seq (.seq (.ops [⟨(some 28), .move (.tmp 5), none, 0⟩,
    ⟨(some 29), .bin .eql (.tmp 28) (.const (.int .i64 0)), none, 0⟩,
    ⟨(some 30), .move (.tmp 29), none, 0⟩,
    ⟨(some 31), .move (.tmp 1), (some (30, true)), 0⟩,
    ⟨(some 32), .bin .lss (.tmp 31) (.const (.int .i64 0)), (some (30, true)), 0⟩,
    ⟨(some 33), .move (.tmp 32), (some (30, true)), 0⟩,
    ⟨(some 34), .move (.tmp 1), (some (33, false)), 0⟩,
    ⟨(some 35), .faddr 0 (.tmp 2), (some (33, false)), 0⟩,
    ⟨(some 36), .load1 (.tmp 35), (some (33, false)), 0⟩,
    ⟨(some 37), .len (.tmp 36), (some (33, false)), 0⟩,
    ⟨(some 38), .bin .geq (.tmp 34) (.tmp 37), (some (33, false)), 0⟩,
    ⟨(some 39), .pick (.tmp 33) (.const (.bool true)) (.tmp 38), (some (30, true)), 0⟩,
    ⟨(some 40), .pick (.tmp 30) (.tmp 39) (.const (.bool false)), none, 0⟩] false) (.cond (.tmp 40) (.ops [⟨(some 5), .move (.const (.int .i64 1)), none, 0⟩] false) (.skip))) (.seq (.seq (.ops [⟨(some 41), .move (.tmp 5), none, 0⟩,
    ⟨(some 42), .bin .neq (.tmp 41) (.const (.int .i64 0)), none, 0⟩] false) (.cond (.tmp 42) (.seq (.ops [⟨(some 43), .move (.tmp 7), none, 0⟩,
    ⟨(some 44), .move (.tmp 5), none, 0⟩,
    ⟨(some 45), .bin .eql (.tmp 43) (.tmp 44), none, 0⟩,
    ⟨(some 46), .move (.tmp 45), none, 0⟩,
    ⟨(some 47), .move (.tmp 9), (some (46, true)), 0⟩,
    ⟨(some 48), .move (.tmp 5), (some (46, true)), 0⟩,
    ⟨(some 49), .bin .eql (.tmp 47) (.tmp 48), (some (46, true)), 0⟩,
    ⟨(some 50), .pick (.tmp 46) (.tmp 49) (.const (.bool false)), none, 0⟩,
    ⟨(some 51), .move (.tmp 50), none, 0⟩,
    ⟨(some 52), .move (.tmp 6), (some (51, true)), 0⟩,
    ⟨(some 53), .len (.tmp 52), (some (51, true)), 0⟩,
    ⟨(some 54), .bin .eql (.tmp 53) (.const (.int .i64 0)), (some (51, true)), 0⟩,
    ⟨(some 55), .pick (.tmp 51) (.tmp 54) (.const (.bool false)), none, 0⟩,
    ⟨(some 56), .move (.tmp 55), none, 0⟩,
    ⟨(some 57), .move (.tmp 8), (some (56, true)), 0⟩,
    ⟨(some 58), .len (.tmp 57), (some (56, true)), 0⟩,
    ⟨(some 59), .bin .eql (.tmp 58) (.const (.int .i64 0)), (some (56, true)), 0⟩,
    ⟨(some 60), .pick (.tmp 56) (.tmp 59) (.const (.bool false)), none, 0⟩,
    ⟨(some 4), .move (.tmp 60), none, 0⟩] false) (.ret)) (.skip))) (.seq (.ops [⟨(some 61), .move (.tmp 7), none, 0⟩,
    ⟨(some 62), .bin .eql (.tmp 61) (.const (.int .i64 0)), none, 0⟩,
    ⟨(some 63), .move (.tmp 62), none, 0⟩,
    ⟨(some 64), .move (.tmp 9), (some (63, true)), 0⟩,
    ⟨(some 65), .bin .eql (.tmp 64) (.const (.int .i64 0)), (some (63, true)), 0⟩,
    ⟨(some 66), .pick (.tmp 63) (.tmp 65) (.const (.bool false)), none, 0⟩,
    ⟨(some 67), .move (.tmp 66), none, 0⟩,
    ⟨(some 68), .move (.tmp 6), (some (67, true)), 0⟩,
    ⟨(some 69), .loadA 2 (.tmp 2), (some (67, true)), 0⟩,
    ⟨(some 70), .move (.tmp 1), (some (67, true)), 0⟩,
    ⟨(some 71), .call 40 [(.tmp 69), (.tmp 70)], (some (67, true)), 0⟩,
    ⟨(some 72), .call 28 [(.tmp 68), (.tmp 71)], (some (67, true)), 0⟩,
    ⟨(some 73), .pick (.tmp 67) (.tmp 72) (.const (.bool false)), none, 0⟩,
    ⟨(some 74), .move (.tmp 73), none, 0⟩,
    ⟨(some 75), .move (.tmp 8), (some (74, true)), 0⟩,
    ⟨(some 76), .loadA 2 (.tmp 2), (some (74, true)), 0⟩,
    ⟨(some 77), .move (.tmp 1), (some (74, true)), 0⟩,
    ⟨(some 78), .call 41 [(.tmp 76), (.tmp 77)], (some (74, true)), 0⟩,
    ⟨(some 79), .call 28 [(.tmp 75), (.tmp 78)], (some (74, true)), 0⟩,
    ⟨(some 80), .pick (.tmp 74) (.tmp 79) (.const (.bool false)), none, 0⟩,
    ⟨(some 4), .move (.tmp 80), none, 0⟩] false) (.ret))))))))
set_option maxRecDepth 100000 in
theorem c8_ok : FunOK Try.prog 8 81 [.tmp 4] c8 := ⟨⟨Try.f8, Try.func8, rfl, by kernel_rfl, rfl, by kernel_rfl⟩⟩
set_option maxRecDepth 100000 in
theorem law_ProcSays (P : ProcD) (hP : P.Fits) (n : Int) : PCall Try.prog 8 [dproc P, .sc (.int .i64 n)] (dbool true) := by
  have b1 := hP.nodes
  have hR := ref_Process P hP
  have hC := proc_Check P hP
  have hI := proc_Ins P hP n
  have hO := proc_Outs P hP n
  have eL : P.listE n = if P.chk ≠ 0 then P.chk else if n < 0 ∨ (P.nodes.length : Int) ≤ n then 1 else 0 := rfl
  have eI : P.insT n = if P.listE n = 0 then P.inL n else [] := rfl
  have eO : P.outsT n = if P.listE n = 0 then P.outL n else [] := rfl
  refine pcall_intro c8_ok (by simp) (by simp [PureL, Pure, pure_dproc]) ?_ (by simp [dbool, Pure])
  (apply red_sound; focus (repeat' (first | exact Red.skip | exact Red.ret | exact RedO.nil | exact RedD.nil | exact Red.exit _ | exact Red.loop _ | exact Red.stop _ | apply Red.ops | apply Red.draw | apply Red.seq | apply Red.cond | apply Red.block | apply RedO.cons | apply RedD.cons | exact (0 : Nat))))
  ((conv => whnf); repeat (refine And.intro rfl ?_; (conv => whnf)))
  (refine .inl ⟨_, hR, ?_⟩; ((conv => whnf); repeat (refine And.intro rfl ?_; (conv => whnf))))
  (refine .inl ⟨_, hI, ?_⟩; ((conv => whnf); repeat (refine And.intro rfl ?_; (conv => whnf))))
  (refine .inl ⟨_, hO, ?_⟩; ((conv => whnf); repeat (refine And.intro rfl ?_; (conv => whnf))))
  (refine .inl ⟨_, hC, ?_⟩; ((conv => whnf); repeat (refine And.intro rfl ?_; (conv => whnf))))
  have hself : (P.chk != P.chk) = false := by simp
  rw [hself]
  ((conv => whnf); repeat (refine And.intro rfl ?_; (conv => whnf)))
  (refine ifK_split (fun h1 => ?_) (fun h1 => ?_) <;> (rw [h1]; ((conv => whnf); repeat (refine And.intro rfl ?_; (conv => whnf)))))
  · have h1 : P.chk = 0 := by ((try simp only [bne_iff_ne, ne_eq, bne_eq_false_iff_eq, beq_iff_eq, beq_eq_false_iff_ne, decide_eq_true_eq, decide_eq_false_iff_not, List.length_map, Bool.not_eq_true, Bool.not_eq_false, Bool.and_eq_true, Bool.or_eq_true, Bool.and_eq_false_iff, Bool.or_eq_false_iff, Bool.not_eq_true', Bool.not_eq_false', Bool.not_true, Bool.not_false, Bool.not_eq_eq_eq_not, not_true_eq_false, not_false_eq_true, reduceCtorEq, Bool.true_or, Bool.false_or, Bool.or_true, Bool.or_false, Bool.true_and, Bool.and_true, Bool.false_and, Bool.and_false, true_and, and_true, or_false, false_or, true_or, or_true, false_and, and_false, Bool.true_eq_false, Bool.false_eq_true] at *) <;> omega)
    rw [if_neg (by omega)] at eL
    have hs := chk_small h1
    (refine ifK_split (fun h2 => ?_) (fun h2 => ?_) <;> (rw [h2]; ((conv => whnf); repeat (refine And.intro rfl ?_; (conv => whnf)))))
    · have h2 : n < 0 := by ((try simp only [bne_iff_ne, ne_eq, bne_eq_false_iff_eq, beq_iff_eq, beq_eq_false_iff_ne, decide_eq_true_eq, decide_eq_false_iff_not, List.length_map, Bool.not_eq_true, Bool.not_eq_false, Bool.and_eq_true, Bool.or_eq_true, Bool.and_eq_false_iff, Bool.or_eq_false_iff, Bool.not_eq_true', Bool.not_eq_false', Bool.not_true, Bool.not_false, Bool.not_eq_eq_eq_not, not_true_eq_false, not_false_eq_true, reduceCtorEq, Bool.true_or, Bool.false_or, Bool.or_true, Bool.or_false, Bool.true_and, Bool.and_true, Bool.false_and, Bool.and_false, true_and, and_true, or_false, false_or, true_or, or_true, false_and, and_false, Bool.true_eq_false, Bool.false_eq_true] at *) <;> omega)
      rw [if_pos (.inl h2)] at eL
      rw [if_neg (by rw [eL]; decide)] at eI eO
      rw [eL, eI, eO]
      ((conv => whnf); repeat (refine And.intro rfl ?_; (conv => whnf)))
      exact .refl _
    rw [List.length_map]
    (refine ifK_split (fun h3 => ?_) (fun h3 => ?_) <;> (rw [h3]; ((conv => whnf); repeat (refine And.intro rfl ?_; (conv => whnf)))))
    · have h3 : (P.nodes.length : Int) ≤ n := by ((try simp only [bne_iff_ne, ne_eq, bne_eq_false_iff_eq, beq_iff_eq, beq_eq_false_iff_ne, decide_eq_true_eq, decide_eq_false_iff_not, List.length_map, Bool.not_eq_true, Bool.not_eq_false, Bool.and_eq_true, Bool.or_eq_true, Bool.and_eq_false_iff, Bool.or_eq_false_iff, Bool.not_eq_true', Bool.not_eq_false', Bool.not_true, Bool.not_false, Bool.not_eq_eq_eq_not, not_true_eq_false, not_false_eq_true, reduceCtorEq, Bool.true_or, Bool.false_or, Bool.or_true, Bool.or_false, Bool.true_and, Bool.and_true, Bool.false_and, Bool.and_false, true_and, and_true, or_false, false_or, true_or, or_true, false_and, and_false, Bool.true_eq_false, Bool.false_eq_true] at *) <;> omega)
      rw [if_pos (.inr h3)] at eL
      rw [if_neg (by rw [eL]; decide)] at eI eO
      rw [eL, eI, eO]
      ((conv => whnf); repeat (refine And.intro rfl ?_; (conv => whnf)))
      exact .refl _
    · rw [if_neg (by ((try simp only [bne_iff_ne, ne_eq, bne_eq_false_iff_eq, beq_iff_eq, beq_eq_false_iff_ne, decide_eq_true_eq, decide_eq_false_iff_not, List.length_map, Bool.not_eq_true, Bool.not_eq_false, Bool.and_eq_true, Bool.or_eq_true, Bool.and_eq_false_iff, Bool.or_eq_false_iff, Bool.not_eq_true', Bool.not_eq_false', Bool.not_true, Bool.not_false, Bool.not_eq_eq_eq_not, not_true_eq_false, not_false_eq_true, reduceCtorEq, Bool.true_or, Bool.false_or, Bool.or_true, Bool.or_false, Bool.true_and, Bool.and_true, Bool.false_and, Bool.and_false, true_and, and_true, or_false, false_or, true_or, or_true, false_and, and_false, Bool.true_eq_false, Bool.false_eq_true] at *) <;> omega))] at eL
      rw [if_pos eL] at eI eO
      rw [eL, eI, eO, h1]
      ((conv => whnf); repeat (refine And.intro rfl ?_; (conv => whnf)))
      have l1 := P.inL_len n
      have l2 := P.outL_len n
      (refine .inl ⟨_, (ref_FlowsIn P hP (by omega) n), ?_⟩; ((conv => whnf); repeat (refine And.intro rfl ?_; (conv => whnf))))
      (refine .inl ⟨_, (equal_int (P.inL n) (P.inL n) (by omega)), ?_⟩; ((conv => whnf); repeat (refine And.intro rfl ?_; (conv => whnf))))
      rw [decide_eq_true rfl]
      ((conv => whnf); repeat (refine And.intro rfl ?_; (conv => whnf)))
      (refine .inl ⟨_, (ref_FlowsOut P hP (by omega) n), ?_⟩; ((conv => whnf); repeat (refine And.intro rfl ?_; (conv => whnf))))
      (refine .inl ⟨_, (equal_int (P.outL n) (P.outL n) (by omega)), ?_⟩; ((conv => whnf); repeat (refine And.intro rfl ?_; (conv => whnf))))
      rw [decide_eq_true rfl]
      exact .refl _
  · have h1 : P.chk ≠ 0 := by ((try simp only [bne_iff_ne, ne_eq, bne_eq_false_iff_eq, beq_iff_eq, beq_eq_false_iff_ne, decide_eq_true_eq, decide_eq_false_iff_not, List.length_map, Bool.not_eq_true, Bool.not_eq_false, Bool.and_eq_true, Bool.or_eq_true, Bool.and_eq_false_iff, Bool.or_eq_false_iff, Bool.not_eq_true', Bool.not_eq_false', Bool.not_true, Bool.not_false, Bool.not_eq_eq_eq_not, not_true_eq_false, not_false_eq_true, reduceCtorEq, Bool.true_or, Bool.false_or, Bool.or_true, Bool.or_false, Bool.true_and, Bool.and_true, Bool.false_and, Bool.and_false, true_and, and_true, or_false, false_or, true_or, or_true, false_and, and_false, Bool.true_eq_false, Bool.false_eq_true] at *) <;> omega)
    rw [if_pos h1] at eL
    rw [if_neg (by rw [eL]; exact h1)] at eI eO
    rw [eL, eI, eO]
    have hb : (P.chk != 0) = true := by simp [h1]
    rw [hb]
    ((conv => whnf); repeat (refine And.intro rfl ?_; (conv => whnf)))
    have hb2 : (P.chk == P.chk) = true := by simp
    rw [hb2]
    ((conv => whnf); repeat (refine And.intro rfl ?_; (conv => whnf)))
    rw [hb2]
    ((conv => whnf); repeat (refine And.intro rfl ?_; (conv => whnf)))
    exact .refl _
namespace procSays
set_option maxRecDepth 100000 in
theorem law : ∀ Ds, OfAs Try.prog [63, 3] Ds → PCall Try.prog 8 Ds (dbool true)
  | [d, e], h => by
    obtain ⟨P, rfl, hP⟩ := argProc h.1
    obtain ⟨i, rfl, hi⟩ := argInt Try.underlying3 h.2.1
    exact law_ProcSays P hP i
theorem types : typesOK Try.prog [63, 3, 60, 61, 156, 158, 9] = true := by kernel_rfl
set_option maxRecDepth 100000 in
theorem laidOut : laidOutB Try.prog = true := by kernel_rfl
set_option maxRecDepth 100000 in
theorem readable : (Try.f8.params.toList.all fun t => Try.prog.readableRec t && decide (t < Try.prog.types.size)) = true := by kernel_rfl
theorem own : ownKnob Try.prog.godebug = none := by kernel_rfl
set_option maxRecDepth 100000 in
theorem lifted (os : Os) (started : os.Started) (H : Type) (enc : TypeId × Value → H) :
    ReturnsInHanded {} Try.checked os 8 .any (Rows.procSaysSpec.pre6 enc Try.prog Try.f8 Rows.procSaysRow.domain false) (Rows.procSaysSpec.post enc Try.prog Try.f8 false true false false) := by
  refine returnsInHanded_of_change_sized (C := Try.checked) own started (by kernel_rfl) Try.func8
    (ChangeSpec.witness6 (enc := enc) (C := Try.checked) false ⟨#[], #[.agg #[.slice none 0 0, .slice none 0 0], .int .i64 0], []⟩ 8 (by kernel_rfl) (by kernel_rfl) (by kernel_rfl) (by kernel_rfl)) ?_
  intro W base args ds gs before hval0 hW _ hsz _
  have hval : ∀ (j : Nat) t v, Try.f8.params[j]? = some t → args[j]? = some v → Value.okWide Try.prog W .any base t v := hval0
  have hW' := hW
  obtain ⟨p, q, hA0, hV, _, hfz, hnd⟩ := hW
  have hA : DataW.TrodAll enc Try.prog W 0 (fun _ => true) true Try.f8.params.toList args.toList ds p := hA0
  have hps : Try.f8.params.toList = [63, 3] := by kernel_rfl
  obtain ⟨Ds, hD, hR⟩ := args_rep types (base := base) _ _ _ _ (fun t ht => by rw [hps] at ht; revert t; decide) (fun j t v h1 h2 => hval j t v (by simpa using h1) (by simpa using h2)) hA fun n hn => by
    have := List.all_eq_true.1 hsz n (weightsEach_pre _ _ _ _ (trodAll_len _ _ _ _ hA).symm n hn)
    simpa using this
  rw [hps] at hD
  have hC := (law Ds hD).run noInj (There W) W args.toList (fun b h => h) hR
  rw [show args.toList.toArray = args from rfl] at hC
  refine hC.mono fun e W' ⟨v, F', he, _, hv, hx⟩ => ?_
  have hv' : v = .bool true := by simpa only [rep, dbool] using hv
  subst he hv'
  exact ⟨_, rfl, row_post hW' rfl (by kernel_rfl) Try.underlying4 laidOut (fun t ht => by
      have := List.all_eq_true.1 readable t ht
      simp only [Bool.and_eq_true, decide_eq_true_eq] at this
      exact this) (fun ds h => by rw [hps] at h; match ds, h with | [_, _], _ => rfl) (below_of_ext hx) (ok_one (by kernel_rfl) rfl (okWide_bool_mk Try.underlying4 _))⟩

theorem over : Rows.procSaysRow.holds Try.pinned (OpenSpec.ofChange Rows.procSaysSpec) :=
  OpenClaim.holds_of_wide 8 Try.f8 rfl rfl rfl rfl rfl rfl rfl ⟨rfl, rfl, rfl, rfl, rfl⟩ rfl rfl rfl rfl rfl (by kernel_rfl) Try.func8 (by kernel_rfl)
    (of_decide_eq_true (by kernel_rfl)) (by unfold Func.isWrapper; first | (rw [if_pos (by decide +kernel)]; kernel_rfl) | (rw [if_neg (by decide +kernel)]; exact ⟨rfl, rfl⟩))
    (fun os started H enc _ => lifted os started H enc)

theorem proved : Rows.ProcSaysSaid := over
end procSays
end Go.Proofs.Ytcgjbhnljjlffaa
