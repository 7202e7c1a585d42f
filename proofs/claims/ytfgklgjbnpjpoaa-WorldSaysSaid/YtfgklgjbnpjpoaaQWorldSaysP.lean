/-
  watchlaw.WorldSays returns true for every world, and the argument reads afterwards as it read before. No conditions.
-/
import Derived.Test.YtfgklgjbnpjpoaaQDC
import Derived.Test.YtfgklgjbnpjpoaaQAf
import Derived.Test.YtfgklgjbnpjpoaaQWj
import Derived.Test.YtfgklgjbnpjpoaaRows
namespace Go.Proofs.Ytfgklgjbnpjpoaa
open Go.RowKit Go.ChangeShapes Go.WideShapes Go.ChangeAt
set_option linter.unusedSimpArgs false
set_option linter.unusedVariables false
def c7 : PC := .seq (.ops [⟨(some 1), .box (.tmp 0), none, 0⟩,
    ⟨(some 2), .move (.const (.bool false)), none, 0⟩] false) (.seq (.ops [⟨(some 6), .loadA 4 (.tmp 1), none, 0⟩,
    ⟨(some 7), .call 31 [(.tmp 6)], none, 0⟩,
    ⟨(some 3), .move (.tmp 7), none, 0⟩] false) (.seq (.ops [⟨(some 9), .loadA 4 (.tmp 1), none, 0⟩,
    ⟨(some 10), .call 32 [(.tmp 9)], none, 0⟩,
    ⟨(some 8), .move (.tmp 10), none, 0⟩,
    ⟨(some 11), .ext 0 (.tmp 8), none, 0⟩,
    ⟨(some 12), .ext 1 (.tmp 8), none, 0⟩,
    ⟨(some 4), .move (.tmp 11), none, 0⟩,
    ⟨(some 5), .move (.tmp 12), none, 0⟩] false) (.seq (.seq (.ops [⟨(some 13), .loadA 4 (.tmp 1), none, 0⟩,
    ⟨(some 14), .call 33 [(.tmp 13)], none, 0⟩,
    ⟨(some 15), .move (.tmp 3), none, 0⟩,
    ⟨(some 16), .bin .neq (.tmp 14) (.tmp 15), none, 0⟩,
    ⟨(some 17), .move (.tmp 16), none, 0⟩,
    ⟨(some 18), .move (.tmp 5), (some (17, false)), 0⟩,
    ⟨(some 19), .move (.tmp 3), (some (17, false)), 0⟩,
    ⟨(some 20), .bin .neq (.tmp 18) (.tmp 19), (some (17, false)), 0⟩,
    ⟨(some 21), .pick (.tmp 17) (.const (.bool true)) (.tmp 20), none, 0⟩] false) (.cond (.tmp 21) (.seq (.ops [⟨(some 2), .move (.const (.bool false)), none, 0⟩] false) (.ret)) (.skip))) (.seq (.seq (.ops [⟨(some 22), .move (.tmp 3), none, 0⟩,
    ⟨(some 23), .bin .neq (.tmp 22) (.const (.int .i64 0)), none, 0⟩] false) (.cond (.tmp 23) (.seq (.ops [⟨(some 24), .move (.tmp 4), none, 0⟩,
    ⟨(some 25), .len (.tmp 24), none, 0⟩,
    ⟨(some 26), .bin .eql (.tmp 25) (.const (.int .i64 0)), none, 0⟩,
    ⟨(some 2), .move (.tmp 26), none, 0⟩] false) (.ret)) (.skip))) (.seq (.ops [⟨(some 27), .faddr 1 (.tmp 1), none, 0⟩,
    ⟨(some 28), .load1 (.tmp 27), none, 1⟩,
    ⟨(some 29), .len (.tmp 28), none, 3⟩,
    ⟨(some 30), .bin .gtr (.tmp 29) (.const (.int .i64 200)), none, 7⟩,
    ⟨(some 31), .move (.tmp 30), none, 15⟩,
    ⟨(some 32), .move (.tmp 4), (some (31, false)), 31⟩,
    ⟨(some 33), .loadA 4 (.tmp 1), (some (31, false)), 31⟩,
    ⟨(some 34), .faddr 1 (.tmp 1), (some (31, false)), 31⟩,
    ⟨(some 35), .load1 (.tmp 34), (some (31, false)), 159⟩,
    ⟨(some 36), .len (.tmp 35), (some (31, false)), 415⟩,
    ⟨(some 37), .call 35 [(.tmp 36)], (some (31, false)), 927⟩,
    ⟨(some 38), .call 34 [(.tmp 33), (.tmp 37)], (some (31, false)), 2015⟩,
    ⟨(some 39), .call 25 [(.tmp 32), (.tmp 38)], (some (31, false)), 4095⟩,
    ⟨(some 40), .pick (.tmp 31) (.const (.bool true)) (.tmp 39), none, 8191⟩,
    ⟨(some 2), .move (.tmp 40), none, 16383⟩] true) (.ret))))))
set_option maxRecDepth 100000 in
theorem c7_ok : FunOK Try.prog 7 41 [.tmp 2] c7 := ⟨⟨Try.f7, Try.func7, rfl, by kernel_rfl, rfl, by kernel_rfl⟩⟩
set_option maxRecDepth 100000 in
theorem law_WorldSays (W : WorldD) (hW : W.Fits) : PCall Try.prog 7 [dworld W] (dbool true) := by
  refine pcall_intro c7_ok (by simp) (by simp [PureL, pure_dworld]) ?_ (by simp [dbool, Pure])
  have hR := ref_World W hW
  have hC := wo_Check W hW
  by_cases hc : W.chk = 0
  · obtain ⟨_, h600, _⟩ := chk_label W hc
    have hF := wo_Fair W hW hc
    have hE := ref_Every W.next.length (by omega)
    have hRF := ref_Fair W hW hc allT
    rw [hc] at hR hC
    unfold dworld at *
    (apply rd_sound; focus (repeat' constructor))
    ((conv=>whnf);repeat(refine And.intro rfl ?_;(conv=>whnf)))
    (refine .inl ⟨_, hR, ?_⟩; ((conv=>whnf);repeat(refine And.intro rfl ?_;(conv=>whnf))))
    (refine .inl ⟨_, hF, ?_⟩; ((conv=>whnf);repeat(refine And.intro rfl ?_;(conv=>whnf))))
    (refine .inl ⟨_, hC, ?_⟩; ((conv=>whnf);repeat(refine And.intro rfl ?_;(conv=>whnf))))
    rw [List.length_map]
    (refine ifK_split (fun q => ?_) (fun q => ?_) <;> (rw [q]; ((conv=>whnf);repeat(refine And.intro rfl ?_;(conv=>whnf)))))
    · exact .refl _
    have q : ¬ 200 < W.next.length := by ((try simp only [oo, reduceCtorEq] at *) <;> omega)
    rw [List.length_map]
    (refine .inl ⟨_, hE, ?_⟩; ((conv=>whnf);repeat(refine And.intro rfl ?_;(conv=>whnf))))
    (refine .inl ⟨_, hRF, ?_⟩; ((conv=>whnf);repeat(refine And.intro rfl ?_;(conv=>whnf))))
    (refine .inl ⟨_, (eq_bool W.next.length (fwB (resG W.next allT) (W.fair.map setB)) (by omega)), ?_⟩; ((conv=>whnf);repeat(refine And.intro rfl ?_;(conv=>whnf))))
    exact .refl _
  · have hF := wo_Fair_bad W hW hc
    generalize W.chk = c at *
    unfold dworld at *
    (apply rd_sound; focus (repeat' constructor))
    ((conv=>whnf);repeat(refine And.intro rfl ?_;(conv=>whnf)))
    (refine .inl ⟨_, hR, ?_⟩; ((conv=>whnf);repeat(refine And.intro rfl ?_;(conv=>whnf))))
    (refine .inl ⟨_, hF, ?_⟩; ((conv=>whnf);repeat(refine And.intro rfl ?_;(conv=>whnf))))
    (refine .inl ⟨_, hC, ?_⟩; ((conv=>whnf);repeat(refine And.intro rfl ?_;(conv=>whnf))))
    rw [show (c != c) = false by simp]
    ((conv=>whnf);repeat(refine And.intro rfl ?_;(conv=>whnf)))
    rw [show (c != c) = false by simp]
    ((conv=>whnf);repeat(refine And.intro rfl ?_;(conv=>whnf)))
    (refine ifK_split (fun q => ?_) (fun q => ?_) <;> (rw [q]; ((conv=>whnf);repeat(refine And.intro rfl ?_;(conv=>whnf)))))
    · exact .refl _
    · exfalso; ((try simp only [oo, reduceCtorEq] at *) <;> omega)
namespace worldSays
set_option maxRecDepth 100000 in
theorem law : ∀ Ds, OfAs Try.prog [56] Ds → PCall Try.prog 7 Ds (dbool true)
  | [d], h => by
    have h1 := h.1
    unfold OfA OfAz at h1
    rw [Try.underlying56] at h1
    obtain ⟨cs, rfl, h1⟩ := h1
    have k1 := of_struct Try.underlying56 h1
    simp only [List.map_cons, List.map_nil] at k1
    obtain ⟨start, r, rfl, b1, _, k1⟩ := fList Try.underlying22 Try.underlying3 (by kernel_rfl) (by kernel_rfl) k1
    obtain ⟨next, r, rfl, b2, k1⟩ := fGrid Try.underlying23 Try.underlying22 Try.underlying3 (by kernel_rfl) (by kernel_rfl) (by kernel_rfl) (of_decide_eq_true (by kernel_rfl)) k1
    obtain ⟨label, r, rfl, b3, _, k1⟩ := fList Try.underlying24 Try.underlying99 (by kernel_rfl) (by kernel_rfl) k1
    obtain ⟨fair, r, rfl, b4, k1⟩ := fGrid Try.underlying23 Try.underlying22 Try.underlying3 (by kernel_rfl) (by kernel_rfl) (by kernel_rfl) (of_decide_eq_true (by kernel_rfl)) k1
    obtain rfl := ofTs_nil k1
    exact law_WorldSays ⟨start, next, label, fair⟩ ⟨b1, b2.len, b3, b4.len, b2.each, b4.each⟩
theorem types : typesOK Try.prog [56, 22, 23, 24, 3, 99] = true := by kernel_rfl
set_option maxRecDepth 100000 in
theorem laidOut : laidOutB Try.prog = true := by kernel_rfl
set_option maxRecDepth 100000 in
theorem readable : (Try.f7.params.toList.all fun t => Try.prog.readableRec t && decide (t < Try.prog.types.size)) = true := by kernel_rfl
theorem own : ownKnob Try.prog.godebug = none := by kernel_rfl
set_option maxRecDepth 100000 in
theorem lifted (os : Os) (started : os.Started) (H : Type) (enc : TypeId × Value → H) :
    ReturnsInHanded {} Try.checked os 7 .any (Rows.worldSaysSpec.pre6 enc Try.prog Try.f7 Rows.worldSaysRow.domain false) (Rows.worldSaysSpec.post enc Try.prog Try.f7 false true false false) := by
  refine returnsInHanded_of_change_sized (C := Try.checked) own started (by kernel_rfl) Try.func7
    (ChangeSpec.witness6 (enc := enc) (C := Try.checked) false ⟨#[], #[.agg #[.slice none 0 0, .slice none 0 0, .slice none 0 0, .slice none 0 0]], []⟩ 8 (by kernel_rfl) (by kernel_rfl) (by kernel_rfl) (by kernel_rfl)) ?_
  intro W base args ds gs before hval0 hW _ hsz _
  have hval : ∀ (j : Nat) t v, Try.f7.params[j]? = some t → args[j]? = some v → Value.okWide Try.prog W .any base t v := hval0
  have hW' := hW
  obtain ⟨p, q, hA0, hV, _, hfz, hnd⟩ := hW
  have hA : DataW.TrodAll enc Try.prog W 0 (fun _ => true) true Try.f7.params.toList args.toList ds p := hA0
  have hps : Try.f7.params.toList = [56] := by kernel_rfl
  obtain ⟨Ds, hD, hR⟩ := args_rep types (base := base) _ _ _ _ (fun t ht => by rw [hps] at ht; revert t; decide) (fun j t v h1 h2 => hval j t v (by simpa using h1) (by simpa using h2)) hA fun n hn => by
    have := List.all_eq_true.1 hsz n (weightsEach_pre _ _ _ _ (trodAll_len _ _ _ _ hA).symm n hn)
    simpa using this
  rw [hps] at hD
  have hC := (law Ds hD).run noInj (There W) W args.toList (fun b h => h) hR
  rw [show args.toList.toArray = args from rfl] at hC
  refine hC.mono fun e W' ⟨v, F', he, _, hv, hx⟩ => ?_
  have hv' : v = .bool true := by simpa only [rep, dbool] using hv
  subst he hv'
  exact ⟨_, rfl, row_post hW' rfl (by kernel_rfl) Try.underlying4 laidOut (fun t ht => by
      have := List.all_eq_true.1 readable t ht
      simp only [Bool.and_eq_true, decide_eq_true_eq] at this
      exact this) (fun ds h => by rw [hps] at h; match ds, h with | [_], _ => rfl) (below_of_ext hx) (ok_one (by kernel_rfl) rfl (okWide_bool_mk Try.underlying4 _))⟩

theorem over : Rows.worldSaysRow.holds Try.pinned (OpenSpec.ofChange Rows.worldSaysSpec) :=
  OpenClaim.holds_of_wide 7 Try.f7 rfl rfl rfl rfl rfl rfl rfl ⟨rfl, rfl, rfl, rfl, rfl⟩ rfl rfl rfl rfl rfl (by kernel_rfl) Try.func7 (by kernel_rfl)
    (of_decide_eq_true (by kernel_rfl)) (by unfold Func.isWrapper; first | (rw [if_pos (by decide +kernel)]; kernel_rfl) | (rw [if_neg (by decide +kernel)]; exact ⟨rfl, rfl⟩))
    (fun os started H enc _ => lifted os started H enc)

theorem proved : Rows.WorldSaysSaid := over
end worldSays
end Go.Proofs.Ytfgklgjbnpjpoaa
