/-
  watchlaw.DeclareMeans returns true for every template and every word, and each argument reads afterwards as it read before. No conditions.
-/
import Derived.Test.YtfgklgjbnpjpoaaQDC
import Derived.Test.YtfgklgjbnpjpoaaQAg
import Derived.Test.YtfgklgjbnpjpoaaQAw
import Derived.Test.YtfgklgjbnpjpoaaQDe4
import Derived.Test.YtfgklgjbnpjpoaaRows
namespace Go.Proofs.Ytfgklgjbnpjpoaa
open Go.RowKit Go.ChangeShapes Go.WideShapes Go.ChangeAt
set_option linter.unusedSimpArgs false
set_option linter.unusedVariables false
theorem tmeans_eq {kd a b ct : Int} {s l : List Int} (h : TW kd a b ct s l) : tmeans kd a b ct s l = refTB kd ct (snP s l) (seenP s l a) (seenP s l b) (s.length + l.length + 6 * l.length) (s.length + l.length) := by
  obtain ⟨hkd, ha, hb, hct⟩ := h.nums
  have hwl := (wchk_zero s l).1 h.word
  have prd : Prd s.length l.length (snP s l) := fun i hi => by show (!_) = (!_); rw [prd_bit s l 63 i hi]
  exact fits_eq hkd hct (A := bitP s l a) (B := bitP s l b) (fun j => rfl) (fun j => rfl) hwl.2 prd (fun i hi => by show (_ && _) = (_ && _); rw [prd i hi, prd_bit s l a i hi]) (fun i hi => by show (_ && _) = (_ && _); rw [prd i hi, prd_bit s l b i hi])
def c6 : PC := .seq (.ops [⟨(some 2), .box (.tmp 0), none, 0⟩,
    ⟨(some 3), .box (.tmp 1), none, 0⟩,
    ⟨(some 4), .move (.const (.bool false)), none, 0⟩] false) (.seq (.ops [⟨(some 9), .loadA 4 (.tmp 2), none, 0⟩,
    ⟨(some 10), .loadA 2 (.tmp 3), none, 0⟩,
    ⟨(some 11), .call 27 [(.tmp 9), (.tmp 10)], none, 0⟩,
    ⟨(some 8), .move (.tmp 11), none, 0⟩,
    ⟨(some 12), .ext 0 (.tmp 8), none, 0⟩,
    ⟨(some 13), .ext 1 (.tmp 8), none, 0⟩,
    ⟨(some 5), .move (.tmp 12), none, 0⟩,
    ⟨(some 6), .move (.tmp 13), none, 0⟩] false) (.seq (.ops [⟨(some 14), .loadA 4 (.tmp 2), none, 0⟩,
    ⟨(some 15), .call 28 [(.tmp 14)], none, 0⟩,
    ⟨(some 7), .move (.tmp 15), none, 0⟩] false) (.seq (.seq (.ops [⟨(some 16), .move (.tmp 7), none, 0⟩,
    ⟨(some 17), .bin .eql (.tmp 16) (.const (.int .i64 0)), none, 0⟩] false) (.cond (.tmp 17) (.ops [⟨(some 18), .loadA 2 (.tmp 3), none, 0⟩,
    ⟨(some 19), .call 29 [(.tmp 18)], none, 0⟩,
    ⟨(some 7), .move (.tmp 19), none, 0⟩] false) (.skip))) (.seq (.seq (.ops [⟨(some 20), .move (.tmp 7), none, 0⟩,
    ⟨(some 21), .bin .neq (.tmp 20) (.const (.int .i64 0)), none, 0⟩] false) (.cond (.tmp 21) (.seq (.ops [⟨(some 22), .move (.tmp 6), none, 0⟩,
    ⟨(some 23), .move (.tmp 7), none, 0⟩,
    ⟨(some 24), .bin .eql (.tmp 22) (.tmp 23), none, 0⟩,
    ⟨(some 25), .move (.tmp 24), none, 0⟩,
    ⟨(some 26), .move (.tmp 5), (some (25, true)), 0⟩,
    ⟨(some 27), .un .not (.tmp 26), (some (25, true)), 0⟩,
    ⟨(some 28), .pick (.tmp 25) (.tmp 27) (.const (.bool false)), none, 0⟩,
    ⟨(some 4), .move (.tmp 28), none, 0⟩] false) (.ret)) (.skip))) (.seq (.ops [⟨(some 29), .move (.tmp 6), none, 0⟩,
    ⟨(some 30), .bin .eql (.tmp 29) (.const (.int .i64 0)), none, 0⟩,
    ⟨(some 31), .move (.tmp 30), none, 0⟩,
    ⟨(some 32), .move (.tmp 5), (some (31, true)), 0⟩,
    ⟨(some 33), .loadA 4 (.tmp 2), (some (31, true)), 0⟩,
    ⟨(some 34), .loadA 2 (.tmp 3), (some (31, true)), 0⟩,
    ⟨(some 35), .call 30 [(.tmp 33), (.tmp 34)], (some (31, true)), 0⟩,
    ⟨(some 36), .eqb false (.tmp 32) (.tmp 35), (some (31, true)), 0⟩,
    ⟨(some 37), .pick (.tmp 31) (.tmp 36) (.const (.bool false)), none, 0⟩,
    ⟨(some 4), .move (.tmp 37), none, 0⟩] false) (.ret))))))
set_option maxRecDepth 100000 in
theorem c6_ok : FunOK Try.prog 6 38 [.tmp 4] c6 := ⟨⟨Try.f6, Try.func6, rfl, by kernel_rfl, rfl, by kernel_rfl⟩⟩
set_option maxRecDepth 100000 in
theorem law_DeclareMeans (kd a b ct : Int) (s l : List Int) (hs : Lett s) (hl : Lett l) : PCall Try.prog 6 [dtempl kd a b ct, dword s l] (dbool true) := by
  refine pcall_intro c6_ok (by simp) (by simp [PureL, pure_dtempl, pure_dword]) ?_ (by simp [dbool, Pure])
  have hP := ref_Template kd a b ct
  have hW := ref_Word s l
  by_cases e1 : tmplChk kd a b ct = 0
  · by_cases e2 : wchk s l = 0
    · have h : TW kd a b ct s l := ⟨e1, e2, hs, hl⟩
      have hM := dc_Means0 kd a b ct s l h
      have hK := ref_Fits kd a b ct s l h
      rw [tmeans_eq h] at hM
      rw [e1] at hP
      rw [e2] at hW
      generalize refTB kd ct (snP s l) (seenP s l a) (seenP s l b) (s.length + l.length + 6 * l.length) (s.length + l.length) = r at *
      unfold dtempl at *
      (apply rd_sound; focus (repeat' constructor))
      ((conv=>whnf);repeat(refine And.intro rfl ?_;(conv=>whnf)))
      (refine .inl ⟨_, hM, ?_⟩; ((conv=>whnf);repeat(refine And.intro rfl ?_;(conv=>whnf))))
      (refine .inl ⟨_, hP, ?_⟩; ((conv=>whnf);repeat(refine And.intro rfl ?_;(conv=>whnf))))
      (refine .inl ⟨_, hW, ?_⟩; ((conv=>whnf);repeat(refine And.intro rfl ?_;(conv=>whnf))))
      (refine .inl ⟨_, hK, ?_⟩; ((conv=>whnf);repeat(refine And.intro rfl ?_;(conv=>whnf))))
      exact deep_eq (by cases r <;> rfl)
    · have hM := dc_Means1 kd a b ct s l (wchk s l) (by rw [if_neg (by omega)]) e2
      rw [e1] at hP
      generalize wchk s l = c at *
      unfold dtempl at *
      (apply rd_sound; focus (repeat' constructor))
      ((conv=>whnf);repeat(refine And.intro rfl ?_;(conv=>whnf)))
      (refine .inl ⟨_, hM, ?_⟩; ((conv=>whnf);repeat(refine And.intro rfl ?_;(conv=>whnf))))
      (refine .inl ⟨_, hP, ?_⟩; ((conv=>whnf);repeat(refine And.intro rfl ?_;(conv=>whnf))))
      (refine .inl ⟨_, hW, ?_⟩; ((conv=>whnf);repeat(refine And.intro rfl ?_;(conv=>whnf))))
      (refine ifK_split (fun q => ?_) (fun q => ?_) <;> (rw [q]; ((conv=>whnf);repeat(refine And.intro rfl ?_;(conv=>whnf)))))
      · rw [show (c == c) = true by simp]
        ((conv=>whnf);repeat(refine And.intro rfl ?_;(conv=>whnf)))
        exact .refl _
      · exfalso; ((try simp only [oo, reduceCtorEq] at *) <;> omega)
  · have hM := dc_Means1 kd a b ct s l (tmplChk kd a b ct) (by rw [if_pos e1]) e1
    generalize tmplChk kd a b ct = c at *
    unfold dtempl at *
    (apply rd_sound; focus (repeat' constructor))
    ((conv=>whnf);repeat(refine And.intro rfl ?_;(conv=>whnf)))
    (refine .inl ⟨_, hM, ?_⟩; ((conv=>whnf);repeat(refine And.intro rfl ?_;(conv=>whnf))))
    (refine .inl ⟨_, hP, ?_⟩; ((conv=>whnf);repeat(refine And.intro rfl ?_;(conv=>whnf))))
    (refine ifK_split (fun q => ?_) (fun q => ?_) <;> (rw [q]; ((conv=>whnf);repeat(refine And.intro rfl ?_;(conv=>whnf)))))
    · exfalso; ((try simp only [oo, reduceCtorEq] at *) <;> omega)
    (refine ifK_split (fun q2 => ?_) (fun q2 => ?_) <;> (rw [q2]; ((conv=>whnf);repeat(refine And.intro rfl ?_;(conv=>whnf)))))
    · rw [show (c == c) = true by simp]
      ((conv=>whnf);repeat(refine And.intro rfl ?_;(conv=>whnf)))
      exact .refl _
    · exfalso; ((try simp only [oo, reduceCtorEq] at *) <;> omega)
namespace declareMeans
set_option maxRecDepth 100000 in
theorem law : ∀ Ds, OfAs Try.prog [47, 49] Ds → PCall Try.prog 6 Ds (dbool true)
  | [d, w], h0 => by
    have h := h0.1
    obtain ⟨st, lp, rfl, hs, hl⟩ := argWordL Try.underlying49 rfl rfl Try.underlying24 Try.underlying99 (by kernel_rfl) h0.2.1
    clear h0
    unfold OfA OfAz at h
    rw [Try.underlying47] at h
    obtain ⟨cs, rfl, h⟩ := h
    have h := of_struct Try.underlying47 h
    obtain ⟨k, _, rfl, _, h⟩ := ofTs_int Try.underlying3 h
    obtain ⟨a, _, rfl, _, h⟩ := ofTs_int Try.underlying3 h
    obtain ⟨b, _, rfl, _, h⟩ := ofTs_int Try.underlying3 h
    obtain ⟨c, _, rfl, _, h⟩ := ofTs_int Try.underlying3 h
    obtain rfl := ofTs_nil h
    exact law_DeclareMeans k a b c st lp hs hl
theorem types : typesOK Try.prog [47, 49, 3, 24, 99] = true := by kernel_rfl
set_option maxRecDepth 100000 in
theorem laidOut : laidOutB Try.prog = true := by kernel_rfl
set_option maxRecDepth 100000 in
theorem readable : (Try.f6.params.toList.all fun t => Try.prog.readableRec t && decide (t < Try.prog.types.size)) = true := by kernel_rfl
theorem own : ownKnob Try.prog.godebug = none := by kernel_rfl
set_option maxRecDepth 100000 in
theorem lifted (os : Os) (started : os.Started) (H : Type) (enc : TypeId × Value → H) :
    ReturnsInHanded {} Try.checked os 6 .any (Rows.declareMeansSpec.pre6 enc Try.prog Try.f6 Rows.declareMeansRow.domain false) (Rows.declareMeansSpec.post enc Try.prog Try.f6 false true false false) := by
  refine returnsInHanded_of_change_sized (C := Try.checked) own started (by kernel_rfl) Try.func6
    (ChangeSpec.witness6 (enc := enc) (C := Try.checked) false ⟨#[], #[.agg #[.int .i64 0, .int .i64 0, .int .i64 0, .int .i64 0], .agg #[.slice none 0 0, .slice none 0 0]], []⟩ 8 (by kernel_rfl) (by kernel_rfl) (by kernel_rfl) (by kernel_rfl)) ?_
  intro W base args ds gs before hval0 hW _ hsz _
  have hval : ∀ (j : Nat) t v, Try.f6.params[j]? = some t → args[j]? = some v → Value.okWide Try.prog W .any base t v := hval0
  have hW' := hW
  obtain ⟨p, q, hA0, hV, _, hfz, hnd⟩ := hW
  have hA : DataW.TrodAll enc Try.prog W 0 (fun _ => true) true Try.f6.params.toList args.toList ds p := hA0
  have hps : Try.f6.params.toList = [47, 49] := by kernel_rfl
  obtain ⟨Ds, hD, hR⟩ := args_rep types (base := base) _ _ _ _ (fun t ht => by rw [hps] at ht; revert t; decide) (fun j t v h1 h2 => hval j t v (by simpa using h1) (by simpa using h2)) hA fun n hn => by
    have := List.all_eq_true.1 hsz n (weightsEach_pre _ _ _ _ (trodAll_len _ _ _ _ hA).symm n hn)
    simpa using this
  rw [hps] at hD
  have hC := (law Ds hD).run noInj (There W) W args.toList (fun b h => h) hR
  rw [show args.toList.toArray = args from rfl] at hC
  refine hC.mono fun e W' ⟨v, F', he, _, hv, hx⟩ => ?_
  have hv' : v = .bool true := by simpa only [rep, dbool] using hv
  subst he hv'
  exact ⟨_, rfl, row_post hW' rfl (by kernel_rfl) Try.underlying4 laidOut (fun t ht => by
      have := List.all_eq_true.1 readable t ht
      simp only [Bool.and_eq_true, decide_eq_true_eq] at this
      exact this) (fun ds h => by rw [hps] at h; match ds, h with | [_, _], _ => rfl) (below_of_ext hx) (ok_one (by kernel_rfl) rfl (okWide_bool_mk Try.underlying4 _))⟩

theorem over : Rows.declareMeansRow.holds Try.pinned (OpenSpec.ofChange Rows.declareMeansSpec) :=
  OpenClaim.holds_of_wide 6 Try.f6 rfl rfl rfl rfl rfl rfl rfl ⟨rfl, rfl, rfl, rfl, rfl⟩ rfl rfl rfl rfl rfl (by kernel_rfl) Try.func6 (by kernel_rfl)
    (of_decide_eq_true (by kernel_rfl)) (by unfold Func.isWrapper; first | (rw [if_pos (by decide +kernel)]; kernel_rfl) | (rw [if_neg (by decide +kernel)]; exact ⟨rfl, rfl⟩))
    (fun os started H enc _ => lifted os started H enc)

theorem proved : Rows.DeclareMeansSaid := over
end declareMeans
end Go.Proofs.Ytfgklgjbnpjpoaa
