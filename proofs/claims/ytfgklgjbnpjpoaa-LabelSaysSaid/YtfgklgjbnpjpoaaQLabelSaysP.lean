/-
  watchlaw.LabelSays returns true for every world and formula, and each argument reads afterwards as it read before. No conditions.
-/
import Derived.Test.YtfgklgjbnpjpoaaQDC
import Derived.Test.YtfgklgjbnpjpoaaQAt
import Derived.Test.YtfgklgjbnpjpoaaQAf
import Derived.Test.YtfgklgjbnpjpoaaQLa6
import Derived.Test.YtfgklgjbnpjpoaaQRl
import Derived.Test.YtfgklgjbnpjpoaaRows
namespace Go.Proofs.Ytfgklgjbnpjpoaa
open Go.RowKit Go.ChangeShapes Go.WideShapes Go.ChangeAt
set_option linter.unusedSimpArgs false
set_option linter.unusedVariables false
def labE (W : WorldD) (t : Tree) : Int := if W.chk = 0 then chk cKids t else W.chk
def c109 : PC := .seq (.ops [⟨(some 2), .box (.tmp 0), none, 0⟩,
    ⟨(some 3), .box (.tmp 1), none, 0⟩,
    ⟨(some 4), .move (.const (.int .i64 0)), none, 0⟩] false) (.seq (.seq (.ops [⟨(some 6), .loadA 4 (.tmp 2), none, 0⟩,
    ⟨(some 7), .call 33 [(.tmp 6)], none, 0⟩,
    ⟨(some 5), .move (.tmp 7), none, 0⟩] false) (.seq (.ops [⟨(some 8), .move (.tmp 5), none, 0⟩,
    ⟨(some 9), .bin .neq (.tmp 8) (.const (.int .i64 0)), none, 0⟩] false) (.cond (.tmp 9) (.seq (.ops [⟨(some 10), .move (.tmp 5), none, 0⟩,
    ⟨(some 4), .move (.tmp 10), none, 0⟩] false) (.ret)) (.skip)))) (.seq (.ops [⟨(some 11), .loadA 3 (.tmp 3), none, 0⟩,
    ⟨(some 12), .call 189 [(.tmp 11)], none, 0⟩,
    ⟨(some 4), .move (.tmp 12), none, 0⟩] false) (.ret)))
set_option maxRecDepth 100000 in
theorem c109_ok : FunOK Try.prog 109 13 [.tmp 4] c109 := ⟨⟨Try.f109, Try.func109, rfl, by kernel_rfl, rfl, by kernel_rfl⟩⟩
theorem lab_check (W : WorldD) (hW : W.Fits) (t : Tree) (hs : Small t) : PCall Try.prog 109 [dworld W, dtree t] (.sc (.int .i64 (labE W t))) := by
  have hC := wo_Check W hW
  have hT := ctl_Check t hs
  refine pcall_intro c109_ok (by simp) (by simp [PureL, pure_dworld, pure_dtree]) ?_ (by simp [Pure])
  unfold labE
  generalize W.chk = c at *
  unfold dworld at *
  (apply rd_sound; focus (repeat' constructor))
  ((conv=>whnf);repeat(refine And.intro rfl ?_;(conv=>whnf)))
  (refine .inl ⟨_, hC, ?_⟩; ((conv=>whnf);repeat(refine And.intro rfl ?_;(conv=>whnf))))
  (refine ifK_split (fun q => ?_) (fun q => ?_) <;> (rw [q]; ((conv=>whnf);repeat(refine And.intro rfl ?_;(conv=>whnf)))))
  · have q : ¬ c = 0 := by ((try simp only [oo, reduceCtorEq] at *) <;> omega)
    rw [if_neg q]
    exact .refl _
  · have q : c = 0 := by ((try simp only [oo, reduceCtorEq] at *) <;> omega)
    rw [if_pos q]
    (refine .inl ⟨_, hT, ?_⟩; ((conv=>whnf);repeat(refine And.intro rfl ?_;(conv=>whnf))))
    exact .refl _
def c41 : PC := .seq (.ops [⟨(some 2), .box (.tmp 0), none, 0⟩,
    ⟨(some 3), .box (.tmp 1), none, 0⟩,
    ⟨(some 4), .move (.const (.slice none 0 0)), none, 0⟩,
    ⟨(some 5), .move (.const (.int .i64 0)), none, 0⟩] false) (.seq (.seq (.ops [⟨(some 7), .loadA 4 (.tmp 2), none, 0⟩,
    ⟨(some 8), .loadA 3 (.tmp 3), none, 0⟩,
    ⟨(some 9), .call 109 [(.tmp 7), (.tmp 8)], none, 0⟩,
    ⟨(some 6), .move (.tmp 9), none, 0⟩] false) (.seq (.ops [⟨(some 10), .move (.tmp 6), none, 0⟩,
    ⟨(some 11), .bin .neq (.tmp 10) (.const (.int .i64 0)), none, 0⟩] false) (.cond (.tmp 11) (.seq (.ops [⟨(some 12), .move (.tmp 6), none, 0⟩,
    ⟨(some 4), .move (.const (.slice none 0 0)), none, 0⟩,
    ⟨(some 5), .move (.tmp 12), none, 0⟩] false) (.ret)) (.skip)))) (.seq (.ops [⟨(some 13), .loadA 4 (.tmp 2), none, 0⟩,
    ⟨(some 14), .call 110 [(.tmp 13)], none, 1⟩,
    ⟨(some 15), .loadA 3 (.tmp 3), none, 0⟩,
    ⟨(some 16), .call 111 [(.tmp 14), (.tmp 15)], none, 7⟩,
    ⟨(some 4), .move (.tmp 16), none, 15⟩,
    ⟨(some 5), .move (.const (.int .i64 0)), none, 31⟩] true) (.ret)))
set_option maxRecDepth 100000 in
theorem c41_ok : FunOK Try.prog 41 17 [.tmp 4, .tmp 5] c41 := ⟨⟨Try.f41, Try.func41, rfl, by kernel_rfl, rfl, by kernel_rfl⟩⟩
theorem lab_bad (W : WorldD) (hW : W.Fits) (t : Tree) (hs : Small t) (h : labE W t ≠ 0) : PCall Try.prog 41 [dworld W, dtree t] (.tup [.sc (.slice none 0 0), .sc (.int .i64 (labE W t))]) := by
  have hC := lab_check W hW t hs
  refine pcall_intro c41_ok (by simp) (by simp [PureL, pure_dworld, pure_dtree]) ?_ (by simp [Pure, PureL])
  generalize labE W t = e at *
  unfold dworld at *
  (apply rd_sound; focus (repeat' constructor))
  ((conv=>whnf);repeat(refine And.intro rfl ?_;(conv=>whnf)))
  (refine .inl ⟨_, hC, ?_⟩; ((conv=>whnf);repeat(refine And.intro rfl ?_;(conv=>whnf))))
  (refine ifK_split (fun q => ?_) (fun q => ?_) <;> (rw [q]; ((conv=>whnf);repeat(refine And.intro rfl ?_;(conv=>whnf)))))
  · exact .refl _
  · exfalso; ((try simp only [oo, reduceCtorEq] at *) <;> omega)
theorem lab_good (W : WorldD) (hW : W.Fits) (hL : Lett W.label) (t : Tree) (hs : Small t) (hc : W.chk = 0) (h : chk cKids t = 0) : PCall Try.prog 41 [dworld W, dtree t] (.tup [dbl W.next.length (labT W t), .sc (.int .i64 0)]) := by
  have hC := lab_check W hW t hs
  rw [show labE W t = 0 by unfold labE; rw [if_pos hc, h]] at hC
  have hB := la_begun W hW hc
  have hT := la_label W hW hc hL t ((chk_zero _ _).1 h).2.2
  refine pcall_intro c41_ok (by simp) (by simp [PureL, pure_dworld, pure_dtree]) ?_ (by simp [Pure, PureL, pure_dbl])
  unfold dworld at *
  (apply rd_sound; focus (repeat' constructor))
  ((conv=>whnf);repeat(refine And.intro rfl ?_;(conv=>whnf)))
  (refine .inl ⟨_, hC, ?_⟩; ((conv=>whnf);repeat(refine And.intro rfl ?_;(conv=>whnf))))
  (refine .inl ⟨_, hB, ?_⟩; ((conv=>whnf);repeat(refine And.intro rfl ?_;(conv=>whnf))))
  (refine .inl ⟨_, hT, ?_⟩; ((conv=>whnf);repeat(refine And.intro rfl ?_;(conv=>whnf))))
  exact .refl _
def c10 : PC := .seq (.ops [⟨(some 2), .box (.tmp 0), none, 0⟩,
    ⟨(some 3), .box (.tmp 1), none, 0⟩,
    ⟨(some 4), .move (.const (.bool false)), none, 0⟩] false) (.seq (.ops [⟨(some 9), .loadA 4 (.tmp 2), none, 0⟩,
    ⟨(some 10), .loadA 3 (.tmp 3), none, 0⟩,
    ⟨(some 11), .call 41 [(.tmp 9), (.tmp 10)], none, 0⟩,
    ⟨(some 8), .move (.tmp 11), none, 0⟩,
    ⟨(some 12), .ext 0 (.tmp 8), none, 0⟩,
    ⟨(some 13), .ext 1 (.tmp 8), none, 0⟩,
    ⟨(some 5), .move (.tmp 12), none, 0⟩,
    ⟨(some 6), .move (.tmp 13), none, 0⟩] false) (.seq (.ops [⟨(some 14), .loadA 4 (.tmp 2), none, 0⟩,
    ⟨(some 15), .call 31 [(.tmp 14)], none, 0⟩,
    ⟨(some 7), .move (.tmp 15), none, 0⟩] false) (.seq (.seq (.ops [⟨(some 16), .move (.tmp 7), none, 0⟩,
    ⟨(some 17), .bin .eql (.tmp 16) (.const (.int .i64 0)), none, 0⟩] false) (.cond (.tmp 17) (.ops [⟨(some 18), .loadA 3 (.tmp 3), none, 0⟩,
    ⟨(some 19), .call 42 [(.tmp 18)], none, 0⟩,
    ⟨(some 7), .move (.tmp 19), none, 0⟩] false) (.skip))) (.seq (.seq (.ops [⟨(some 20), .move (.tmp 7), none, 0⟩,
    ⟨(some 21), .bin .neq (.tmp 20) (.const (.int .i64 0)), none, 0⟩] false) (.cond (.tmp 21) (.seq (.ops [⟨(some 22), .move (.tmp 6), none, 0⟩,
    ⟨(some 23), .move (.tmp 7), none, 0⟩,
    ⟨(some 24), .bin .eql (.tmp 22) (.tmp 23), none, 0⟩,
    ⟨(some 25), .move (.tmp 24), none, 0⟩,
    ⟨(some 26), .move (.tmp 5), (some (25, true)), 0⟩,
    ⟨(some 27), .len (.tmp 26), (some (25, true)), 0⟩,
    ⟨(some 28), .bin .eql (.tmp 27) (.const (.int .i64 0)), (some (25, true)), 0⟩,
    ⟨(some 29), .pick (.tmp 25) (.tmp 28) (.const (.bool false)), none, 0⟩,
    ⟨(some 4), .move (.tmp 29), none, 0⟩] false) (.ret)) (.skip))) (.seq (.ops [⟨(some 30), .move (.tmp 6), none, 0⟩,
    ⟨(some 31), .bin .eql (.tmp 30) (.const (.int .i64 0)), none, 0⟩,
    ⟨(some 32), .move (.tmp 31), none, 0⟩,
    ⟨(some 33), .faddr 1 (.tmp 2), (some (32, true)), 0⟩,
    ⟨(some 34), .load1 (.tmp 33), (some (32, true)), 0⟩,
    ⟨(some 35), .len (.tmp 34), (some (32, true)), 0⟩,
    ⟨(some 36), .bin .gtr (.tmp 35) (.const (.int .i64 200)), (some (32, true)), 0⟩,
    ⟨(some 37), .move (.tmp 36), (some (32, true)), 0⟩,
    ⟨(some 38), .move (.tmp 5), (some (37, false)), 0⟩,
    ⟨(some 39), .loadA 4 (.tmp 2), (some (37, false)), 0⟩,
    ⟨(some 40), .loadA 3 (.tmp 3), (some (37, false)), 0⟩,
    ⟨(some 41), .call 43 [(.tmp 39), (.tmp 40)], (some (37, false)), 0⟩,
    ⟨(some 42), .call 25 [(.tmp 38), (.tmp 41)], (some (37, false)), 0⟩,
    ⟨(some 43), .pick (.tmp 37) (.const (.bool true)) (.tmp 42), (some (32, true)), 0⟩,
    ⟨(some 44), .pick (.tmp 32) (.tmp 43) (.const (.bool false)), none, 0⟩,
    ⟨(some 4), .move (.tmp 44), none, 0⟩] false) (.ret))))))
set_option maxRecDepth 100000 in
theorem c10_ok : FunOK Try.prog 10 45 [.tmp 4] c10 := ⟨⟨Try.f10, Try.func10, rfl, by kernel_rfl, rfl, by kernel_rfl⟩⟩
set_option maxRecDepth 100000 in
theorem law_LabelSays (W : WorldD) (hW : W.Fits) (hL : Lett W.label) (t : Tree) (hs : Small t) : PCall Try.prog 10 [dworld W, dtree t] (dbool true) := by
  have hR := ref_World W hW
  have hRC := ref_Ctl t hs
  refine pcall_intro c10_ok (by simp) (by simp [PureL, pure_dworld, pure_dtree]) ?_ (by simp [dbool, Pure])
  by_cases hc : W.chk = 0
  · by_cases h : chk cKids t = 0
    · obtain ⟨_, h600, _⟩ := chk_label W hc
      have hG := lab_good W hW hL t hs hc h
      have hRL := ref_Label W hW hc hL t ((chk_zero _ _).1 h).2.2
      rw [hc] at hR
      rw [h] at hRC
      unfold dworld at *
      (apply rd_sound; focus (repeat' constructor))
      ((conv=>whnf);repeat(refine And.intro rfl ?_;(conv=>whnf)))
      (refine .inl ⟨_, hG, ?_⟩; ((conv=>whnf);repeat(refine And.intro rfl ?_;(conv=>whnf))))
      (refine .inl ⟨_, hR, ?_⟩; ((conv=>whnf);repeat(refine And.intro rfl ?_;(conv=>whnf))))
      (refine .inl ⟨_, hRC, ?_⟩; ((conv=>whnf);repeat(refine And.intro rfl ?_;(conv=>whnf))))
      rw [List.length_map]
      (refine ifK_split (fun q => ?_) (fun q => ?_) <;> (rw [q]; ((conv=>whnf);repeat(refine And.intro rfl ?_;(conv=>whnf)))))
      · exact .refl _
      (refine .inl ⟨_, hRL, ?_⟩; ((conv=>whnf);repeat(refine And.intro rfl ?_;(conv=>whnf))))
      (refine .inl ⟨_, (eq_bool W.next.length (labT W t) (by omega)), ?_⟩; ((conv=>whnf);repeat(refine And.intro rfl ?_;(conv=>whnf))))
      exact .refl _
    · have hB := lab_bad W hW t hs (by unfold labE; rw [if_pos hc]; exact h)
      rw [show labE W t = chk cKids t by unfold labE; rw [if_pos hc]] at hB
      rw [hc] at hR
      generalize chk cKids t = e at *
      unfold dworld at *
      (apply rd_sound; focus (repeat' constructor))
      ((conv=>whnf);repeat(refine And.intro rfl ?_;(conv=>whnf)))
      (refine .inl ⟨_, hB, ?_⟩; ((conv=>whnf);repeat(refine And.intro rfl ?_;(conv=>whnf))))
      (refine .inl ⟨_, hR, ?_⟩; ((conv=>whnf);repeat(refine And.intro rfl ?_;(conv=>whnf))))
      (refine .inl ⟨_, hRC, ?_⟩; ((conv=>whnf);repeat(refine And.intro rfl ?_;(conv=>whnf))))
      (refine ifK_split (fun q => ?_) (fun q => ?_) <;> (rw [q]; ((conv=>whnf);repeat(refine And.intro rfl ?_;(conv=>whnf)))))
      · rw [show (e == e) = true by simp]
        ((conv=>whnf);repeat(refine And.intro rfl ?_;(conv=>whnf)))
        exact .refl _
      · exfalso; ((try simp only [oo, reduceCtorEq] at *) <;> omega)
  · have hB := lab_bad W hW t hs (by unfold labE; rw [if_neg hc]; exact hc)
    rw [show labE W t = W.chk by unfold labE; rw [if_neg hc]] at hB
    generalize W.chk = c at *
    unfold dworld at *
    (apply rd_sound; focus (repeat' constructor))
    ((conv=>whnf);repeat(refine And.intro rfl ?_;(conv=>whnf)))
    (refine .inl ⟨_, hB, ?_⟩; ((conv=>whnf);repeat(refine And.intro rfl ?_;(conv=>whnf))))
    (refine .inl ⟨_, hR, ?_⟩; ((conv=>whnf);repeat(refine And.intro rfl ?_;(conv=>whnf))))
    (refine ifK_split (fun q => ?_) (fun q => ?_) <;> (rw [q]; ((conv=>whnf);repeat(refine And.intro rfl ?_;(conv=>whnf)))))
    · exfalso; ((try simp only [oo, reduceCtorEq] at *) <;> omega)
    (refine ifK_split (fun q2 => ?_) (fun q2 => ?_) <;> (rw [q2]; ((conv=>whnf);repeat(refine And.intro rfl ?_;(conv=>whnf)))))
    · rw [show (c == c) = true by simp]
      ((conv=>whnf);repeat(refine And.intro rfl ?_;(conv=>whnf)))
      exact .refl _
    · exfalso; ((try simp only [oo, reduceCtorEq] at *) <;> omega)
namespace labelSays
set_option maxRecDepth 100000 in
theorem law : ∀ Ds, OfAs Try.prog [56, 71] Ds → PCall Try.prog 10 Ds (dbool true)
  | [d, e], h => by
    obtain ⟨t, rfl, ht⟩ := argCtl h.2.1
    have h1 := h.1
    unfold OfA OfAz at h1
    rw [Try.underlying56] at h1
    obtain ⟨cs, rfl, h1⟩ := h1
    have k1 := of_struct Try.underlying56 h1
    simp only [List.map_cons, List.map_nil] at k1
    obtain ⟨start, r, rfl, b1, _, k1⟩ := fList Try.underlying22 Try.underlying3 (by kernel_rfl) (by kernel_rfl) k1
    obtain ⟨next, r, rfl, b2, k1⟩ := fGrid Try.underlying23 Try.underlying22 Try.underlying3 (by kernel_rfl) (by kernel_rfl) (by kernel_rfl) (of_decide_eq_true (by kernel_rfl)) k1
    obtain ⟨label, r, rfl, b3, r3, k1⟩ := fList Try.underlying24 Try.underlying99 (by kernel_rfl) (by kernel_rfl) k1
    obtain ⟨fair, r, rfl, b4, k1⟩ := fGrid Try.underlying23 Try.underlying22 Try.underlying3 (by kernel_rfl) (by kernel_rfl) (by kernel_rfl) (of_decide_eq_true (by kernel_rfl)) k1
    obtain rfl := ofTs_nil k1
    exact law_LabelSays ⟨start, next, label, fair⟩ ⟨b1, b2.len, b3, b4.len, b2.each, b4.each⟩ (fun x hx => by have := r3 x hx; simp [IntKind.min, IntKind.max, IntKind.signed, IntKind.bits] at this; omega) t ht
theorem types : typesOK Try.prog [56, 71, 22, 23, 24, 3, 69, 99] = true := by kernel_rfl
set_option maxRecDepth 100000 in
theorem laidOut : laidOutB Try.prog = true := by kernel_rfl
set_option maxRecDepth 100000 in
theorem readable : (Try.f10.params.toList.all fun t => Try.prog.readableRec t && decide (t < Try.prog.types.size)) = true := by kernel_rfl
theorem own : ownKnob Try.prog.godebug = none := by kernel_rfl
set_option maxRecDepth 100000 in
theorem lifted (os : Os) (started : os.Started) (H : Type) (enc : TypeId × Value → H) :
    ReturnsInHanded {} Try.checked os 10 .any (Rows.labelSaysSpec.pre6 enc Try.prog Try.f10 Rows.labelSaysRow.domain false) (Rows.labelSaysSpec.post enc Try.prog Try.f10 false true false false) := by
  refine returnsInHanded_of_change_sized (C := Try.checked) own started (by kernel_rfl) Try.func10
    (ChangeSpec.witness6 (enc := enc) (C := Try.checked) false ⟨#[], #[.agg #[.slice none 0 0, .slice none 0 0, .slice none 0 0, .slice none 0 0], .agg #[.int .i64 0, .int .i64 0, .slice none 0 0]], []⟩ 8 (by kernel_rfl) (by kernel_rfl) (by kernel_rfl) (by kernel_rfl)) ?_
  intro W base args ds gs before hval0 hW _ hsz _
  have hval : ∀ (j : Nat) t v, Try.f10.params[j]? = some t → args[j]? = some v → Value.okWide Try.prog W .any base t v := hval0
  have hW' := hW
  obtain ⟨p, q, hA0, hV, _, hfz, hnd⟩ := hW
  have hA : DataW.TrodAll enc Try.prog W 0 (fun _ => true) true Try.f10.params.toList args.toList ds p := hA0
  have hps : Try.f10.params.toList = [56, 71] := by kernel_rfl
  obtain ⟨Ds, hD, hR⟩ := args_rep types (base := base) _ _ _ _ (fun t ht => by rw [hps] at ht; revert t; decide) (fun j t v h1 h2 => hval j t v (by simpa using h1) (by simpa using h2)) hA fun n hn => by
    have := List.all_eq_true.1 hsz n (weightsEach_pre _ _ _ _ (trodAll_len _ _ _ _ hA).symm n hn)
    simpa using this
  rw [hps] at hD
  have hC := (law Ds hD).run noInj (There W) W args.toList (fun b h => h) hR
  rw [show args.toList.toArray = args from rfl] at hC
  refine hC.mono fun e W' ⟨v, F', he, _, hv, hx⟩ => ?_
  have hv' : v = .bool true := by simpa only [rep, dbool] using hv
  subst he hv'
  exact ⟨_, rfl, row_post hW' rfl (by kernel_rfl) Try.underlying4 laidOut (fun t ht => by
      have := List.all_eq_true.1 readable t ht
      simp only [Bool.and_eq_true, decide_eq_true_eq] at this
      exact this) (fun ds h => by rw [hps] at h; match ds, h with | [_, _], _ => rfl) (below_of_ext hx) (ok_one (by kernel_rfl) rfl (okWide_bool_mk Try.underlying4 _))⟩

theorem over : Rows.labelSaysRow.holds Try.pinned (OpenSpec.ofChange Rows.labelSaysSpec) :=
  OpenClaim.holds_of_wide 10 Try.f10 rfl rfl rfl rfl rfl rfl rfl ⟨rfl, rfl, rfl, rfl, rfl⟩ rfl rfl rfl rfl rfl (by kernel_rfl) Try.func10 (by kernel_rfl)
    (of_decide_eq_true (by kernel_rfl)) (by unfold Func.isWrapper; first | (rw [if_pos (by decide +kernel)]; kernel_rfl) | (rw [if_neg (by decide +kernel)]; exact ⟨rfl, rfl⟩))
    (fun os started H enc _ => lifted os started H enc)

theorem proved : Rows.LabelSaysSaid := over
end labelSays
end Go.Proofs.Ytfgklgjbnpjpoaa
