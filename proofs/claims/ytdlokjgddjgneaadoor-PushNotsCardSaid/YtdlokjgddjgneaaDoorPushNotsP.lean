/-
  watchlaw.PushNots returns true for every formula, and each argument reads afterwards as it read before; the package variable watchref.opposites holds what the program's text lays in it. No other conditions.
-/
import Derived.Test.YtdlokjgddjgneaaDoorAt
import Derived.Test.YtdlokjgddjgneaaDoorPn2
import Derived.Test.YtdlokjgddjgneaaDoorMad
import Derived.Test.YtdlokjgddjgneaaDoorGw
import Derived.Test.YtdlokjgddjgneaaDoorRows
import Derived.Test.YtdlokjgddjgneaaDoorTie
import Derived.Test.YtdlokjgddjgneaaDoorCards
import Derived.SevenTiedAt
namespace Go.Proofs.YtdlokjgddjgneaaDoor
open Go.RowKit Go.ChangeShapes Go.WideShapes Go.ChangeAt
set_option linter.unusedSimpArgs false
def c3 : PC := .seq (.ops [⟨some 1,.box (.tmp 0),none,0⟩,
 ⟨some 2,.move (.const (.bool false)),none,0⟩] false) (.seq (.ops [⟨some 8,.loadA 3 (.tmp 1),none,0⟩,
 ⟨some 9,.call 4 [(.tmp 8)],none,0⟩,
 ⟨some 3,.move (.tmp 9),none,0⟩] false) (.seq (.ops [⟨some 11,.loadA 3 (.tmp 1),none,0⟩,
 ⟨some 12,.call 5 [(.tmp 11)],none,0⟩,
 ⟨some 10,.move (.tmp 12),none,0⟩,
 ⟨some 13,.ext 0 (.tmp 10),none,0⟩,
 ⟨some 14,.ext 1 (.tmp 10),none,0⟩,
 ⟨some 4,.alloc [(.int .i64 0), (.int .i64 0), (.slice none 0 0)],none,0⟩,
 ⟨none,.store 3 (.tmp 4) (.tmp 13),none,0⟩,
 ⟨some 5,.move (.tmp 14),none,0⟩] false) (.seq (.ops [⟨some 16,.loadA 3 (.tmp 1),none,0⟩,
 ⟨some 17,.call 6 [(.tmp 16)],none,0⟩,
 ⟨some 15,.move (.tmp 17),none,0⟩,
 ⟨some 18,.ext 0 (.tmp 15),none,0⟩,
 ⟨some 19,.ext 1 (.tmp 15),none,0⟩,
 ⟨some 6,.alloc [(.int .i64 0), (.int .i64 0), (.slice none 0 0)],none,0⟩,
 ⟨none,.store 3 (.tmp 6) (.tmp 18),none,0⟩,
 ⟨some 7,.move (.tmp 19),none,0⟩] false) (.seq (.seq (.ops [⟨some 20,.move (.tmp 3),none,0⟩,
 ⟨some 21,.bin .neq (.tmp 20) (.const (.int .i64 0)),none,0⟩] false) (.cond (.tmp 21) (.seq (.ops [⟨some 22,.move (.tmp 3),none,0⟩,
 ⟨some 23,.loadA 3 (.tmp 1),none,0⟩,
 ⟨some 24,.loadA 3 (.tmp 4),none,0⟩,
 ⟨some 25,.move (.tmp 5),none,0⟩,
 ⟨some 26,.call 7 [(.tmp 22), (.tmp 23), (.tmp 24), (.tmp 25)],none,0⟩,
 ⟨some 27,.move (.tmp 26),none,0⟩,
 ⟨some 28,.move (.tmp 3),some (27,true),0⟩,
 ⟨some 29,.loadA 3 (.tmp 1),some (27,true),0⟩,
 ⟨some 30,.loadA 3 (.tmp 6),some (27,true),0⟩,
 ⟨some 31,.move (.tmp 7),some (27,true),0⟩,
 ⟨some 32,.call 7 [(.tmp 28), (.tmp 29), (.tmp 30), (.tmp 31)],some (27,true),0⟩,
 ⟨some 33,.pick (.tmp 27) (.tmp 32) (.const (.bool false)),none,0⟩,
 ⟨some 2,.move (.tmp 33),none,0⟩] false) (.ret)) (.skip))) (.seq (.ops [⟨some 34,.move (.tmp 3),none,0⟩,
 ⟨some 35,.loadA 3 (.tmp 1),none,0⟩,
 ⟨some 36,.call 8 [(.tmp 35)],none,2⟩,
 ⟨some 37,.loadA 3 (.tmp 4),none,0⟩,
 ⟨some 38,.move (.tmp 5),none,0⟩,
 ⟨some 39,.call 7 [(.tmp 34), (.tmp 36), (.tmp 37), (.tmp 38)],none,31⟩,
 ⟨some 40,.move (.tmp 39),none,63⟩,
 ⟨some 41,.move (.tmp 3),some (40,true),127⟩,
 ⟨some 42,.loadA 3 (.tmp 1),some (40,true),127⟩,
 ⟨some 43,.call 9 [(.tmp 42)],some (40,true),383⟩,
 ⟨some 44,.loadA 3 (.tmp 6),some (40,true),127⟩,
 ⟨some 45,.move (.tmp 7),some (40,true),127⟩,
 ⟨some 46,.call 7 [(.tmp 41), (.tmp 43), (.tmp 44), (.tmp 45)],some (40,true),4095⟩,
 ⟨some 47,.pick (.tmp 40) (.tmp 46) (.const (.bool false)),none,8191⟩,
 ⟨some 2,.move (.tmp 47),none,16383⟩] true) (.ret))))))
set_option maxRecDepth 100000 in
theorem c3_ok : FunOK Tryd.prog 3 48 [.tmp 2] c3 := ⟨⟨Tryd.f3, Tryd.func3, rfl, by kernel_rfl, rfl, by kernel_rfl⟩⟩

theorem told_small {t u : Tree} (h : Small u) : Small (nansD t u).1 := by
  unfold nansD
  split
  · split
    · exact h
    · exact small_zero
  · exact small_zero
theorem eqT_self (t : Tree) : eqT t t = true := eqT_iff.2 rfl
theorem made_right {t u : Tree} (h : chk lKids t = 0) : madeB 0 u (nansD t u).1 (nansD t u).2 = true := by
  unfold madeB nansD
  by_cases h2 : chk lKids u = 0 <;> simp [h, h2, eqT_self]
theorem made_wrong {t u : Tree} (h : chk lKids t ≠ 0) : madeB (chk lKids t) t (nansD t u).1 (nansD t u).2 = true := by
  unfold madeB nansD
  simp [h, eqT_self]
theorem law_PushNots (t : Tree) (hs : Small t) : PCall Tryd.prog 3 [dtree t] (dbool true) := by
  refine pcall_intro c3_ok (by simp) (by simp [PureL, Pure, pure_dtree]) ?_ (by simp [dbool, Pure])
  have hN := push_Nots t hs
  have hP := push_Plain t hs
  by_cases h0 : chk lKids t = 0
  · have hwf := ((chk_zero _ _).1 h0).2.2
    have m1 := made_right (u := notsT t false) h0
    have m2 := made_right (u := plainT t) h0
    have s1 := wf_small _ (nots_wf t false hwf)
    have s2 := wf_small _ (plain_wf t hwf)
    have t1 := told_small (t := t) s1
    have t2 := told_small (t := t) s2
    generalize nansD t (notsT t false) = x1 at *
    generalize nansD t (plainT t) = x2 at *
    (apply rd_sound; focus (repeat' constructor))
    ((conv=>whnf);repeat(refine .intro rfl ?_;conv=>whnf))
    (refine .inl ⟨_, (ref_Ltl t hs), ?_⟩; ((conv=>whnf);repeat(refine .intro rfl ?_;conv=>whnf)))
    (refine .inl ⟨_, hN, ?_⟩; ((conv=>whnf);repeat(refine .intro rfl ?_;conv=>whnf)))
    (refine .inl ⟨_, hP, ?_⟩; ((conv=>whnf);repeat(refine .intro rfl ?_;conv=>whnf)))
    (refine ifK_split (fun h1 => ?_) (fun h1 => ?_) <;> (rw [h1]; ((conv=>whnf);repeat(refine .intro rfl ?_;conv=>whnf))))
    · exact absurd h0 (by simpa using h1)
    (refine .inl ⟨_, (ref_Nots t.size t (Nat.le_refl _) hwf), ?_⟩; ((conv=>whnf);repeat(refine .intro rfl ?_;conv=>whnf)))
    rw [h0]
    (refine .inl ⟨_, (law_made 0 x1.2 (notsT t false) x1.1 s1 t1), ?_⟩; ((conv=>whnf);repeat(refine .intro rfl ?_;conv=>whnf)))
    rw [m1]
    ((conv=>whnf);repeat(refine .intro rfl ?_;conv=>whnf))
    (refine .inl ⟨_, (ref_Plain t hwf), ?_⟩; ((conv=>whnf);repeat(refine .intro rfl ?_;conv=>whnf)))
    (refine .inl ⟨_, (law_made 0 x2.2 (plainT t) x2.1 s2 t2), ?_⟩; ((conv=>whnf);repeat(refine .intro rfl ?_;conv=>whnf)))
    rw [m2]
    (repeat' (first | exact Deep.refl _ | exact Deep.none _ | exact deep_row _ | exact DeepL.nil | exact DeepLL.nil | refine Deep.agg _ _ ?_ | refine Deep.tup _ _ ?_ | refine Deep.own _ _ _ _ _ _ _ _ rfl ?_ | refine Deep.loc _ _ _ _ _ rfl ?_ | refine Deep.ifc _ _ _ ?_ | refine Deep.fn _ _ _ _ _ ?_ ?_ | refine DeepL.cons _ _ _ _ ?_ ?_ | refine DeepLL.cons _ _ _ _ ?_ ?_ | exact deepLL_refl _))
  · have m1 := made_wrong (u := notsT t false) h0
    have m2 := made_wrong (u := plainT t) h0
    have t1 : Small (nansD t (notsT t false)).1 := by unfold nansD; rw [if_neg h0]; exact small_zero
    have t2 : Small (nansD t (plainT t)).1 := by unfold nansD; rw [if_neg h0]; exact small_zero
    generalize nansD t (notsT t false) = x1 at *
    generalize nansD t (plainT t) = x2 at *
    (apply rd_sound; focus (repeat' constructor))
    ((conv=>whnf);repeat(refine .intro rfl ?_;conv=>whnf))
    (refine .inl ⟨_, (ref_Ltl t hs), ?_⟩; ((conv=>whnf);repeat(refine .intro rfl ?_;conv=>whnf)))
    (refine .inl ⟨_, hN, ?_⟩; ((conv=>whnf);repeat(refine .intro rfl ?_;conv=>whnf)))
    (refine .inl ⟨_, hP, ?_⟩; ((conv=>whnf);repeat(refine .intro rfl ?_;conv=>whnf)))
    (refine ifK_split (fun h1 => ?_) (fun h1 => ?_) <;> (rw [h1]; ((conv=>whnf);repeat(refine .intro rfl ?_;conv=>whnf))))
    · (refine .inl ⟨_, (law_made (chk lKids t) x1.2 t x1.1 hs t1), ?_⟩; ((conv=>whnf);repeat(refine .intro rfl ?_;conv=>whnf)))
      rw [m1]
      ((conv=>whnf);repeat(refine .intro rfl ?_;conv=>whnf))
      (refine .inl ⟨_, (law_made (chk lKids t) x2.2 t x2.1 hs t2), ?_⟩; ((conv=>whnf);repeat(refine .intro rfl ?_;conv=>whnf)))
      rw [m2]
      (repeat' (first | exact Deep.refl _ | exact Deep.none _ | exact deep_row _ | exact DeepL.nil | exact DeepLL.nil | refine Deep.agg _ _ ?_ | refine Deep.tup _ _ ?_ | refine Deep.own _ _ _ _ _ _ _ _ rfl ?_ | refine Deep.loc _ _ _ _ _ rfl ?_ | refine Deep.ifc _ _ _ ?_ | refine Deep.fn _ _ _ _ _ ?_ ?_ | refine DeepL.cons _ _ _ _ ?_ ?_ | refine DeepLL.cons _ _ _ _ ?_ ?_ | exact deepLL_refl _))
    · exact absurd (by simpa using h1) h0
namespace pushNots
set_option maxRecDepth 100000 in
theorem law : ∀ Ds, OfAs Tryd.prog [24] Ds → PCall Tryd.prog 3 Ds (dbool true)
  | [d], h => by
    obtain ⟨t, rfl, ht⟩ := argLtl h.1
    exact law_PushNots t ht
theorem types : typesOK Tryd.prog [24, 3, 22] = true := by kernel_rfl
set_option maxRecDepth 100000 in
theorem laidOut : laidOutB Tryd.prog = true := by kernel_rfl
set_option maxRecDepth 100000 in
theorem readable : (Tryd.f3.params.toList.all fun t => Tryd.prog.readableRec t && decide (t < Tryd.prog.types.size)) = true := by kernel_rfl
theorem own : ownKnob Tryd.prog.godebug = none := by kernel_rfl
/-- What the condition on the variable gives. -/
theorem fok {W : World} (h : laidMetH Tryd.prog Rows.pushNotsRow.laid W) : FOK (There W) W := by
  have h' : laidMet Tryd.prog [("watchway/watchref.opposites", Rows.laid_watchway_watchref_opposites)] W := h
  have hg : Tryd.prog.globalNamed "watchway/watchref.opposites" = some 0 := by kernel_rfl
  have hc := glob_ints (g := 0) (n := 12) (ns := [0, 2, 1, 0, 0, 6, 5, 7, 9, 8, 11, 10]) hg (t := ((Tryd.prog.globals[0]?).map (·.type)).getD 0) (e := (match Tryd.prog.underlying (((Tryd.prog.globals[0]?).map (·.type)).getD 0) with | some (.array _ e) => e | _ => 0)) (by kernel_rfl) (by kernel_rfl) (by kernel_rfl) (by kernel_rfl) h'
  refine ⟨fun b h => h, fun g cs hm => ?_⟩
  have hm' : g = 0 ∧ cs = [.sc (.int .i64 0), .sc (.int .i64 2), .sc (.int .i64 1), .sc (.int .i64 0), .sc (.int .i64 0), .sc (.int .i64 6), .sc (.int .i64 5), .sc (.int .i64 7), .sc (.int .i64 9), .sc (.int .i64 8), .sc (.int .i64 11), .sc (.int .i64 10)] := by
    simp only [theGlobs, List.mem_singleton, Prod.mk.injEq] at hm
    exact hm
  obtain ⟨rfl, rfl⟩ := hm'
  exact ⟨hc.1 (by decide), hc.2⟩
set_option maxRecDepth 100000 in
theorem lifted (os : Os) (started : os.Started) (H : Type) (enc : TypeId × Value → H) :
    ReturnsInHanded {} Tryd.checked os 3 .any (fun w args => (Rows.pushNotsSpec.pre enc Tryd.prog Tryd.f3 Rows.pushNotsRow.domain false w args ∧ laidMetH Tryd.prog Rows.pushNotsRow.laid w) ∧ sizedMet enc Tryd.prog Tryd.f3 (OpenSpec.ofChange Rows.pushNotsSpec) false w args)
      (Rows.pushNotsSpec.post enc Tryd.prog Tryd.f3 false true false false) := by
  refine returnsInHanded_of_change_and (C := Tryd.checked) (X := fun w _ => laidMetH Tryd.prog Rows.pushNotsRow.laid w) (fun _ _ _ hh h => h.of_heap hh) own started (by kernel_rfl) Tryd.func3
    (ChangeSpec.witness_at (enc := enc) (C := Tryd.checked) (os := os) (X := fun w _ => laidMetH Tryd.prog Rows.pushNotsRow.laid w) false (World.laidAll Tryd.prog os Rows.pushNotsRow.laid) #[.agg #[.int .i64 0, .int .i64 0, .slice none 0 0]] 8 (World.laidAll_os _ _ _) (by kernel_rfl) (by kernel_rfl) (by kernel_rfl) (by kernel_rfl) (by kernel_rfl) (show laidMet _ _ _ from laidMet_laidAll _ (by kernel_rfl) (by kernel_rfl))) ?_
  intro W base args ds gs before hval0 hW _ hsz hL _
  have hval : ∀ (j : Nat) t v, Tryd.f3.params[j]? = some t → args[j]? = some v → Value.okWide Tryd.prog W .any base t v := hval0
  have hW' := hW
  obtain ⟨p, q, hA0, hV, _, hfz, hnd⟩ := hW
  have hA : DataW.TrodAll enc Tryd.prog W 0 (fun _ => true) true Tryd.f3.params.toList args.toList ds p := hA0
  have hps : Tryd.f3.params.toList = [24] := by kernel_rfl
  obtain ⟨Ds, hD, hR⟩ := args_rep types (base := base) _ _ _ _ (fun t ht => by rw [hps] at ht; revert t; decide) (fun j t v h1 h2 => hval j t v (by simpa using h1) (by simpa using h2)) hA fun n hn => by
    have := List.all_eq_true.1 hsz n (weightsEach_pre _ _ _ _ (trodAll_len _ _ _ _ hA).symm n hn)
    simpa using this
  rw [hps] at hD
  have hC := (law Ds hD).run noInj (There W) W args.toList (fok hL) hR
  rw [show args.toList.toArray = args from rfl] at hC
  refine hC.mono fun e W' ⟨v, F', he, _, hv, hx⟩ => ?_
  have hv' : v = .bool true := by simpa only [rep, dbool] using hv
  subst he hv'
  exact ⟨_, rfl, row_post hW' rfl (by kernel_rfl) Tryd.underlying4 laidOut (fun t ht => by
      have := List.all_eq_true.1 readable t ht
      simp only [Bool.and_eq_true, decide_eq_true_eq] at this
      exact this) (fun ds h => by rw [hps] at h; match ds, h with | [_], _ => rfl) (below_of_ext hx) (ok_one (by kernel_rfl) rfl (okWide_bool_mk Tryd.underlying4 _))⟩

theorem over : Rows.pushNotsRow.holds Tryd.pinned (OpenSpec.ofChange Rows.pushNotsSpec) :=
  OpenClaim.holds_of_wide 3 Tryd.f3 rfl rfl rfl rfl rfl rfl rfl ⟨rfl, rfl, rfl, rfl, rfl⟩ rfl rfl rfl rfl rfl (by kernel_rfl) Tryd.func3 (by kernel_rfl)
    (of_decide_eq_true (by kernel_rfl)) (by unfold Func.isWrapper; first | (rw [if_pos (by decide +kernel)]; kernel_rfl) | (rw [if_neg (by decide +kernel)]; exact ⟨rfl, rfl⟩))
    (fun os started H enc _ => lifted os started H enc)

theorem proved : Rows.PushNotsCardSaid :=
  Claim7.holds_tied_plain_at .later [] [.data] true (true, "73c36648d855d601b50def76e2e02d191f05019369e3fd20d54b288437ab6c98") false
    over (fun _ h => by cases h) (by kernel_rfl) (fun _ h => by cases h) pushNots_row_tie rfl ⟨rfl, rfl⟩ (by kernel_rfl) rfl
    (fun f fn hf hfn => by
      obtain rfl : f = 3 := Option.some.inj ((show Tryd.prog.funcNamed "watchway/watchlaw.PushNots" = some 3 by kernel_rfl).symm.trans hf) |>.symm
      obtain rfl : fn = Tryd.f3 := (Option.some.inj (Tryd.func3.symm.trans hfn)).symm
      refine ⟨by kernel_rfl, fun j t ht => ?_⟩
      have hm : t ∈ Tryd.f3.params.toList := by
        rw [Array.mem_toList_iff]
        exact Array.mem_of_getElem? ht
      rw [show Tryd.f3.params.toList = [24] by kernel_rfl] at hm
      have := List.all_eq_true.1 (show ([24] : List TypeId).all (fun t => !Tryd.prog.wantsStandIn t) = true by kernel_rfl) t hm
      have h2 : Tryd.prog.wantsStandIn t = false := by simpa using this
      exact h2)
    (by kernel_rfl)
end pushNots
end Go.Proofs.YtdlokjgddjgneaaDoor
