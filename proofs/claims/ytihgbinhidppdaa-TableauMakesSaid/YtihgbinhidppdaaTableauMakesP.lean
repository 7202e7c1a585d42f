/-
  watchlaw.TableauMakes returns true for every formula, and each argument reads afterwards as it read before. No conditions.
-/
import Derived.Test.YtihgbinhidppdaaAt
import Derived.Test.YtihgbinhidppdaaTa4
import Derived.Test.YtihgbinhidppdaaTa8
import Derived.Test.YtihgbinhidppdaaSau
import Derived.Test.YtihgbinhidppdaaRl
import Derived.Test.YtihgbinhidppdaaRows
namespace Go.Proofs.Ytihgbinhidppdaa
open Go.RowKit Go.ChangeShapes Go.WideShapes Go.ChangeAt
set_option linter.unusedSimpArgs false
def c3 : PC := .seq (.ops [⟨some 1,.box (.tmp 0),none,0⟩,
 ⟨some 2,.move (.const (.bool false)),none,0⟩] false) (.seq (.ops [⟨some 9,.loadA 3 (.tmp 1),none,0⟩,
 ⟨some 10,.call 4 [(.tmp 9)],none,0⟩,
 ⟨some 8,.move (.tmp 10),none,0⟩,
 ⟨some 11,.ext 0 (.tmp 8),none,0⟩,
 ⟨some 12,.ext 1 (.tmp 8),none,0⟩,
 ⟨some 3,.alloc [(.slice none 0 0), (.slice none 0 0), (.slice none 0 0), (.slice none 0 0), (.slice none 0 0)],none,0⟩,
 ⟨none,.store 5 (.tmp 3) (.tmp 11),none,0⟩,
 ⟨some 4,.move (.tmp 12),none,0⟩] false) (.seq (.ops [⟨some 13,.loadA 3 (.tmp 1),none,0⟩,
 ⟨some 14,.call 5 [(.tmp 13)],none,0⟩,
 ⟨some 5,.move (.tmp 14),none,0⟩] false) (.seq (.seq (.ops [⟨some 15,.move (.tmp 5),none,0⟩,
 ⟨some 16,.bin .eql (.tmp 15) (.const (.int .i64 0)),none,0⟩] false) (.cond (.tmp 16) (.ops [⟨some 17,.loadA 3 (.tmp 1),none,0⟩,
 ⟨some 18,.call 6 [(.tmp 17)],none,0⟩,
 ⟨some 19,.call 5 [(.tmp 18)],none,0⟩,
 ⟨some 5,.move (.tmp 19),none,0⟩] false) (.skip))) (.seq (.seq (.ops [⟨some 20,.move (.tmp 5),none,0⟩,
 ⟨some 21,.bin .neq (.tmp 20) (.const (.int .i64 0)),none,0⟩] false) (.cond (.tmp 21) (.seq (.ops [⟨some 22,.move (.tmp 4),none,0⟩,
 ⟨some 23,.move (.tmp 5),none,0⟩,
 ⟨some 24,.bin .eql (.tmp 22) (.tmp 23),none,0⟩,
 ⟨some 25,.move (.tmp 24),none,0⟩,
 ⟨some 26,.loadA 5 (.tmp 3),some (25,true),0⟩,
 ⟨some 27,.build [(.slice none 0 0), (.slice none 0 0), (.slice none 0 0), (.slice none 0 0), (.slice none 0 0)] [],some (25,true),0⟩,
 ⟨some 28,.call 7 [(.tmp 26), (.tmp 27)],some (25,true),0⟩,
 ⟨some 29,.pick (.tmp 25) (.tmp 28) (.const (.bool false)),none,0⟩,
 ⟨some 2,.move (.tmp 29),none,0⟩] false) (.ret)) (.skip))) (.seq (.ops [⟨some 31,.loadA 3 (.tmp 1),none,0⟩,
 ⟨some 32,.call 8 [(.tmp 31)],none,0⟩,
 ⟨some 30,.move (.tmp 32),none,0⟩,
 ⟨some 33,.ext 0 (.tmp 30),none,0⟩,
 ⟨some 34,.ext 1 (.tmp 30),none,0⟩,
 ⟨some 6,.alloc [(.slice none 0 0), (.slice none 0 0), (.slice none 0 0), (.slice none 0 0), (.slice none 0 0)],none,0⟩,
 ⟨none,.store 5 (.tmp 6) (.tmp 33),none,0⟩,
 ⟨some 7,.move (.tmp 34),none,0⟩] false) (.seq (.ops [⟨some 35,.move (.tmp 4),none,0⟩,
 ⟨some 36,.move (.tmp 7),none,0⟩,
 ⟨some 37,.bin .eql (.tmp 35) (.tmp 36),none,0⟩,
 ⟨some 38,.move (.tmp 37),none,0⟩,
 ⟨some 39,.loadA 5 (.tmp 3),some (38,true),0⟩,
 ⟨some 40,.loadA 5 (.tmp 6),some (38,true),0⟩,
 ⟨some 41,.call 7 [(.tmp 39), (.tmp 40)],some (38,true),0⟩,
 ⟨some 42,.pick (.tmp 38) (.tmp 41) (.const (.bool false)),none,0⟩,
 ⟨some 2,.move (.tmp 42),none,0⟩] false) (.ret)))))))
set_option maxRecDepth 100000 in
theorem c3_ok : FunOK Try.prog 3 43 [.tmp 2] c3 := ⟨⟨Try.f3, Try.func3, rfl, by kernel_rfl, rfl, by kernel_rfl⟩⟩
theorem tabE_size {A : List Int} {P : List Tree} (h : A.length + P.length ≤ 10) (f : Tree) : (tabE A P f).Size := by
  have h2 := two_pow10 h
  have hP : P.length ≤ 10 := by omega
  constructor
  · have := numsF_len (fun s => holdsT (chE A P s) f) (2 ^ (A.length + P.length)); exact Nat.le_trans this (by omega)
  · simp [tabE]; omega
  · simp [tabE]; omega
  · simp [tabE]; omega
  · exact Nat.le_trans (fairsE_len _ _ _ _) (by omega)
  · intro l hl
    obtain ⟨s, _, rfl⟩ := List.mem_map.1 hl
    exact Nat.le_trans (numsF_len _ _) (by omega)
  · intro l hl
    obtain ⟨g, _, rfl⟩ := List.mem_map.1 hl
    exact Nat.le_trans (numsF_len _ _) (by omega)
theorem law_TableauMakes (t : Tree) (hs : Small t) : PCall Try.prog 3 [dtree t] (dbool true) := by
  have hM := ta_Make t hs
  refine pcall_intro c3_ok (by simp) (by simp [PureL, Pure, pure_dtree]) ?_ (by simp [dbool, Pure])
  unfold makeD nansD at hM
  (apply rd_sound; focus (repeat' constructor))
  ((conv=>whnf);repeat(refine .intro rfl ?_;conv=>whnf))
  by_cases h0 : chk lKids t = 0
  · have hwf := ((chk_zero _ _).1 h0).2.2
    rw [if_pos h0] at hM
    have hsp := wf_small _ (plain_wf t hwf)
    by_cases h1 : chk lKids (plainT t) = 0
    · rw [if_pos h1, if_pos rfl] at hM
      have hR := ref_Tableau t hwf h1
      unfold ansT at hM hR
      dsimp only at hM hR
      have hsame : 10 < (sortA (atomsOf (plainT t))).length + (addT [] (partsOf (plainT t))).length ∨ (tabE (sortA (atomsOf (plainT t))) (addT [] (partsOf (plainT t))) (plainT t)).Size := by
        by_cases q : 10 < (sortA (atomsOf (plainT t))).length + (addT [] (partsOf (plainT t))).length
        · exact .inl q
        · exact .inr (tabE_size (Nat.le_of_not_lt q) _)
      by_cases q : 10 < (sortA (atomsOf (plainT t))).length + (addT [] (partsOf (plainT t))).length
      · rw [if_pos q] at hM hR
        (refine .inl ⟨_, hM, ?_⟩; ((conv=>whnf);repeat(refine .intro rfl ?_;conv=>whnf)))
        (refine .inl ⟨_, (ref_Ltl t hs), ?_⟩; ((conv=>whnf);repeat(refine .intro rfl ?_;conv=>whnf)))
        rw [h0]
        ((conv=>whnf);repeat(refine .intro rfl ?_;conv=>whnf))
        (refine .inl ⟨_, (ref_Plain t hwf), ?_⟩; ((conv=>whnf);repeat(refine .intro rfl ?_;conv=>whnf)))
        (refine .inl ⟨_, (ref_Ltl (plainT t) hsp), ?_⟩; ((conv=>whnf);repeat(refine .intro rfl ?_;conv=>whnf)))
        rw [h1]
        ((conv=>whnf);repeat(refine .intro rfl ?_;conv=>whnf))
        (refine .inl ⟨_, hR, ?_⟩; ((conv=>whnf);repeat(refine .intro rfl ?_;conv=>whnf)))
        (refine .inl ⟨_, (ref_SameAuto emptyA emptyA_size), ?_⟩; ((conv=>whnf);repeat(refine .intro rfl ?_;conv=>whnf)))
        (repeat' (first | exact Deep.refl _ | exact Deep.none _ | exact deep_row _ | exact DeepL.nil | exact DeepLL.nil | refine Deep.agg _ _ ?_ | refine Deep.tup _ _ ?_ | refine Deep.own _ _ _ _ _ _ _ _ rfl ?_ | refine Deep.loc _ _ _ _ _ rfl ?_ | refine Deep.ifc _ _ _ ?_ | refine Deep.fn _ _ _ _ _ ?_ ?_ | refine DeepL.cons _ _ _ _ ?_ ?_ | refine DeepLL.cons _ _ _ _ ?_ ?_ | exact deepLL_refl _))
      · rw [if_neg q] at hM hR
        have hsz := hsame.resolve_left q
        (refine .inl ⟨_, hM, ?_⟩; ((conv=>whnf);repeat(refine .intro rfl ?_;conv=>whnf)))
        (refine .inl ⟨_, (ref_Ltl t hs), ?_⟩; ((conv=>whnf);repeat(refine .intro rfl ?_;conv=>whnf)))
        rw [h0]
        ((conv=>whnf);repeat(refine .intro rfl ?_;conv=>whnf))
        (refine .inl ⟨_, (ref_Plain t hwf), ?_⟩; ((conv=>whnf);repeat(refine .intro rfl ?_;conv=>whnf)))
        (refine .inl ⟨_, (ref_Ltl (plainT t) hsp), ?_⟩; ((conv=>whnf);repeat(refine .intro rfl ?_;conv=>whnf)))
        rw [h1]
        ((conv=>whnf);repeat(refine .intro rfl ?_;conv=>whnf))
        (refine .inl ⟨_, hR, ?_⟩; ((conv=>whnf);repeat(refine .intro rfl ?_;conv=>whnf)))
        (refine .inl ⟨_, (ref_SameAuto _ hsz), ?_⟩; ((conv=>whnf);repeat(refine .intro rfl ?_;conv=>whnf)))
        (repeat' (first | exact Deep.refl _ | exact Deep.none _ | exact deep_row _ | exact DeepL.nil | exact DeepLL.nil | refine Deep.agg _ _ ?_ | refine Deep.tup _ _ ?_ | refine Deep.own _ _ _ _ _ _ _ _ rfl ?_ | refine Deep.loc _ _ _ _ _ rfl ?_ | refine Deep.ifc _ _ _ ?_ | refine Deep.fn _ _ _ _ _ ?_ ?_ | refine DeepL.cons _ _ _ _ ?_ ?_ | refine DeepLL.cons _ _ _ _ ?_ ?_ | exact deepLL_refl _))
    · rw [if_neg h1, if_neg h1] at hM
      (refine .inl ⟨_, hM, ?_⟩; ((conv=>whnf);repeat(refine .intro rfl ?_;conv=>whnf)))
      (refine .inl ⟨_, (ref_Ltl t hs), ?_⟩; ((conv=>whnf);repeat(refine .intro rfl ?_;conv=>whnf)))
      rw [h0]
      ((conv=>whnf);repeat(refine .intro rfl ?_;conv=>whnf))
      (refine .inl ⟨_, (ref_Plain t hwf), ?_⟩; ((conv=>whnf);repeat(refine .intro rfl ?_;conv=>whnf)))
      (refine .inl ⟨_, (ref_Ltl (plainT t) hsp), ?_⟩; ((conv=>whnf);repeat(refine .intro rfl ?_;conv=>whnf)))
      (refine ifK_split (fun h2 => ?_) (fun h2 => ?_) <;> (rw [h2]; ((conv=>whnf);repeat(refine .intro rfl ?_;conv=>whnf))))
      · dsimp only
        rw [show (chk lKids (plainT t) == chk lKids (plainT t)) = true by simp]
        ((conv=>whnf);repeat(refine .intro rfl ?_;conv=>whnf))
        (refine .inl ⟨_, same_auto0, ?_⟩; ((conv=>whnf);repeat(refine .intro rfl ?_;conv=>whnf)))
        (repeat' (first | exact Deep.refl _ | exact Deep.none _ | exact deep_row _ | exact DeepL.nil | exact DeepLL.nil | refine Deep.agg _ _ ?_ | refine Deep.tup _ _ ?_ | refine Deep.own _ _ _ _ _ _ _ _ rfl ?_ | refine Deep.loc _ _ _ _ _ rfl ?_ | refine Deep.ifc _ _ _ ?_ | refine Deep.fn _ _ _ _ _ ?_ ?_ | refine DeepL.cons _ _ _ _ ?_ ?_ | refine DeepLL.cons _ _ _ _ ?_ ?_ | exact deepLL_refl _))
      · exact absurd (by simpa using h2) h1
  · rw [if_neg h0, if_neg h0] at hM
    (refine .inl ⟨_, hM, ?_⟩; ((conv=>whnf);repeat(refine .intro rfl ?_;conv=>whnf)))
    (refine .inl ⟨_, (ref_Ltl t hs), ?_⟩; ((conv=>whnf);repeat(refine .intro rfl ?_;conv=>whnf)))
    (refine ifK_split (fun h2 => ?_) (fun h2 => ?_) <;> (rw [h2]; ((conv=>whnf);repeat(refine .intro rfl ?_;conv=>whnf))))
    · exact absurd (by simpa using h2) h0
    · (refine ifK_split (fun h3 => ?_) (fun h3 => ?_) <;> (rw [h3]; ((conv=>whnf);repeat(refine .intro rfl ?_;conv=>whnf))))
      · dsimp only
        rw [show (chk lKids t == chk lKids t) = true by simp]
        ((conv=>whnf);repeat(refine .intro rfl ?_;conv=>whnf))
        (refine .inl ⟨_, same_auto0, ?_⟩; ((conv=>whnf);repeat(refine .intro rfl ?_;conv=>whnf)))
        (repeat' (first | exact Deep.refl _ | exact Deep.none _ | exact deep_row _ | exact DeepL.nil | exact DeepLL.nil | refine Deep.agg _ _ ?_ | refine Deep.tup _ _ ?_ | refine Deep.own _ _ _ _ _ _ _ _ rfl ?_ | refine Deep.loc _ _ _ _ _ rfl ?_ | refine Deep.ifc _ _ _ ?_ | refine Deep.fn _ _ _ _ _ ?_ ?_ | refine DeepL.cons _ _ _ _ ?_ ?_ | refine DeepLL.cons _ _ _ _ ?_ ?_ | exact deepLL_refl _))
      · exact absurd (by simpa using h3) h0
namespace tableauMakes
set_option maxRecDepth 100000 in
theorem law : ∀ Ds, OfAs Try.prog [24] Ds → PCall Try.prog 3 Ds (dbool true)
  | [d], h => by
    obtain ⟨t, rfl, ht⟩ := argLtl h.1
    exact law_TableauMakes t ht
theorem types : typesOK Try.prog [24, 3, 22] = true := by kernel_rfl
set_option maxRecDepth 100000 in
theorem laidOut : laidOutB Try.prog = true := by kernel_rfl
set_option maxRecDepth 100000 in
theorem readable : (Try.f3.params.toList.all fun t => Try.prog.readableRec t && decide (t < Try.prog.types.size)) = true := by kernel_rfl
theorem own : ownKnob Try.prog.godebug = none := by kernel_rfl
set_option maxRecDepth 100000 in
theorem lifted (os : Os) (started : os.Started) (H : Type) (enc : TypeId × Value → H) :
    ReturnsInHanded {} Try.checked os 3 .any (Rows.tableauMakesSpec.pre6 enc Try.prog Try.f3 Rows.tableauMakesRow.domain false) (Rows.tableauMakesSpec.post enc Try.prog Try.f3 false true false false) := by
  refine returnsInHanded_of_change_sized (C := Try.checked) own started (by kernel_rfl) Try.func3
    (ChangeSpec.witness6 (enc := enc) (C := Try.checked) false ⟨#[], #[.agg #[.int .i64 0, .int .i64 0, .slice none 0 0]], []⟩ 8 (by kernel_rfl) (by kernel_rfl) (by kernel_rfl) (by kernel_rfl)) ?_
  intro W base args ds gs before hval0 hW _ hsz _
  have hval : ∀ (j : Nat) t v, Try.f3.params[j]? = some t → args[j]? = some v → Value.okWide Try.prog W .any base t v := hval0
  have hW' := hW
  obtain ⟨p, q, hA0, hV, _, hfz, hnd⟩ := hW
  have hA : DataW.TrodAll enc Try.prog W 0 (fun _ => true) true Try.f3.params.toList args.toList ds p := hA0
  have hps : Try.f3.params.toList = [24] := by kernel_rfl
  obtain ⟨Ds, hD, hR⟩ := args_rep types (base := base) _ _ _ _ (fun t ht => by rw [hps] at ht; revert t; decide) (fun j t v h1 h2 => hval j t v (by simpa using h1) (by simpa using h2)) hA fun n hn => by
    have := List.all_eq_true.1 hsz n (weightsEach_pre _ _ _ _ (trodAll_len _ _ _ _ hA).symm n hn)
    simpa using this
  rw [hps] at hD
  have hC := (law Ds hD).run noInj (There W) W args.toList ⟨fun b h => h, fun g cs hg => absurd hg (by simp [theGlobs])⟩ hR
  rw [show args.toList.toArray = args from rfl] at hC
  refine hC.mono fun e W' ⟨v, F', he, _, hv, hx⟩ => ?_
  have hv' : v = .bool true := by simpa only [rep, dbool] using hv
  subst he hv'
  exact ⟨_, rfl, row_post hW' rfl (by kernel_rfl) Try.underlying4 laidOut (fun t ht => by
      have := List.all_eq_true.1 readable t ht
      simp only [Bool.and_eq_true, decide_eq_true_eq] at this
      exact this) (fun ds h => by rw [hps] at h; match ds, h with | [_], _ => rfl) (below_of_ext hx) (ok_one (by kernel_rfl) rfl (okWide_bool_mk Try.underlying4 _))⟩

theorem over : Rows.tableauMakesRow.holds Try.pinned (OpenSpec.ofChange Rows.tableauMakesSpec) :=
  OpenClaim.holds_of_wide 3 Try.f3 rfl rfl rfl rfl rfl rfl rfl ⟨rfl, rfl, rfl, rfl, rfl⟩ rfl rfl rfl rfl rfl (by kernel_rfl) Try.func3 (by kernel_rfl)
    (of_decide_eq_true (by kernel_rfl)) (by unfold Func.isWrapper; first | (rw [if_pos (by decide +kernel)]; kernel_rfl) | (rw [if_neg (by decide +kernel)]; exact ⟨rfl, rfl⟩))
    (fun os started H enc _ => lifted os started H enc)

theorem proved : Rows.TableauMakesSaid := over
end tableauMakes
end Go.Proofs.Ytihgbinhidppdaa
