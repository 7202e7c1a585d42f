/-
  watchlaw.PushSlim returns true for every formula, and each argument reads afterwards as it read before. No conditions.
-/
import Derived.Test.YtkkfiadefekbbaaAt
import Derived.Test.YtkkfiadefekbbaaPu4
import Derived.Test.YtkkfiadefekbbaaRs2
import Derived.Test.YtkkfiadefekbbaaRl
import Derived.Test.YtkkfiadefekbbaaRows
namespace Go.Proofs.Ytkkfiadefekbbaa
open Go.RowKit Go.ChangeShapes Go.WideShapes Go.ChangeAt
set_option linter.unusedSimpArgs false
def c52 : PC := .seq (.ops [⟨(some 5), .box (.tmp 1), none, 0⟩,
    ⟨(some 6), .box (.tmp 2), none, 0⟩,
    ⟨(some 8), .move (.const (.bool false)), none, 0⟩] false) (.seq (.seq (.ops [⟨(some 9), .move (.tmp 0), none, 0⟩,
    ⟨(some 10), .bin .eql (.tmp 9) (.const (.int .i64 0)), none, 0⟩] false) (.cond (.tmp 10) (.ops [⟨(some 11), .loadA 3 (.tmp 5), none, 0⟩,
    ⟨(some 12), .call 38 [(.tmp 11)], none, 0⟩,
    ⟨(some 0), .move (.tmp 12), none, 0⟩] false) (.skip))) (.seq (.seq (.ops [⟨(some 13), .move (.tmp 0), none, 0⟩,
    ⟨(some 14), .bin .neq (.tmp 13) (.const (.int .i64 0)), none, 0⟩] false) (.cond (.tmp 14) (.seq (.ops [⟨(some 15), .move (.tmp 3), none, 0⟩,
    ⟨(some 16), .move (.tmp 0), none, 0⟩,
    ⟨(some 17), .bin .eql (.tmp 15) (.tmp 16), none, 0⟩,
    ⟨(some 18), .move (.tmp 17), none, 0⟩,
    ⟨(some 19), .loadA 3 (.tmp 6), (some (18, true)), 0⟩,
    ⟨(some 20), .build [(.int .i64 0), (.int .i64 0), (.slice none 0 0)] [], (some (18, true)), 0⟩,
    ⟨(some 21), .call 32 [(.tmp 19), (.tmp 20)], (some (18, true)), 0⟩,
    ⟨(some 22), .pick (.tmp 18) (.tmp 21) (.const (.bool false)), none, 0⟩,
    ⟨(some 8), .move (.tmp 22), none, 0⟩] false) (.ret)) (.skip))) (.seq (.ops [⟨(some 23), .move (.tmp 3), none, 0⟩,
    ⟨(some 24), .bin .eql (.tmp 23) (.const (.int .i64 0)), none, 0⟩,
    ⟨(some 25), .move (.tmp 24), none, 0⟩,
    ⟨(some 26), .loadA 3 (.tmp 6), (some (25, true)), 0⟩,
    ⟨(some 27), .loadA 3 (.tmp 5), (some (25, true)), 0⟩,
    ⟨(some 28), .call 32 [(.tmp 26), (.tmp 27)], (some (25, true)), 0⟩,
    ⟨(some 29), .pick (.tmp 25) (.tmp 28) (.const (.bool false)), none, 0⟩,
    ⟨(some 8), .move (.tmp 29), none, 0⟩] false) (.ret))))
set_option maxRecDepth 100000 in
theorem c52_ok : FunOK Try.prog 52 30 [.tmp 8] c52 := ⟨⟨Try.f52, Try.func52, rfl, by kernel_rfl, rfl, by kernel_rfl⟩⟩
def c12 : PC := .seq (.ops [⟨(some 1), .box (.tmp 0), none, 0⟩,
    ⟨(some 2), .move (.const (.bool false)), none, 0⟩] false) (.seq (.ops [⟨(some 6), .loadA 3 (.tmp 1), none, 0⟩,
    ⟨(some 7), .call 38 [(.tmp 6)], none, 0⟩,
    ⟨(some 3), .move (.tmp 7), none, 0⟩] false) (.seq (.ops [⟨(some 9), .loadA 3 (.tmp 1), none, 0⟩,
    ⟨(some 10), .call 51 [(.tmp 9)], none, 0⟩,
    ⟨(some 8), .move (.tmp 10), none, 0⟩,
    ⟨(some 11), .ext 0 (.tmp 8), none, 0⟩,
    ⟨(some 12), .ext 1 (.tmp 8), none, 0⟩,
    ⟨(some 4), .alloc [(.int .i64 0), (.int .i64 0), (.slice none 0 0)], none, 0⟩,
    ⟨none, .store 3 (.tmp 4) (.tmp 11), none, 0⟩,
    ⟨(some 5), .move (.tmp 12), none, 0⟩] false) (.seq (.seq (.ops [⟨(some 13), .move (.tmp 3), none, 0⟩,
    ⟨(some 14), .bin .neq (.tmp 13) (.const (.int .i64 0)), none, 0⟩] false) (.cond (.tmp 14) (.seq (.ops [⟨(some 15), .move (.tmp 3), none, 0⟩,
    ⟨(some 16), .loadA 3 (.tmp 1), none, 0⟩,
    ⟨(some 17), .loadA 3 (.tmp 4), none, 0⟩,
    ⟨(some 18), .move (.tmp 5), none, 0⟩,
    ⟨(some 19), .call 52 [(.tmp 15), (.tmp 16), (.tmp 17), (.tmp 18)], none, 0⟩,
    ⟨(some 2), .move (.tmp 19), none, 0⟩] false) (.ret)) (.skip))) (.seq (.ops [⟨(some 20), .move (.tmp 3), none, 0⟩,
    ⟨(some 21), .loadA 3 (.tmp 1), none, 0⟩,
    ⟨(some 22), .call 53 [(.tmp 21)], none, 2⟩,
    ⟨(some 23), .loadA 3 (.tmp 4), none, 0⟩,
    ⟨(some 24), .move (.tmp 5), none, 0⟩,
    ⟨(some 25), .call 52 [(.tmp 20), (.tmp 22), (.tmp 23), (.tmp 24)], none, 31⟩,
    ⟨(some 2), .move (.tmp 25), none, 63⟩] true) (.ret)))))
set_option maxRecDepth 100000 in
theorem c12_ok : FunOK Try.prog 12 26 [.tmp 2] c12 := ⟨⟨Try.f12, Try.func12, rfl, by kernel_rfl, rfl, by kernel_rfl⟩⟩

/-- What made answers. -/
noncomputable def madeB (e : Int) (want got : Tree) (g : Int) : Bool :=
  let e' := if e = 0 then chk lKids want else e
  if e' = 0 then g == 0 && eqT got want else g == e' && eqT got (mk0 0 0)
theorem small_zero : Small (mk0 0 0) := .mk _ (by simp [mk0, Tree.width, Tree.kids]) fun j hj => by simp [mk0, Tree.width, Tree.kids] at hj
theorem deep_zero {H : List AObj} : Deep H (.agg [.sc (.int .i64 0), .sc (.int .i64 0), .sc (.slice none 0 0)]) (dtree (mk0 0 0)) := by (repeat' (first | exact Deep.refl _ | exact Deep.none _ | exact deep_row _ | exact DeepL.nil | exact DeepLL.nil | refine Deep.agg _ _ ?_ | refine Deep.tup _ _ ?_ | refine Deep.own _ _ _ _ _ _ _ _ rfl ?_ | refine Deep.loc _ _ _ _ _ rfl ?_ | refine Deep.ifc _ _ _ ?_ | refine DeepL.cons _ _ _ _ ?_ ?_ | refine DeepLL.cons _ _ _ _ ?_ ?_))
theorem same_zero (got : Tree) (hg : Small got) : PCall Try.prog 32 [dtree got, .agg [.sc (.int .i64 0), .sc (.int .i64 0), .sc (.slice none 0 0)]] (.sc (.bool (eqT got (mk0 0 0)))) :=
  pcall_deep (by simp [PureL, Pure, pure_dtree]) (.cons _ _ _ _ (.refl _) (.cons _ _ _ _ deep_zero .nil)) (ref_SameLtl got (mk0 0 0) hg)
theorem law_made (e g : Int) (want got : Tree) (hw : Small want) (hg : Small got) : PCall Try.prog 52 [.sc (.int .i64 e), dtree want, dtree got, .sc (.int .i64 g)] (.sc (.bool (madeB e want got g))) := by
  refine pcall_intro c52_ok (by simp) (by simp [PureL, Pure, pure_dtree]) ?_ (by simp [Pure])
  (apply red_sound; focus (repeat' (first | exact Red.skip | exact Red.ret | exact RedO.nil | exact RedD.nil | exact Red.exit _ | exact Red.loop _ | exact Red.stop _ | apply Red.ops | apply Red.draw | apply Red.seq | apply Red.cond | apply Red.block | apply RedO.cons | apply RedD.cons | exact (0 : Nat))))
  ((conv => whnf); repeat (refine And.intro rfl ?_; (conv => whnf)))
  repeat' (first
    | (refine ifK_split (fun h => ?_) (fun h => ?_) <;> (rw [h]; ((conv => whnf); repeat (refine And.intro rfl ?_; (conv => whnf)))))
    | (refine .inl ⟨_, (ref_Ltl want hw), ?_⟩; ((conv => whnf); repeat (refine And.intro rfl ?_; (conv => whnf))))
    | (refine .inl ⟨_, (same_zero got hg), ?_⟩; ((conv => whnf); repeat (refine And.intro rfl ?_; (conv => whnf))))
    | (refine .inl ⟨_, (ref_SameLtl got want hg), ?_⟩; ((conv => whnf); repeat (refine And.intro rfl ?_; (conv => whnf))))
    | exact deep_eq (by simp_all [madeB])
    | exact deep_eq (by simp_all [madeB, eqT]))
theorem law_PushSlim (t : Tree) (hs : Small t) : PCall Try.prog 12 [dtree t] (dbool true) := by
  refine pcall_intro c12_ok (by simp) (by simp [PureL, Pure, pure_dtree]) ?_ (by simp [dbool, Pure])
  have hS := push_Slim t hs
  (apply red_sound; focus (repeat' (first | exact Red.skip | exact Red.ret | exact RedO.nil | exact RedD.nil | exact Red.exit _ | exact Red.loop _ | exact Red.stop _ | apply Red.ops | apply Red.draw | apply Red.seq | apply Red.cond | apply Red.block | apply RedO.cons | apply RedD.cons | exact (0 : Nat))))
  ((conv => whnf); repeat (refine And.intro rfl ?_; (conv => whnf)))
  (refine .inl ⟨_, (ref_Ltl t hs), ?_⟩; ((conv => whnf); repeat (refine And.intro rfl ?_; (conv => whnf))))
  by_cases h0 : chk lKids t = 0
  · rw [if_pos h0] at hS
    (refine .inl ⟨_, hS, ?_⟩; ((conv => whnf); repeat (refine And.intro rfl ?_; (conv => whnf))))
    (refine ifK_split (fun h1 => ?_) (fun h1 => ?_) <;> (rw [h1]; ((conv => whnf); repeat (refine And.intro rfl ?_; (conv => whnf)))))
    · exact absurd h0 (by simpa using h1)
    · have hwf := ((chk_zero _ _).1 h0).2.2
      have hsm := slim_same t hwf
      (refine .inl ⟨_, (ref_Slim t hwf), ?_⟩; ((conv => whnf); repeat (refine And.intro rfl ?_; (conv => whnf))))
      (refine .inl ⟨_, (law_made (chk lKids t) 0 (slimR t) (slimT t) (hsm ▸ slim_small hwf) (slim_small hwf)), ?_⟩; ((conv => whnf); repeat (refine And.intro rfl ?_; (conv => whnf))))
      exact deep_eq (by rw [← hsm]; simp [madeB, h0, slim_chk h0, eqT, dbool])
  · rw [if_neg h0] at hS
    (refine .inl ⟨_, hS, ?_⟩; ((conv => whnf); repeat (refine And.intro rfl ?_; (conv => whnf))))
    (refine ifK_split (fun h1 => ?_) (fun h1 => ?_) <;> (rw [h1]; ((conv => whnf); repeat (refine And.intro rfl ?_; (conv => whnf)))))
    · (refine .inl ⟨_, (law_made (chk lKids t) (chk lKids t) t (mk0 0 0) hs small_zero), ?_⟩; ((conv => whnf); repeat (refine And.intro rfl ?_; (conv => whnf))))
      exact deep_eq (by simp [madeB, h0, eqT, dbool])
    · exact absurd (by simpa using h1) h0
namespace pushSlim
set_option maxRecDepth 100000 in
theorem law : ∀ Ds, OfAs Try.prog [56] Ds → PCall Try.prog 12 Ds (dbool true)
  | [d], h => by
    obtain ⟨t, rfl, ht⟩ := argLtl h.1
    exact law_PushSlim t ht
theorem types : typesOK Try.prog [56, 3, 54] = true := by kernel_rfl
set_option maxRecDepth 100000 in
theorem laidOut : laidOutB Try.prog = true := by kernel_rfl
set_option maxRecDepth 100000 in
theorem readable : (Try.f12.params.toList.all fun t => Try.prog.readableRec t && decide (t < Try.prog.types.size)) = true := by kernel_rfl
theorem own : ownKnob Try.prog.godebug = none := by kernel_rfl
set_option maxRecDepth 100000 in
theorem lifted (os : Os) (started : os.Started) (H : Type) (enc : TypeId × Value → H) :
    ReturnsInHanded {} Try.checked os 12 .any (Rows.pushSlimSpec.pre6 enc Try.prog Try.f12 Rows.pushSlimRow.domain false) (Rows.pushSlimSpec.post enc Try.prog Try.f12 false true false false) := by
  refine returnsInHanded_of_change (C := Try.checked) own started (by kernel_rfl) Try.func12
    (ChangeSpec.witness6 (enc := enc) (C := Try.checked) false ⟨#[], #[.agg #[.int .i64 0, .int .i64 0, .slice none 0 0]], []⟩ 8 (by kernel_rfl) (by kernel_rfl) (by kernel_rfl) (by kernel_rfl)) ?_
  intro W base args ds gs before hval0 hW _ _
  have hval : ∀ (j : Nat) t v, Try.f12.params[j]? = some t → args[j]? = some v → Value.okWide Try.prog W .any base t v := hval0
  have hW' := hW
  obtain ⟨p, q, hA0, hV, _, hfz, hnd⟩ := hW
  have hA : DataW.TrodAll enc Try.prog W 0 (fun _ => true) true Try.f12.params.toList args.toList ds p := hA0
  have hps : Try.f12.params.toList = [56] := by kernel_rfl
  obtain ⟨Ds, hD, hR⟩ := args_rep types (base := base) _ _ _ _ (fun t ht => by rw [hps] at ht; revert t; decide) (fun j t v h1 h2 => hval j t v (by simpa using h1) (by simpa using h2)) hA
  rw [hps] at hD
  have hC := (law Ds hD).run noInj (There W) W args.toList (fun b h => h) hR
  rw [show args.toList.toArray = args from rfl] at hC
  refine hC.mono fun e W' ⟨v, F', he, _, hv, hx⟩ => ?_
  have hv' : v = .bool true := by simpa only [rep, dbool] using hv
  subst he hv'
  exact ⟨_, rfl, row_post hW' rfl (by kernel_rfl) Try.underlying4 laidOut (fun t ht => by
      have := List.all_eq_true.1 readable t ht
      simp only [Bool.and_eq_true, decide_eq_true_eq] at this
      exact this) (fun ds h => by rw [hps] at h; match ds, h with | [_], _ => rfl) (below_of_ext hx) (ok_one (by kernel_rfl) rfl (okWide_bool_mk Try.underlying4 _))⟩

theorem over : Rows.pushSlimRow.holds Try.pinned (OpenSpec.ofChange Rows.pushSlimSpec) :=
  OpenClaim.holds_of_wide 12 Try.f12 rfl rfl rfl rfl rfl rfl rfl ⟨rfl, rfl, rfl, rfl, rfl⟩ rfl rfl rfl rfl rfl (by kernel_rfl) Try.func12 (by kernel_rfl)
    (of_decide_eq_true (by kernel_rfl)) (by unfold Func.isWrapper; first | (rw [if_pos (by decide +kernel)]; kernel_rfl) | (rw [if_neg (by decide +kernel)]; exact ⟨rfl, rfl⟩))
    (fun os started H enc _ => lifted os started H enc)

theorem proved : Rows.PushSlimSaid := over
end pushSlim
end Go.Proofs.Ytkkfiadefekbbaa
