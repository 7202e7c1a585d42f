/-
  watchlaw.SpaceRoutes returns true for every process and all bounds, and each argument reads afterwards as it read before. No conditions.
-/
import Derived.Test.YtikdngjdhncioaaDC
import Derived.Test.YtikdngjdhncioaaAg
import Derived.Test.YtikdngjdhncioaaAw
import Derived.Test.YtikdngjdhncioaaAp
import Derived.Test.YtikdngjdhncioaaSpB
import Derived.Test.YtikdngjdhncioaaRows
namespace Go.Proofs.Ytikdngjdhncioaa
open Go.RowKit Go.ChangeShapes Go.WideShapes Go.ChangeAt
set_option linter.unusedSimpArgs false
set_option linter.unusedVariables false
def c4 : PC := .seq (.ops [⟨(some 3), .box (.tmp 0), none, 0⟩,
    ⟨(some 6), .move (.const (.bool false)), none, 0⟩] false) (.seq (.ops [⟨(some 13), .loadA 2 (.tmp 3), none, 0⟩,
    ⟨(some 14), .move (.tmp 1), none, 0⟩,
    ⟨(some 15), .move (.tmp 2), none, 0⟩,
    ⟨(some 16), .call 10 [(.tmp 13), (.tmp 14), (.tmp 15)], none, 0⟩,
    ⟨(some 12), .move (.tmp 16), none, 0⟩,
    ⟨(some 17), .ext 0 (.tmp 12), none, 0⟩,
    ⟨(some 18), .ext 1 (.tmp 12), none, 0⟩,
    ⟨(some 7), .move (.tmp 17), none, 0⟩,
    ⟨(some 8), .move (.tmp 18), none, 0⟩] false) (.seq (.ops [⟨(some 20), .loadA 2 (.tmp 3), none, 0⟩,
    ⟨(some 21), .move (.tmp 1), none, 0⟩,
    ⟨(some 22), .move (.tmp 2), none, 0⟩,
    ⟨(some 23), .call 8 [(.tmp 20), (.tmp 21), (.tmp 22)], none, 0⟩,
    ⟨(some 19), .move (.tmp 23), none, 0⟩,
    ⟨(some 24), .ext 0 (.tmp 19), none, 0⟩,
    ⟨(some 25), .ext 1 (.tmp 19), none, 0⟩,
    ⟨(some 26), .ext 2 (.tmp 19), none, 0⟩,
    ⟨(some 9), .alloc [(.slice none 0 0), (.slice none 0 0)], none, 0⟩,
    ⟨none, .store 2 (.tmp 9) (.tmp 24), none, 0⟩,
    ⟨(some 10), .move (.tmp 25), none, 0⟩,
    ⟨(some 11), .move (.tmp 26), none, 0⟩] false) (.seq (.ops [⟨(some 27), .move (.tmp 8), none, 0⟩,
    ⟨(some 28), .move (.tmp 11), none, 0⟩,
    ⟨(some 29), .bin .eql (.tmp 27) (.tmp 28), none, 0⟩,
    ⟨(some 30), .move (.tmp 29), none, 0⟩,
    ⟨(some 31), .move (.tmp 7), (some (30, true)), 0⟩,
    ⟨(some 32), .move (.tmp 10), (some (30, true)), 0⟩,
    ⟨(some 33), .call 11 [(.tmp 31), (.tmp 32)], (some (30, true)), 0⟩,
    ⟨(some 34), .pick (.tmp 30) (.tmp 33) (.const (.bool false)), none, 0⟩,
    ⟨(some 6), .move (.tmp 34), none, 0⟩] false) (.ret))))
set_option maxRecDepth 100000 in
theorem c4_ok : FunOK Try.prog 4 35 [.tmp 6] c4 := ⟨⟨Try.f4, Try.func4, rfl, by kernel_rfl, rfl, by kernel_rfl⟩⟩
theorem law_SpaceRoutes (P : ProcD) (hP : P.Fits) (tok st : Int) : PCall Try.prog 4 [dproc P, .sc (.int .i64 tok), .sc (.int .i64 st)] (dbool true) := by
  have hx : (P.exW tok st).length ≤ 201 := by
    unfold ProcD.exW
    split
    · simp
    · rename_i h
      have h1 : P.stepsE = 0 := by
        by_cases q : P.stepsE = 0
        · exact q
        · exact absurd (.inl q) h
      have h2 : ¬ ProcD.badTS tok st := fun q => h (.inr (.inl q))
      unfold ProcD.badTS at h2
      obtain ⟨hS, hl⟩ := ProcD.exF_ok h1 (tok := tok) (st := st.toNat) (by omega)
      have hr := hS.room
      have := rtC_len (P.exF tok st.toNat).org (P.exF tok st.toNat).last
      omega
  refine pcall_intro c4_ok (by simp) (by simp [PureL, Pure, pure_dproc]) ?_ (by simp [dbool, Pure])
  unfold dproc ProcD.cells
  (apply red_sound; focus (repeat' (first | exact Red.skip | exact Red.ret | exact RedO.nil | exact RedD.nil | exact Red.exit _ | exact Red.loop _ | exact Red.stop _ | apply Red.ops | apply Red.draw | apply Red.seq | apply Red.cond | apply Red.block | apply RedO.cons | apply RedD.cons | exact (0 : Nat))))
  ((conv => whnf); repeat (refine And.intro rfl ?_; (conv => whnf)))
  (refine .inl ⟨_, (space_Route P hP tok st), ?_⟩; ((conv => whnf); repeat (refine And.intro rfl ?_; (conv => whnf))))
  (refine .inl ⟨_, (ref_Explored P hP tok st), ?_⟩; ((conv => whnf); repeat (refine And.intro rfl ?_; (conv => whnf))))
  have hb : (P.exE tok st == P.exE tok st) = true := by simp
  rw [hb]
  ((conv => whnf); repeat (refine And.intro rfl ?_; (conv => whnf)))
  (refine .inl ⟨_, (equal_int (P.exW tok st) (P.exW tok st) (by omega)), ?_⟩; ((conv => whnf); repeat (refine And.intro rfl ?_; (conv => whnf))))
  rw [decide_eq_true rfl]
  exact .refl _
namespace spaceRoutes
set_option maxRecDepth 100000 in
theorem law : ∀ Ds, OfAs Try.prog [25, 3, 3] Ds → PCall Try.prog 4 Ds (dbool true)
  | [a, b, c], h => by
    obtain ⟨P, rfl, hP⟩ := argProc h.1
    obtain ⟨n, rfl, _⟩ := argInt Try.underlying3 h.2.1
    obtain ⟨m, rfl, _⟩ := argInt Try.underlying3 h.2.2.1
    exact law_SpaceRoutes P hP n m
theorem types : typesOK Try.prog [25, 3, 22, 23, 107, 109, 9] = true := by kernel_rfl
set_option maxRecDepth 100000 in
theorem laidOut : laidOutB Try.prog = true := by kernel_rfl
set_option maxRecDepth 100000 in
theorem readable : (Try.f4.params.toList.all fun t => Try.prog.readableRec t && decide (t < Try.prog.types.size)) = true := by kernel_rfl
theorem own : ownKnob Try.prog.godebug = none := by kernel_rfl
set_option maxRecDepth 100000 in
theorem lifted (os : Os) (started : os.Started) (H : Type) (enc : TypeId × Value → H) :
    ReturnsInHanded {} Try.checked os 4 .any (Rows.spaceRoutesSpec.pre6 enc Try.prog Try.f4 Rows.spaceRoutesRow.domain false) (Rows.spaceRoutesSpec.post enc Try.prog Try.f4 false true false false) := by
  refine returnsInHanded_of_change_sized (C := Try.checked) own started (by kernel_rfl) Try.func4
    (ChangeSpec.witness6 (enc := enc) (C := Try.checked) false ⟨#[], #[.agg #[.slice none 0 0, .slice none 0 0], .int .i64 0, .int .i64 0], []⟩ 8 (by kernel_rfl) (by kernel_rfl) (by kernel_rfl) (by kernel_rfl)) ?_
  intro W base args ds gs before hval0 hW _ hsz _
  have hval : ∀ (j : Nat) t v, Try.f4.params[j]? = some t → args[j]? = some v → Value.okWide Try.prog W .any base t v := hval0
  have hW' := hW
  obtain ⟨p, q, hA0, hV, _, hfz, hnd⟩ := hW
  have hA : DataW.TrodAll enc Try.prog W 0 (fun _ => true) true Try.f4.params.toList args.toList ds p := hA0
  have hps : Try.f4.params.toList = [25, 3, 3] := by kernel_rfl
  obtain ⟨Ds, hD, hR⟩ := args_rep types (base := base) _ _ _ _ (fun t ht => by rw [hps] at ht; revert t; decide) (fun j t v h1 h2 => hval j t v (by simpa using h1) (by simpa using h2)) hA fun n hn => by
    have := List.all_eq_true.1 hsz n (weightsEach_pre _ _ _ _ (trodAll_len _ _ _ _ hA).symm n hn)
    simpa using this
  rw [hps] at hD
  have hC := (law Ds hD).run noInj (There W) W args.toList (fun b h => h) hR
  rw [show args.toList.toArray = args from rfl] at hC
  refine hC.mono fun e W' ⟨v, F', he, _, hv, hx⟩ => ?_
  have hv' : v = .bool true := by simpa only [rep, dbool] using hv
  subst he hv'
  exact ⟨_, rfl, row_post hW' rfl (by kernel_rfl) Try.underlying4 laidOut (fun t ht => by
      have := List.all_eq_true.1 readable t ht
      simp only [Bool.and_eq_true, decide_eq_true_eq] at this
      exact this) (fun ds h => by rw [hps] at h; match ds, h with | [_, _, _], _ => rfl) (below_of_ext hx) (ok_one (by kernel_rfl) rfl (okWide_bool_mk Try.underlying4 _))⟩

theorem over : Rows.spaceRoutesRow.holds Try.pinned (OpenSpec.ofChange Rows.spaceRoutesSpec) :=
  OpenClaim.holds_of_wide 4 Try.f4 rfl rfl rfl rfl rfl rfl rfl ⟨rfl, rfl, rfl, rfl, rfl⟩ rfl rfl rfl rfl rfl (by kernel_rfl) Try.func4 (by kernel_rfl)
    (of_decide_eq_true (by kernel_rfl)) (by unfold Func.isWrapper; first | (rw [if_pos (by decide +kernel)]; kernel_rfl) | (rw [if_neg (by decide +kernel)]; exact ⟨rfl, rfl⟩))
    (fun os started H enc _ => lifted os started H enc)

theorem proved : Rows.SpaceRoutesSaid := over
end spaceRoutes
end Go.Proofs.Ytikdngjdhncioaa
