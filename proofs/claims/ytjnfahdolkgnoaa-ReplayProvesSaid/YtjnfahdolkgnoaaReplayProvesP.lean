/-
  watchlaw.ReplayProves returns true for every process, every verdict and every formula, and each argument reads afterwards as it read before. No conditions.
-/
import Derived.Test.YtjnfahdolkgnoaaDC
import Derived.Test.YtjnfahdolkgnoaaAp
import Derived.Test.YtjnfahdolkgnoaaAt
import Derived.Test.YtjnfahdolkgnoaaRpA
import Derived.Test.YtjnfahdolkgnoaaRows
namespace Go.Proofs.Ytjnfahdolkgnoaa
open Go.RowKit Go.ChangeShapes Go.WideShapes Go.ChangeAt
set_option linter.unusedSimpArgs false
set_option linter.unusedVariables false
def c5 : PC := .seq (.ops [⟨(some 3), .box (.tmp 0), none, 0⟩,
    ⟨(some 4), .box (.tmp 1), none, 0⟩,
    ⟨(some 5), .box (.tmp 2), none, 0⟩,
    ⟨(some 6), .move (.const (.bool false)), none, 0⟩] false) (.seq (.seq (.ops [⟨(some 11), .faddr 1 (.tmp 4), none, 0⟩,
    ⟨(some 12), .load1 (.tmp 11), none, 0⟩,
    ⟨(some 13), .len (.tmp 12), none, 0⟩,
    ⟨(some 14), .bin .gtr (.tmp 13) (.const (.int .i64 60)), none, 0⟩,
    ⟨(some 15), .move (.tmp 14), none, 0⟩,
    ⟨(some 16), .faddr 2 (.tmp 4), (some (15, false)), 0⟩,
    ⟨(some 17), .load1 (.tmp 16), (some (15, false)), 0⟩,
    ⟨(some 18), .len (.tmp 17), (some (15, false)), 0⟩,
    ⟨(some 19), .faddr 1 (.tmp 4), (some (15, false)), 0⟩,
    ⟨(some 20), .load1 (.tmp 19), (some (15, false)), 0⟩,
    ⟨(some 21), .len (.tmp 20), (some (15, false)), 0⟩,
    ⟨(some 22), .bin .sub (.const (.int .i64 60)) (.tmp 21), (some (15, false)), 0⟩,
    ⟨(some 23), .bin .gtr (.tmp 18) (.tmp 22), (some (15, false)), 0⟩,
    ⟨(some 24), .pick (.tmp 15) (.const (.bool true)) (.tmp 23), none, 0⟩] false) (.cond (.tmp 24) (.seq (.ops [⟨(some 6), .move (.const (.bool true)), none, 0⟩] false) (.ret)) (.skip))) (.seq (.ops [⟨(some 26), .loadA 2 (.tmp 3), none, 0⟩,
    ⟨(some 27), .loadA 3 (.tmp 4), none, 0⟩,
    ⟨(some 28), .loadA 3 (.tmp 5), none, 0⟩,
    ⟨(some 29), .call 14 [(.tmp 26), (.tmp 27), (.tmp 28)], none, 0⟩,
    ⟨(some 25), .move (.tmp 29), none, 0⟩,
    ⟨(some 30), .ext 0 (.tmp 25), none, 0⟩,
    ⟨(some 31), .ext 1 (.tmp 25), none, 0⟩,
    ⟨(some 7), .move (.tmp 30), none, 0⟩,
    ⟨(some 8), .move (.tmp 31), none, 0⟩] false) (.seq (.ops [⟨(some 33), .loadA 2 (.tmp 3), none, 0⟩,
    ⟨(some 34), .loadA 3 (.tmp 4), none, 0⟩,
    ⟨(some 35), .call 15 [(.tmp 33), (.tmp 34)], none, 0⟩,
    ⟨(some 32), .move (.tmp 35), none, 0⟩,
    ⟨(some 36), .ext 0 (.tmp 32), none, 0⟩,
    ⟨(some 37), .ext 1 (.tmp 32), none, 0⟩,
    ⟨(some 9), .move (.tmp 36), none, 0⟩,
    ⟨(some 10), .move (.tmp 37), none, 0⟩] false) (.seq (.seq (.ops [⟨(some 38), .move (.tmp 10), none, 0⟩,
    ⟨(some 39), .bin .eql (.tmp 38) (.const (.int .i64 0)), none, 0⟩] false) (.cond (.tmp 39) (.ops [⟨(some 40), .loadA 3 (.tmp 5), none, 0⟩,
    ⟨(some 41), .call 16 [(.tmp 40)], none, 0⟩,
    ⟨(some 10), .move (.tmp 41), none, 0⟩] false) (.skip))) (.seq (.seq (.ops [⟨(some 42), .move (.tmp 10), none, 0⟩,
    ⟨(some 43), .bin .neq (.tmp 42) (.const (.int .i64 0)), none, 0⟩] false) (.cond (.tmp 43) (.seq (.ops [⟨(some 44), .move (.tmp 8), none, 0⟩,
    ⟨(some 45), .move (.tmp 10), none, 0⟩,
    ⟨(some 46), .bin .eql (.tmp 44) (.tmp 45), none, 0⟩,
    ⟨(some 47), .move (.tmp 46), none, 0⟩,
    ⟨(some 48), .move (.tmp 7), (some (47, true)), 0⟩,
    ⟨(some 49), .un .not (.tmp 48), (some (47, true)), 0⟩,
    ⟨(some 50), .pick (.tmp 47) (.tmp 49) (.const (.bool false)), none, 0⟩,
    ⟨(some 6), .move (.tmp 50), none, 0⟩] false) (.ret)) (.skip))) (.seq (.ops [⟨(some 51), .move (.tmp 8), none, 0⟩,
    ⟨(some 52), .bin .eql (.tmp 51) (.const (.int .i64 0)), none, 0⟩,
    ⟨(some 53), .move (.tmp 52), none, 0⟩,
    ⟨(some 54), .move (.tmp 7), (some (53, true)), 0⟩,
    ⟨(some 55), .loadA 2 (.tmp 3), (some (53, true)), 0⟩,
    ⟨(some 56), .loadA 3 (.tmp 4), (some (53, true)), 0⟩,
    ⟨(some 57), .loadA 3 (.tmp 5), (some (53, true)), 0⟩,
    ⟨(some 58), .move (.tmp 9), (some (53, true)), 0⟩,
    ⟨(some 59), .call 17 [(.tmp 55), (.tmp 56), (.tmp 57), (.tmp 58)], (some (53, true)), 0⟩,
    ⟨(some 60), .eqb false (.tmp 54) (.tmp 59), (some (53, true)), 0⟩,
    ⟨(some 61), .pick (.tmp 53) (.tmp 60) (.const (.bool false)), none, 0⟩,
    ⟨(some 6), .move (.tmp 61), none, 0⟩] false) (.ret)))))))
set_option maxRecDepth 100000 in
theorem c5_ok : FunOK Try.prog 5 62 [.tmp 6] c5 := ⟨⟨Try.f5, Try.func5, rfl, by kernel_rfl, rfl, by kernel_rfl⟩⟩
set_option maxRecDepth 100000 in
theorem law_ReplayProves (P : ProcD) (hP : P.Fits) (h : Bool) (stem loop : List Int) (h1 : stem.length ≤ 9223372036854775807) (h2 : loop.length ≤ 9223372036854775807) (t : Tree) (ht : Small t) : PCall Try.prog 5 [dproc P, dverd h stem loop, dtree t] (dbool true) := by
  refine pcall_intro c5_ok (by simp) (by simp [PureL, Pure, pure_dproc, pure_dverd, pure_dtree]) ?_ (by simp [dbool, Pure])
  (apply red_sound; focus (repeat' (first | exact Red.skip | exact Red.ret | exact RedO.nil | exact RedD.nil | exact Red.exit _ | exact Red.loop _ | exact Red.stop _ | apply Red.ops | apply Red.draw | apply Red.seq | apply Red.cond | apply Red.block | apply RedO.cons | apply RedD.cons | exact (0 : Nat))))
  ((conv => whnf); repeat (refine And.intro rfl ?_; (conv => whnf)))
  rw [List.length_map]
  by_cases q1 : 60 < stem.length
  · have hb : decide ((stem.length : Int) > 60) = true := decide_eq_true (by omega)
    rw [hb]
    ((conv => whnf); repeat (refine And.intro rfl ?_; (conv => whnf)))
    exact .refl _
  have hb : decide ((stem.length : Int) > 60) = false := decide_eq_false (by omega)
  rw [hb]
  ((conv => whnf); repeat (refine And.intro rfl ?_; (conv => whnf)))
  rw [List.length_map, List.length_map]
  (refine .inl ⟨by (unfold InR; rw [IntKind.wrap_i64]; omega), ?_⟩; ((conv => whnf); repeat (refine And.intro rfl ?_; (conv => whnf))))
  (refine ifK_split (fun q2 => ?_) (fun q2 => ?_) <;> (rw [q2]; ((conv => whnf); repeat (refine And.intro rfl ?_; (conv => whnf)))))
  · exact .refl _
  have q2 : loop.length + stem.length ≤ 60 := by ((try simp only [oo, reduceCtorEq] at *) <;> omega)
  have h60 : stem.length + loop.length ≤ 60 := by omega
  obtain ⟨n, hn, hz, hs⟩ := ProcD.stop_at (P.rerr (stem ++ loop)) (stem.length + loop.length)
  have hR := ref_Frames P hP h stem loop h1 h2 n hn hz hs
  have hL := ref_Ltl t ht
  have hA1 := rep_Proves1 P hP h stem loop h60 n hn hz hs t ht
  have hA0 := rep_Proves0 P hP h stem loop h60 n hn hz hs t ht
  have hV := VerdOK.of hz hs h60
  by_cases e0 : P.fraE stem loop n = 0
  · obtain ⟨hV, eL⟩ := hV e0
    by_cases e1 : chk lKids t = 0
    · have hB := ref_Proves P hP h stem loop hV t ((chk_zero _ _).1 e1).2.2
      have hA := hA0 e0 e1
      rw [e0, eL] at hR
      rw [e1] at hL
      (refine .inl ⟨_, hA, ?_⟩; ((conv => whnf); repeat (refine And.intro rfl ?_; (conv => whnf))))
      (refine .inl ⟨_, hR, ?_⟩; ((conv => whnf); repeat (refine And.intro rfl ?_; (conv => whnf))))
      (refine .inl ⟨_, hL, ?_⟩; ((conv => whnf); repeat (refine And.intro rfl ?_; (conv => whnf))))
      generalize P.provB stem loop t = b at *
      (refine .inl ⟨_, hB, ?_⟩; ((conv => whnf); repeat (refine And.intro rfl ?_; (conv => whnf))))
      exact deep_eq (by cases b <;> rfl)
    · have hA := hA1 _ rfl (by rw [if_neg (by omega)]; exact e1)
      rw [if_neg (by omega)] at hA
      rw [e0] at hR
      generalize chk lKids t = c at *
      (refine .inl ⟨_, hA, ?_⟩; ((conv => whnf); repeat (refine And.intro rfl ?_; (conv => whnf))))
      (refine .inl ⟨_, hR, ?_⟩; ((conv => whnf); repeat (refine And.intro rfl ?_; (conv => whnf))))
      (refine .inl ⟨_, hL, ?_⟩; ((conv => whnf); repeat (refine And.intro rfl ?_; (conv => whnf))))
      (refine ifK_split (fun q3 => ?_) (fun q3 => ?_) <;> (rw [q3]; ((conv => whnf); repeat (refine And.intro rfl ?_; (conv => whnf)))))
      · rw [show (c == c) = true by simp]
        ((conv => whnf); repeat (refine And.intro rfl ?_; (conv => whnf)))
        exact .refl _
      · exfalso; ((try simp only [oo, reduceCtorEq] at *) <;> omega)
  · have hA := hA1 _ rfl (by rw [if_pos e0]; exact e0)
    rw [if_pos e0] at hA
    generalize P.fraE stem loop n = e at *
    generalize P.fraL stem loop n = fl at *
    (refine .inl ⟨_, hA, ?_⟩; ((conv => whnf); repeat (refine And.intro rfl ?_; (conv => whnf))))
    (refine .inl ⟨_, hR, ?_⟩; ((conv => whnf); repeat (refine And.intro rfl ?_; (conv => whnf))))
    (refine ifK_split (fun q3 => ?_) (fun q3 => ?_) <;> (rw [q3]; ((conv => whnf); repeat (refine And.intro rfl ?_; (conv => whnf)))))
    · exfalso; ((try simp only [oo, reduceCtorEq] at *) <;> omega)
    (refine ifK_split (fun q4 => ?_) (fun q4 => ?_) <;> (rw [q4]; ((conv => whnf); repeat (refine And.intro rfl ?_; (conv => whnf)))))
    · rw [show (e == e) = true by simp]
      ((conv => whnf); repeat (refine And.intro rfl ?_; (conv => whnf)))
      exact .refl _
    · exfalso; ((try simp only [oo, reduceCtorEq] at *) <;> omega)
namespace replayProves
set_option maxRecDepth 100000 in
theorem law : ∀ Ds, OfAs Try.prog [25, 53, 56] Ds → PCall Try.prog 5 Ds (dbool true)
  | [d, e, f], h => by
    obtain ⟨P, rfl, hP⟩ := argProc h.1
    obtain ⟨t, rfl, ht⟩ := argLtl h.2.2.1
    obtain ⟨h1, h2, _⟩ := h
    unfold OfAz at h2
    rw [Try.underlying53] at h2
    obtain ⟨cs, rfl, h2⟩ := h2
    have k1 := of_struct Try.underlying53 h2
    simp only [List.map_cons, List.map_nil] at k1
    obtain ⟨b, r, rfl, k2⟩ := ofTs_bool Try.underlying4 k1
    obtain ⟨xs, r, rfl, hz1, hx1, k3⟩ := ofTs_slice Try.underlying26 k2
    obtain ⟨ys, r, rfl, hz2, hx2, k4⟩ := ofTs_slice Try.underlying26 k3
    obtain rfl := ofTs_nil k4
    obtain ⟨stem, rfl, _⟩ := of_cells (f := fun n : Int => .int .i64 n) (ok := fun _ => True) (fun cs h => by obtain ⟨n, e, _⟩ := of_int Try.underlying3 h; exact ⟨n, e, trivial⟩) hx1
    obtain ⟨loop, rfl, _⟩ := of_cells (f := fun n : Int => .int .i64 n) (ok := fun _ => True) (fun cs h => by obtain ⟨n, e, _⟩ := of_int Try.underlying3 h; exact ⟨n, e, trivial⟩) hx2
    rw [show Try.prog.cellsOf 3 = 1 by kernel_rfl]
    exact law_ReplayProves P hP b stem loop (by simpa using hz1) (by simpa using hz2) t ht
theorem types : typesOK Try.prog [25, 53, 56, 22, 23, 4, 26, 3, 54, 86, 134, 9] = true := by kernel_rfl
set_option maxRecDepth 100000 in
theorem laidOut : laidOutB Try.prog = true := by kernel_rfl
set_option maxRecDepth 100000 in
theorem readable : (Try.f5.params.toList.all fun t => Try.prog.readableRec t && decide (t < Try.prog.types.size)) = true := by kernel_rfl
theorem own : ownKnob Try.prog.godebug = none := by kernel_rfl
set_option maxRecDepth 100000 in
theorem lifted (os : Os) (started : os.Started) (H : Type) (enc : TypeId × Value → H) :
    ReturnsInHanded {} Try.checked os 5 .any (Rows.replayProvesSpec.pre6 enc Try.prog Try.f5 Rows.replayProvesRow.domain false) (Rows.replayProvesSpec.post enc Try.prog Try.f5 false true false false) := by
  refine returnsInHanded_of_change_sized (C := Try.checked) own started (by kernel_rfl) Try.func5
    (ChangeSpec.witness6 (enc := enc) (C := Try.checked) false ⟨#[], #[.agg #[.slice none 0 0, .slice none 0 0], .agg #[.bool false, .slice none 0 0, .slice none 0 0], .agg #[.int .i64 0, .int .i64 0, .slice none 0 0]], []⟩ 8 (by kernel_rfl) (by kernel_rfl) (by kernel_rfl) (by kernel_rfl)) ?_
  intro W base args ds gs before hval0 hW _ hsz _
  have hval : ∀ (j : Nat) t v, Try.f5.params[j]? = some t → args[j]? = some v → Value.okWide Try.prog W .any base t v := hval0
  have hW' := hW
  obtain ⟨p, q, hA0, hV, _, hfz, hnd⟩ := hW
  have hA : DataW.TrodAll enc Try.prog W 0 (fun _ => true) true Try.f5.params.toList args.toList ds p := hA0
  have hps : Try.f5.params.toList = [25, 53, 56] := by kernel_rfl
  obtain ⟨Ds, hD, hR⟩ := args_rep types (base := base) _ _ _ _ (fun t ht => by rw [hps] at ht; revert t; decide) (fun j t v h1 h2 => hval j t v (by simpa using h1) (by simpa using h2)) hA fun n hn => by
    have := List.all_eq_true.1 hsz n (weightsEach_pre _ _ _ _ (trodAll_len _ _ _ _ hA).symm n hn)
    simpa using this
  rw [hps] at hD
  have hC := (law Ds hD).run noInj (There W) W args.toList (fun b h => h) hR
  rw [show args.toList.toArray = args from rfl] at hC
  refine hC.mono fun e W' ⟨v, F', he, _, hv, hx⟩ => ?_
  have hv' : v = .bool true := by simpa only [rep, dbool] using hv
  subst he hv'
  exact ⟨_, rfl, row_post hW' rfl (by kernel_rfl) Try.underlying4 laidOut (fun t ht => by
      have := List.all_eq_true.1 readable t ht
      simp only [Bool.and_eq_true, decide_eq_true_eq] at this
      exact this) (fun ds h => by rw [hps] at h; match ds, h with | [_, _, _], _ => rfl) (below_of_ext hx) (ok_one (by kernel_rfl) rfl (okWide_bool_mk Try.underlying4 _))⟩

theorem over : Rows.replayProvesRow.holds Try.pinned (OpenSpec.ofChange Rows.replayProvesSpec) :=
  OpenClaim.holds_of_wide 5 Try.f5 rfl rfl rfl rfl rfl rfl rfl ⟨rfl, rfl, rfl, rfl, rfl⟩ rfl rfl rfl rfl rfl (by kernel_rfl) Try.func5 (by kernel_rfl)
    (of_decide_eq_true (by kernel_rfl)) (by unfold Func.isWrapper; first | (rw [if_pos (by decide +kernel)]; kernel_rfl) | (rw [if_neg (by decide +kernel)]; exact ⟨rfl, rfl⟩))
    (fun os started H enc _ => lifted os started H enc)

theorem proved : Rows.ReplayProvesSaid := over
end replayProves
end Go.Proofs.Ytjnfahdolkgnoaa
