/-
  watchlaw.ReplaySays returns true for every process and every verdict, and each argument reads afterwards as it read before. No conditions.
-/
import Derived.Test.YteckcflliaecpaaDC
import Derived.Test.YteckcflliaecpaaAp
import Derived.Test.YteckcflliaecpaaRy2
import Derived.Test.YteckcflliaecpaaRows
namespace Go.Proofs.Yteckcflliaecpaa
open Go.RowKit Go.ChangeShapes Go.WideShapes Go.ChangeAt
set_option linter.unusedSimpArgs false
set_option linter.unusedVariables false
def c6 : PC := .seq (.ops [⟨(some 4), .move (.const (.bool false)), none, 0⟩] false) (.seq (.ops [⟨(some 5), .move (.tmp 0), none, 0⟩,
    ⟨(some 6), .move (.tmp 1), none, 0⟩,
    ⟨(some 7), .call 15 [(.tmp 5), (.tmp 6), (.func 9)], none, 0⟩,
    ⟨(some 4), .move (.tmp 7), none, 0⟩] false) (.ret))
set_option maxRecDepth 100000 in
theorem c6_ok : FunOK Try.prog 6 8 [.tmp 4] c6 := ⟨⟨Try.f6, Try.func6, rfl, by kernel_rfl, rfl, by kernel_rfl⟩⟩
def c3 : PC := .seq (.ops [⟨(some 2), .box (.tmp 0), none, 0⟩,
    ⟨(some 3), .box (.tmp 1), none, 0⟩,
    ⟨(some 4), .move (.const (.bool false)), none, 0⟩] false) (.seq (.seq (.ops [⟨(some 9), .faddr 1 (.tmp 3), none, 0⟩,
    ⟨(some 10), .load1 (.tmp 9), none, 0⟩,
    ⟨(some 11), .len (.tmp 10), none, 0⟩,
    ⟨(some 12), .bin .gtr (.tmp 11) (.const (.int .i64 1000)), none, 0⟩,
    ⟨(some 13), .move (.tmp 12), none, 0⟩,
    ⟨(some 14), .faddr 1 (.tmp 3), (some (13, true)), 0⟩,
    ⟨(some 15), .load1 (.tmp 14), (some (13, true)), 0⟩,
    ⟨(some 16), .len (.tmp 15), (some (13, true)), 0⟩,
    ⟨(some 17), .bin .leq (.tmp 16) (.const (.int .i64 60000)), (some (13, true)), 0⟩,
    ⟨(some 18), .pick (.tmp 13) (.tmp 17) (.const (.bool false)), none, 0⟩,
    ⟨(some 19), .move (.tmp 18), none, 0⟩,
    ⟨(some 20), .faddr 2 (.tmp 3), (some (19, false)), 0⟩,
    ⟨(some 21), .load1 (.tmp 20), (some (19, false)), 0⟩,
    ⟨(some 22), .len (.tmp 21), (some (19, false)), 0⟩,
    ⟨(some 23), .bin .gtr (.tmp 22) (.const (.int .i64 1000)), (some (19, false)), 0⟩,
    ⟨(some 24), .move (.tmp 23), (some (19, false)), 0⟩,
    ⟨(some 25), .faddr 2 (.tmp 3), (some (24, true)), 0⟩,
    ⟨(some 26), .load1 (.tmp 25), (some (24, true)), 0⟩,
    ⟨(some 27), .len (.tmp 26), (some (24, true)), 0⟩,
    ⟨(some 28), .bin .leq (.tmp 27) (.const (.int .i64 60000)), (some (24, true)), 0⟩,
    ⟨(some 29), .pick (.tmp 24) (.tmp 28) (.const (.bool false)), (some (19, false)), 0⟩,
    ⟨(some 30), .pick (.tmp 19) (.const (.bool true)) (.tmp 29), none, 0⟩] false) (.cond (.tmp 30) (.seq (.ops [⟨(some 4), .move (.const (.bool true)), none, 0⟩] false) (.ret)) (.skip))) (.seq (.ops [⟨(some 32), .loadA 2 (.tmp 2), none, 0⟩,
    ⟨(some 33), .loadA 3 (.tmp 3), none, 0⟩,
    ⟨(some 34), .call 4 [(.tmp 32), (.tmp 33)], none, 0⟩,
    ⟨(some 31), .move (.tmp 34), none, 0⟩,
    ⟨(some 35), .ext 0 (.tmp 31), none, 0⟩,
    ⟨(some 36), .ext 1 (.tmp 31), none, 0⟩,
    ⟨(some 5), .move (.tmp 35), none, 0⟩,
    ⟨(some 6), .move (.tmp 36), none, 0⟩] false) (.seq (.ops [⟨(some 38), .loadA 2 (.tmp 2), none, 0⟩,
    ⟨(some 39), .loadA 3 (.tmp 3), none, 0⟩,
    ⟨(some 40), .call 5 [(.tmp 38), (.tmp 39)], none, 0⟩,
    ⟨(some 37), .move (.tmp 40), none, 0⟩,
    ⟨(some 41), .ext 0 (.tmp 37), none, 0⟩,
    ⟨(some 42), .ext 1 (.tmp 37), none, 0⟩,
    ⟨(some 7), .move (.tmp 41), none, 0⟩,
    ⟨(some 8), .move (.tmp 42), none, 0⟩] false) (.seq (.ops [⟨(some 43), .move (.tmp 6), none, 0⟩,
    ⟨(some 44), .move (.tmp 8), none, 0⟩,
    ⟨(some 45), .bin .eql (.tmp 43) (.tmp 44), none, 0⟩,
    ⟨(some 46), .move (.tmp 45), none, 0⟩,
    ⟨(some 47), .move (.tmp 5), (some (46, true)), 0⟩,
    ⟨(some 48), .move (.tmp 7), (some (46, true)), 0⟩,
    ⟨(some 49), .call 6 [(.tmp 47), (.tmp 48)], (some (46, true)), 0⟩,
    ⟨(some 50), .pick (.tmp 46) (.tmp 49) (.const (.bool false)), none, 0⟩,
    ⟨(some 4), .move (.tmp 50), none, 0⟩] false) (.ret)))))
set_option maxRecDepth 100000 in
theorem c3_ok : FunOK Try.prog 3 51 [.tmp 4] c3 := ⟨⟨Try.f3, Try.func3, rfl, by kernel_rfl, rfl, by kernel_rfl⟩⟩
theorem law_lists (a b : List (List Int)) (ha : a.length ≤ 9223372036854775807) (hr : ∀ x ∈ a, x.length ≤ 9223372036854775807) : PCall Try.prog 6 [dgrid a, dgrid b] (.sc (.bool (decide (a = b)))) := by
  refine pcall_intro c6_ok (by simp) (by simp [PureL, Pure, pure_dgrid']) ?_ (by simp [Pure])
  (apply red_sound; focus (repeat' (first | exact Red.skip | exact Red.ret | exact RedO.nil | exact RedD.nil | exact Red.exit _ | exact Red.loop _ | exact Red.stop _ | apply Red.ops | apply Red.draw | apply Red.seq | apply Red.cond | apply Red.block | apply RedO.cons | apply RedD.cons | exact (0 : Nat))))
  ((conv => whnf); repeat (refine And.intro rfl ?_; (conv => whnf)))
  (refine .inl ⟨_, (equalF_grid a b ha hr), ?_⟩; ((conv => whnf); repeat (refine And.intro rfl ?_; (conv => whnf))))
  exact .refl _
set_option maxRecDepth 100000 in
theorem law_ReplaySays (P : ProcD) (hP : P.Fits) (h : Bool) (stem loop : List Int) (h1 : stem.length ≤ 9223372036854775807) (h2 : loop.length ≤ 9223372036854775807) : PCall Try.prog 3 [dproc P, dverd h stem loop] (dbool true) := by
  obtain ⟨n, hn, hz, hs⟩ := ProcD.stop_at (P.rerr (stem ++ loop)) (stem.length + loop.length)
  refine pcall_intro c3_ok (by simp) (by simp [PureL, Pure, pure_dproc, pure_dverd]) ?_ (by simp [dbool, Pure])
  (apply red_sound; focus (repeat' (first | exact Red.skip | exact Red.ret | exact RedO.nil | exact RedD.nil | exact Red.exit _ | exact Red.loop _ | exact Red.stop _ | apply Red.ops | apply Red.draw | apply Red.seq | apply Red.cond | apply Red.block | apply RedO.cons | apply RedD.cons | exact (0 : Nat))))
  ((conv => whnf); repeat (refine And.intro rfl ?_; (conv => whnf)))
  rw [List.length_map]
  have hA := replay_Frames P hP h stem loop h1 h2 n hn hz hs
  have hB := ref_Frames P hP h stem loop h1 h2 n hn hz hs
  have eE : P.fraE stem loop n = if P.stepsE ≠ 0 then P.stepsE else if loop.length = 0 then 1 else if 60000 < stem.length + loop.length then 2
      else if n ≠ stem.length + loop.length then P.rerr (stem ++ loop) n
      else if P.rnow (stem ++ loop) stem.length = P.rnow (stem ++ loop) (stem.length + loop.length) then 0 else 9 := rfl
  have eL : P.fraL stem loop n = if P.fraE stem loop n = 0 then P.rgrid (stem ++ loop) (stem.length + loop.length) else [] := rfl
  have hlist : (P.fraL stem loop n).length ≤ 9223372036854775807 ∧ ∀ x ∈ P.fraL stem loop n, x.length ≤ 9223372036854775807 := by
    by_cases q : P.fraE stem loop n = 0
    · rw [eL, if_pos q]
      have h3 : P.stepsE = 0 := by
        by_cases w : P.stepsE = 0
        · exact w
        · rw [if_pos w] at eE; omega
      rw [if_neg (by omega)] at eE
      by_cases w : loop.length = 0
      · rw [if_pos w] at eE; omega
      rw [if_neg w] at eE
      by_cases w2 : 60000 < stem.length + loop.length
      · rw [if_pos w2] at eE; omega
      rw [if_neg w2] at eE
      by_cases w3 : n ≠ stem.length + loop.length
      · rw [if_pos w3] at eE
        rcases hs with hs | hs
        · exact absurd hs w3
        · omega
      · have w3 : n = stem.length + loop.length := Classical.not_not.1 w3
        subst w3
        refine ⟨by rw [P.rgrid_len]; omega, fun x hx => ?_⟩
        have := ProcD.rgrid_rows h3 hz x hx
        omega
    · rw [eL, if_neg q]
      exact ⟨by simp, by simp⟩
  have hL := law_lists (P.fraL stem loop n) (P.fraL stem loop n) hlist.1 hlist.2
  rw [decide_eq_true rfl] at hL
  have hee : (P.fraE stem loop n == P.fraE stem loop n) = true := by simp
  cases g1 : decide ((stem.length : Int) > 1000)
  · ((conv => whnf); repeat (refine And.intro rfl ?_; (conv => whnf)))
    rw [List.length_map]
    cases g3 : decide ((loop.length : Int) > 1000)
    · ((conv => whnf); repeat (refine And.intro rfl ?_; (conv => whnf)))
      (refine .inl ⟨_, hA, ?_⟩; ((conv => whnf); repeat (refine And.intro rfl ?_; (conv => whnf))))
      (refine .inl ⟨_, hB, ?_⟩; ((conv => whnf); repeat (refine And.intro rfl ?_; (conv => whnf))))
      rw [hee]
      ((conv => whnf); repeat (refine And.intro rfl ?_; (conv => whnf)))
      (refine .inl ⟨_, hL, ?_⟩; ((conv => whnf); repeat (refine And.intro rfl ?_; (conv => whnf))))
      exact .refl _
    · ((conv => whnf); repeat (refine And.intro rfl ?_; (conv => whnf)))
      rw [List.length_map]
      cases g4 : decide ((loop.length : Int) ≤ 60000)
      · ((conv => whnf); repeat (refine And.intro rfl ?_; (conv => whnf)))
        (refine .inl ⟨_, hA, ?_⟩; ((conv => whnf); repeat (refine And.intro rfl ?_; (conv => whnf))))
        (refine .inl ⟨_, hB, ?_⟩; ((conv => whnf); repeat (refine And.intro rfl ?_; (conv => whnf))))
        rw [hee]
        ((conv => whnf); repeat (refine And.intro rfl ?_; (conv => whnf)))
        (refine .inl ⟨_, hL, ?_⟩; ((conv => whnf); repeat (refine And.intro rfl ?_; (conv => whnf))))
        exact .refl _
      · ((conv => whnf); repeat (refine And.intro rfl ?_; (conv => whnf)))
        exact .refl _
  · ((conv => whnf); repeat (refine And.intro rfl ?_; (conv => whnf)))
    rw [List.length_map]
    cases g2 : decide ((stem.length : Int) ≤ 60000)
    · ((conv => whnf); repeat (refine And.intro rfl ?_; (conv => whnf)))
      rw [List.length_map]
      cases g3 : decide ((loop.length : Int) > 1000)
      · ((conv => whnf); repeat (refine And.intro rfl ?_; (conv => whnf)))
        (refine .inl ⟨_, hA, ?_⟩; ((conv => whnf); repeat (refine And.intro rfl ?_; (conv => whnf))))
        (refine .inl ⟨_, hB, ?_⟩; ((conv => whnf); repeat (refine And.intro rfl ?_; (conv => whnf))))
        rw [hee]
        ((conv => whnf); repeat (refine And.intro rfl ?_; (conv => whnf)))
        (refine .inl ⟨_, hL, ?_⟩; ((conv => whnf); repeat (refine And.intro rfl ?_; (conv => whnf))))
        exact .refl _
      · ((conv => whnf); repeat (refine And.intro rfl ?_; (conv => whnf)))
        rw [List.length_map]
        cases g4 : decide ((loop.length : Int) ≤ 60000)
        · ((conv => whnf); repeat (refine And.intro rfl ?_; (conv => whnf)))
          (refine .inl ⟨_, hA, ?_⟩; ((conv => whnf); repeat (refine And.intro rfl ?_; (conv => whnf))))
          (refine .inl ⟨_, hB, ?_⟩; ((conv => whnf); repeat (refine And.intro rfl ?_; (conv => whnf))))
          rw [hee]
          ((conv => whnf); repeat (refine And.intro rfl ?_; (conv => whnf)))
          (refine .inl ⟨_, hL, ?_⟩; ((conv => whnf); repeat (refine And.intro rfl ?_; (conv => whnf))))
          exact .refl _
        · ((conv => whnf); repeat (refine And.intro rfl ?_; (conv => whnf)))
          exact .refl _
    · ((conv => whnf); repeat (refine And.intro rfl ?_; (conv => whnf)))
      exact .refl _
namespace replaySays
set_option maxRecDepth 100000 in
theorem law : ∀ Ds, OfAs Try.prog [25, 28] Ds → PCall Try.prog 3 Ds (dbool true)
  | [d, e], h => by
    obtain ⟨P, rfl, hP⟩ := argProc h.1
    obtain ⟨h1, h2, _⟩ := h
    unfold OfA at h2
    rw [Try.underlying28] at h2
    obtain ⟨cs, rfl, h2⟩ := h2
    have k1 := of_struct Try.underlying28 h2
    simp only [List.map_cons, List.map_nil] at k1
    obtain ⟨b, r, rfl, k2⟩ := ofTs_bool Try.underlying4 k1
    obtain ⟨xs, r, rfl, hz1, hx1, k3⟩ := ofTs_slice Try.underlying26 k2
    obtain ⟨ys, r, rfl, hz2, hx2, k4⟩ := ofTs_slice Try.underlying26 k3
    obtain rfl := ofTs_nil k4
    obtain ⟨stem, rfl, _⟩ := of_cells (f := fun n : Int => .int .i64 n) (ok := fun _ => True) (fun cs h => by obtain ⟨n, e, _⟩ := of_int Try.underlying3 h; exact ⟨n, e, trivial⟩) hx1
    obtain ⟨loop, rfl, _⟩ := of_cells (f := fun n : Int => .int .i64 n) (ok := fun _ => True) (fun cs h => by obtain ⟨n, e, _⟩ := of_int Try.underlying3 h; exact ⟨n, e, trivial⟩) hx2
    rw [show Try.prog.cellsOf 3 = 1 by kernel_rfl]
    exact law_ReplaySays P hP b stem loop (by simpa using hz1) (by simpa using hz2)
theorem types : typesOK Try.prog [25, 28, 22, 23, 4, 26, 52, 50, 3, 9] = true := by kernel_rfl
set_option maxRecDepth 100000 in
theorem laidOut : laidOutB Try.prog = true := by kernel_rfl
set_option maxRecDepth 100000 in
theorem readable : (Try.f3.params.toList.all fun t => Try.prog.readableRec t && decide (t < Try.prog.types.size)) = true := by kernel_rfl
theorem own : ownKnob Try.prog.godebug = none := by kernel_rfl
set_option maxRecDepth 100000 in
theorem lifted (os : Os) (started : os.Started) (H : Type) (enc : TypeId × Value → H) :
    ReturnsInHanded {} Try.checked os 3 .any (Rows.replaySaysSpec.pre6 enc Try.prog Try.f3 Rows.replaySaysRow.domain false) (Rows.replaySaysSpec.post enc Try.prog Try.f3 false true false false) := by
  refine returnsInHanded_of_change_sized (C := Try.checked) own started (by kernel_rfl) Try.func3
    (ChangeSpec.witness6 (enc := enc) (C := Try.checked) false ⟨#[], #[.agg #[.slice none 0 0, .slice none 0 0], .agg #[.bool false, .slice none 0 0, .slice none 0 0]], []⟩ 8 (by kernel_rfl) (by kernel_rfl) (by kernel_rfl) (by kernel_rfl)) ?_
  intro W base args ds gs before hval0 hW _ hsz _
  have hval : ∀ (j : Nat) t v, Try.f3.params[j]? = some t → args[j]? = some v → Value.okWide Try.prog W .any base t v := hval0
  have hW' := hW
  obtain ⟨p, q, hA0, hV, _, hfz, hnd⟩ := hW
  have hA : DataW.TrodAll enc Try.prog W 0 (fun _ => true) true Try.f3.params.toList args.toList ds p := hA0
  have hps : Try.f3.params.toList = [25, 28] := by kernel_rfl
  obtain ⟨Ds, hD, hR⟩ := args_rep types (base := base) _ _ _ _ (fun t ht => by rw [hps] at ht; revert t; decide) (fun j t v h1 h2 => hval j t v (by simpa using h1) (by simpa using h2)) hA fun n hn => by
    have := List.all_eq_true.1 hsz n (weightsEach_pre _ _ _ _ (trodAll_len _ _ _ _ hA).symm n hn)
    simpa using this
  rw [hps] at hD
  have hC := (law Ds hD).run noInj (There W) W args.toList (fun b h => h) hR
  rw [show args.toList.toArray = args from rfl] at hC
  refine hC.mono fun e W' ⟨v, F', he, _, hv, hx⟩ => ?_
  have hv' : v = .bool true := by simpa only [rep, dbool] using hv
  subst he hv'
  exact ⟨_, rfl, row_post hW' rfl (by kernel_rfl) Try.underlying4 laidOut (fun t ht => by
      have := List.all_eq_true.1 readable t ht
      simp only [Bool.and_eq_true, decide_eq_true_eq] at this
      exact this) (fun ds h => by rw [hps] at h; match ds, h with | [_, _], _ => rfl) (below_of_ext hx) (ok_one (by kernel_rfl) rfl (okWide_bool_mk Try.underlying4 _))⟩

theorem over : Rows.replaySaysRow.holds Try.pinned (OpenSpec.ofChange Rows.replaySaysSpec) :=
  OpenClaim.holds_of_wide 3 Try.f3 rfl rfl rfl rfl rfl rfl rfl ⟨rfl, rfl, rfl, rfl, rfl⟩ rfl rfl rfl rfl rfl (by kernel_rfl) Try.func3 (by kernel_rfl)
    (of_decide_eq_true (by kernel_rfl)) (by unfold Func.isWrapper; first | (rw [if_pos (by decide +kernel)]; kernel_rfl) | (rw [if_neg (by decide +kernel)]; exact ⟨rfl, rfl⟩))
    (fun os started H enc _ => lifted os started H enc)

theorem proved : Rows.ReplaySaysSaid := over
end replaySays
end Go.Proofs.Yteckcflliaecpaa
