/-
  watchlaw.SccWays returns true for every graph, all nodes from which one begins and all marks of nodes, and each argument reads afterwards as it read before. No conditions.
-/
import Derived.Test.YtjagpdmiffmjhaaDC
import Derived.Test.YtjagpdmiffmjhaaAg
import Derived.Test.YtjagpdmiffmjhaaWz
import Derived.Test.YtjagpdmiffmjhaaRows
namespace Go.Proofs.Ytjagpdmiffmjhaa
open Go.RowKit Go.ChangeShapes Go.WideShapes Go.ChangeAt
set_option linter.unusedSimpArgs false
set_option linter.unusedVariables false
def c3 : PC := .seq (.ops [⟨(some 6), .move (.const (.bool false)), none, 0⟩] false) (.seq (.ops [⟨(some 13), .move (.tmp 0), none, 0⟩,
    ⟨(some 14), .call 4 [(.tmp 13)], none, 0⟩,
    ⟨(some 7), .move (.tmp 14), none, 0⟩] false) (.seq (.seq (.ops [⟨(some 15), .move (.tmp 7), none, 0⟩,
    ⟨(some 16), .bin .eql (.tmp 15) (.const (.int .i64 0)), none, 0⟩,
    ⟨(some 17), .move (.tmp 16), none, 0⟩,
    ⟨(some 18), .move (.tmp 1), (some (17, true)), 0⟩,
    ⟨(some 19), .move (.tmp 0), (some (17, true)), 0⟩,
    ⟨(some 20), .len (.tmp 19), (some (17, true)), 0⟩,
    ⟨(some 21), .call 5 [(.tmp 18), (.tmp 20)], (some (17, true)), 0⟩,
    ⟨(some 22), .un .not (.tmp 21), (some (17, true)), 0⟩,
    ⟨(some 23), .move (.tmp 22), (some (17, true)), 0⟩,
    ⟨(some 24), .move (.tmp 2), (some (23, false)), 0⟩,
    ⟨(some 25), .len (.tmp 24), (some (23, false)), 0⟩,
    ⟨(some 26), .move (.tmp 0), (some (23, false)), 0⟩,
    ⟨(some 27), .len (.tmp 26), (some (23, false)), 0⟩,
    ⟨(some 28), .bin .neq (.tmp 25) (.tmp 27), (some (23, false)), 0⟩,
    ⟨(some 29), .pick (.tmp 23) (.const (.bool true)) (.tmp 28), (some (17, true)), 0⟩,
    ⟨(some 30), .pick (.tmp 17) (.tmp 29) (.const (.bool false)), none, 0⟩] false) (.cond (.tmp 30) (.ops [⟨(some 7), .move (.const (.int .i64 1)), none, 0⟩] false) (.skip))) (.seq (.ops [⟨(some 32), .move (.tmp 0), none, 0⟩,
    ⟨(some 33), .move (.tmp 1), none, 0⟩,
    ⟨(some 34), .move (.tmp 2), none, 0⟩,
    ⟨(some 35), .call 6 [(.tmp 32), (.tmp 33), (.tmp 34)], none, 0⟩,
    ⟨(some 31), .move (.tmp 35), none, 0⟩,
    ⟨(some 36), .ext 0 (.tmp 31), none, 0⟩,
    ⟨(some 37), .ext 1 (.tmp 31), none, 0⟩,
    ⟨(some 38), .ext 2 (.tmp 31), none, 0⟩,
    ⟨(some 8), .move (.tmp 36), none, 0⟩,
    ⟨(some 9), .move (.tmp 37), none, 0⟩,
    ⟨(some 10), .move (.tmp 38), none, 0⟩] false) (.seq (.seq (.ops [⟨(some 39), .move (.tmp 7), none, 0⟩,
    ⟨(some 40), .bin .neq (.tmp 39) (.const (.int .i64 0)), none, 0⟩] false) (.cond (.tmp 40) (.seq (.ops [⟨(some 41), .move (.tmp 10), none, 0⟩,
    ⟨(some 42), .move (.tmp 7), none, 0⟩,
    ⟨(some 43), .bin .eql (.tmp 41) (.tmp 42), none, 0⟩,
    ⟨(some 44), .move (.tmp 43), none, 0⟩,
    ⟨(some 45), .move (.tmp 8), (some (44, true)), 0⟩,
    ⟨(some 46), .len (.tmp 45), (some (44, true)), 0⟩,
    ⟨(some 47), .bin .eql (.tmp 46) (.const (.int .i64 0)), (some (44, true)), 0⟩,
    ⟨(some 48), .pick (.tmp 44) (.tmp 47) (.const (.bool false)), none, 0⟩,
    ⟨(some 49), .move (.tmp 48), none, 0⟩,
    ⟨(some 50), .move (.tmp 9), (some (49, true)), 0⟩,
    ⟨(some 51), .un .not (.tmp 50), (some (49, true)), 0⟩,
    ⟨(some 52), .pick (.tmp 49) (.tmp 51) (.const (.bool false)), none, 0⟩,
    ⟨(some 6), .move (.tmp 52), none, 0⟩] false) (.ret)) (.skip))) (.seq (.seq (.ops [⟨(some 53), .move (.tmp 0), none, 0⟩,
    ⟨(some 54), .len (.tmp 53), none, 0⟩,
    ⟨(some 55), .bin .gtr (.tmp 54) (.const (.int .i64 300)), none, 0⟩] false) (.cond (.tmp 55) (.seq (.ops [⟨(some 56), .move (.tmp 10), none, 0⟩,
    ⟨(some 57), .bin .eql (.tmp 56) (.const (.int .i64 0)), none, 0⟩,
    ⟨(some 6), .move (.tmp 57), none, 0⟩] false) (.ret)) (.skip))) (.seq (.ops [⟨(some 59), .move (.tmp 0), none, 0⟩,
    ⟨(some 60), .move (.tmp 1), none, 0⟩,
    ⟨(some 61), .move (.tmp 2), none, 0⟩,
    ⟨(some 62), .call 7 [(.tmp 59), (.tmp 60), (.tmp 61)], none, 0⟩,
    ⟨(some 58), .move (.tmp 62), none, 0⟩,
    ⟨(some 63), .ext 0 (.tmp 58), none, 0⟩,
    ⟨(some 64), .ext 1 (.tmp 58), none, 0⟩,
    ⟨(some 11), .move (.tmp 63), none, 0⟩,
    ⟨(some 12), .move (.tmp 64), none, 0⟩] false) (.seq (.ops [⟨(some 65), .move (.tmp 10), none, 0⟩,
    ⟨(some 66), .bin .eql (.tmp 65) (.const (.int .i64 0)), none, 0⟩,
    ⟨(some 67), .move (.tmp 66), none, 0⟩,
    ⟨(some 68), .move (.tmp 9), (some (67, true)), 0⟩,
    ⟨(some 69), .move (.tmp 12), (some (67, true)), 0⟩,
    ⟨(some 70), .eqb false (.tmp 68) (.tmp 69), (some (67, true)), 0⟩,
    ⟨(some 71), .pick (.tmp 67) (.tmp 70) (.const (.bool false)), none, 0⟩,
    ⟨(some 72), .move (.tmp 71), none, 0⟩,
    ⟨(some 73), .move (.tmp 8), (some (72, true)), 0⟩,
    ⟨(some 74), .move (.tmp 11), (some (72, true)), 0⟩,
    ⟨(some 75), .call 8 [(.tmp 73), (.tmp 74)], (some (72, true)), 0⟩,
    ⟨(some 76), .pick (.tmp 72) (.tmp 75) (.const (.bool false)), none, 0⟩,
    ⟨(some 6), .move (.tmp 76), none, 0⟩] false) (.ret))))))))
set_option maxRecDepth 100000 in
theorem c3_ok : FunOK Try.prog 3 77 [.tmp 6] c3 := ⟨⟨Try.f3, Try.func3, rfl, by kernel_rfl, rfl, by kernel_rfl⟩⟩
set_option maxRecDepth 100000 in
theorem law_SccWays (g : List (List Int)) (hF : FitsG g) (from_ : List Int) (hfl : from_.length ≤ 17592186043904) (m : Nat) (to : Nat → Bool) (hto : ∀ i, m ≤ i → to i = false) : PCall Try.prog 3 [dgrid g, dints from_, dbl m to] (dbool true) := by
  refine pcall_intro c3_ok (by simp) (by simp [PureL, Pure, pure_dgrid, pure_dints, pure_dbl]) ?_ (by simp [dbool, Pure])
  have b1 := hF.len
  (apply red_sound; focus (repeat' (first | exact Red.skip | exact Red.ret | exact RedO.nil | exact RedD.nil | exact Red.exit _ | exact Red.loop _ | exact Red.stop _ | apply Red.ops | apply Red.draw | apply Red.seq | apply Red.cond | apply Red.block | apply RedO.cons | apply RedD.cons | exact (0 : Nat))))
  ((conv => whnf); repeat (refine And.intro rfl ?_; (conv => whnf)))
  (refine .inl ⟨_, (ref_Graph g hF), ?_⟩; ((conv => whnf); repeat (refine And.intro rfl ?_; (conv => whnf))))
  by_cases h1 : chkG g = 0
  · rw [h1]
    ((conv => whnf); repeat (refine And.intro rfl ?_; (conv => whnf)))
    rw [List.length_map]
    (refine .inl ⟨_, (ref_In from_ (by omega) g.length), ?_⟩; ((conv => whnf); repeat (refine And.intro rfl ?_; (conv => whnf))))
    cases h2 : inB from_ g.length
    · ((conv => whnf); repeat (refine And.intro rfl ?_; (conv => whnf)))
      have hbad : inB from_ g.length = false ∨ m ≠ g.length := .inl h2
      (refine .inl ⟨_, (scc_Way_arg g h1 hF from_ (by omega) m to hbad), ?_⟩; ((conv => whnf); repeat (refine And.intro rfl ?_; (conv => whnf))))
      exact .refl _
    · ((conv => whnf); repeat (refine And.intro rfl ?_; (conv => whnf)))
      rw [rbl_len, List.length_map]
      (refine ifK_split (fun h3 => ?_) (fun h3 => ?_) <;> (rw [h3]; ((conv => whnf); repeat (refine And.intro rfl ?_; (conv => whnf)))))
      · have hbad : inB from_ g.length = false ∨ m ≠ g.length := .inr (by ((try simp only [bne_iff_ne, ne_eq, bne_eq_false_iff_eq, beq_iff_eq, beq_eq_false_iff_ne, decide_eq_true_eq, decide_eq_false_iff_not, List.length_map, Bool.not_eq_true, Bool.not_eq_false, Bool.and_eq_true, Bool.or_eq_true, Bool.and_eq_false_iff, Bool.or_eq_false_iff, Bool.not_eq_true', Bool.not_eq_false', Bool.not_true, Bool.not_false, Bool.not_eq_eq_eq_not, not_true_eq_false, not_false_eq_true, reduceCtorEq, Bool.true_or, Bool.false_or, Bool.or_true, Bool.or_false, Bool.true_and, Bool.and_true, Bool.false_and, Bool.and_false, true_and, and_true, or_false, false_or, true_or, or_true, false_and, and_false, Bool.true_eq_false, Bool.false_eq_true] at *) <;> omega))
        (refine .inl ⟨_, (scc_Way_arg g h1 hF from_ (by omega) m to hbad), ?_⟩; ((conv => whnf); repeat (refine And.intro rfl ?_; (conv => whnf))))
        exact .refl _
      · have h3 : m = g.length := by ((try simp only [bne_iff_ne, ne_eq, bne_eq_false_iff_eq, beq_iff_eq, beq_eq_false_iff_ne, decide_eq_true_eq, decide_eq_false_iff_not, List.length_map, Bool.not_eq_true, Bool.not_eq_false, Bool.and_eq_true, Bool.or_eq_true, Bool.and_eq_false_iff, Bool.or_eq_false_iff, Bool.not_eq_true', Bool.not_eq_false', Bool.not_true, Bool.not_false, Bool.not_eq_eq_eq_not, not_true_eq_false, not_false_eq_true, reduceCtorEq, Bool.true_or, Bool.false_or, Bool.or_true, Bool.or_false, Bool.true_and, Bool.and_true, Bool.false_and, Bool.and_false, true_and, and_true, or_false, false_or, true_or, or_true, false_and, and_false, Bool.true_eq_false, Bool.false_eq_true] at *) <;> omega)
        subst h3
        (refine .inl ⟨_, (scc_Way g h1 hF from_ h2 (by omega) to hto), ?_⟩; ((conv => whnf); repeat (refine And.intro rfl ?_; (conv => whnf))))
        rw [List.length_map]
        (refine ifK_split (fun h4 => ?_) (fun h4 => ?_) <;> (rw [h4]; ((conv => whnf); repeat (refine And.intro rfl ?_; (conv => whnf)))))
        · exact .refl _
        (refine .inl ⟨_, (ref_Way g h1 hF from_ h2 (by omega) to hto), ?_⟩; ((conv => whnf); repeat (refine And.intro rfl ?_; (conv => whnf))))
        have hb : (decide (0 ≤ wayS g from_ to) == decide (0 ≤ wayS g from_ to)) = true := by simp
        rw [hb]
        ((conv => whnf); repeat (refine And.intro rfl ?_; (conv => whnf)))
        have hl : (wayL g from_ to).length ≤ 20001 := by
          unfold wayL
          split
          · rename_i q
            rw [walkW_len]
            obtain ⟨s1, s2⟩ := start_ok h2 q
            obtain ⟨c1, c2⟩ := chkG_zero.1 h1
            have := dis_lt c2 (to := to) (n := (wayS g from_ to).toNat) (by omega)
            omega
          · simp
        (refine .inl ⟨_, (equal_int (wayL g from_ to) (wayL g from_ to) (by omega)), ?_⟩; ((conv => whnf); repeat (refine And.intro rfl ?_; (conv => whnf))))
        rw [decide_eq_true rfl]
        exact .refl _
  · have hb : (chkG g == 0) = false := by simp [h1]
    rw [hb]
    ((conv => whnf); repeat (refine And.intro rfl ?_; (conv => whnf)))
    (refine .inl ⟨_, (scc_Way_bad g h1 hF from_ m to), ?_⟩; ((conv => whnf); repeat (refine And.intro rfl ?_; (conv => whnf))))
    have hb2 : (chkG g != 0) = true := by simp [h1]
    rw [hb2]
    ((conv => whnf); repeat (refine And.intro rfl ?_; (conv => whnf)))
    have hb3 : (chkG g == chkG g) = true := by simp
    rw [hb3]
    ((conv => whnf); repeat (refine And.intro rfl ?_; (conv => whnf)))
    exact .refl _
namespace sccWays
set_option maxRecDepth 100000 in
theorem law : ∀ Ds, OfAs Try.prog [22, 23, 24] Ds → PCall Try.prog 3 Ds (dbool true)
  | [a, b, c], h => by
    obtain ⟨g, rfl, hF⟩ := argGridB Try.underlying22 Try.underlying23 Try.underlying3 (by kernel_rfl) (by kernel_rfl) (by kernel_rfl) (of_decide_eq_true (by kernel_rfl)) h.1
    obtain ⟨l, rfl, hl⟩ := argIntsB Try.underlying23 Try.underlying3 (by kernel_rfl) (by kernel_rfl) h.2.1
    obtain ⟨n, to, rfl, hn, hto⟩ := argTruths Try.underlying24 Try.underlying4 (by kernel_rfl) h.2.2.1
    exact law_SccWays g hF l hl n to hto
theorem types : typesOK Try.prog [22, 23, 24, 3, 4] = true := by kernel_rfl
set_option maxRecDepth 100000 in
theorem laidOut : laidOutB Try.prog = true := by kernel_rfl
set_option maxRecDepth 100000 in
theorem readable : (Try.f3.params.toList.all fun t => Try.prog.readableRec t && decide (t < Try.prog.types.size)) = true := by kernel_rfl
theorem own : ownKnob Try.prog.godebug = none := by kernel_rfl
set_option maxRecDepth 100000 in
theorem lifted (os : Os) (started : os.Started) (H : Type) (enc : TypeId × Value → H) :
    ReturnsInHanded {} Try.checked os 3 .any (Rows.sccWaysSpec.pre6 enc Try.prog Try.f3 Rows.sccWaysRow.domain false) (Rows.sccWaysSpec.post enc Try.prog Try.f3 false true false false) := by
  refine returnsInHanded_of_change_sized (C := Try.checked) own started (by kernel_rfl) Try.func3
    (ChangeSpec.witness6 (enc := enc) (C := Try.checked) false ⟨#[], #[.slice none 0 0, .slice none 0 0, .slice none 0 0], []⟩ 8 (by kernel_rfl) (by kernel_rfl) (by kernel_rfl) (by kernel_rfl)) ?_
  intro W base args ds gs before hval0 hW _ hsz _
  have hval : ∀ (j : Nat) t v, Try.f3.params[j]? = some t → args[j]? = some v → Value.okWide Try.prog W .any base t v := hval0
  have hW' := hW
  obtain ⟨p, q, hA0, hV, _, hfz, hnd⟩ := hW
  have hA : DataW.TrodAll enc Try.prog W 0 (fun _ => true) true Try.f3.params.toList args.toList ds p := hA0
  have hps : Try.f3.params.toList = [22, 23, 24] := by kernel_rfl
  obtain ⟨Ds, hD, hR⟩ := args_rep types (base := base) _ _ _ _ (fun t ht => by rw [hps] at ht; revert t; decide) (fun j t v h1 h2 => hval j t v (by simpa using h1) (by simpa using h2)) hA fun n hn => by
    have := List.all_eq_true.1 hsz n (weightsEach_pre _ _ _ _ (trodAll_len _ _ _ _ hA).symm n hn)
    simpa using this
  rw [hps] at hD
  have hC := (law Ds hD).run noInj (There W) W args.toList (fun b h => h) hR
  rw [show args.toList.toArray = args from rfl] at hC
  refine hC.mono fun e W' ⟨v, F', he, _, hv, hx⟩ => ?_
  have hv' : v = .bool true := by simpa only [rep, dbool] using hv
  subst he hv'
  exact ⟨_, rfl, row_post hW' rfl (by kernel_rfl) Try.underlying4 laidOut (fun t ht => by
      have := List.all_eq_true.1 readable t ht
      simp only [Bool.and_eq_true, decide_eq_true_eq] at this
      exact this) (fun ds h => by rw [hps] at h; match ds, h with | [_, _, _], _ => rfl) (below_of_ext hx) (ok_one (by kernel_rfl) rfl (okWide_bool_mk Try.underlying4 _))⟩

theorem over : Rows.sccWaysRow.holds Try.pinned (OpenSpec.ofChange Rows.sccWaysSpec) :=
  OpenClaim.holds_of_wide 3 Try.f3 rfl rfl rfl rfl rfl rfl rfl ⟨rfl, rfl, rfl, rfl, rfl⟩ rfl rfl rfl rfl rfl (by kernel_rfl) Try.func3 (by kernel_rfl)
    (of_decide_eq_true (by kernel_rfl)) (by unfold Func.isWrapper; first | (rw [if_pos (by decide +kernel)]; kernel_rfl) | (rw [if_neg (by decide +kernel)]; exact ⟨rfl, rfl⟩))
    (fun os started H enc _ => lifted os started H enc)

theorem proved : Rows.SccWaysSaid := over
end sccWays
end Go.Proofs.Ytjagpdmiffmjhaa
