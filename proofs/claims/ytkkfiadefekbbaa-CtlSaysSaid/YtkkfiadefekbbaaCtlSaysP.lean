/-
  watchlaw.CtlSays returns true for every formula and all names, and each argument reads afterwards as it read before. No conditions.
-/
import Derived.Test.YtkkfiadefekbbaaDC
import Derived.Test.YtkkfiadefekbbaaAt
import Derived.Test.YtkkfiadefekbbaaTc
import Derived.Test.YtkkfiadefekbbaaRl
import Derived.Test.YtkkfiadefekbbaaRows
namespace Go.Proofs.Ytkkfiadefekbbaa
open Go.RowKit Go.ChangeShapes Go.WideShapes Go.ChangeAt
set_option linter.unusedSimpArgs false
def c8 : PC := .seq (.ops [⟨(some 2), .box (.tmp 0), none, 0⟩,
    ⟨(some 4), .move (.const (.bool false)), none, 0⟩] false) (.seq (.ops [⟨(some 10), .loadA 3 (.tmp 2), none, 0⟩,
    ⟨(some 11), .call 34 [(.tmp 10)], none, 0⟩,
    ⟨(some 5), .move (.tmp 11), none, 0⟩] false) (.seq (.ops [⟨(some 13), .loadA 3 (.tmp 2), none, 0⟩,
    ⟨(some 14), .move (.tmp 1), none, 0⟩,
    ⟨(some 15), .call 35 [(.tmp 13), (.tmp 14)], none, 0⟩,
    ⟨(some 12), .move (.tmp 15), none, 0⟩,
    ⟨(some 16), .ext 0 (.tmp 12), none, 0⟩,
    ⟨(some 17), .ext 1 (.tmp 12), none, 0⟩,
    ⟨(some 6), .move (.tmp 16), none, 0⟩,
    ⟨(some 7), .move (.tmp 17), none, 0⟩] false) (.seq (.seq (.ops [⟨(some 18), .loadA 3 (.tmp 2), none, 0⟩,
    ⟨(some 19), .call 36 [(.tmp 18)], none, 0⟩,
    ⟨(some 20), .move (.tmp 5), none, 0⟩,
    ⟨(some 21), .bin .neq (.tmp 19) (.tmp 20), none, 0⟩] false) (.cond (.tmp 21) (.seq (.ops [⟨(some 4), .move (.const (.bool false)), none, 0⟩] false) (.ret)) (.skip))) (.seq (.seq (.ops [⟨(some 22), .move (.tmp 5), none, 0⟩,
    ⟨(some 23), .bin .neq (.tmp 22) (.const (.int .i64 0)), none, 0⟩] false) (.cond (.tmp 23) (.seq (.ops [⟨(some 24), .move (.tmp 6), none, 0⟩,
    ⟨(some 25), .bin .eql (.tmp 24) (.const (.string ⟨#[]⟩)), none, 0⟩,
    ⟨(some 26), .move (.tmp 25), none, 0⟩,
    ⟨(some 27), .move (.tmp 7), (some (26, true)), 0⟩,
    ⟨(some 28), .move (.tmp 5), (some (26, true)), 0⟩,
    ⟨(some 29), .bin .eql (.tmp 27) (.tmp 28), (some (26, true)), 0⟩,
    ⟨(some 30), .pick (.tmp 26) (.tmp 29) (.const (.bool false)), none, 0⟩,
    ⟨(some 4), .move (.tmp 30), none, 0⟩] false) (.ret)) (.skip))) (.seq (.ops [⟨(some 32), .loadA 3 (.tmp 2), none, 0⟩,
    ⟨(some 33), .move (.tmp 1), none, 0⟩,
    ⟨(some 34), .call 37 [(.tmp 32), (.tmp 33)], none, 0⟩,
    ⟨(some 31), .move (.tmp 34), none, 0⟩,
    ⟨(some 35), .ext 0 (.tmp 31), none, 0⟩,
    ⟨(some 36), .ext 1 (.tmp 31), none, 0⟩,
    ⟨(some 8), .move (.tmp 35), none, 0⟩,
    ⟨(some 9), .move (.tmp 36), none, 0⟩] false) (.seq (.seq (.ops [⟨(some 37), .move (.tmp 9), none, 0⟩,
    ⟨(some 38), .un .not (.tmp 37), none, 0⟩] false) (.cond (.tmp 38) (.seq (.ops [⟨(some 39), .move (.tmp 6), none, 0⟩,
    ⟨(some 40), .bin .eql (.tmp 39) (.const (.string ⟨#[]⟩)), none, 0⟩,
    ⟨(some 41), .move (.tmp 40), none, 0⟩,
    ⟨(some 42), .move (.tmp 7), (some (41, true)), 0⟩,
    ⟨(some 43), .bin .eql (.tmp 42) (.const (.int .i64 4)), (some (41, true)), 0⟩,
    ⟨(some 44), .pick (.tmp 41) (.tmp 43) (.const (.bool false)), none, 0⟩,
    ⟨(some 4), .move (.tmp 44), none, 0⟩] false) (.ret)) (.skip))) (.seq (.ops [⟨(some 45), .move (.tmp 6), none, 0⟩,
    ⟨(some 46), .move (.tmp 8), none, 0⟩,
    ⟨(some 47), .bin .eql (.tmp 45) (.tmp 46), none, 0⟩,
    ⟨(some 48), .move (.tmp 47), none, 0⟩,
    ⟨(some 49), .move (.tmp 7), (some (48, true)), 0⟩,
    ⟨(some 50), .bin .eql (.tmp 49) (.const (.int .i64 0)), (some (48, true)), 0⟩,
    ⟨(some 51), .pick (.tmp 48) (.tmp 50) (.const (.bool false)), none, 0⟩,
    ⟨(some 4), .move (.tmp 51), none, 0⟩] false) (.ret))))))))
set_option maxRecDepth 100000 in
theorem c8_ok : FunOK Try.prog 8 52 [.tmp 4] c8 := ⟨⟨Try.f8, Try.func8, rfl, by kernel_rfl, rfl, by kernel_rfl⟩⟩
theorem law_CtlSays (t : Tree) (hs : Small t) (names : List ByteArray) (hn : SmallS names) : PCall Try.prog 8 [dtree t, dstrs names] (dbool true) := by
  have hP := ctl_Print names hn t hs
  unfold printedC at hP
  refine pcall_intro c8_ok (by simp) (by simp [PureL, pure_dtree, pure_dstrs]) ?_ (by simp [dbool, Pure])
  (apply red_sound; focus (repeat' (first | exact Red.skip | exact Red.ret | exact RedO.nil | exact RedD.nil | exact Red.exit _ | exact Red.loop _ | exact Red.stop _ | apply Red.ops | apply Red.draw | apply Red.seq | apply Red.cond | apply Red.block | apply RedO.cons | apply RedD.cons | exact (0 : Nat))))
  ((conv => whnf); repeat (refine And.intro rfl ?_; (conv => whnf)))
  (refine .inl ⟨_, (ref_Ctl t hs), ?_⟩; ((conv => whnf); repeat (refine And.intro rfl ?_; (conv => whnf))))
  by_cases h0 : chk cKids t = 0
  · rw [if_pos h0] at hP
    have hz := (chk_zero _ _).1 h0
    have hT := ref_CtlText names hn t hz.2.2 hz.1
    unfold saidC at hT
    cases hk : okN names t
    · rw [hk] at hP hT
      simp only [Bool.false_eq_true, if_false] at hP hT
      (refine .inl ⟨_, hP, ?_⟩; ((conv => whnf); repeat (refine And.intro rfl ?_; (conv => whnf))))
      (refine .inl ⟨_, (ctl_Check t hs), ?_⟩; ((conv => whnf); repeat (refine And.intro rfl ?_; (conv => whnf))))
      repeat' (first | (refine ifK_split (fun h => ?_) (fun h => ?_) <;> (rw [h]; ((conv => whnf); repeat (refine And.intro rfl ?_; (conv => whnf))))) | (exfalso; ((try simp only [bne_iff_ne, ne_eq, bne_eq_false_iff_eq, beq_iff_eq, beq_eq_false_iff_ne, decide_eq_true_eq, decide_eq_false_iff_not, List.length_map, Bool.not_eq_true, Bool.not_eq_false, Bool.and_eq_true, Bool.or_eq_true, Bool.and_eq_false_iff, Bool.or_eq_false_iff, Bool.not_eq_true', Bool.not_eq_false', Bool.not_true, Bool.not_false, Bool.not_eq_eq_eq_not, not_true_eq_false, not_false_eq_true, reduceCtorEq, Bool.true_or, Bool.false_or, Bool.or_true, Bool.or_false, Bool.true_and, Bool.and_true, Bool.false_and, Bool.and_false, true_and, and_true, or_false, false_or, true_or, or_true, false_and, and_false, Bool.true_eq_false, Bool.false_eq_true] at *) <;> omega)))
      (refine .inl ⟨_, hT, ?_⟩; ((conv => whnf); repeat (refine And.intro rfl ?_; (conv => whnf))))
      repeat' (first | (refine ifK_split (fun h => ?_) (fun h => ?_) <;> (rw [h]; ((conv => whnf); repeat (refine And.intro rfl ?_; (conv => whnf))))) | exact deep_eq rfl | (exfalso; simp_all))
    · rw [hk] at hP hT
      simp only [if_true] at hP hT
      (refine .inl ⟨_, hP, ?_⟩; ((conv => whnf); repeat (refine And.intro rfl ?_; (conv => whnf))))
      (refine .inl ⟨_, (ctl_Check t hs), ?_⟩; ((conv => whnf); repeat (refine And.intro rfl ?_; (conv => whnf))))
      repeat' (first | (refine ifK_split (fun h => ?_) (fun h => ?_) <;> (rw [h]; ((conv => whnf); repeat (refine And.intro rfl ?_; (conv => whnf))))) | (exfalso; ((try simp only [bne_iff_ne, ne_eq, bne_eq_false_iff_eq, beq_iff_eq, beq_eq_false_iff_ne, decide_eq_true_eq, decide_eq_false_iff_not, List.length_map, Bool.not_eq_true, Bool.not_eq_false, Bool.and_eq_true, Bool.or_eq_true, Bool.and_eq_false_iff, Bool.or_eq_false_iff, Bool.not_eq_true', Bool.not_eq_false', Bool.not_true, Bool.not_false, Bool.not_eq_eq_eq_not, not_true_eq_false, not_false_eq_true, reduceCtorEq, Bool.true_or, Bool.false_or, Bool.or_true, Bool.or_false, Bool.true_and, Bool.and_true, Bool.false_and, Bool.and_false, true_and, and_true, or_false, false_or, true_or, or_true, false_and, and_false, Bool.true_eq_false, Bool.false_eq_true] at *) <;> omega)))
      (refine .inl ⟨_, hT, ?_⟩; ((conv => whnf); repeat (refine And.intro rfl ?_; (conv => whnf))))
      repeat' (first | (refine ifK_split (fun h => ?_) (fun h => ?_) <;> (rw [h]; ((conv => whnf); repeat (refine And.intro rfl ?_; (conv => whnf))))) | exact deep_eq rfl | (exfalso; simp_all))
  · rw [if_neg h0] at hP
    (refine .inl ⟨_, hP, ?_⟩; ((conv => whnf); repeat (refine And.intro rfl ?_; (conv => whnf))))
    (refine .inl ⟨_, (ctl_Check t hs), ?_⟩; ((conv => whnf); repeat (refine And.intro rfl ?_; (conv => whnf))))
    repeat' (first | (refine ifK_split (fun h => ?_) (fun h => ?_) <;> (rw [h]; ((conv => whnf); repeat (refine And.intro rfl ?_; (conv => whnf))))) | (exfalso; ((try simp only [bne_iff_ne, ne_eq, bne_eq_false_iff_eq, beq_iff_eq, beq_eq_false_iff_ne, decide_eq_true_eq, decide_eq_false_iff_not, List.length_map, Bool.not_eq_true, Bool.not_eq_false, Bool.and_eq_true, Bool.or_eq_true, Bool.and_eq_false_iff, Bool.or_eq_false_iff, Bool.not_eq_true', Bool.not_eq_false', Bool.not_true, Bool.not_false, Bool.not_eq_eq_eq_not, not_true_eq_false, not_false_eq_true, reduceCtorEq, Bool.true_or, Bool.false_or, Bool.or_true, Bool.or_false, Bool.true_and, Bool.and_true, Bool.false_and, Bool.and_false, true_and, and_true, or_false, false_or, true_or, or_true, false_and, and_false, Bool.true_eq_false, Bool.false_eq_true] at *) <;> omega)))
    exact deep_eq (by simp [dbool])
theorem argStrs {P : Program} {t e : TypeId} {d : D} (ht : P.underlying t = some (.slice e)) (he : P.underlying e = some .string) (hc : P.cellsOf e = 1) (h : OfA P t d) : ∃ l : List ByteArray, d = dstrs l ∧ SmallS l := by
  unfold OfA at h
  rw [ht] at h
  obtain ⟨xs, e1, hl, hx⟩ := of_slice ht h
  obtain ⟨l, rfl, hs⟩ := of_cells (f := fun s : ByteArray => .string s) (ok := fun s => s.size ≤ 9223372036854775807) (fun cs h => of_str he h) hx
  rw [hc] at e1
  cases e1
  exact ⟨l, rfl, by simpa using hl, hs⟩
namespace ctlSays
set_option maxRecDepth 100000 in
theorem law : ∀ Ds, OfAs Try.prog [63, 64] Ds → PCall Try.prog 8 Ds (dbool true)
  | [d, e], h => by
    obtain ⟨t, rfl, ht⟩ := argCtl h.1
    obtain ⟨l, rfl, hl⟩ := argStrs Try.underlying64 Try.underlying9 (by kernel_rfl) h.2.1
    exact law_CtlSays t ht l hl
theorem types : typesOK Try.prog [63, 64, 3, 61, 9] = true := by kernel_rfl
set_option maxRecDepth 100000 in
theorem laidOut : laidOutB Try.prog = true := by kernel_rfl
set_option maxRecDepth 100000 in
theorem readable : (Try.f8.params.toList.all fun t => Try.prog.readableRec t && decide (t < Try.prog.types.size)) = true := by kernel_rfl
theorem own : ownKnob Try.prog.godebug = none := by kernel_rfl
set_option maxRecDepth 100000 in
theorem lifted (os : Os) (started : os.Started) (H : Type) (enc : TypeId × Value → H) :
    ReturnsInHanded {} Try.checked os 8 .any (Rows.ctlSaysSpec.pre6 enc Try.prog Try.f8 Rows.ctlSaysRow.domain false) (Rows.ctlSaysSpec.post enc Try.prog Try.f8 false true false false) := by
  refine returnsInHanded_of_change (C := Try.checked) own started (by kernel_rfl) Try.func8
    (ChangeSpec.witness6 (enc := enc) (C := Try.checked) false ⟨#[], #[.agg #[.int .i64 0, .int .i64 0, .slice none 0 0], .slice none 0 0], []⟩ 8 (by kernel_rfl) (by kernel_rfl) (by kernel_rfl) (by kernel_rfl)) ?_
  intro W base args ds gs before hval0 hW _ _
  have hval : ∀ (j : Nat) t v, Try.f8.params[j]? = some t → args[j]? = some v → Value.okWide Try.prog W .any base t v := hval0
  have hW' := hW
  obtain ⟨p, q, hA0, hV, _, hfz, hnd⟩ := hW
  have hA : DataW.TrodAll enc Try.prog W 0 (fun _ => true) true Try.f8.params.toList args.toList ds p := hA0
  have hps : Try.f8.params.toList = [63, 64] := by kernel_rfl
  obtain ⟨Ds, hD, hR⟩ := args_rep types (base := base) _ _ _ _ (fun t ht => by rw [hps] at ht; revert t; decide) (fun j t v h1 h2 => hval j t v (by simpa using h1) (by simpa using h2)) hA
  rw [hps] at hD
  have hC := (law Ds hD).run noInj (There W) W args.toList (fun b h => h) hR
  rw [show args.toList.toArray = args from rfl] at hC
  refine hC.mono fun e W' ⟨v, F', he, _, hv, hx⟩ => ?_
  have hv' : v = .bool true := by simpa only [rep, dbool] using hv
  subst he hv'
  exact ⟨_, rfl, row_post hW' rfl (by kernel_rfl) Try.underlying4 laidOut (fun t ht => by
      have := List.all_eq_true.1 readable t ht
      simp only [Bool.and_eq_true, decide_eq_true_eq] at this
      exact this) (fun ds h => by rw [hps] at h; match ds, h with | [_, _], _ => rfl) (below_of_ext hx) (ok_one (by kernel_rfl) rfl (okWide_bool_mk Try.underlying4 _))⟩

theorem over : Rows.ctlSaysRow.holds Try.pinned (OpenSpec.ofChange Rows.ctlSaysSpec) :=
  OpenClaim.holds_of_wide 8 Try.f8 rfl rfl rfl rfl rfl rfl rfl ⟨rfl, rfl, rfl, rfl, rfl⟩ rfl rfl rfl rfl rfl (by kernel_rfl) Try.func8 (by kernel_rfl)
    (of_decide_eq_true (by kernel_rfl)) (by unfold Func.isWrapper; first | (rw [if_pos (by decide +kernel)]; kernel_rfl) | (rw [if_neg (by decide +kernel)]; exact ⟨rfl, rfl⟩))
    (fun os started H enc _ => lifted os started H enc)

theorem proved : Rows.CtlSaysSaid := over
end ctlSays
end Go.Proofs.Ytkkfiadefekbbaa
