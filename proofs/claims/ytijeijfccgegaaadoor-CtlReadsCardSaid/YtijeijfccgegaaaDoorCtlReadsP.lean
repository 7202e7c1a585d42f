/-
  watchlaw.CtlReads returns true for every text and all names, and each argument reads afterwards as it read before; the package variable errors.errorType holds what the program's text lays in it. No other conditions.
-/
import Derived.Test.YtijeijfccgegaaaDoorAt
import Derived.Test.YtijeijfccgegaaaDoorCr4
import Derived.Test.YtijeijfccgegaaaDoorRf5
import Derived.Test.YtijeijfccgegaaaDoorSa
import Derived.Test.YtijeijfccgegaaaDoorGw
import Derived.Test.YtijeijfccgegaaaDoorRows
import Derived.Test.YtijeijfccgegaaaDoorTie
import Derived.Test.YtijeijfccgegaaaDoorCards
import Derived.SevenTiedAt
namespace Go.Proofs.YtijeijfccgegaaaDoor
open Go.RowKit Go.ChangeShapes Go.WideShapes Go.ChangeAt
set_option linter.unusedSimpArgs false
def c3 : PC := .seq (.ops [q 4 (.move (.const (.bool false)))] false) (.seq (.ops [qm 12 0,qm 13 1,q 14 (.call 6 [(.tmp 12), (.tmp 13)]),qm 11 14,q 15 (.ext 0 (.tmp 11)),q 16 (.ext 1 (.tmp 11)),q 17 (.ext 2 (.tmp 11)),q 5 (.alloc [(.int .i64 0), (.int .i64 0), (.slice none 0 0)]),qn (.store 3 (.tmp 5) (.tmp 15)),qm 6 16,qm 7 17] false) (.seq (.ops [qm 19 0,qm 20 1,q 21 (.call 7 [(.tmp 19), (.tmp 20)]),qm 18 21,q 22 (.ext 0 (.tmp 18)),q 23 (.ext 1 (.tmp 18)),q 24 (.ext 2 (.tmp 18)),q 8 (.alloc [(.int .i64 0), (.int .i64 0), (.slice none 0 0)]),qn (.store 3 (.tmp 8) (.tmp 22)),qm 9 23,qm 10 24] false) (.seq (.ops [q 25 (.loadA 3 (.tmp 5)),q 26 (.loadA 3 (.tmp 8)),q 27 (.call 8 [(.tmp 25), (.tmp 26)]),qm 28 27,⟨some 29,.move (.tmp 6),some (28,true),0⟩,⟨some 30,.move (.tmp 9),some (28,true),0⟩,⟨some 31,.bin .eql (.tmp 29) (.tmp 30),some (28,true),0⟩,q 32 (.pick (.tmp 28) (.tmp 31) (.const (.bool false))),qm 33 32,⟨some 34,.move (.tmp 7),some (33,true),0⟩,⟨some 35,.move (.tmp 10),some (33,true),0⟩,⟨some 36,.bin .eql (.tmp 34) (.tmp 35),some (33,true),0⟩,q 37 (.pick (.tmp 33) (.tmp 36) (.const (.bool false))),qm 4 37] false) (.ret))))
set_option maxRecDepth 100000 in
theorem c3_ok : FunOK Tryd.prog 3 38 [.tmp 4] c3 := ⟨⟨Tryd.f3, Tryd.func3, rfl, by kernel_rfl, rfl, by kernel_rfl⟩⟩
theorem eqT_selfC (t : Tree) : eqT t t = true := eqT_iff.2 rfl
theorem ans_small {s : ByteArray} {r : Res} (hk : ∀ a m, r = .ok a m → KT true a) : Small (ansR cKids s r).1 := by
  cases r with
  | bad c m x y => exact small_zero
  | ok a m =>
    show Small (if eqS (tokT s m) ⟨#[]⟩ = false then (mk0 0 0, (atT s m : Int), (3 : Int)) else if chk cKids a = 0 then (a, (0 : Int), (0 : Int)) else (mk0 0 0, (s.size : Int), chk cKids a)).1
    by_cases h1 : eqS (tokT s m) ⟨#[]⟩ = false
    · rw [if_pos h1]; exact small_zero
    · rw [if_neg h1]
      by_cases h2 : chk cKids a = 0
      · rw [if_pos h2]; exact (hk a m rfl).small
      · rw [if_neg h2]; exact small_zero
theorem law_CtlReads (s : ByteArray) (names : List ByteArray) (hn : names.length ≤ 9223372036854775807) : PCall Tryd.prog 3 [.sc (.string s), dstrs names] (dbool true) := by
  refine pcall_intro c3_ok (by simp) (by simp [PureL, Pure, pure_dstrs]) ?_ (by simp [dbool, Pure])
  have key : ∃ x : Tree × Int × Int, Small x.1 ∧ PCall Tryd.prog 6 [.sc (.string s), dstrs names] (dans x) ∧ PCall Tryd.prog 7 [.sc (.string s), dstrs names] (dansR x) := by
    by_cases hs : s.size ≤ 300
    · obtain ⟨r, hr, hk, hc⟩ := reads_end s names true hs
      exact ⟨_, ans_small hk, ctl_Parse s hs names hn r hr hk, ref_ReadCtl s hs names hn r hr hk hc⟩
    · exact ⟨_, small_zero, ctl_Parse_large s hs names, ref_ReadCtl_large s hs names⟩
  obtain ⟨⟨t, a, e⟩, h0, h1, h2⟩ := key
  have hS := ref_SameCtl t t h0
  rw [eqT_selfC t] at hS
  (apply rd_sound; focus (repeat' constructor))
  ((conv=>whnf);repeat(refine⟨rfl,?_⟩;conv=>whnf))
  (refine .inl ⟨_, h1, ?_⟩; ((conv=>whnf);repeat(refine⟨rfl,?_⟩;conv=>whnf)))
  (refine .inl ⟨_, h2, ?_⟩; ((conv=>whnf);repeat(refine⟨rfl,?_⟩;conv=>whnf)))
  (refine .inl ⟨_, hS, ?_⟩; ((conv=>whnf);repeat(refine⟨rfl,?_⟩;conv=>whnf)))
  rw [show (((t, a, e) : Tree × Int × Int).snd.fst == ((t, a, e) : Tree × Int × Int).snd.fst) = true from beq_self_eq_true a]
  ((conv=>whnf);repeat(refine⟨rfl,?_⟩;conv=>whnf))
  exact deep_eq (congrArg (fun b => D.sc (.bool b)) (beq_self_eq_true e))
theorem argStrsR {P : Program} {t e : TypeId} {d : D} (ht : P.underlying t = some (.slice e)) (he : P.underlying e = some .string) (hc : P.cellsOf e = 1) (h : OfA P t d) : ∃ l : List ByteArray, d = dstrs l ∧ SmallS l := by
  unfold OfA OfAz at h
  rw [ht] at h
  obtain ⟨xs, e1, hl, hx⟩ := of_slice ht h
  obtain ⟨l, rfl, hs⟩ := of_cells (f := fun s : ByteArray => .string s) (ok := fun s => s.size ≤ 9223372036854775807) (fun cs h => of_str he h) hx
  rw [hc] at e1
  cases e1
  exact ⟨l, rfl, by simpa using hl, hs⟩
theorem argStrR {P : Program} {t : TypeId} {d : D} (ht : P.underlying t = some .string) (h : OfA P t d) : ∃ s : ByteArray, d = .sc (.string s) ∧ s.size ≤ 9223372036854775807 := by
  unfold OfA OfAz at h
  rw [ht] at h
  obtain ⟨s, e, hs⟩ := of_str ht h
  cases e
  exact ⟨s, rfl, hs⟩
namespace ctlReads
set_option maxRecDepth 100000 in
theorem law : ∀ Ds, OfAs Tryd.prog [9, 22] Ds → PCall Tryd.prog 3 Ds (dbool true)
  | [d, e], h => by
    obtain ⟨s, rfl, hs⟩ := argStrR Tryd.underlying9 h.1
    obtain ⟨l, rfl, hl⟩ := argStrsR Tryd.underlying22 Tryd.underlying9 (by kernel_rfl) h.2.1
    exact law_CtlReads s l hl.1
theorem types : typesOK Tryd.prog [9, 22] = true := by kernel_rfl
set_option maxRecDepth 100000 in
theorem laidOut : laidOutB Tryd.prog = true := by kernel_rfl
set_option maxRecDepth 100000 in
theorem readable : (Tryd.f3.params.toList.all fun t => Tryd.prog.readableRec t && decide (t < Tryd.prog.types.size)) = true := by kernel_rfl
theorem own : ownKnob Tryd.prog.godebug = none := by kernel_rfl
set_option maxRecDepth 100000 in
theorem oneRow : ((List.range 236).filter fun t => Tryd.prog.rowNamed t [101, 114, 114, 111, 114]) = [53] := by kernel_rfl
theorem handle_of_laid {W : World} (h : laidMetH Tryd.prog Rows.ctlReadsRow.laid W) : W.cell? ⟨1, 0, none⟩ = some (.iface 154 (.agg #[.pointer (some ⟨7, 53, none⟩)])) := by
  have h' : laidMet Tryd.prog [] W ∧ handlesMet Tryd.prog Rows.ctlReadsRow.laid W := h
  obtain ⟨name, u, ty, e1, e2, e3, e4, e5⟩ := h'.2 _ (List.mem_singleton.2 rfl)
  have en : name = [101, 114, 114, 111, 114] := (Option.some.inj e1).symm
  subst en
  obtain rfl := Option.some.inj ((show (Tryd.prog.cutTypes.find? (·.1 == "internal/reflectlite.rtype")).map (·.2) = some 154 by kernel_rfl).symm.trans e2)
  have hm : ty ∈ (List.range 236).filter fun t => Tryd.prog.rowNamed t [101, 114, 114, 111, 114] := List.mem_filter.2 ⟨List.mem_range.2 (by rw [← show Tryd.prog.types.size = 236 by kernel_rfl]; exact e3), e4⟩
  rw [oneRow] at hm
  obtain rfl := List.mem_singleton.1 hm
  have hh : typeHandle Tryd.prog 53 = .pointer (some ⟨7, 53, none⟩) := by kernel_rfl
  rw [hh] at e5
  simpa using World.var?_cell (show Tryd.prog.globalNamed "errors.errorType" = some 1 by kernel_rfl) e5 0
/-- A world that meets the condition: the settled one, the variable's cell laid. -/
noncomputable def laidWorld (os : Os) : World :=
  let w0 := World.holding Tryd.prog os ⟨#[], #[], []⟩
  { w0 with heap := w0.heap.modify 1 fun
      | .cells _ t frozen => .cells #[.iface 154 (.agg #[.pointer (some ⟨7, 53, none⟩)])] t frozen
      | o => o }
theorem laidWorld_met (os : Os) (args : Array Value) : laidMetH Tryd.prog Rows.ctlReadsRow.laid ((laidWorld os).forCall (fun _ _ => 0) ⟨#[], args, []⟩).memory :=
  laidMetH_of_parts (laidMet_nil _ _) (by kernel_rfl)
/-- What the condition on the variable gives. -/
theorem fok {W : World} (h : laidMetH Tryd.prog Rows.ctlReadsRow.laid W) : FOK (There W) W := by
  have hg := handle_of_laid h
  refine ⟨fun b h => h, fun g cs hm => ?_⟩
  have hm' : g = 1 ∧ cs = [.sc (.iface 154 (.agg #[.pointer (some ⟨7, 53, none⟩)]))] := by
    simp only [theGlobs, List.mem_singleton, Prod.mk.injEq] at hm
    exact hm
  obtain ⟨rfl, rfl⟩ := hm'
  refine ⟨World.block_lt_of_cell? W ⟨1, 0, none⟩ hg, ?_⟩
  simp only [repCells, rep]
  exact ⟨⟨_, hg, rfl, rfl⟩, trivial⟩
set_option maxRecDepth 100000 in
theorem lifted (os : Os) (started : os.Started) (H : Type) (enc : TypeId × Value → H) :
    ReturnsInHanded {} Tryd.checked os 3 .any (fun w args => (Rows.ctlReadsSpec.pre enc Tryd.prog Tryd.f3 Rows.ctlReadsRow.domain false w args ∧ laidMetH Tryd.prog Rows.ctlReadsRow.laid w) ∧ sizedMet enc Tryd.prog Tryd.f3 (OpenSpec.ofChange Rows.ctlReadsSpec) false w args)
      (Rows.ctlReadsSpec.post enc Tryd.prog Tryd.f3 false true false false) := by
  refine returnsInHanded_of_change_and (C := Tryd.checked) (X := fun w _ => laidMetH Tryd.prog Rows.ctlReadsRow.laid w) (fun _ _ _ hh h => h.of_heap hh) own started (by kernel_rfl) Tryd.func3
    (ChangeSpec.witness_at (enc := enc) (C := Tryd.checked) (os := os) (X := fun w _ => laidMetH Tryd.prog Rows.ctlReadsRow.laid w) false (laidWorld os) #[.string ⟨#[]⟩, .slice none 0 0] 8 rfl (by kernel_rfl) (by kernel_rfl) (by kernel_rfl) (by kernel_rfl) (by kernel_rfl) (laidWorld_met os _)) ?_
  intro W base args ds gs before hval0 hW _ hsz hL _
  have hval : ∀ (j : Nat) t v, Tryd.f3.params[j]? = some t → args[j]? = some v → Value.okWide Tryd.prog W .any base t v := hval0
  have hW' := hW
  obtain ⟨p, q, hA0, hV, _, hfz, hnd⟩ := hW
  have hA : DataW.TrodAll enc Tryd.prog W 0 (fun _ => true) true Tryd.f3.params.toList args.toList ds p := hA0
  have hps : Tryd.f3.params.toList = [9, 22] := by kernel_rfl
  obtain ⟨Ds, hD, hR⟩ := args_rep types (base := base) _ _ _ _ (fun t ht => by rw [hps] at ht; revert t; decide) (fun j t v h1 h2 => hval j t v (by simpa using h1) (by simpa using h2)) hA fun n hn => by
    have := List.all_eq_true.1 hsz n (weightsEach_pre _ _ _ _ (trodAll_len _ _ _ _ hA).symm n hn)
    simpa using this
  rw [hps] at hD
  have hC := (law Ds hD).run noInj (There W) W args.toList (fok hL) hR
  rw [show args.toList.toArray = args from rfl] at hC
  refine hC.mono fun e W' ⟨v, F', he, _, hv, hx⟩ => ?_
  have hv' : v = .bool true := by simpa only [rep, dbool] using hv
  subst he hv'
  exact ⟨_, rfl, row_post hW' rfl (by kernel_rfl) Tryd.underlying4 laidOut (fun t ht => by
      have := List.all_eq_true.1 readable t ht
      simp only [Bool.and_eq_true, decide_eq_true_eq] at this
      exact this) (fun ds h => by rw [hps] at h; match ds, h with | [_, _], _ => rfl) (below_of_ext hx) (ok_one (by kernel_rfl) rfl (okWide_bool_mk Tryd.underlying4 _))⟩

theorem over : Rows.ctlReadsRow.holds Tryd.pinned (OpenSpec.ofChange Rows.ctlReadsSpec) :=
  OpenClaim.holds_of_wide 3 Tryd.f3 rfl rfl rfl rfl rfl rfl rfl ⟨rfl, rfl, rfl, rfl, rfl⟩ rfl rfl rfl rfl rfl (by kernel_rfl) Tryd.func3 (by kernel_rfl)
    (of_decide_eq_true (by kernel_rfl)) (by unfold Func.isWrapper; first | (rw [if_pos (by decide +kernel)]; kernel_rfl) | (rw [if_neg (by decide +kernel)]; exact ⟨rfl, rfl⟩))
    (fun os started H enc _ => lifted os started H enc)

theorem proved : Rows.CtlReadsCardSaid :=
  Claim7.holds_tied_plain_at .later [] [.handle] true (true, "6bd112aedb580e3d9f2979ebf09ba09eff268271766fd70b1f271be8dc75ba85") true
    over (fun _ h => by cases h) (by kernel_rfl) (fun _ h => by cases h) ctlReads_row_tie rfl ⟨rfl, rfl⟩ (by kernel_rfl) rfl
    (fun f fn hf hfn => by
      obtain rfl : f = 3 := Option.some.inj ((show Tryd.prog.funcNamed "watchway/watchlaw.CtlReads" = some 3 by kernel_rfl).symm.trans hf) |>.symm
      obtain rfl : fn = Tryd.f3 := (Option.some.inj (Tryd.func3.symm.trans hfn)).symm
      refine ⟨by kernel_rfl, fun j t ht => ?_⟩
      have hm : t ∈ Tryd.f3.params.toList := by
        rw [Array.mem_toList_iff]
        exact Array.mem_of_getElem? ht
      rw [show Tryd.f3.params.toList = [9, 22] by kernel_rfl] at hm
      have := List.all_eq_true.1 (show ([9, 22] : List TypeId).all (fun t => !Tryd.prog.wantsStandIn t) = true by kernel_rfl) t hm
      have h2 : Tryd.prog.wantsStandIn t = false := by simpa using this
      exact h2)
    (by kernel_rfl)
end ctlReads
end Go.Proofs.YtijeijfccgegaaaDoor
