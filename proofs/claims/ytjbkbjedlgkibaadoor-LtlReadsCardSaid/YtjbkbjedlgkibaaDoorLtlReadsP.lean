/-
  watchlaw.LtlReads returns true for every text and all names, and each argument reads afterwards as it read before; the package variable errors.errorType holds what the program's text lays in it. No other conditions.
-/
import Derived.Test.YtjbkbjedlgkibaaDoorAt
import Derived.Test.YtjbkbjedlgkibaaDoorLr5
import Derived.Test.YtjbkbjedlgkibaaDoorRg5
import Derived.Test.YtjbkbjedlgkibaaDoorSa
import Derived.Test.YtjbkbjedlgkibaaDoorGs
import Derived.Test.YtjbkbjedlgkibaaDoorRows
import Derived.Test.YtjbkbjedlgkibaaDoorTie
import Derived.Test.YtjbkbjedlgkibaaDoorCards
import Derived.SevenTiedAt
namespace Go.Proofs.YtjbkbjedlgkibaaDoor
open Go.RowKit Go.ChangeShapes Go.WideShapes Go.ChangeAt
set_option linter.unusedSimpArgs false
def c3 : PC := .seq (.ops [q 4 (.move (.const (.bool false)))] false) (.seq (.ops [qm 12 0,qm 13 1,q 14 (.call 4 [(.tmp 12), (.tmp 13)]),qm 11 14,q 15 (.ext 0 (.tmp 11)),q 16 (.ext 1 (.tmp 11)),q 17 (.ext 2 (.tmp 11)),q 5 (.alloc [(.int .i64 0), (.int .i64 0), (.slice none 0 0)]),qn (.store 3 (.tmp 5) (.tmp 15)),qm 6 16,qm 7 17] false) (.seq (.ops [qm 19 0,qm 20 1,q 21 (.call 5 [(.tmp 19), (.tmp 20)]),qm 18 21,q 22 (.ext 0 (.tmp 18)),q 23 (.ext 1 (.tmp 18)),q 24 (.ext 2 (.tmp 18)),q 8 (.alloc [(.int .i64 0), (.int .i64 0), (.slice none 0 0)]),qn (.store 3 (.tmp 8) (.tmp 22)),qm 9 23,qm 10 24] false) (.seq (.ops [q 25 (.loadA 3 (.tmp 5)),q 26 (.loadA 3 (.tmp 8)),q 27 (.call 6 [(.tmp 25), (.tmp 26)]),qm 28 27,⟨some 29,.move (.tmp 6),some (28,true),0⟩,⟨some 30,.move (.tmp 9),some (28,true),0⟩,⟨some 31,.bin .eql (.tmp 29) (.tmp 30),some (28,true),0⟩,q 32 (.pick (.tmp 28) (.tmp 31) (.const (.bool false))),qm 33 32,⟨some 34,.move (.tmp 7),some (33,true),0⟩,⟨some 35,.move (.tmp 10),some (33,true),0⟩,⟨some 36,.bin .eql (.tmp 34) (.tmp 35),some (33,true),0⟩,q 37 (.pick (.tmp 33) (.tmp 36) (.const (.bool false))),qm 4 37] false) (.ret))))
set_option maxRecDepth 100000 in
theorem c3_ok : FunOK Tryd.prog 3 38 [.tmp 4] c3 := ⟨⟨Tryd.f3, Tryd.func3, rfl, by kernel_rfl, rfl, by kernel_rfl⟩⟩
theorem eqT_selfC (t : Tree) : eqT t t = true := eqT_iff.2 rfl
theorem ans_small {s : ByteArray} {r : Res} (hk : ∀ a m, r = .ok a m → KT false a) : Small (ansR lKids s r).1 := by
  cases r with
  | bad c m x y => exact small_zero
  | ok a m =>
    show Small (if eqS (tokT s m) ⟨#[]⟩ = false then (mk0 0 0, (atT s m : Int), (3 : Int)) else if chk lKids a = 0 then (a, (0 : Int), (0 : Int)) else (mk0 0 0, (s.size : Int), chk lKids a)).1
    by_cases h1 : eqS (tokT s m) ⟨#[]⟩ = false
    · rw [if_pos h1]; exact small_zero
    · rw [if_neg h1]
      by_cases h2 : chk lKids a = 0
      · rw [if_pos h2]; exact (hk a m rfl).small
      · rw [if_neg h2]; exact small_zero
theorem law_LtlReads (s : ByteArray) (names : List ByteArray) (hn : names.length ≤ 9223372036854775807) : PCall Tryd.prog 3 [.sc (.string s), dstrs names] (dbool true) := by
  refine pcall_intro c3_ok (by simp) (by simp [PureL, Pure, pure_dstrs]) ?_ (by simp [dbool, Pure])
  have key : ∃ x : Tree × Int × Int, Small x.1 ∧ PCall Tryd.prog 4 [.sc (.string s), dstrs names] (dans x) ∧ PCall Tryd.prog 5 [.sc (.string s), dstrs names] (dansR x) := by
    by_cases hs : s.size ≤ 300
    · obtain ⟨r, hr, hk, hc⟩ := reads_end s names false hs
      exact ⟨_, ans_small hk, ltl_Parse s hs names hn r hr hk, ref_ReadLtl s hs names hn r hr hk hc⟩
    · exact ⟨_, small_zero, ltl_Parse_large s hs names, ref_ReadLtl_large s hs names⟩
  obtain ⟨⟨t, a, e⟩, h0, h1, h2⟩ := key
  have hS := ref_SameLtl t t h0
  rw [eqT_selfC t] at hS
  (apply rd_sound; focus (repeat' constructor))
  ((conv=>whnf);repeat(refine⟨rfl,?_⟩;conv=>whnf))
  (refine .inl ⟨_, h1, ?_⟩; ((conv=>whnf);repeat(refine⟨rfl,?_⟩;conv=>whnf)))
  (refine .inl ⟨_, h2, ?_⟩; ((conv=>whnf);repeat(refine⟨rfl,?_⟩;conv=>whnf)))
  (refine .inl ⟨_, hS, ?_⟩; ((conv=>whnf);repeat(refine⟨rfl,?_⟩;conv=>whnf)))
  rw [show (((t, a, e) : Tree × Int × Int).snd.fst == ((t, a, e) : Tree × Int × Int).snd.fst) = true from beq_self_eq_true a]
  ((conv=>whnf);repeat(refine⟨rfl,?_⟩;conv=>whnf))
  exact deep_eq (congrArg (fun b => D.sc (.bool b)) (beq_self_eq_true e))
theorem argStrsR {P : Program} {t e : TypeId} {d : D} (ht : P.underlying t = some (.slice e)) (he : P.underlying e = some .string) (hc : P.cellsOf e = 1) (h : OfA P t d) : ∃ l : List ByteArray, d = dstrs l ∧ SmallS l := by
  unfold OfA OfAz at h
  rw [ht] at h
  obtain ⟨xs, e1, hl, hx⟩ := of_slice ht h
  obtain ⟨l, rfl, hs⟩ := of_cells (f := fun s : ByteArray => .string s) (ok := fun s => s.size ≤ 9223372036854775807) (fun cs h => of_str he h) hx
  rw [hc] at e1
  cases e1
  exact ⟨l, rfl, by simpa using hl, hs⟩
theorem argStrR {P : Program} {t : TypeId} {d : D} (ht : P.underlying t = some .string) (h : OfA P t d) : ∃ s : ByteArray, d = .sc (.string s) ∧ s.size ≤ 9223372036854775807 := by
  unfold OfA OfAz at h
  rw [ht] at h
  obtain ⟨s, e, hs⟩ := of_str ht h
  cases e
  exact ⟨s, rfl, hs⟩
namespace ltlReads
set_option maxRecDepth 100000 in
theorem law : ∀ Ds, OfAs Tryd.prog [9, 22] Ds → PCall Tryd.prog 3 Ds (dbool true)
  | [d, e], h => by
    obtain ⟨s, rfl, hs⟩ := argStrR Tryd.underlying9 h.1
    obtain ⟨l, rfl, hl⟩ := argStrsR Tryd.underlying22 Tryd.underlying9 (by kernel_rfl) h.2.1
    exact law_LtlReads s l hl.1
theorem types : typesOK Tryd.prog [9, 22] = true := by kernel_rfl
set_option maxRecDepth 100000 in
theorem laidOut : laidOutB Tryd.prog = true := by kernel_rfl
set_option maxRecDepth 100000 in
theorem readable : (Tryd.f3.params.toList.all fun t => Tryd.prog.readableRec t && decide (t < Tryd.prog.types.size)) = true := by kernel_rfl
theorem own : ownKnob Tryd.prog.godebug = none := by kernel_rfl
set_option maxRecDepth 100000 in
theorem oneRow : ((List.range 142).filter fun t => Tryd.prog.rowNamed t [101, 114, 114, 111, 114]) = [35] := by kernel_rfl
theorem star : "*" ++ "errors.errorString" = "*errors.errorString" := by decide
set_option maxRecDepth 100000 in
theorem onePtr (u : TypeId) (h : Tryd.prog.typeName? 3 u = some "*errors.errorString") : u = 108 :=
  typeName_ptr_named (nm := "errors.errorString") (by rw [star]; kernel_rfl) (by kernel_rfl) (by decide) u (by rw [star]; exact h)
theorem handle_of_laid {W : World} (h : handlesMet Tryd.prog [("errors.errorType", Rows.laid_errors_errorType)] W) : W.cell? ⟨3, 0, none⟩ = some (.iface 84 (.agg #[.pointer (some ⟨4, 35, none⟩)])) := by
  obtain ⟨name, u, ty, e1, e2, e3, e4, e5⟩ := h _ (List.mem_singleton.2 rfl)
  have en : name = [101, 114, 114, 111, 114] := (Option.some.inj e1).symm
  subst en
  obtain rfl := Option.some.inj ((show (Tryd.prog.cutTypes.find? (·.1 == "internal/reflectlite.rtype")).map (·.2) = some 84 by kernel_rfl).symm.trans e2)
  have hm : ty ∈ (List.range 142).filter fun t => Tryd.prog.rowNamed t [101, 114, 114, 111, 114] := List.mem_filter.2 ⟨List.mem_range.2 (by rw [← show Tryd.prog.types.size = 142 by kernel_rfl]; exact e3), e4⟩
  rw [oneRow] at hm
  obtain rfl := List.mem_singleton.1 hm
  have hh : typeHandle Tryd.prog 35 = .pointer (some ⟨4, 35, none⟩) := by kernel_rfl
  rw [hh] at e5
  simpa using World.var?_cell (show Tryd.prog.globalNamed "errors.errorType" = some 3 by kernel_rfl) e5 0
/-- A world that meets the condition: the settled one, the variables' cells laid. -/
noncomputable def low : Nat := (World.holding Tryd.prog default ⟨#[], #[], []⟩).heap.size
noncomputable def laidWorld (os : Os) : World :=
  let w0 := World.holding Tryd.prog os ⟨#[.cells #[.string ⟨#[116, 104, 105, 115, 32, 99, 97, 110, 39, 116, 32, 115, 116, 97, 110, 100, 32, 104, 101, 114, 101]⟩] 130, .cells #[.string ⟨#[116, 111, 111, 32, 109, 117, 99, 104, 32, 105, 115, 32, 111, 112, 101, 110]⟩] 130, .cells #[.string ⟨#[110, 111, 32, 115, 117, 99, 104, 32, 110, 97, 109, 101]⟩] 130], #[], []⟩
  { w0 with heap := ((((w0.heap.modify 3 fun | .cells _ t frozen => .cells #[.iface 84 (.agg #[.pointer (some ⟨4, 35, none⟩)])] t frozen | o => o).modify 0 fun | .cells _ t frozen => .cells #[.iface 108 (.pointer (some ⟨low + 0, 0, none⟩))] t frozen | o => o).modify 1 fun | .cells _ t frozen => .cells #[.iface 108 (.pointer (some ⟨low + 1, 0, none⟩))] t frozen | o => o).modify 2 fun | .cells _ t frozen => .cells #[.iface 108 (.pointer (some ⟨low + 2, 0, none⟩))] t frozen | o => o) }
theorem laidWorld_met (os : Os) (args : Array Value) : laidMetH Tryd.prog Rows.ltlReadsRow.laid ((laidWorld os).forCall (fun _ _ => 0) ⟨#[], args, []⟩).memory :=
  laidMetH_of_parts (laidMet_of_run (ps := [.cell 0 0, .cell (low + 0) 0, .cell 1 0, .cell (low + 1) 0, .cell 2 0, .cell (low + 2) 0]) 8 (by kernel_rfl) (by kernel_rfl) (by kernel_rfl)) (by kernel_rfl)
/-- What the condition on the variables gives. -/
theorem fok {W : World} (h : laidMetH Tryd.prog Rows.ltlReadsRow.laid W) : FOK (There W) W := by
  have h' : laidMet Tryd.prog [("watchway/ltl.errStand", Rows.laid_watchway_ltl_errStand), ("watchway/ltl.errOpen", Rows.laid_watchway_ltl_errOpen), ("watchway/ltl.errWord", Rows.laid_watchway_ltl_errWord)] W ∧ handlesMet Tryd.prog [("errors.errorType", Rows.laid_errors_errorType)] W := h
  have hg := handle_of_laid h'.2
  have r0 := h'.1
  obtain ⟨r1, b0, o0, v0, t0, c0, h0, z0⟩ := sent_of_laid (ti := 35) r0 (show Tryd.prog.globalNamed "watchway/ltl.errStand" = some 0 by kernel_rfl) (by kernel_rfl) Tryd.underlying35 onePtr Tryd.underlying108 Tryd.underlying130 rfl rfl Tryd.underlying9 (by kernel_rfl) (by kernel_rfl)
  obtain ⟨r2, b1, o1, v1, t1, c1, h1, z1⟩ := sent_of_laid (ti := 35) r1 (show Tryd.prog.globalNamed "watchway/ltl.errOpen" = some 1 by kernel_rfl) (by kernel_rfl) Tryd.underlying35 onePtr Tryd.underlying108 Tryd.underlying130 rfl rfl Tryd.underlying9 (by kernel_rfl) (by kernel_rfl)
  obtain ⟨r3, b2, o2, v2, t2, c2, h2, z2⟩ := sent_of_laid (ti := 35) r2 (show Tryd.prog.globalNamed "watchway/ltl.errWord" = some 2 by kernel_rfl) (by kernel_rfl) Tryd.underlying35 onePtr Tryd.underlying108 Tryd.underlying130 rfl rfl Tryd.underlying9 (by kernel_rfl) (by kernel_rfl)
  refine ⟨fun b h => h, fun g cs hm => ?_, fun g t s hm => ?_⟩
  · have hm' : (g = 0 ∧ cs = [.gv 0]) ∨ (g = 1 ∧ cs = [.gv 1]) ∨ (g = 2 ∧ cs = [.gv 2]) ∨ (g = 3 ∧ cs = [.sc (.iface 84 (.agg #[.pointer (some ⟨4, 35, none⟩)]))]) := by
      simpa only [theGlobs, List.mem_cons, Prod.mk.injEq, List.not_mem_nil, or_false] using hm
    obtain ⟨rfl, rfl⟩ | ⟨rfl, rfl⟩ | ⟨rfl, rfl⟩ | ⟨rfl, rfl⟩ := hm'
    · have hl := World.block_lt_of_cell? W ⟨0, 0, none⟩ c0
      refine ⟨hl, ?_⟩
      simp only [repCells, rep]
      exact ⟨⟨_, c0, rfl, hl, c0, rfl⟩, trivial⟩
    · have hl := World.block_lt_of_cell? W ⟨1, 0, none⟩ c1
      refine ⟨hl, ?_⟩
      simp only [repCells, rep]
      exact ⟨⟨_, c1, rfl, hl, c1, rfl⟩, trivial⟩
    · have hl := World.block_lt_of_cell? W ⟨2, 0, none⟩ c2
      refine ⟨hl, ?_⟩
      simp only [repCells, rep]
      exact ⟨⟨_, c2, rfl, hl, c2, rfl⟩, trivial⟩
    · refine ⟨World.block_lt_of_cell? W ⟨3, 0, none⟩ hg, ?_⟩
      simp only [repCells, rep]
      exact ⟨⟨_, hg, rfl, rfl⟩, trivial⟩
  · have hm' : (g = 0 ∧ t = 108 ∧ s = ⟨#[116, 104, 105, 115, 32, 99, 97, 110, 39, 116, 32, 115, 116, 97, 110, 100, 32, 104, 101, 114, 101]⟩) ∨ (g = 1 ∧ t = 108 ∧ s = ⟨#[116, 111, 111, 32, 109, 117, 99, 104, 32, 105, 115, 32, 111, 112, 101, 110]⟩) ∨ (g = 2 ∧ t = 108 ∧ s = ⟨#[110, 111, 32, 115, 117, 99, 104, 32, 110, 97, 109, 101]⟩) := by
      simpa only [theSents, List.mem_cons, Prod.mk.injEq, List.not_mem_nil, or_false] using hm
    obtain ⟨rfl, rfl, rfl⟩ | ⟨rfl, rfl, rfl⟩ | ⟨rfl, rfl, rfl⟩ := hm'
    · exact ⟨World.block_lt_of_cell? W ⟨0, 0, none⟩ c0, b0, o0, v0, t0, c0, (Array.getElem?_eq_some_iff.1 h0).1, h0, z0⟩
    · exact ⟨World.block_lt_of_cell? W ⟨1, 0, none⟩ c1, b1, o1, v1, t1, c1, (Array.getElem?_eq_some_iff.1 h1).1, h1, z1⟩
    · exact ⟨World.block_lt_of_cell? W ⟨2, 0, none⟩ c2, b2, o2, v2, t2, c2, (Array.getElem?_eq_some_iff.1 h2).1, h2, z2⟩
set_option maxRecDepth 100000 in
theorem lifted (os : Os) (started : os.Started) (H : Type) (enc : TypeId × Value → H) :
    ReturnsInHanded {} Tryd.checked os 3 .any (fun w args => (Rows.ltlReadsSpec.pre enc Tryd.prog Tryd.f3 Rows.ltlReadsRow.domain false w args ∧ laidMetH Tryd.prog Rows.ltlReadsRow.laid w) ∧ sizedMet enc Tryd.prog Tryd.f3 (OpenSpec.ofChange Rows.ltlReadsSpec) false w args)
      (Rows.ltlReadsSpec.post enc Tryd.prog Tryd.f3 false true false false) := by
  refine returnsInHanded_of_change_and (C := Tryd.checked) (X := fun w _ => laidMetH Tryd.prog Rows.ltlReadsRow.laid w) (fun _ _ _ hh h => h.of_heap hh) own started (by kernel_rfl) Tryd.func3
    (ChangeSpec.witness_at (enc := enc) (C := Tryd.checked) (os := os) (X := fun w _ => laidMetH Tryd.prog Rows.ltlReadsRow.laid w) false (laidWorld os) #[.string ⟨#[]⟩, .slice none 0 0] 8 rfl (by kernel_rfl) (by kernel_rfl) (by kernel_rfl) (by kernel_rfl) (by kernel_rfl) (laidWorld_met os _)) ?_
  intro W base args ds gs before hval0 hW _ hsz hL _
  have hval : ∀ (j : Nat) t v, Tryd.f3.params[j]? = some t → args[j]? = some v → Value.okWide Tryd.prog W .any base t v := hval0
  have hW' := hW
  obtain ⟨p, q, hA0, hV, _, hfz, hnd⟩ := hW
  have hA : DataW.TrodAll enc Tryd.prog W 0 (fun _ => true) true Tryd.f3.params.toList args.toList ds p := hA0
  have hps : Tryd.f3.params.toList = [9, 22] := by kernel_rfl
  obtain ⟨Ds, hD, hR⟩ := args_rep types (base := base) _ _ _ _ (fun t ht => by rw [hps] at ht; revert t; decide) (fun j t v h1 h2 => hval j t v (by simpa using h1) (by simpa using h2)) hA fun n hn => by
    have := List.all_eq_true.1 hsz n (weightsEach_pre _ _ _ _ (trodAll_len _ _ _ _ hA).symm n hn)
    simpa using this
  rw [hps] at hD
  have hC := (law Ds hD).run noInj (There W) W args.toList (fok hL) hR
  rw [show args.toList.toArray = args from rfl] at hC
  refine hC.mono fun e W' ⟨v, F', he, _, hv, hx⟩ => ?_
  have hv' : v = .bool true := by simpa only [rep, dbool] using hv
  subst he hv'
  exact ⟨_, rfl, row_post hW' rfl (by kernel_rfl) Tryd.underlying4 laidOut (fun t ht => by
      have := List.all_eq_true.1 readable t ht
      simp only [Bool.and_eq_true, decide_eq_true_eq] at this
      exact this) (fun ds h => by rw [hps] at h; match ds, h with | [_, _], _ => rfl) (below_of_ext hx) (ok_one (by kernel_rfl) rfl (okWide_bool_mk Tryd.underlying4 _))⟩

theorem over : Rows.ltlReadsRow.holds Tryd.pinned (OpenSpec.ofChange Rows.ltlReadsSpec) :=
  OpenClaim.holds_of_wide 3 Tryd.f3 rfl rfl rfl rfl rfl rfl rfl ⟨rfl, rfl, rfl, rfl, rfl⟩ rfl rfl rfl rfl rfl (by kernel_rfl) Tryd.func3 (by kernel_rfl)
    (of_decide_eq_true (by kernel_rfl)) (by unfold Func.isWrapper; first | (rw [if_pos (by decide +kernel)]; kernel_rfl) | (rw [if_neg (by decide +kernel)]; exact ⟨rfl, rfl⟩))
    (fun os started H enc _ => lifted os started H enc)

theorem proved : Rows.LtlReadsCardSaid :=
  Claim7.holds_tied_plain_at .later [] [.handle, .sentinel, .sentinel, .sentinel] true (true, "cd8a02f32d4f89b8ad10ce1c0a1b21db31ec95807f4cacec05ba1a8162342865") true
    over (fun _ h => by cases h) (by kernel_rfl) (fun _ h => by cases h) ltlReads_row_tie rfl ⟨rfl, rfl⟩ (by kernel_rfl) rfl
    (fun f fn hf hfn => by
      obtain rfl : f = 3 := Option.some.inj ((show Tryd.prog.funcNamed "watchway/watchlaw.LtlReads" = some 3 by kernel_rfl).symm.trans hf) |>.symm
      obtain rfl : fn = Tryd.f3 := (Option.some.inj (Tryd.func3.symm.trans hfn)).symm
      refine ⟨by kernel_rfl, fun j t ht => ?_⟩
      have hm : t ∈ Tryd.f3.params.toList := by
        rw [Array.mem_toList_iff]
        exact Array.mem_of_getElem? ht
      rw [show Tryd.f3.params.toList = [9, 22] by kernel_rfl] at hm
      have := List.all_eq_true.1 (show ([9, 22] : List TypeId).all (fun t => !Tryd.prog.wantsStandIn t) = true by kernel_rfl) t hm
      have h2 : Tryd.prog.wantsStandIn t = false := by simpa using this
      exact h2)
    (by kernel_rfl)
end ltlReads
end Go.Proofs.YtjbkbjedlgkibaaDoor
