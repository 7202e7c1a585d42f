/-
  watchlaw.SoundSays returns true for every process and all bounds, and each argument reads afterwards as it read before. No conditions.
-/
import Derived.Test.YtjnfahdolkgnoaaQDC
import Derived.Test.YtjnfahdolkgnoaaQAg
import Derived.Test.YtjnfahdolkgnoaaQAw
import Derived.Test.YtjnfahdolkgnoaaQAp
import Derived.Test.YtjnfahdolkgnoaaQSo4
import Derived.Test.YtjnfahdolkgnoaaQSo5
import Derived.Test.YtjnfahdolkgnoaaRows
namespace Go.Proofs.Ytjnfahdolkgnoaa
open Go.RowKit Go.ChangeShapes Go.WideShapes Go.ChangeAt
set_option linter.unusedSimpArgs false
set_option linter.unusedVariables false
def c8 : PC := .seq (.ops [⟨(some 2), .box (.tmp 0), none, 0⟩,
    ⟨(some 3), .box (.tmp 1), none, 0⟩,
    ⟨(some 4), .move (.const (.bool false)), none, 0⟩] false) (.seq (.ops [⟨(some 5), .faddr 0 (.tmp 2), none, 0⟩,
    ⟨(some 6), .load1 (.tmp 5), none, 0⟩,
    ⟨(some 7), .faddr 0 (.tmp 3), none, 0⟩,
    ⟨(some 8), .load1 (.tmp 7), none, 0⟩,
    ⟨(some 9), .call 29 [(.tmp 6), (.tmp 8)], none, 0⟩,
    ⟨(some 10), .move (.tmp 9), none, 0⟩,
    ⟨(some 11), .faddr 1 (.tmp 2), (some (10, true)), 0⟩,
    ⟨(some 12), .load1 (.tmp 11), (some (10, true)), 0⟩,
    ⟨(some 13), .faddr 1 (.tmp 3), (some (10, true)), 0⟩,
    ⟨(some 14), .load1 (.tmp 13), (some (10, true)), 0⟩,
    ⟨(some 15), .bin .eql (.tmp 12) (.tmp 14), (some (10, true)), 0⟩,
    ⟨(some 16), .pick (.tmp 10) (.tmp 15) (.const (.bool false)), none, 0⟩,
    ⟨(some 17), .move (.tmp 16), none, 0⟩,
    ⟨(some 18), .faddr 2 (.tmp 2), (some (17, true)), 0⟩,
    ⟨(some 19), .load1 (.tmp 18), (some (17, true)), 0⟩,
    ⟨(some 20), .faddr 2 (.tmp 3), (some (17, true)), 0⟩,
    ⟨(some 21), .load1 (.tmp 20), (some (17, true)), 0⟩,
    ⟨(some 22), .bin .eql (.tmp 19) (.tmp 21), (some (17, true)), 0⟩,
    ⟨(some 23), .pick (.tmp 17) (.tmp 22) (.const (.bool false)), none, 0⟩,
    ⟨(some 24), .move (.tmp 23), none, 0⟩,
    ⟨(some 25), .faddr 3 (.tmp 2), (some (24, true)), 0⟩,
    ⟨(some 26), .load1 (.tmp 25), (some (24, true)), 0⟩,
    ⟨(some 27), .faddr 3 (.tmp 3), (some (24, true)), 0⟩,
    ⟨(some 28), .load1 (.tmp 27), (some (24, true)), 0⟩,
    ⟨(some 29), .call 29 [(.tmp 26), (.tmp 28)], (some (24, true)), 0⟩,
    ⟨(some 30), .pick (.tmp 24) (.tmp 29) (.const (.bool false)), none, 0⟩,
    ⟨(some 31), .move (.tmp 30), none, 0⟩,
    ⟨(some 32), .faddr 4 (.tmp 2), (some (31, true)), 0⟩,
    ⟨(some 33), .load1 (.tmp 32), (some (31, true)), 0⟩,
    ⟨(some 34), .faddr 4 (.tmp 3), (some (31, true)), 0⟩,
    ⟨(some 35), .load1 (.tmp 34), (some (31, true)), 0⟩,
    ⟨(some 36), .call 29 [(.tmp 33), (.tmp 35)], (some (31, true)), 0⟩,
    ⟨(some 37), .pick (.tmp 31) (.tmp 36) (.const (.bool false)), none, 0⟩,
    ⟨(some 4), .move (.tmp 37), none, 0⟩] false) (.ret))
set_option maxRecDepth 100000 in
theorem c8_ok : FunOK Try.prog 8 38 [.tmp 4] c8 := ⟨⟨Try.f8, Try.func8, rfl, by kernel_rfl, rfl, by kernel_rfl⟩⟩
theorem same_find (dead : List Int) (still never : Int) (ts tn : List Int) (h1 : dead.length ≤ 100000) (h2 : ts.length ≤ 100000) (h3 : tn.length ≤ 100000) : PCall Try.prog 8 [dfind dead still never ts tn, dfind dead still never ts tn] (.sc (.bool true)) := by
  refine pcall_intro c8_ok (by simp) (by simp [PureL, pure_dfind]) ?_ (by simp [Pure])
  unfold dfind
  (apply rd_sound; focus (repeat' constructor))
  ((conv=>whnf);repeat(refine And.intro rfl ?_;(conv=>whnf)))
  (refine .inl ⟨_, (equal_int dead dead (by omega)), ?_⟩; ((conv=>whnf);repeat(refine And.intro rfl ?_;(conv=>whnf))))
  rw [decide_eq_true rfl]
  ((conv=>whnf);repeat(refine And.intro rfl ?_;(conv=>whnf)))
  rw [show (still == still) = true by simp]
  ((conv=>whnf);repeat(refine And.intro rfl ?_;(conv=>whnf)))
  rw [show (never == never) = true by simp]
  ((conv=>whnf);repeat(refine And.intro rfl ?_;(conv=>whnf)))
  (refine .inl ⟨_, (equal_int ts ts (by omega)), ?_⟩; ((conv=>whnf);repeat(refine And.intro rfl ?_;(conv=>whnf))))
  rw [decide_eq_true rfl]
  ((conv=>whnf);repeat(refine And.intro rfl ?_;(conv=>whnf)))
  (refine .inl ⟨_, (equal_int tn tn (by omega)), ?_⟩; ((conv=>whnf);repeat(refine And.intro rfl ?_;(conv=>whnf))))
  rw [decide_eq_true rfl]
  exact .refl _
def c3 : PC := .seq (.ops [⟨(some 3), .box (.tmp 0), none, 0⟩,
    ⟨(some 6), .move (.const (.bool false)), none, 0⟩] false) (.seq (.ops [⟨(some 13), .loadA 2 (.tmp 3), none, 0⟩,
    ⟨(some 14), .move (.tmp 1), none, 0⟩,
    ⟨(some 15), .move (.tmp 2), none, 0⟩,
    ⟨(some 16), .call 6 [(.tmp 13), (.tmp 14), (.tmp 15)], none, 0⟩,
    ⟨(some 12), .move (.tmp 16), none, 0⟩,
    ⟨(some 17), .ext 0 (.tmp 12), none, 0⟩,
    ⟨(some 18), .ext 1 (.tmp 12), none, 0⟩,
    ⟨(some 7), .alloc [(.slice none 0 0), (.int .i64 0), (.int .i64 0), (.slice none 0 0), (.slice none 0 0)], none, 0⟩,
    ⟨none, .store 5 (.tmp 7) (.tmp 17), none, 0⟩,
    ⟨(some 8), .move (.tmp 18), none, 0⟩] false) (.seq (.ops [⟨(some 20), .loadA 2 (.tmp 3), none, 0⟩,
    ⟨(some 21), .move (.tmp 1), none, 0⟩,
    ⟨(some 22), .move (.tmp 2), none, 0⟩,
    ⟨(some 23), .call 7 [(.tmp 20), (.tmp 21), (.tmp 22)], none, 0⟩,
    ⟨(some 19), .move (.tmp 23), none, 0⟩,
    ⟨(some 24), .ext 0 (.tmp 19), none, 0⟩,
    ⟨(some 25), .ext 1 (.tmp 19), none, 0⟩,
    ⟨(some 26), .ext 2 (.tmp 19), none, 0⟩,
    ⟨(some 9), .alloc [(.slice none 0 0), (.slice none 0 0)], none, 0⟩,
    ⟨none, .store 2 (.tmp 9) (.tmp 24), none, 0⟩,
    ⟨(some 10), .move (.tmp 25), none, 0⟩,
    ⟨(some 11), .move (.tmp 26), none, 0⟩] false) (.seq (.seq (.ops [⟨(some 27), .move (.tmp 11), none, 0⟩,
    ⟨(some 28), .bin .neq (.tmp 27) (.const (.int .i64 0)), none, 0⟩] false) (.cond (.tmp 28) (.seq (.ops [⟨(some 29), .move (.tmp 8), none, 0⟩,
    ⟨(some 30), .move (.tmp 11), none, 0⟩,
    ⟨(some 31), .bin .eql (.tmp 29) (.tmp 30), none, 0⟩,
    ⟨(some 32), .move (.tmp 31), none, 0⟩,
    ⟨(some 33), .loadA 5 (.tmp 7), (some (32, true)), 0⟩,
    ⟨(some 34), .build [(.slice none 0 0), (.int .i64 0), (.int .i64 0), (.slice none 0 0), (.slice none 0 0)] [], (some (32, true)), 0⟩,
    ⟨(some 35), .call 8 [(.tmp 33), (.tmp 34)], (some (32, true)), 0⟩,
    ⟨(some 36), .pick (.tmp 32) (.tmp 35) (.const (.bool false)), none, 0⟩,
    ⟨(some 6), .move (.tmp 36), none, 0⟩] false) (.ret)) (.skip))) (.seq (.ops [⟨(some 37), .move (.tmp 8), none, 0⟩,
    ⟨(some 38), .bin .eql (.tmp 37) (.const (.int .i64 0)), none, 1⟩,
    ⟨(some 39), .move (.tmp 38), none, 3⟩,
    ⟨(some 40), .loadA 5 (.tmp 7), (some (39, true)), 7⟩,
    ⟨(some 41), .loadA 2 (.tmp 3), (some (39, true)), 7⟩,
    ⟨(some 42), .loadA 2 (.tmp 9), (some (39, true)), 7⟩,
    ⟨(some 43), .call 9 [(.tmp 41), (.tmp 42)], (some (39, true)), 55⟩,
    ⟨(some 44), .call 8 [(.tmp 40), (.tmp 43)], (some (39, true)), 127⟩,
    ⟨(some 45), .pick (.tmp 39) (.tmp 44) (.const (.bool false)), none, 255⟩,
    ⟨(some 6), .move (.tmp 45), none, 511⟩] true) (.ret)))))
set_option maxRecDepth 100000 in
theorem c3_ok : FunOK Try.prog 3 46 [.tmp 6] c3 := ⟨⟨Try.f3, Try.func3, rfl, by kernel_rfl, rfl, by kernel_rfl⟩⟩
theorem lead_len {P : ProcD} {M : List (List Int)} {N : List (List EdgeD)} (hF : FndN P M N) (t : Int) : (leadL N t).length ≤ 100000 := by
  have hf := hF.sp.few
  have hl := hF.sp.len
  obtain ⟨g1, _⟩ := hF.sp.graph
  have hw := (way_ok (chkG_zero.1 g1).2 (from_ := [0]) (inB_of fun x hx => by rw [List.mem_singleton] at hx; subst hx; rw [gN_len]; have := hF.sp.pos; omega) (to := fun i => decide ((i : Int) = t))).2.2
  rw [gN_len] at hw
  unfold leadL
  split
  · simp
  · unfold alongL
    rw [alongTo_len]
    omega
theorem law_SoundSays (P : ProcD) (hP : P.Fits) (tok st : Int) : PCall Try.prog 3 [dproc P, .sc (.int .i64 tok), .sc (.int .i64 st)] (dbool true) := by
  refine pcall_intro c3_ok (by simp) (by simp [PureL, Pure, pure_dproc]) ?_ (by simp [dbool, Pure])
  have hR := ref_Explored P hP tok st
  by_cases he : P.exE tok st = 0
  · have hF := found_fine he
    have hA := so_Look0 P hP tok st he hF
    have hB := ref_Found P hP _ _ hF
    rw [he] at hR
    have hd : (deadL P (P.exN tok st)).length ≤ 100000 := by
      have := deadTo_len P (dsTo P.stepsL (P.exN tok st) (P.exN tok st).length) P.nodes.length
      have := (chk_small (ProcD.stepsE_zero hF.steps).1).1
      unfold deadL
      omega
    have hl := fun t => lead_len hF t
    generalize P.exM tok st = M at *
    generalize P.exN tok st = N at *
    have hS := same_find (deadL P N) (frst (stillB M N) M.length M.length) (frst (neverB M N) M.length M.length) (leadL N (frst (stillB M N) M.length M.length)) (leadL N (frst (neverB M N) M.length M.length)) hd (hl _) (hl _)
    change PCall Try.prog 8 [findD P M N, findD P M N] (.sc (.bool true)) at hS
    obtain ⟨dd, s, n, ts, tn, hfd⟩ : ∃ dd s n ts tn, findD P M N = dfind dd s n ts tn := ⟨_, _, _, _, _, rfl⟩
    rw [hfd] at hA hB hS
    clear hfd
    (apply rd_sound; focus (repeat' constructor))
    ((conv=>whnf);repeat(refine And.intro rfl ?_;(conv=>whnf)))
    (refine .inl ⟨_, hA, ?_⟩; ((conv=>whnf);repeat(refine And.intro rfl ?_;(conv=>whnf))))
    (refine .inl ⟨_, hR, ?_⟩; ((conv=>whnf);repeat(refine And.intro rfl ?_;(conv=>whnf))))
    (refine .inl ⟨_, hB, ?_⟩; ((conv=>whnf);repeat(refine And.intro rfl ?_;(conv=>whnf))))
    (refine .inl ⟨_, hS, ?_⟩; ((conv=>whnf);repeat(refine And.intro rfl ?_;(conv=>whnf))))
    exact .refl _
  · have hA := so_Look1 P hP tok st he
    have hS := same_find [] 0 0 [] [] (by simp) (by simp) (by simp)
    generalize P.exE tok st = e at *
    generalize P.exM tok st = M at *
    generalize P.exN tok st = N at *
    (apply rd_sound; focus (repeat' constructor))
    ((conv=>whnf);repeat(refine And.intro rfl ?_;(conv=>whnf)))
    (refine .inl ⟨_, hA, ?_⟩; ((conv=>whnf);repeat(refine And.intro rfl ?_;(conv=>whnf))))
    (refine .inl ⟨_, hR, ?_⟩; ((conv=>whnf);repeat(refine And.intro rfl ?_;(conv=>whnf))))
    (refine ifK_split (fun q => ?_) (fun q => ?_) <;> (rw [q]; ((conv=>whnf);repeat(refine And.intro rfl ?_;(conv=>whnf)))))
    · rw [show (e == e) = true by simp]
      ((conv=>whnf);repeat(refine And.intro rfl ?_;(conv=>whnf)))
      refine .inr (.inl ⟨_, _, .cons _ _ _ _ (.refl _) (.cons _ _ _ _ (.agg _ _ (.cons _ _ _ _ (.none _) (.cons _ _ _ _ (.refl _) (.cons _ _ _ _ (.refl _) (.cons _ _ _ _ (.none _) (.cons _ _ _ _ (.none _) .nil)))))) .nil), hS, rfl, ?_⟩)
      ((conv=>whnf);repeat(refine And.intro rfl ?_;(conv=>whnf)))
      exact .refl _
    · exfalso; ((try simp only [oo, reduceCtorEq] at *) <;> omega)
namespace soundSays
set_option maxRecDepth 100000 in
theorem law : ∀ Ds, OfAs Try.prog [25, 3, 3] Ds → PCall Try.prog 3 Ds (dbool true)
  | [a, b, c], h => by
    obtain ⟨P, rfl, hP⟩ := argProc h.1
    obtain ⟨n, rfl, _⟩ := argInt Try.underlying3 h.2.1
    obtain ⟨m, rfl, _⟩ := argInt Try.underlying3 h.2.2.1
    exact law_SoundSays P hP n m
theorem types : typesOK Try.prog [25, 3, 22, 23, 86, 134, 9] = true := by kernel_rfl
set_option maxRecDepth 100000 in
theorem laidOut : laidOutB Try.prog = true := by kernel_rfl
set_option maxRecDepth 100000 in
theorem readable : (Try.f3.params.toList.all fun t => Try.prog.readableRec t && decide (t < Try.prog.types.size)) = true := by kernel_rfl
theorem own : ownKnob Try.prog.godebug = none := by kernel_rfl
set_option maxRecDepth 100000 in
theorem lifted (os : Os) (started : os.Started) (H : Type) (enc : TypeId × Value → H) :
    ReturnsInHanded {} Try.checked os 3 .any (Rows.soundSaysSpec.pre6 enc Try.prog Try.f3 Rows.soundSaysRow.domain false) (Rows.soundSaysSpec.post enc Try.prog Try.f3 false true false false) := by
  refine returnsInHanded_of_change_sized (C := Try.checked) own started (by kernel_rfl) Try.func3
    (ChangeSpec.witness6 (enc := enc) (C := Try.checked) false ⟨#[], #[.agg #[.slice none 0 0, .slice none 0 0], .int .i64 0, .int .i64 0], []⟩ 8 (by kernel_rfl) (by kernel_rfl) (by kernel_rfl) (by kernel_rfl)) ?_
  intro W base args ds gs before hval0 hW _ hsz _
  have hval : ∀ (j : Nat) t v, Try.f3.params[j]? = some t → args[j]? = some v → Value.okWide Try.prog W .any base t v := hval0
  have hW' := hW
  obtain ⟨p, q, hA0, hV, _, hfz, hnd⟩ := hW
  have hA : DataW.TrodAll enc Try.prog W 0 (fun _ => true) true Try.f3.params.toList args.toList ds p := hA0
  have hps : Try.f3.params.toList = [25, 3, 3] := by kernel_rfl
  obtain ⟨Ds, hD, hR⟩ := args_rep types (base := base) _ _ _ _ (fun t ht => by rw [hps] at ht; revert t; decide) (fun j t v h1 h2 => hval j t v (by simpa using h1) (by simpa using h2)) hA fun n hn => by
    have := List.all_eq_true.1 hsz n (weightsEach_pre _ _ _ _ (trodAll_len _ _ _ _ hA).symm n hn)
    simpa using this
  rw [hps] at hD
  have hC := (law Ds hD).run noInj (There W) W args.toList (fun b h => h) hR
  rw [show args.toList.toArray = args from rfl] at hC
  refine hC.mono fun e W' ⟨v, F', he, _, hv, hx⟩ => ?_
  have hv' : v = .bool true := by simpa only [rep, dbool] using hv
  subst he hv'
  exact ⟨_, rfl, row_post hW' rfl (by kernel_rfl) Try.underlying4 laidOut (fun t ht => by
      have := List.all_eq_true.1 readable t ht
      simp only [Bool.and_eq_true, decide_eq_true_eq] at this
      exact this) (fun ds h => by rw [hps] at h; match ds, h with | [_, _, _], _ => rfl) (below_of_ext hx) (ok_one (by kernel_rfl) rfl (okWide_bool_mk Try.underlying4 _))⟩

theorem over : Rows.soundSaysRow.holds Try.pinned (OpenSpec.ofChange Rows.soundSaysSpec) :=
  OpenClaim.holds_of_wide 3 Try.f3 rfl rfl rfl rfl rfl rfl rfl ⟨rfl, rfl, rfl, rfl, rfl⟩ rfl rfl rfl rfl rfl (by kernel_rfl) Try.func3 (by kernel_rfl)
    (of_decide_eq_true (by kernel_rfl)) (by unfold Func.isWrapper; first | (rw [if_pos (by decide +kernel)]; kernel_rfl) | (rw [if_neg (by decide +kernel)]; exact ⟨rfl, rfl⟩))
    (fun os started H enc _ => lifted os started H enc)

theorem proved : Rows.SoundSaysSaid := over
end soundSays
end Go.Proofs.Ytjnfahdolkgnoaa
