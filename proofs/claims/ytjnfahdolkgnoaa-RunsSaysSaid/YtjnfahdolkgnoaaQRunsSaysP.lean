/-
  watchlaw.RunsSays returns true for every process and all bounds, and each argument reads afterwards as it read before. No conditions.
-/
import Derived.Test.YtjnfahdolkgnoaaQDC
import Derived.Test.YtjnfahdolkgnoaaQAg
import Derived.Test.YtjnfahdolkgnoaaQAw
import Derived.Test.YtjnfahdolkgnoaaQAp
import Derived.Test.YtjnfahdolkgnoaaQRu3
import Derived.Test.YtjnfahdolkgnoaaQSo5
import Derived.Test.YtjnfahdolkgnoaaRows
namespace Go.Proofs.Ytjnfahdolkgnoaa
open Go.RowKit Go.ChangeShapes Go.WideShapes Go.ChangeAt
set_option linter.unusedSimpArgs false
set_option linter.unusedVariables false
def c40 : PC := .seq (.ops [⟨(some 4), .move (.const (.bool false)), none, 0⟩] false) (.seq (.ops [⟨(some 5), .move (.tmp 0), none, 0⟩,
    ⟨(some 6), .move (.tmp 1), none, 0⟩,
    ⟨(some 7), .call 41 [(.tmp 5), (.tmp 6), (.func 29)], none, 0⟩,
    ⟨(some 4), .move (.tmp 7), none, 0⟩] false) (.ret))
set_option maxRecDepth 100000 in
theorem c40_ok : FunOK Try.prog 40 8 [.tmp 4] c40 := ⟨⟨Try.f40, Try.func40, rfl, by kernel_rfl, rfl, by kernel_rfl⟩⟩
theorem same_lists (x : List (List Int)) (h1 : x.length ≤ 100000) (h2 : ∀ l ∈ x, l.length ≤ 100000) : PCall Try.prog 40 [dgrid x, dgrid x] (.sc (.bool true)) := by
  refine pcall_intro c40_ok (by simp) (by simp [PureL, pure_dgrid]) ?_ (by simp [Pure])
  (apply rd_sound; focus (repeat' constructor))
  ((conv=>whnf);repeat(refine And.intro rfl ?_;(conv=>whnf)))
  (refine .inl ⟨_, (equalF_grid x x (by omega) fun l hl => by have := h2 l hl; omega), ?_⟩; ((conv=>whnf);repeat(refine And.intro rfl ?_;(conv=>whnf))))
  rw [decide_eq_true rfl]
  exact .refl _
def c11 : PC := .seq (.ops [⟨(some 2), .box (.tmp 0), none, 0⟩,
    ⟨(some 3), .box (.tmp 1), none, 0⟩,
    ⟨(some 4), .move (.const (.bool false)), none, 0⟩] false) (.seq (.ops [⟨(some 5), .move (.func 40), none, 0⟩] false) (.seq (.ops [⟨(some 6), .faddr 0 (.tmp 2), none, 0⟩,
    ⟨(some 7), .load1 (.tmp 6), none, 0⟩,
    ⟨(some 8), .faddr 0 (.tmp 3), none, 0⟩,
    ⟨(some 9), .load1 (.tmp 8), none, 0⟩,
    ⟨(some 10), .call 29 [(.tmp 7), (.tmp 9)], none, 0⟩,
    ⟨(some 11), .move (.tmp 10), none, 0⟩,
    ⟨(some 12), .move (.tmp 5), (some (11, true)), 0⟩,
    ⟨(some 13), .faddr 1 (.tmp 2), (some (11, true)), 0⟩,
    ⟨(some 14), .load1 (.tmp 13), (some (11, true)), 0⟩,
    ⟨(some 15), .faddr 1 (.tmp 3), (some (11, true)), 0⟩,
    ⟨(some 16), .load1 (.tmp 15), (some (11, true)), 0⟩,
    ⟨(some 17), .callv (.tmp 12) [(.tmp 14), (.tmp 16)], (some (11, true)), 0⟩,
    ⟨(some 18), .pick (.tmp 11) (.tmp 17) (.const (.bool false)), none, 0⟩,
    ⟨(some 19), .move (.tmp 18), none, 0⟩,
    ⟨(some 20), .faddr 2 (.tmp 2), (some (19, true)), 0⟩,
    ⟨(some 21), .load1 (.tmp 20), (some (19, true)), 0⟩,
    ⟨(some 22), .faddr 2 (.tmp 3), (some (19, true)), 0⟩,
    ⟨(some 23), .load1 (.tmp 22), (some (19, true)), 0⟩,
    ⟨(some 24), .call 42 [(.tmp 21), (.tmp 23)], (some (19, true)), 0⟩,
    ⟨(some 25), .pick (.tmp 19) (.tmp 24) (.const (.bool false)), none, 0⟩,
    ⟨(some 26), .move (.tmp 25), none, 0⟩,
    ⟨(some 27), .move (.tmp 5), (some (26, true)), 0⟩,
    ⟨(some 28), .faddr 3 (.tmp 2), (some (26, true)), 0⟩,
    ⟨(some 29), .load1 (.tmp 28), (some (26, true)), 0⟩,
    ⟨(some 30), .faddr 3 (.tmp 3), (some (26, true)), 0⟩,
    ⟨(some 31), .load1 (.tmp 30), (some (26, true)), 0⟩,
    ⟨(some 32), .callv (.tmp 27) [(.tmp 29), (.tmp 31)], (some (26, true)), 0⟩,
    ⟨(some 33), .pick (.tmp 26) (.tmp 32) (.const (.bool false)), none, 0⟩,
    ⟨(some 4), .move (.tmp 33), none, 0⟩] false) (.ret)))
set_option maxRecDepth 100000 in
theorem c11_ok : FunOK Try.prog 11 34 [.tmp 4] c11 := ⟨⟨Try.f11, Try.func11, rfl, by kernel_rfl, rfl, by kernel_rfl⟩⟩
theorem same_world (start : List Int) (next : List (List Int)) (label : List Int) (fair : List (List Int)) (h1 : start.length ≤ 100000) (h2 : next.length ≤ 100000) (h3 : ∀ l ∈ next, l.length ≤ 100000) (h4 : label.length ≤ 100000) (h5 : fair.length ≤ 100000) (h6 : ∀ l ∈ fair, l.length ≤ 100000) :
    PCall Try.prog 11 [dwld start next label fair, dwld start next label fair] (.sc (.bool true)) := by
  refine pcall_intro c11_ok (by simp) (by simp [PureL, pure_dwld]) ?_ (by simp [Pure])
  unfold dwld
  (apply rd_sound; focus (repeat' constructor))
  ((conv=>whnf);repeat(refine And.intro rfl ?_;(conv=>whnf)))
  (refine .inl ⟨_, (equal_int start start (by omega)), ?_⟩; ((conv=>whnf);repeat(refine And.intro rfl ?_;(conv=>whnf))))
  rw [decide_eq_true rfl]
  ((conv=>whnf);repeat(refine And.intro rfl ?_;(conv=>whnf)))
  (refine .inl ⟨_, (same_lists next h2 h3), ?_⟩; ((conv=>whnf);repeat(refine And.intro rfl ?_;(conv=>whnf))))
  have hE := eq_u64 label label (by omega)
  rw [decide_eq_true rfl] at hE
  (refine .inl ⟨_, hE, ?_⟩; ((conv=>whnf);repeat(refine And.intro rfl ?_;(conv=>whnf))))
  (refine .inl ⟨_, (same_lists fair h5 h6), ?_⟩; ((conv=>whnf);repeat(refine And.intro rfl ?_;(conv=>whnf))))
  exact .refl _
theorem fit_next {M : List (List Int)} {N : List (List EdgeD)} {s : Nat} (hS : SpN M N s) (hA : atL N N.length ≤ 600) : (allL N 0).length ≤ 100000 ∧ (rnNext N).length ≤ 100000 ∧ ∀ l ∈ rnNext N, l.length ≤ 100000 := by
  refine ⟨by rw [allL_len]; have := many_small hS 0; omega, by rw [rnNext_len]; omega, fun l hl => ?_⟩
  unfold rnNext at hl
  obtain ⟨t, _, rfl⟩ := List.mem_map.1 hl
  rw [allL_len]
  have := many_small hS t.toNat
  omega
def c4 : PC := .seq (.ops [⟨(some 3), .box (.tmp 0), none, 0⟩,
    ⟨(some 6), .move (.const (.bool false)), none, 0⟩] false) (.seq (.ops [⟨(some 16), .loadA 2 (.tmp 3), none, 0⟩,
    ⟨(some 17), .move (.tmp 1), none, 0⟩,
    ⟨(some 18), .move (.tmp 2), none, 0⟩,
    ⟨(some 19), .call 10 [(.tmp 16), (.tmp 17), (.tmp 18)], none, 0⟩,
    ⟨(some 15), .move (.tmp 19), none, 0⟩,
    ⟨(some 20), .ext 0 (.tmp 15), none, 0⟩,
    ⟨(some 21), .ext 1 (.tmp 15), none, 0⟩,
    ⟨(some 22), .ext 2 (.tmp 15), none, 0⟩,
    ⟨(some 7), .alloc [(.slice none 0 0), (.slice none 0 0), (.slice none 0 0), (.slice none 0 0)], none, 0⟩,
    ⟨none, .store 4 (.tmp 7) (.tmp 20), none, 0⟩,
    ⟨(some 8), .move (.tmp 21), none, 0⟩,
    ⟨(some 9), .move (.tmp 22), none, 0⟩] false) (.seq (.ops [⟨(some 24), .loadA 2 (.tmp 3), none, 0⟩,
    ⟨(some 25), .move (.tmp 1), none, 0⟩,
    ⟨(some 26), .move (.tmp 2), none, 0⟩,
    ⟨(some 27), .call 7 [(.tmp 24), (.tmp 25), (.tmp 26)], none, 0⟩,
    ⟨(some 23), .move (.tmp 27), none, 0⟩,
    ⟨(some 28), .ext 0 (.tmp 23), none, 0⟩,
    ⟨(some 29), .ext 1 (.tmp 23), none, 0⟩,
    ⟨(some 30), .ext 2 (.tmp 23), none, 0⟩,
    ⟨(some 10), .alloc [(.slice none 0 0), (.slice none 0 0)], none, 0⟩,
    ⟨none, .store 2 (.tmp 10) (.tmp 28), none, 0⟩,
    ⟨(some 11), .move (.tmp 29), none, 0⟩,
    ⟨(some 12), .move (.tmp 30), none, 0⟩] false) (.seq (.seq (.ops [⟨(some 31), .move (.tmp 12), none, 0⟩,
    ⟨(some 32), .bin .neq (.tmp 31) (.const (.int .i64 0)), none, 0⟩] false) (.cond (.tmp 32) (.seq (.ops [⟨(some 33), .move (.tmp 9), none, 0⟩,
    ⟨(some 34), .move (.tmp 12), none, 0⟩,
    ⟨(some 35), .bin .eql (.tmp 33) (.tmp 34), none, 0⟩,
    ⟨(some 36), .move (.tmp 35), none, 0⟩,
    ⟨(some 37), .move (.tmp 8), (some (36, true)), 0⟩,
    ⟨(some 38), .len (.tmp 37), (some (36, true)), 0⟩,
    ⟨(some 39), .bin .eql (.tmp 38) (.const (.int .i64 0)), (some (36, true)), 0⟩,
    ⟨(some 40), .pick (.tmp 36) (.tmp 39) (.const (.bool false)), none, 0⟩,
    ⟨(some 41), .move (.tmp 40), none, 0⟩,
    ⟨(some 42), .loadA 4 (.tmp 7), (some (41, true)), 0⟩,
    ⟨(some 43), .build [(.slice none 0 0), (.slice none 0 0), (.slice none 0 0), (.slice none 0 0)] [], (some (41, true)), 0⟩,
    ⟨(some 44), .call 11 [(.tmp 42), (.tmp 43)], (some (41, true)), 0⟩,
    ⟨(some 45), .pick (.tmp 41) (.tmp 44) (.const (.bool false)), none, 0⟩,
    ⟨(some 6), .move (.tmp 45), none, 0⟩] false) (.ret)) (.skip))) (.seq (.ops [⟨(some 47), .loadA 2 (.tmp 3), none, 0⟩,
    ⟨(some 48), .loadA 2 (.tmp 10), none, 0⟩,
    ⟨(some 49), .call 12 [(.tmp 47), (.tmp 48)], none, 0⟩,
    ⟨(some 46), .move (.tmp 49), none, 0⟩,
    ⟨(some 50), .ext 0 (.tmp 46), none, 0⟩,
    ⟨(some 51), .ext 1 (.tmp 46), none, 0⟩,
    ⟨(some 52), .ext 2 (.tmp 46), none, 0⟩,
    ⟨(some 13), .alloc [(.slice none 0 0), (.slice none 0 0), (.slice none 0 0), (.slice none 0 0)], none, 0⟩,
    ⟨none, .store 4 (.tmp 13) (.tmp 50), none, 0⟩,
    ⟨(some 14), .move (.tmp 51), none, 0⟩,
    ⟨(some 12), .move (.tmp 52), none, 0⟩] false) (.seq (.ops [⟨(some 53), .move (.tmp 9), none, 0⟩,
    ⟨(some 54), .move (.tmp 12), none, 0⟩,
    ⟨(some 55), .bin .eql (.tmp 53) (.tmp 54), none, 0⟩,
    ⟨(some 56), .move (.tmp 55), none, 0⟩,
    ⟨(some 57), .move (.tmp 8), (some (56, true)), 0⟩,
    ⟨(some 58), .move (.tmp 14), (some (56, true)), 0⟩,
    ⟨(some 59), .call 13 [(.tmp 57), (.tmp 58)], (some (56, true)), 0⟩,
    ⟨(some 60), .pick (.tmp 56) (.tmp 59) (.const (.bool false)), none, 0⟩,
    ⟨(some 61), .move (.tmp 60), none, 0⟩,
    ⟨(some 62), .loadA 4 (.tmp 7), (some (61, true)), 0⟩,
    ⟨(some 63), .loadA 4 (.tmp 13), (some (61, true)), 0⟩,
    ⟨(some 64), .call 11 [(.tmp 62), (.tmp 63)], (some (61, true)), 0⟩,
    ⟨(some 65), .pick (.tmp 61) (.tmp 64) (.const (.bool false)), none, 0⟩,
    ⟨(some 6), .move (.tmp 65), none, 0⟩] false) (.ret))))))
set_option maxRecDepth 100000 in
theorem c4_ok : FunOK Try.prog 4 66 [.tmp 6] c4 := ⟨⟨Try.f4, Try.func4, rfl, by kernel_rfl, rfl, by kernel_rfl⟩⟩
set_option maxRecDepth 100000 in
theorem law_RunsSays (P : ProcD) (hP : P.Fits) (tok st : Int) : PCall Try.prog 4 [dproc P, .sc (.int .i64 tok), .sc (.int .i64 st)] (dbool true) := by
  refine pcall_intro c4_ok (by simp) (by simp [PureL, Pure, pure_dproc]) ?_ (by simp [dbool, Pure])
  have hR := ref_Explored P hP tok st
  have h00 := same_world [] [] [] [] (by simp) (by simp) (by simp) (by simp) (by simp) (by simp)
  by_cases he : P.exE tok st = 0
  · have hF := found_fine he
    have hA := runs_Of0 P hP tok st he hF
    have hB := ref_Runs P hP _ _ hF
    have hfit := fit_next hF.sp
    rw [he] at hR
    have h60 := (ProcD.stepsE_zero hF.steps).2.2
    have hl1 := rnLab_len P.stepsL (P.exN tok st)
    have hl2 := rnFair_len P.stepsL (P.exN tok st)
    have hl3 := ofTo_len (P.exN tok st) (P.exN tok st).length
    have hfr : ∀ l ∈ rnFair P.stepsL (P.exN tok st), l.length ≤ atL (P.exN tok st) (P.exN tok st).length := fun l hl => by
      unfold rnFair at hl
      obtain ⟨k, _, rfl⟩ := List.mem_map.1 hl
      exact fairTo_len _ _ _ _
    generalize P.exM tok st = M at *
    generalize P.exN tok st = N at *
    by_cases hA' : atL N N.length ≤ 600
    · rw [if_pos hA'] at hA hB
      obtain ⟨f1, f2, f3⟩ := hfit hA'
      have hS := same_world (allL N 0) (rnNext N) (rnLab P.stepsL N) (rnFair P.stepsL N) f1 f2 f3 (by omega) (by omega) (fun l hl => by have := hfr l hl; omega)
      have hO := equal_edge (ofTo N N.length) (ofTo N N.length) (by omega)
      rw [decide_eq_true rfl] at hO
      generalize allL N 0 = a1 at *
      generalize rnNext N = a2 at *
      generalize rnLab P.stepsL N = a3 at *
      generalize rnFair P.stepsL N = a4 at *
      generalize ofTo N N.length = a5 at *
      (apply rd_sound; focus (repeat' constructor))
      ((conv=>whnf);repeat(refine And.intro rfl ?_;(conv=>whnf)))
      (refine .inl ⟨_, hA, ?_⟩; ((conv=>whnf);repeat(refine And.intro rfl ?_;(conv=>whnf))))
      (refine .inl ⟨_, hR, ?_⟩; ((conv=>whnf);repeat(refine And.intro rfl ?_;(conv=>whnf))))
      (refine .inl ⟨_, hB, ?_⟩; ((conv=>whnf);repeat(refine And.intro rfl ?_;(conv=>whnf))))
      (refine .inl ⟨_, hO, ?_⟩; ((conv=>whnf);repeat(refine And.intro rfl ?_;(conv=>whnf))))
      (refine .inl ⟨_, hS, ?_⟩; ((conv=>whnf);repeat(refine And.intro rfl ?_;(conv=>whnf))))
      exact .refl _
    · rw [if_neg hA'] at hA hB
      have hO := equal_edge [] [] (by simp)
      rw [decide_eq_true rfl] at hO
      (apply rd_sound; focus (repeat' constructor))
      ((conv=>whnf);repeat(refine And.intro rfl ?_;(conv=>whnf)))
      (refine .inl ⟨_, hA, ?_⟩; ((conv=>whnf);repeat(refine And.intro rfl ?_;(conv=>whnf))))
      (refine .inl ⟨_, hR, ?_⟩; ((conv=>whnf);repeat(refine And.intro rfl ?_;(conv=>whnf))))
      (refine .inl ⟨_, hB, ?_⟩; ((conv=>whnf);repeat(refine And.intro rfl ?_;(conv=>whnf))))
      (refine .inl ⟨_, hO, ?_⟩; ((conv=>whnf);repeat(refine And.intro rfl ?_;(conv=>whnf))))
      (refine .inl ⟨_, h00, ?_⟩; ((conv=>whnf);repeat(refine And.intro rfl ?_;(conv=>whnf))))
      exact .refl _
  · have hA := runs_Of1 P hP tok st he
    generalize P.exE tok st = e at *
    generalize P.exM tok st = M at *
    generalize P.exN tok st = N at *
    (apply rd_sound; focus (repeat' constructor))
    ((conv=>whnf);repeat(refine And.intro rfl ?_;(conv=>whnf)))
    (refine .inl ⟨_, hA, ?_⟩; ((conv=>whnf);repeat(refine And.intro rfl ?_;(conv=>whnf))))
    (refine .inl ⟨_, hR, ?_⟩; ((conv=>whnf);repeat(refine And.intro rfl ?_;(conv=>whnf))))
    (refine ifK_split (fun q => ?_) (fun q => ?_) <;> (rw [q]; ((conv=>whnf);repeat(refine And.intro rfl ?_;(conv=>whnf)))))
    · rw [show (e == e) = true by simp]
      ((conv=>whnf);repeat(refine And.intro rfl ?_;(conv=>whnf)))
      refine .inr (.inl ⟨_, _, .cons _ _ _ _ (.refl _) (.cons _ _ _ _ (.agg _ _ (.cons _ _ _ _ (.none _) (.cons _ _ _ _ (.none _) (.cons _ _ _ _ (.none _) (.cons _ _ _ _ (.none _) .nil))))) .nil), h00, rfl, ?_⟩)
      ((conv=>whnf);repeat(refine And.intro rfl ?_;(conv=>whnf)))
      exact .refl _
    · exfalso; ((try simp only [oo, reduceCtorEq] at *) <;> omega)
namespace runsSays
set_option maxRecDepth 100000 in
theorem law : ∀ Ds, OfAs Try.prog [25, 3, 3] Ds → PCall Try.prog 4 Ds (dbool true)
  | [a, b, c], h => by
    obtain ⟨P, rfl, hP⟩ := argProc h.1
    obtain ⟨n, rfl, _⟩ := argInt Try.underlying3 h.2.1
    obtain ⟨m, rfl, _⟩ := argInt Try.underlying3 h.2.2.1
    exact law_RunsSays P hP n m
theorem types : typesOK Try.prog [25, 3, 22, 23, 86, 134, 9] = true := by kernel_rfl
set_option maxRecDepth 100000 in
theorem laidOut : laidOutB Try.prog = true := by kernel_rfl
set_option maxRecDepth 100000 in
theorem readable : (Try.f4.params.toList.all fun t => Try.prog.readableRec t && decide (t < Try.prog.types.size)) = true := by kernel_rfl
theorem own : ownKnob Try.prog.godebug = none := by kernel_rfl
set_option maxRecDepth 100000 in
theorem lifted (os : Os) (started : os.Started) (H : Type) (enc : TypeId × Value → H) :
    ReturnsInHanded {} Try.checked os 4 .any (Rows.runsSaysSpec.pre6 enc Try.prog Try.f4 Rows.runsSaysRow.domain false) (Rows.runsSaysSpec.post enc Try.prog Try.f4 false true false false) := by
  refine returnsInHanded_of_change_sized (C := Try.checked) own started (by kernel_rfl) Try.func4
    (ChangeSpec.witness6 (enc := enc) (C := Try.checked) false ⟨#[], #[.agg #[.slice none 0 0, .slice none 0 0], .int .i64 0, .int .i64 0], []⟩ 8 (by kernel_rfl) (by kernel_rfl) (by kernel_rfl) (by kernel_rfl)) ?_
  intro W base args ds gs before hval0 hW _ hsz _
  have hval : ∀ (j : Nat) t v, Try.f4.params[j]? = some t → args[j]? = some v → Value.okWide Try.prog W .any base t v := hval0
  have hW' := hW
  obtain ⟨p, q, hA0, hV, _, hfz, hnd⟩ := hW
  have hA : DataW.TrodAll enc Try.prog W 0 (fun _ => true) true Try.f4.params.toList args.toList ds p := hA0
  have hps : Try.f4.params.toList = [25, 3, 3] := by kernel_rfl
  obtain ⟨Ds, hD, hR⟩ := args_rep types (base := base) _ _ _ _ (fun t ht => by rw [hps] at ht; revert t; decide) (fun j t v h1 h2 => hval j t v (by simpa using h1) (by simpa using h2)) hA fun n hn => by
    have := List.all_eq_true.1 hsz n (weightsEach_pre _ _ _ _ (trodAll_len _ _ _ _ hA).symm n hn)
    simpa using this
  rw [hps] at hD
  have hC := (law Ds hD).run noInj (There W) W args.toList (fun b h => h) hR
  rw [show args.toList.toArray = args from rfl] at hC
  refine hC.mono fun e W' ⟨v, F', he, _, hv, hx⟩ => ?_
  have hv' : v = .bool true := by simpa only [rep, dbool] using hv
  subst he hv'
  exact ⟨_, rfl, row_post hW' rfl (by kernel_rfl) Try.underlying4 laidOut (fun t ht => by
      have := List.all_eq_true.1 readable t ht
      simp only [Bool.and_eq_true, decide_eq_true_eq] at this
      exact this) (fun ds h => by rw [hps] at h; match ds, h with | [_, _, _], _ => rfl) (below_of_ext hx) (ok_one (by kernel_rfl) rfl (okWide_bool_mk Try.underlying4 _))⟩

theorem over : Rows.runsSaysRow.holds Try.pinned (OpenSpec.ofChange Rows.runsSaysSpec) :=
  OpenClaim.holds_of_wide 4 Try.f4 rfl rfl rfl rfl rfl rfl rfl ⟨rfl, rfl, rfl, rfl, rfl⟩ rfl rfl rfl rfl rfl (by kernel_rfl) Try.func4 (by kernel_rfl)
    (of_decide_eq_true (by kernel_rfl)) (by unfold Func.isWrapper; first | (rw [if_pos (by decide +kernel)]; kernel_rfl) | (rw [if_neg (by decide +kernel)]; exact ⟨rfl, rfl⟩))
    (fun os started H enc _ => lifted os started H enc)

theorem proved : Rows.RunsSaysSaid := over
end runsSays
end Go.Proofs.Ytjnfahdolkgnoaa
