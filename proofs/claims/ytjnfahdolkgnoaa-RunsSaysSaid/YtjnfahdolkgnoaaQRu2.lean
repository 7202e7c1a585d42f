/-
  The world of a process: the program's Of, over deep values. No statement is proved here.
-/
import Derived.Test.YtjnfahdolkgnoaaQRu1
namespace Go.Proofs.Ytjnfahdolkgnoaa
open Go.RowKit
set_option linter.unusedSimpArgs false
set_option linter.unusedVariables false
/-! ### Plain -/
def rnNext (N : List (List EdgeD)) : List (List Int) := (gsTo N N.length).map fun t => allL N t.toNat
def rnLab (L : List StepD) (N : List (List EdgeD)) : List Int := (ofTo N N.length).map fun x => lab1 L x.1
def rnFair (L : List StepD) (N : List (List EdgeD)) : List (List Int) := (List.range L.length).map fun (k : Nat) => fairTo N (ofTo N N.length) (k : Int) (atL N N.length)
theorem rnNext_len (N : List (List EdgeD)) : (rnNext N).length = atL N N.length := by simp [rnNext, gsTo_len]
theorem rnLab_len (L : List StepD) (N : List (List EdgeD)) : (rnLab L N).length = atL N N.length := by simp [rnLab, ofTo_len]
theorem rnFair_len (L : List StepD) (N : List (List EdgeD)) : (rnFair L N).length = L.length := by simp [rnFair]
theorem take_succ' {α β : Type} {f : α → β} {l : List α} {d : α} {i : Nat} (h : i < l.length) : (l.map f).take (i + 1) = (l.map f).take i ++ [f (l.getD i d)] := by
  rw [List.take_add_one, List.getElem?_map, List.getElem?_eq_getElem h, List.getD_eq_getElem?_getD, List.getElem?_eq_getElem h]
  rfl
theorem rnNext_take {N : List (List EdgeD)} {m k : Nat} (hm : m < N.length) (hk : k < manyL N m) : (rnNext N).take (atL N m + k + 1) = (rnNext N).take (atL N m + k) ++ [allL N ((gsOf N m).getD k 0).toNat] := by
  have h1 := at_mono (N := N) (show m + 1 ≤ N.length by omega)
  rw [at_succ] at h1
  unfold rnNext
  rw [take_succ' (d := 0) (by rw [gsTo_len]; omega), gsTo_at hk N.length hm]
theorem rnLab_take {L : List StepD} {N : List (List EdgeD)} {m k : Nat} (hm : m < N.length) (hk : k < manyL N m) : (rnLab L N).take (atL N m + k + 1) = (rnLab L N).take (atL N m + k) ++ [lab1 L ((stOf N m).getD k (0, 0)).1] := by
  have h1 := at_mono (N := N) (show m + 1 ≤ N.length by omega)
  rw [at_succ] at h1
  unfold rnLab
  rw [take_succ' (d := (0, 0)) (by rw [ofTo_len]; omega), ofTo_at hk N.length hm]
theorem rnFair_take {L : List StepD} {N : List (List EdgeD)} {k : Nat} (h : k < L.length) : (rnFair L N).take (k + 1) = (rnFair L N).take k ++ [fairTo N (ofTo N N.length) (k : Int) (atL N N.length)] := by
  unfold rnFair
  rw [take_succ' (d := 0) (by simpa using h)]
  simp [List.getD_eq_getElem?_getD, List.getElem?_range, h]
def dlets (l : List Int) : D := .lst 1 (u64s l)
def dwld (start : List Int) (next : List (List Int)) (label : List Int) (fair : List (List Int)) : D := .agg [dints start, dgrid next, dlets label, dgrid fair]
theorem pure_dlets (l : List Int) : Pure (dlets l) := by simp only [dlets, Pure]; exact pure_u64s l
theorem pure_dwld (start : List Int) (next : List (List Int)) (label : List Int) (fair : List (List Int)) : Pure (dwld start next label fair) := by simp [dwld, Pure, PureL, pure_dints, pure_dgrid, pure_dlets]
theorem mrow_ren {ρ : Nat → Nat} {L : List StepD} {M : List (List Int)} {N : List (List EdgeD)} {o a y : D} : renL ρ (mrow L M N o a y) = mrow L M N (D.ren ρ o) (D.ren ρ a) (D.ren ρ y) := by
  have h1 := ren_pure (ρ := ρ) _ (pure_dsteps L)
  have h2 := ren_pure (ρ := ρ) _ (pure_dgrid M)
  have h3 := ren_pure (ρ := ρ) (.lst 1 (erows N)) (by simp only [Pure]; exact pure_erows N)
  unfold mrow
  simp only [renL, h1, h2, h3]
  rfl
theorem states_at (L : List StepD) (M : List (List Int)) (N : List (List EdgeD)) (s : Nat) (hS : SpN M N s) (o0 o1 o2 : AObj) :
    ACallAt Try.prog 35 [.loc 3 0] [o0, o1, o2, .row true (mrow L M N (.sc (.slice none 0 0)) (.sc (.slice none 0 0)) (.sc (.slice none 0 0)))] (.sc (.bool (decide ((atL N N.length : Int) ≤ 600))))
      [o0, o1, o2, .row true (mrow L M N (.own 4 (atL N N.length) 0 (atL N N.length)) (.own 5 N.length 0 N.length) (.own 6 N.length 0 N.length)), .vec true (atL N N.length) 2 (prows (ofTo N N.length)), .vec true N.length 1 (i64s (atsL N N.length)), .vec true N.length 1 (i64s (mansL N N.length))] [3, 4, 5, 6] := by
  refine acallAt_gen (runs_states L M N s hS) [3] rfl (by simp) (by simp [UnderL, Under]) (by simp [UnderO, AObj.under, mrow, UnderL, Under]) [3, 4, 5, 6] rfl rfl rfl (fun i o ho => ?_) ?_
  · match i with
    | 0 =>
      simp at ho
      subst ho
      simp only [AObj.ren, mrow_ren]
      rfl
    | i + 1 => simp at ho
  · simp only [List.length_cons, List.length_nil, List.take_succ_cons, List.take_zero, List.drop_succ_cons, List.drop_zero, List.map_cons, List.map_nil, AObj.ren, mrow_ren, renLL_pure _ (pure_prows _), renLL_i64s, putL]
    rfl
def c10_1 : PC := .seq (.ops [⟨(some 46), .bin .lss (.tmp 45) (.tmp 44), none, 0⟩] false) (.seq (.cond (.tmp 46) (.skip) (.exit 0)) (.seq (.block 1 (.seq (.ops [⟨(some 47), .move (.tmp 45), none, 0⟩,
    ⟨(some 12), .move (.tmp 47), none, 0⟩] false) (.seq (.ops [⟨(some 48), .move (.tmp 11), none, 0⟩,
    ⟨(some 49), .move (.tmp 11), none, 0⟩,
    ⟨(some 50), .nilchk (.tmp 49), none, 2⟩,
    ⟨(some 51), .faddr 6 (.tmp 50), none, 6⟩,
    ⟨(some 52), .faddr 1 (.tmp 51), none, 14⟩,
    ⟨(some 53), .load1 (.tmp 52), none, 30⟩,
    ⟨(some 54), .move (.tmp 11), none, 0⟩,
    ⟨(some 55), .move (.tmp 12), none, 0⟩,
    ⟨(some 56), .call 36 [(.tmp 54), (.tmp 55)], none, 192⟩,
    ⟨(some 57), .bslice 1 1 [(.tmp 56)], none, 448⟩,
    ⟨(some 58), .append 1 24 (.tmp 53) (.tmp 57), none, 1022⟩,
    ⟨(some 59), .nilchk (.tmp 48), none, 2047⟩,
    ⟨(some 60), .faddr 6 (.tmp 59), none, 4095⟩,
    ⟨(some 61), .faddr 1 (.tmp 60), none, 8191⟩,
    ⟨none, .store 1 (.tmp 61) (.tmp 58), none, 16383⟩] true) (.ops [⟨(some 62), .move (.tmp 11), none, 0⟩,
    ⟨(some 63), .move (.tmp 11), none, 0⟩,
    ⟨(some 64), .nilchk (.tmp 63), none, 2⟩,
    ⟨(some 65), .faddr 6 (.tmp 64), none, 6⟩,
    ⟨(some 66), .faddr 2 (.tmp 65), none, 14⟩,
    ⟨(some 67), .load1 (.tmp 66), none, 30⟩,
    ⟨(some 68), .move (.tmp 11), none, 0⟩,
    ⟨(some 69), .move (.tmp 12), none, 0⟩,
    ⟨(some 70), .call 37 [(.tmp 68), (.tmp 69)], none, 192⟩,
    ⟨(some 71), .bslice 1 1 [(.tmp 70)], none, 448⟩,
    ⟨(some 72), .append 1 8 (.tmp 67) (.tmp 71), none, 1022⟩,
    ⟨(some 73), .nilchk (.tmp 62), none, 2047⟩,
    ⟨(some 74), .faddr 6 (.tmp 73), none, 4095⟩,
    ⟨(some 75), .faddr 2 (.tmp 74), none, 8191⟩,
    ⟨none, .store 1 (.tmp 75) (.tmp 72), none, 16383⟩] true)))) (.ops [⟨(some 76), .bin .add (.tmp 45) (.const (.int .i64 1)), none, 0⟩,
    ⟨(some 45), .move (.tmp 76), none, 0⟩] false)))
def c10_2 : PC := .seq (.ops [⟨(some 89), .bin .lss (.tmp 88) (.tmp 87), none, 0⟩] false) (.seq (.cond (.tmp 89) (.skip) (.exit 2)) (.seq (.block 3 (.seq (.ops [⟨(some 90), .move (.tmp 88), none, 0⟩,
    ⟨(some 13), .move (.tmp 90), none, 0⟩] false) (.ops [⟨(some 91), .move (.tmp 11), none, 0⟩,
    ⟨(some 92), .move (.tmp 11), none, 0⟩,
    ⟨(some 93), .nilchk (.tmp 92), none, 2⟩,
    ⟨(some 94), .faddr 6 (.tmp 93), none, 6⟩,
    ⟨(some 95), .faddr 3 (.tmp 94), none, 14⟩,
    ⟨(some 96), .load1 (.tmp 95), none, 30⟩,
    ⟨(some 97), .move (.tmp 11), none, 0⟩,
    ⟨(some 98), .move (.tmp 13), none, 0⟩,
    ⟨(some 99), .call 39 [(.tmp 97), (.tmp 98)], none, 192⟩,
    ⟨(some 100), .bslice 1 1 [(.tmp 99)], none, 448⟩,
    ⟨(some 101), .append 1 24 (.tmp 96) (.tmp 100), none, 1022⟩,
    ⟨(some 102), .nilchk (.tmp 91), none, 2047⟩,
    ⟨(some 103), .faddr 6 (.tmp 102), none, 4095⟩,
    ⟨(some 104), .faddr 3 (.tmp 103), none, 8191⟩,
    ⟨none, .store 1 (.tmp 104) (.tmp 101), none, 16383⟩] true))) (.ops [⟨(some 105), .bin .add (.tmp 88) (.const (.int .i64 1)), none, 0⟩,
    ⟨(some 88), .move (.tmp 105), none, 0⟩] false)))
def c10 : PC := .seq (.ops [⟨(some 3), .box (.tmp 0), none, 0⟩,
    ⟨(some 6), .alloc [(.slice none 0 0), (.slice none 0 0), (.slice none 0 0), (.slice none 0 0)], none, 0⟩,
    ⟨(some 7), .move (.const (.slice none 0 0)), none, 0⟩,
    ⟨(some 8), .move (.const (.int .i64 0)), none, 0⟩] false) (.seq (.ops [⟨(some 15), .loadA 2 (.tmp 3), none, 0⟩,
    ⟨(some 16), .move (.tmp 1), none, 0⟩,
    ⟨(some 17), .move (.tmp 2), none, 0⟩,
    ⟨(some 18), .call 18 [(.tmp 15), (.tmp 16), (.tmp 17)], none, 0⟩,
    ⟨(some 14), .move (.tmp 18), none, 0⟩,
    ⟨(some 19), .ext 0 (.tmp 14), none, 0⟩,
    ⟨(some 20), .ext 1 (.tmp 14), none, 0⟩,
    ⟨(some 9), .alloc [(.slice none 0 0), (.slice none 0 0)], none, 0⟩,
    ⟨none, .store 2 (.tmp 9) (.tmp 19), none, 0⟩,
    ⟨(some 10), .move (.tmp 20), none, 0⟩] false) (.seq (.seq (.ops [⟨(some 21), .move (.tmp 10), none, 0⟩,
    ⟨(some 22), .bin .neq (.tmp 21) (.const (.int .i64 0)), none, 0⟩] false) (.cond (.tmp 22) (.seq (.ops [⟨(some 23), .build [(.slice none 0 0), (.slice none 0 0), (.slice none 0 0), (.slice none 0 0)] [], none, 0⟩,
    ⟨(some 24), .move (.tmp 10), none, 0⟩,
    ⟨none, .store 4 (.tmp 6) (.tmp 23), none, 0⟩,
    ⟨(some 7), .move (.const (.slice none 0 0)), none, 0⟩,
    ⟨(some 8), .move (.tmp 24), none, 0⟩] false) (.ret)) (.skip))) (.seq (.ops [⟨(some 25), .loadA 2 (.tmp 9), none, 0⟩,
    ⟨(some 26), .build [(.slice none 0 0), (.slice none 0 0), (.slice none 0 0), (.slice none 0 0), (.slice none 0 0), (.slice none 0 0), (.slice none 0 0), (.slice none 0 0), (.slice none 0 0), (.slice none 0 0)] [(1, 2, (.tmp 25))], none, 0⟩,
    ⟨(some 27), .box (.tmp 26), none, 0⟩,
    ⟨(some 11), .move (.tmp 27), none, 0⟩] false) (.seq (.ops [⟨(some 29), .move (.tmp 11), none, 0⟩,
    ⟨(some 30), .loadA 2 (.tmp 3), none, 0⟩,
    ⟨(some 31), .call 34 [(.tmp 30)], none, 0⟩,
    ⟨(some 28), .move (.tmp 31), none, 0⟩,
    ⟨(some 32), .ext 0 (.tmp 28), none, 0⟩,
    ⟨(some 33), .ext 1 (.tmp 28), none, 0⟩,
    ⟨(some 34), .nilchk (.tmp 29), none, 0⟩,
    ⟨(some 35), .faddr 0 (.tmp 34), none, 0⟩,
    ⟨none, .store 1 (.tmp 35) (.tmp 32), none, 0⟩] false) (.seq (.seq (.ops [⟨(some 36), .move (.tmp 11), none, 0⟩,
    ⟨(some 37), .call 35 [(.tmp 36)], none, 0⟩,
    ⟨(some 38), .un .not (.tmp 37), none, 0⟩] false) (.cond (.tmp 38) (.seq (.ops [⟨(some 39), .build [(.slice none 0 0), (.slice none 0 0), (.slice none 0 0), (.slice none 0 0)] [], none, 0⟩,
    ⟨none, .store 4 (.tmp 6) (.tmp 39), none, 0⟩,
    ⟨(some 7), .move (.const (.slice none 0 0)), none, 0⟩,
    ⟨(some 8), .move (.const (.int .i64 2)), none, 0⟩] false) (.ret)) (.skip))) (.seq (.seq (.ops [⟨(some 40), .move (.tmp 11), none, 0⟩,
    ⟨(some 41), .nilchk (.tmp 40), none, 0⟩,
    ⟨(some 42), .faddr 3 (.tmp 41), none, 0⟩,
    ⟨(some 43), .load1 (.tmp 42), none, 0⟩,
    ⟨(some 44), .len (.tmp 43), none, 0⟩,
    ⟨(some 45), .move (.const (.int .i64 0)), none, 0⟩] false) (.block 0 (.loop c10_1))) (.seq (.ops [⟨(some 77), .move (.tmp 11), none, 0⟩,
    ⟨(some 78), .move (.tmp 11), none, 0⟩,
    ⟨(some 79), .call 38 [(.tmp 78), (.const (.int .i64 0))], none, 0⟩,
    ⟨(some 80), .nilchk (.tmp 77), none, 0⟩,
    ⟨(some 81), .faddr 6 (.tmp 80), none, 0⟩,
    ⟨(some 82), .faddr 0 (.tmp 81), none, 0⟩,
    ⟨none, .store 1 (.tmp 82) (.tmp 79), none, 0⟩] false) (.seq (.seq (.ops [⟨(some 83), .move (.tmp 11), none, 0⟩,
    ⟨(some 84), .nilchk (.tmp 83), none, 0⟩,
    ⟨(some 85), .faddr 0 (.tmp 84), none, 0⟩,
    ⟨(some 86), .load1 (.tmp 85), none, 0⟩,
    ⟨(some 87), .len (.tmp 86), none, 0⟩,
    ⟨(some 88), .move (.const (.int .i64 0)), none, 0⟩] false) (.block 2 (.loop c10_2))) (.seq (.ops [⟨(some 106), .move (.tmp 11), none, 0⟩,
    ⟨(some 107), .nilchk (.tmp 106), none, 1⟩,
    ⟨(some 108), .faddr 6 (.tmp 107), none, 3⟩,
    ⟨(some 109), .loadA 4 (.tmp 108), none, 7⟩,
    ⟨(some 110), .move (.tmp 11), none, 0⟩,
    ⟨(some 111), .nilchk (.tmp 110), none, 16⟩,
    ⟨(some 112), .faddr 3 (.tmp 111), none, 48⟩,
    ⟨(some 113), .load1 (.tmp 112), none, 112⟩,
    ⟨none, .store 4 (.tmp 6) (.tmp 109), none, 15⟩,
    ⟨(some 7), .move (.tmp 113), none, 511⟩,
    ⟨(some 8), .move (.const (.int .i64 0)), none, 1023⟩] true) (.ret))))))))))
set_option maxRecDepth 100000 in
theorem c10_ok : FunOK Try.prog 10 114 [.agg 6 4, .tmp 7, .tmp 8] c10 := ⟨⟨Try.f10, Try.func10, rfl, by kernel_rfl, rfl, by kernel_rfl⟩⟩
set_option maxRecDepth 100000 in
theorem runs_Of1 (P : ProcD) (hP : P.Fits) (tok st : Int) (he : P.exE tok st ≠ 0) : PCall Try.prog 10 [dproc P, .sc (.int .i64 tok), .sc (.int .i64 st)] (.tup [dwld [] [] [] [], dpairs [], .sc (.int .i64 (P.exE tok st))]) := by
  have hE := space_Explore P hP tok st
  refine pcall_intro c10_ok (by simp) (by simp [PureL, Pure, pure_dproc]) ?_ (by simp [Pure, PureL, pure_dwld, pure_dpairs])
  generalize P.exE tok st = e at *
  (apply rd_sound; focus (repeat' constructor))
  ((conv=>whnf);repeat(refine And.intro rfl ?_;(conv=>whnf)))
  (refine .inl ⟨_, hE, ?_⟩; ((conv=>whnf);repeat(refine And.intro rfl ?_;(conv=>whnf))))
  (refine ifK_split (fun h1 => ?_) (fun h1 => ?_) <;> (rw [h1]; ((conv=>whnf);repeat(refine And.intro rfl ?_;(conv=>whnf)))))
  · exact .tup _ _ (.cons _ _ _ _ (.agg _ _ (.cons _ _ _ _ (.none _) (.cons _ _ _ _ (.none _) (.cons _ _ _ _ (.none _) (.cons _ _ _ _ (.none _) .nil))))) (.cons _ _ _ _ (.none _) (.cons _ _ _ _ (.refl _) .nil)))
  · exfalso; ((try simp only [oo, reduceCtorEq] at *) <;> omega)
set_option maxRecDepth 100000 in
theorem runs_Of0 (P : ProcD) (hP : P.Fits) (tok st : Int) (he : P.exE tok st = 0) (hF : FndN P (P.exM tok st) (P.exN tok st)) : PCall Try.prog 10 [dproc P, .sc (.int .i64 tok), .sc (.int .i64 st)]
    (if atL (P.exN tok st) (P.exN tok st).length ≤ 600 then .tup [dwld (allL (P.exN tok st) 0) (rnNext (P.exN tok st)) (rnLab P.stepsL (P.exN tok st)) (rnFair P.stepsL (P.exN tok st)), dpairs (ofTo (P.exN tok st) (P.exN tok st).length), .sc (.int .i64 0)] else .tup [dwld [] [] [] [], dpairs [], .sc (.int .i64 2)]) := by
  have hE := space_Explore P hP tok st
  rw [he] at hE
  generalize P.exM tok st = M at *
  generalize P.exN tok st = N at *
  have hS := hF.sp
  have hf := hS.few
  have hl := hS.len
  have hpos := hS.pos
  obtain ⟨h0, _, h60⟩ := ProcD.stepsE_zero hF.steps
  have hnode : ∀ j, j < P.stepsL.length → 0 ≤ (P.stepsL.getD j (0, 0, 0)).1 ∧ (P.stepsL.getD j (0, 0, 0)).1 ≤ 63 := fun j hj => by
    have h1 := (ProcD.stepAt_ok hF.steps hj).node
    have := (chk_small h0).1
    omega
  refine pcall_intro c10_ok (by simp) (by simp [PureL, Pure, pure_dproc]) ?_ (by split <;> simp [Pure, PureL, pure_dwld, pure_dpairs])
  (apply rd_sound; focus (repeat' constructor))
  ((conv=>whnf);repeat(refine And.intro rfl ?_;(conv=>whnf)))
  (refine .inl ⟨_, hE, ?_⟩; ((conv=>whnf);repeat(refine And.intro rfl ?_;(conv=>whnf))))
  (refine .inl ⟨_, (steps_Of P hP), ?_⟩; ((conv=>whnf);repeat(refine And.intro rfl ?_;(conv=>whnf))))
  (refine .inr (.inr (.inr (.inr (.inl ⟨_, _, _, (states_at P.stepsL M N P.stepsL.length hS _ _ _), ?_⟩)))); ((conv=>whnf);repeat(refine And.intro rfl ?_;(conv=>whnf))))
  by_cases hA : atL N N.length ≤ 600
  · have hb : decide ((atL N N.length : Int) ≤ 600) = true := decide_eq_true (by omega)
    rw [hb, if_pos hA]
    ((conv=>whnf);repeat(refine And.intro rfl ?_;(conv=>whnf)))
    rw [Nat.sub_zero]
    have hNl := rnNext_len N
    have hLl := rnLab_len P.stepsL N
    have hFl := rnFair_len P.stepsL N
    have hd0 : Pure (.sc (.slice none 0 0)) := pure_sc _
    have hd1 : Pure (dints (allL N 0)) := pure_dints _
    have hnext := fun i X Y m k (hm : m < N.length) (hk : k < manyL N m) => runs_next P.stepsL M N _ hS _ hd0 i i 0 X Y [] m k hm hk
    have hlab := fun i j X Y m k (hm : m < N.length) (hk : k < manyL N m) => runs_label P.stepsL M N _ hS _ hd0 i j 0 X Y [] hnode rfl m k hm hk
    have hall := fun X Y => runs_all P.stepsL M N _ hS _ hd0 (atL N N.length) (atL N N.length) 0 X Y [] 0 (by omega)
    have hfair := fun k X Y Z st => runs_fair P.stepsL M N _ hS _ hd1 (atL N N.length) (atL N N.length) k X Y Z st
    have hfz : List.drop 0 (List.take (atL N N.length) (prows (ofTo N N.length))) = prows (ofTo N N.length) := drop_take_all (by simp [ofTo_len])
    have hfa : List.drop 0 (List.take N.length (i64s (atsL N N.length))) = i64s (atsL N N.length) := drop_take_all (by simp [i64s, atsL])
    have hfm : List.drop 0 (List.take N.length (i64s (mansL N N.length))) = i64s (mansL N N.length) := drop_take_all (by simp [i64s, mansL])
    refine pwp_ghostB (leB_trans (leB_freeze (fun i => i == 4 || i == 5 || i == 6) (env' := [(6, .loc 1 0), (11, .loc 3 0), (44, .sc (.int .i64 (atL N N.length))), (45, .sc (.int .i64 0))])
      (H' := [.row true P.cells, .row true [.sc (.slice none 0 0), .sc (.slice none 0 0), .sc (.slice none 0 0), .sc (.slice none 0 0)], .row true (scells M N), .row true [dsteps P.stepsL, dgrid M, .lst 1 (erows N), dpairs (ofTo N N.length), dints (atsL N N.length), dints (mansL N N.length), .sc (.slice none 0 0), .sc (.slice none 0 0), .sc (.slice none 0 0), .sc (.slice none 0 0)],
        .vec false (atL N N.length) 2 (prows (ofTo N N.length)), .vec false N.length 1 (i64s (atsL N N.length)), .vec false N.length 1 (i64s (mansL N N.length))])
      ⟨.refl _, .refl _, .refl _, .refl _, trivial⟩ ?_)
      (leB_trans (leB_nilc 3 7 1 (by simp) rfl rfl) (leB_trans (leB_nilc 3 8 1 (by simp) rfl rfl) (leB_nilc 3 9 1 (by simp) rfl rfl)))) ?_
    · refine ⟨⟨.inl rfl, (fun h => by cases h), .refl _⟩, ⟨.inl rfl, (fun h => by cases h), .refl _⟩, ⟨.inl rfl, (fun h => by cases h), .refl _⟩, ⟨.inl rfl, (fun h => by cases h), ?_⟩, ⟨.inr ⟨rfl, rfl⟩, fun _ => rfl, rfl, rfl, .refl _⟩, ⟨.inr ⟨rfl, rfl⟩, fun _ => rfl, rfl, rfl, .refl _⟩, ⟨.inr ⟨rfl, rfl⟩, fun _ => rfl, rfl, rfl, .refl _⟩, trivial⟩
      refine .cons _ _ _ _ (.refl _) (.cons _ _ _ _ (.refl _) (.cons _ _ _ _ (.refl _) (.cons _ _ _ _ (.own _ _ _ _ _ _ _ _ rfl rfl (deepMLL_eq hfz)) (.cons _ _ _ _ (.own _ _ _ _ _ _ _ _ rfl rfl (deepMLL_eq hfa)) (.cons _ _ _ _ (.own _ _ _ _ _ _ _ _ rfl rfl (deepMLL_eq hfm)) (.refl _))))))
    refine pwp_forH [6, 11, 44] (fun i : Nat => [(45, .sc (.int .i64 i))])
      (fun i => [.row true P.cells, .row true [.sc (.slice none 0 0), .sc (.slice none 0 0), .sc (.slice none 0 0), .sc (.slice none 0 0)], .row true (scells M N), .row true (mbox P.stepsL M N (.sc (.slice none 0 0)) 7 i 8 i 9 0),
        .vec false (atL N N.length) 2 (prows (ofTo N N.length)), .vec false N.length 1 (i64s (atsL N N.length)), .vec false N.length 1 (i64s (mansL N N.length)), .vec true i 1 (grows ((rnNext N).take i)), .vec true i 1 (u64s ((rnLab P.stepsL N).take i)), .vec true 0 1 (grows [])])
      (fun i => i ≤ atL N N.length) (fun i => atL N N.length - i) 0 ?_
    ((conv=>whnf);repeat(refine And.intro rfl ?_;(conv=>whnf)))
    refine ⟨by omega, by (repeat' (first | exact trivial | refine And.intro rfl ?_)), rfl, ?_⟩
    rintro i hi
    ((conv=>whnf);repeat(refine And.intro rfl ?_;(conv=>whnf)))
    (apply rd_sound; focus (repeat' constructor))
    ((conv=>whnf);repeat(refine And.intro rfl ?_;(conv=>whnf)))
    (refine ifK_split (fun h1 => ?_) (fun h1 => ?_) <;> (rw [h1]; ((conv=>whnf);repeat(refine And.intro rfl ?_;(conv=>whnf)))))
    · have hi' : i < atL N N.length := by ((try simp only [oo, reduceCtorEq] at *) <;> omega)
      obtain ⟨m, k, q1, q2, rfl⟩ := of_split hi'
      have e1 := rnNext_take q1 q2
      have e2 := rnLab_take (L := P.stepsL) q1 q2
      have l1 : ((rnNext N).take (atL N m + k)).length = atL N m + k := by rw [List.length_take]; omega
      have l2 : ((rnLab P.stepsL N).take (atL N m + k)).length = atL N m + k := by rw [List.length_take]; omega
      have hn := fun X Y => hnext (atL N m + k) X Y m k q1 q2
      have hlb := fun j X Y => hlab (atL N m + k + 1) j X Y m k q1 q2
      (refine .inr (.inr (.inr (.inr (.inr (.inr ⟨_, _, (aread_m hd0 (hn _ _) (by simp [PureL, Pure]) (pure_dints _) 3 7 8 9 (by decide) rfl rfl rfl rfl), ?_⟩))))); ((conv=>whnf);repeat(refine And.intro rfl ?_;(conv=>whnf))))
      rw [show List.drop 0 (List.take (atL N m + k) (grows (List.take (atL N m + k) (rnNext N)))) ++ List.drop 0 (List.take 1 [[dints (allL N ((gsOf N m).getD k 0).toNat)]]) = grows ((rnNext N).take (atL N m + k + 1)) from by rw [e1]; exact grows_snoc l1.symm]
      refine ⟨(by unfold sliceAppend; simp only [ll]; omega), ?_⟩
      ((conv=>whnf);repeat(refine And.intro rfl ?_;(conv=>whnf)))
      (refine .inr (.inr (.inr (.inr (.inr (.inr ⟨_, _, (aread_m hd0 (hlb (atL N m + k) _ _) (by simp [PureL, Pure]) (pure_sc _) 3 7 8 9 (by decide) rfl rfl rfl rfl), ?_⟩))))); ((conv=>whnf);repeat(refine And.intro rfl ?_;(conv=>whnf))))
      rw [show List.drop 0 (List.take (atL N m + k) (u64s (List.take (atL N m + k) (rnLab P.stepsL N)))) ++ List.drop 0 (List.take 1 [[D.sc (.int .u64 (lab1 P.stepsL ((stOf N m).getD k (0, 0)).1))]]) = u64s ((rnLab P.stepsL N).take (atL N m + k + 1)) from by rw [e2]; exact u64s_snoc l2.symm]
      refine ⟨(by unfold sliceAppend; simp only [ll]; omega), ?_⟩
      ((conv=>whnf);repeat(refine And.intro rfl ?_;(conv=>whnf)))
      (refine .inl ⟨by (unfold InR; rw [IntKind.wrap_i64]; omega), ?_⟩; ((conv=>whnf);repeat(refine And.intro rfl ?_;(conv=>whnf))))
      refine ⟨atL N m + k + 1, by omega, by dsimp only; omega, ?_⟩
      (refine leB_close 10 (by simp) rfl ?_ ?_ <;> (repeat' (first | exact trivial | exact rfl | exact DeepM.refl _ | exact DeepML.refl _ | exact DeepMLL.refl _ | refine And.intro ?_ ?_ | (simp [Under, UnderL, UnderLL, -List.map_take, -List.map_drop]; done))))
    · have hi' : i = atL N N.length := by have : ¬ i < atL N N.length := by ((try simp only [oo, reduceCtorEq] at *) <;> omega)
                                          omega
      subst hi'
      rw [List.take_of_length_le (by omega), List.take_of_length_le (by omega)]
      (refine .inr (.inr (.inr (.inr (.inr (.inr ⟨_, _, (aread_m hd0 (hall _ _) (by simp [PureL, Pure]) (pure_dints _) 3 7 8 9 (by decide) rfl rfl rfl rfl), ?_⟩))))); ((conv=>whnf);repeat(refine And.intro rfl ?_;(conv=>whnf))))
      rw [srows_len]
      refine pwp_forH [6, 11, 87] (fun i : Nat => [(88, .sc (.int .i64 i))])
        (fun i => [.row true P.cells, .row true [.sc (.slice none 0 0), .sc (.slice none 0 0), .sc (.slice none 0 0), .sc (.slice none 0 0)], .row true (scells M N), .row true (mbox P.stepsL M N (dints (allL N 0)) 7 (atL N N.length) 8 (atL N N.length) 9 i),
          .vec false (atL N N.length) 2 (prows (ofTo N N.length)), .vec false N.length 1 (i64s (atsL N N.length)), .vec false N.length 1 (i64s (mansL N N.length)), .vec true (atL N N.length) 1 (grows (rnNext N)), .vec true (atL N N.length) 1 (u64s (rnLab P.stepsL N)), .vec true i 1 (grows ((rnFair P.stepsL N).take i))])
        (fun i => i ≤ P.stepsL.length) (fun i => P.stepsL.length - i) 0 ?_
      ((conv=>whnf);repeat(refine And.intro rfl ?_;(conv=>whnf)))
      refine ⟨by omega, by (repeat' (first | exact trivial | refine And.intro rfl ?_)), rfl, ?_⟩
      rintro k hk
      ((conv=>whnf);repeat(refine And.intro rfl ?_;(conv=>whnf)))
      (apply rd_sound; focus (repeat' constructor))
      ((conv=>whnf);repeat(refine And.intro rfl ?_;(conv=>whnf)))
      (refine ifK_split (fun h2 => ?_) (fun h2 => ?_) <;> (rw [h2]; ((conv=>whnf);repeat(refine And.intro rfl ?_;(conv=>whnf)))))
      · have hk' : k < P.stepsL.length := by ((try simp only [oo, reduceCtorEq] at *) <;> omega)
        have e1 := rnFair_take (N := N) hk'
        have l1 : ((rnFair P.stepsL N).take k).length = k := by rw [List.length_take]; omega
        (refine .inr (.inr (.inr (.inr (.inr (.inr ⟨_, _, (aread_m hd1 (hfair k _ _ _ k) (by simp [PureL, Pure]) (pure_dints _) 3 7 8 9 (by decide) rfl rfl rfl rfl), ?_⟩))))); ((conv=>whnf);repeat(refine And.intro rfl ?_;(conv=>whnf))))
        refine ⟨(by unfold sliceAppend; simp only [ll]; omega), ?_⟩
        ((conv=>whnf);repeat(refine And.intro rfl ?_;(conv=>whnf)))
        (refine .inl ⟨by (unfold InR; rw [IntKind.wrap_i64]; omega), ?_⟩; ((conv=>whnf);repeat(refine And.intro rfl ?_;(conv=>whnf))))
        refine ⟨k + 1, by omega, by dsimp only; omega, ?_⟩
        dsimp only
        rw [e1]
        (refine leB_close 10 (by simp) rfl ?_ ?_ <;> (repeat' (first | exact trivial | exact rfl | exact DeepM.refl _ | exact DeepML.refl _ | exact DeepMLL.refl _ | refine And.intro ?_ ?_ | (simp [Under, UnderL, UnderLL, -List.map_take, -List.map_drop]; done))))
        exact deepMLL_eq (grows_snoc l1.symm)
      · have hk' : k = P.stepsL.length := by have : ¬ k < P.stepsL.length := by ((try simp only [oo, reduceCtorEq] at *) <;> omega)
                                             omega
        subst hk'
        rw [List.take_of_length_le (by omega)]
        refine .tup _ _ (.cons _ _ _ _ (.agg _ _ (.cons _ _ _ _ (.refl _) (.cons _ _ _ _ (.own _ _ _ _ _ _ _ _ rfl ?_) (.cons _ _ _ _ (.own _ _ _ _ _ _ _ _ rfl ?_) (.cons _ _ _ _ (.own _ _ _ _ _ _ _ _ rfl ?_) .nil))))) (.cons _ _ _ _ (.refl _) (.cons _ _ _ _ (.refl _) .nil)))
        · rw [drop_take_all (by simp [grows, hNl])]; exact deepLL_refl _
        · rw [drop_take_all (by simp [u64s, hLl])]; exact deepLL_refl _
        · rw [drop_take_all (by simp [grows, hFl])]; exact deepLL_refl _
  · have hb : decide ((atL N N.length : Int) ≤ 600) = false := decide_eq_false (by omega)
    rw [hb, if_neg hA]
    ((conv=>whnf);repeat(refine And.intro rfl ?_;(conv=>whnf)))
    exact .tup _ _ (.cons _ _ _ _ (.agg _ _ (.cons _ _ _ _ (.none _) (.cons _ _ _ _ (.none _) (.cons _ _ _ _ (.none _) (.cons _ _ _ _ (.none _) .nil))))) (.cons _ _ _ _ (.none _) (.cons _ _ _ _ (.refl _) .nil)))
end Go.Proofs.Ytjnfahdolkgnoaa
