/-
  Verdicts that are played: the program, over deep values. No statement is proved here.
-/
import Derived.Test.YteckcflliaecpaaRy0
import Derived.Test.YteckcflliaecpaaPy1
namespace Go.Proofs.Yteckcflliaecpaa
open Go.RowKit
set_option linter.unusedSimpArgs false
set_option linter.unusedVariables false
open Classical in
noncomputable def oneE (P : ProcD) (M : List Int) (k : Int) : Int := if k = -1 then (if P.enL M = [] then 0 else 9) else P.firE M k
open Classical in
noncomputable def oneL (P : ProcD) (M : List Int) (k : Int) : List Int := if k = -1 then (if P.enL M = [] then M else []) else P.firL M k
theorem rerr_one (P : ProcD) (l : List Int) (i : Nat) : P.rerr l i = oneE P (P.rnow l i) (l.getD i 0) := by unfold ProcD.rerr oneE; rfl
theorem rnow_one {P : ProcD} {l : List Int} {i : Nat} (h : P.rerr l i = 0) : P.rnow l (i + 1) = oneL P (P.rnow l i) (l.getD i 0) := by
  unfold ProcD.rerr at h
  unfold oneL
  simp only [ProcD.rnow]
  split
  · rename_i q
    rw [if_pos q] at h
    split at h
    · rename_i q2; rw [if_pos q2]
    · cases h
  · rfl
def c8 : PC := .seq (.ops [⟨(some 3), .box (.tmp 0), none, 0⟩,
    ⟨(some 6), .move (.const (.slice none 0 0)), none, 0⟩,
    ⟨(some 7), .move (.const (.int .i64 0)), none, 0⟩] false) (.seq (.seq (.ops [⟨(some 10), .move (.tmp 2), none, 0⟩,
    ⟨(some 11), .bin .neq (.tmp 10) (.const (.int .i64 (-1))), none, 0⟩] false) (.cond (.tmp 11) (.seq (.ops [⟨(some 12), .loadA 2 (.tmp 3), none, 0⟩,
    ⟨(some 13), .move (.tmp 1), none, 0⟩,
    ⟨(some 14), .move (.tmp 2), none, 0⟩,
    ⟨(some 15), .call 17 [(.tmp 12), (.tmp 13), (.tmp 14)], none, 0⟩,
    ⟨(some 16), .ext 0 (.tmp 15), none, 0⟩,
    ⟨(some 17), .ext 1 (.tmp 15), none, 0⟩,
    ⟨(some 6), .move (.tmp 16), none, 0⟩,
    ⟨(some 7), .move (.tmp 17), none, 0⟩] false) (.ret)) (.skip))) (.seq (.seq (.ops [⟨(some 19), .loadA 2 (.tmp 3), none, 0⟩,
    ⟨(some 20), .move (.tmp 1), none, 0⟩,
    ⟨(some 21), .call 18 [(.tmp 19), (.tmp 20)], none, 0⟩,
    ⟨(some 18), .move (.tmp 21), none, 0⟩,
    ⟨(some 22), .ext 0 (.tmp 18), none, 0⟩,
    ⟨(some 23), .ext 1 (.tmp 18), none, 0⟩,
    ⟨(some 8), .move (.tmp 22), none, 0⟩,
    ⟨(some 9), .move (.tmp 23), none, 0⟩] false) (.seq (.ops [⟨(some 24), .move (.tmp 8), none, 0⟩,
    ⟨(some 25), .len (.tmp 24), none, 0⟩,
    ⟨(some 26), .bin .gtr (.tmp 25) (.const (.int .i64 0)), none, 0⟩] false) (.cond (.tmp 26) (.seq (.ops [⟨(some 6), .move (.const (.slice none 0 0)), none, 0⟩,
    ⟨(some 7), .move (.const (.int .i64 9)), none, 0⟩] false) (.ret)) (.skip)))) (.seq (.ops [⟨(some 27), .move (.tmp 1), none, 0⟩,
    ⟨(some 28), .call 19 [(.tmp 27)], none, 0⟩,
    ⟨(some 6), .move (.tmp 28), none, 0⟩,
    ⟨(some 7), .move (.const (.int .i64 0)), none, 0⟩] false) (.ret))))
set_option maxRecDepth 100000 in
theorem c8_ok : FunOK Try.prog 8 29 [.tmp 6, .tmp 7] c8 := ⟨⟨Try.f8, Try.func8, rfl, by kernel_rfl, rfl, by kernel_rfl⟩⟩
set_option maxRecDepth 100000 in
theorem replay_one (P : ProcD) (hP : P.Fits) (M : List Int) (hM : M.length ≤ 1000) (k : Int) : PCall Try.prog 8 [dproc P, dints M, .sc (.int .i64 k)] (.tup [dints (oneL P M k), .sc (.int .i64 (oneE P M k))]) := by
  have eE : oneE P M k = if k = -1 then (if P.enL M = [] then 0 else 9) else P.firE M k := by unfold oneE; rfl
  have eL : oneL P M k = if k = -1 then (if P.enL M = [] then M else []) else P.firL M k := by unfold oneL; rfl
  refine pcall_intro c8_ok (by simp) (by simp [PureL, Pure, pure_dproc, pure_dints]) ?_ (by simp [Pure, PureL, pure_dints])
  (apply red_sound; focus (repeat' (first | exact Red.skip | exact Red.ret | exact RedO.nil | exact RedD.nil | exact Red.exit _ | exact Red.loop _ | exact Red.stop _ | apply Red.ops | apply Red.draw | apply Red.seq | apply Red.cond | apply Red.block | apply RedO.cons | apply RedD.cons | exact (0 : Nat))))
  ((conv => whnf); repeat (refine And.intro rfl ?_; (conv => whnf)))
  (refine ifK_split (fun h1 => ?_) (fun h1 => ?_) <;> (rw [h1]; ((conv => whnf); repeat (refine And.intro rfl ?_; (conv => whnf)))))
  · have h1 : k ≠ -1 := by ((try simp only [bne_iff_ne, ne_eq, bne_eq_false_iff_eq, beq_iff_eq, beq_eq_false_iff_ne, decide_eq_true_eq, decide_eq_false_iff_not, List.length_map, Bool.not_eq_true, Bool.not_eq_false, Bool.and_eq_true, Bool.or_eq_true, Bool.and_eq_false_iff, Bool.or_eq_false_iff, Bool.not_eq_true', Bool.not_eq_false', Bool.not_true, Bool.not_false, Bool.not_eq_eq_eq_not, not_true_eq_false, not_false_eq_true, reduceCtorEq, Bool.true_or, Bool.false_or, Bool.or_true, Bool.or_false, Bool.true_and, Bool.and_true, Bool.false_and, Bool.and_false, true_and, and_true, or_false, false_or, true_or, or_true, false_and, and_false, Bool.true_eq_false, Bool.false_eq_true] at *) <;> omega)
    rw [if_neg h1] at eE eL
    (refine .inl ⟨_, (game_Fire P hP M (by omega) k), ?_⟩; ((conv => whnf); repeat (refine And.intro rfl ?_; (conv => whnf))))
    rw [eE, eL]
    exact .refl _
  have h1 : k = -1 := by ((try simp only [bne_iff_ne, ne_eq, bne_eq_false_iff_eq, beq_iff_eq, beq_eq_false_iff_ne, decide_eq_true_eq, decide_eq_false_iff_not, List.length_map, Bool.not_eq_true, Bool.not_eq_false, Bool.and_eq_true, Bool.or_eq_true, Bool.and_eq_false_iff, Bool.or_eq_false_iff, Bool.not_eq_true', Bool.not_eq_false', Bool.not_true, Bool.not_false, Bool.not_eq_eq_eq_not, not_true_eq_false, not_false_eq_true, reduceCtorEq, Bool.true_or, Bool.false_or, Bool.or_true, Bool.or_false, Bool.true_and, Bool.and_true, Bool.false_and, Bool.and_false, true_and, and_true, or_false, false_or, true_or, or_true, false_and, and_false, Bool.true_eq_false, Bool.false_eq_true] at *) <;> omega)
  rw [if_pos h1] at eE eL
  (refine .inl ⟨_, (game_Enabled P hP M (by omega)), ?_⟩; ((conv => whnf); repeat (refine And.intro rfl ?_; (conv => whnf))))
  rw [List.length_map]
  (refine ifK_split (fun h2 => ?_) (fun h2 => ?_) <;> (rw [h2]; ((conv => whnf); repeat (refine And.intro rfl ?_; (conv => whnf)))))
  · have h2 : 0 < (P.enL M).length := by ((try simp only [bne_iff_ne, ne_eq, bne_eq_false_iff_eq, beq_iff_eq, beq_eq_false_iff_ne, decide_eq_true_eq, decide_eq_false_iff_not, List.length_map, Bool.not_eq_true, Bool.not_eq_false, Bool.and_eq_true, Bool.or_eq_true, Bool.and_eq_false_iff, Bool.or_eq_false_iff, Bool.not_eq_true', Bool.not_eq_false', Bool.not_true, Bool.not_false, Bool.not_eq_eq_eq_not, not_true_eq_false, not_false_eq_true, reduceCtorEq, Bool.true_or, Bool.false_or, Bool.or_true, Bool.or_false, Bool.true_and, Bool.and_true, Bool.false_and, Bool.and_false, true_and, and_true, or_false, false_or, true_or, or_true, false_and, and_false, Bool.true_eq_false, Bool.false_eq_true] at *) <;> omega)
    have hne : P.enL M ≠ [] := fun e => by rw [e] at h2; simp at h2
    rw [if_neg hne] at eE eL
    rw [eE, eL]
    exact .tup _ _ (.cons _ _ _ _ (.none _) (.cons _ _ _ _ (.refl _) .nil))
  · have h2 : (P.enL M).length = 0 := by ((try simp only [bne_iff_ne, ne_eq, bne_eq_false_iff_eq, beq_iff_eq, beq_eq_false_iff_ne, decide_eq_true_eq, decide_eq_false_iff_not, List.length_map, Bool.not_eq_true, Bool.not_eq_false, Bool.and_eq_true, Bool.or_eq_true, Bool.and_eq_false_iff, Bool.or_eq_false_iff, Bool.not_eq_true', Bool.not_eq_false', Bool.not_true, Bool.not_false, Bool.not_eq_eq_eq_not, not_true_eq_false, not_false_eq_true, reduceCtorEq, Bool.true_or, Bool.false_or, Bool.or_true, Bool.or_false, Bool.true_and, Bool.and_true, Bool.false_and, Bool.and_false, true_and, and_true, or_false, false_or, true_or, or_true, false_and, and_false, Bool.true_eq_false, Bool.false_eq_true] at *) <;> omega)
    have hne : P.enL M = [] := List.length_eq_zero_iff.1 h2
    rw [if_pos hne] at eE eL
    (refine .inr (.inr (.inr (.inr (.inl ⟨_, _, _, (acallAt_new (cloneO_int M (by omega)) (by simp [PureL, Pure]) [1] rfl rfl (by simp [AObj.ren, renL, D.ren]; rfl)), ?_⟩)))); ((conv => whnf); repeat (refine And.intro rfl ?_; (conv => whnf))))
    rw [eE, eL]
    exact .tup _ _ (.cons _ _ _ _ (deep_ints rfl rfl) (.cons _ _ _ _ (.refl _) .nil))
def dverd (h : Bool) (stem loop : List Int) : D := .agg [.sc (.bool h), dints stem, dints loop]
theorem pure_dverd (h : Bool) (stem loop : List Int) : Pure (dverd h stem loop) := by simp [dverd, Pure, PureL, pure_dints]
theorem seg_row {stem loop : List Int} {z j : Nat} (hz : z = j) (h : j < 2) : ([[dints stem], [dints loop]] : List (List D))[z]? = some [dints (ProcD.seg stem loop j)] := by
  subst hz
  rcases z with _ | _ | z
  · rfl
  · rfl
  · omega
def c4_2 : PC := .seq (.ops [⟨(some 57), .bin .lss (.tmp 56) (.tmp 55), none, 0⟩] false) (.seq (.cond (.tmp 57) (.skip) (.exit 3)) (.seq (.block 4 (.seq (.ops [⟨(some 58), .iaddr 1 (.tmp 54) (.tmp 56), none, 0⟩,
    ⟨(some 59), .load1 (.tmp 58), none, 0⟩,
    ⟨(some 12), .move (.tmp 59), none, 0⟩] false) (.seq (.seq (.ops [⟨(some 61), .loadA 2 (.tmp 2), none, 0⟩,
    ⟨(some 62), .move (.tmp 6), none, 0⟩,
    ⟨(some 63), .move (.tmp 12), none, 0⟩,
    ⟨(some 64), .call 8 [(.tmp 61), (.tmp 62), (.tmp 63)], none, 0⟩,
    ⟨(some 60), .move (.tmp 64), none, 0⟩,
    ⟨(some 65), .ext 0 (.tmp 60), none, 0⟩,
    ⟨(some 66), .ext 1 (.tmp 60), none, 0⟩,
    ⟨(some 6), .move (.tmp 65), none, 0⟩,
    ⟨(some 7), .move (.tmp 66), none, 0⟩] false) (.seq (.ops [⟨(some 67), .move (.tmp 7), none, 0⟩,
    ⟨(some 68), .bin .neq (.tmp 67) (.const (.int .i64 0)), none, 0⟩] false) (.cond (.tmp 68) (.seq (.ops [⟨(some 69), .move (.tmp 7), none, 0⟩,
    ⟨(some 4), .move (.const (.slice none 0 0)), none, 0⟩,
    ⟨(some 5), .move (.tmp 69), none, 0⟩] false) (.ret)) (.skip)))) (.ops [⟨(some 70), .move (.tmp 8), none, 0⟩,
    ⟨(some 71), .move (.tmp 6), none, 0⟩,
    ⟨(some 72), .bslice 1 1 [(.tmp 71)], none, 0⟩,
    ⟨(some 73), .append 1 24 (.tmp 70) (.tmp 72), none, 0⟩,
    ⟨(some 8), .move (.tmp 73), none, 0⟩] false)))) (.ops [⟨(some 74), .bin .add (.tmp 56) (.const (.int .i64 1)), none, 0⟩,
    ⟨(some 56), .move (.tmp 74), none, 0⟩] false)))
def c4_1 : PC := .seq (.ops [⟨(some 51), .bin .lss (.tmp 50) (.tmp 49), none, 0⟩] false) (.seq (.cond (.tmp 51) (.skip) (.exit 1)) (.seq (.block 2 (.seq (.ops [⟨(some 52), .iaddr 1 (.tmp 48) (.tmp 50), none, 0⟩,
    ⟨(some 53), .load1 (.tmp 52), none, 0⟩,
    ⟨(some 10), .move (.tmp 53), none, 0⟩] false) (.seq (.ops [⟨(some 54), .move (.tmp 10), none, 0⟩,
    ⟨(some 55), .len (.tmp 54), none, 0⟩,
    ⟨(some 56), .move (.const (.int .i64 0)), none, 0⟩] false) (.block 3 (.loop c4_2))))) (.ops [⟨(some 75), .bin .add (.tmp 50) (.const (.int .i64 1)), none, 0⟩,
    ⟨(some 50), .move (.tmp 75), none, 0⟩] false)))
def c4 : PC := .seq (.ops [⟨(some 2), .box (.tmp 0), none, 0⟩,
    ⟨(some 3), .box (.tmp 1), none, 0⟩,
    ⟨(some 4), .move (.const (.slice none 0 0)), none, 0⟩,
    ⟨(some 5), .move (.const (.int .i64 0)), none, 0⟩] false) (.seq (.ops [⟨(some 14), .loadA 2 (.tmp 2), none, 0⟩,
    ⟨(some 15), .call 7 [(.tmp 14)], none, 0⟩,
    ⟨(some 13), .move (.tmp 15), none, 0⟩,
    ⟨(some 16), .ext 0 (.tmp 13), none, 0⟩,
    ⟨(some 17), .ext 1 (.tmp 13), none, 0⟩,
    ⟨(some 6), .move (.tmp 16), none, 0⟩,
    ⟨(some 7), .move (.tmp 17), none, 0⟩] false) (.seq (.block 0 (.seq (.ops [⟨(some 19), .move (.tmp 7), none, 0⟩,
    ⟨(some 20), .bin .neq (.tmp 19) (.const (.int .i64 0)), none, 0⟩,
    ⟨(some 18), .move (.tmp 20), none, 0⟩] false) (.cond (.tmp 18) (.seq (.ops [⟨(some 21), .move (.tmp 7), none, 0⟩,
    ⟨(some 4), .move (.const (.slice none 0 0)), none, 0⟩,
    ⟨(some 5), .move (.tmp 21), none, 0⟩] false) (.ret)) (.seq (.ops [⟨(some 23), .faddr 2 (.tmp 3), none, 0⟩,
    ⟨(some 24), .load1 (.tmp 23), none, 0⟩,
    ⟨(some 25), .len (.tmp 24), none, 0⟩,
    ⟨(some 26), .bin .eql (.tmp 25) (.const (.int .i64 0)), none, 0⟩,
    ⟨(some 22), .move (.tmp 26), none, 0⟩] false) (.cond (.tmp 22) (.seq (.ops [⟨(some 4), .move (.const (.slice none 0 0)), none, 0⟩,
    ⟨(some 5), .move (.const (.int .i64 1)), none, 0⟩] false) (.ret)) (.seq (.ops [⟨(some 28), .faddr 1 (.tmp 3), none, 0⟩,
    ⟨(some 29), .load1 (.tmp 28), none, 0⟩,
    ⟨(some 30), .len (.tmp 29), none, 0⟩,
    ⟨(some 31), .bin .gtr (.tmp 30) (.const (.int .i64 60000)), none, 0⟩,
    ⟨(some 32), .move (.tmp 31), none, 0⟩,
    ⟨(some 33), .faddr 2 (.tmp 3), (some (32, false)), 0⟩,
    ⟨(some 34), .load1 (.tmp 33), (some (32, false)), 0⟩,
    ⟨(some 35), .len (.tmp 34), (some (32, false)), 0⟩,
    ⟨(some 36), .faddr 1 (.tmp 3), (some (32, false)), 0⟩,
    ⟨(some 37), .load1 (.tmp 36), (some (32, false)), 0⟩,
    ⟨(some 38), .len (.tmp 37), (some (32, false)), 0⟩,
    ⟨(some 39), .bin .sub (.const (.int .i64 60000)) (.tmp 38), (some (32, false)), 0⟩,
    ⟨(some 40), .bin .gtr (.tmp 35) (.tmp 39), (some (32, false)), 0⟩,
    ⟨(some 41), .pick (.tmp 32) (.const (.bool true)) (.tmp 40), none, 0⟩,
    ⟨(some 27), .move (.tmp 41), none, 0⟩] false) (.cond (.tmp 27) (.seq (.ops [⟨(some 4), .move (.const (.slice none 0 0)), none, 0⟩,
    ⟨(some 5), .move (.const (.int .i64 2)), none, 0⟩] false) (.ret)) (.skip)))))))) (.seq (.ops [⟨(some 42), .move (.tmp 6), none, 0⟩,
    ⟨(some 43), .bslice 1 1 [(.tmp 42)], none, 0⟩,
    ⟨(some 8), .move (.tmp 43), none, 0⟩] false) (.seq (.seq (.ops [⟨(some 44), .faddr 1 (.tmp 3), none, 0⟩,
    ⟨(some 45), .load1 (.tmp 44), none, 0⟩,
    ⟨(some 46), .faddr 2 (.tmp 3), none, 0⟩,
    ⟨(some 47), .load1 (.tmp 46), none, 0⟩,
    ⟨(some 48), .bslice 1 2 [(.tmp 45), (.tmp 47)], none, 0⟩,
    ⟨(some 49), .len (.tmp 48), none, 0⟩,
    ⟨(some 50), .move (.const (.int .i64 0)), none, 0⟩] false) (.block 1 (.loop c4_1))) (.seq (.seq (.ops [⟨(some 76), .move (.tmp 8), none, 0⟩,
    ⟨(some 77), .faddr 1 (.tmp 3), none, 0⟩,
    ⟨(some 78), .load1 (.tmp 77), none, 0⟩,
    ⟨(some 79), .len (.tmp 78), none, 0⟩,
    ⟨(some 80), .iaddr 1 (.tmp 76) (.tmp 79), none, 0⟩,
    ⟨(some 81), .load1 (.tmp 80), none, 0⟩,
    ⟨(some 82), .move (.tmp 6), none, 0⟩,
    ⟨(some 83), .call 9 [(.tmp 81), (.tmp 82)], none, 0⟩,
    ⟨(some 84), .un .not (.tmp 83), none, 0⟩] false) (.cond (.tmp 84) (.seq (.ops [⟨(some 4), .move (.const (.slice none 0 0)), none, 0⟩,
    ⟨(some 5), .move (.const (.int .i64 9)), none, 0⟩] false) (.ret)) (.skip))) (.seq (.ops [⟨(some 85), .move (.tmp 8), none, 0⟩,
    ⟨(some 4), .move (.tmp 85), none, 0⟩,
    ⟨(some 5), .move (.const (.int .i64 0)), none, 0⟩] false) (.ret)))))))
set_option maxRecDepth 100000 in
theorem c4_ok : FunOK Try.prog 4 86 [.tmp 4, .tmp 5] c4 := ⟨⟨Try.f4, Try.func4, rfl, by kernel_rfl, rfl, by kernel_rfl⟩⟩
set_option maxRecDepth 100000 in
theorem replay_Frames (P : ProcD) (hP : P.Fits) (h : Bool) (stem loop : List Int) (l1 : stem.length ≤ 9223372036854775807) (l2 : loop.length ≤ 9223372036854775807) (n : Nat) (hn : n ≤ stem.length + loop.length) (hz : ∀ j, j < n → P.rerr (stem ++ loop) j = 0) (hs : n = stem.length + loop.length ∨ P.rerr (stem ++ loop) n ≠ 0) :
    PCall Try.prog 4 [dproc P, dverd h stem loop] (.tup [dgrid (P.fraL stem loop n), .sc (.int .i64 (P.fraE stem loop n))]) := by
  have eE : P.fraE stem loop n = if P.stepsE ≠ 0 then P.stepsE else if loop.length = 0 then 1 else if 60000 < stem.length + loop.length then 2
      else if n ≠ stem.length + loop.length then P.rerr (stem ++ loop) n
      else if P.rnow (stem ++ loop) stem.length = P.rnow (stem ++ loop) (stem.length + loop.length) then 0 else 9 := rfl
  have eL : P.fraL stem loop n = if P.fraE stem loop n = 0 then P.rgrid (stem ++ loop) (stem.length + loop.length) else [] := rfl
  refine pcall_intro c4_ok (by simp) (by simp [PureL, Pure, pure_dproc, pure_dverd]) ?_ (by simp [Pure, PureL, pure_dgrid'])
  have bad : ∀ {H : List AObj} {e : Int}, e ≠ 0 → P.fraE stem loop n = e → Deep H (.tup [.sc (.slice none 0 0), .sc (.int .i64 e)]) (.tup [dgrid (P.fraL stem loop n), .sc (.int .i64 (P.fraE stem loop n))]) := fun h q => by
    rw [eL, q, if_neg h]
    exact .tup _ _ (.cons _ _ _ _ (.none _) (.cons _ _ _ _ (.refl _) .nil))
  (apply red_sound; focus (repeat' (first | exact Red.skip | exact Red.ret | exact RedO.nil | exact RedD.nil | exact Red.exit _ | exact Red.loop _ | exact Red.stop _ | apply Red.ops | apply Red.draw | apply Red.seq | apply Red.cond | apply Red.block | apply RedO.cons | apply RedD.cons | exact (0 : Nat))))
  ((conv => whnf); repeat (refine And.intro rfl ?_; (conv => whnf)))
  (refine .inl ⟨_, (game_Begin P hP), ?_⟩; ((conv => whnf); repeat (refine And.intro rfl ?_; (conv => whnf))))
  (refine ifK_split (fun h1 => ?_) (fun h1 => ?_) <;> (rw [h1]; ((conv => whnf); repeat (refine And.intro rfl ?_; (conv => whnf)))))
  · have h1 : P.stepsE ≠ 0 := by ((try simp only [bne_iff_ne, ne_eq, bne_eq_false_iff_eq, beq_iff_eq, beq_eq_false_iff_ne, decide_eq_true_eq, decide_eq_false_iff_not, List.length_map, Bool.not_eq_true, Bool.not_eq_false, Bool.and_eq_true, Bool.or_eq_true, Bool.and_eq_false_iff, Bool.or_eq_false_iff, Bool.not_eq_true', Bool.not_eq_false', Bool.not_true, Bool.not_false, Bool.not_eq_eq_eq_not, not_true_eq_false, not_false_eq_true, reduceCtorEq, Bool.true_or, Bool.false_or, Bool.or_true, Bool.or_false, Bool.true_and, Bool.and_true, Bool.false_and, Bool.and_false, true_and, and_true, or_false, false_or, true_or, or_true, false_and, and_false, Bool.true_eq_false, Bool.false_eq_true] at *) <;> omega)
    exact bad h1 (by rw [eE, if_pos h1])
  have h1 : P.stepsE = 0 := by ((try simp only [bne_iff_ne, ne_eq, bne_eq_false_iff_eq, beq_iff_eq, beq_eq_false_iff_ne, decide_eq_true_eq, decide_eq_false_iff_not, List.length_map, Bool.not_eq_true, Bool.not_eq_false, Bool.and_eq_true, Bool.or_eq_true, Bool.and_eq_false_iff, Bool.or_eq_false_iff, Bool.not_eq_true', Bool.not_eq_false', Bool.not_true, Bool.not_false, Bool.not_eq_eq_eq_not, not_true_eq_false, not_false_eq_true, reduceCtorEq, Bool.true_or, Bool.false_or, Bool.or_true, Bool.or_false, Bool.true_and, Bool.and_true, Bool.false_and, Bool.and_false, true_and, and_true, or_false, false_or, true_or, or_true, false_and, and_false, Bool.true_eq_false, Bool.false_eq_true] at *) <;> omega)
  rw [if_neg (by omega)] at eE
  rw [List.length_map]
  (refine ifK_split (fun h2 => ?_) (fun h2 => ?_) <;> (rw [h2]; ((conv => whnf); repeat (refine And.intro rfl ?_; (conv => whnf)))))
  · exact bad (by decide) (by rw [eE, if_pos (by ((try simp only [bne_iff_ne, ne_eq, bne_eq_false_iff_eq, beq_iff_eq, beq_eq_false_iff_ne, decide_eq_true_eq, decide_eq_false_iff_not, List.length_map, Bool.not_eq_true, Bool.not_eq_false, Bool.and_eq_true, Bool.or_eq_true, Bool.and_eq_false_iff, Bool.or_eq_false_iff, Bool.not_eq_true', Bool.not_eq_false', Bool.not_true, Bool.not_false, Bool.not_eq_eq_eq_not, not_true_eq_false, not_false_eq_true, reduceCtorEq, Bool.true_or, Bool.false_or, Bool.or_true, Bool.or_false, Bool.true_and, Bool.and_true, Bool.false_and, Bool.and_false, true_and, and_true, or_false, false_or, true_or, or_true, false_and, and_false, Bool.true_eq_false, Bool.false_eq_true] at *) <;> omega))])
  rw [if_neg (by ((try simp only [bne_iff_ne, ne_eq, bne_eq_false_iff_eq, beq_iff_eq, beq_eq_false_iff_ne, decide_eq_true_eq, decide_eq_false_iff_not, List.length_map, Bool.not_eq_true, Bool.not_eq_false, Bool.and_eq_true, Bool.or_eq_true, Bool.and_eq_false_iff, Bool.or_eq_false_iff, Bool.not_eq_true', Bool.not_eq_false', Bool.not_true, Bool.not_false, Bool.not_eq_eq_eq_not, not_true_eq_false, not_false_eq_true, reduceCtorEq, Bool.true_or, Bool.false_or, Bool.or_true, Bool.or_false, Bool.true_and, Bool.and_true, Bool.false_and, Bool.and_false, true_and, and_true, or_false, false_or, true_or, or_true, false_and, and_false, Bool.true_eq_false, Bool.false_eq_true] at *) <;> omega))] at eE
  rw [List.length_map]
  by_cases h3 : 60000 < stem.length
  · have hb : decide ((stem.length : Int) > 60000) = true := decide_eq_true (by omega)
    rw [hb]
    ((conv => whnf); repeat (refine And.intro rfl ?_; (conv => whnf)))
    exact bad (by decide) (by rw [eE, if_pos (by omega)])
  have hb : decide ((stem.length : Int) > 60000) = false := decide_eq_false (by omega)
  rw [hb]
  ((conv => whnf); repeat (refine And.intro rfl ?_; (conv => whnf)))
  rw [List.length_map, List.length_map]
  (refine .inl ⟨by (unfold InR; rw [IntKind.wrap_i64]; omega), ?_⟩; ((conv => whnf); repeat (refine And.intro rfl ?_; (conv => whnf))))
  (refine ifK_split (fun h4 => ?_) (fun h4 => ?_) <;> (rw [h4]; ((conv => whnf); repeat (refine And.intro rfl ?_; (conv => whnf)))))
  · exact bad (by decide) (by rw [eE, if_pos (by ((try simp only [bne_iff_ne, ne_eq, bne_eq_false_iff_eq, beq_iff_eq, beq_eq_false_iff_ne, decide_eq_true_eq, decide_eq_false_iff_not, List.length_map, Bool.not_eq_true, Bool.not_eq_false, Bool.and_eq_true, Bool.or_eq_true, Bool.and_eq_false_iff, Bool.or_eq_false_iff, Bool.not_eq_true', Bool.not_eq_false', Bool.not_true, Bool.not_false, Bool.not_eq_eq_eq_not, not_true_eq_false, not_false_eq_true, reduceCtorEq, Bool.true_or, Bool.false_or, Bool.or_true, Bool.or_false, Bool.true_and, Bool.and_true, Bool.false_and, Bool.and_false, true_and, and_true, or_false, false_or, true_or, or_true, false_and, and_false, Bool.true_eq_false, Bool.false_eq_true] at *) <;> omega))])
  rw [if_neg (by ((try simp only [bne_iff_ne, ne_eq, bne_eq_false_iff_eq, beq_iff_eq, beq_eq_false_iff_ne, decide_eq_true_eq, decide_eq_false_iff_not, List.length_map, Bool.not_eq_true, Bool.not_eq_false, Bool.and_eq_true, Bool.or_eq_true, Bool.and_eq_false_iff, Bool.or_eq_false_iff, Bool.not_eq_true', Bool.not_eq_false', Bool.not_true, Bool.not_false, Bool.not_eq_eq_eq_not, not_true_eq_false, not_false_eq_true, reduceCtorEq, Bool.true_or, Bool.false_or, Bool.or_true, Bool.or_false, Bool.true_and, Bool.and_true, Bool.false_and, Bool.and_false, true_and, and_true, or_false, false_or, true_or, or_true, false_and, and_false, Bool.true_eq_false, Bool.false_eq_true] at *) <;> omega))] at eE
  have h4 : stem.length + loop.length ≤ 60000 := by ((try simp only [bne_iff_ne, ne_eq, bne_eq_false_iff_eq, beq_iff_eq, beq_eq_false_iff_ne, decide_eq_true_eq, decide_eq_false_iff_not, List.length_map, Bool.not_eq_true, Bool.not_eq_false, Bool.and_eq_true, Bool.or_eq_true, Bool.and_eq_false_iff, Bool.or_eq_false_iff, Bool.not_eq_true', Bool.not_eq_false', Bool.not_true, Bool.not_false, Bool.not_eq_eq_eq_not, not_true_eq_false, not_false_eq_true, reduceCtorEq, Bool.true_or, Bool.false_or, Bool.or_true, Bool.or_false, Bool.true_and, Bool.and_true, Bool.false_and, Bool.and_false, true_and, and_true, or_false, false_or, true_or, or_true, false_and, and_false, Bool.true_eq_false, Bool.false_eq_true] at *) <;> omega)
  ((conv => whnf); repeat (refine And.intro rfl ?_; (conv => whnf)))
  refine pwp_for [2, 3, 48, 49] (fun j : Nat => [(6, dints (P.rnow (stem ++ loop) (ProcD.off stem loop j))), (8, .own 2 (ProcD.off stem loop j) 0 (ProcD.off stem loop j + 1)), (50, .sc (.int .i64 j))]) (fun j => [(2, .vec true (ProcD.off stem loop j) 1 (grows (P.rgrid (stem ++ loop) (ProcD.off stem loop j))))]) (fun j => j ≤ 2 ∧ ProcD.off stem loop j ≤ n) (fun j => 2 - j) 0 ?_
  ((conv => whnf); repeat (refine And.intro rfl ?_; (conv => whnf)))
  refine ⟨⟨by omega, by simp [ProcD.off]⟩, by (repeat' (first | exact trivial | refine And.intro rfl ?_)), rfl, ?_⟩
  rintro j ⟨hj, hjn⟩
  ((conv => whnf); repeat (refine And.intro rfl ?_; (conv => whnf)))
  (apply red_sound; focus (repeat' (first | exact Red.skip | exact Red.ret | exact RedO.nil | exact RedD.nil | exact Red.exit _ | exact Red.loop _ | exact Red.stop _ | apply Red.ops | apply Red.draw | apply Red.seq | apply Red.cond | apply Red.block | apply RedO.cons | apply RedD.cons | exact (0 : Nat))))
  ((conv => whnf); repeat (refine And.intro rfl ?_; (conv => whnf)))
  (refine ifK_split (fun h5 => ?_) (fun h5 => ?_) <;> (rw [h5]; ((conv => whnf); repeat (refine And.intro rfl ?_; (conv => whnf)))))
  · have hj' : j < 2 := by ((try simp only [bne_iff_ne, ne_eq, bne_eq_false_iff_eq, beq_iff_eq, beq_eq_false_iff_ne, decide_eq_true_eq, decide_eq_false_iff_not, List.length_map, Bool.not_eq_true, Bool.not_eq_false, Bool.and_eq_true, Bool.or_eq_true, Bool.and_eq_false_iff, Bool.or_eq_false_iff, Bool.not_eq_true', Bool.not_eq_false', Bool.not_true, Bool.not_false, Bool.not_eq_eq_eq_not, not_true_eq_false, not_false_eq_true, reduceCtorEq, Bool.true_or, Bool.false_or, Bool.or_true, Bool.or_false, Bool.true_and, Bool.and_true, Bool.false_and, Bool.and_false, true_and, and_true, or_false, false_or, true_or, or_true, false_and, and_false, Bool.true_eq_false, Bool.false_eq_true] at *) <;> omega)
    have en := ProcD.off_next (stem := stem) (loop := loop) hj'
    have hol := ProcD.off_le stem loop (j + 1)
    (refine ⟨by omega, (by first | omega | (simp; done) | (simp; omega) | (simp only [List.length_map, List.length_append, List.length_cons, List.length_nil, List.length_take, List.length_drop, List.drop_zero, List.take_succ_cons, List.take_zero]; omega)), ?_⟩; ((conv => whnf); repeat (refine And.intro rfl ?_; (conv => whnf))))
    refine ⟨_, seg_row (stem := stem) (loop := loop) (j := j) (by omega) hj', ?_⟩
    ((conv => whnf); repeat (refine And.intro rfl ?_; (conv => whnf)))
    rw [List.length_map]
    refine pwp_for [2, 3, 48, 49, 50, 54, 55] (fun k : Nat => [(6, dints (P.rnow (stem ++ loop) (ProcD.off stem loop j + k))), (8, .own 2 (ProcD.off stem loop j + k) 0 (ProcD.off stem loop j + k + 1)), (56, .sc (.int .i64 k))]) (fun k => [(2, .vec true (ProcD.off stem loop j + k) 1 (grows (P.rgrid (stem ++ loop) (ProcD.off stem loop j + k))))]) (fun k => k ≤ (ProcD.seg stem loop j).length ∧ ProcD.off stem loop j + k ≤ n) (fun k => (ProcD.seg stem loop j).length - k) 0 ?_
    ((conv => whnf); repeat (refine And.intro rfl ?_; (conv => whnf)))
    refine ⟨⟨by omega, by omega⟩, by (repeat' (first | exact trivial | refine And.intro rfl ?_)), rfl, ?_⟩
    rintro k ⟨hk, hkn⟩
    ((conv => whnf); repeat (refine And.intro rfl ?_; (conv => whnf)))
    (apply red_sound; focus (repeat' (first | exact Red.skip | exact Red.ret | exact RedO.nil | exact RedD.nil | exact Red.exit _ | exact Red.loop _ | exact Red.stop _ | apply Red.ops | apply Red.draw | apply Red.seq | apply Red.cond | apply Red.block | apply RedO.cons | apply RedD.cons | exact (0 : Nat))))
    ((conv => whnf); repeat (refine And.intro rfl ?_; (conv => whnf)))
    (refine ifK_split (fun h6 => ?_) (fun h6 => ?_) <;> (rw [h6]; ((conv => whnf); repeat (refine And.intro rfl ?_; (conv => whnf)))))
    · have hk' : k < (ProcD.seg stem loop j).length := by ((try simp only [bne_iff_ne, ne_eq, bne_eq_false_iff_eq, beq_iff_eq, beq_eq_false_iff_ne, decide_eq_true_eq, decide_eq_false_iff_not, List.length_map, Bool.not_eq_true, Bool.not_eq_false, Bool.and_eq_true, Bool.or_eq_true, Bool.and_eq_false_iff, Bool.or_eq_false_iff, Bool.not_eq_true', Bool.not_eq_false', Bool.not_true, Bool.not_false, Bool.not_eq_eq_eq_not, not_true_eq_false, not_false_eq_true, reduceCtorEq, Bool.true_or, Bool.false_or, Bool.or_true, Bool.or_false, Bool.true_and, Bool.and_true, Bool.false_and, Bool.and_false, true_and, and_true, or_false, false_or, true_or, or_true, false_and, and_false, Bool.true_eq_false, Bool.false_eq_true] at *) <;> omega)
      have esg := ProcD.seg_at (stem := stem) (loop := loop) hj' hk'
      have hzi : ∀ q, q < ProcD.off stem loop j + k → P.rerr (stem ++ loop) q = 0 := fun q hq => hz q (by omega)
      have lN := ProcD.rnow_len h1 hzi
      have hO := replay_one P hP (P.rnow (stem ++ loop) (ProcD.off stem loop j + k)) (by omega) ((ProcD.seg stem loop j).getD k 0)
      have er := rerr_one P (stem ++ loop) (ProcD.off stem loop j + k)
      have eo := rnow_one (P := P) (l := stem ++ loop) (i := ProcD.off stem loop j + k)
      rw [esg] at er eo
      rw [← er] at hO
      have eg : P.rgrid (stem ++ loop) (ProcD.off stem loop j + (k + 1)) = P.rgrid (stem ++ loop) (ProcD.off stem loop j + k) ++ [P.rnow (stem ++ loop) (ProcD.off stem loop j + k + 1)] := rfl
      have lG := P.rgrid_len (stem ++ loop) (ProcD.off stem loop j + k)
      refine ⟨by omega, _, intsD_at (k := k) (by omega) hk', ?_⟩
      ((conv => whnf); repeat (refine And.intro rfl ?_; (conv => whnf)))
      (refine .inl ⟨_, hO, ?_⟩; ((conv => whnf); repeat (refine And.intro rfl ?_; (conv => whnf))))
      (refine ifK_split (fun h7 => ?_) (fun h7 => ?_) <;> (rw [h7]; ((conv => whnf); repeat (refine And.intro rfl ?_; (conv => whnf)))))
      · have h7 : P.rerr (stem ++ loop) (ProcD.off stem loop j + k) ≠ 0 := by ((try simp only [bne_iff_ne, ne_eq, bne_eq_false_iff_eq, beq_iff_eq, beq_eq_false_iff_ne, decide_eq_true_eq, decide_eq_false_iff_not, List.length_map, Bool.not_eq_true, Bool.not_eq_false, Bool.and_eq_true, Bool.or_eq_true, Bool.and_eq_false_iff, Bool.or_eq_false_iff, Bool.not_eq_true', Bool.not_eq_false', Bool.not_true, Bool.not_false, Bool.not_eq_eq_eq_not, not_true_eq_false, not_false_eq_true, reduceCtorEq, Bool.true_or, Bool.false_or, Bool.or_true, Bool.or_false, Bool.true_and, Bool.and_true, Bool.false_and, Bool.and_false, true_and, and_true, or_false, false_or, true_or, or_true, false_and, and_false, Bool.true_eq_false, Bool.false_eq_true] at *) <;> omega)
        have e : ProcD.off stem loop j + k = n := by
          by_cases q : ProcD.off stem loop j + k = n
          · exact q
          · exact absurd (hz _ (by omega)) h7
        refine bad h7 ?_
        rw [eE, ← e, if_pos (by omega)]
      · have h7 : P.rerr (stem ++ loop) (ProcD.off stem loop j + k) = 0 := by ((try simp only [bne_iff_ne, ne_eq, bne_eq_false_iff_eq, beq_iff_eq, beq_eq_false_iff_ne, decide_eq_true_eq, decide_eq_false_iff_not, List.length_map, Bool.not_eq_true, Bool.not_eq_false, Bool.and_eq_true, Bool.or_eq_true, Bool.and_eq_false_iff, Bool.or_eq_false_iff, Bool.not_eq_true', Bool.not_eq_false', Bool.not_true, Bool.not_false, Bool.not_eq_eq_eq_not, not_true_eq_false, not_false_eq_true, reduceCtorEq, Bool.true_or, Bool.false_or, Bool.or_true, Bool.or_false, Bool.true_and, Bool.and_true, Bool.false_and, Bool.and_false, true_and, and_true, or_false, false_or, true_or, or_true, false_and, and_false, Bool.true_eq_false, Bool.false_eq_true] at *) <;> omega)
        have e : ProcD.off stem loop j + k < n := by
          by_cases q : ProcD.off stem loop j + k = n
          · rw [q] at h7
            rcases hs with hs | hs
            · omega
            · exact absurd h7 hs
          · omega
        rw [← eo h7]
        refine ⟨(by unfold sliceAppend; simp only [List.length_map, List.length_cons, List.length_nil, List.length_append, List.length_take, List.length_drop, List.drop_zero, List.take_succ_cons, List.take_zero]; omega), ?_⟩
        ((conv => whnf); repeat (refine And.intro rfl ?_; (conv => whnf)))
        (refine .inl ⟨by (unfold InR; rw [IntKind.wrap_i64]; omega), ?_⟩; ((conv => whnf); repeat (refine And.intro rfl ?_; (conv => whnf))))
        refine ⟨k + 1, ⟨by omega, by omega⟩, by dsimp only; omega, ?_⟩
        (refine leB_close 4 (by simp) rfl ?_ ?_ <;> (repeat' (first | exact trivial | exact rfl | exact DeepM.refl _ | exact DeepML.refl _ | exact DeepMLL.refl _ | refine And.intro ?_ ?_ | (simp [Under, UnderL, UnderLL, -List.map_take, -List.map_drop]; done))))
        exact deepMLL_eq (by rw [eg]; exact grows_snoc lG.symm)
    · have hk' : k = (ProcD.seg stem loop j).length := by have : ¬ k < (ProcD.seg stem loop j).length := by ((try simp only [bne_iff_ne, ne_eq, bne_eq_false_iff_eq, beq_iff_eq, beq_eq_false_iff_ne, decide_eq_true_eq, decide_eq_false_iff_not, List.length_map, Bool.not_eq_true, Bool.not_eq_false, Bool.and_eq_true, Bool.or_eq_true, Bool.and_eq_false_iff, Bool.or_eq_false_iff, Bool.not_eq_true', Bool.not_eq_false', Bool.not_true, Bool.not_false, Bool.not_eq_eq_eq_not, not_true_eq_false, not_false_eq_true, reduceCtorEq, Bool.true_or, Bool.false_or, Bool.or_true, Bool.or_false, Bool.true_and, Bool.and_true, Bool.false_and, Bool.and_false, true_and, and_true, or_false, false_or, true_or, or_true, false_and, and_false, Bool.true_eq_false, Bool.false_eq_true] at *) <;> omega)
                                                          omega
      subst hk'
      rw [← en]
      (refine .inl ⟨by (unfold InR; rw [IntKind.wrap_i64]; omega), ?_⟩; ((conv => whnf); repeat (refine And.intro rfl ?_; (conv => whnf))))
      refine ⟨j + 1, ⟨by omega, by omega⟩, by dsimp only; omega, leB_envH (by (repeat' (first | exact trivial | refine And.intro rfl ?_))) rfl⟩
  · have hj' : j = 2 := by have : ¬ j < 2 := by ((try simp only [bne_iff_ne, ne_eq, bne_eq_false_iff_eq, beq_iff_eq, beq_eq_false_iff_ne, decide_eq_true_eq, decide_eq_false_iff_not, List.length_map, Bool.not_eq_true, Bool.not_eq_false, Bool.and_eq_true, Bool.or_eq_true, Bool.and_eq_false_iff, Bool.or_eq_false_iff, Bool.not_eq_true', Bool.not_eq_false', Bool.not_true, Bool.not_false, Bool.not_eq_eq_eq_not, not_true_eq_false, not_false_eq_true, reduceCtorEq, Bool.true_or, Bool.false_or, Bool.or_true, Bool.or_false, Bool.true_and, Bool.and_true, Bool.false_and, Bool.and_false, true_and, and_true, or_false, false_or, true_or, or_true, false_and, and_false, Bool.true_eq_false, Bool.false_eq_true] at *) <;> omega)
                           omega
    subst hj'
    have e : n = stem.length + loop.length := by
      have : ProcD.off stem loop 2 = stem.length + loop.length := rfl
      omega
    subst e
    rw [show ProcD.off stem loop 2 = stem.length + loop.length from rfl, List.length_map]
    rw [if_neg (by omega)] at eE
    have lG := P.rgrid_len (stem ++ loop) (stem.length + loop.length)
    have lN := ProcD.rnow_len (l := stem ++ loop) h1 (i := stem.length) fun q hq => hz q (by omega)
    (refine ⟨by omega, (by first | omega | (simp; done) | (simp; omega) | (simp only [List.length_map, List.length_append, List.length_cons, List.length_nil, List.length_take, List.length_drop, List.drop_zero, List.take_succ_cons, List.take_zero]; omega)), ?_⟩; ((conv => whnf); repeat (refine And.intro rfl ?_; (conv => whnf))))
    refine ⟨_, grows_at (k := stem.length) (by omega) (by omega), ?_⟩
    ((conv => whnf); repeat (refine And.intro rfl ?_; (conv => whnf)))
    rw [ProcD.rgrid_at P (stem ++ loop) (by omega)]
    (refine .inl ⟨_, (equal_int (P.rnow (stem ++ loop) stem.length) (P.rnow (stem ++ loop) (stem.length + loop.length)) (by omega)), ?_⟩; ((conv => whnf); repeat (refine And.intro rfl ?_; (conv => whnf))))
    by_cases h8 : P.rnow (stem ++ loop) stem.length = P.rnow (stem ++ loop) (stem.length + loop.length)
    · rw [if_pos h8] at eE
      rw [decide_eq_true h8]
      ((conv => whnf); repeat (refine And.intro rfl ?_; (conv => whnf)))
      rw [eL, eE, if_pos rfl]
      exact .tup _ _ (.cons _ _ _ _ (deep_grows lG.symm rfl) (.cons _ _ _ _ (.refl _) .nil))
    · rw [if_neg h8] at eE
      rw [decide_eq_false h8]
      ((conv => whnf); repeat (refine And.intro rfl ?_; (conv => whnf)))
      exact bad (by decide) eE
end Go.Proofs.Yteckcflliaecpaa
