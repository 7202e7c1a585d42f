/-
  Ry0 Ry1 Ry2 joined. No statement is proved here.
-/
import Derived.Test.YtjnfahdolkgnoaaPyA
import Derived.Test.YtjnfahdolkgnoaaStA
namespace Go.Proofs.Ytjnfahdolkgnoaa
/-! ### XRy0 -/
section
namespace ProcD
noncomputable def rnow (P : ProcD) (l : List Int) : Nat → List Int
  | 0 => P.beginL
  | i + 1 => if l.getD i 0 = -1 then P.rnow l i else P.firL (P.rnow l i) (l.getD i 0)
open Classical in
noncomputable def rerr (P : ProcD) (l : List Int) (i : Nat) : Int :=
  if l.getD i 0 = -1 then (if P.enL (P.rnow l i) = [] then 0 else 9) else P.firE (P.rnow l i) (l.getD i 0)
noncomputable def rgrid (P : ProcD) (l : List Int) : Nat → List (List Int)
  | 0 => [P.rnow l 0]
  | i + 1 => P.rgrid l i ++ [P.rnow l (i + 1)]
theorem rgrid_len (P : ProcD) (l : List Int) : ∀ i, (P.rgrid l i).length = i + 1
  | 0 => rfl
  | i + 1 => by simp [rgrid, rgrid_len P l i]
theorem rgrid_at (P : ProcD) (l : List Int) {k : Nat} : ∀ {i : Nat}, k ≤ i → (P.rgrid l i).getD k [] = P.rnow l k
  | 0, h => by rw [show k = 0 by omega]; rfl
  | i + 1, h => by
    simp only [rgrid]
    by_cases e : k = i + 1
    · subst e
      rw [List.getD_eq_getElem?_getD, List.getElem?_append_right (by rw [rgrid_len]; omega), rgrid_len, Nat.sub_self]
      rfl
    · rw [List.getD_eq_getElem?_getD, List.getElem?_append_left (by rw [rgrid_len]; omega), ← List.getD_eq_getElem?_getD]
      exact rgrid_at P l (by omega)
theorem rnow_ok {P : ProcD} {l : List Int} (h : P.stepsE = 0) : ∀ i, (∀ j, j < i → P.rerr l j = 0) → P.markB (P.rnow l i) = true
  | 0, _ => begin_ok h
  | i + 1, hz => by
    have ih := rnow_ok h i fun j hj => hz j (by omega)
    have hi := hz i (by omega)
    unfold rerr at hi
    simp only [rnow]
    split
    · exact ih
    · rename_i q
      rw [if_neg q] at hi
      obtain ⟨_, _, _, a, b, c⟩ := firE_zero hi
      rw [c]
      exact fire_ok ih a b
theorem rnow_len {P : ProcD} {l : List Int} (h : P.stepsE = 0) {i : Nat} (hz : ∀ j, j < i → P.rerr l j = 0) : (P.rnow l i).length ≤ 30 := by
  have h1 := (mark_of (rnow_ok h i hz)).len
  have h2 := (chk_small (stepsE_zero h).1).2
  omega
theorem rgrid_rows {P : ProcD} {l : List Int} (h : P.stepsE = 0) : ∀ {i : Nat}, (∀ j, j < i → P.rerr l j = 0) → ∀ x ∈ P.rgrid l i, x.length ≤ 30
  | 0, hz, x, hx => by
    simp only [rgrid, List.mem_singleton] at hx
    subst hx
    exact rnow_len h hz
  | i + 1, hz, x, hx => by
    simp only [rgrid, List.mem_append, List.mem_singleton] at hx
    rcases hx with hx | hx
    · exact rgrid_rows h (fun j hj => hz j (by omega)) x hx
    · subst hx
      exact rnow_len h hz
/-- What a verdict's replay says: an error, or the frames. -/
noncomputable def fraE (P : ProcD) (stem loop : List Int) (n : Nat) : Int :=
  if P.stepsE ≠ 0 then P.stepsE else if loop.length = 0 then 1 else if 60000 < stem.length + loop.length then 2
  else if n ≠ stem.length + loop.length then P.rerr (stem ++ loop) n
  else if P.rnow (stem ++ loop) stem.length = P.rnow (stem ++ loop) (stem.length + loop.length) then 0 else 9
noncomputable def fraL (P : ProcD) (stem loop : List Int) (n : Nat) : List (List Int) := if P.fraE stem loop n = 0 then P.rgrid (stem ++ loop) (stem.length + loop.length) else []
def seg (stem loop : List Int) : Nat → List Int
  | 0 => stem
  | _ => loop
def off (stem loop : List Int) : Nat → Nat
  | 0 => 0
  | 1 => stem.length
  | _ => stem.length + loop.length
theorem off_next {stem loop : List Int} {j : Nat} (h : j < 2) : off stem loop (j + 1) = off stem loop j + (seg stem loop j).length := by
  rcases j with _ | _ | j
  · simp [off, seg]
  · simp [off, seg]
  · omega
theorem seg_at {stem loop : List Int} {j k : Nat} (h : j < 2) (hk : k < (seg stem loop j).length) : (stem ++ loop).getD (off stem loop j + k) 0 = (seg stem loop j).getD k 0 := by
  rcases j with _ | _ | j
  · simp only [off, seg, Nat.zero_add] at hk ⊢
    rw [List.getD_eq_getElem?_getD, List.getD_eq_getElem?_getD, List.getElem?_append_left hk]
  · simp only [off, seg, Nat.zero_add] at hk ⊢
    rw [List.getD_eq_getElem?_getD, List.getD_eq_getElem?_getD, List.getElem?_append_right (by omega), Nat.add_sub_cancel_left]
  · omega
theorem off_le (stem loop : List Int) (j : Nat) : off stem loop j ≤ stem.length + loop.length := by
  rcases j with _ | _ | j <;> simp [off]
end ProcD
end

/-! ### XRy1 -/
section
open Go.RowKit
set_option linter.unusedSimpArgs false
set_option linter.unusedVariables false
open Classical in
noncomputable def oneE (P : ProcD) (M : List Int) (k : Int) : Int := if k = -1 then (if P.enL M = [] then 0 else 9) else P.firE M k
open Classical in
noncomputable def oneL (P : ProcD) (M : List Int) (k : Int) : List Int := if k = -1 then (if P.enL M = [] then M else []) else P.firL M k
theorem rerr_one (P : ProcD) (l : List Int) (i : Nat) : P.rerr l i = oneE P (P.rnow l i) (l.getD i 0) := by unfold ProcD.rerr oneE; rfl
theorem rnow_one {P : ProcD} {l : List Int} {i : Nat} (h : P.rerr l i = 0) : P.rnow l (i + 1) = oneL P (P.rnow l i) (l.getD i 0) := by
  unfold ProcD.rerr at h
  unfold oneL
  simp only [ProcD.rnow]
  split
  · rename_i q
    rw [if_pos q] at h
    split at h
    · rename_i q2; rw [if_pos q2]
    · cases h
  · rfl
def c74 : PC := .seq (.ops [⟨(some 3), .box (.tmp 0), none, 0⟩,
    ⟨(some 6), .move (.const (.slice none 0 0)), none, 0⟩,
    ⟨(some 7), .move (.const (.int .i64 0)), none, 0⟩] false) (.seq (.seq (.ops [⟨(some 10), .move (.tmp 2), none, 0⟩,
    ⟨(some 11), .bin .neq (.tmp 10) (.const (.int .i64 (-1))), none, 0⟩] false) (.cond (.tmp 11) (.seq (.ops [⟨(some 12), .loadA 2 (.tmp 3), none, 0⟩,
    ⟨(some 13), .move (.tmp 1), none, 0⟩,
    ⟨(some 14), .move (.tmp 2), none, 0⟩,
    ⟨(some 15), .call 99 [(.tmp 12), (.tmp 13), (.tmp 14)], none, 0⟩,
    ⟨(some 16), .ext 0 (.tmp 15), none, 0⟩,
    ⟨(some 17), .ext 1 (.tmp 15), none, 0⟩,
    ⟨(some 6), .move (.tmp 16), none, 0⟩,
    ⟨(some 7), .move (.tmp 17), none, 0⟩] false) (.ret)) (.skip))) (.seq (.seq (.ops [⟨(some 19), .loadA 2 (.tmp 3), none, 0⟩,
    ⟨(some 20), .move (.tmp 1), none, 0⟩,
    ⟨(some 21), .call 76 [(.tmp 19), (.tmp 20)], none, 0⟩,
    ⟨(some 18), .move (.tmp 21), none, 0⟩,
    ⟨(some 22), .ext 0 (.tmp 18), none, 0⟩,
    ⟨(some 23), .ext 1 (.tmp 18), none, 0⟩,
    ⟨(some 8), .move (.tmp 22), none, 0⟩,
    ⟨(some 9), .move (.tmp 23), none, 0⟩] false) (.seq (.ops [⟨(some 24), .move (.tmp 8), none, 0⟩,
    ⟨(some 25), .len (.tmp 24), none, 0⟩,
    ⟨(some 26), .bin .gtr (.tmp 25) (.const (.int .i64 0)), none, 0⟩] false) (.cond (.tmp 26) (.seq (.ops [⟨(some 6), .move (.const (.slice none 0 0)), none, 0⟩,
    ⟨(some 7), .move (.const (.int .i64 9)), none, 0⟩] false) (.ret)) (.skip)))) (.seq (.ops [⟨(some 27), .move (.tmp 1), none, 0⟩,
    ⟨(some 28), .call 88 [(.tmp 27)], none, 0⟩,
    ⟨(some 6), .move (.tmp 28), none, 0⟩,
    ⟨(some 7), .move (.const (.int .i64 0)), none, 0⟩] false) (.ret))))
set_option maxRecDepth 100000 in
theorem c74_ok : FunOK Try.prog 74 29 [.tmp 6, .tmp 7] c74 := ⟨⟨Try.f74, Try.func74, rfl, by kernel_rfl, rfl, by kernel_rfl⟩⟩
set_option maxRecDepth 100000 in
theorem replay_one (P : ProcD) (hP : P.Fits) (M : List Int) (hM : M.length ≤ 1000) (k : Int) : PCall Try.prog 74 [dproc P, dints M, .sc (.int .i64 k)] (.tup [dints (oneL P M k), .sc (.int .i64 (oneE P M k))]) := by
  have eE : oneE P M k = if k = -1 then (if P.enL M = [] then 0 else 9) else P.firE M k := by unfold oneE; rfl
  have eL : oneL P M k = if k = -1 then (if P.enL M = [] then M else []) else P.firL M k := by unfold oneL; rfl
  refine pcall_intro c74_ok (by simp) (by simp [PureL, Pure, pure_dproc, pure_dints]) ?_ (by simp [Pure, PureL, pure_dints])
  (apply red_sound; focus (repeat' (first | exact Red.skip | exact Red.ret | exact RedO.nil | exact RedD.nil | exact Red.exit _ | exact Red.loop _ | exact Red.stop _ | apply Red.ops | apply Red.draw | apply Red.seq | apply Red.cond | apply Red.block | apply RedO.cons | apply RedD.cons | exact (0 : Nat))))
  ((conv => whnf); repeat (refine And.intro rfl ?_; (conv => whnf)))
  (refine ifK_split (fun h1 => ?_) (fun h1 => ?_) <;> (rw [h1]; ((conv => whnf); repeat (refine And.intro rfl ?_; (conv => whnf)))))
  · have h1 : k ≠ -1 := by ((try simp only [oo, reduceCtorEq] at *) <;> omega)
    rw [if_neg h1] at eE eL
    (refine .inl ⟨_, (game_Fire P hP M (by omega) k), ?_⟩; ((conv => whnf); repeat (refine And.intro rfl ?_; (conv => whnf))))
    rw [eE, eL]
    exact .refl _
  have h1 : k = -1 := by ((try simp only [oo, reduceCtorEq] at *) <;> omega)
  rw [if_pos h1] at eE eL
  (refine .inl ⟨_, (game_Enabled P hP M (by omega)), ?_⟩; ((conv => whnf); repeat (refine And.intro rfl ?_; (conv => whnf))))
  rw [List.length_map]
  (refine ifK_split (fun h2 => ?_) (fun h2 => ?_) <;> (rw [h2]; ((conv => whnf); repeat (refine And.intro rfl ?_; (conv => whnf)))))
  · have h2 : 0 < (P.enL M).length := by ((try simp only [oo, reduceCtorEq] at *) <;> omega)
    have hne : P.enL M ≠ [] := fun e => by rw [e] at h2; simp at h2
    rw [if_neg hne] at eE eL
    rw [eE, eL]
    exact .tup _ _ (.cons _ _ _ _ (.none _) (.cons _ _ _ _ (.refl _) .nil))
  · have h2 : (P.enL M).length = 0 := by ((try simp only [oo, reduceCtorEq] at *) <;> omega)
    have hne : P.enL M = [] := List.length_eq_zero_iff.1 h2
    rw [if_pos hne] at eE eL
    (refine .inr (.inr (.inr (.inr (.inl ⟨_, _, _, (acallAt_new (cloneO_int M (by omega)) (by simp [PureL, Pure]) [1] rfl rfl (by simp [AObj.ren, renL, D.ren]; rfl)), ?_⟩)))); ((conv => whnf); repeat (refine And.intro rfl ?_; (conv => whnf))))
    rw [eE, eL]
    exact .tup _ _ (.cons _ _ _ _ (deep_ints rfl rfl) (.cons _ _ _ _ (.refl _) .nil))
def dverd (h : Bool) (stem loop : List Int) : D := .agg [.sc (.bool h), dints stem, dints loop]
theorem pure_dverd (h : Bool) (stem loop : List Int) : Pure (dverd h stem loop) := by simp [dverd, Pure, PureL, pure_dints]
theorem seg_row {stem loop : List Int} {z j : Nat} (hz : z = j) (h : j < 2) : ([[dints stem], [dints loop]] : List (List D))[z]? = some [dints (ProcD.seg stem loop j)] := by
  subst hz
  rcases z with _ | _ | z
  · rfl
  · rfl
  · omega
def c45_2 : PC := .seq (.ops [⟨(some 57), .bin .lss (.tmp 56) (.tmp 55), none, 0⟩] false) (.seq (.cond (.tmp 57) (.skip) (.exit 3)) (.seq (.block 4 (.seq (.ops [⟨(some 58), .iaddr 1 (.tmp 54) (.tmp 56), none, 0⟩,
    ⟨(some 59), .load1 (.tmp 58), none, 0⟩,
    ⟨(some 12), .move (.tmp 59), none, 0⟩] false) (.seq (.seq (.ops [⟨(some 61), .loadA 2 (.tmp 2), none, 0⟩,
    ⟨(some 62), .move (.tmp 6), none, 0⟩,
    ⟨(some 63), .move (.tmp 12), none, 0⟩,
    ⟨(some 64), .call 74 [(.tmp 61), (.tmp 62), (.tmp 63)], none, 0⟩,
    ⟨(some 60), .move (.tmp 64), none, 0⟩,
    ⟨(some 65), .ext 0 (.tmp 60), none, 0⟩,
    ⟨(some 66), .ext 1 (.tmp 60), none, 0⟩,
    ⟨(some 6), .move (.tmp 65), none, 0⟩,
    ⟨(some 7), .move (.tmp 66), none, 0⟩] false) (.seq (.ops [⟨(some 67), .move (.tmp 7), none, 0⟩,
    ⟨(some 68), .bin .neq (.tmp 67) (.const (.int .i64 0)), none, 0⟩] false) (.cond (.tmp 68) (.seq (.ops [⟨(some 69), .move (.tmp 7), none, 0⟩,
    ⟨(some 4), .move (.const (.slice none 0 0)), none, 0⟩,
    ⟨(some 5), .move (.tmp 69), none, 0⟩] false) (.ret)) (.skip)))) (.ops [⟨(some 70), .move (.tmp 8), none, 0⟩,
    ⟨(some 71), .move (.tmp 6), none, 0⟩,
    ⟨(some 72), .bslice 1 1 [(.tmp 71)], none, 0⟩,
    ⟨(some 73), .append 1 24 (.tmp 70) (.tmp 72), none, 0⟩,
    ⟨(some 8), .move (.tmp 73), none, 0⟩] false)))) (.ops [⟨(some 74), .bin .add (.tmp 56) (.const (.int .i64 1)), none, 0⟩,
    ⟨(some 56), .move (.tmp 74), none, 0⟩] false)))
def c45_1 : PC := .seq (.ops [⟨(some 51), .bin .lss (.tmp 50) (.tmp 49), none, 0⟩] false) (.seq (.cond (.tmp 51) (.skip) (.exit 1)) (.seq (.block 2 (.seq (.ops [⟨(some 52), .iaddr 1 (.tmp 48) (.tmp 50), none, 0⟩,
    ⟨(some 53), .load1 (.tmp 52), none, 0⟩,
    ⟨(some 10), .move (.tmp 53), none, 0⟩] false) (.seq (.ops [⟨(some 54), .move (.tmp 10), none, 0⟩,
    ⟨(some 55), .len (.tmp 54), none, 0⟩,
    ⟨(some 56), .move (.const (.int .i64 0)), none, 0⟩] false) (.block 3 (.loop c45_2))))) (.ops [⟨(some 75), .bin .add (.tmp 50) (.const (.int .i64 1)), none, 0⟩,
    ⟨(some 50), .move (.tmp 75), none, 0⟩] false)))
def c45 : PC := .seq (.ops [⟨(some 2), .box (.tmp 0), none, 0⟩,
    ⟨(some 3), .box (.tmp 1), none, 0⟩,
    ⟨(some 4), .move (.const (.slice none 0 0)), none, 0⟩,
    ⟨(some 5), .move (.const (.int .i64 0)), none, 0⟩] false) (.seq (.ops [⟨(some 14), .loadA 2 (.tmp 2), none, 0⟩,
    ⟨(some 15), .call 73 [(.tmp 14)], none, 0⟩,
    ⟨(some 13), .move (.tmp 15), none, 0⟩,
    ⟨(some 16), .ext 0 (.tmp 13), none, 0⟩,
    ⟨(some 17), .ext 1 (.tmp 13), none, 0⟩,
    ⟨(some 6), .move (.tmp 16), none, 0⟩,
    ⟨(some 7), .move (.tmp 17), none, 0⟩] false) (.seq (.block 0 (.seq (.ops [⟨(some 19), .move (.tmp 7), none, 0⟩,
    ⟨(some 20), .bin .neq (.tmp 19) (.const (.int .i64 0)), none, 0⟩,
    ⟨(some 18), .move (.tmp 20), none, 0⟩] false) (.cond (.tmp 18) (.seq (.ops [⟨(some 21), .move (.tmp 7), none, 0⟩,
    ⟨(some 4), .move (.const (.slice none 0 0)), none, 0⟩,
    ⟨(some 5), .move (.tmp 21), none, 0⟩] false) (.ret)) (.seq (.ops [⟨(some 23), .faddr 2 (.tmp 3), none, 0⟩,
    ⟨(some 24), .load1 (.tmp 23), none, 0⟩,
    ⟨(some 25), .len (.tmp 24), none, 0⟩,
    ⟨(some 26), .bin .eql (.tmp 25) (.const (.int .i64 0)), none, 0⟩,
    ⟨(some 22), .move (.tmp 26), none, 0⟩] false) (.cond (.tmp 22) (.seq (.ops [⟨(some 4), .move (.const (.slice none 0 0)), none, 0⟩,
    ⟨(some 5), .move (.const (.int .i64 1)), none, 0⟩] false) (.ret)) (.seq (.ops [⟨(some 28), .faddr 1 (.tmp 3), none, 0⟩,
    ⟨(some 29), .load1 (.tmp 28), none, 0⟩,
    ⟨(some 30), .len (.tmp 29), none, 0⟩,
    ⟨(some 31), .bin .gtr (.tmp 30) (.const (.int .i64 60000)), none, 0⟩,
    ⟨(some 32), .move (.tmp 31), none, 0⟩,
    ⟨(some 33), .faddr 2 (.tmp 3), (some (32, false)), 0⟩,
    ⟨(some 34), .load1 (.tmp 33), (some (32, false)), 0⟩,
    ⟨(some 35), .len (.tmp 34), (some (32, false)), 0⟩,
    ⟨(some 36), .faddr 1 (.tmp 3), (some (32, false)), 0⟩,
    ⟨(some 37), .load1 (.tmp 36), (some (32, false)), 0⟩,
    ⟨(some 38), .len (.tmp 37), (some (32, false)), 0⟩,
    ⟨(some 39), .bin .sub (.const (.int .i64 60000)) (.tmp 38), (some (32, false)), 0⟩,
    ⟨(some 40), .bin .gtr (.tmp 35) (.tmp 39), (some (32, false)), 0⟩,
    ⟨(some 41), .pick (.tmp 32) (.const (.bool true)) (.tmp 40), none, 0⟩,
    ⟨(some 27), .move (.tmp 41), none, 0⟩] false) (.cond (.tmp 27) (.seq (.ops [⟨(some 4), .move (.const (.slice none 0 0)), none, 0⟩,
    ⟨(some 5), .move (.const (.int .i64 2)), none, 0⟩] false) (.ret)) (.skip)))))))) (.seq (.ops [⟨(some 42), .move (.tmp 6), none, 0⟩,
    ⟨(some 43), .bslice 1 1 [(.tmp 42)], none, 0⟩,
    ⟨(some 8), .move (.tmp 43), none, 0⟩] false) (.seq (.seq (.ops [⟨(some 44), .faddr 1 (.tmp 3), none, 0⟩,
    ⟨(some 45), .load1 (.tmp 44), none, 0⟩,
    ⟨(some 46), .faddr 2 (.tmp 3), none, 0⟩,
    ⟨(some 47), .load1 (.tmp 46), none, 0⟩,
    ⟨(some 48), .bslice 1 2 [(.tmp 45), (.tmp 47)], none, 0⟩,
    ⟨(some 49), .len (.tmp 48), none, 0⟩,
    ⟨(some 50), .move (.const (.int .i64 0)), none, 0⟩] false) (.block 1 (.loop c45_1))) (.seq (.seq (.ops [⟨(some 76), .move (.tmp 8), none, 0⟩,
    ⟨(some 77), .faddr 1 (.tmp 3), none, 0⟩,
    ⟨(some 78), .load1 (.tmp 77), none, 0⟩,
    ⟨(some 79), .len (.tmp 78), none, 0⟩,
    ⟨(some 80), .iaddr 1 (.tmp 76) (.tmp 79), none, 0⟩,
    ⟨(some 81), .load1 (.tmp 80), none, 0⟩,
    ⟨(some 82), .move (.tmp 6), none, 0⟩,
    ⟨(some 83), .call 29 [(.tmp 81), (.tmp 82)], none, 0⟩,
    ⟨(some 84), .un .not (.tmp 83), none, 0⟩] false) (.cond (.tmp 84) (.seq (.ops [⟨(some 4), .move (.const (.slice none 0 0)), none, 0⟩,
    ⟨(some 5), .move (.const (.int .i64 9)), none, 0⟩] false) (.ret)) (.skip))) (.seq (.ops [⟨(some 85), .move (.tmp 8), none, 0⟩,
    ⟨(some 4), .move (.tmp 85), none, 0⟩,
    ⟨(some 5), .move (.const (.int .i64 0)), none, 0⟩] false) (.ret)))))))
set_option maxRecDepth 100000 in
theorem c45_ok : FunOK Try.prog 45 86 [.tmp 4, .tmp 5] c45 := ⟨⟨Try.f45, Try.func45, rfl, by kernel_rfl, rfl, by kernel_rfl⟩⟩
set_option maxRecDepth 100000 in
theorem replay_Frames (P : ProcD) (hP : P.Fits) (h : Bool) (stem loop : List Int) (l1 : stem.length ≤ 9223372036854775807) (l2 : loop.length ≤ 9223372036854775807) (n : Nat) (hn : n ≤ stem.length + loop.length) (hz : ∀ j, j < n → P.rerr (stem ++ loop) j = 0) (hs : n = stem.length + loop.length ∨ P.rerr (stem ++ loop) n ≠ 0) :
    PCall Try.prog 45 [dproc P, dverd h stem loop] (.tup [dgrid (P.fraL stem loop n), .sc (.int .i64 (P.fraE stem loop n))]) := by
  have eE : P.fraE stem loop n = if P.stepsE ≠ 0 then P.stepsE else if loop.length = 0 then 1 else if 60000 < stem.length + loop.length then 2
      else if n ≠ stem.length + loop.length then P.rerr (stem ++ loop) n
      else if P.rnow (stem ++ loop) stem.length = P.rnow (stem ++ loop) (stem.length + loop.length) then 0 else 9 := rfl
  have eL : P.fraL stem loop n = if P.fraE stem loop n = 0 then P.rgrid (stem ++ loop) (stem.length + loop.length) else [] := rfl
  refine pcall_intro c45_ok (by simp) (by simp [PureL, Pure, pure_dproc, pure_dverd]) ?_ (by simp [Pure, PureL, pure_dgrid'])
  have bad : ∀ {H : List AObj} {e : Int}, e ≠ 0 → P.fraE stem loop n = e → Deep H (.tup [.sc (.slice none 0 0), .sc (.int .i64 e)]) (.tup [dgrid (P.fraL stem loop n), .sc (.int .i64 (P.fraE stem loop n))]) := fun h q => by
    rw [eL, q, if_neg h]
    exact .tup _ _ (.cons _ _ _ _ (.none _) (.cons _ _ _ _ (.refl _) .nil))
  (apply red_sound; focus (repeat' (first | exact Red.skip | exact Red.ret | exact RedO.nil | exact RedD.nil | exact Red.exit _ | exact Red.loop _ | exact Red.stop _ | apply Red.ops | apply Red.draw | apply Red.seq | apply Red.cond | apply Red.block | apply RedO.cons | apply RedD.cons | exact (0 : Nat))))
  ((conv => whnf); repeat (refine And.intro rfl ?_; (conv => whnf)))
  (refine .inl ⟨_, (game_Begin P hP), ?_⟩; ((conv => whnf); repeat (refine And.intro rfl ?_; (conv => whnf))))
  (refine ifK_split (fun h1 => ?_) (fun h1 => ?_) <;> (rw [h1]; ((conv => whnf); repeat (refine And.intro rfl ?_; (conv => whnf)))))
  · have h1 : P.stepsE ≠ 0 := by ((try simp only [oo, reduceCtorEq] at *) <;> omega)
    exact bad h1 (by rw [eE, if_pos h1])
  have h1 : P.stepsE = 0 := by ((try simp only [oo, reduceCtorEq] at *) <;> omega)
  rw [if_neg (by omega)] at eE
  rw [List.length_map]
  (refine ifK_split (fun h2 => ?_) (fun h2 => ?_) <;> (rw [h2]; ((conv => whnf); repeat (refine And.intro rfl ?_; (conv => whnf)))))
  · exact bad (by decide) (by rw [eE, if_pos (by ((try simp only [oo, reduceCtorEq] at *) <;> omega))])
  rw [if_neg (by ((try simp only [oo, reduceCtorEq] at *) <;> omega))] at eE
  rw [List.length_map]
  by_cases h3 : 60000 < stem.length
  · have hb : decide ((stem.length : Int) > 60000) = true := decide_eq_true (by omega)
    rw [hb]
    ((conv => whnf); repeat (refine And.intro rfl ?_; (conv => whnf)))
    exact bad (by decide) (by rw [eE, if_pos (by omega)])
  have hb : decide ((stem.length : Int) > 60000) = false := decide_eq_false (by omega)
  rw [hb]
  ((conv => whnf); repeat (refine And.intro rfl ?_; (conv => whnf)))
  rw [List.length_map, List.length_map]
  (refine .inl ⟨by (unfold InR; rw [IntKind.wrap_i64]; omega), ?_⟩; ((conv => whnf); repeat (refine And.intro rfl ?_; (conv => whnf))))
  (refine ifK_split (fun h4 => ?_) (fun h4 => ?_) <;> (rw [h4]; ((conv => whnf); repeat (refine And.intro rfl ?_; (conv => whnf)))))
  · exact bad (by decide) (by rw [eE, if_pos (by ((try simp only [oo, reduceCtorEq] at *) <;> omega))])
  rw [if_neg (by ((try simp only [oo, reduceCtorEq] at *) <;> omega))] at eE
  have h4 : stem.length + loop.length ≤ 60000 := by ((try simp only [oo, reduceCtorEq] at *) <;> omega)
  ((conv => whnf); repeat (refine And.intro rfl ?_; (conv => whnf)))
  refine pwp_for [2, 3, 48, 49] (fun j : Nat => [(6, dints (P.rnow (stem ++ loop) (ProcD.off stem loop j))), (8, .own 2 (ProcD.off stem loop j) 0 (ProcD.off stem loop j + 1)), (50, .sc (.int .i64 j))]) (fun j => [(2, .vec true (ProcD.off stem loop j) 1 (grows (P.rgrid (stem ++ loop) (ProcD.off stem loop j))))]) (fun j => j ≤ 2 ∧ ProcD.off stem loop j ≤ n) (fun j => 2 - j) 0 ?_
  ((conv => whnf); repeat (refine And.intro rfl ?_; (conv => whnf)))
  refine ⟨⟨by omega, by simp [ProcD.off]⟩, by (repeat' (first | exact trivial | refine And.intro rfl ?_)), rfl, ?_⟩
  rintro j ⟨hj, hjn⟩
  ((conv => whnf); repeat (refine And.intro rfl ?_; (conv => whnf)))
  (apply red_sound; focus (repeat' (first | exact Red.skip | exact Red.ret | exact RedO.nil | exact RedD.nil | exact Red.exit _ | exact Red.loop _ | exact Red.stop _ | apply Red.ops | apply Red.draw | apply Red.seq | apply Red.cond | apply Red.block | apply RedO.cons | apply RedD.cons | exact (0 : Nat))))
  ((conv => whnf); repeat (refine And.intro rfl ?_; (conv => whnf)))
  (refine ifK_split (fun h5 => ?_) (fun h5 => ?_) <;> (rw [h5]; ((conv => whnf); repeat (refine And.intro rfl ?_; (conv => whnf)))))
  · have hj' : j < 2 := by ((try simp only [oo, reduceCtorEq] at *) <;> omega)
    have en := ProcD.off_next (stem := stem) (loop := loop) hj'
    have hol := ProcD.off_le stem loop (j + 1)
    (refine ⟨by omega, (by first | omega | (simp; done) | (simp; omega) | (simp only [ll]; omega)), ?_⟩; ((conv => whnf); repeat (refine And.intro rfl ?_; (conv => whnf))))
    refine ⟨_, seg_row (stem := stem) (loop := loop) (j := j) (by omega) hj', ?_⟩
    ((conv => whnf); repeat (refine And.intro rfl ?_; (conv => whnf)))
    rw [List.length_map]
    refine pwp_for [2, 3, 48, 49, 50, 54, 55] (fun k : Nat => [(6, dints (P.rnow (stem ++ loop) (ProcD.off stem loop j + k))), (8, .own 2 (ProcD.off stem loop j + k) 0 (ProcD.off stem loop j + k + 1)), (56, .sc (.int .i64 k))]) (fun k => [(2, .vec true (ProcD.off stem loop j + k) 1 (grows (P.rgrid (stem ++ loop) (ProcD.off stem loop j + k))))]) (fun k => k ≤ (ProcD.seg stem loop j).length ∧ ProcD.off stem loop j + k ≤ n) (fun k => (ProcD.seg stem loop j).length - k) 0 ?_
    ((conv => whnf); repeat (refine And.intro rfl ?_; (conv => whnf)))
    refine ⟨⟨by omega, by omega⟩, by (repeat' (first | exact trivial | refine And.intro rfl ?_)), rfl, ?_⟩
    rintro k ⟨hk, hkn⟩
    ((conv => whnf); repeat (refine And.intro rfl ?_; (conv => whnf)))
    (apply red_sound; focus (repeat' (first | exact Red.skip | exact Red.ret | exact RedO.nil | exact RedD.nil | exact Red.exit _ | exact Red.loop _ | exact Red.stop _ | apply Red.ops | apply Red.draw | apply Red.seq | apply Red.cond | apply Red.block | apply RedO.cons | apply RedD.cons | exact (0 : Nat))))
    ((conv => whnf); repeat (refine And.intro rfl ?_; (conv => whnf)))
    (refine ifK_split (fun h6 => ?_) (fun h6 => ?_) <;> (rw [h6]; ((conv => whnf); repeat (refine And.intro rfl ?_; (conv => whnf)))))
    · have hk' : k < (ProcD.seg stem loop j).length := by ((try simp only [oo, reduceCtorEq] at *) <;> omega)
      have esg := ProcD.seg_at (stem := stem) (loop := loop) hj' hk'
      have hzi : ∀ q, q < ProcD.off stem loop j + k → P.rerr (stem ++ loop) q = 0 := fun q hq => hz q (by omega)
      have lN := ProcD.rnow_len h1 hzi
      have hO := replay_one P hP (P.rnow (stem ++ loop) (ProcD.off stem loop j + k)) (by omega) ((ProcD.seg stem loop j).getD k 0)
      have er := rerr_one P (stem ++ loop) (ProcD.off stem loop j + k)
      have eo := rnow_one (P := P) (l := stem ++ loop) (i := ProcD.off stem loop j + k)
      rw [esg] at er eo
      rw [← er] at hO
      have eg : P.rgrid (stem ++ loop) (ProcD.off stem loop j + (k + 1)) = P.rgrid (stem ++ loop) (ProcD.off stem loop j + k) ++ [P.rnow (stem ++ loop) (ProcD.off stem loop j + k + 1)] := rfl
      have lG := P.rgrid_len (stem ++ loop) (ProcD.off stem loop j + k)
      refine ⟨by omega, _, intsD_at (k := k) (by omega) hk', ?_⟩
      ((conv => whnf); repeat (refine And.intro rfl ?_; (conv => whnf)))
      (refine .inl ⟨_, hO, ?_⟩; ((conv => whnf); repeat (refine And.intro rfl ?_; (conv => whnf))))
      (refine ifK_split (fun h7 => ?_) (fun h7 => ?_) <;> (rw [h7]; ((conv => whnf); repeat (refine And.intro rfl ?_; (conv => whnf)))))
      · have h7 : P.rerr (stem ++ loop) (ProcD.off stem loop j + k) ≠ 0 := by ((try simp only [oo, reduceCtorEq] at *) <;> omega)
        have e : ProcD.off stem loop j + k = n := by
          by_cases q : ProcD.off stem loop j + k = n
          · exact q
          · exact absurd (hz _ (by omega)) h7
        refine bad h7 ?_
        rw [eE, ← e, if_pos (by omega)]
      · have h7 : P.rerr (stem ++ loop) (ProcD.off stem loop j + k) = 0 := by ((try simp only [oo, reduceCtorEq] at *) <;> omega)
        have e : ProcD.off stem loop j + k < n := by
          by_cases q : ProcD.off stem loop j + k = n
          · rw [q] at h7
            rcases hs with hs | hs
            · omega
            · exact absurd h7 hs
          · omega
        rw [← eo h7]
        refine ⟨(by unfold sliceAppend; simp only [ll]; omega), ?_⟩
        ((conv => whnf); repeat (refine And.intro rfl ?_; (conv => whnf)))
        (refine .inl ⟨by (unfold InR; rw [IntKind.wrap_i64]; omega), ?_⟩; ((conv => whnf); repeat (refine And.intro rfl ?_; (conv => whnf))))
        refine ⟨k + 1, ⟨by omega, by omega⟩, by dsimp only; omega, ?_⟩
        (refine leB_close 4 (by simp) rfl ?_ ?_ <;> (repeat' (first | exact trivial | exact rfl | exact DeepM.refl _ | exact DeepML.refl _ | exact DeepMLL.refl _ | refine And.intro ?_ ?_ | (simp [Under, UnderL, UnderLL, -List.map_take, -List.map_drop]; done))))
        exact deepMLL_eq (by rw [eg]; exact grows_snoc lG.symm)
    · have hk' : k = (ProcD.seg stem loop j).length := by have : ¬ k < (ProcD.seg stem loop j).length := by ((try simp only [oo, reduceCtorEq] at *) <;> omega)
                                                          omega
      subst hk'
      rw [← en]
      (refine .inl ⟨by (unfold InR; rw [IntKind.wrap_i64]; omega), ?_⟩; ((conv => whnf); repeat (refine And.intro rfl ?_; (conv => whnf))))
      refine ⟨j + 1, ⟨by omega, by omega⟩, by dsimp only; omega, leB_envH (by (repeat' (first | exact trivial | refine And.intro rfl ?_))) rfl⟩
  · have hj' : j = 2 := by have : ¬ j < 2 := by ((try simp only [oo, reduceCtorEq] at *) <;> omega)
                           omega
    subst hj'
    have e : n = stem.length + loop.length := by
      have : ProcD.off stem loop 2 = stem.length + loop.length := rfl
      omega
    subst e
    rw [show ProcD.off stem loop 2 = stem.length + loop.length from rfl, List.length_map]
    rw [if_neg (by omega)] at eE
    have lG := P.rgrid_len (stem ++ loop) (stem.length + loop.length)
    have lN := ProcD.rnow_len (l := stem ++ loop) h1 (i := stem.length) fun q hq => hz q (by omega)
    (refine ⟨by omega, (by first | omega | (simp; done) | (simp; omega) | (simp only [ll]; omega)), ?_⟩; ((conv => whnf); repeat (refine And.intro rfl ?_; (conv => whnf))))
    refine ⟨_, grows_at (k := stem.length) (by omega) (by omega), ?_⟩
    ((conv => whnf); repeat (refine And.intro rfl ?_; (conv => whnf)))
    rw [ProcD.rgrid_at P (stem ++ loop) (by omega)]
    (refine .inl ⟨_, (equal_int (P.rnow (stem ++ loop) stem.length) (P.rnow (stem ++ loop) (stem.length + loop.length)) (by omega)), ?_⟩; ((conv => whnf); repeat (refine And.intro rfl ?_; (conv => whnf))))
    by_cases h8 : P.rnow (stem ++ loop) stem.length = P.rnow (stem ++ loop) (stem.length + loop.length)
    · rw [if_pos h8] at eE
      rw [decide_eq_true h8]
      ((conv => whnf); repeat (refine And.intro rfl ?_; (conv => whnf)))
      rw [eL, eE, if_pos rfl]
      exact .tup _ _ (.cons _ _ _ _ (deep_grows lG.symm rfl) (.cons _ _ _ _ (.refl _) .nil))
    · rw [if_neg h8] at eE
      rw [decide_eq_false h8]
      ((conv => whnf); repeat (refine And.intro rfl ?_; (conv => whnf)))
      exact bad (by decide) eE
end

/-! ### XRy2 -/
section
open Go.RowKit
set_option linter.unusedSimpArgs false
set_option linter.unusedVariables false
def c15_1 : PC := .seq (.seq (.ops [⟨(some 49), .move (.tmp 10), none, 0⟩,
    ⟨(some 50), .move (.tmp 9), none, 0⟩,
    ⟨(some 51), .len (.tmp 50), none, 0⟩,
    ⟨(some 52), .bin .lss (.tmp 49) (.tmp 51), none, 0⟩] false) (.cond (.tmp 52) (.skip) (.exit 0))) (.seq (.block 1 (.seq (.ops [⟨(some 55), .move (.tmp 8), none, 0⟩,
    ⟨(some 56), .move (.tmp 8), none, 0⟩,
    ⟨(some 57), .len (.tmp 56), none, 0⟩,
    ⟨(some 58), .bin .sub (.tmp 57) (.const (.int .i64 1)), none, 0⟩,
    ⟨(some 59), .iaddr 1 (.tmp 55) (.tmp 58), none, 0⟩,
    ⟨(some 60), .load1 (.tmp 59), none, 0⟩,
    ⟨(some 11), .move (.tmp 60), none, 0⟩] false) (.seq (.seq (.ops [⟨(some 61), .move (.tmp 9), none, 0⟩,
    ⟨(some 62), .move (.tmp 10), none, 0⟩,
    ⟨(some 63), .iaddr 1 (.tmp 61) (.tmp 62), none, 0⟩,
    ⟨(some 64), .load1 (.tmp 63), none, 0⟩,
    ⟨(some 65), .bin .eql (.tmp 64) (.const (.int .i64 (-1))), none, 0⟩] false) (.cond (.tmp 65) (.seq (.seq (.ops [⟨(some 66), .loadA 2 (.tmp 2), none, 0⟩,
    ⟨(some 67), .move (.tmp 6), none, 0⟩,
    ⟨(some 68), .move (.tmp 11), none, 0⟩,
    ⟨(some 69), .call 27 [(.tmp 66), (.tmp 67), (.tmp 68)], none, 0⟩,
    ⟨(some 70), .len (.tmp 69), none, 0⟩,
    ⟨(some 71), .bin .gtr (.tmp 70) (.const (.int .i64 0)), none, 0⟩] false) (.cond (.tmp 71) (.seq (.ops [⟨(some 4), .move (.const (.slice none 0 0)), none, 0⟩,
    ⟨(some 5), .move (.const (.int .i64 9)), none, 0⟩] false) (.ret)) (.skip))) (.seq (.ops [⟨(some 72), .move (.tmp 8), none, 0⟩,
    ⟨(some 73), .move (.tmp 11), none, 0⟩,
    ⟨(some 74), .append 1 8 (.const (.slice none 0 0)) (.tmp 73), none, 0⟩,
    ⟨(some 75), .bslice 1 1 [(.tmp 74)], none, 0⟩,
    ⟨(some 76), .append 1 24 (.tmp 72) (.tmp 75), none, 0⟩,
    ⟨(some 8), .move (.tmp 76), none, 0⟩] false) (.exit 1))) (.skip))) (.seq (.seq (.ops [⟨(some 77), .move (.tmp 9), none, 0⟩,
    ⟨(some 78), .move (.tmp 10), none, 0⟩,
    ⟨(some 79), .iaddr 1 (.tmp 77) (.tmp 78), none, 0⟩,
    ⟨(some 80), .load1 (.tmp 79), none, 0⟩,
    ⟨(some 81), .bin .lss (.tmp 80) (.const (.int .i64 0)), none, 0⟩,
    ⟨(some 82), .move (.tmp 81), none, 0⟩,
    ⟨(some 83), .move (.tmp 9), (some (82, false)), 0⟩,
    ⟨(some 84), .move (.tmp 10), (some (82, false)), 0⟩,
    ⟨(some 85), .iaddr 1 (.tmp 83) (.tmp 84), (some (82, false)), 0⟩,
    ⟨(some 86), .load1 (.tmp 85), (some (82, false)), 0⟩,
    ⟨(some 87), .move (.tmp 6), (some (82, false)), 0⟩,
    ⟨(some 88), .len (.tmp 87), (some (82, false)), 0⟩,
    ⟨(some 89), .bin .geq (.tmp 86) (.tmp 88), (some (82, false)), 0⟩,
    ⟨(some 90), .pick (.tmp 82) (.const (.bool true)) (.tmp 89), none, 0⟩] false) (.cond (.tmp 90) (.seq (.ops [⟨(some 4), .move (.const (.slice none 0 0)), none, 0⟩,
    ⟨(some 5), .move (.const (.int .i64 1)), none, 0⟩] false) (.ret)) (.skip))) (.seq (.seq (.ops [⟨(some 91), .loadA 2 (.tmp 2), none, 0⟩,
    ⟨(some 92), .move (.tmp 11), none, 0⟩,
    ⟨(some 93), .move (.tmp 6), none, 0⟩,
    ⟨(some 94), .move (.tmp 9), none, 0⟩,
    ⟨(some 95), .move (.tmp 10), none, 0⟩,
    ⟨(some 96), .iaddr 1 (.tmp 94) (.tmp 95), none, 24⟩,
    ⟨(some 97), .load1 (.tmp 96), none, 56⟩,
    ⟨(some 98), .iaddr 3 (.tmp 93) (.tmp 97), none, 124⟩,
    ⟨(some 99), .loadA 3 (.tmp 98), none, 252⟩,
    ⟨(some 100), .call 50 [(.tmp 91), (.tmp 92), (.tmp 99)], none, 511⟩,
    ⟨(some 101), .un .not (.tmp 100), none, 1023⟩] true) (.cond (.tmp 101) (.seq (.ops [⟨(some 4), .move (.const (.slice none 0 0)), none, 0⟩,
    ⟨(some 5), .move (.const (.int .i64 9)), none, 0⟩] false) (.ret)) (.skip))) (.seq (.ops [⟨(some 103), .loadA 2 (.tmp 2), none, 0⟩,
    ⟨(some 104), .move (.tmp 11), none, 0⟩,
    ⟨(some 105), .move (.tmp 6), none, 0⟩,
    ⟨(some 106), .move (.tmp 9), none, 0⟩,
    ⟨(some 107), .move (.tmp 10), none, 0⟩,
    ⟨(some 108), .iaddr 1 (.tmp 106) (.tmp 107), none, 24⟩,
    ⟨(some 109), .load1 (.tmp 108), none, 56⟩,
    ⟨(some 110), .iaddr 3 (.tmp 105) (.tmp 109), none, 124⟩,
    ⟨(some 111), .loadA 3 (.tmp 110), none, 252⟩,
    ⟨(some 112), .call 28 [(.tmp 103), (.tmp 104), (.tmp 111)], none, 511⟩,
    ⟨(some 102), .move (.tmp 112), none, 1023⟩,
    ⟨(some 113), .ext 0 (.tmp 102), none, 2047⟩,
    ⟨(some 114), .ext 1 (.tmp 102), none, 2047⟩,
    ⟨(some 12), .move (.tmp 113), none, 4095⟩,
    ⟨(some 13), .move (.tmp 114), none, 16383⟩] true) (.seq (.seq (.ops [⟨(some 115), .move (.tmp 13), none, 0⟩,
    ⟨(some 116), .bin .neq (.tmp 115) (.const (.int .i64 0)), none, 0⟩] false) (.cond (.tmp 116) (.seq (.ops [⟨(some 117), .move (.tmp 13), none, 0⟩,
    ⟨(some 4), .move (.const (.slice none 0 0)), none, 0⟩,
    ⟨(some 5), .move (.tmp 117), none, 0⟩] false) (.ret)) (.skip))) (.ops [⟨(some 118), .move (.tmp 8), none, 0⟩,
    ⟨(some 119), .move (.tmp 12), none, 0⟩,
    ⟨(some 120), .bslice 1 1 [(.tmp 119)], none, 0⟩,
    ⟨(some 121), .append 1 24 (.tmp 118) (.tmp 120), none, 0⟩,
    ⟨(some 8), .move (.tmp 121), none, 0⟩] false)))))))) (.ops [⟨(some 53), .move (.tmp 10), none, 0⟩,
    ⟨(some 54), .bin .add (.tmp 53) (.const (.int .i64 1)), none, 0⟩,
    ⟨(some 10), .move (.tmp 54), none, 0⟩] false))
def c15 : PC := .seq (.ops [⟨(some 2), .box (.tmp 0), none, 0⟩,
    ⟨(some 3), .box (.tmp 1), none, 0⟩,
    ⟨(some 4), .move (.const (.slice none 0 0)), none, 0⟩,
    ⟨(some 5), .move (.const (.int .i64 0)), none, 0⟩] false) (.seq (.ops [⟨(some 15), .loadA 2 (.tmp 2), none, 0⟩,
    ⟨(some 16), .call 25 [(.tmp 15)], none, 0⟩,
    ⟨(some 14), .move (.tmp 16), none, 0⟩,
    ⟨(some 17), .ext 0 (.tmp 14), none, 0⟩,
    ⟨(some 18), .ext 1 (.tmp 14), none, 0⟩,
    ⟨(some 6), .move (.tmp 17), none, 0⟩,
    ⟨(some 7), .move (.tmp 18), none, 0⟩] false) (.seq (.seq (.ops [⟨(some 19), .move (.tmp 7), none, 0⟩,
    ⟨(some 20), .bin .neq (.tmp 19) (.const (.int .i64 0)), none, 0⟩] false) (.cond (.tmp 20) (.seq (.ops [⟨(some 21), .move (.tmp 7), none, 0⟩,
    ⟨(some 4), .move (.const (.slice none 0 0)), none, 0⟩,
    ⟨(some 5), .move (.tmp 21), none, 0⟩] false) (.ret)) (.skip))) (.seq (.seq (.ops [⟨(some 22), .faddr 2 (.tmp 3), none, 0⟩,
    ⟨(some 23), .load1 (.tmp 22), none, 0⟩,
    ⟨(some 24), .len (.tmp 23), none, 0⟩,
    ⟨(some 25), .bin .eql (.tmp 24) (.const (.int .i64 0)), none, 0⟩] false) (.cond (.tmp 25) (.seq (.ops [⟨(some 4), .move (.const (.slice none 0 0)), none, 0⟩,
    ⟨(some 5), .move (.const (.int .i64 1)), none, 0⟩] false) (.ret)) (.skip))) (.seq (.seq (.ops [⟨(some 26), .faddr 1 (.tmp 3), none, 0⟩,
    ⟨(some 27), .load1 (.tmp 26), none, 0⟩,
    ⟨(some 28), .len (.tmp 27), none, 0⟩,
    ⟨(some 29), .bin .gtr (.tmp 28) (.const (.int .i64 60000)), none, 0⟩,
    ⟨(some 30), .move (.tmp 29), none, 0⟩,
    ⟨(some 31), .faddr 2 (.tmp 3), (some (30, false)), 0⟩,
    ⟨(some 32), .load1 (.tmp 31), (some (30, false)), 0⟩,
    ⟨(some 33), .len (.tmp 32), (some (30, false)), 0⟩,
    ⟨(some 34), .faddr 1 (.tmp 3), (some (30, false)), 0⟩,
    ⟨(some 35), .load1 (.tmp 34), (some (30, false)), 0⟩,
    ⟨(some 36), .len (.tmp 35), (some (30, false)), 0⟩,
    ⟨(some 37), .bin .sub (.const (.int .i64 60000)) (.tmp 36), (some (30, false)), 0⟩,
    ⟨(some 38), .bin .gtr (.tmp 33) (.tmp 37), (some (30, false)), 0⟩,
    ⟨(some 39), .pick (.tmp 30) (.const (.bool true)) (.tmp 38), none, 0⟩] false) (.cond (.tmp 39) (.seq (.ops [⟨(some 4), .move (.const (.slice none 0 0)), none, 0⟩,
    ⟨(some 5), .move (.const (.int .i64 2)), none, 0⟩] false) (.ret)) (.skip))) (.seq (.ops [⟨(some 40), .loadA 2 (.tmp 2), none, 0⟩,
    ⟨(some 41), .call 26 [(.tmp 40)], none, 0⟩,
    ⟨(some 42), .bslice 1 1 [(.tmp 41)], none, 0⟩,
    ⟨(some 8), .move (.tmp 42), none, 0⟩] false) (.seq (.ops [⟨(some 43), .faddr 1 (.tmp 3), none, 0⟩,
    ⟨(some 44), .load1 (.tmp 43), none, 1⟩,
    ⟨(some 45), .append 1 8 (.const (.slice none 0 0)) (.tmp 44), none, 3⟩,
    ⟨(some 46), .faddr 2 (.tmp 3), none, 0⟩,
    ⟨(some 47), .load1 (.tmp 46), none, 8⟩,
    ⟨(some 48), .append 1 8 (.tmp 45) (.tmp 47), none, 31⟩,
    ⟨(some 9), .move (.tmp 48), none, 63⟩] true) (.seq (.seq (.ops [⟨(some 10), .move (.const (.int .i64 0)), none, 0⟩] false) (.block 0 (.loop c15_1))) (.seq (.seq (.ops [⟨(some 122), .move (.tmp 8), none, 0⟩,
    ⟨(some 123), .faddr 1 (.tmp 3), none, 0⟩,
    ⟨(some 124), .load1 (.tmp 123), none, 2⟩,
    ⟨(some 125), .len (.tmp 124), none, 6⟩,
    ⟨(some 126), .iaddr 1 (.tmp 122) (.tmp 125), none, 15⟩,
    ⟨(some 127), .load1 (.tmp 126), none, 31⟩,
    ⟨(some 128), .move (.tmp 8), none, 0⟩,
    ⟨(some 129), .move (.tmp 8), none, 0⟩,
    ⟨(some 130), .len (.tmp 129), none, 128⟩,
    ⟨(some 131), .bin .sub (.tmp 130) (.const (.int .i64 1)), none, 384⟩,
    ⟨(some 132), .iaddr 1 (.tmp 128) (.tmp 131), none, 960⟩,
    ⟨(some 133), .load1 (.tmp 132), none, 1984⟩,
    ⟨(some 134), .call 29 [(.tmp 127), (.tmp 133)], none, 4095⟩,
    ⟨(some 135), .un .not (.tmp 134), none, 8191⟩] true) (.cond (.tmp 135) (.seq (.ops [⟨(some 4), .move (.const (.slice none 0 0)), none, 0⟩,
    ⟨(some 5), .move (.const (.int .i64 9)), none, 0⟩] false) (.ret)) (.skip))) (.seq (.ops [⟨(some 136), .move (.tmp 8), none, 0⟩,
    ⟨(some 4), .move (.tmp 136), none, 0⟩,
    ⟨(some 5), .move (.const (.int .i64 0)), none, 0⟩] false) (.ret))))))))))
set_option maxRecDepth 100000 in
theorem c15_ok : FunOK Try.prog 15 137 [.tmp 4, .tmp 5] c15 := ⟨⟨Try.f15, Try.func15, rfl, by kernel_rfl, rfl, by kernel_rfl⟩⟩
set_option maxRecDepth 100000 in
theorem ref_Frames (P : ProcD) (hP : P.Fits) (h : Bool) (stem loop : List Int) (l1 : stem.length ≤ 9223372036854775807) (l2 : loop.length ≤ 9223372036854775807) (n : Nat) (hn : n ≤ stem.length + loop.length) (hz : ∀ j, j < n → P.rerr (stem ++ loop) j = 0) (hs : n = stem.length + loop.length ∨ P.rerr (stem ++ loop) n ≠ 0) :
    PCall Try.prog 15 [dproc P, dverd h stem loop] (.tup [dgrid (P.fraL stem loop n), .sc (.int .i64 (P.fraE stem loop n))]) := by
  have eE : P.fraE stem loop n = if P.stepsE ≠ 0 then P.stepsE else if loop.length = 0 then 1 else if 60000 < stem.length + loop.length then 2
      else if n ≠ stem.length + loop.length then P.rerr (stem ++ loop) n
      else if P.rnow (stem ++ loop) stem.length = P.rnow (stem ++ loop) (stem.length + loop.length) then 0 else 9 := rfl
  have eL : P.fraL stem loop n = if P.fraE stem loop n = 0 then P.rgrid (stem ++ loop) (stem.length + loop.length) else [] := rfl
  refine pcall_intro c15_ok (by simp) (by simp [PureL, Pure, pure_dproc, pure_dverd]) ?_ (by simp [Pure, PureL, pure_dgrid'])
  have bad : ∀ {H : List AObj} {e : Int}, e ≠ 0 → P.fraE stem loop n = e → Deep H (.tup [.sc (.slice none 0 0), .sc (.int .i64 e)]) (.tup [dgrid (P.fraL stem loop n), .sc (.int .i64 (P.fraE stem loop n))]) := fun h q => by
    rw [eL, q, if_neg h]
    exact .tup _ _ (.cons _ _ _ _ (.none _) (.cons _ _ _ _ (.refl _) .nil))
  (apply red_sound; focus (repeat' (first | exact Red.skip | exact Red.ret | exact RedO.nil | exact RedD.nil | exact Red.exit _ | exact Red.loop _ | exact Red.stop _ | apply Red.ops | apply Red.draw | apply Red.seq | apply Red.cond | apply Red.block | apply RedO.cons | apply RedD.cons | exact (0 : Nat))))
  ((conv => whnf); repeat (refine And.intro rfl ?_; (conv => whnf)))
  (refine .inl ⟨_, (ref_Steps P hP), ?_⟩; ((conv => whnf); repeat (refine And.intro rfl ?_; (conv => whnf))))
  (refine ifK_split (fun h1 => ?_) (fun h1 => ?_) <;> (rw [h1]; ((conv => whnf); repeat (refine And.intro rfl ?_; (conv => whnf)))))
  · have h1 : P.stepsE ≠ 0 := by ((try simp only [oo, reduceCtorEq] at *) <;> omega)
    exact bad h1 (by rw [eE, if_pos h1])
  have h1 : P.stepsE = 0 := by ((try simp only [oo, reduceCtorEq] at *) <;> omega)
  rw [if_neg (by omega)] at eE
  rw [List.length_map]
  (refine ifK_split (fun h2 => ?_) (fun h2 => ?_) <;> (rw [h2]; ((conv => whnf); repeat (refine And.intro rfl ?_; (conv => whnf)))))
  · exact bad (by decide) (by rw [eE, if_pos (by ((try simp only [oo, reduceCtorEq] at *) <;> omega))])
  rw [if_neg (by ((try simp only [oo, reduceCtorEq] at *) <;> omega))] at eE
  rw [List.length_map]
  by_cases h3 : 60000 < stem.length
  · have hb : decide ((stem.length : Int) > 60000) = true := decide_eq_true (by omega)
    rw [hb]
    ((conv => whnf); repeat (refine And.intro rfl ?_; (conv => whnf)))
    exact bad (by decide) (by rw [eE, if_pos (by omega)])
  have hb : decide ((stem.length : Int) > 60000) = false := decide_eq_false (by omega)
  rw [hb]
  ((conv => whnf); repeat (refine And.intro rfl ?_; (conv => whnf)))
  rw [List.length_map, List.length_map]
  (refine .inl ⟨by (unfold InR; rw [IntKind.wrap_i64]; omega), ?_⟩; ((conv => whnf); repeat (refine And.intro rfl ?_; (conv => whnf))))
  (refine ifK_split (fun h4 => ?_) (fun h4 => ?_) <;> (rw [h4]; ((conv => whnf); repeat (refine And.intro rfl ?_; (conv => whnf)))))
  · exact bad (by decide) (by rw [eE, if_pos (by ((try simp only [oo, reduceCtorEq] at *) <;> omega))])
  rw [if_neg (by ((try simp only [oo, reduceCtorEq] at *) <;> omega))] at eE
  have h4 : stem.length + loop.length ≤ 60000 := by ((try simp only [oo, reduceCtorEq] at *) <;> omega)
  (refine .inl ⟨_, (ref_Begin P hP h1), ?_⟩; ((conv => whnf); repeat (refine And.intro rfl ?_; (conv => whnf))))
  refine ⟨(by unfold sliceAppend; simp only [ll]; omega), ?_⟩
  ((conv => whnf); repeat (refine And.intro rfl ?_; (conv => whnf)))
  refine ⟨(by unfold sliceAppend; simp only [ll]; omega), ?_⟩
  ((conv => whnf); repeat (refine And.intro rfl ?_; (conv => whnf)))
  rw [List.length_map, List.length_map, drop_take_all (by simp)]
  have eA : (List.map (fun n => [D.sc (Value.int IntKind.i64 n)]) stem ++ List.map (fun n => [D.sc (Value.int IntKind.i64 n)]) loop) = i64s (stem ++ loop) := by simp [i64s]
  rw [eA]
  have lA : (stem ++ loop).length = stem.length + loop.length := List.length_append
  refine pwp_for [2, 3, 6, 9] (fun i : Nat => [(8, .own 2 i 0 (i + 1)), (10, .sc (.int .i64 i))]) (fun i => [(2, .vec true i 1 (grows (P.rgrid (stem ++ loop) i)))]) (fun i => i ≤ n) (fun i => stem.length + loop.length - i) 0 ?_
  ((conv => whnf); repeat (refine And.intro rfl ?_; (conv => whnf)))
  refine ⟨by omega, by (repeat' (first | exact trivial | refine And.intro rfl ?_)), rfl, ?_⟩
  rintro i hi
  ((conv => whnf); repeat (refine And.intro rfl ?_; (conv => whnf)))
  (apply red_sound; focus (repeat' (first | exact Red.skip | exact Red.ret | exact RedO.nil | exact RedD.nil | exact Red.exit _ | exact Red.loop _ | exact Red.stop _ | apply Red.ops | apply Red.draw | apply Red.seq | apply Red.cond | apply Red.block | apply RedO.cons | apply RedD.cons | exact (0 : Nat))))
  ((conv => whnf); repeat (refine And.intro rfl ?_; (conv => whnf)))
  have hzi : ∀ q, q < i → P.rerr (stem ++ loop) q = 0 := fun q hq => hz q (by omega)
  have lN := ProcD.rnow_len h1 hzi
  have lG := P.rgrid_len (stem ++ loop) i
  (refine ifK_split (fun h5 => ?_) (fun h5 => ?_) <;> (rw [h5]; ((conv => whnf); repeat (refine And.intro rfl ?_; (conv => whnf)))))
  · have hi' : i < stem.length + loop.length := by ((try simp only [oo, reduceCtorEq] at *) <;> omega)
    have hB := ProcD.rnow_ok h1 i hzi
    have hK := ProcD.mark_of hB
    obtain ⟨h0, _, h60⟩ := ProcD.stepsE_zero h1
    have eM : P.markE (P.rnow (stem ++ loop) i) = 0 := by unfold ProcD.markE; rw [if_neg (by omega), if_pos hB]
    have er : P.rerr (stem ++ loop) i = oneE P (P.rnow (stem ++ loop) i) ((stem ++ loop).getD i 0) := rerr_one P _ i
    have eo := rnow_one (P := P) (l := stem ++ loop) (i := i)
    have eg : P.rgrid (stem ++ loop) (i + 1) = P.rgrid (stem ++ loop) i ++ [P.rnow (stem ++ loop) (i + 1)] := rfl
    have stop : P.rerr (stem ++ loop) i ≠ 0 → P.fraE stem loop n = P.rerr (stem ++ loop) i := fun hne => by
      have e : i = n := by
        by_cases q : i = n
        · exact q
        · exact absurd (hz i (by omega)) hne
      rw [eE, if_pos (by omega), e]
    have go : P.rerr (stem ++ loop) i = 0 → i < n := fun h0 => by
      by_cases q : i = n
      · subst q
        rcases hs with hs | hs
        · omega
        · exact absurd h0 hs
      · omega
    (refine .inl ⟨by (unfold InR; rw [IntKind.wrap_i64]; omega), ?_⟩; ((conv => whnf); repeat (refine And.intro rfl ?_; (conv => whnf))))
    (refine ⟨by omega, (by first | omega | (simp; done) | (simp; omega) | (simp only [ll]; omega)), ?_⟩; ((conv => whnf); repeat (refine And.intro rfl ?_; (conv => whnf))))
    refine ⟨_, grows_at (k := i) (by omega) (by omega), ?_⟩
    ((conv => whnf); repeat (refine And.intro rfl ?_; (conv => whnf)))
    rw [ProcD.rgrid_at P (stem ++ loop) (Nat.le_refl i)]
    (refine ⟨by omega, (by first | omega | (simp; done) | (simp; omega) | (simp only [ll]; omega)), ?_⟩; ((conv => whnf); repeat (refine And.intro rfl ?_; (conv => whnf))))
    refine ⟨_, i64s_at (l := stem ++ loop) (k := i) (by omega) (by omega), ?_⟩
    ((conv => whnf); repeat (refine And.intro rfl ?_; (conv => whnf)))
    have rd : ∀ {z : Nat}, z = i → (i64s (stem ++ loop))[z]? = some [.sc (.int .i64 ((stem ++ loop).getD i 0))] := fun hz => i64s_at hz (by omega)
    have eF : P.firE (P.rnow (stem ++ loop) i) ((stem ++ loop).getD i 0) = if (stem ++ loop).getD i 0 < 0 ∨ (P.stepsL.length : Int) ≤ (stem ++ loop).getD i 0 then 1
      else if P.mayB (P.rnow (stem ++ loop) i) (P.stepsL.getD ((stem ++ loop).getD i 0).toNat (0, 0, 0)) = true then P.fireE (P.rnow (stem ++ loop) i) (P.stepsL.getD ((stem ++ loop).getD i 0).toNat (0, 0, 0)) else 9 := by
      unfold ProcD.firE
      rw [if_neg (by omega)]
    have eoE : oneE P (P.rnow (stem ++ loop) i) ((stem ++ loop).getD i 0) = if (stem ++ loop).getD i 0 = -1 then (if P.enL (P.rnow (stem ++ loop) i) = [] then 0 else 9) else P.firE (P.rnow (stem ++ loop) i) ((stem ++ loop).getD i 0) := by unfold oneE; rfl
    have eoL : oneL P (P.rnow (stem ++ loop) i) ((stem ++ loop).getD i 0) = if (stem ++ loop).getD i 0 = -1 then (if P.enL (P.rnow (stem ++ loop) i) = [] then P.rnow (stem ++ loop) i else []) else P.firL (P.rnow (stem ++ loop) i) ((stem ++ loop).getD i 0) := by unfold oneL; rfl
    generalize (stem ++ loop).getD i 0 = k at *
    (refine ifK_split (fun h6 => ?_) (fun h6 => ?_) <;> (rw [h6]; ((conv => whnf); repeat (refine And.intro rfl ?_; (conv => whnf)))))
    · have h6 : k = -1 := by ((try simp only [oo, reduceCtorEq] at *) <;> omega)
      rw [if_pos h6] at eoE eoL
      (refine .inl ⟨_, (ref_Enabled P hP (P.rnow (stem ++ loop) i) eM), ?_⟩; ((conv => whnf); repeat (refine And.intro rfl ?_; (conv => whnf))))
      rw [List.length_map]
      (refine ifK_split (fun h7 => ?_) (fun h7 => ?_) <;> (rw [h7]; ((conv => whnf); repeat (refine And.intro rfl ?_; (conv => whnf)))))
      · have hne : P.enL (P.rnow (stem ++ loop) i) ≠ [] := fun e => by rw [e] at h7; simp at h7
        rw [if_neg hne] at eoE
        rw [eoE] at er
        exact bad (by decide) (by rw [stop (by rw [er]; decide), er])
      · have hne : P.enL (P.rnow (stem ++ loop) i) = [] := List.length_eq_zero_iff.1 (by ((try simp only [oo, reduceCtorEq] at *) <;> omega))
        rw [if_pos hne] at eoE eoL
        rw [eoE] at er
        have hg := go er
        have eo := eo er
        rw [eoL] at eo
        refine ⟨(by unfold sliceAppend; simp only [ll]; omega), ?_⟩
        ((conv => whnf); repeat (refine And.intro rfl ?_; (conv => whnf)))
        refine ⟨(by unfold sliceAppend; simp only [ll]; omega), ?_⟩
        ((conv => whnf); repeat (refine And.intro rfl ?_; (conv => whnf)))
        (refine .inl ⟨by (unfold InR; rw [IntKind.wrap_i64]; omega), ?_⟩; ((conv => whnf); repeat (refine And.intro rfl ?_; (conv => whnf))))
        refine ⟨i + 1, by omega, by dsimp only; omega, ?_⟩
        have e2 : grows (P.rgrid (stem ++ loop) (i + 1)) = grows (P.rgrid (stem ++ loop) i) ++ [[dints (P.rnow (stem ++ loop) i)]] := by
          rw [eg, eo]
          simp [grows]
        (refine leB_close 4 (by simp) rfl ?_ ?_ <;> (repeat' (first | exact trivial | exact rfl | exact DeepM.refl _ | exact DeepML.refl _ | exact DeepMLL.refl _ | refine And.intro ?_ ?_ | (simp [Under, UnderL, UnderLL, -List.map_take, -List.map_drop]; done))))
        rw [e2]
        refine DeepMLL.append _ _ _ _ (deepMLL_eq (drop_take_all (by rw [grows_len]; omega))) (DeepMLL.cons _ _ _ _ (DeepML.cons _ _ _ _ ?_ (DeepML.refl _)) (DeepMLL.refl _))
        exact DeepM.own _ _ _ _ _ _ _ _ rfl rfl (deepMLL_eq (drop_take_all (Nat.le_refl _)))
    · have h6 : k ≠ -1 := by ((try simp only [oo, reduceCtorEq] at *) <;> omega)
      rw [if_neg h6] at eoE eoL
      rw [eoE] at er
      (refine ⟨by omega, (by first | omega | (simp; done) | (simp; omega) | (simp only [ll]; omega)), ?_⟩; ((conv => whnf); repeat (refine And.intro rfl ?_; (conv => whnf))))
      refine ⟨_, rd (by omega), ?_⟩
      ((conv => whnf); repeat (refine And.intro rfl ?_; (conv => whnf)))
      cases h8 : decide (k < 0)
      · have h8 : ¬ k < 0 := by ((try simp only [oo, reduceCtorEq] at *) <;> omega)
        ((conv => whnf); repeat (refine And.intro rfl ?_; (conv => whnf)))
        (refine ⟨by omega, (by first | omega | (simp; done) | (simp; omega) | (simp only [ll]; omega)), ?_⟩; ((conv => whnf); repeat (refine And.intro rfl ?_; (conv => whnf))))
        refine ⟨_, rd (by omega), ?_⟩
        ((conv => whnf); repeat (refine And.intro rfl ?_; (conv => whnf)))
        rw [srows_len]
        (refine ifK_split (fun h9 => ?_) (fun h9 => ?_) <;> (rw [h9]; ((conv => whnf); repeat (refine And.intro rfl ?_; (conv => whnf)))))
        · rw [if_pos (.inr (by ((try simp only [oo, reduceCtorEq] at *) <;> omega)))] at eF
          exact bad (by decide) (by rw [stop (by rw [er, eF]; decide), er, eF])
        · have h9 : ¬ (P.stepsL.length : Int) ≤ k := by ((try simp only [oo, reduceCtorEq] at *) <;> omega)
          rw [if_neg (by omega)] at eF
          have hk' : k.toNat < P.stepsL.length := by omega
          have hsk := ProcD.stepAt_ok h1 hk'
          (refine ⟨by omega, (by first | omega | (simp; done) | (simp; omega) | (simp only [ll]; omega)), ?_⟩; ((conv => whnf); repeat (refine And.intro rfl ?_; (conv => whnf))))
          refine ⟨_, rd (by omega), ?_⟩
          ((conv => whnf); repeat (refine And.intro rfl ?_; (conv => whnf)))
          refine ⟨by omega, _, step_atD (k := k.toNat) (by omega) hk', ?_⟩
          ((conv => whnf); repeat (refine And.intro rfl ?_; (conv => whnf)))
          have eFL : P.firE (P.rnow (stem ++ loop) i) k = 0 → P.firL (P.rnow (stem ++ loop) i) k = P.fireL (P.rnow (stem ++ loop) i) (P.stepsL.getD k.toNat (0, 0, 0)) := fun h => by unfold ProcD.firL; rw [if_pos h]
          generalize hS : P.stepsL.getD k.toNat (0, 0, 0) = s at hsk eF eFL
          (refine .inl ⟨_, (ref_May P hP h0 (P.rnow (stem ++ loop) i) hK s hsk), ?_⟩; ((conv => whnf); repeat (refine And.intro rfl ?_; (conv => whnf))))
          cases h10 : P.mayB (P.rnow (stem ++ loop) i) s
          · rw [if_neg (by rw [h10]; decide)] at eF
            ((conv => whnf); repeat (refine And.intro rfl ?_; (conv => whnf)))
            exact bad (by decide) (by rw [stop (by rw [er, eF]; decide), er, eF])
          · rw [if_pos h10] at eF
            ((conv => whnf); repeat (refine And.intro rfl ?_; (conv => whnf)))
            (refine ⟨by omega, (by first | omega | (simp; done) | (simp; omega) | (simp only [ll]; omega)), ?_⟩; ((conv => whnf); repeat (refine And.intro rfl ?_; (conv => whnf))))
            refine ⟨_, rd (by omega), ?_⟩
            ((conv => whnf); repeat (refine And.intro rfl ?_; (conv => whnf)))
            refine ⟨by omega, _, step_atD (k := k.toNat) (by omega) hk', ?_⟩
            ((conv => whnf); repeat (refine And.intro rfl ?_; (conv => whnf)))
            rw [hS]
            (refine .inl ⟨_, (ref_Fire P hP h0 (P.rnow (stem ++ loop) i) hK s hsk), ?_⟩; ((conv => whnf); repeat (refine And.intro rfl ?_; (conv => whnf))))
            (refine ifK_split (fun h11 => ?_) (fun h11 => ?_) <;> (rw [h11]; ((conv => whnf); repeat (refine And.intro rfl ?_; (conv => whnf)))))
            · have h11 : P.fireE (P.rnow (stem ++ loop) i) s ≠ 0 := by ((try simp only [oo, reduceCtorEq] at *) <;> omega)
              exact bad h11 (by rw [stop (by rw [er, eF]; exact h11), er, eF])
            · have h11 : P.fireE (P.rnow (stem ++ loop) i) s = 0 := by ((try simp only [oo, reduceCtorEq] at *) <;> omega)
              have e0 : P.rerr (stem ++ loop) i = 0 := by rw [er, eF, h11]
              have hg := go e0
              have eo := eo e0
              rw [eoL, eFL (by rw [eF, h11])] at eo
              rw [← eo]
              refine ⟨(by unfold sliceAppend; simp only [ll]; omega), ?_⟩
              ((conv => whnf); repeat (refine And.intro rfl ?_; (conv => whnf)))
              (refine .inl ⟨by (unfold InR; rw [IntKind.wrap_i64]; omega), ?_⟩; ((conv => whnf); repeat (refine And.intro rfl ?_; (conv => whnf))))
              refine ⟨i + 1, by omega, by dsimp only; omega, ?_⟩
              (refine leB_close 4 (by simp) rfl ?_ ?_ <;> (repeat' (first | exact trivial | exact rfl | exact DeepM.refl _ | exact DeepML.refl _ | exact DeepMLL.refl _ | refine And.intro ?_ ?_ | (simp [Under, UnderL, UnderLL, -List.map_take, -List.map_drop]; done))))
              exact deepMLL_eq (by rw [eg]; exact grows_snoc lG.symm)
      · have h8 : k < 0 := by ((try simp only [oo, reduceCtorEq] at *) <;> omega)
        rw [if_pos (.inl h8)] at eF
        ((conv => whnf); repeat (refine And.intro rfl ?_; (conv => whnf)))
        exact bad (by decide) (by rw [stop (by rw [er, eF]; decide), er, eF])
  · have hi' : i = stem.length + loop.length := by have : ¬ i < stem.length + loop.length := by ((try simp only [oo, reduceCtorEq] at *) <;> omega)
                                                   omega
    subst hi'
    have e : n = stem.length + loop.length := by omega
    subst e
    rw [if_neg (by omega)] at eE
    rw [List.length_map]
    have lN' := ProcD.rnow_len (l := stem ++ loop) h1 (i := stem.length) fun q hq => hz q (by omega)
    (refine ⟨by omega, (by first | omega | (simp; done) | (simp; omega) | (simp only [ll]; omega)), ?_⟩; ((conv => whnf); repeat (refine And.intro rfl ?_; (conv => whnf))))
    refine ⟨_, grows_at (k := stem.length) (by omega) (by omega), ?_⟩
    ((conv => whnf); repeat (refine And.intro rfl ?_; (conv => whnf)))
    rw [ProcD.rgrid_at P (stem ++ loop) (by omega)]
    (refine .inl ⟨by (unfold InR; rw [IntKind.wrap_i64]; omega), ?_⟩; ((conv => whnf); repeat (refine And.intro rfl ?_; (conv => whnf))))
    (refine ⟨by omega, (by first | omega | (simp; done) | (simp; omega) | (simp only [ll]; omega)), ?_⟩; ((conv => whnf); repeat (refine And.intro rfl ?_; (conv => whnf))))
    refine ⟨_, grows_at (k := stem.length + loop.length) (by omega) (by omega), ?_⟩
    ((conv => whnf); repeat (refine And.intro rfl ?_; (conv => whnf)))
    rw [ProcD.rgrid_at P (stem ++ loop) (Nat.le_refl _)]
    (refine .inl ⟨_, (equal_int (P.rnow (stem ++ loop) stem.length) (P.rnow (stem ++ loop) (stem.length + loop.length)) (by omega)), ?_⟩; ((conv => whnf); repeat (refine And.intro rfl ?_; (conv => whnf))))
    by_cases h8 : P.rnow (stem ++ loop) stem.length = P.rnow (stem ++ loop) (stem.length + loop.length)
    · rw [if_pos h8] at eE
      rw [decide_eq_true h8]
      ((conv => whnf); repeat (refine And.intro rfl ?_; (conv => whnf)))
      rw [eL, eE, if_pos rfl]
      exact .tup _ _ (.cons _ _ _ _ (deep_grows lG.symm rfl) (.cons _ _ _ _ (.refl _) .nil))
    · rw [if_neg h8] at eE
      rw [decide_eq_false h8]
      ((conv => whnf); repeat (refine And.intro rfl ?_; (conv => whnf)))
      exact bad (by decide) eE
end

end Go.Proofs.Ytjnfahdolkgnoaa
