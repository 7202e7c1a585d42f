/-
  Fair ways of a world that stay among some states: the program's Within, over deep values. No statement is proved here.
-/
import Derived.Test.YtfgklgjbnpjpoaaQFp
import Derived.Test.YtfgklgjbnpjpoaaQWoL
import Derived.Test.YtfgklgjbnpjpoaaQWxA
import Derived.Test.YtfgklgjbnpjpoaaQFz
namespace Go.Proofs.Ytfgklgjbnpjpoaa
open Go.RowKit
set_option linter.unusedSimpArgs false
set_option linter.unusedVariables false
/-! ### A grid that is being built, row by row -/
def curL (N : Nat) (T : Nat → List Int) (k : Nat) (c : List Int) : List (List Int) := (List.range N).map fun i => if i < k then T i else if i = k then c else []
@[simp] theorem curL_len (N : Nat) (T : Nat → List Int) (k : Nat) (c : List Int) : (curL N T k c).length = N := by simp [curL]
theorem curL_get {N i : Nat} {T : Nat → List Int} {k : Nat} {c : List Int} (h : i < N) : (curL N T k c).getD i [] = if i < k then T i else if i = k then c else [] := by
  rw [List.getD_eq_getElem?_getD, List.getElem?_eq_getElem (by simpa using h)]; simp [curL]
theorem curL_at {N : Nat} {T : Nat → List Int} {k : Nat} {c : List Int} (h : k < N) : (curL N T k c).getD k [] = c := by
  rw [curL_get h, if_neg (by omega), if_pos rfl]
theorem curL_set {N : Nat} {T : Nat → List Int} {k : Nat} {c c' : List Int} (h : k < N) : (curL N T k c).set k c' = curL N T k c' := by
  refine List.ext_getElem? fun i => ?_
  rw [List.getElem?_set]
  by_cases e : k = i
  · subst e
    rw [if_pos rfl, if_pos (by simpa using h), List.getElem?_eq_getElem (by simpa using h)]
    simp [curL]
  · rw [if_neg e]
    by_cases hi : i < N
    · rw [List.getElem?_eq_getElem (by simpa using hi), List.getElem?_eq_getElem (by simpa using hi)]
      simp only [curL, List.getElem_map, List.getElem_range]
      congr 1
      by_cases q : i < k
      · rw [if_pos q, if_pos q]
      · rw [if_neg q, if_neg q, if_neg (fun z => e z.symm), if_neg (fun z => e z.symm)]
    · rw [List.getElem?_eq_none (by simp; omega), List.getElem?_eq_none (by simp; omega)]
theorem curL_next {N : Nat} {T : Nat → List Int} {k : Nat} : curL N T k (T k) = curL N T (k + 1) [] := by
  unfold curL
  refine List.map_congr_left fun i _ => ?_
  by_cases q : i < k
  · rw [if_pos q, if_pos (by omega)]
  · rw [if_neg q]
    by_cases e : i = k
    · subst e; rw [if_pos rfl, if_pos (by omega)]
    · rw [if_neg e, if_neg (by omega)]; split <;> rfl
theorem curL_zero (N : Nat) (T : Nat → List Int) : curL N T 0 [] = List.replicate N [] := by
  refine List.ext_getElem? fun i => ?_
  by_cases h : i < N
  · rw [List.getElem?_eq_getElem (by simpa using h), List.getElem?_eq_getElem (by simpa using h)]
    simp [curL]
  · rw [List.getElem?_eq_none (by simp; omega), List.getElem?_eq_none (by simp; omega)]
theorem curL_done (N : Nat) (T : Nat → List Int) (c : List Int) : curL N T N c = (List.range N).map T := by
  unfold curL
  exact List.map_congr_left fun i hi => if_pos (List.mem_range.1 hi)
def ncell (n : Int) : List D := [.sc (.int .i64 n)]
@[simp] theorem under_ncell {m : Nat} (n : Int) : UnderL m (ncell n) := by simp [ncell, UnderL, Under]
/-! ### A part of a graph is a graph -/
theorem resG_in {g : List (List Int)} (hin : ∀ l ∈ g, inB l g.length = true) (z : Nat → Bool) : ∀ l ∈ resG g z, inB l (resG g z).length = true := by
  intro l hl
  obtain ⟨v, hv, rfl⟩ := List.mem_map.1 hl
  rw [resG_len]
  split
  · exact inB_of fun x hx => inB_mem (inB_row hin v) (List.mem_filter.1 hx).1
  · rfl
theorem resG_fits {g : List (List Int)} (hF : FitsG g) (z : Nat → Bool) : FitsG (resG g z) := by
  refine ⟨by rw [resG_len]; exact hF.len, fun l hl => ?_⟩
  obtain ⟨v, hv, rfl⟩ := List.mem_map.1 hl
  have := hF.at v
  split
  · exact Nat.le_trans (List.length_filter_le _ _) this
  · simp
theorem turn_fine {g : List (List Int)} (hg : chkG g = 0) : chkG (turnG g g.length) = 0 ∧ FitsG (turnG g g.length) ∧ potG (turnG g g.length) (fun _ => false) ≤ g.length * g.length := by
  obtain ⟨hn, hin⟩ := chkG_zero.1 hg
  have hin1 : ∀ v x, x ∈ g.getD v [] → x.toNat < g.length := fun v x hx => by have := inB_mem (inB_row hin v) hx; omega
  have hr : ∀ l ∈ turnG g g.length, ∃ m, l = (turnG g g.length).getD m [] := fun l hl => by
    obtain ⟨m, hm, rfl⟩ := List.mem_iff_getElem.1 hl
    exact ⟨m, by rw [List.getD_eq_getElem?_getD, List.getElem?_eq_getElem hm]; rfl⟩
  refine ⟨chkG_zero.2 ⟨by rw [turnG_len]; exact hn, fun l hl => ?_⟩, ⟨by rw [turnG_len]; omega, fun l hl => ?_⟩, ?_⟩
  · obtain ⟨m, rfl⟩ := hr l hl
    rw [turnG_len]
    refine inB_of fun x hx => ?_
    obtain ⟨k, hk, rfl, _⟩ := (turnG_mem hin1 (Nat.le_refl _)).1 hx
    omega
  · obtain ⟨m, rfl⟩ := hr l hl
    have := turnG_row g g.length m
    omega
  · have key : ∀ n, sumTo (fun v => if false = true then 0 else ((turnG g g.length).getD v []).length) n ≤ n * g.length := fun n => by
      induction n with
      | zero => simp [sumTo]
      | succ n ih =>
        simp only [sumTo] at ih ⊢
        have := turnG_row g g.length n
        rw [Nat.add_mul, Nat.one_mul]
        simp only [Bool.false_eq_true, if_false] at ih ⊢
        omega
    have := key (turnG g g.length).length
    rw [turnG_len] at this
    unfold potG
    rw [turnG_len]
    exact this
def c168 : PC := .seq (.ops [⟨some 2,.move (.const (.slice none 0 0)),none,0⟩,
 ⟨some 3,.move (.const (.int .i64 0)),none,0⟩] false) (.seq (.seq (.ops [⟨some 5,.move (.tmp 0),none,0⟩,
 ⟨some 6,.call 68 [(.tmp 5)],none,0⟩,
 ⟨some 4,.move (.tmp 6),none,0⟩] false) (.seq (.ops [⟨some 7,.move (.tmp 4),none,0⟩,
 ⟨some 8,.bin .neq (.tmp 7) (.const (.int .i64 0)),none,0⟩] false) (.cond (.tmp 8) (.seq (.ops [⟨some 9,.move (.tmp 4),none,0⟩,
 ⟨some 2,.move (.const (.slice none 0 0)),none,0⟩,
 ⟨some 3,.move (.tmp 9),none,0⟩] false) (.ret)) (.skip)))) (.seq (.ops [⟨some 10,.move (.tmp 0),none,0⟩,
 ⟨some 11,.call 220 [(.tmp 10)],none,0⟩,
 ⟨some 2,.move (.tmp 11),none,0⟩,
 ⟨some 3,.move (.const (.int .i64 0)),none,0⟩] false) (.ret)))
set_option maxRecDepth 100000 in
theorem c168_ok : FunOK Try.prog 168 12 [.tmp 2, .tmp 3] c168 := ⟨⟨Try.f168, Try.func168, rfl, by kernel_rfl, rfl, by kernel_rfl⟩⟩
theorem scc_TurnD (g : List (List Int)) (hg : chkG g = 0) (hF : FitsG g) : PCall Try.prog 168 [dgrid g] (.tup [dgrid (turnG g g.length), .sc (.int .i64 0)]) := by
  refine pcall_intro c168_ok (by simp) (by simp [PureL, pure_dgrid]) ?_ (by simp [Pure, PureL, pure_dgrid])
  (apply rd_sound; focus (repeat' constructor))
  ((conv=>whnf);repeat(refine .intro rfl ?_;conv=>whnf))
  (refine .inl ⟨_, (scc_Check g hF), ?_⟩; ((conv=>whnf);repeat(refine .intro rfl ?_;conv=>whnf)))
  (refine ifK_split (fun h1 => ?_) (fun h1 => ?_) <;> (rw [h1]; ((conv=>whnf);repeat(refine .intro rfl ?_;conv=>whnf))))
  · exfalso; ((try simp only[oo,reduceCtorEq]at*)<;>omega)
  (refine .inl ⟨_, (scc_turnD g hg hF), ?_⟩; ((conv=>whnf);repeat(refine .intro rfl ?_;conv=>whnf)))
  exact .refl _
theorem gridV_cut {L : List (List Int)} {n : Nat} (hn : n = L.length) : D.lst 1 (((L.map fun l => [dints l]).take n).drop 0) = dgrid L := by
  subst hn
  unfold dgrid
  rw [drop_take_all (by simp)]
theorem pure_gridV (L : List (List Int)) : PureLL (L.map fun l => [dints l]) := pureLL_map _ (fun l => by simp [PureL, pure_dints]) L
@[simp] theorem under_dlet3 {m : Nat} (l : List Int) : Under m (dlet l) ↔ True := ⟨fun _ => trivial, fun _ => under_pure _ (pure_dlet l)⟩
/-! ### Within -/
/-- How far a row has been looked at. -/
def rowT (g : List (List Int)) (z : Nat → Bool) (v k : Nat) : List Int := if z v = true then ((g.getD v []).take k).filter fun x => z x.toNat else []
theorem rowT_succ {g : List (List Int)} {z : Nat → Bool} {v k : Nat} (h : k < (g.getD v []).length) : rowT g z v (k + 1) = if z v = true ∧ z ((g.getD v []).getD k 0).toNat = true then rowT g z v k ++ [(g.getD v []).getD k 0] else rowT g z v k := by
  unfold rowT
  generalize g.getD v [] = L at h ⊢
  cases hz : z v
  · simp
  · rw [if_pos rfl, if_pos rfl, List.take_add_one, List.getElem?_eq_getElem h, List.filter_append, List.getD_eq_getElem?_getD, List.getElem?_eq_getElem h]
    simp only [Option.toList_some, Option.getD_some, true_and, List.filter_cons, List.filter_nil]
    split <;> simp
theorem rowT_len (g : List (List Int)) (z : Nat → Bool) (v k : Nat) : (rowT g z v k).length ≤ k := by
  unfold rowT
  split
  · exact Nat.le_trans (List.length_filter_le _ _) (by simp; omega)
  · simp
theorem rowT_all (g : List (List Int)) (z : Nat → Bool) : (List.range g.length).map (fun v => rowT g z v (g.getD v []).length) = resG g z := by
  unfold resG rowT
  exact List.map_congr_left fun v _ => by rw [List.take_length]
def endsT (good : Nat → Bool) (k : Nat) : List Int := ((List.range k).filter good).map fun n : Nat => (n : Int)
theorem endsT_succ (good : Nat → Bool) (k : Nat) : endsT good (k + 1) = if good k = true then endsT good k ++ [(k : Int)] else endsT good k := by
  unfold endsT
  rw [List.range_succ, List.filter_append, List.map_append]
  simp only [List.filter_cons, List.filter_nil]
  split <;> simp
theorem endsT_len (good : Nat → Bool) (k : Nat) : (endsT good k).length ≤ k := by
  unfold endsT
  rw [List.length_map]
  exact Nat.le_trans (List.length_filter_le _ _) (by simp)
theorem endsT_mem {good : Nat → Bool} {k : Nat} {x : Int} : x ∈ endsT good k ↔ 0 ≤ x ∧ x < (k : Int) ∧ good x.toNat = true := by
  unfold endsT
  rw [List.mem_map]
  constructor
  · rintro ⟨n, hn, rfl⟩
    obtain ⟨h1, h2⟩ := List.mem_filter.1 hn
    have := List.mem_range.1 h1
    exact ⟨by omega, by omega, by rw [Int.toNat_natCast]; exact h2⟩
  · rintro ⟨h1, h2, h3⟩
    exact ⟨x.toNat, List.mem_filter.2 ⟨List.mem_range.2 (by omega), h3⟩, by omega⟩
def c84_2 : PC := .seq (.ops [⟨some 33,.bin .lss (.tmp 32) (.tmp 31),none,0⟩] false) (.seq (.cond (.tmp 33) (.skip) (.exit 2)) (.seq (.block 3 (.seq (.ops [⟨some 34,.iaddr 1 (.tmp 30) (.tmp 32),none,0⟩,
 ⟨some 35,.load1 (.tmp 34),none,0⟩,
 ⟨some 9,.move (.tmp 35),none,0⟩] false) (.seq (.ops [⟨some 36,.move (.tmp 1),none,0⟩,
 ⟨some 37,.move (.tmp 6),none,0⟩,
 ⟨some 38,.iaddr 1 (.tmp 36) (.tmp 37),none,0⟩,
 ⟨some 39,.load1 (.tmp 38),none,0⟩,
 ⟨some 40,.move (.tmp 39),none,0⟩,
 ⟨some 41,.move (.tmp 1),some (40,true),0⟩,
 ⟨some 42,.move (.tmp 9),some (40,true),0⟩,
 ⟨some 43,.iaddr 1 (.tmp 41) (.tmp 42),some (40,true),0⟩,
 ⟨some 44,.load1 (.tmp 43),some (40,true),0⟩,
 ⟨some 45,.pick (.tmp 40) (.tmp 44) (.const (.bool false)),none,0⟩] false) (.cond (.tmp 45) (.ops [⟨some 46,.move (.tmp 5),none,0⟩,
 ⟨some 47,.move (.tmp 6),none,0⟩,
 ⟨some 48,.move (.tmp 5),none,0⟩,
 ⟨some 49,.move (.tmp 6),none,0⟩,
 ⟨some 50,.iaddr 1 (.tmp 48) (.tmp 49),none,0⟩,
 ⟨some 51,.load1 (.tmp 50),none,0⟩,
 ⟨some 52,.move (.tmp 9),none,0⟩,
 ⟨some 53,.bslice 1 1 [(.tmp 52)],none,0⟩,
 ⟨some 54,.append 1 8 (.tmp 51) (.tmp 53),none,0⟩,
 ⟨some 55,.iaddr 1 (.tmp 46) (.tmp 47),none,0⟩,
 ⟨none,.store 1 (.tmp 55) (.tmp 54),none,0⟩] false) (.skip))))) (.ops [⟨some 56,.bin .add (.tmp 32) (.const (.int .i64 1)),none,0⟩,
 ⟨some 32,.move (.tmp 56),none,0⟩] false)))
def c84_1 : PC := .seq (.ops [⟨some 26,.bin .lss (.tmp 25) (.tmp 24),none,0⟩] false) (.seq (.cond (.tmp 26) (.skip) (.exit 0)) (.seq (.block 1 (.seq (.ops [⟨some 27,.move (.tmp 25),none,0⟩,
 ⟨some 28,.iaddr 1 (.tmp 23) (.tmp 25),none,0⟩,
 ⟨some 29,.load1 (.tmp 28),none,0⟩,
 ⟨some 6,.move (.tmp 27),none,0⟩,
 ⟨some 7,.move (.tmp 29),none,0⟩] false) (.seq (.ops [⟨some 30,.move (.tmp 7),none,0⟩,
 ⟨some 31,.len (.tmp 30),none,0⟩,
 ⟨some 32,.move (.const (.int .i64 0)),none,0⟩] false) (.block 2 (.loop c84_2))))) (.ops [⟨some 57,.bin .add (.tmp 25) (.const (.int .i64 1)),none,0⟩,
 ⟨some 25,.move (.tmp 57),none,0⟩] false)))
def c84_3 : PC := .seq (.ops [⟨some 68,.bin .lss (.tmp 67) (.tmp 66),none,0⟩] false) (.seq (.cond (.tmp 68) (.skip) (.exit 4)) (.seq (.block 5 (.seq (.ops [⟨some 69,.move (.tmp 67),none,0⟩,
 ⟨some 13,.move (.tmp 69),none,0⟩] false) (.seq (.ops [⟨some 70,.move (.tmp 1),none,0⟩,
 ⟨some 71,.move (.tmp 13),none,0⟩,
 ⟨some 72,.iaddr 1 (.tmp 70) (.tmp 71),none,0⟩,
 ⟨some 73,.load1 (.tmp 72),none,0⟩,
 ⟨some 74,.move (.tmp 73),none,0⟩,
 ⟨some 75,.move (.tmp 11),some (74,true),0⟩,
 ⟨some 76,.move (.tmp 10),some (74,true),0⟩,
 ⟨some 77,.move (.tmp 13),some (74,true),0⟩,
 ⟨some 78,.iaddr 1 (.tmp 76) (.tmp 77),some (74,true),0⟩,
 ⟨some 79,.load1 (.tmp 78),some (74,true),0⟩,
 ⟨some 80,.iaddr 1 (.tmp 75) (.tmp 79),some (74,true),0⟩,
 ⟨some 81,.load1 (.tmp 80),some (74,true),0⟩,
 ⟨some 82,.pick (.tmp 74) (.tmp 81) (.const (.bool false)),none,0⟩] false) (.cond (.tmp 82) (.ops [⟨some 83,.move (.tmp 12),none,0⟩,
 ⟨some 84,.move (.tmp 13),none,0⟩,
 ⟨some 85,.bslice 1 1 [(.tmp 84)],none,0⟩,
 ⟨some 86,.append 1 8 (.tmp 83) (.tmp 85),none,0⟩,
 ⟨some 12,.move (.tmp 86),none,0⟩] false) (.skip))))) (.ops [⟨some 87,.bin .add (.tmp 67) (.const (.int .i64 1)),none,0⟩,
 ⟨some 67,.move (.tmp 87),none,0⟩] false)))
def c84 : PC := .seq (.ops [⟨some 2,.box (.tmp 0),none,0⟩,
 ⟨some 4,.move (.const (.slice none 0 0)),none,0⟩] false) (.seq (.ops [⟨some 18,.faddr 1 (.tmp 2),none,0⟩,
 ⟨some 19,.load1 (.tmp 18),none,0⟩,
 ⟨some 20,.len (.tmp 19),none,0⟩,
 ⟨some 21,.mslice 1 24 [(.slice none 0 0)] (.tmp 20) (.tmp 20),none,0⟩,
 ⟨some 5,.move (.tmp 21),none,0⟩] false) (.seq (.seq (.ops [⟨some 22,.faddr 1 (.tmp 2),none,0⟩,
 ⟨some 23,.load1 (.tmp 22),none,0⟩,
 ⟨some 24,.len (.tmp 23),none,0⟩,
 ⟨some 25,.move (.const (.int .i64 0)),none,0⟩] false) (.stop (.block 0 (.loop c84_1)))) (.seq (.ops [⟨some 58,.move (.tmp 5),none,0⟩,
 ⟨some 59,.call 69 [(.tmp 58)],none,0⟩,
 ⟨some 10,.move (.tmp 59),none,0⟩] false) (.seq (.ops [⟨some 60,.move (.tmp 5),none,0⟩,
 ⟨some 61,.move (.tmp 10),none,0⟩,
 ⟨some 62,.faddr 3 (.tmp 2),none,0⟩,
 ⟨some 63,.load1 (.tmp 62),none,0⟩,
 ⟨some 64,.call 167 [(.tmp 60), (.tmp 61), (.tmp 63)],none,0⟩,
 ⟨some 11,.move (.tmp 64),none,0⟩] false) (.seq (.ops [⟨some 12,.move (.const (.slice none 0 0)),none,0⟩] false) (.seq (.seq (.ops [⟨some 65,.move (.tmp 5),none,0⟩,
 ⟨some 66,.len (.tmp 65),none,0⟩,
 ⟨some 67,.move (.const (.int .i64 0)),none,0⟩] false) (.block 4 (.loop c84_3))) (.seq (.ops [⟨some 89,.move (.tmp 5),none,0⟩,
 ⟨some 90,.call 168 [(.tmp 89)],none,0⟩,
 ⟨some 88,.move (.tmp 90),none,0⟩,
 ⟨some 91,.ext 0 (.tmp 88),none,0⟩,
 ⟨some 92,.ext 1 (.tmp 88),none,0⟩,
 ⟨some 14,.move (.tmp 91),none,0⟩,
 ⟨some 15,.move (.tmp 92),none,0⟩] false) (.seq (.ops [⟨some 94,.move (.tmp 14),none,0⟩,
 ⟨some 95,.move (.tmp 12),none,0⟩,
 ⟨some 96,.call 21 [(.tmp 94), (.tmp 95)],none,0⟩,
 ⟨some 93,.move (.tmp 96),none,0⟩,
 ⟨some 97,.ext 0 (.tmp 93),none,0⟩,
 ⟨some 98,.ext 1 (.tmp 93),none,0⟩,
 ⟨some 16,.move (.tmp 97),none,0⟩,
 ⟨some 17,.move (.tmp 98),none,0⟩] false) (.seq (.ops [⟨some 99,.move (.tmp 16),none,0⟩,
 ⟨some 4,.move (.tmp 99),none,0⟩] false) (.ret))))))))))
set_option maxRecDepth 100000 in
theorem c84_ok : FunOK Try.prog 84 100 [.tmp 4] c84 := ⟨⟨Try.f84, Try.func84, rfl, by kernel_rfl, rfl, by kernel_rfl⟩⟩
set_option maxRecDepth 100000 in
theorem wo_Within (W : WorldD) (hW : W.Fits) (hc : W.chk = 0) (z : Nat → Bool) : PCall Try.prog 84 [dworld W, dbl W.next.length z] (dbl W.next.length (fwB (resG W.next z) (W.fair.map setB))) := by
  obtain ⟨_, h600, h80, _, hnx, hfr⟩ := chk_label W hc
  have hin0 : ∀ l ∈ W.next, inB l W.next.length = true := fun l hl => (hnx l hl).2
  have hFN : FitsG W.next := ⟨hW.next, hW.nextEach⟩
  have hFF : FitsG W.fair := ⟨hW.fair, hW.fairEach⟩
  have hrow := fun k => inB_row hin0 k
  refine pcall_intro c84_ok (by simp) (by simp [PureL, pure_dworld, pure_dbl]) ?_ (pure_dbl _ _)
  unfold dworld
  (apply rd_sound; focus (repeat' constructor))
  ((conv=>whnf);repeat(refine .intro rfl ?_;conv=>whnf))
  rw [List.length_map]
  refine ⟨by omega, by omega, by omega, ?_⟩
  rw [Int.toNat_natCast]
  ((conv=>whnf);repeat(refine .intro rfl ?_;conv=>whnf))
  rw [List.length_map]
  refine pwp_cut (fun _ : Unit => [(1, dbl W.next.length z), (2, .loc 0 0), (5, .own 1 0 0 W.next.length)]) (fun _ => [.row true W.cells, .vec true 0 1 ((resG W.next z).map fun l => [dints l])]) (fun _ => True) ?_ ?_
  · (apply rd_sound; focus (repeat' constructor))
    ((conv=>whnf);repeat(refine .intro rfl ?_;conv=>whnf))
    refine pwp_ghostB (leB_nils 1 1 W.next.length 0 (by simp) rfl) ?_
    refine pwp_forH [1, 2, 5, 23, 24] (fun k : Nat => [(25, .sc (.int .i64 k))]) (fun k => .row true W.cells :: .vec true 0 1 (ogRows 2 (curL W.next.length (fun v => rowT W.next z v (W.next.getD v []).length) k [])) :: ogObjs 1 ncell (curL W.next.length (fun v => rowT W.next z v (W.next.getD v []).length) k [])) (fun k => k ≤ W.next.length) (fun k => W.next.length - k) 0 ?_
    ((conv=>whnf);repeat(refine .intro rfl ?_;conv=>whnf))
    refine ⟨by omega, by (repeat' (first | exact trivial | refine And.intro rfl ?_)), ?_, ?_⟩
    · rw [curL_zero]
      show _ :: _ :: _ = _ :: _ :: _
      rw [ogObjs_nils 1 _ ncell]
      exact congrArg (fun x => AObj.row true W.cells :: AObj.vec true 0 1 x :: _) (ogRows_nils (α := Int) 2 _)
    rintro k hk
    ((conv=>whnf);repeat(refine .intro rfl ?_;conv=>whnf))
    (apply rd_sound; focus (repeat' constructor))
    ((conv=>whnf);repeat(refine .intro rfl ?_;conv=>whnf))
    (refine ifK_split (fun q0 => ?_) (fun q0 => ?_) <;> (rw [q0]; ((conv=>whnf);repeat(refine .intro rfl ?_;conv=>whnf))))
    · have q0 : k < W.next.length := by ((try simp only[oo,reduceCtorEq]at*)<;>omega)
      have hgF := hFN.at k
      refine ⟨by omega, _, gridD_at (g := W.next) (k := k) (by omega) q0, ?_⟩
      ((conv=>whnf);repeat(refine .intro rfl ?_;conv=>whnf))
      rw [List.length_map]
      refine pwp_forH [1, 2, 5, 6, 23, 24, 25, 30, 31] (fun j : Nat => [(32, .sc (.int .i64 j))]) (fun j => .row true W.cells :: .vec true 0 1 (ogRows 2 (curL W.next.length (fun v => rowT W.next z v (W.next.getD v []).length) k (rowT W.next z k j))) :: ogObjs 1 ncell (curL W.next.length (fun v => rowT W.next z v (W.next.getD v []).length) k (rowT W.next z k j)))
        (fun j => j ≤ (W.next.getD k []).length) (fun j => (W.next.getD k []).length - j) 0 ?_
      ((conv=>whnf);repeat(refine .intro rfl ?_;conv=>whnf))
      refine ⟨by omega, by (repeat' (first | exact trivial | refine And.intro rfl ?_)), by rw [show rowT W.next z k 0 = [] by unfold rowT; split <;> simp], ?_⟩
      rintro j hj
      ((conv=>whnf);repeat(refine .intro rfl ?_;conv=>whnf))
      (apply rd_sound; focus (repeat' constructor))
      ((conv=>whnf);repeat(refine .intro rfl ?_;conv=>whnf))
      (refine ifK_split (fun q1 => ?_) (fun q1 => ?_) <;> (rw [q1]; ((conv=>whnf);repeat(refine .intro rfl ?_;conv=>whnf))))
      · have q1 : j < (W.next.getD k []).length := by ((try simp only[oo,reduceCtorEq]at*)<;>omega)
        have eS := rowT_succ (z := z) q1
        have hx := inB_mem (hrow k) (mem_getD q1)
        have hrl := rowT_len W.next z k j
        refine ⟨by omega, _, intsD_at (l := W.next.getD k []) (k := j) (by omega) q1, ?_⟩
        ((conv=>whnf);repeat(refine .intro rfl ?_;conv=>whnf))
        refine ⟨by omega, _, rbl_atN k (by omega) q0, ?_⟩
        ((conv=>whnf);repeat(refine .intro rfl ?_;conv=>whnf))
        generalize (W.next.getD k []).getD j 0 = x at *
        have same : (z k = true ∧ z x.toNat = true → False) → rowT W.next z k (j + 1) = rowT W.next z k j := fun h => by rw [eS, if_neg h]
        cases zk : z k
        · ((conv=>whnf);repeat(refine .intro rfl ?_;conv=>whnf))
          (refine .inl ⟨by (unfold InR; rw [IntKind.wrap_i64]; omega), ?_⟩; ((conv=>whnf);repeat(refine .intro rfl ?_;conv=>whnf)))
          refine ⟨j + 1, by omega, by dsimp only; omega, leB_envH (by (repeat' (first | exact trivial | refine And.intro rfl ?_))) ?_⟩
          dsimp only
          rw [same fun q => by rw [zk] at q; cases q.1]
        · ((conv=>whnf);repeat(refine .intro rfl ?_;conv=>whnf))
          refine ⟨by omega, _, rbl_atN x.toNat (by omega) (by omega), ?_⟩
          ((conv=>whnf);repeat(refine .intro rfl ?_;conv=>whnf))
          cases zx : z x.toNat
          · ((conv=>whnf);repeat(refine .intro rfl ?_;conv=>whnf))
            (refine .inl ⟨by (unfold InR; rw [IntKind.wrap_i64]; omega), ?_⟩; ((conv=>whnf);repeat(refine .intro rfl ?_;conv=>whnf)))
            refine ⟨j + 1, by omega, by dsimp only; omega, leB_envH (by (repeat' (first | exact trivial | refine And.intro rfl ?_))) ?_⟩
            dsimp only
            rw [same fun q => by rw [zx] at q; cases q.2]
          · rw [if_pos ⟨zk, zx⟩] at eS
            ((conv=>whnf);repeat(refine .intro rfl ?_;conv=>whnf))
            (refine ⟨by omega, (by first | omega | (simp; done) | (simp; omega) | (simp only [ll]; omega)), ?_⟩; ((conv=>whnf);repeat(refine .intro rfl ?_;conv=>whnf)))
            refine ⟨_, ogRows_at (i := k) (by omega) (by simp; omega), ?_⟩
            ((conv=>whnf);repeat(refine .intro rfl ?_;conv=>whnf))
            have hset : (curL W.next.length (fun v => rowT W.next z v (W.next.getD v []).length) k (rowT W.next z k j)).set k (rowT W.next z k j ++ [x]) = curL W.next.length (fun v => rowT W.next z v (W.next.getD v []).length) k (rowT W.next z k (j + 1)) := by rw [curL_set q0, ← eS]
            have hlen : (curL W.next.length (fun v => rowT W.next z v (W.next.getD v []).length) k (rowT W.next z k j)).length = W.next.length := curL_len ..
            have hgk : (curL W.next.length (fun v => rowT W.next z v (W.next.getD v []).length) k (rowT W.next z k j)).getD k [] = rowT W.next z k j := curL_at q0
            generalize curL W.next.length (fun v => rowT W.next z v (W.next.getD v []).length) k (rowT W.next z k j) = R at *
            refine og_push ?_
            ((conv=>whnf);repeat(refine .intro rfl ?_;conv=>whnf))
            (repeat (first | (refine og_getE 0 rfl ?_; ((conv=>whnf);repeat(refine .intro rfl ?_;conv=>whnf))) | (refine og_putE 0 rfl ?_; ((conv=>whnf);repeat(refine .intro rfl ?_;conv=>whnf))) | (refine og_getE 1 rfl ?_; ((conv=>whnf);repeat(refine .intro rfl ?_;conv=>whnf))) | (refine og_putE 1 rfl ?_; ((conv=>whnf);repeat(refine .intro rfl ?_;conv=>whnf)))))
            refine og_getT (by omega) ?_
            ((conv=>whnf);repeat(refine .intro rfl ?_;conv=>whnf))
            rw [hgk]
            refine ⟨by unfold sliceAppend; simp only [List.length_drop, List.length_take, List.length_cons, List.length_nil]; omega, ?_⟩
            ((conv=>whnf);repeat(refine .intro rfl ?_;conv=>whnf))
            refine og_putT (rowT W.next z k j ++ [x]) (by omega) ?_ ?_
            · exact og_app
            ((conv=>whnf);repeat(refine .intro rfl ?_;conv=>whnf))
            (refine ⟨by omega, (by first | omega | (simp; done) | (simp; omega) | (simp only [ll]; omega)), ?_⟩; ((conv=>whnf);repeat(refine .intro rfl ?_;conv=>whnf)))
            refine ⟨_, ogRows_at (i := k) (by omega) (by omega), ?_⟩
            ((conv=>whnf);repeat(refine .intro rfl ?_;conv=>whnf))
            (refine .inl ⟨by (unfold InR; rw [IntKind.wrap_i64]; omega), ?_⟩; ((conv=>whnf);repeat(refine .intro rfl ?_;conv=>whnf)))
            refine ⟨j + 1, by omega, by dsimp only; omega, ?_⟩
            dsimp only
            rw [hset]
            refine leB_close (W.next.length + 2) (by simp) (by simp) (by (repeat' (first | exact trivial | exact rfl | exact DeepM.refl _ | exact DeepML.refl _ | exact DeepMLL.refl _ | refine And.intro ?_ ?_ | (simp [Under, UnderL, UnderLL, -List.map_take, -List.map_drop]; done)))) ⟨⟨rfl, .refl _, underL_pure _ (pure_wocells W)⟩, ⟨rfl, rfl, rfl, deepMLL_eq ?_, underLL_ogRows (by simp; omega)⟩, closeH_og under_ncell⟩
            exact (ogRows_set (by omega) (by omega) (rowT W.next z k j ++ [x]) (by simp)).trans (by rw [hset])
      · have q1 : j = (W.next.getD k []).length := by have : ¬ j < (W.next.getD k []).length := by ((try simp only[oo,reduceCtorEq]at*)<;>omega)
                                                      omega
        subst q1
        rw [show curL W.next.length (fun v => rowT W.next z v (W.next.getD v []).length) k (rowT W.next z k (W.next.getD k []).length) = curL W.next.length (fun v => rowT W.next z v (W.next.getD v []).length) (k + 1) [] from curL_next]
        (refine .inl ⟨by (unfold InR; rw [IntKind.wrap_i64]; omega), ?_⟩; ((conv=>whnf);repeat(refine .intro rfl ?_;conv=>whnf)))
        exact ⟨k + 1, by omega, by dsimp only; omega, leB_envH (by (repeat' (first | exact trivial | refine And.intro rfl ?_))) rfl⟩
    · have q0 : k = W.next.length := by have : ¬ k < W.next.length := by ((try simp only[oo,reduceCtorEq]at*)<;>omega)
                                        omega
      subst q0
      rw [curL_done, rowT_all]
      refine ⟨(), trivial, leB_close 2 (by simp) rfl (by (repeat' (first | exact trivial | exact rfl | exact DeepM.refl _ | exact DeepML.refl _ | exact DeepMLL.refl _ | refine And.intro ?_ ?_ | (simp [Under, UnderL, UnderLL, -List.map_take, -List.map_drop]; done)))) ⟨⟨rfl, .refl _, underL_pure _ (pure_wocells W)⟩, ⟨rfl, rfl, rfl, deepM_ogRows (c := ncell) (fun i hi => by simp [fromN]) (fun i hi => ?_), underLL_pure _ (pure_gridV _)⟩, closeH_nil _⟩⟩
      show (ogObjs 1 ncell (resG W.next z))[i]? = _
      exact ogObjs_at hi
  intro _ _
  have g1 := resG_in hin0 z
  have g2 := resG_fits hFN z
  have hl := resG_len W.next z
  have g3 : chkG (resG W.next z) = 0 := chkG_zero.2 ⟨by omega, g1⟩
  obtain ⟨t1, t2, t3⟩ := turn_fine g3
  have hSp := scc_Split (resG W.next z) (by omega) g1 g2
  have hFp := fp_parts (resG W.next z) (by omega) g1 g2 W.fair hFF (fun l hl' => by rw [hl]; exact hfr l hl')
  have hTu := scc_TurnD (resG W.next z) g3 g2
  have hpl := fun k (hk : k < (resG W.next z).length) => parts_lt hk
  obtain ⟨good, hgood⟩ : ∃ good : Nat → Bool, good = fun v => z v && goodT (resG W.next z) W.fair (partsG (resG W.next z) v).toNat := ⟨_, rfl⟩
  have hEn : ∀ v, v < (resG W.next z).length → rchB (turnG (resG W.next z) (resG W.next z).length) (endsT good W.next.length) v = fwB (resG W.next z) (W.fair.map setB) v := fun v hv => fair_ends g1 (fun l hl' => by rw [hl]; exact hfr l hl') (fun x => by
    rw [endsT_mem, hl, hgood]
    refine and_congr_right fun _ => and_congr_right fun hx => ?_
    show (z x.toNat && goodT _ _ _) = true ↔ _
    rw [Bool.and_eq_true]
    refine ⟨fun q => q.2, fun q => ⟨?_, q⟩⟩
    have hx' : x.toNat < (resG W.next z).length := by have := hx; omega
    have hp := hpl _ hx'
    obtain ⟨⟨y, y1, _⟩, _⟩ := (good_iff (fun v x hx => by have := inB_mem (inB_row g1 v) hx; omega) (fun l hl' => by rw [hl]; exact hfr l hl') hx' (by omega)).1 q
    exact (mem_resG.1 y1).2.1) hv
  have hRe := scc_Reach _ t1 t2 (endsT good W.next.length) (by rw [turnG_len, hl]; exact inB_of fun x hx => ⟨(endsT_mem.1 hx).1, (endsT_mem.1 hx).2.1⟩) (by have := endsT_len good W.next.length; have := Nat.mul_le_mul (show (resG W.next z).length ≤ 600 by omega) (show (resG W.next z).length ≤ 600 by omega); omega)
  rw [turnG_len, dbl_congr fun i hi => hEn i hi] at hRe
  have cut := gridV_cut (L := resG W.next z) hl.symm
  rw [← cut] at hSp hFp hTu
  clear hEn g1 g2 g3 t1 t2 t3
  ((conv=>whnf);repeat(refine .intro rfl ?_;conv=>whnf))
  (refine .inr (.inr (.inr (.inr (.inl ⟨_, _, _, (acallAt_frz1 (pre := []) (post := []) hSp (pure_dints _) trivial trivial (pure_gridV _) rfl), ?_⟩)))); ((conv=>whnf);repeat(refine .intro rfl ?_;conv=>whnf)))
  (refine .inr (.inr (.inr (.inr (.inl ⟨_, _, _, (acallAt_frz1 (pre := []) (post := [_, _]) hFp (pure_dbl _ _) trivial ⟨pure_dints _, pure_dgrid _, trivial⟩ (pure_gridV _) rfl), ?_⟩)))); ((conv=>whnf);repeat(refine .intro rfl ?_;conv=>whnf)))
  refine pwp_ghostB (leB_nil 12 1 (by simp) rfl) ?_
  refine pwp_for [1, 5, 10, 11, 66] (fun ((k, c) : Nat × Nat) => [(12, .own 2 c 0 c), (67, .sc (.int .i64 k))]) (fun (k, c) => [(2, .vec true c 1 (i64s (endsT good k)))]) (fun (k, c) => k ≤ W.next.length ∧ c = (endsT good k).length) (fun (k, c) => W.next.length - k) (0, 0) ?_
  ((conv=>whnf);repeat(refine .intro rfl ?_;conv=>whnf))
  refine ⟨⟨by omega, rfl⟩, by (repeat' (first | exact trivial | refine And.intro rfl ?_)), rfl, ?_⟩
  rintro ⟨k, c⟩ ⟨hk, hc'⟩
  have hcl := endsT_len good k
  have eS := endsT_succ good k
  ((conv=>whnf);repeat(refine .intro rfl ?_;conv=>whnf))
  (apply rd_sound; focus (repeat' constructor))
  ((conv=>whnf);repeat(refine .intro rfl ?_;conv=>whnf))
  (refine ifK_split (fun q0 => ?_) (fun q0 => ?_) <;> (rw [q0]; ((conv=>whnf);repeat(refine .intro rfl ?_;conv=>whnf))))
  · have q0 : k < W.next.length := by ((try simp only[oo,reduceCtorEq]at*)<;>omega)
    have hp := hpl k (by omega)
    have egk : good k = (z k && goodT (resG W.next z) W.fair (partsG (resG W.next z) k).toNat) := by rw [hgood]
    refine ⟨by omega, _, rbl_atN k (by omega) q0, ?_⟩
    ((conv=>whnf);repeat(refine .intro rfl ?_;conv=>whnf))
    cases zk : z k
    · rw [zk, Bool.false_and] at egk
      rw [egk, if_neg (by decide)] at eS
      ((conv=>whnf);repeat(refine .intro rfl ?_;conv=>whnf))
      (refine .inl ⟨by (unfold InR; rw [IntKind.wrap_i64]; omega), ?_⟩; ((conv=>whnf);repeat(refine .intro rfl ?_;conv=>whnf)))
      refine ⟨(k + 1, c), ⟨by omega, by rw [eS]; exact hc'⟩, by dsimp only; omega, leB_envH (by (repeat' (first | exact trivial | refine And.intro rfl ?_))) ?_⟩
      dsimp only
      rw [eS]
      rfl
    · rw [zk, Bool.true_and] at egk
      ((conv=>whnf);repeat(refine .intro rfl ?_;conv=>whnf))
      refine ⟨by omega, _, gl_atN k (by omega) (by omega), ?_⟩
      ((conv=>whnf);repeat(refine .intro rfl ?_;conv=>whnf))
      refine ⟨by omega, _, rbl_atN (partsG (resG W.next z) k).toNat (by omega) (by omega), ?_⟩
      ((conv=>whnf);repeat(refine .intro rfl ?_;conv=>whnf))
      rw [← egk]
      cases gk : good k
      · rw [gk, if_neg (by decide)] at eS
        ((conv=>whnf);repeat(refine .intro rfl ?_;conv=>whnf))
        (refine .inl ⟨by (unfold InR; rw [IntKind.wrap_i64]; omega), ?_⟩; ((conv=>whnf);repeat(refine .intro rfl ?_;conv=>whnf)))
        refine ⟨(k + 1, c), ⟨by omega, by rw [eS]; exact hc'⟩, by dsimp only; omega, leB_envH (by (repeat' (first | exact trivial | refine And.intro rfl ?_))) ?_⟩
        dsimp only
        rw [eS]
        rfl
      · rw [gk, if_pos rfl] at eS
        ((conv=>whnf);repeat(refine .intro rfl ?_;conv=>whnf))
        refine ⟨(by unfold sliceAppend; simp only [ll]; omega), ?_⟩
        ((conv=>whnf);repeat(refine .intro rfl ?_;conv=>whnf))
        (refine .inl ⟨by (unfold InR; rw [IntKind.wrap_i64]; omega), ?_⟩; ((conv=>whnf);repeat(refine .intro rfl ?_;conv=>whnf)))
        refine ⟨(k + 1, c + 1), ⟨by omega, by rw [eS, List.length_append, ← hc']; rfl⟩, by dsimp only; omega, ?_⟩
        dsimp only
        rw [eS]
        (refine leB_close 3 (by simp) rfl ?_ ?_ <;> (repeat' (first | exact trivial | exact rfl | exact DeepM.refl _ | exact DeepML.refl _ | exact DeepMLL.refl _ | refine And.intro ?_ ?_ | (simp [Under, UnderL, UnderLL, -List.map_take, -List.map_drop]; done))))
        exact deepMLL_eq (by rw [hc', i64s_app, List.take_length])
  have q0 : k = W.next.length := by have : ¬ k < W.next.length := by ((try simp only[oo,reduceCtorEq]at*)<;>omega)
                                    omega
  subst q0
  (refine .inr (.inr (.inr (.inr (.inl ⟨_, _, _, (acallAt_frz1 (pre := []) (post := []) hTu (by simp [Pure, PureL, pure_dgrid]) trivial trivial (pure_gridV _) rfl), ?_⟩)))); ((conv=>whnf);repeat(refine .intro rfl ?_;conv=>whnf)))
  rw [show dints (endsT good W.next.length) = D.lst 1 (List.drop 0 (List.take c (i64s (endsT good W.next.length)))) from by rw [drop_take_all (by simp [i64s]; omega)]; rfl] at hRe
  (refine .inr (.inr (.inr (.inr (.inl ⟨_, _, _, (acallAt_frz1 (pre := [_]) (post := []) hRe (by simp [Pure, PureL, pure_dbl]) ⟨pure_dgrid _, trivial⟩ trivial (pureLL_map _ (fun l => by simp [PureL, Pure]) _) rfl), ?_⟩)))); ((conv=>whnf);repeat(refine .intro rfl ?_;conv=>whnf)))
  rw [hl]
  exact .refl _
end Go.Proofs.Ytfgklgjbnpjpoaa
