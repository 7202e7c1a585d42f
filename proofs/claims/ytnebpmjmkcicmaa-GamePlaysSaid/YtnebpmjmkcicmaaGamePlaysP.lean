/-
  watchlaw.GamePlays returns true for every process and every list of numbers, and each argument reads afterwards as it read before. No conditions.
-/
import Derived.Test.YtnebpmjmkcicmaaDC
import Derived.Test.YtnebpmjmkcicmaaAw
import Derived.Test.YtnebpmjmkcicmaaAp
import Derived.Test.YtnebpmjmkcicmaaSt3
import Derived.Test.YtnebpmjmkcicmaaPy1
import Derived.Test.YtnebpmjmkcicmaaRows
namespace Go.Proofs.Ytnebpmjmkcicmaa
open Go.RowKit Go.ChangeShapes Go.WideShapes Go.ChangeAt
set_option linter.unusedSimpArgs false
set_option linter.unusedVariables false
def c9 : PC := .seq (.ops [⟨(some 4), .move (.const (.bool false)), none, 0⟩] false) (.seq (.ops [⟨(some 5), .move (.tmp 0), none, 0⟩,
    ⟨(some 6), .move (.tmp 1), none, 0⟩,
    ⟨(some 7), .call 16 [(.tmp 5), (.tmp 6), (.func 17)], none, 0⟩,
    ⟨(some 4), .move (.tmp 7), none, 0⟩] false) (.ret))
set_option maxRecDepth 100000 in
theorem c9_ok : FunOK Try.prog 9 8 [.tmp 4] c9 := ⟨⟨Try.f9, Try.func9, rfl, by kernel_rfl, rfl, by kernel_rfl⟩⟩
def c3_1 : PC := .seq (.ops [⟨(some 55), .bin .lss (.tmp 54) (.tmp 53), none, 0⟩] false) (.seq (.cond (.tmp 55) (.skip) (.exit 0)) (.seq (.block 1 (.seq (.ops [⟨(some 56), .move (.tmp 54), none, 0⟩,
    ⟨(some 57), .iaddr 1 (.tmp 52) (.tmp 54), none, 0⟩,
    ⟨(some 58), .load1 (.tmp 57), none, 0⟩,
    ⟨(some 11), .move (.tmp 56), none, 0⟩,
    ⟨(some 12), .move (.tmp 58), none, 0⟩] false) (.seq (.ops [⟨(some 59), .move (.tmp 10), none, 0⟩,
    ⟨(some 60), .move (.tmp 10), none, 0⟩,
    ⟨(some 61), .len (.tmp 60), none, 0⟩,
    ⟨(some 62), .bin .sub (.tmp 61) (.const (.int .i64 1)), none, 0⟩,
    ⟨(some 63), .iaddr 1 (.tmp 59) (.tmp 62), none, 0⟩,
    ⟨(some 64), .load1 (.tmp 63), none, 0⟩,
    ⟨(some 13), .move (.tmp 64), none, 0⟩] false) (.seq (.ops [⟨(some 14), .move (.const (.int .i64 0)), none, 0⟩] false) (.seq (.ops [⟨(some 15), .move (.const (.slice none 0 0)), none, 0⟩] false) (.seq (.block 2 (.seq (.ops [⟨(some 76), .move (.tmp 12), none, 0⟩,
    ⟨(some 77), .bin .lss (.tmp 76) (.const (.int .i64 0)), none, 0⟩,
    ⟨(some 78), .move (.tmp 77), none, 0⟩,
    ⟨(some 79), .move (.tmp 12), (some (78, false)), 0⟩,
    ⟨(some 80), .move (.tmp 8), (some (78, false)), 0⟩,
    ⟨(some 81), .len (.tmp 80), (some (78, false)), 0⟩,
    ⟨(some 82), .bin .geq (.tmp 79) (.tmp 81), (some (78, false)), 0⟩,
    ⟨(some 83), .pick (.tmp 78) (.const (.bool true)) (.tmp 82), none, 0⟩,
    ⟨(some 75), .move (.tmp 83), none, 0⟩] false) (.cond (.tmp 75) (.ops [⟨(some 14), .move (.const (.int .i64 1)), none, 0⟩] false) (.seq (.ops [⟨(some 85), .loadA 2 (.tmp 2), none, 0⟩,
    ⟨(some 86), .move (.tmp 13), none, 0⟩,
    ⟨(some 87), .move (.tmp 8), none, 0⟩,
    ⟨(some 88), .move (.tmp 12), none, 0⟩,
    ⟨(some 89), .iaddr 3 (.tmp 87) (.tmp 88), none, 12⟩,
    ⟨(some 90), .loadA 3 (.tmp 89), none, 28⟩,
    ⟨(some 91), .call 7 [(.tmp 85), (.tmp 86), (.tmp 90)], none, 63⟩,
    ⟨(some 92), .un .not (.tmp 91), none, 127⟩,
    ⟨(some 84), .move (.tmp 92), none, 255⟩] true) (.cond (.tmp 84) (.ops [⟨(some 14), .move (.const (.int .i64 9)), none, 0⟩] false) (.ops [⟨(some 66), .loadA 2 (.tmp 2), none, 0⟩,
    ⟨(some 67), .move (.tmp 13), none, 0⟩,
    ⟨(some 68), .move (.tmp 8), none, 0⟩,
    ⟨(some 69), .move (.tmp 12), none, 0⟩,
    ⟨(some 70), .iaddr 3 (.tmp 68) (.tmp 69), none, 12⟩,
    ⟨(some 71), .loadA 3 (.tmp 70), none, 28⟩,
    ⟨(some 72), .call 8 [(.tmp 66), (.tmp 67), (.tmp 71)], none, 63⟩,
    ⟨(some 65), .move (.tmp 72), none, 127⟩,
    ⟨(some 73), .ext 0 (.tmp 65), none, 255⟩,
    ⟨(some 74), .ext 1 (.tmp 65), none, 255⟩,
    ⟨(some 15), .move (.tmp 73), none, 511⟩,
    ⟨(some 14), .move (.tmp 74), none, 2047⟩] true)))))) (.seq (.seq (.ops [⟨(some 93), .move (.tmp 14), none, 0⟩,
    ⟨(some 94), .bin .neq (.tmp 93) (.const (.int .i64 0)), none, 0⟩] false) (.cond (.tmp 94) (.seq (.ops [⟨(some 95), .move (.tmp 7), none, 0⟩,
    ⟨(some 96), .move (.tmp 14), none, 0⟩,
    ⟨(some 97), .bin .eql (.tmp 95) (.tmp 96), none, 0⟩,
    ⟨(some 98), .move (.tmp 97), none, 0⟩,
    ⟨(some 99), .move (.tmp 6), (some (98, true)), 0⟩,
    ⟨(some 100), .move (.tmp 11), (some (98, true)), 0⟩,
    ⟨(some 101), .bin .eql (.tmp 99) (.tmp 100), (some (98, true)), 0⟩,
    ⟨(some 102), .pick (.tmp 98) (.tmp 101) (.const (.bool false)), none, 0⟩,
    ⟨(some 103), .move (.tmp 102), none, 0⟩,
    ⟨(some 104), .move (.tmp 5), (some (103, true)), 0⟩,
    ⟨(some 105), .move (.tmp 10), (some (103, true)), 0⟩,
    ⟨(some 106), .call 9 [(.tmp 104), (.tmp 105)], (some (103, true)), 0⟩,
    ⟨(some 107), .pick (.tmp 103) (.tmp 106) (.const (.bool false)), none, 0⟩,
    ⟨(some 4), .move (.tmp 107), none, 0⟩] false) (.ret)) (.skip))) (.ops [⟨(some 108), .move (.tmp 10), none, 0⟩,
    ⟨(some 109), .move (.tmp 15), none, 0⟩,
    ⟨(some 110), .bslice 1 1 [(.tmp 109)], none, 0⟩,
    ⟨(some 111), .append 1 24 (.tmp 108) (.tmp 110), none, 0⟩,
    ⟨(some 10), .move (.tmp 111), none, 0⟩] false)))))))) (.ops [⟨(some 112), .bin .add (.tmp 54) (.const (.int .i64 1)), none, 0⟩,
    ⟨(some 54), .move (.tmp 112), none, 0⟩] false)))
def c3 : PC := .seq (.ops [⟨(some 2), .box (.tmp 0), none, 0⟩,
    ⟨(some 4), .move (.const (.bool false)), none, 0⟩] false) (.seq (.ops [⟨(some 17), .loadA 2 (.tmp 2), none, 0⟩,
    ⟨(some 18), .move (.tmp 1), none, 0⟩,
    ⟨(some 19), .call 4 [(.tmp 17), (.tmp 18)], none, 0⟩,
    ⟨(some 16), .move (.tmp 19), none, 0⟩,
    ⟨(some 20), .ext 0 (.tmp 16), none, 0⟩,
    ⟨(some 21), .ext 1 (.tmp 16), none, 0⟩,
    ⟨(some 22), .ext 2 (.tmp 16), none, 0⟩,
    ⟨(some 5), .move (.tmp 20), none, 0⟩,
    ⟨(some 6), .move (.tmp 21), none, 0⟩,
    ⟨(some 7), .move (.tmp 22), none, 0⟩] false) (.seq (.ops [⟨(some 24), .loadA 2 (.tmp 2), none, 0⟩,
    ⟨(some 25), .call 5 [(.tmp 24)], none, 0⟩,
    ⟨(some 23), .move (.tmp 25), none, 0⟩,
    ⟨(some 26), .ext 0 (.tmp 23), none, 0⟩,
    ⟨(some 27), .ext 1 (.tmp 23), none, 0⟩,
    ⟨(some 8), .move (.tmp 26), none, 0⟩,
    ⟨(some 9), .move (.tmp 27), none, 0⟩] false) (.seq (.seq (.ops [⟨(some 28), .move (.tmp 9), none, 0⟩,
    ⟨(some 29), .bin .eql (.tmp 28) (.const (.int .i64 0)), none, 0⟩,
    ⟨(some 30), .move (.tmp 29), none, 0⟩,
    ⟨(some 31), .move (.tmp 1), (some (30, true)), 0⟩,
    ⟨(some 32), .len (.tmp 31), (some (30, true)), 0⟩,
    ⟨(some 33), .bin .gtr (.tmp 32) (.const (.int .i64 500)), (some (30, true)), 0⟩,
    ⟨(some 34), .pick (.tmp 30) (.tmp 33) (.const (.bool false)), none, 0⟩] false) (.cond (.tmp 34) (.ops [⟨(some 9), .move (.const (.int .i64 2)), none, 0⟩] false) (.skip))) (.seq (.seq (.ops [⟨(some 35), .move (.tmp 9), none, 0⟩,
    ⟨(some 36), .bin .neq (.tmp 35) (.const (.int .i64 0)), none, 0⟩] false) (.cond (.tmp 36) (.seq (.ops [⟨(some 37), .move (.tmp 7), none, 0⟩,
    ⟨(some 38), .move (.tmp 9), none, 0⟩,
    ⟨(some 39), .bin .eql (.tmp 37) (.tmp 38), none, 0⟩,
    ⟨(some 40), .move (.tmp 39), none, 0⟩,
    ⟨(some 41), .move (.tmp 5), (some (40, true)), 0⟩,
    ⟨(some 42), .len (.tmp 41), (some (40, true)), 0⟩,
    ⟨(some 43), .bin .eql (.tmp 42) (.const (.int .i64 0)), (some (40, true)), 0⟩,
    ⟨(some 44), .pick (.tmp 40) (.tmp 43) (.const (.bool false)), none, 0⟩,
    ⟨(some 45), .move (.tmp 44), none, 0⟩,
    ⟨(some 46), .move (.tmp 6), (some (45, true)), 0⟩,
    ⟨(some 47), .bin .eql (.tmp 46) (.const (.int .i64 0)), (some (45, true)), 0⟩,
    ⟨(some 48), .pick (.tmp 45) (.tmp 47) (.const (.bool false)), none, 0⟩,
    ⟨(some 4), .move (.tmp 48), none, 0⟩] false) (.ret)) (.skip))) (.seq (.ops [⟨(some 49), .loadA 2 (.tmp 2), none, 0⟩,
    ⟨(some 50), .call 6 [(.tmp 49)], none, 0⟩,
    ⟨(some 51), .bslice 1 1 [(.tmp 50)], none, 0⟩,
    ⟨(some 10), .move (.tmp 51), none, 0⟩] false) (.seq (.seq (.ops [⟨(some 52), .move (.tmp 1), none, 0⟩,
    ⟨(some 53), .len (.tmp 52), none, 0⟩,
    ⟨(some 54), .move (.const (.int .i64 0)), none, 0⟩] false) (.block 0 (.loop c3_1))) (.seq (.ops [⟨(some 113), .move (.tmp 7), none, 0⟩,
    ⟨(some 114), .bin .eql (.tmp 113) (.const (.int .i64 0)), none, 0⟩,
    ⟨(some 115), .move (.tmp 114), none, 0⟩,
    ⟨(some 116), .move (.tmp 6), (some (115, true)), 0⟩,
    ⟨(some 117), .move (.tmp 1), (some (115, true)), 0⟩,
    ⟨(some 118), .len (.tmp 117), (some (115, true)), 0⟩,
    ⟨(some 119), .bin .eql (.tmp 116) (.tmp 118), (some (115, true)), 0⟩,
    ⟨(some 120), .pick (.tmp 115) (.tmp 119) (.const (.bool false)), none, 0⟩,
    ⟨(some 121), .move (.tmp 120), none, 0⟩,
    ⟨(some 122), .move (.tmp 5), (some (121, true)), 0⟩,
    ⟨(some 123), .move (.tmp 10), (some (121, true)), 0⟩,
    ⟨(some 124), .call 9 [(.tmp 122), (.tmp 123)], (some (121, true)), 0⟩,
    ⟨(some 125), .pick (.tmp 121) (.tmp 124) (.const (.bool false)), none, 0⟩,
    ⟨(some 4), .move (.tmp 125), none, 0⟩] false) (.ret))))))))
set_option maxRecDepth 100000 in
theorem c3_ok : FunOK Try.prog 3 126 [.tmp 4] c3 := ⟨⟨Try.f3, Try.func3, rfl, by kernel_rfl, rfl, by kernel_rfl⟩⟩
theorem law_lists (a b : List (List Int)) (ha : a.length ≤ 9223372036854775807) (hr : ∀ x ∈ a, x.length ≤ 9223372036854775807) : PCall Try.prog 9 [dgrid a, dgrid b] (.sc (.bool (decide (a = b)))) := by
  refine pcall_intro c9_ok (by simp) (by simp [PureL, Pure, pure_dgrid']) ?_ (by simp [Pure])
  (apply red_sound; focus (repeat' (first | exact Red.skip | exact Red.ret | exact RedO.nil | exact RedD.nil | exact Red.exit _ | exact Red.loop _ | exact Red.stop _ | apply Red.ops | apply Red.draw | apply Red.seq | apply Red.cond | apply Red.block | apply RedO.cons | apply RedD.cons | exact (0 : Nat))))
  ((conv => whnf); repeat (refine And.intro rfl ?_; (conv => whnf)))
  (refine .inl ⟨_, (equalF_grid a b ha hr), ?_⟩; ((conv => whnf); repeat (refine And.intro rfl ?_; (conv => whnf))))
  exact .refl _
theorem argInts {P : Program} {t u : TypeId} {d : D} (ht : P.underlying t = some (.slice u)) (hu : P.underlying u = some (.int .i64)) (hc : P.cellsOf u = 1) (h : OfA P t d) : ∃ l : List Int, d = dints l ∧ l.length ≤ 9223372036854775807 := by
  unfold OfA at h
  rw [ht] at h
  obtain ⟨xs, e1, hl, hx⟩ := of_slice ht h
  obtain ⟨l, rfl, _⟩ := of_cells (f := fun n : Int => .int .i64 n) (ok := fun _ => True) (fun cs h => by obtain ⟨n, e, _⟩ := of_int hu h; exact ⟨n, e, trivial⟩) hx
  rw [hc] at e1
  cases e1
  exact ⟨l, rfl, by simpa using hl⟩
set_option maxRecDepth 100000 in
theorem law_GamePlays (P : ProcD) (hP : P.Fits) (l : List Int) (hl : l.length ≤ 9223372036854775807) : PCall Try.prog 3 [dproc P, dints l] (dbool true) := by
  obtain ⟨n, hn, hz, hs⟩ := ProcD.stop_at (P.errAt l) l.length
  have hPl := game_Play P hP l hl n hn hz hs
  refine pcall_intro c3_ok (by simp) (by simp [PureL, Pure, pure_dproc, pure_dints]) ?_ (by simp [dbool, Pure])
  (apply red_sound; focus (repeat' (first | exact Red.skip | exact Red.ret | exact RedO.nil | exact RedD.nil | exact Red.exit _ | exact Red.loop _ | exact Red.stop _ | apply Red.ops | apply Red.draw | apply Red.seq | apply Red.cond | apply Red.block | apply RedO.cons | apply RedD.cons | exact (0 : Nat))))
  ((conv => whnf); repeat (refine And.intro rfl ?_; (conv => whnf)))
  by_cases h1 : P.stepsE = 0
  · rw [if_neg (by omega)] at hPl
    by_cases h2 : 500 < l.length
    · rw [if_pos h2] at hPl
      (refine .inl ⟨_, hPl, ?_⟩; ((conv => whnf); repeat (refine And.intro rfl ?_; (conv => whnf))))
      (refine .inl ⟨_, (ref_Steps P hP), ?_⟩; ((conv => whnf); repeat (refine And.intro rfl ?_; (conv => whnf))))
      rw [h1]
      ((conv => whnf); repeat (refine And.intro rfl ?_; (conv => whnf)))
      rw [List.length_map]
      have hb : decide ((l.length : Int) > 500) = true := decide_eq_true (by omega)
      rw [hb]
      ((conv => whnf); repeat (refine And.intro rfl ?_; (conv => whnf)))
      exact .refl _
    rw [if_neg h2] at hPl
    (refine .inl ⟨_, hPl, ?_⟩; ((conv => whnf); repeat (refine And.intro rfl ?_; (conv => whnf))))
    (refine .inl ⟨_, (ref_Steps P hP), ?_⟩; ((conv => whnf); repeat (refine And.intro rfl ?_; (conv => whnf))))
    rw [h1]
    ((conv => whnf); repeat (refine And.intro rfl ?_; (conv => whnf)))
    rw [List.length_map]
    have hb : decide ((l.length : Int) > 500) = false := decide_eq_false (by omega)
    rw [hb]
    ((conv => whnf); repeat (refine And.intro rfl ?_; (conv => whnf)))
    (refine .inl ⟨_, (ref_Begin P hP h1), ?_⟩; ((conv => whnf); repeat (refine And.intro rfl ?_; (conv => whnf))))
    rw [List.length_map]
    refine pwp_for [1, 2, 5, 6, 7, 8, 52, 53] (fun i : Nat => [(10, .own 1 i 0 (i + 1)), (54, .sc (.int .i64 i))]) (fun i => [(1, .vec true i 1 (grows (P.gridTo l i)))]) (fun i => i ≤ n) (fun i => l.length - i) 0 ?_
    ((conv => whnf); repeat (refine And.intro rfl ?_; (conv => whnf)))
    refine ⟨by omega, by (repeat' (first | exact trivial | refine And.intro rfl ?_)), rfl, ?_⟩
    rintro i hi
    ((conv => whnf); repeat (refine And.intro rfl ?_; (conv => whnf)))
    (apply red_sound; focus (repeat' (first | exact Red.skip | exact Red.ret | exact RedO.nil | exact RedD.nil | exact Red.exit _ | exact Red.loop _ | exact Red.stop _ | apply Red.ops | apply Red.draw | apply Red.seq | apply Red.cond | apply Red.block | apply RedO.cons | apply RedD.cons | exact (0 : Nat))))
    ((conv => whnf); repeat (refine And.intro rfl ?_; (conv => whnf)))
    have hzi : ∀ j, j < i → P.errAt l j = 0 := fun j hj => hz j (by omega)
    have lG := P.gridTo_len l i
    (refine ifK_split (fun h3 => ?_) (fun h3 => ?_) <;> (rw [h3]; ((conv => whnf); repeat (refine And.intro rfl ?_; (conv => whnf)))))
    · have hi' : i < l.length := by ((try simp only [bne_iff_ne, ne_eq, bne_eq_false_iff_eq, beq_iff_eq, beq_eq_false_iff_ne, decide_eq_true_eq, decide_eq_false_iff_not, List.length_map, Bool.not_eq_true, Bool.not_eq_false, Bool.and_eq_true, Bool.or_eq_true, Bool.and_eq_false_iff, Bool.or_eq_false_iff, Bool.not_eq_true', Bool.not_eq_false', Bool.not_true, Bool.not_false, Bool.not_eq_eq_eq_not, not_true_eq_false, not_false_eq_true, reduceCtorEq, Bool.true_or, Bool.false_or, Bool.or_true, Bool.or_false, Bool.true_and, Bool.and_true, Bool.false_and, Bool.and_false, true_and, and_true, or_false, false_or, true_or, or_true, false_and, and_false, Bool.true_eq_false, Bool.false_eq_true] at *) <;> omega)
      have hB := ProcD.now_ok h1 i hzi
      have hK := ProcD.mark_of hB
      obtain ⟨h0, _, h60⟩ := ProcD.stepsE_zero h1
      have eM : P.markE (P.nowAt l i) = 0 := by unfold ProcD.markE; rw [if_neg (by omega), if_pos hB]
      have eE : P.errAt l i = if l.getD i 0 < 0 ∨ (P.stepsL.length : Int) ≤ l.getD i 0 then 1
        else if P.mayB (P.nowAt l i) (P.stepsL.getD (l.getD i 0).toNat (0, 0, 0)) = true then P.fireE (P.nowAt l i) (P.stepsL.getD (l.getD i 0).toNat (0, 0, 0)) else 9 := by
        unfold ProcD.errAt ProcD.firE
        rw [if_neg (by omega)]
      have eN : P.nowAt l (i + 1) = if P.errAt l i = 0 then P.fireL (P.nowAt l i) (P.stepsL.getD (l.getD i 0).toNat (0, 0, 0)) else [] := rfl
      refine ⟨by omega, _, intsD_at (k := i) (by omega) hi', ?_⟩
      ((conv => whnf); repeat (refine And.intro rfl ?_; (conv => whnf)))
      (refine .inl ⟨by (unfold InR; rw [IntKind.wrap_i64]; omega), ?_⟩; ((conv => whnf); repeat (refine And.intro rfl ?_; (conv => whnf))))
      (refine ⟨by omega, (by first | omega | (simp; done) | (simp; omega) | (simp only [List.length_map, List.length_append, List.length_cons, List.length_nil, List.length_take, List.length_drop, List.drop_zero, List.take_succ_cons, List.take_zero]; omega)), ?_⟩; ((conv => whnf); repeat (refine And.intro rfl ?_; (conv => whnf))))
      refine ⟨_, grows_at (k := i) (by omega) (by omega), ?_⟩
      ((conv => whnf); repeat (refine And.intro rfl ?_; (conv => whnf)))
      rw [ProcD.gridTo_last]
      generalize l.getD i 0 = k at eE eN
      cases h4 : decide (k < 0)
      · have h4 : ¬ k < 0 := by ((try simp only [bne_iff_ne, ne_eq, bne_eq_false_iff_eq, beq_iff_eq, beq_eq_false_iff_ne, decide_eq_true_eq, decide_eq_false_iff_not, List.length_map, Bool.not_eq_true, Bool.not_eq_false, Bool.and_eq_true, Bool.or_eq_true, Bool.and_eq_false_iff, Bool.or_eq_false_iff, Bool.not_eq_true', Bool.not_eq_false', Bool.not_true, Bool.not_false, Bool.not_eq_eq_eq_not, not_true_eq_false, not_false_eq_true, reduceCtorEq, Bool.true_or, Bool.false_or, Bool.or_true, Bool.or_false, Bool.true_and, Bool.and_true, Bool.false_and, Bool.and_false, true_and, and_true, or_false, false_or, true_or, or_true, false_and, and_false, Bool.true_eq_false, Bool.false_eq_true] at *) <;> omega)
        ((conv => whnf); repeat (refine And.intro rfl ?_; (conv => whnf)))
        rw [srows_len]
        (refine ifK_split (fun h5 => ?_) (fun h5 => ?_) <;> (rw [h5]; ((conv => whnf); repeat (refine And.intro rfl ?_; (conv => whnf)))))
        · rw [if_pos (.inr (by ((try simp only [bne_iff_ne, ne_eq, bne_eq_false_iff_eq, beq_iff_eq, beq_eq_false_iff_ne, decide_eq_true_eq, decide_eq_false_iff_not, List.length_map, Bool.not_eq_true, Bool.not_eq_false, Bool.and_eq_true, Bool.or_eq_true, Bool.and_eq_false_iff, Bool.or_eq_false_iff, Bool.not_eq_true', Bool.not_eq_false', Bool.not_true, Bool.not_false, Bool.not_eq_eq_eq_not, not_true_eq_false, not_false_eq_true, reduceCtorEq, Bool.true_or, Bool.false_or, Bool.or_true, Bool.or_false, Bool.true_and, Bool.and_true, Bool.false_and, Bool.and_false, true_and, and_true, or_false, false_or, true_or, or_true, false_and, and_false, Bool.true_eq_false, Bool.false_eq_true] at *) <;> omega)))] at eE
          have hne : (1 : Int) ≠ 0 := by decide
          have e : i = n := by
            by_cases q : i = n
            · exact q
            · exact absurd (hz i (by omega)) (by rw [eE]; exact hne)
          subst e
          rw [if_neg (by omega : ¬ i = l.length), eE]
          ((conv => whnf); repeat (refine And.intro rfl ?_; (conv => whnf)))
          have hii : ((i : Int) == (i : Int)) = true := by simp
          rw [hii]
          ((conv => whnf); repeat (refine And.intro rfl ?_; (conv => whnf)))
          refine .inr (.inl ⟨_, _, .cons _ _ _ _ (.refl _) (.cons _ _ _ _ (deep_grows lG.symm rfl) .nil), law_lists (P.gridTo l i) (P.gridTo l i) (by omega) (fun x hx => by have := gridTo_rows h1 hzi x hx; omega), rfl, ?_⟩)
          rw [decide_eq_true rfl]
          ((conv => whnf); repeat (refine And.intro rfl ?_; (conv => whnf)))
          exact .refl _
        · have h5 : ¬ (P.stepsL.length : Int) ≤ k := by ((try simp only [bne_iff_ne, ne_eq, bne_eq_false_iff_eq, beq_iff_eq, beq_eq_false_iff_ne, decide_eq_true_eq, decide_eq_false_iff_not, List.length_map, Bool.not_eq_true, Bool.not_eq_false, Bool.and_eq_true, Bool.or_eq_true, Bool.and_eq_false_iff, Bool.or_eq_false_iff, Bool.not_eq_true', Bool.not_eq_false', Bool.not_true, Bool.not_false, Bool.not_eq_eq_eq_not, not_true_eq_false, not_false_eq_true, reduceCtorEq, Bool.true_or, Bool.false_or, Bool.or_true, Bool.or_false, Bool.true_and, Bool.and_true, Bool.false_and, Bool.and_false, true_and, and_true, or_false, false_or, true_or, or_true, false_and, and_false, Bool.true_eq_false, Bool.false_eq_true] at *) <;> omega)
          rw [if_neg (by omega)] at eE
          have hk' : k.toNat < P.stepsL.length := by omega
          have hsk := ProcD.stepAt_ok h1 hk'
          refine ⟨by omega, _, step_atD (k := k.toNat) (by omega) hk', ?_⟩
          ((conv => whnf); repeat (refine And.intro rfl ?_; (conv => whnf)))
          generalize hS : P.stepsL.getD k.toNat (0, 0, 0) = s at hsk eE eN
          (refine .inl ⟨_, (ref_May P hP h0 (P.nowAt l i) hK s hsk), ?_⟩; ((conv => whnf); repeat (refine And.intro rfl ?_; (conv => whnf))))
          cases h6 : P.mayB (P.nowAt l i) s
          · rw [if_neg (by rw [h6]; decide)] at eE
            have hne : (9 : Int) ≠ 0 := by decide
            ((conv => whnf); repeat (refine And.intro rfl ?_; (conv => whnf)))
            have e : i = n := by
              by_cases q : i = n
              · exact q
              · exact absurd (hz i (by omega)) (by rw [eE]; exact hne)
            subst e
            rw [if_neg (by omega : ¬ i = l.length), eE]
            ((conv => whnf); repeat (refine And.intro rfl ?_; (conv => whnf)))
            have hii : ((i : Int) == (i : Int)) = true := by simp
            rw [hii]
            ((conv => whnf); repeat (refine And.intro rfl ?_; (conv => whnf)))
            refine .inr (.inl ⟨_, _, .cons _ _ _ _ (.refl _) (.cons _ _ _ _ (deep_grows lG.symm rfl) .nil), law_lists (P.gridTo l i) (P.gridTo l i) (by omega) (fun x hx => by have := gridTo_rows h1 hzi x hx; omega), rfl, ?_⟩)
            rw [decide_eq_true rfl]
            ((conv => whnf); repeat (refine And.intro rfl ?_; (conv => whnf)))
            exact .refl _
          · rw [if_pos h6] at eE
            ((conv => whnf); repeat (refine And.intro rfl ?_; (conv => whnf)))
            refine ⟨by omega, _, step_atD (k := k.toNat) (by omega) hk', ?_⟩
            ((conv => whnf); repeat (refine And.intro rfl ?_; (conv => whnf)))
            rw [hS]
            (refine .inl ⟨_, (ref_Fire P hP h0 (P.nowAt l i) hK s hsk), ?_⟩; ((conv => whnf); repeat (refine And.intro rfl ?_; (conv => whnf))))
            (refine ifK_split (fun h7 => ?_) (fun h7 => ?_) <;> (rw [h7]; ((conv => whnf); repeat (refine And.intro rfl ?_; (conv => whnf)))))
            · have hne : P.fireE (P.nowAt l i) s ≠ 0 := by ((try simp only [bne_iff_ne, ne_eq, bne_eq_false_iff_eq, beq_iff_eq, beq_eq_false_iff_ne, decide_eq_true_eq, decide_eq_false_iff_not, List.length_map, Bool.not_eq_true, Bool.not_eq_false, Bool.and_eq_true, Bool.or_eq_true, Bool.and_eq_false_iff, Bool.or_eq_false_iff, Bool.not_eq_true', Bool.not_eq_false', Bool.not_true, Bool.not_false, Bool.not_eq_eq_eq_not, not_true_eq_false, not_false_eq_true, reduceCtorEq, Bool.true_or, Bool.false_or, Bool.or_true, Bool.or_false, Bool.true_and, Bool.and_true, Bool.false_and, Bool.and_false, true_and, and_true, or_false, false_or, true_or, or_true, false_and, and_false, Bool.true_eq_false, Bool.false_eq_true] at *) <;> omega)
              have e : i = n := by
                by_cases q : i = n
                · exact q
                · exact absurd (hz i (by omega)) (by rw [eE]; exact hne)
              subst e
              rw [if_neg (by omega : ¬ i = l.length), eE]
              have hee : (P.fireE (P.nowAt l i) s == P.fireE (P.nowAt l i) s) = true := by simp
              rw [hee]
              ((conv => whnf); repeat (refine And.intro rfl ?_; (conv => whnf)))
              have hii : ((i : Int) == (i : Int)) = true := by simp
              rw [hii]
              ((conv => whnf); repeat (refine And.intro rfl ?_; (conv => whnf)))
              refine .inr (.inl ⟨_, _, .cons _ _ _ _ (.refl _) (.cons _ _ _ _ (deep_grows lG.symm rfl) .nil), law_lists (P.gridTo l i) (P.gridTo l i) (by omega) (fun x hx => by have := gridTo_rows h1 hzi x hx; omega), rfl, ?_⟩)
              rw [decide_eq_true rfl]
              ((conv => whnf); repeat (refine And.intro rfl ?_; (conv => whnf)))
              exact .refl _
            · have h7 : P.fireE (P.nowAt l i) s = 0 := by ((try simp only [bne_iff_ne, ne_eq, bne_eq_false_iff_eq, beq_iff_eq, beq_eq_false_iff_ne, decide_eq_true_eq, decide_eq_false_iff_not, List.length_map, Bool.not_eq_true, Bool.not_eq_false, Bool.and_eq_true, Bool.or_eq_true, Bool.and_eq_false_iff, Bool.or_eq_false_iff, Bool.not_eq_true', Bool.not_eq_false', Bool.not_true, Bool.not_false, Bool.not_eq_eq_eq_not, not_true_eq_false, not_false_eq_true, reduceCtorEq, Bool.true_or, Bool.false_or, Bool.or_true, Bool.or_false, Bool.true_and, Bool.and_true, Bool.false_and, Bool.and_false, true_and, and_true, or_false, false_or, true_or, or_true, false_and, and_false, Bool.true_eq_false, Bool.false_eq_true] at *) <;> omega)
              rw [eE, if_pos h7] at eN
              have e : i < n := by
                by_cases q : i = n
                · subst q; rcases hs with hs | hs
                  · omega
                  · exact absurd (eE.trans h7) hs
                · omega
              refine ⟨(by unfold sliceAppend; simp only [List.length_map, List.length_cons, List.length_nil, List.length_append, List.length_take, List.length_drop, List.drop_zero, List.take_succ_cons, List.take_zero]; omega), ?_⟩
              ((conv => whnf); repeat (refine And.intro rfl ?_; (conv => whnf)))
              (refine .inl ⟨by (unfold InR; rw [IntKind.wrap_i64]; omega), ?_⟩; ((conv => whnf); repeat (refine And.intro rfl ?_; (conv => whnf))))
              refine ⟨i + 1, by omega, by dsimp only; omega, ?_⟩
              rw [← eN]
              (refine leB_close 2 (by simp) rfl ?_ ?_ <;> (repeat' (first | exact trivial | exact rfl | exact DeepM.refl _ | exact DeepML.refl _ | exact DeepMLL.refl _ | refine And.intro ?_ ?_ | (simp [Under, UnderL, UnderLL, -List.map_take, -List.map_drop]; done))))
              exact deepMLL_eq (grows_snoc lG.symm)
      · have h4 : k < 0 := by ((try simp only [bne_iff_ne, ne_eq, bne_eq_false_iff_eq, beq_iff_eq, beq_eq_false_iff_ne, decide_eq_true_eq, decide_eq_false_iff_not, List.length_map, Bool.not_eq_true, Bool.not_eq_false, Bool.and_eq_true, Bool.or_eq_true, Bool.and_eq_false_iff, Bool.or_eq_false_iff, Bool.not_eq_true', Bool.not_eq_false', Bool.not_true, Bool.not_false, Bool.not_eq_eq_eq_not, not_true_eq_false, not_false_eq_true, reduceCtorEq, Bool.true_or, Bool.false_or, Bool.or_true, Bool.or_false, Bool.true_and, Bool.and_true, Bool.false_and, Bool.and_false, true_and, and_true, or_false, false_or, true_or, or_true, false_and, and_false, Bool.true_eq_false, Bool.false_eq_true] at *) <;> omega)
        rw [if_pos (.inl h4)] at eE
        have hne : (1 : Int) ≠ 0 := by decide
        ((conv => whnf); repeat (refine And.intro rfl ?_; (conv => whnf)))
        have e : i = n := by
          by_cases q : i = n
          · exact q
          · exact absurd (hz i (by omega)) (by rw [eE]; exact hne)
        subst e
        rw [if_neg (by omega : ¬ i = l.length), eE]
        ((conv => whnf); repeat (refine And.intro rfl ?_; (conv => whnf)))
        have hii : ((i : Int) == (i : Int)) = true := by simp
        rw [hii]
        ((conv => whnf); repeat (refine And.intro rfl ?_; (conv => whnf)))
        refine .inr (.inl ⟨_, _, .cons _ _ _ _ (.refl _) (.cons _ _ _ _ (deep_grows lG.symm rfl) .nil), law_lists (P.gridTo l i) (P.gridTo l i) (by omega) (fun x hx => by have := gridTo_rows h1 hzi x hx; omega), rfl, ?_⟩)
        rw [decide_eq_true rfl]
        ((conv => whnf); repeat (refine And.intro rfl ?_; (conv => whnf)))
        exact .refl _
    · have hi' : i = l.length := by have : ¬ i < l.length := by ((try simp only [bne_iff_ne, ne_eq, bne_eq_false_iff_eq, beq_iff_eq, beq_eq_false_iff_ne, decide_eq_true_eq, decide_eq_false_iff_not, List.length_map, Bool.not_eq_true, Bool.not_eq_false, Bool.and_eq_true, Bool.or_eq_true, Bool.and_eq_false_iff, Bool.or_eq_false_iff, Bool.not_eq_true', Bool.not_eq_false', Bool.not_true, Bool.not_false, Bool.not_eq_eq_eq_not, not_true_eq_false, not_false_eq_true, reduceCtorEq, Bool.true_or, Bool.false_or, Bool.or_true, Bool.or_false, Bool.true_and, Bool.and_true, Bool.false_and, Bool.and_false, true_and, and_true, or_false, false_or, true_or, or_true, false_and, and_false, Bool.true_eq_false, Bool.false_eq_true] at *) <;> omega)
                                    omega
      subst hi'
      have e : n = l.length := by omega
      subst e
      rw [if_pos rfl]
      have h00 : ((0 : Int) == 0) = true := rfl
      rw [h00]
      ((conv => whnf); repeat (refine And.intro rfl ?_; (conv => whnf)))
      rw [List.length_map]
      have hii : ((l.length : Int) == (l.length : Int)) = true := by simp
      rw [hii]
      ((conv => whnf); repeat (refine And.intro rfl ?_; (conv => whnf)))
      refine .inr (.inl ⟨_, _, .cons _ _ _ _ (.refl _) (.cons _ _ _ _ (deep_grows lG.symm rfl) .nil), law_lists (P.gridTo l l.length) (P.gridTo l l.length) (by omega) (fun x hx => by have := gridTo_rows h1 hzi x hx; omega), rfl, ?_⟩)
      rw [decide_eq_true rfl]
      ((conv => whnf); repeat (refine And.intro rfl ?_; (conv => whnf)))
      exact .refl _
  · rw [if_pos h1] at hPl
    (refine .inl ⟨_, hPl, ?_⟩; ((conv => whnf); repeat (refine And.intro rfl ?_; (conv => whnf))))
    (refine .inl ⟨_, (ref_Steps P hP), ?_⟩; ((conv => whnf); repeat (refine And.intro rfl ?_; (conv => whnf))))
    have hb : (P.stepsE == 0) = false := by simp [h1]
    rw [hb]
    ((conv => whnf); repeat (refine And.intro rfl ?_; (conv => whnf)))
    have hb2 : (P.stepsE != 0) = true := by simp [h1]
    rw [hb2]
    ((conv => whnf); repeat (refine And.intro rfl ?_; (conv => whnf)))
    have hb3 : (P.stepsE == P.stepsE) = true := by simp
    rw [hb3]
    ((conv => whnf); repeat (refine And.intro rfl ?_; (conv => whnf)))
    exact .refl _
namespace gamePlays
set_option maxRecDepth 100000 in
theorem law : ∀ Ds, OfAs Try.prog [25, 26] Ds → PCall Try.prog 3 Ds (dbool true)
  | [d, e], h => by
    obtain ⟨P, rfl, hP⟩ := argProc h.1
    obtain ⟨M, rfl, hM⟩ := argInts Try.underlying26 Try.underlying3 (by kernel_rfl) h.2.1
    exact law_GamePlays P hP M hM
theorem types : typesOK Try.prog [25, 26, 22, 23, 3, 47, 49, 9] = true := by kernel_rfl
set_option maxRecDepth 100000 in
theorem laidOut : laidOutB Try.prog = true := by kernel_rfl
set_option maxRecDepth 100000 in
theorem readable : (Try.f3.params.toList.all fun t => Try.prog.readableRec t && decide (t < Try.prog.types.size)) = true := by kernel_rfl
theorem own : ownKnob Try.prog.godebug = none := by kernel_rfl
set_option maxRecDepth 100000 in
theorem lifted (os : Os) (started : os.Started) (H : Type) (enc : TypeId × Value → H) :
    ReturnsInHanded {} Try.checked os 3 .any (Rows.gamePlaysSpec.pre6 enc Try.prog Try.f3 Rows.gamePlaysRow.domain false) (Rows.gamePlaysSpec.post enc Try.prog Try.f3 false true false false) := by
  refine returnsInHanded_of_change_sized (C := Try.checked) own started (by kernel_rfl) Try.func3
    (ChangeSpec.witness6 (enc := enc) (C := Try.checked) false ⟨#[], #[.agg #[.slice none 0 0, .slice none 0 0], .slice none 0 0], []⟩ 8 (by kernel_rfl) (by kernel_rfl) (by kernel_rfl) (by kernel_rfl)) ?_
  intro W base args ds gs before hval0 hW _ hsz _
  have hval : ∀ (j : Nat) t v, Try.f3.params[j]? = some t → args[j]? = some v → Value.okWide Try.prog W .any base t v := hval0
  have hW' := hW
  obtain ⟨p, q, hA0, hV, _, hfz, hnd⟩ := hW
  have hA : DataW.TrodAll enc Try.prog W 0 (fun _ => true) true Try.f3.params.toList args.toList ds p := hA0
  have hps : Try.f3.params.toList = [25, 26] := by kernel_rfl
  obtain ⟨Ds, hD, hR⟩ := args_rep types (base := base) _ _ _ _ (fun t ht => by rw [hps] at ht; revert t; decide) (fun j t v h1 h2 => hval j t v (by simpa using h1) (by simpa using h2)) hA fun n hn => by
    have := List.all_eq_true.1 hsz n (weightsEach_pre _ _ _ _ (trodAll_len _ _ _ _ hA).symm n hn)
    simpa using this
  rw [hps] at hD
  have hC := (law Ds hD).run noInj (There W) W args.toList (fun b h => h) hR
  rw [show args.toList.toArray = args from rfl] at hC
  refine hC.mono fun e W' ⟨v, F', he, _, hv, hx⟩ => ?_
  have hv' : v = .bool true := by simpa only [rep, dbool] using hv
  subst he hv'
  exact ⟨_, rfl, row_post hW' rfl (by kernel_rfl) Try.underlying4 laidOut (fun t ht => by
      have := List.all_eq_true.1 readable t ht
      simp only [Bool.and_eq_true, decide_eq_true_eq] at this
      exact this) (fun ds h => by rw [hps] at h; match ds, h with | [_, _], _ => rfl) (below_of_ext hx) (ok_one (by kernel_rfl) rfl (okWide_bool_mk Try.underlying4 _))⟩

theorem over : Rows.gamePlaysRow.holds Try.pinned (OpenSpec.ofChange Rows.gamePlaysSpec) :=
  OpenClaim.holds_of_wide 3 Try.f3 rfl rfl rfl rfl rfl rfl rfl ⟨rfl, rfl, rfl, rfl, rfl⟩ rfl rfl rfl rfl rfl (by kernel_rfl) Try.func3 (by kernel_rfl)
    (of_decide_eq_true (by kernel_rfl)) (by unfold Func.isWrapper; first | (rw [if_pos (by decide +kernel)]; kernel_rfl) | (rw [if_neg (by decide +kernel)]; exact ⟨rfl, rfl⟩))
    (fun os started H enc _ => lifted os started H enc)

theorem proved : Rows.GamePlaysSaid := over
end gamePlays
end Go.Proofs.Ytnebpmjmkcicmaa
