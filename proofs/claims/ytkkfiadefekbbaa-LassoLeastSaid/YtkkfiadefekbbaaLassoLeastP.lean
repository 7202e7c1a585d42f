/-
  watchlaw.LassoLeast returns true for every pair of words, and each argument reads afterwards as it read before. No conditions.
-/
import Derived.Test.YtkkfiadefekbbaaDC
import Derived.Test.YtkkfiadefekbbaaLas4
import Derived.Test.YtkkfiadefekbbaaRows
namespace Go.Proofs.Ytkkfiadefekbbaa
open Go.RowKit Go.ChangeShapes Go.WideShapes Go.ChangeAt
set_option linter.unusedSimpArgs false
def c15 : PC := .seq (.ops [⟨(some 1), .box (.tmp 0), none, 0⟩,
    ⟨(some 2), .alloc [(.slice none 0 0), (.slice none 0 0)], none, 0⟩,
    ⟨(some 3), .move (.const (.int .i64 0)), none, 0⟩] false) (.seq (.seq (.ops [⟨(some 5), .loadA 2 (.tmp 1), none, 0⟩,
    ⟨(some 6), .call 55 [(.tmp 5)], none, 0⟩,
    ⟨(some 4), .move (.tmp 6), none, 0⟩] false) (.seq (.ops [⟨(some 7), .move (.tmp 4), none, 0⟩,
    ⟨(some 8), .bin .neq (.tmp 7) (.const (.int .i64 0)), none, 0⟩] false) (.cond (.tmp 8) (.seq (.ops [⟨(some 9), .build [(.slice none 0 0), (.slice none 0 0)] [], none, 0⟩,
    ⟨(some 10), .move (.tmp 4), none, 0⟩,
    ⟨none, .store 2 (.tmp 2) (.tmp 9), none, 0⟩,
    ⟨(some 3), .move (.tmp 10), none, 0⟩] false) (.ret)) (.skip)))) (.seq (.ops [⟨(some 11), .loadA 2 (.tmp 1), none, 0⟩,
    ⟨(some 12), .call 60 [(.tmp 11)], none, 0⟩,
    ⟨none, .store 2 (.tmp 2) (.tmp 12), none, 0⟩,
    ⟨(some 3), .move (.const (.int .i64 0)), none, 0⟩] false) (.ret)))
set_option maxRecDepth 100000 in
theorem c15_ok : FunOK Try.prog 15 13 [.agg 2 2, .tmp 3] c15 := ⟨⟨Try.f15, Try.func15, rfl, by kernel_rfl, rfl, by kernel_rfl⟩⟩
def c16 : PC := .seq (.ops [⟨(some 2), .box (.tmp 0), none, 0⟩,
    ⟨(some 3), .box (.tmp 1), none, 0⟩,
    ⟨(some 4), .move (.const (.bool false)), none, 0⟩,
    ⟨(some 5), .move (.const (.int .i64 0)), none, 0⟩] false) (.seq (.seq (.ops [⟨(some 10), .loadA 2 (.tmp 2), none, 0⟩,
    ⟨(some 11), .call 55 [(.tmp 10)], none, 0⟩,
    ⟨(some 6), .move (.tmp 11), none, 0⟩] false) (.seq (.ops [⟨(some 12), .move (.tmp 6), none, 0⟩,
    ⟨(some 13), .bin .neq (.tmp 12) (.const (.int .i64 0)), none, 0⟩] false) (.cond (.tmp 13) (.seq (.ops [⟨(some 14), .move (.tmp 6), none, 0⟩,
    ⟨(some 4), .move (.const (.bool false)), none, 0⟩,
    ⟨(some 5), .move (.tmp 14), none, 0⟩] false) (.ret)) (.skip)))) (.seq (.seq (.ops [⟨(some 15), .loadA 2 (.tmp 3), none, 0⟩,
    ⟨(some 16), .call 55 [(.tmp 15)], none, 0⟩,
    ⟨(some 7), .move (.tmp 16), none, 0⟩] false) (.seq (.ops [⟨(some 17), .move (.tmp 7), none, 0⟩,
    ⟨(some 18), .bin .neq (.tmp 17) (.const (.int .i64 0)), none, 0⟩] false) (.cond (.tmp 18) (.seq (.ops [⟨(some 19), .move (.tmp 7), none, 0⟩,
    ⟨(some 4), .move (.const (.bool false)), none, 0⟩,
    ⟨(some 5), .move (.tmp 19), none, 0⟩] false) (.ret)) (.skip)))) (.seq (.ops [⟨(some 20), .loadA 2 (.tmp 2), none, 0⟩,
    ⟨(some 21), .call 60 [(.tmp 20)], none, 1⟩,
    ⟨(some 22), .loadA 2 (.tmp 3), none, 0⟩,
    ⟨(some 23), .call 60 [(.tmp 22)], none, 7⟩,
    ⟨(some 8), .alloc [(.slice none 0 0), (.slice none 0 0)], none, 0⟩,
    ⟨(some 9), .alloc [(.slice none 0 0), (.slice none 0 0)], none, 0⟩,
    ⟨none, .store 2 (.tmp 8) (.tmp 21), none, 63⟩,
    ⟨none, .store 2 (.tmp 9) (.tmp 23), none, 127⟩] true) (.seq (.ops [⟨(some 24), .faddr 0 (.tmp 8), none, 0⟩,
    ⟨(some 25), .load1 (.tmp 24), none, 0⟩,
    ⟨(some 26), .faddr 0 (.tmp 9), none, 0⟩,
    ⟨(some 27), .load1 (.tmp 26), none, 0⟩,
    ⟨(some 28), .call 61 [(.tmp 25), (.tmp 27)], none, 0⟩,
    ⟨(some 29), .move (.tmp 28), none, 0⟩,
    ⟨(some 30), .faddr 1 (.tmp 8), (some (29, true)), 0⟩,
    ⟨(some 31), .load1 (.tmp 30), (some (29, true)), 0⟩,
    ⟨(some 32), .faddr 1 (.tmp 9), (some (29, true)), 0⟩,
    ⟨(some 33), .load1 (.tmp 32), (some (29, true)), 0⟩,
    ⟨(some 34), .call 61 [(.tmp 31), (.tmp 33)], (some (29, true)), 0⟩,
    ⟨(some 35), .pick (.tmp 29) (.tmp 34) (.const (.bool false)), none, 0⟩,
    ⟨(some 4), .move (.tmp 35), none, 0⟩,
    ⟨(some 5), .move (.const (.int .i64 0)), none, 0⟩] false) (.ret)))))
set_option maxRecDepth 100000 in
theorem c16_ok : FunOK Try.prog 16 36 [.tmp 4, .tmp 5] c16 := ⟨⟨Try.f16, Try.func16, rfl, by kernel_rfl, rfl, by kernel_rfl⟩⟩
def c4 : PC := .seq (.ops [⟨(some 2), .box (.tmp 0), none, 0⟩,
    ⟨(some 3), .box (.tmp 1), none, 0⟩,
    ⟨(some 4), .move (.const (.bool false)), none, 0⟩] false) (.seq (.ops [⟨(some 11), .loadA 2 (.tmp 2), none, 0⟩,
    ⟨(some 12), .call 14 [(.tmp 11)], none, 1⟩,
    ⟨(some 13), .loadA 2 (.tmp 3), none, 0⟩,
    ⟨(some 14), .call 14 [(.tmp 13)], none, 7⟩,
    ⟨(some 5), .move (.tmp 12), none, 15⟩,
    ⟨(some 6), .move (.tmp 14), none, 31⟩] true) (.seq (.ops [⟨(some 16), .loadA 2 (.tmp 2), none, 0⟩,
    ⟨(some 17), .call 15 [(.tmp 16)], none, 0⟩,
    ⟨(some 15), .move (.tmp 17), none, 0⟩,
    ⟨(some 18), .ext 0 (.tmp 15), none, 0⟩,
    ⟨(some 19), .ext 1 (.tmp 15), none, 0⟩,
    ⟨(some 7), .alloc [(.slice none 0 0), (.slice none 0 0)], none, 0⟩,
    ⟨none, .store 2 (.tmp 7) (.tmp 18), none, 0⟩,
    ⟨(some 8), .move (.tmp 19), none, 0⟩] false) (.seq (.ops [⟨(some 21), .loadA 2 (.tmp 2), none, 0⟩,
    ⟨(some 22), .loadA 2 (.tmp 3), none, 0⟩,
    ⟨(some 23), .call 16 [(.tmp 21), (.tmp 22)], none, 0⟩,
    ⟨(some 20), .move (.tmp 23), none, 0⟩,
    ⟨(some 24), .ext 0 (.tmp 20), none, 0⟩,
    ⟨(some 25), .ext 1 (.tmp 20), none, 0⟩,
    ⟨(some 9), .move (.tmp 24), none, 0⟩,
    ⟨(some 10), .move (.tmp 25), none, 0⟩] false) (.seq (.seq (.ops [⟨(some 26), .move (.tmp 5), none, 0⟩,
    ⟨(some 27), .bin .neq (.tmp 26) (.const (.int .i64 0)), none, 0⟩] false) (.cond (.tmp 27) (.seq (.ops [⟨(some 28), .move (.tmp 8), none, 0⟩,
    ⟨(some 29), .move (.tmp 5), none, 0⟩,
    ⟨(some 30), .bin .eql (.tmp 28) (.tmp 29), none, 0⟩,
    ⟨(some 31), .move (.tmp 30), none, 0⟩,
    ⟨(some 32), .move (.tmp 10), (some (31, true)), 0⟩,
    ⟨(some 33), .move (.tmp 5), (some (31, true)), 0⟩,
    ⟨(some 34), .bin .eql (.tmp 32) (.tmp 33), (some (31, true)), 0⟩,
    ⟨(some 35), .pick (.tmp 31) (.tmp 34) (.const (.bool false)), none, 0⟩,
    ⟨(some 36), .move (.tmp 35), none, 0⟩,
    ⟨(some 37), .move (.tmp 9), (some (36, true)), 0⟩,
    ⟨(some 38), .un .not (.tmp 37), (some (36, true)), 0⟩,
    ⟨(some 39), .pick (.tmp 36) (.tmp 38) (.const (.bool false)), none, 0⟩,
    ⟨(some 40), .move (.tmp 39), none, 0⟩,
    ⟨(some 41), .loadA 2 (.tmp 7), (some (40, true)), 0⟩,
    ⟨(some 42), .build [(.slice none 0 0), (.slice none 0 0)] [], (some (40, true)), 0⟩,
    ⟨(some 43), .call 17 [(.tmp 41), (.tmp 42)], (some (40, true)), 0⟩,
    ⟨(some 44), .pick (.tmp 40) (.tmp 43) (.const (.bool false)), none, 0⟩,
    ⟨(some 4), .move (.tmp 44), none, 0⟩] false) (.ret)) (.skip))) (.seq (.seq (.ops [⟨(some 45), .move (.tmp 8), none, 0⟩,
    ⟨(some 46), .bin .neq (.tmp 45) (.const (.int .i64 0)), none, 1⟩,
    ⟨(some 47), .move (.tmp 46), none, 3⟩,
    ⟨(some 48), .loadA 2 (.tmp 7), (some (47, false)), 7⟩,
    ⟨(some 49), .loadA 2 (.tmp 2), (some (47, false)), 7⟩,
    ⟨(some 50), .call 18 [(.tmp 49)], (some (47, false)), 23⟩,
    ⟨(some 51), .call 17 [(.tmp 48), (.tmp 50)], (some (47, false)), 63⟩,
    ⟨(some 52), .un .not (.tmp 51), (some (47, false)), 127⟩,
    ⟨(some 53), .pick (.tmp 47) (.const (.bool true)) (.tmp 52), none, 255⟩] true) (.cond (.tmp 53) (.seq (.ops [⟨(some 4), .move (.const (.bool false)), none, 0⟩] false) (.ret)) (.skip))) (.seq (.seq (.ops [⟨(some 54), .move (.tmp 6), none, 0⟩,
    ⟨(some 55), .bin .neq (.tmp 54) (.const (.int .i64 0)), none, 0⟩] false) (.cond (.tmp 55) (.seq (.ops [⟨(some 56), .move (.tmp 10), none, 0⟩,
    ⟨(some 57), .move (.tmp 6), none, 0⟩,
    ⟨(some 58), .bin .eql (.tmp 56) (.tmp 57), none, 0⟩,
    ⟨(some 59), .move (.tmp 58), none, 0⟩,
    ⟨(some 60), .move (.tmp 9), (some (59, true)), 0⟩,
    ⟨(some 61), .un .not (.tmp 60), (some (59, true)), 0⟩,
    ⟨(some 62), .pick (.tmp 59) (.tmp 61) (.const (.bool false)), none, 0⟩,
    ⟨(some 4), .move (.tmp 62), none, 0⟩] false) (.ret)) (.skip))) (.seq (.ops [⟨(some 63), .move (.tmp 10), none, 0⟩,
    ⟨(some 64), .bin .eql (.tmp 63) (.const (.int .i64 0)), none, 0⟩,
    ⟨(some 65), .move (.tmp 64), none, 0⟩,
    ⟨(some 66), .move (.tmp 9), (some (65, true)), 0⟩,
    ⟨(some 67), .loadA 2 (.tmp 2), (some (65, true)), 0⟩,
    ⟨(some 68), .loadA 2 (.tmp 3), (some (65, true)), 0⟩,
    ⟨(some 69), .call 19 [(.tmp 67), (.tmp 68)], (some (65, true)), 0⟩,
    ⟨(some 70), .eqb false (.tmp 66) (.tmp 69), (some (65, true)), 0⟩,
    ⟨(some 71), .pick (.tmp 65) (.tmp 70) (.const (.bool false)), none, 0⟩,
    ⟨(some 4), .move (.tmp 71), none, 0⟩] false) (.ret))))))))
set_option maxRecDepth 100000 in
theorem c4_ok : FunOK Try.prog 4 72 [.tmp 4] c4 := ⟨⟨Try.f4, Try.func4, rfl, by kernel_rfl, rfl, by kernel_rfl⟩⟩
theorem las_Least0 (s l : List Int) (h : wchk s l ≠ 0) : PCall Try.prog 15 [dword s l] (.tup [dword [] [], .sc (.int .i64 (wchk s l))]) := by
  refine pcall_intro c15_ok (by simp) (by simp [PureL, pure_dword]) ?_ (by simp [Pure, PureL, pure_dword])
  (apply red_sound; focus (repeat' (first | exact Red.skip | exact Red.ret | exact RedO.nil | exact RedD.nil | exact Red.exit _ | exact Red.loop _ | exact Red.stop _ | apply Red.ops | apply Red.draw | apply Red.seq | apply Red.cond | apply Red.block | apply RedO.cons | apply RedD.cons | exact (0 : Nat))))
  ((conv => whnf); repeat (refine And.intro rfl ?_; (conv => whnf)))
  (refine .inl ⟨_, (las_Check s l), ?_⟩; ((conv => whnf); repeat (refine And.intro rfl ?_; (conv => whnf))))
  (refine ifK_split (fun h1 => ?_) (fun h1 => ?_) <;> (rw [h1]; ((conv => whnf); repeat (refine And.intro rfl ?_; (conv => whnf)))))
  · exact .tup _ _ (.cons _ _ _ _ (.agg _ _ (.cons _ _ _ _ (.none _) (.cons _ _ _ _ (.none _) .nil))) (.cons _ _ _ _ (.refl _) .nil))
  · exact absurd (by ((try simp only [bne_iff_ne, ne_eq, bne_eq_false_iff_eq, beq_iff_eq, beq_eq_false_iff_ne, decide_eq_true_eq, decide_eq_false_iff_not, List.length_map, Bool.not_eq_true, Bool.not_eq_false, Bool.and_eq_true, Bool.or_eq_true, Bool.and_eq_false_iff, Bool.or_eq_false_iff, Bool.not_eq_true', Bool.not_eq_false', Bool.not_true, Bool.not_false, Bool.not_eq_eq_eq_not, not_true_eq_false, not_false_eq_true, reduceCtorEq, Bool.true_or, Bool.false_or, Bool.or_true, Bool.or_false, Bool.true_and, Bool.and_true, Bool.false_and, Bool.and_false, true_and, and_true, or_false, false_or, true_or, or_true, false_and, and_false, Bool.true_eq_false, Bool.false_eq_true] at *) <;> omega)) h
theorem las_Least1 (s l : List Int) (h : wchk s l = 0) (a p : Nat) (hN : Norm (atW s l) s.length l.length a p) :
    PCall Try.prog 15 [dword s l] (.tup [dword (seg (atW s l) 0 a) (seg (atW s l) a p), .sc (.int .i64 0)]) := by
  refine pcall_intro c15_ok (by simp) (by simp [PureL, pure_dword]) ?_ (by simp [Pure, PureL, pure_dword])
  (apply red_sound; focus (repeat' (first | exact Red.skip | exact Red.ret | exact RedO.nil | exact RedD.nil | exact Red.exit _ | exact Red.loop _ | exact Red.stop _ | apply Red.ops | apply Red.draw | apply Red.seq | apply Red.cond | apply Red.block | apply RedO.cons | apply RedD.cons | exact (0 : Nat))))
  ((conv => whnf); repeat (refine And.intro rfl ?_; (conv => whnf)))
  (refine .inl ⟨_, (las_Check s l), ?_⟩; ((conv => whnf); repeat (refine And.intro rfl ?_; (conv => whnf))))
  (refine ifK_split (fun h1 => ?_) (fun h1 => ?_) <;> (rw [h1]; ((conv => whnf); repeat (refine And.intro rfl ?_; (conv => whnf)))))
  · exfalso; ((try simp only [bne_iff_ne, ne_eq, bne_eq_false_iff_eq, beq_iff_eq, beq_eq_false_iff_ne, decide_eq_true_eq, decide_eq_false_iff_not, List.length_map, Bool.not_eq_true, Bool.not_eq_false, Bool.and_eq_true, Bool.or_eq_true, Bool.and_eq_false_iff, Bool.or_eq_false_iff, Bool.not_eq_true', Bool.not_eq_false', Bool.not_true, Bool.not_false, Bool.not_eq_eq_eq_not, not_true_eq_false, not_false_eq_true, reduceCtorEq, Bool.true_or, Bool.false_or, Bool.or_true, Bool.or_false, Bool.true_and, Bool.and_true, Bool.false_and, Bool.and_false, true_and, and_true, or_false, false_or, true_or, or_true, false_and, and_false, Bool.true_eq_false, Bool.false_eq_true] at *) <;> omega)
  · (refine .inl ⟨_, (las_least s l a p hN ((wchk_zero s l).1 h).1), ?_⟩; ((conv => whnf); repeat (refine And.intro rfl ?_; (conv => whnf))))
    exact .refl _
theorem las_Same0 (s l s' l' : List Int) (h : wchk s l ≠ 0) : PCall Try.prog 16 [dword s l, dword s' l'] (.tup [.sc (.bool false), .sc (.int .i64 (wchk s l))]) := by
  refine pcall_intro c16_ok (by simp) (by simp [PureL, pure_dword]) ?_ (by simp [Pure, PureL])
  (apply red_sound; focus (repeat' (first | exact Red.skip | exact Red.ret | exact RedO.nil | exact RedD.nil | exact Red.exit _ | exact Red.loop _ | exact Red.stop _ | apply Red.ops | apply Red.draw | apply Red.seq | apply Red.cond | apply Red.block | apply RedO.cons | apply RedD.cons | exact (0 : Nat))))
  ((conv => whnf); repeat (refine And.intro rfl ?_; (conv => whnf)))
  (refine .inl ⟨_, (las_Check s l), ?_⟩; ((conv => whnf); repeat (refine And.intro rfl ?_; (conv => whnf))))
  (refine ifK_split (fun h1 => ?_) (fun h1 => ?_) <;> (rw [h1]; ((conv => whnf); repeat (refine And.intro rfl ?_; (conv => whnf)))))
  · exact .refl _
  · exact absurd (by ((try simp only [bne_iff_ne, ne_eq, bne_eq_false_iff_eq, beq_iff_eq, beq_eq_false_iff_ne, decide_eq_true_eq, decide_eq_false_iff_not, List.length_map, Bool.not_eq_true, Bool.not_eq_false, Bool.and_eq_true, Bool.or_eq_true, Bool.and_eq_false_iff, Bool.or_eq_false_iff, Bool.not_eq_true', Bool.not_eq_false', Bool.not_true, Bool.not_false, Bool.not_eq_eq_eq_not, not_true_eq_false, not_false_eq_true, reduceCtorEq, Bool.true_or, Bool.false_or, Bool.or_true, Bool.or_false, Bool.true_and, Bool.and_true, Bool.false_and, Bool.and_false, true_and, and_true, or_false, false_or, true_or, or_true, false_and, and_false, Bool.true_eq_false, Bool.false_eq_true] at *) <;> omega)) h
theorem las_Same1 (s l s' l' : List Int) (h : wchk s l = 0) (h' : wchk s' l' ≠ 0) : PCall Try.prog 16 [dword s l, dword s' l'] (.tup [.sc (.bool false), .sc (.int .i64 (wchk s' l'))]) := by
  refine pcall_intro c16_ok (by simp) (by simp [PureL, pure_dword]) ?_ (by simp [Pure, PureL])
  (apply red_sound; focus (repeat' (first | exact Red.skip | exact Red.ret | exact RedO.nil | exact RedD.nil | exact Red.exit _ | exact Red.loop _ | exact Red.stop _ | apply Red.ops | apply Red.draw | apply Red.seq | apply Red.cond | apply Red.block | apply RedO.cons | apply RedD.cons | exact (0 : Nat))))
  ((conv => whnf); repeat (refine And.intro rfl ?_; (conv => whnf)))
  (refine .inl ⟨_, (las_Check s l), ?_⟩; ((conv => whnf); repeat (refine And.intro rfl ?_; (conv => whnf))))
  (refine ifK_split (fun h1 => ?_) (fun h1 => ?_) <;> (rw [h1]; ((conv => whnf); repeat (refine And.intro rfl ?_; (conv => whnf)))))
  · exfalso; ((try simp only [bne_iff_ne, ne_eq, bne_eq_false_iff_eq, beq_iff_eq, beq_eq_false_iff_ne, decide_eq_true_eq, decide_eq_false_iff_not, List.length_map, Bool.not_eq_true, Bool.not_eq_false, Bool.and_eq_true, Bool.or_eq_true, Bool.and_eq_false_iff, Bool.or_eq_false_iff, Bool.not_eq_true', Bool.not_eq_false', Bool.not_true, Bool.not_false, Bool.not_eq_eq_eq_not, not_true_eq_false, not_false_eq_true, reduceCtorEq, Bool.true_or, Bool.false_or, Bool.or_true, Bool.or_false, Bool.true_and, Bool.and_true, Bool.false_and, Bool.and_false, true_and, and_true, or_false, false_or, true_or, or_true, false_and, and_false, Bool.true_eq_false, Bool.false_eq_true] at *) <;> omega)
  (refine .inl ⟨_, (las_Check s' l'), ?_⟩; ((conv => whnf); repeat (refine And.intro rfl ?_; (conv => whnf))))
  (refine ifK_split (fun h2 => ?_) (fun h2 => ?_) <;> (rw [h2]; ((conv => whnf); repeat (refine And.intro rfl ?_; (conv => whnf)))))
  · exact .refl _
  · exact absurd (by ((try simp only [bne_iff_ne, ne_eq, bne_eq_false_iff_eq, beq_iff_eq, beq_eq_false_iff_ne, decide_eq_true_eq, decide_eq_false_iff_not, List.length_map, Bool.not_eq_true, Bool.not_eq_false, Bool.and_eq_true, Bool.or_eq_true, Bool.and_eq_false_iff, Bool.or_eq_false_iff, Bool.not_eq_true', Bool.not_eq_false', Bool.not_true, Bool.not_false, Bool.not_eq_eq_eq_not, not_true_eq_false, not_false_eq_true, reduceCtorEq, Bool.true_or, Bool.false_or, Bool.or_true, Bool.or_false, Bool.true_and, Bool.and_true, Bool.false_and, Bool.and_false, true_and, and_true, or_false, false_or, true_or, or_true, false_and, and_false, Bool.true_eq_false, Bool.false_eq_true] at *) <;> omega)) h'
theorem las_Same2 (s l s' l' : List Int) (h : wchk s l = 0) (h' : wchk s' l' = 0) (a p a' p' : Nat) (hN : Norm (atW s l) s.length l.length a p) (hN' : Norm (atW s' l') s'.length l'.length a' p') (b : Bool)
    (hb : b = true ↔ seg (atW s l) 0 a = seg (atW s' l') 0 a' ∧ seg (atW s l) a p = seg (atW s' l') a' p') : PCall Try.prog 16 [dword s l, dword s' l'] (.tup [.sc (.bool b), .sc (.int .i64 0)]) := by
  have w1 := (wchk_zero s l).1 h
  have w2 := (wchk_zero s' l').1 h'
  have n1 := hN.as
  have n2 := hN.pm
  refine pcall_intro c16_ok (by simp) (by simp [PureL, pure_dword]) ?_ (by simp [Pure, PureL])
  (apply red_sound; focus (repeat' (first | exact Red.skip | exact Red.ret | exact RedO.nil | exact RedD.nil | exact Red.exit _ | exact Red.loop _ | exact Red.stop _ | apply Red.ops | apply Red.draw | apply Red.seq | apply Red.cond | apply Red.block | apply RedO.cons | apply RedD.cons | exact (0 : Nat))))
  ((conv => whnf); repeat (refine And.intro rfl ?_; (conv => whnf)))
  (refine .inl ⟨_, (las_Check s l), ?_⟩; ((conv => whnf); repeat (refine And.intro rfl ?_; (conv => whnf))))
  (refine ifK_split (fun h1 => ?_) (fun h1 => ?_) <;> (rw [h1]; ((conv => whnf); repeat (refine And.intro rfl ?_; (conv => whnf)))))
  · exfalso; ((try simp only [bne_iff_ne, ne_eq, bne_eq_false_iff_eq, beq_iff_eq, beq_eq_false_iff_ne, decide_eq_true_eq, decide_eq_false_iff_not, List.length_map, Bool.not_eq_true, Bool.not_eq_false, Bool.and_eq_true, Bool.or_eq_true, Bool.and_eq_false_iff, Bool.or_eq_false_iff, Bool.not_eq_true', Bool.not_eq_false', Bool.not_true, Bool.not_false, Bool.not_eq_eq_eq_not, not_true_eq_false, not_false_eq_true, reduceCtorEq, Bool.true_or, Bool.false_or, Bool.or_true, Bool.or_false, Bool.true_and, Bool.and_true, Bool.false_and, Bool.and_false, true_and, and_true, or_false, false_or, true_or, or_true, false_and, and_false, Bool.true_eq_false, Bool.false_eq_true] at *) <;> omega)
  (refine .inl ⟨_, (las_Check s' l'), ?_⟩; ((conv => whnf); repeat (refine And.intro rfl ?_; (conv => whnf))))
  (refine ifK_split (fun h2 => ?_) (fun h2 => ?_) <;> (rw [h2]; ((conv => whnf); repeat (refine And.intro rfl ?_; (conv => whnf)))))
  · exfalso; ((try simp only [bne_iff_ne, ne_eq, bne_eq_false_iff_eq, beq_iff_eq, beq_eq_false_iff_ne, decide_eq_true_eq, decide_eq_false_iff_not, List.length_map, Bool.not_eq_true, Bool.not_eq_false, Bool.and_eq_true, Bool.or_eq_true, Bool.and_eq_false_iff, Bool.or_eq_false_iff, Bool.not_eq_true', Bool.not_eq_false', Bool.not_true, Bool.not_false, Bool.not_eq_eq_eq_not, not_true_eq_false, not_false_eq_true, reduceCtorEq, Bool.true_or, Bool.false_or, Bool.or_true, Bool.or_false, Bool.true_and, Bool.and_true, Bool.false_and, Bool.and_false, true_and, and_true, or_false, false_or, true_or, or_true, false_and, and_false, Bool.true_eq_false, Bool.false_eq_true] at *) <;> omega)
  (refine .inl ⟨_, (las_least s l a p hN w1.1), ?_⟩; ((conv => whnf); repeat (refine And.intro rfl ?_; (conv => whnf))))
  (refine .inl ⟨_, (las_least s' l' a' p' hN' w2.1), ?_⟩; ((conv => whnf); repeat (refine And.intro rfl ?_; (conv => whnf))))
  (refine .inl ⟨_, (eq_u64 (seg (atW s l) 0 a) (seg (atW s' l') 0 a') (by simp; omega)), ?_⟩; ((conv => whnf); repeat (refine And.intro rfl ?_; (conv => whnf))))
  by_cases e : seg (atW s l) 0 a = seg (atW s' l') 0 a'
  · rw [decide_eq_true e]
    ((conv => whnf); repeat (refine And.intro rfl ?_; (conv => whnf)))
    (refine .inl ⟨_, (eq_u64 (seg (atW s l) a p) (seg (atW s' l') a' p') (by simp; omega)), ?_⟩; ((conv => whnf); repeat (refine And.intro rfl ?_; (conv => whnf))))
    exact deep_eq (congrArg (fun b => D.tup [D.sc (.bool b), .sc (.int .i64 0)]) (by rw [Bool.eq_iff_iff, hb, decide_eq_true_eq]; exact ⟨fun h => ⟨e, h⟩, fun h => h.2⟩))
  · rw [decide_eq_false e]
    ((conv => whnf); repeat (refine And.intro rfl ?_; (conv => whnf)))
    exact deep_eq (congrArg (fun b => D.tup [D.sc (.bool b), .sc (.int .i64 0)]) (by rw [eq_comm, ← Bool.not_eq_true, hb]; exact fun h => e h.1))
theorem law_LassoLeast (s l s' l' : List Int) : PCall Try.prog 4 [dword s l, dword s' l'] (dbool true) := by
  refine pcall_intro c4_ok (by simp) (by simp [PureL, pure_dword]) ?_ (by simp [dbool, Pure])
  (apply red_sound; focus (repeat' (first | exact Red.skip | exact Red.ret | exact RedO.nil | exact RedD.nil | exact Red.exit _ | exact Red.loop _ | exact Red.stop _ | apply Red.ops | apply Red.draw | apply Red.seq | apply Red.cond | apply Red.block | apply RedO.cons | apply RedD.cons | exact (0 : Nat))))
  ((conv => whnf); repeat (refine And.intro rfl ?_; (conv => whnf)))
  (refine .inl ⟨_, (ref_Word s l), ?_⟩; ((conv => whnf); repeat (refine And.intro rfl ?_; (conv => whnf))))
  (refine .inl ⟨_, (ref_Word s' l'), ?_⟩; ((conv => whnf); repeat (refine And.intro rfl ?_; (conv => whnf))))
  by_cases h : wchk s l = 0
  · have w1 := (wchk_zero s l).1 h
    obtain ⟨a, p, hN⟩ := norm_exists w1.2 (fun i hi => atW_per s l hi : Per (atW s l) s.length l.length)
    have n1 := hN.as
    have n2 := hN.pm
    have hSW := ref_SameWord (seg (atW s l) 0 a) (seg (atW s l) a p) (seg (atW s l) 0 a) (seg (atW s l) a p) (by simp; omega) (by simp; omega)
    rw [decide_eq_true ⟨rfl, rfl⟩] at hSW
    (refine .inl ⟨_, (las_Least1 s l h a p hN), ?_⟩; ((conv => whnf); repeat (refine And.intro rfl ?_; (conv => whnf))))
    by_cases h' : wchk s' l' = 0
    · have w2 := (wchk_zero s' l').1 h'
      obtain ⟨a', p', hN'⟩ := norm_exists w2.2 (fun i hi => atW_per s' l' hi : Per (atW s' l') s'.length l'.length)
      obtain ⟨b, hb⟩ : ∃ b : Bool, b = true ↔ (seg (atW s l) 0 a = seg (atW s' l') 0 a' ∧ seg (atW s l) a p = seg (atW s' l') a' p') := ⟨decide _, decide_eq_true_iff⟩
      have hb2 : b = true ↔ ∀ i, i < 3660 → atW s l i = atW s' l' i := by
        rw [hb, norm_same hN hN']
        exact ⟨fun h i _ => h i, fun h => alike_all hN.per hN'.per w1.1 w2.1 w1.2 w2.2 h⟩
      (refine .inl ⟨_, (las_Same2 s l s' l' h h' a p a' p' hN hN' b hb), ?_⟩; ((conv => whnf); repeat (refine And.intro rfl ?_; (conv => whnf))))
      (refine ifK_split (fun g1 => ?_) (fun g1 => ?_) <;> (rw [g1]; ((conv => whnf); repeat (refine And.intro rfl ?_; (conv => whnf)))))
      · exfalso; ((try simp only [bne_iff_ne, ne_eq, bne_eq_false_iff_eq, beq_iff_eq, beq_eq_false_iff_ne, decide_eq_true_eq, decide_eq_false_iff_not, List.length_map, Bool.not_eq_true, Bool.not_eq_false, Bool.and_eq_true, Bool.or_eq_true, Bool.and_eq_false_iff, Bool.or_eq_false_iff, Bool.not_eq_true', Bool.not_eq_false', Bool.not_true, Bool.not_false, Bool.not_eq_eq_eq_not, not_true_eq_false, not_false_eq_true, reduceCtorEq, Bool.true_or, Bool.false_or, Bool.or_true, Bool.or_false, Bool.true_and, Bool.and_true, Bool.false_and, Bool.and_false, true_and, and_true, or_false, false_or, true_or, or_true, false_and, and_false, Bool.true_eq_false, Bool.false_eq_true] at *) <;> omega)
      (refine .inl ⟨_, (ref_LeastWord s l a p hN w1.1), ?_⟩; ((conv => whnf); repeat (refine And.intro rfl ?_; (conv => whnf))))
      (refine .inl ⟨_, hSW, ?_⟩; ((conv => whnf); repeat (refine And.intro rfl ?_; (conv => whnf))))
      (refine ifK_split (fun g2 => ?_) (fun g2 => ?_) <;> (rw [g2]; ((conv => whnf); repeat (refine And.intro rfl ?_; (conv => whnf)))))
      · exfalso; ((try simp only [bne_iff_ne, ne_eq, bne_eq_false_iff_eq, beq_iff_eq, beq_eq_false_iff_ne, decide_eq_true_eq, decide_eq_false_iff_not, List.length_map, Bool.not_eq_true, Bool.not_eq_false, Bool.and_eq_true, Bool.or_eq_true, Bool.and_eq_false_iff, Bool.or_eq_false_iff, Bool.not_eq_true', Bool.not_eq_false', Bool.not_true, Bool.not_false, Bool.not_eq_eq_eq_not, not_true_eq_false, not_false_eq_true, reduceCtorEq, Bool.true_or, Bool.false_or, Bool.or_true, Bool.or_false, Bool.true_and, Bool.and_true, Bool.false_and, Bool.and_false, true_and, and_true, or_false, false_or, true_or, or_true, false_and, and_false, Bool.true_eq_false, Bool.false_eq_true] at *) <;> omega)
      (refine .inl ⟨_, (ref_Alike s l s' l' w1 w2 b hb2), ?_⟩; ((conv => whnf); repeat (refine And.intro rfl ?_; (conv => whnf))))
      exact deep_eq (by simp [dbool])
    · (refine .inl ⟨_, (las_Same1 s l s' l' h h'), ?_⟩; ((conv => whnf); repeat (refine And.intro rfl ?_; (conv => whnf))))
      (refine ifK_split (fun g1 => ?_) (fun g1 => ?_) <;> (rw [g1]; ((conv => whnf); repeat (refine And.intro rfl ?_; (conv => whnf)))))
      · exfalso; ((try simp only [bne_iff_ne, ne_eq, bne_eq_false_iff_eq, beq_iff_eq, beq_eq_false_iff_ne, decide_eq_true_eq, decide_eq_false_iff_not, List.length_map, Bool.not_eq_true, Bool.not_eq_false, Bool.and_eq_true, Bool.or_eq_true, Bool.and_eq_false_iff, Bool.or_eq_false_iff, Bool.not_eq_true', Bool.not_eq_false', Bool.not_true, Bool.not_false, Bool.not_eq_eq_eq_not, not_true_eq_false, not_false_eq_true, reduceCtorEq, Bool.true_or, Bool.false_or, Bool.or_true, Bool.or_false, Bool.true_and, Bool.and_true, Bool.false_and, Bool.and_false, true_and, and_true, or_false, false_or, true_or, or_true, false_and, and_false, Bool.true_eq_false, Bool.false_eq_true] at *) <;> omega)
      (refine .inl ⟨_, (ref_LeastWord s l a p hN w1.1), ?_⟩; ((conv => whnf); repeat (refine And.intro rfl ?_; (conv => whnf))))
      (refine .inl ⟨_, hSW, ?_⟩; ((conv => whnf); repeat (refine And.intro rfl ?_; (conv => whnf))))
      (refine ifK_split (fun g2 => ?_) (fun g2 => ?_) <;> (rw [g2]; ((conv => whnf); repeat (refine And.intro rfl ?_; (conv => whnf)))))
      · (refine ifK_split (fun g3 => ?_) (fun g3 => ?_) <;> (rw [g3]; ((conv => whnf); repeat (refine And.intro rfl ?_; (conv => whnf)))))
        · exact .refl _
        · exfalso; simp at g3
      · exfalso; ((try simp only [bne_iff_ne, ne_eq, bne_eq_false_iff_eq, beq_iff_eq, beq_eq_false_iff_ne, decide_eq_true_eq, decide_eq_false_iff_not, List.length_map, Bool.not_eq_true, Bool.not_eq_false, Bool.and_eq_true, Bool.or_eq_true, Bool.and_eq_false_iff, Bool.or_eq_false_iff, Bool.not_eq_true', Bool.not_eq_false', Bool.not_true, Bool.not_false, Bool.not_eq_eq_eq_not, not_true_eq_false, not_false_eq_true, reduceCtorEq, Bool.true_or, Bool.false_or, Bool.or_true, Bool.or_false, Bool.true_and, Bool.and_true, Bool.false_and, Bool.and_false, true_and, and_true, or_false, false_or, true_or, or_true, false_and, and_false, Bool.true_eq_false, Bool.false_eq_true] at *) <;> omega)
  · (refine .inl ⟨_, (las_Least0 s l h), ?_⟩; ((conv => whnf); repeat (refine And.intro rfl ?_; (conv => whnf))))
    (refine .inl ⟨_, (las_Same0 s l s' l' h), ?_⟩; ((conv => whnf); repeat (refine And.intro rfl ?_; (conv => whnf))))
    (refine ifK_split (fun g1 => ?_) (fun g1 => ?_) <;> (rw [g1]; ((conv => whnf); repeat (refine And.intro rfl ?_; (conv => whnf)))))
    · have hb : (wchk s l == wchk s l) = true := by simp
      rw [hb]
      ((conv => whnf); repeat (refine And.intro rfl ?_; (conv => whnf)))
      rw [hb]
      ((conv => whnf); repeat (refine And.intro rfl ?_; (conv => whnf)))
      (refine .inl ⟨_, (same_word0 [] [] (by simp) (by simp)), ?_⟩; ((conv => whnf); repeat (refine And.intro rfl ?_; (conv => whnf))))
      exact .refl _
    · exact absurd (by ((try simp only [bne_iff_ne, ne_eq, bne_eq_false_iff_eq, beq_iff_eq, beq_eq_false_iff_ne, decide_eq_true_eq, decide_eq_false_iff_not, List.length_map, Bool.not_eq_true, Bool.not_eq_false, Bool.and_eq_true, Bool.or_eq_true, Bool.and_eq_false_iff, Bool.or_eq_false_iff, Bool.not_eq_true', Bool.not_eq_false', Bool.not_true, Bool.not_false, Bool.not_eq_eq_eq_not, not_true_eq_false, not_false_eq_true, reduceCtorEq, Bool.true_or, Bool.false_or, Bool.or_true, Bool.or_false, Bool.true_and, Bool.and_true, Bool.false_and, Bool.and_false, true_and, and_true, or_false, false_or, true_or, or_true, false_and, and_false, Bool.true_eq_false, Bool.false_eq_true] at *) <;> omega)) h
theorem argWord {P : Program} {t e u : TypeId} {f0 f1 : Field} {d : D} (ht : P.underlying t = some (.struct #[f0, f1])) (h0 : f0.type = e) (h1 : f1.type = e) (he : P.underlying e = some (.slice u)) (hu : P.underlying u = some (.int .u64)) (hc : P.cellsOf u = 1)
    (h : OfA P t d) : ∃ s l : List Int, d = dword s l := by
  unfold OfA at h
  rw [ht] at h
  obtain ⟨cs, rfl, h⟩ := h
  have := of_struct ht h
  simp only [List.map_cons, List.map_nil, h0, h1] at this
  obtain ⟨xs, b, rfl, _, hx, this⟩ := ofTs_slice he this
  obtain ⟨ys, c, rfl, _, hy, this⟩ := ofTs_slice he this
  obtain rfl := ofTs_nil this
  obtain ⟨s, rfl, _⟩ := of_cells (f := fun n : Int => .int .u64 n) (ok := fun _ => True) (fun cs h => by obtain ⟨n, e, _⟩ := of_int hu h; exact ⟨n, e, trivial⟩) hx
  obtain ⟨l, rfl, _⟩ := of_cells (f := fun n : Int => .int .u64 n) (ok := fun _ => True) (fun cs h => by obtain ⟨n, e, _⟩ := of_int hu h; exact ⟨n, e, trivial⟩) hy
  rw [hc]
  exact ⟨s, l, rfl⟩
namespace lassoLeast
set_option maxRecDepth 100000 in
theorem law : ∀ Ds, OfAs Try.prog [29, 29] Ds → PCall Try.prog 4 Ds (dbool true)
  | [d, e], h => by
    obtain ⟨s, l, rfl⟩ := argWord Try.underlying29 rfl rfl Try.underlying27 Try.underlying94 (by kernel_rfl) h.1
    obtain ⟨s', l', rfl⟩ := argWord Try.underlying29 rfl rfl Try.underlying27 Try.underlying94 (by kernel_rfl) h.2.1
    exact law_LassoLeast s l s' l'
theorem types : typesOK Try.prog [29, 27, 94] = true := by kernel_rfl
set_option maxRecDepth 100000 in
theorem laidOut : laidOutB Try.prog = true := by kernel_rfl
set_option maxRecDepth 100000 in
theorem readable : (Try.f4.params.toList.all fun t => Try.prog.readableRec t && decide (t < Try.prog.types.size)) = true := by kernel_rfl
theorem own : ownKnob Try.prog.godebug = none := by kernel_rfl
set_option maxRecDepth 100000 in
theorem lifted (os : Os) (started : os.Started) (H : Type) (enc : TypeId × Value → H) :
    ReturnsInHanded {} Try.checked os 4 .any (Rows.lassoLeastSpec.pre6 enc Try.prog Try.f4 Rows.lassoLeastRow.domain false) (Rows.lassoLeastSpec.post enc Try.prog Try.f4 false true false false) := by
  refine returnsInHanded_of_change (C := Try.checked) own started (by kernel_rfl) Try.func4
    (ChangeSpec.witness6 (enc := enc) (C := Try.checked) false ⟨#[], #[.agg #[.slice none 0 0, .slice none 0 0], .agg #[.slice none 0 0, .slice none 0 0]], []⟩ 8 (by kernel_rfl) (by kernel_rfl) (by kernel_rfl) (by kernel_rfl)) ?_
  intro W base args ds gs before hval0 hW _ _
  have hval : ∀ (j : Nat) t v, Try.f4.params[j]? = some t → args[j]? = some v → Value.okWide Try.prog W .any base t v := hval0
  have hW' := hW
  obtain ⟨p, q, hA0, hV, _, hfz, hnd⟩ := hW
  have hA : DataW.TrodAll enc Try.prog W 0 (fun _ => true) true Try.f4.params.toList args.toList ds p := hA0
  have hps : Try.f4.params.toList = [29, 29] := by kernel_rfl
  obtain ⟨Ds, hD, hR⟩ := args_rep types (base := base) _ _ _ _ (fun t ht => by rw [hps] at ht; revert t; decide) (fun j t v h1 h2 => hval j t v (by simpa using h1) (by simpa using h2)) hA
  rw [hps] at hD
  have hC := (law Ds hD).run noInj (There W) W args.toList (fun b h => h) hR
  rw [show args.toList.toArray = args from rfl] at hC
  refine hC.mono fun e W' ⟨v, F', he, _, hv, hx⟩ => ?_
  have hv' : v = .bool true := by simpa only [rep, dbool] using hv
  subst he hv'
  exact ⟨_, rfl, row_post hW' rfl (by kernel_rfl) Try.underlying4 laidOut (fun t ht => by
      have := List.all_eq_true.1 readable t ht
      simp only [Bool.and_eq_true, decide_eq_true_eq] at this
      exact this) (fun ds h => by rw [hps] at h; match ds, h with | [_, _], _ => rfl) (below_of_ext hx) (ok_one (by kernel_rfl) rfl (okWide_bool_mk Try.underlying4 _))⟩

theorem over : Rows.lassoLeastRow.holds Try.pinned (OpenSpec.ofChange Rows.lassoLeastSpec) :=
  OpenClaim.holds_of_wide 4 Try.f4 rfl rfl rfl rfl rfl rfl rfl ⟨rfl, rfl, rfl, rfl, rfl⟩ rfl rfl rfl rfl rfl (by kernel_rfl) Try.func4 (by kernel_rfl)
    (of_decide_eq_true (by kernel_rfl)) (by unfold Func.isWrapper; first | (rw [if_pos (by decide +kernel)]; kernel_rfl) | (rw [if_neg (by decide +kernel)]; exact ⟨rfl, rfl⟩))
    (fun os started H enc _ => lifted os started H enc)

theorem proved : Rows.LassoLeastSaid := over
end lassoLeast
end Go.Proofs.Ytkkfiadefekbbaa
