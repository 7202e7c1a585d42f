/-
  Templates: their check and their formulas, over deep values. No statement is proved here.
-/
import Derived.Test.YtcgjbhnljjlffaaFo
namespace Go.Proofs.Ytcgjbhnljjlffaa
open Go.RowKit
set_option linter.unusedSimpArgs false

def dtempl (k a b c : Int) : D := .agg [.sc (.int .i64 k), .sc (.int .i64 a), .sc (.int .i64 b), .sc (.int .i64 c)]
theorem pure_dtempl (k a b c : Int) : Pure (dtempl k a b c) := by simp [dtempl, Pure, PureL]
/-- What a template's check answers. -/
def tmplChk (k a b c : Int) : Int :=
  if k < 1 ∨ 14 < k ∨ a < 0 ∨ 62 < a ∨ b < 0 ∨ 62 < b ∨ (k ≤ 4 ∧ b ≠ 0) then 1
  else if (k ≤ 3 ∧ (c < 1 ∨ 3 < c)) ∨ (3 < k ∧ c ≠ 0) then 1 else 0
def evT (n : Int) : Tree := mk2 5 (mk0 3 n) (mk1 4 (mk0 3 63))
def manyT (a : Int) : Nat → Tree
  | 0 => mk1 10 (evT a)
  | n + 1 => mk1 10 (mk2 5 (evT a) (mk1 7 (manyT a n)))
def respT (a b : Int) : Tree := mk1 11 (mk2 6 (mk1 4 (evT a)) (mk1 10 (evT b)))
def precT (a b : Int) : Tree := mk2 6 (mk2 8 (mk1 4 (evT b)) (evT a)) (mk1 11 (mk1 4 (evT b)))
def formT (k a b c : Int) : Tree :=
  if k = 1 then manyT a (c - 1).toNat else if k = 2 then mk1 4 (manyT a (c - 1).toNat)
  else if k = 3 then mk2 5 (manyT a (c - 1).toNat) (mk1 4 (manyT a c.toNat))
  else if k = 4 then mk2 6 (mk2 8 (mk0 3 63) (evT a)) (mk1 11 (mk0 3 63))
  else if k = 5 then mk2 6 (mk1 10 (evT a)) (mk1 10 (evT b))
  else if k = 6 then mk2 6 (mk1 4 (mk1 10 (evT a))) (mk1 10 (evT b))
  else if k = 7 then mk2 5 (mk2 6 (mk1 4 (mk1 10 (evT a))) (mk1 10 (evT b))) (mk2 6 (mk1 4 (mk1 10 (evT b))) (mk1 10 (evT a)))
  else if k = 13 then mk1 4 (mk2 5 (mk1 10 (evT a)) (mk1 10 (evT b)))
  else if k = 8 then respT a b else if k = 9 then precT a b else if k = 10 then mk2 5 (respT a b) (precT a b)
  else if k = 11 then mk1 11 (mk2 6 (mk1 4 (evT a)) (mk1 7 (mk2 8 (mk1 4 (evT a)) (evT b))))
  else if k = 12 then mk1 11 (mk2 6 (mk1 4 (evT a)) (mk1 7 (mk2 8 (mk0 3 63) (evT b))))
  else mk1 11 (mk2 6 (mk1 4 (evT a)) (mk1 4 (mk1 7 (mk1 10 (evT b)))))
def c99 : PC := .seq (.ops [⟨(some 2), .move (.const (.bool false)), none, 0⟩] false) (.seq (.ops [⟨(some 3), .move (.tmp 0), none, 0⟩,
    ⟨(some 4), .bin .geq (.tmp 3) (.const (.int .i64 1)), none, 0⟩,
    ⟨(some 5), .move (.tmp 4), none, 0⟩,
    ⟨(some 6), .move (.tmp 0), (some (5, true)), 0⟩,
    ⟨(some 7), .bin .leq (.tmp 6) (.const (.int .i64 3)), (some (5, true)), 0⟩,
    ⟨(some 8), .pick (.tmp 5) (.tmp 7) (.const (.bool false)), none, 0⟩,
    ⟨(some 2), .move (.tmp 8), none, 0⟩] false) (.ret))
set_option maxRecDepth 100000 in
theorem c99_ok : FunOK Try.prog 99 9 [.tmp 2] c99 := ⟨⟨Try.f99, Try.func99, rfl, by kernel_rfl, rfl, by kernel_rfl⟩⟩
def c97 : PC := .seq (.ops [⟨(some 1), .box (.tmp 0), none, 0⟩,
    ⟨(some 2), .move (.const (.int .i64 0)), none, 0⟩] false) (.seq (.ops [⟨(some 4), .faddr 0 (.tmp 1), none, 0⟩,
    ⟨(some 5), .load1 (.tmp 4), none, 0⟩,
    ⟨(some 6), .call 99 [(.tmp 5)], none, 0⟩,
    ⟨(some 7), .move (.tmp 6), none, 0⟩,
    ⟨(some 8), .faddr 0 (.tmp 1), (some (7, false)), 0⟩,
    ⟨(some 9), .load1 (.tmp 8), (some (7, false)), 0⟩,
    ⟨(some 10), .bin .eql (.tmp 9) (.const (.int .i64 4)), (some (7, false)), 0⟩,
    ⟨(some 11), .pick (.tmp 7) (.const (.bool true)) (.tmp 10), none, 0⟩,
    ⟨(some 3), .move (.tmp 11), none, 0⟩] false) (.seq (.block 0 (.seq (.ops [⟨(some 13), .faddr 0 (.tmp 1), none, 0⟩,
    ⟨(some 14), .load1 (.tmp 13), none, 0⟩,
    ⟨(some 15), .bin .lss (.tmp 14) (.const (.int .i64 1)), none, 0⟩,
    ⟨(some 16), .move (.tmp 15), none, 0⟩,
    ⟨(some 17), .faddr 0 (.tmp 1), (some (16, false)), 0⟩,
    ⟨(some 18), .load1 (.tmp 17), (some (16, false)), 0⟩,
    ⟨(some 19), .bin .gtr (.tmp 18) (.const (.int .i64 14)), (some (16, false)), 0⟩,
    ⟨(some 20), .pick (.tmp 16) (.const (.bool true)) (.tmp 19), none, 0⟩,
    ⟨(some 21), .move (.tmp 20), none, 0⟩,
    ⟨(some 22), .faddr 1 (.tmp 1), (some (21, false)), 0⟩,
    ⟨(some 23), .load1 (.tmp 22), (some (21, false)), 0⟩,
    ⟨(some 24), .bin .lss (.tmp 23) (.const (.int .i64 0)), (some (21, false)), 0⟩,
    ⟨(some 25), .pick (.tmp 21) (.const (.bool true)) (.tmp 24), none, 0⟩,
    ⟨(some 26), .move (.tmp 25), none, 0⟩,
    ⟨(some 27), .faddr 1 (.tmp 1), (some (26, false)), 0⟩,
    ⟨(some 28), .load1 (.tmp 27), (some (26, false)), 0⟩,
    ⟨(some 29), .bin .geq (.tmp 28) (.const (.int .i64 63)), (some (26, false)), 0⟩,
    ⟨(some 30), .pick (.tmp 26) (.const (.bool true)) (.tmp 29), none, 0⟩,
    ⟨(some 31), .move (.tmp 30), none, 0⟩,
    ⟨(some 32), .faddr 2 (.tmp 1), (some (31, false)), 0⟩,
    ⟨(some 33), .load1 (.tmp 32), (some (31, false)), 0⟩,
    ⟨(some 34), .bin .lss (.tmp 33) (.const (.int .i64 0)), (some (31, false)), 0⟩,
    ⟨(some 35), .pick (.tmp 31) (.const (.bool true)) (.tmp 34), none, 0⟩,
    ⟨(some 36), .move (.tmp 35), none, 0⟩,
    ⟨(some 37), .faddr 2 (.tmp 1), (some (36, false)), 0⟩,
    ⟨(some 38), .load1 (.tmp 37), (some (36, false)), 0⟩,
    ⟨(some 39), .bin .geq (.tmp 38) (.const (.int .i64 63)), (some (36, false)), 0⟩,
    ⟨(some 40), .pick (.tmp 36) (.const (.bool true)) (.tmp 39), none, 0⟩,
    ⟨(some 41), .move (.tmp 40), none, 0⟩,
    ⟨(some 42), .move (.tmp 3), (some (41, false)), 0⟩,
    ⟨(some 43), .move (.tmp 42), (some (41, false)), 0⟩,
    ⟨(some 44), .faddr 2 (.tmp 1), (some (43, true)), 0⟩,
    ⟨(some 45), .load1 (.tmp 44), (some (43, true)), 0⟩,
    ⟨(some 46), .bin .neq (.tmp 45) (.const (.int .i64 0)), (some (43, true)), 0⟩,
    ⟨(some 47), .pick (.tmp 43) (.tmp 46) (.const (.bool false)), (some (41, false)), 0⟩,
    ⟨(some 48), .pick (.tmp 41) (.const (.bool true)) (.tmp 47), none, 0⟩,
    ⟨(some 12), .move (.tmp 48), none, 0⟩] false) (.cond (.tmp 12) (.seq (.ops [⟨(some 2), .move (.const (.int .i64 1)), none, 0⟩] false) (.ret)) (.seq (.ops [⟨(some 50), .faddr 0 (.tmp 1), none, 0⟩,
    ⟨(some 51), .load1 (.tmp 50), none, 0⟩,
    ⟨(some 52), .call 99 [(.tmp 51)], none, 0⟩,
    ⟨(some 53), .move (.tmp 52), none, 0⟩,
    ⟨(some 54), .faddr 3 (.tmp 1), (some (53, true)), 0⟩,
    ⟨(some 55), .load1 (.tmp 54), (some (53, true)), 0⟩,
    ⟨(some 56), .bin .lss (.tmp 55) (.const (.int .i64 1)), (some (53, true)), 0⟩,
    ⟨(some 57), .move (.tmp 56), (some (53, true)), 0⟩,
    ⟨(some 58), .faddr 3 (.tmp 1), (some (57, false)), 0⟩,
    ⟨(some 59), .load1 (.tmp 58), (some (57, false)), 0⟩,
    ⟨(some 60), .bin .gtr (.tmp 59) (.const (.int .i64 3)), (some (57, false)), 0⟩,
    ⟨(some 61), .pick (.tmp 57) (.const (.bool true)) (.tmp 60), (some (53, true)), 0⟩,
    ⟨(some 62), .pick (.tmp 53) (.tmp 61) (.const (.bool false)), none, 0⟩,
    ⟨(some 63), .move (.tmp 62), none, 0⟩,
    ⟨(some 64), .faddr 0 (.tmp 1), (some (63, false)), 0⟩,
    ⟨(some 65), .load1 (.tmp 64), (some (63, false)), 0⟩,
    ⟨(some 66), .call 99 [(.tmp 65)], (some (63, false)), 0⟩,
    ⟨(some 67), .un .not (.tmp 66), (some (63, false)), 0⟩,
    ⟨(some 68), .move (.tmp 67), (some (63, false)), 0⟩,
    ⟨(some 69), .faddr 3 (.tmp 1), (some (68, true)), 0⟩,
    ⟨(some 70), .load1 (.tmp 69), (some (68, true)), 0⟩,
    ⟨(some 71), .bin .neq (.tmp 70) (.const (.int .i64 0)), (some (68, true)), 0⟩,
    ⟨(some 72), .pick (.tmp 68) (.tmp 71) (.const (.bool false)), (some (63, false)), 0⟩,
    ⟨(some 73), .pick (.tmp 63) (.const (.bool true)) (.tmp 72), none, 0⟩,
    ⟨(some 49), .move (.tmp 73), none, 0⟩] false) (.cond (.tmp 49) (.seq (.ops [⟨(some 2), .move (.const (.int .i64 1)), none, 0⟩] false) (.ret)) (.skip)))))) (.seq (.ops [⟨(some 2), .move (.const (.int .i64 0)), none, 0⟩] false) (.ret))))
set_option maxRecDepth 100000 in
theorem c97_ok : FunOK Try.prog 97 74 [.tmp 2] c97 := ⟨⟨Try.f97, Try.func97, rfl, by kernel_rfl, rfl, by kernel_rfl⟩⟩
theorem dec_counted (k : Int) : PCall Try.prog 99 [.sc (.int .i64 k)] (.sc (.bool (decide (1 ≤ k) && decide (k ≤ 3)))) := by
  refine pcall_intro c99_ok (by simp) (by simp [PureL, Pure]) ?_ (by simp [Pure])
  (apply red_sound; focus (repeat' (first | exact Red.skip | exact Red.ret | exact RedO.nil | exact RedD.nil | exact Red.exit _ | exact Red.loop _ | exact Red.stop _ | apply Red.ops | apply Red.draw | apply Red.seq | apply Red.cond | apply Red.block | apply RedO.cons | apply RedD.cons | exact (0 : Nat))))
  ((conv => whnf); repeat (refine And.intro rfl ?_; (conv => whnf)))
  repeat' (first | (refine ifK_split (fun h => ?_) (fun h => ?_) <;> (rw [h]; ((conv => whnf); repeat (refine And.intro rfl ?_; (conv => whnf))))) | exact deep_eq (by simp_all))
theorem dec_Check (k a b c : Int) : PCall Try.prog 97 [dtempl k a b c] (.sc (.int .i64 (tmplChk k a b c))) := by
  refine pcall_intro c97_ok (by simp) (by simp [PureL, pure_dtempl]) ?_ (by simp [Pure])
  (apply red_sound; focus (repeat' (first | exact Red.skip | exact Red.ret | exact RedO.nil | exact RedD.nil | exact Red.exit _ | exact Red.loop _ | exact Red.stop _ | apply Red.ops | apply Red.draw | apply Red.seq | apply Red.cond | apply Red.block | apply RedO.cons | apply RedD.cons | exact (0 : Nat))))
  ((conv => whnf); repeat (refine And.intro rfl ?_; (conv => whnf)))
  repeat' (first
    | (refine ifK_split (fun h => ?_) (fun h => ?_) <;> (rw [h]; ((conv => whnf); repeat (refine And.intro rfl ?_; (conv => whnf)))))
    | (refine .inl ⟨_, (dec_counted k), ?_⟩; ((conv => whnf); repeat (refine And.intro rfl ?_; (conv => whnf))))
    | exact deep_eq (by unfold tmplChk; congr 2; (repeat' split) <;> first | rfl | ((try simp only [bne_iff_ne, ne_eq, bne_eq_false_iff_eq, beq_iff_eq, beq_eq_false_iff_ne, decide_eq_true_eq, decide_eq_false_iff_not, List.length_map, Bool.not_eq_true, Bool.not_eq_false, Bool.and_eq_true, Bool.or_eq_true, Bool.and_eq_false_iff, Bool.or_eq_false_iff, Bool.not_eq_true', Bool.not_eq_false', Bool.not_true, Bool.not_false, Bool.not_eq_eq_eq_not, not_true_eq_false, not_false_eq_true, reduceCtorEq, Bool.true_or, Bool.false_or, Bool.or_true, Bool.or_false, Bool.true_and, Bool.and_true, Bool.false_and, Bool.and_false, true_and, and_true, or_false, false_or, true_or, or_true, false_and, and_false, Bool.true_eq_false, Bool.false_eq_true] at *) <;> omega)))
def c34 : PC := .seq (.ops [⟨(some 1), .box (.tmp 0), none, 0⟩,
    ⟨(some 2), .move (.const (.int .i64 0)), none, 0⟩] false) (.seq (.seq (.ops [⟨(some 3), .faddr 0 (.tmp 1), none, 0⟩,
    ⟨(some 4), .load1 (.tmp 3), none, 0⟩,
    ⟨(some 5), .bin .lss (.tmp 4) (.const (.int .i64 1)), none, 0⟩,
    ⟨(some 6), .move (.tmp 5), none, 0⟩,
    ⟨(some 7), .faddr 0 (.tmp 1), (some (6, false)), 0⟩,
    ⟨(some 8), .load1 (.tmp 7), (some (6, false)), 0⟩,
    ⟨(some 9), .bin .gtr (.tmp 8) (.const (.int .i64 14)), (some (6, false)), 0⟩,
    ⟨(some 10), .pick (.tmp 6) (.const (.bool true)) (.tmp 9), none, 0⟩,
    ⟨(some 11), .move (.tmp 10), none, 0⟩,
    ⟨(some 12), .faddr 1 (.tmp 1), (some (11, false)), 0⟩,
    ⟨(some 13), .load1 (.tmp 12), (some (11, false)), 0⟩,
    ⟨(some 14), .bin .lss (.tmp 13) (.const (.int .i64 0)), (some (11, false)), 0⟩,
    ⟨(some 15), .pick (.tmp 11) (.const (.bool true)) (.tmp 14), none, 0⟩,
    ⟨(some 16), .move (.tmp 15), none, 0⟩,
    ⟨(some 17), .faddr 1 (.tmp 1), (some (16, false)), 0⟩,
    ⟨(some 18), .load1 (.tmp 17), (some (16, false)), 0⟩,
    ⟨(some 19), .bin .gtr (.tmp 18) (.const (.int .i64 62)), (some (16, false)), 0⟩,
    ⟨(some 20), .pick (.tmp 16) (.const (.bool true)) (.tmp 19), none, 0⟩,
    ⟨(some 21), .move (.tmp 20), none, 0⟩,
    ⟨(some 22), .faddr 2 (.tmp 1), (some (21, false)), 0⟩,
    ⟨(some 23), .load1 (.tmp 22), (some (21, false)), 0⟩,
    ⟨(some 24), .bin .lss (.tmp 23) (.const (.int .i64 0)), (some (21, false)), 0⟩,
    ⟨(some 25), .pick (.tmp 21) (.const (.bool true)) (.tmp 24), none, 0⟩,
    ⟨(some 26), .move (.tmp 25), none, 0⟩,
    ⟨(some 27), .faddr 2 (.tmp 1), (some (26, false)), 0⟩,
    ⟨(some 28), .load1 (.tmp 27), (some (26, false)), 0⟩,
    ⟨(some 29), .bin .gtr (.tmp 28) (.const (.int .i64 62)), (some (26, false)), 0⟩,
    ⟨(some 30), .pick (.tmp 26) (.const (.bool true)) (.tmp 29), none, 0⟩,
    ⟨(some 31), .move (.tmp 30), none, 0⟩,
    ⟨(some 32), .faddr 0 (.tmp 1), (some (31, false)), 0⟩,
    ⟨(some 33), .load1 (.tmp 32), (some (31, false)), 0⟩,
    ⟨(some 34), .bin .leq (.tmp 33) (.const (.int .i64 4)), (some (31, false)), 0⟩,
    ⟨(some 35), .move (.tmp 34), (some (31, false)), 0⟩,
    ⟨(some 36), .faddr 2 (.tmp 1), (some (35, true)), 0⟩,
    ⟨(some 37), .load1 (.tmp 36), (some (35, true)), 0⟩,
    ⟨(some 38), .bin .neq (.tmp 37) (.const (.int .i64 0)), (some (35, true)), 0⟩,
    ⟨(some 39), .pick (.tmp 35) (.tmp 38) (.const (.bool false)), (some (31, false)), 0⟩,
    ⟨(some 40), .pick (.tmp 31) (.const (.bool true)) (.tmp 39), none, 0⟩] false) (.cond (.tmp 40) (.seq (.ops [⟨(some 2), .move (.const (.int .i64 1)), none, 0⟩] false) (.ret)) (.skip))) (.seq (.seq (.ops [⟨(some 41), .faddr 0 (.tmp 1), none, 0⟩,
    ⟨(some 42), .load1 (.tmp 41), none, 0⟩,
    ⟨(some 43), .bin .leq (.tmp 42) (.const (.int .i64 3)), none, 0⟩,
    ⟨(some 44), .move (.tmp 43), none, 0⟩,
    ⟨(some 45), .faddr 3 (.tmp 1), (some (44, true)), 0⟩,
    ⟨(some 46), .load1 (.tmp 45), (some (44, true)), 0⟩,
    ⟨(some 47), .bin .lss (.tmp 46) (.const (.int .i64 1)), (some (44, true)), 0⟩,
    ⟨(some 48), .move (.tmp 47), (some (44, true)), 0⟩,
    ⟨(some 49), .faddr 3 (.tmp 1), (some (48, false)), 0⟩,
    ⟨(some 50), .load1 (.tmp 49), (some (48, false)), 0⟩,
    ⟨(some 51), .bin .gtr (.tmp 50) (.const (.int .i64 3)), (some (48, false)), 0⟩,
    ⟨(some 52), .pick (.tmp 48) (.const (.bool true)) (.tmp 51), (some (44, true)), 0⟩,
    ⟨(some 53), .pick (.tmp 44) (.tmp 52) (.const (.bool false)), none, 0⟩,
    ⟨(some 54), .move (.tmp 53), none, 0⟩,
    ⟨(some 55), .faddr 0 (.tmp 1), (some (54, false)), 0⟩,
    ⟨(some 56), .load1 (.tmp 55), (some (54, false)), 0⟩,
    ⟨(some 57), .bin .gtr (.tmp 56) (.const (.int .i64 3)), (some (54, false)), 0⟩,
    ⟨(some 58), .move (.tmp 57), (some (54, false)), 0⟩,
    ⟨(some 59), .faddr 3 (.tmp 1), (some (58, true)), 0⟩,
    ⟨(some 60), .load1 (.tmp 59), (some (58, true)), 0⟩,
    ⟨(some 61), .bin .neq (.tmp 60) (.const (.int .i64 0)), (some (58, true)), 0⟩,
    ⟨(some 62), .pick (.tmp 58) (.tmp 61) (.const (.bool false)), (some (54, false)), 0⟩,
    ⟨(some 63), .pick (.tmp 54) (.const (.bool true)) (.tmp 62), none, 0⟩] false) (.cond (.tmp 63) (.seq (.ops [⟨(some 2), .move (.const (.int .i64 1)), none, 0⟩] false) (.ret)) (.skip))) (.seq (.ops [⟨(some 2), .move (.const (.int .i64 0)), none, 0⟩] false) (.ret))))
set_option maxRecDepth 100000 in
theorem c34_ok : FunOK Try.prog 34 64 [.tmp 2] c34 := ⟨⟨Try.f34, Try.func34, rfl, by kernel_rfl, rfl, by kernel_rfl⟩⟩
theorem ref_Template (k a b c : Int) : PCall Try.prog 34 [dtempl k a b c] (.sc (.int .i64 (tmplChk k a b c))) := by
  refine pcall_intro c34_ok (by simp) (by simp [PureL, pure_dtempl]) ?_ (by simp [Pure])
  (apply red_sound; focus (repeat' (first | exact Red.skip | exact Red.ret | exact RedO.nil | exact RedD.nil | exact Red.exit _ | exact Red.loop _ | exact Red.stop _ | apply Red.ops | apply Red.draw | apply Red.seq | apply Red.cond | apply Red.block | apply RedO.cons | apply RedD.cons | exact (0 : Nat))))
  ((conv => whnf); repeat (refine And.intro rfl ?_; (conv => whnf)))
  repeat' (first
    | (refine ifK_split (fun h => ?_) (fun h => ?_) <;> (rw [h]; ((conv => whnf); repeat (refine And.intro rfl ?_; (conv => whnf)))))
    | exact deep_eq (by unfold tmplChk; congr 2; (repeat' split) <;> first | rfl | ((try simp only [bne_iff_ne, ne_eq, bne_eq_false_iff_eq, beq_iff_eq, beq_eq_false_iff_ne, decide_eq_true_eq, decide_eq_false_iff_not, List.length_map, Bool.not_eq_true, Bool.not_eq_false, Bool.and_eq_true, Bool.or_eq_true, Bool.and_eq_false_iff, Bool.or_eq_false_iff, Bool.not_eq_true', Bool.not_eq_false', Bool.not_true, Bool.not_false, Bool.not_eq_eq_eq_not, not_true_eq_false, not_false_eq_true, reduceCtorEq, Bool.true_or, Bool.false_or, Bool.or_true, Bool.or_false, Bool.true_and, Bool.and_true, Bool.false_and, Bool.and_false, true_and, and_true, or_false, false_or, true_or, or_true, false_and, and_false, Bool.true_eq_false, Bool.false_eq_true] at *) <;> omega)))
def c225 : PC := .seq (.ops [⟨(some 2), .alloc [(.int .i64 0), (.int .i64 0), (.slice none 0 0)], none, 0⟩] false) (.seq (.ops [⟨(some 3), .move (.tmp 0), none, 0⟩,
    ⟨(some 4), .call 236 [(.tmp 3)], none, 0⟩,
    ⟨(some 5), .call 236 [(.const (.int .i64 63))], none, 0⟩,
    ⟨(some 6), .call 230 [(.tmp 5)], none, 0⟩,
    ⟨(some 7), .call 235 [(.tmp 4), (.tmp 6)], none, 0⟩,
    ⟨none, .store 3 (.tmp 2) (.tmp 7), none, 0⟩] false) (.ret))
set_option maxRecDepth 100000 in
theorem c225_ok : FunOK Try.prog 225 8 [.agg 2 3] c225 := ⟨⟨Try.f225, Try.func225, rfl, by kernel_rfl, rfl, by kernel_rfl⟩⟩
def c234 : PC := .seq (.ops [⟨(some 4), .alloc [(.int .i64 0), (.int .i64 0), (.slice none 0 0)], none, 0⟩] false) (.seq (.seq (.ops [⟨(some 5), .move (.tmp 1), none, 0⟩,
    ⟨(some 6), .bin .eql (.tmp 5) (.const (.int .i64 1)), none, 0⟩] false) (.cond (.tmp 6) (.seq (.ops [⟨(some 7), .move (.tmp 0), none, 0⟩,
    ⟨(some 8), .call 225 [(.tmp 7)], none, 0⟩,
    ⟨(some 9), .call 231 [(.tmp 8)], none, 0⟩,
    ⟨none, .store 3 (.tmp 4) (.tmp 9), none, 0⟩] false) (.ret)) (.skip))) (.seq (.ops [⟨(some 10), .move (.tmp 0), none, 0⟩,
    ⟨(some 11), .call 225 [(.tmp 10)], none, 0⟩,
    ⟨(some 12), .move (.tmp 0), none, 0⟩,
    ⟨(some 13), .move (.tmp 1), none, 0⟩,
    ⟨(some 14), .bin .sub (.tmp 13) (.const (.int .i64 1)), none, 0⟩,
    ⟨(some 15), .call 234 [(.tmp 12), (.tmp 14)], none, 0⟩,
    ⟨(some 16), .call 237 [(.const (.int .i64 7)), (.tmp 15)], none, 0⟩,
    ⟨(some 17), .call 235 [(.tmp 11), (.tmp 16)], none, 0⟩,
    ⟨(some 18), .call 231 [(.tmp 17)], none, 0⟩,
    ⟨none, .store 3 (.tmp 4) (.tmp 18), none, 0⟩] false) (.ret)))
set_option maxRecDepth 100000 in
theorem c234_ok : FunOK Try.prog 234 19 [.agg 4 3] c234 := ⟨⟨Try.f234, Try.func234, rfl, by kernel_rfl, rfl, by kernel_rfl⟩⟩
theorem dec_event (n : Int) : PCall Try.prog 225 [.sc (.int .i64 n)] (dtree (evT n)) := by
  refine pcall_intro c225_ok (by simp) (by simp [PureL, Pure]) ?_ (pure_dtree _)
  (apply red_sound; focus (repeat' (first | exact Red.skip | exact Red.ret | exact RedO.nil | exact RedD.nil | exact Red.exit _ | exact Red.loop _ | exact Red.stop _ | apply Red.ops | apply Red.draw | apply Red.seq | apply Red.cond | apply Red.block | apply RedO.cons | apply RedD.cons | exact (0 : Nat))))
  ((conv => whnf); repeat (refine And.intro rfl ?_; (conv => whnf)))
  (refine .inl ⟨_, (dec_atom n), ?_⟩; ((conv => whnf); repeat (refine And.intro rfl ?_; (conv => whnf))))
  (refine .inl ⟨_, (dec_atom 63), ?_⟩; ((conv => whnf); repeat (refine And.intro rfl ?_; (conv => whnf))))
  (refine .inl ⟨_, (dec_not (mk0 3 63)), ?_⟩; ((conv => whnf); repeat (refine And.intro rfl ?_; (conv => whnf))))
  (refine .inl ⟨_, (dec_and (mk0 3 n) (mk1 4 (mk0 3 63))), ?_⟩; ((conv => whnf); repeat (refine And.intro rfl ?_; (conv => whnf))))
  (repeat' (first | exact Deep.refl _ | exact Deep.none _ | exact deep_row _ | exact DeepL.nil | exact DeepLL.nil | refine Deep.agg _ _ ?_ | refine Deep.tup _ _ ?_ | refine Deep.own _ _ _ _ _ _ _ _ rfl ?_ | refine Deep.loc _ _ _ _ _ rfl ?_ | refine Deep.ifc _ _ _ ?_ | refine Deep.fn _ _ _ _ _ ?_ ?_ | refine DeepL.cons _ _ _ _ ?_ ?_ | refine DeepLL.cons _ _ _ _ ?_ ?_))
theorem dec_many (a : Int) : ∀ n : Nat, n ≤ 3 → PCall Try.prog 234 [.sc (.int .i64 a), .sc (.int .i64 (n + 1))] (dtree (manyT a n)) := by
  intro n
  induction n with
  | zero =>
    intro _
    refine pcall_intro c234_ok (by simp) (by simp [PureL, Pure]) ?_ (pure_dtree _)
    (apply red_sound; focus (repeat' (first | exact Red.skip | exact Red.ret | exact RedO.nil | exact RedD.nil | exact Red.exit _ | exact Red.loop _ | exact Red.stop _ | apply Red.ops | apply Red.draw | apply Red.seq | apply Red.cond | apply Red.block | apply RedO.cons | apply RedD.cons | exact (0 : Nat))))
    ((conv => whnf); repeat (refine And.intro rfl ?_; (conv => whnf)))
    (refine .inl ⟨_, (dec_event a), ?_⟩; ((conv => whnf); repeat (refine And.intro rfl ?_; (conv => whnf))))
    first | (refine .inl ⟨_, (dec_some (evT a)), ?_⟩; ((conv => whnf); repeat (refine And.intro rfl ?_; (conv => whnf)))) | (refine .inl ⟨_, (dec_one 10 (evT a)), ?_⟩; ((conv => whnf); repeat (refine And.intro rfl ?_; (conv => whnf))))
    (repeat' (first | exact Deep.refl _ | exact Deep.none _ | exact deep_row _ | exact DeepL.nil | exact DeepLL.nil | refine Deep.agg _ _ ?_ | refine Deep.tup _ _ ?_ | refine Deep.own _ _ _ _ _ _ _ _ rfl ?_ | refine Deep.loc _ _ _ _ _ rfl ?_ | refine Deep.ifc _ _ _ ?_ | refine Deep.fn _ _ _ _ _ ?_ ?_ | refine DeepL.cons _ _ _ _ ?_ ?_ | refine DeepLL.cons _ _ _ _ ?_ ?_))
  | succ n ih =>
    intro hn
    refine pcall_intro c234_ok (by simp) (by simp [PureL, Pure]) ?_ (pure_dtree _)
    (apply red_sound; focus (repeat' (first | exact Red.skip | exact Red.ret | exact RedO.nil | exact RedD.nil | exact Red.exit _ | exact Red.loop _ | exact Red.stop _ | apply Red.ops | apply Red.draw | apply Red.seq | apply Red.cond | apply Red.block | apply RedO.cons | apply RedD.cons | exact (0 : Nat))))
    ((conv => whnf); repeat (refine And.intro rfl ?_; (conv => whnf)))
    (refine .inl ⟨_, (dec_event a), ?_⟩; ((conv => whnf); repeat (refine And.intro rfl ?_; (conv => whnf))))
    refine .inl ⟨by unfold InR; rw [IntKind.wrap_i64]; omega, ?_⟩
    rw [show ((n + 1 : Nat) : Int) + 1 - 1 = (n : Int) + 1 by omega]
    ((conv => whnf); repeat (refine And.intro rfl ?_; (conv => whnf)))
    (refine .inl ⟨_, (ih (by omega)), ?_⟩; ((conv => whnf); repeat (refine And.intro rfl ?_; (conv => whnf))))
    (refine .inl ⟨_, (dec_one 7 (manyT a n)), ?_⟩; ((conv => whnf); repeat (refine And.intro rfl ?_; (conv => whnf))))
    (refine .inl ⟨_, (dec_and (evT a) (mk1 7 (manyT a n))), ?_⟩; ((conv => whnf); repeat (refine And.intro rfl ?_; (conv => whnf))))
    first | (refine .inl ⟨_, (dec_some (mk2 5 (evT a) (mk1 7 (manyT a n)))), ?_⟩; ((conv => whnf); repeat (refine And.intro rfl ?_; (conv => whnf)))) | (refine .inl ⟨_, (dec_one 10 (mk2 5 (evT a) (mk1 7 (manyT a n)))), ?_⟩; ((conv => whnf); repeat (refine And.intro rfl ?_; (conv => whnf))))
    (repeat' (first | exact Deep.refl _ | exact Deep.none _ | exact deep_row _ | exact DeepL.nil | exact DeepLL.nil | refine Deep.agg _ _ ?_ | refine Deep.tup _ _ ?_ | refine Deep.own _ _ _ _ _ _ _ _ rfl ?_ | refine Deep.loc _ _ _ _ _ rfl ?_ | refine Deep.ifc _ _ _ ?_ | refine Deep.fn _ _ _ _ _ ?_ ?_ | refine DeepL.cons _ _ _ _ ?_ ?_ | refine DeepLL.cons _ _ _ _ ?_ ?_))
def c247 : PC := .seq (.ops [⟨(some 2), .alloc [(.int .i64 0), (.int .i64 0), (.slice none 0 0)], none, 0⟩] false) (.seq (.ops [⟨(some 3), .move (.tmp 0), none, 0⟩,
    ⟨(some 4), .call 242 [(.tmp 3)], none, 0⟩,
    ⟨(some 5), .call 242 [(.const (.int .i64 63))], none, 0⟩,
    ⟨(some 6), .call 240 [(.tmp 5)], none, 0⟩,
    ⟨(some 7), .call 245 [(.tmp 4), (.tmp 6)], none, 0⟩,
    ⟨none, .store 3 (.tmp 2) (.tmp 7), none, 0⟩] false) (.ret))
set_option maxRecDepth 100000 in
theorem c247_ok : FunOK Try.prog 247 8 [.agg 2 3] c247 := ⟨⟨Try.f247, Try.func247, rfl, by kernel_rfl, rfl, by kernel_rfl⟩⟩
def c248 : PC := .seq (.ops [⟨(some 4), .alloc [(.int .i64 0), (.int .i64 0), (.slice none 0 0)], none, 0⟩] false) (.seq (.seq (.ops [⟨(some 5), .move (.tmp 1), none, 0⟩,
    ⟨(some 6), .bin .eql (.tmp 5) (.const (.int .i64 1)), none, 0⟩] false) (.cond (.tmp 6) (.seq (.ops [⟨(some 7), .move (.tmp 0), none, 0⟩,
    ⟨(some 8), .call 247 [(.tmp 7)], none, 0⟩,
    ⟨(some 9), .call 241 [(.const (.int .i64 10)), (.tmp 8)], none, 0⟩,
    ⟨none, .store 3 (.tmp 4) (.tmp 9), none, 0⟩] false) (.ret)) (.skip))) (.seq (.ops [⟨(some 10), .move (.tmp 0), none, 0⟩,
    ⟨(some 11), .call 247 [(.tmp 10)], none, 0⟩,
    ⟨(some 12), .move (.tmp 0), none, 0⟩,
    ⟨(some 13), .move (.tmp 1), none, 0⟩,
    ⟨(some 14), .bin .sub (.tmp 13) (.const (.int .i64 1)), none, 0⟩,
    ⟨(some 15), .call 248 [(.tmp 12), (.tmp 14)], none, 0⟩,
    ⟨(some 16), .call 241 [(.const (.int .i64 7)), (.tmp 15)], none, 0⟩,
    ⟨(some 17), .call 245 [(.tmp 11), (.tmp 16)], none, 0⟩,
    ⟨(some 18), .call 241 [(.const (.int .i64 10)), (.tmp 17)], none, 0⟩,
    ⟨none, .store 3 (.tmp 4) (.tmp 18), none, 0⟩] false) (.ret)))
set_option maxRecDepth 100000 in
theorem c248_ok : FunOK Try.prog 248 19 [.agg 4 3] c248 := ⟨⟨Try.f248, Try.func248, rfl, by kernel_rfl, rfl, by kernel_rfl⟩⟩
theorem ref_event (n : Int) : PCall Try.prog 247 [.sc (.int .i64 n)] (dtree (evT n)) := by
  refine pcall_intro c247_ok (by simp) (by simp [PureL, Pure]) ?_ (pure_dtree _)
  (apply red_sound; focus (repeat' (first | exact Red.skip | exact Red.ret | exact RedO.nil | exact RedD.nil | exact Red.exit _ | exact Red.loop _ | exact Red.stop _ | apply Red.ops | apply Red.draw | apply Red.seq | apply Red.cond | apply Red.block | apply RedO.cons | apply RedD.cons | exact (0 : Nat))))
  ((conv => whnf); repeat (refine And.intro rfl ?_; (conv => whnf)))
  (refine .inl ⟨_, (ref_atom n), ?_⟩; ((conv => whnf); repeat (refine And.intro rfl ?_; (conv => whnf))))
  (refine .inl ⟨_, (ref_atom 63), ?_⟩; ((conv => whnf); repeat (refine And.intro rfl ?_; (conv => whnf))))
  (refine .inl ⟨_, (ref_not (mk0 3 63)), ?_⟩; ((conv => whnf); repeat (refine And.intro rfl ?_; (conv => whnf))))
  (refine .inl ⟨_, (ref_and (mk0 3 n) (mk1 4 (mk0 3 63))), ?_⟩; ((conv => whnf); repeat (refine And.intro rfl ?_; (conv => whnf))))
  (repeat' (first | exact Deep.refl _ | exact Deep.none _ | exact deep_row _ | exact DeepL.nil | exact DeepLL.nil | refine Deep.agg _ _ ?_ | refine Deep.tup _ _ ?_ | refine Deep.own _ _ _ _ _ _ _ _ rfl ?_ | refine Deep.loc _ _ _ _ _ rfl ?_ | refine Deep.ifc _ _ _ ?_ | refine Deep.fn _ _ _ _ _ ?_ ?_ | refine DeepL.cons _ _ _ _ ?_ ?_ | refine DeepLL.cons _ _ _ _ ?_ ?_))
theorem ref_often (a : Int) : ∀ n : Nat, n ≤ 3 → PCall Try.prog 248 [.sc (.int .i64 a), .sc (.int .i64 (n + 1))] (dtree (manyT a n)) := by
  intro n
  induction n with
  | zero =>
    intro _
    refine pcall_intro c248_ok (by simp) (by simp [PureL, Pure]) ?_ (pure_dtree _)
    (apply red_sound; focus (repeat' (first | exact Red.skip | exact Red.ret | exact RedO.nil | exact RedD.nil | exact Red.exit _ | exact Red.loop _ | exact Red.stop _ | apply Red.ops | apply Red.draw | apply Red.seq | apply Red.cond | apply Red.block | apply RedO.cons | apply RedD.cons | exact (0 : Nat))))
    ((conv => whnf); repeat (refine And.intro rfl ?_; (conv => whnf)))
    (refine .inl ⟨_, (ref_event a), ?_⟩; ((conv => whnf); repeat (refine And.intro rfl ?_; (conv => whnf))))
    first | (refine .inl ⟨_, (ref_some (evT a)), ?_⟩; ((conv => whnf); repeat (refine And.intro rfl ?_; (conv => whnf)))) | (refine .inl ⟨_, (ref_one 10 (evT a)), ?_⟩; ((conv => whnf); repeat (refine And.intro rfl ?_; (conv => whnf))))
    (repeat' (first | exact Deep.refl _ | exact Deep.none _ | exact deep_row _ | exact DeepL.nil | exact DeepLL.nil | refine Deep.agg _ _ ?_ | refine Deep.tup _ _ ?_ | refine Deep.own _ _ _ _ _ _ _ _ rfl ?_ | refine Deep.loc _ _ _ _ _ rfl ?_ | refine Deep.ifc _ _ _ ?_ | refine Deep.fn _ _ _ _ _ ?_ ?_ | refine DeepL.cons _ _ _ _ ?_ ?_ | refine DeepLL.cons _ _ _ _ ?_ ?_))
  | succ n ih =>
    intro hn
    refine pcall_intro c248_ok (by simp) (by simp [PureL, Pure]) ?_ (pure_dtree _)
    (apply red_sound; focus (repeat' (first | exact Red.skip | exact Red.ret | exact RedO.nil | exact RedD.nil | exact Red.exit _ | exact Red.loop _ | exact Red.stop _ | apply Red.ops | apply Red.draw | apply Red.seq | apply Red.cond | apply Red.block | apply RedO.cons | apply RedD.cons | exact (0 : Nat))))
    ((conv => whnf); repeat (refine And.intro rfl ?_; (conv => whnf)))
    (refine .inl ⟨_, (ref_event a), ?_⟩; ((conv => whnf); repeat (refine And.intro rfl ?_; (conv => whnf))))
    refine .inl ⟨by unfold InR; rw [IntKind.wrap_i64]; omega, ?_⟩
    rw [show ((n + 1 : Nat) : Int) + 1 - 1 = (n : Int) + 1 by omega]
    ((conv => whnf); repeat (refine And.intro rfl ?_; (conv => whnf)))
    (refine .inl ⟨_, (ih (by omega)), ?_⟩; ((conv => whnf); repeat (refine And.intro rfl ?_; (conv => whnf))))
    (refine .inl ⟨_, (ref_one 7 (manyT a n)), ?_⟩; ((conv => whnf); repeat (refine And.intro rfl ?_; (conv => whnf))))
    (refine .inl ⟨_, (ref_and (evT a) (mk1 7 (manyT a n))), ?_⟩; ((conv => whnf); repeat (refine And.intro rfl ?_; (conv => whnf))))
    first | (refine .inl ⟨_, (ref_some (mk2 5 (evT a) (mk1 7 (manyT a n)))), ?_⟩; ((conv => whnf); repeat (refine And.intro rfl ?_; (conv => whnf)))) | (refine .inl ⟨_, (ref_one 10 (mk2 5 (evT a) (mk1 7 (manyT a n)))), ?_⟩; ((conv => whnf); repeat (refine And.intro rfl ?_; (conv => whnf))))
    (repeat' (first | exact Deep.refl _ | exact Deep.none _ | exact deep_row _ | exact DeepL.nil | exact DeepLL.nil | refine Deep.agg _ _ ?_ | refine Deep.tup _ _ ?_ | refine Deep.own _ _ _ _ _ _ _ _ rfl ?_ | refine Deep.loc _ _ _ _ _ rfl ?_ | refine Deep.ifc _ _ _ ?_ | refine Deep.fn _ _ _ _ _ ?_ ?_ | refine DeepL.cons _ _ _ _ ?_ ?_ | refine DeepLL.cons _ _ _ _ ?_ ?_))
def c224 : PC := .seq (.ops [⟨(some 1), .alloc [(.int .i64 0), (.int .i64 0), (.slice none 0 0)], none, 0⟩] false) (.seq (.ops [⟨(some 2), .faddr 1 (.tmp 0), none, 0⟩,
    ⟨(some 3), .load1 (.tmp 2), none, 0⟩,
    ⟨(some 4), .call 225 [(.tmp 3)], none, 0⟩,
    ⟨none, .store 3 (.tmp 1) (.tmp 4), none, 0⟩] false) (.ret))
set_option maxRecDepth 100000 in
theorem c224_ok : FunOK Try.prog 224 5 [.agg 1 3] c224 := ⟨⟨Try.f224, Try.func224, rfl, by kernel_rfl, rfl, by kernel_rfl⟩⟩
def c226 : PC := .seq (.ops [⟨(some 1), .alloc [(.int .i64 0), (.int .i64 0), (.slice none 0 0)], none, 0⟩] false) (.seq (.ops [⟨(some 2), .faddr 2 (.tmp 0), none, 0⟩,
    ⟨(some 3), .load1 (.tmp 2), none, 0⟩,
    ⟨(some 4), .call 225 [(.tmp 3)], none, 0⟩,
    ⟨none, .store 3 (.tmp 1) (.tmp 4), none, 0⟩] false) (.ret))
set_option maxRecDepth 100000 in
theorem c226_ok : FunOK Try.prog 226 5 [.agg 1 3] c226 := ⟨⟨Try.f226, Try.func226, rfl, by kernel_rfl, rfl, by kernel_rfl⟩⟩
def c227 : PC := .seq (.ops [⟨(some 2), .alloc [(.int .i64 0), (.int .i64 0), (.slice none 0 0)], none, 0⟩] false) (.seq (.ops [⟨(some 3), .load1 (.tmp 0), none, 0⟩,
    ⟨(some 4), .callv (.tmp 3) [], none, 1⟩,
    ⟨(some 5), .call 230 [(.tmp 4)], none, 3⟩,
    ⟨(some 6), .load1 (.tmp 1), none, 0⟩,
    ⟨(some 7), .callv (.tmp 6) [], none, 15⟩,
    ⟨(some 8), .call 231 [(.tmp 7)], none, 31⟩,
    ⟨(some 9), .call 229 [(.tmp 5), (.tmp 8)], none, 63⟩,
    ⟨(some 10), .call 228 [(.tmp 9)], none, 127⟩,
    ⟨none, .store 3 (.tmp 2) (.tmp 10), none, 255⟩] true) (.ret))
set_option maxRecDepth 100000 in
theorem c227_ok : FunOK Try.prog 227 11 [.agg 2 3] c227 := ⟨⟨Try.f227, Try.func227, rfl, by kernel_rfl, rfl, by kernel_rfl⟩⟩
def c232 : PC := .seq (.ops [⟨(some 2), .alloc [(.int .i64 0), (.int .i64 0), (.slice none 0 0)], none, 0⟩] false) (.seq (.ops [⟨(some 3), .load1 (.tmp 0), none, 0⟩,
    ⟨(some 4), .callv (.tmp 3) [], none, 1⟩,
    ⟨(some 5), .call 230 [(.tmp 4)], none, 3⟩,
    ⟨(some 6), .load1 (.tmp 1), none, 0⟩,
    ⟨(some 7), .callv (.tmp 6) [], none, 15⟩,
    ⟨(some 8), .call 233 [(.const (.int .i64 8)), (.tmp 5), (.tmp 7)], none, 31⟩,
    ⟨(some 9), .load1 (.tmp 0), none, 0⟩,
    ⟨(some 10), .callv (.tmp 9) [], none, 127⟩,
    ⟨(some 11), .call 230 [(.tmp 10)], none, 255⟩,
    ⟨(some 12), .call 228 [(.tmp 11)], none, 511⟩,
    ⟨(some 13), .call 229 [(.tmp 8), (.tmp 12)], none, 1023⟩,
    ⟨none, .store 3 (.tmp 2) (.tmp 13), none, 2047⟩] true) (.ret))
set_option maxRecDepth 100000 in
theorem c232_ok : FunOK Try.prog 232 14 [.agg 2 3] c232 := ⟨⟨Try.f232, Try.func232, rfl, by kernel_rfl, rfl, by kernel_rfl⟩⟩
def c180 : PC := .seq (.ops [⟨(some 1), .box (.tmp 0), none, 0⟩,
    ⟨(some 2), .alloc [(.int .i64 0), (.int .i64 0), (.slice none 0 0)], none, 0⟩] false) (.seq (.ops [⟨(some 7), .mkfn (.func 224) [] [(.tmp 1)], none, 0⟩,
    ⟨(some 3), .alloc [(.nilFunc)], none, 0⟩,
    ⟨none, .store 1 (.tmp 3) (.tmp 7), none, 0⟩] false) (.seq (.ops [⟨(some 8), .mkfn (.func 226) [] [(.tmp 1)], none, 0⟩,
    ⟨(some 4), .alloc [(.nilFunc)], none, 0⟩,
    ⟨none, .store 1 (.tmp 4) (.tmp 8), none, 0⟩] false) (.seq (.ops [⟨(some 9), .mkfn (.func 227) [] [(.tmp 3), (.tmp 4)], none, 0⟩,
    ⟨(some 5), .move (.tmp 9), none, 0⟩] false) (.seq (.ops [⟨(some 10), .mkfn (.func 232) [] [(.tmp 4), (.tmp 3)], none, 0⟩,
    ⟨(some 6), .move (.tmp 10), none, 0⟩] false) (.seq (.seq (.stop (.ops [⟨(some 11), .faddr 0 (.tmp 1), none, 0⟩,
    ⟨(some 12), .load1 (.tmp 11), none, 0⟩] false)) (.block 0 (.seq (.ops [⟨(some 14), .bin .eql (.tmp 12) (.const (.int .i64 1)), none, 0⟩,
    ⟨(some 13), .move (.tmp 14), none, 0⟩] false) (.cond (.tmp 13) (.seq (.ops [⟨(some 15), .faddr 1 (.tmp 1), none, 0⟩,
    ⟨(some 16), .load1 (.tmp 15), none, 0⟩,
    ⟨(some 17), .faddr 3 (.tmp 1), none, 0⟩,
    ⟨(some 18), .load1 (.tmp 17), none, 0⟩,
    ⟨(some 19), .call 234 [(.tmp 16), (.tmp 18)], none, 0⟩,
    ⟨none, .store 3 (.tmp 2) (.tmp 19), none, 0⟩] false) (.ret)) (.seq (.ops [⟨(some 21), .bin .eql (.tmp 12) (.const (.int .i64 2)), none, 0⟩,
    ⟨(some 20), .move (.tmp 21), none, 0⟩] false) (.cond (.tmp 20) (.seq (.ops [⟨(some 22), .faddr 1 (.tmp 1), none, 0⟩,
    ⟨(some 23), .load1 (.tmp 22), none, 0⟩,
    ⟨(some 24), .faddr 3 (.tmp 1), none, 0⟩,
    ⟨(some 25), .load1 (.tmp 24), none, 0⟩,
    ⟨(some 26), .call 234 [(.tmp 23), (.tmp 25)], none, 0⟩,
    ⟨(some 27), .call 230 [(.tmp 26)], none, 0⟩,
    ⟨none, .store 3 (.tmp 2) (.tmp 27), none, 0⟩] false) (.ret)) (.seq (.ops [⟨(some 29), .bin .eql (.tmp 12) (.const (.int .i64 3)), none, 0⟩,
    ⟨(some 28), .move (.tmp 29), none, 0⟩] false) (.cond (.tmp 28) (.seq (.ops [⟨(some 30), .faddr 1 (.tmp 1), none, 0⟩,
    ⟨(some 31), .load1 (.tmp 30), none, 1⟩,
    ⟨(some 32), .faddr 3 (.tmp 1), none, 0⟩,
    ⟨(some 33), .load1 (.tmp 32), none, 4⟩,
    ⟨(some 34), .call 234 [(.tmp 31), (.tmp 33)], none, 15⟩,
    ⟨(some 35), .faddr 1 (.tmp 1), none, 0⟩,
    ⟨(some 36), .load1 (.tmp 35), none, 32⟩,
    ⟨(some 37), .faddr 3 (.tmp 1), none, 0⟩,
    ⟨(some 38), .load1 (.tmp 37), none, 128⟩,
    ⟨(some 39), .bin .add (.tmp 38) (.const (.int .i64 1)), none, 384⟩,
    ⟨(some 40), .call 234 [(.tmp 36), (.tmp 39)], none, 1023⟩,
    ⟨(some 41), .call 230 [(.tmp 40)], none, 2047⟩,
    ⟨(some 42), .call 235 [(.tmp 34), (.tmp 41)], none, 4095⟩,
    ⟨none, .store 3 (.tmp 2) (.tmp 42), none, 8191⟩] true) (.ret)) (.seq (.ops [⟨(some 44), .bin .eql (.tmp 12) (.const (.int .i64 4)), none, 0⟩,
    ⟨(some 43), .move (.tmp 44), none, 0⟩] false) (.cond (.tmp 43) (.seq (.ops [⟨(some 45), .call 236 [(.const (.int .i64 63))], none, 0⟩,
    ⟨(some 46), .load1 (.tmp 3), none, 0⟩,
    ⟨(some 47), .callv (.tmp 46) [], none, 3⟩,
    ⟨(some 48), .call 233 [(.const (.int .i64 8)), (.tmp 45), (.tmp 47)], none, 7⟩,
    ⟨(some 49), .call 236 [(.const (.int .i64 63))], none, 15⟩,
    ⟨(some 50), .call 228 [(.tmp 49)], none, 31⟩,
    ⟨(some 51), .call 229 [(.tmp 48), (.tmp 50)], none, 63⟩,
    ⟨none, .store 3 (.tmp 2) (.tmp 51), none, 127⟩] true) (.ret)) (.seq (.ops [⟨(some 53), .bin .eql (.tmp 12) (.const (.int .i64 5)), none, 0⟩,
    ⟨(some 52), .move (.tmp 53), none, 0⟩] false) (.cond (.tmp 52) (.seq (.ops [⟨(some 54), .load1 (.tmp 3), none, 0⟩,
    ⟨(some 55), .callv (.tmp 54) [], none, 1⟩,
    ⟨(some 56), .call 231 [(.tmp 55)], none, 3⟩,
    ⟨(some 57), .load1 (.tmp 4), none, 0⟩,
    ⟨(some 58), .callv (.tmp 57) [], none, 15⟩,
    ⟨(some 59), .call 231 [(.tmp 58)], none, 31⟩,
    ⟨(some 60), .call 229 [(.tmp 56), (.tmp 59)], none, 63⟩,
    ⟨none, .store 3 (.tmp 2) (.tmp 60), none, 127⟩] true) (.ret)) (.seq (.ops [⟨(some 62), .bin .eql (.tmp 12) (.const (.int .i64 6)), none, 0⟩,
    ⟨(some 61), .move (.tmp 62), none, 0⟩] false) (.cond (.tmp 61) (.seq (.ops [⟨(some 63), .load1 (.tmp 3), none, 0⟩,
    ⟨(some 64), .callv (.tmp 63) [], none, 1⟩,
    ⟨(some 65), .call 231 [(.tmp 64)], none, 3⟩,
    ⟨(some 66), .call 230 [(.tmp 65)], none, 7⟩,
    ⟨(some 67), .load1 (.tmp 4), none, 0⟩,
    ⟨(some 68), .callv (.tmp 67) [], none, 31⟩,
    ⟨(some 69), .call 231 [(.tmp 68)], none, 63⟩,
    ⟨(some 70), .call 229 [(.tmp 66), (.tmp 69)], none, 127⟩,
    ⟨none, .store 3 (.tmp 2) (.tmp 70), none, 255⟩] true) (.ret)) (.seq (.ops [⟨(some 72), .bin .eql (.tmp 12) (.const (.int .i64 7)), none, 0⟩,
    ⟨(some 71), .move (.tmp 72), none, 0⟩] false) (.cond (.tmp 71) (.seq (.ops [⟨(some 73), .load1 (.tmp 3), none, 0⟩,
    ⟨(some 74), .callv (.tmp 73) [], none, 1⟩,
    ⟨(some 75), .call 231 [(.tmp 74)], none, 3⟩,
    ⟨(some 76), .call 230 [(.tmp 75)], none, 7⟩,
    ⟨(some 77), .load1 (.tmp 4), none, 0⟩,
    ⟨(some 78), .callv (.tmp 77) [], none, 31⟩,
    ⟨(some 79), .call 231 [(.tmp 78)], none, 63⟩,
    ⟨(some 80), .call 229 [(.tmp 76), (.tmp 79)], none, 127⟩,
    ⟨(some 81), .load1 (.tmp 4), none, 0⟩,
    ⟨(some 82), .callv (.tmp 81) [], none, 511⟩,
    ⟨(some 83), .call 231 [(.tmp 82)], none, 1023⟩,
    ⟨(some 84), .call 230 [(.tmp 83)], none, 2047⟩,
    ⟨(some 85), .load1 (.tmp 3), none, 0⟩,
    ⟨(some 86), .callv (.tmp 85) [], none, 8191⟩,
    ⟨(some 87), .call 231 [(.tmp 86)], none, 16383⟩,
    ⟨(some 88), .call 229 [(.tmp 84), (.tmp 87)], none, 32767⟩,
    ⟨(some 89), .call 235 [(.tmp 80), (.tmp 88)], none, 65535⟩,
    ⟨none, .store 3 (.tmp 2) (.tmp 89), none, 131071⟩] true) (.ret)) (.seq (.ops [⟨(some 91), .bin .eql (.tmp 12) (.const (.int .i64 13)), none, 0⟩,
    ⟨(some 90), .move (.tmp 91), none, 0⟩] false) (.cond (.tmp 90) (.seq (.ops [⟨(some 92), .load1 (.tmp 3), none, 0⟩,
    ⟨(some 93), .callv (.tmp 92) [], none, 1⟩,
    ⟨(some 94), .call 231 [(.tmp 93)], none, 3⟩,
    ⟨(some 95), .load1 (.tmp 4), none, 0⟩,
    ⟨(some 96), .callv (.tmp 95) [], none, 15⟩,
    ⟨(some 97), .call 231 [(.tmp 96)], none, 31⟩,
    ⟨(some 98), .call 235 [(.tmp 94), (.tmp 97)], none, 63⟩,
    ⟨(some 99), .call 230 [(.tmp 98)], none, 127⟩,
    ⟨none, .store 3 (.tmp 2) (.tmp 99), none, 255⟩] true) (.ret)) (.seq (.ops [⟨(some 101), .bin .eql (.tmp 12) (.const (.int .i64 8)), none, 0⟩,
    ⟨(some 100), .move (.tmp 101), none, 0⟩] false) (.cond (.tmp 100) (.seq (.ops [⟨(some 102), .move (.tmp 5), none, 0⟩,
    ⟨(some 103), .callv (.tmp 102) [], none, 0⟩,
    ⟨none, .store 3 (.tmp 2) (.tmp 103), none, 0⟩] false) (.ret)) (.seq (.ops [⟨(some 105), .bin .eql (.tmp 12) (.const (.int .i64 9)), none, 0⟩,
    ⟨(some 104), .move (.tmp 105), none, 0⟩] false) (.cond (.tmp 104) (.seq (.ops [⟨(some 106), .move (.tmp 6), none, 0⟩,
    ⟨(some 107), .callv (.tmp 106) [], none, 0⟩,
    ⟨none, .store 3 (.tmp 2) (.tmp 107), none, 0⟩] false) (.ret)) (.seq (.ops [⟨(some 109), .bin .eql (.tmp 12) (.const (.int .i64 10)), none, 0⟩,
    ⟨(some 108), .move (.tmp 109), none, 0⟩] false) (.cond (.tmp 108) (.seq (.ops [⟨(some 110), .move (.tmp 5), none, 0⟩,
    ⟨(some 111), .callv (.tmp 110) [], none, 0⟩,
    ⟨(some 112), .move (.tmp 6), none, 0⟩,
    ⟨(some 113), .callv (.tmp 112) [], none, 0⟩,
    ⟨(some 114), .call 235 [(.tmp 111), (.tmp 113)], none, 0⟩,
    ⟨none, .store 3 (.tmp 2) (.tmp 114), none, 0⟩] false) (.ret)) (.seq (.ops [⟨(some 116), .bin .eql (.tmp 12) (.const (.int .i64 11)), none, 0⟩,
    ⟨(some 115), .move (.tmp 116), none, 0⟩] false) (.cond (.tmp 115) (.seq (.ops [⟨(some 117), .load1 (.tmp 3), none, 0⟩,
    ⟨(some 118), .callv (.tmp 117) [], none, 1⟩,
    ⟨(some 119), .call 230 [(.tmp 118)], none, 3⟩,
    ⟨(some 120), .load1 (.tmp 3), none, 0⟩,
    ⟨(some 121), .callv (.tmp 120) [], none, 15⟩,
    ⟨(some 122), .call 230 [(.tmp 121)], none, 31⟩,
    ⟨(some 123), .load1 (.tmp 4), none, 0⟩,
    ⟨(some 124), .callv (.tmp 123) [], none, 127⟩,
    ⟨(some 125), .call 233 [(.const (.int .i64 8)), (.tmp 122), (.tmp 124)], none, 255⟩,
    ⟨(some 126), .call 237 [(.const (.int .i64 7)), (.tmp 125)], none, 511⟩,
    ⟨(some 127), .call 229 [(.tmp 119), (.tmp 126)], none, 1023⟩,
    ⟨(some 128), .call 228 [(.tmp 127)], none, 2047⟩,
    ⟨none, .store 3 (.tmp 2) (.tmp 128), none, 4095⟩] true) (.ret)) (.seq (.ops [⟨(some 130), .bin .eql (.tmp 12) (.const (.int .i64 12)), none, 0⟩,
    ⟨(some 129), .move (.tmp 130), none, 0⟩] false) (.cond (.tmp 129) (.seq (.ops [⟨(some 131), .load1 (.tmp 3), none, 0⟩,
    ⟨(some 132), .callv (.tmp 131) [], none, 1⟩,
    ⟨(some 133), .call 230 [(.tmp 132)], none, 3⟩,
    ⟨(some 134), .call 236 [(.const (.int .i64 63))], none, 7⟩,
    ⟨(some 135), .load1 (.tmp 4), none, 0⟩,
    ⟨(some 136), .callv (.tmp 135) [], none, 31⟩,
    ⟨(some 137), .call 233 [(.const (.int .i64 8)), (.tmp 134), (.tmp 136)], none, 63⟩,
    ⟨(some 138), .call 237 [(.const (.int .i64 7)), (.tmp 137)], none, 127⟩,
    ⟨(some 139), .call 229 [(.tmp 133), (.tmp 138)], none, 255⟩,
    ⟨(some 140), .call 228 [(.tmp 139)], none, 511⟩,
    ⟨none, .store 3 (.tmp 2) (.tmp 140), none, 1023⟩] true) (.ret)) (.skip))))))))))))))))))))))))))))) (.seq (.ops [⟨(some 141), .load1 (.tmp 3), none, 0⟩,
    ⟨(some 142), .callv (.tmp 141) [], none, 1⟩,
    ⟨(some 143), .call 230 [(.tmp 142)], none, 3⟩,
    ⟨(some 144), .load1 (.tmp 4), none, 0⟩,
    ⟨(some 145), .callv (.tmp 144) [], none, 15⟩,
    ⟨(some 146), .call 231 [(.tmp 145)], none, 31⟩,
    ⟨(some 147), .call 237 [(.const (.int .i64 7)), (.tmp 146)], none, 63⟩,
    ⟨(some 148), .call 230 [(.tmp 147)], none, 127⟩,
    ⟨(some 149), .call 229 [(.tmp 143), (.tmp 148)], none, 255⟩,
    ⟨(some 150), .call 228 [(.tmp 149)], none, 511⟩,
    ⟨none, .store 3 (.tmp 2) (.tmp 150), none, 1023⟩] true) (.ret)))))))
set_option maxRecDepth 100000 in
theorem c180_ok : FunOK Try.prog 180 151 [.agg 2 3] c180 := ⟨⟨Try.f180, Try.func180, rfl, by kernel_rfl, rfl, by kernel_rfl⟩⟩
def dtcells (k a b c : Int) : List D := [.sc (.int .i64 k), .sc (.int .i64 a), .sc (.int .i64 b), .sc (.int .i64 c)]
theorem dec_A (k a b c : Int) : PCall Try.prog 224 [.ipt (dtcells k a b c)] (dtree (evT a)) := by
  refine pcall_intro c224_ok (by simp) (by simp [PureL, Pure, dtcells]) ?_ (pure_dtree _)
  (apply red_sound; focus (repeat' (first | exact Red.skip | exact Red.ret | exact RedO.nil | exact RedD.nil | exact Red.exit _ | exact Red.loop _ | exact Red.stop _ | apply Red.ops | apply Red.draw | apply Red.seq | apply Red.cond | apply Red.block | apply RedO.cons | apply RedD.cons | exact (0 : Nat))))
  ((conv => whnf); repeat (refine And.intro rfl ?_; (conv => whnf)))
  (refine .inl ⟨_, (dec_event a), ?_⟩; ((conv => whnf); repeat (refine And.intro rfl ?_; (conv => whnf))))
  (repeat' (first | exact Deep.refl _ | exact Deep.none _ | exact deep_row _ | exact DeepL.nil | exact DeepLL.nil | refine Deep.agg _ _ ?_ | refine Deep.tup _ _ ?_ | refine Deep.own _ _ _ _ _ _ _ _ rfl ?_ | refine Deep.loc _ _ _ _ _ rfl ?_ | refine Deep.ifc _ _ _ ?_ | refine Deep.fn _ _ _ _ _ ?_ ?_ | refine DeepL.cons _ _ _ _ ?_ ?_ | refine DeepLL.cons _ _ _ _ ?_ ?_))
theorem dec_B (k a b c : Int) : PCall Try.prog 226 [.ipt (dtcells k a b c)] (dtree (evT b)) := by
  refine pcall_intro c226_ok (by simp) (by simp [PureL, Pure, dtcells]) ?_ (pure_dtree _)
  (apply red_sound; focus (repeat' (first | exact Red.skip | exact Red.ret | exact RedO.nil | exact RedD.nil | exact Red.exit _ | exact Red.loop _ | exact Red.stop _ | apply Red.ops | apply Red.draw | apply Red.seq | apply Red.cond | apply Red.block | apply RedO.cons | apply RedD.cons | exact (0 : Nat))))
  ((conv => whnf); repeat (refine And.intro rfl ?_; (conv => whnf)))
  (refine .inl ⟨_, (dec_event b), ?_⟩; ((conv => whnf); repeat (refine And.intro rfl ?_; (conv => whnf))))
  (repeat' (first | exact Deep.refl _ | exact Deep.none _ | exact deep_row _ | exact DeepL.nil | exact DeepLL.nil | refine Deep.agg _ _ ?_ | refine Deep.tup _ _ ?_ | refine Deep.own _ _ _ _ _ _ _ _ rfl ?_ | refine Deep.loc _ _ _ _ _ rfl ?_ | refine Deep.ifc _ _ _ ?_ | refine Deep.fn _ _ _ _ _ ?_ ?_ | refine DeepL.cons _ _ _ _ ?_ ?_ | refine DeepLL.cons _ _ _ _ ?_ ?_))
def fnA (k a b c : Int) : D := .fn (.func 224) [] [.ipt (dtcells k a b c)]
def fnB (k a b c : Int) : D := .fn (.func 226) [] [.ipt (dtcells k a b c)]
theorem dec_resp (k a b c : Int) : PCall Try.prog 227 [.ipt [fnA k a b c], .ipt [fnB k a b c]] (dtree (respT a b)) := by
  refine pcall_intro c227_ok (by simp) (by simp [PureL, Pure, dtcells, fnA, fnB]) ?_ (pure_dtree _)
  (apply red_sound; focus (repeat' (first | exact Red.skip | exact Red.ret | exact RedO.nil | exact RedD.nil | exact Red.exit _ | exact Red.loop _ | exact Red.stop _ | apply Red.ops | apply Red.draw | apply Red.seq | apply Red.cond | apply Red.block | apply RedO.cons | apply RedD.cons | exact (0 : Nat))))
  ((conv => whnf); repeat (refine And.intro rfl ?_; (conv => whnf)))
  (refine .inl ⟨_, (dec_A k a b c), ?_⟩; ((conv => whnf); repeat (refine And.intro rfl ?_; (conv => whnf))))
  (refine .inl ⟨_, (dec_not (evT a)), ?_⟩; ((conv => whnf); repeat (refine And.intro rfl ?_; (conv => whnf))))
  (refine .inl ⟨_, (dec_B k a b c), ?_⟩; ((conv => whnf); repeat (refine And.intro rfl ?_; (conv => whnf))))
  (refine .inl ⟨_, (dec_some (evT b)), ?_⟩; ((conv => whnf); repeat (refine And.intro rfl ?_; (conv => whnf))))
  (refine .inl ⟨_, (dec_or _ _), ?_⟩; ((conv => whnf); repeat (refine And.intro rfl ?_; (conv => whnf))))
  (refine .inl ⟨_, (dec_always _), ?_⟩; ((conv => whnf); repeat (refine And.intro rfl ?_; (conv => whnf))))
  (repeat' (first | exact Deep.refl _ | exact Deep.none _ | exact deep_row _ | exact DeepL.nil | exact DeepLL.nil | refine Deep.agg _ _ ?_ | refine Deep.tup _ _ ?_ | refine Deep.own _ _ _ _ _ _ _ _ rfl ?_ | refine Deep.loc _ _ _ _ _ rfl ?_ | refine Deep.ifc _ _ _ ?_ | refine Deep.fn _ _ _ _ _ ?_ ?_ | refine DeepL.cons _ _ _ _ ?_ ?_ | refine DeepLL.cons _ _ _ _ ?_ ?_))
theorem dec_prec (k a b c : Int) : PCall Try.prog 232 [.ipt [fnB k a b c], .ipt [fnA k a b c]] (dtree (precT a b)) := by
  refine pcall_intro c232_ok (by simp) (by simp [PureL, Pure, dtcells, fnA, fnB]) ?_ (pure_dtree _)
  (apply red_sound; focus (repeat' (first | exact Red.skip | exact Red.ret | exact RedO.nil | exact RedD.nil | exact Red.exit _ | exact Red.loop _ | exact Red.stop _ | apply Red.ops | apply Red.draw | apply Red.seq | apply Red.cond | apply Red.block | apply RedO.cons | apply RedD.cons | exact (0 : Nat))))
  ((conv => whnf); repeat (refine And.intro rfl ?_; (conv => whnf)))
  repeat' (first
    | (refine .inl ⟨_, (dec_A k a b c), ?_⟩; ((conv => whnf); repeat (refine And.intro rfl ?_; (conv => whnf))))
    | (refine .inl ⟨_, (dec_B k a b c), ?_⟩; ((conv => whnf); repeat (refine And.intro rfl ?_; (conv => whnf))))
    | (refine .inl ⟨_, (dec_not _), ?_⟩; ((conv => whnf); repeat (refine And.intro rfl ?_; (conv => whnf))))
    | (refine .inl ⟨_, (dec_always _), ?_⟩; ((conv => whnf); repeat (refine And.intro rfl ?_; (conv => whnf))))
    | (refine .inl ⟨_, (dec_or _ _), ?_⟩; ((conv => whnf); repeat (refine And.intro rfl ?_; (conv => whnf))))
    | (refine .inl ⟨_, (dec_two 8 _ _), ?_⟩; ((conv => whnf); repeat (refine And.intro rfl ?_; (conv => whnf))))
    | exact deep_as rfl (.refl _))
theorem dec_form (k a b c : Int) (h : tmplChk k a b c = 0) : PCall Try.prog 180 [dtempl k a b c] (dtree (formT k a b c)) := by
  have hc : (k = 1 ∨ k = 2 ∨ k = 3) → 1 ≤ c ∧ c ≤ 3 := fun hk => by
    unfold tmplChk at h
    split at h
    · omega
    · split at h
      · omega
      · omega
  have m1 : (k = 1 ∨ k = 2 ∨ k = 3) → PCall Try.prog 234 [.sc (.int .i64 a), .sc (.int .i64 c)] (dtree (manyT a (c - 1).toNat)) := fun hk => by
    have := dec_many a (c - 1).toNat (by have := hc hk; omega)
    rwa [show (((c - 1).toNat : Int)) + 1 = c by have := hc hk; omega] at this
  have m2 : (k = 1 ∨ k = 2 ∨ k = 3) → PCall Try.prog 234 [.sc (.int .i64 a), .sc (.int .i64 (c + 1))] (dtree (manyT a c.toNat)) := fun hk => by
    have := dec_many a c.toNat (by have := hc hk; omega)
    rwa [show ((c.toNat : Int)) + 1 = c + 1 by have := hc hk; omega] at this
  refine pcall_intro c180_ok (by simp) (by simp [PureL, pure_dtempl]) ?_ (pure_dtree _)
  (apply red_sound; focus (repeat' (first | exact Red.skip | exact Red.ret | exact RedO.nil | exact RedD.nil | exact Red.exit _ | exact Red.loop _ | exact Red.stop _ | apply Red.ops | apply Red.draw | apply Red.seq | apply Red.cond | apply Red.block | apply RedO.cons | apply RedD.cons | exact (0 : Nat))))
  ((conv => whnf); repeat (refine And.intro rfl ?_; (conv => whnf)))
  refine pwp_ghostB (leB_freeze (fun i => !(Nat.beq i 1)) (env' := [(1, .ipt (dtcells k a b c)), (2, .loc 1 0), (3, .ipt [fnA k a b c]), (4, .ipt [fnB k a b c]), (5, .fn (.func 227) [] [.ipt [fnA k a b c], .ipt [fnB k a b c]]), (6, .fn (.func 232) [] [.ipt [fnB k a b c], .ipt [fnA k a b c]])])
    (H' := [.row false (dtcells k a b c), .row true [.sc (.int .i64 0), .sc (.int .i64 0), .sc (.slice none 0 0)], .row false [fnA k a b c], .row false [fnB k a b c]]) ?_ ?_) ?_
  · (repeat' (first | exact trivial | refine And.intro ?_ ?_ | exact Or.inl rfl | exact Or.inr ⟨rfl, rfl⟩ | exact fun _ => rfl | exact (fun h => by cases h) | refine DeepM.loc _ _ _ _ _ rfl rfl ?_ | refine DeepM.own _ _ _ _ _ _ _ _ rfl rfl ?_ | refine DeepM.fn _ _ _ _ _ ?_ ?_ | refine DeepM.agg _ _ ?_ | refine DeepM.tup _ _ ?_ | refine DeepM.ifc _ _ _ ?_ | exact DeepM.refl _ | refine DeepML.cons _ _ _ _ ?_ ?_ | exact DeepML.refl _ | refine DeepMLL.cons _ _ _ _ ?_ ?_ | exact DeepMLL.refl _ | exact rfl))
  · (repeat' (first | exact trivial | refine And.intro ?_ ?_ | exact Or.inl rfl | exact Or.inr ⟨rfl, rfl⟩ | exact fun _ => rfl | exact (fun h => by cases h) | refine DeepM.loc _ _ _ _ _ rfl rfl ?_ | refine DeepM.own _ _ _ _ _ _ _ _ rfl rfl ?_ | refine DeepM.fn _ _ _ _ _ ?_ ?_ | refine DeepM.agg _ _ ?_ | refine DeepM.tup _ _ ?_ | refine DeepM.ifc _ _ _ ?_ | exact DeepM.refl _ | refine DeepML.cons _ _ _ _ ?_ ?_ | exact DeepML.refl _ | refine DeepMLL.cons _ _ _ _ ?_ ?_ | exact DeepMLL.refl _ | exact rfl))
  (apply red_sound; focus (repeat' (first | exact Red.skip | exact Red.ret | exact RedO.nil | exact RedD.nil | exact Red.exit _ | exact Red.loop _ | exact Red.stop _ | apply Red.ops | apply Red.draw | apply Red.seq | apply Red.cond | apply Red.block | apply RedO.cons | apply RedD.cons | exact (0 : Nat))))
  ((conv => whnf); repeat (refine And.intro rfl ?_; (conv => whnf)))
  repeat' (first
    | (refine ifK_split (fun h => ?_) (fun h => ?_) <;> (rw [h]; ((conv => whnf); repeat (refine And.intro rfl ?_; (conv => whnf)))))
    | (refine .inl ⟨_, (m1 (by ((try simp only [bne_iff_ne, ne_eq, bne_eq_false_iff_eq, beq_iff_eq, beq_eq_false_iff_ne, decide_eq_true_eq, decide_eq_false_iff_not, List.length_map, Bool.not_eq_true, Bool.not_eq_false, Bool.and_eq_true, Bool.or_eq_true, Bool.and_eq_false_iff, Bool.or_eq_false_iff, Bool.not_eq_true', Bool.not_eq_false', Bool.not_true, Bool.not_false, Bool.not_eq_eq_eq_not, not_true_eq_false, not_false_eq_true, reduceCtorEq, Bool.true_or, Bool.false_or, Bool.or_true, Bool.or_false, Bool.true_and, Bool.and_true, Bool.false_and, Bool.and_false, true_and, and_true, or_false, false_or, true_or, or_true, false_and, and_false, Bool.true_eq_false, Bool.false_eq_true] at *) <;> omega))), ?_⟩; ((conv => whnf); repeat (refine And.intro rfl ?_; (conv => whnf))))
    | (refine .inl ⟨_, (m2 (by ((try simp only [bne_iff_ne, ne_eq, bne_eq_false_iff_eq, beq_iff_eq, beq_eq_false_iff_ne, decide_eq_true_eq, decide_eq_false_iff_not, List.length_map, Bool.not_eq_true, Bool.not_eq_false, Bool.and_eq_true, Bool.or_eq_true, Bool.and_eq_false_iff, Bool.or_eq_false_iff, Bool.not_eq_true', Bool.not_eq_false', Bool.not_true, Bool.not_false, Bool.not_eq_eq_eq_not, not_true_eq_false, not_false_eq_true, reduceCtorEq, Bool.true_or, Bool.false_or, Bool.or_true, Bool.or_false, Bool.true_and, Bool.and_true, Bool.false_and, Bool.and_false, true_and, and_true, or_false, false_or, true_or, or_true, false_and, and_false, Bool.true_eq_false, Bool.false_eq_true] at *) <;> omega))), ?_⟩; ((conv => whnf); repeat (refine And.intro rfl ?_; (conv => whnf))))
    | (refine .inl ⟨_, (dec_A k a b c), ?_⟩; ((conv => whnf); repeat (refine And.intro rfl ?_; (conv => whnf))))
    | (refine .inl ⟨_, (dec_B k a b c), ?_⟩; ((conv => whnf); repeat (refine And.intro rfl ?_; (conv => whnf))))
    | (refine .inl ⟨_, (dec_resp k a b c), ?_⟩; ((conv => whnf); repeat (refine And.intro rfl ?_; (conv => whnf))))
    | (refine .inl ⟨_, (dec_prec k a b c), ?_⟩; ((conv => whnf); repeat (refine And.intro rfl ?_; (conv => whnf))))
    | (refine .inl ⟨_, (dec_not _), ?_⟩; ((conv => whnf); repeat (refine And.intro rfl ?_; (conv => whnf))))
    | (refine .inl ⟨_, (dec_some _), ?_⟩; ((conv => whnf); repeat (refine And.intro rfl ?_; (conv => whnf))))
    | (refine .inl ⟨_, (dec_always _), ?_⟩; ((conv => whnf); repeat (refine And.intro rfl ?_; (conv => whnf))))
    | (refine .inl ⟨_, (dec_atom _), ?_⟩; ((conv => whnf); repeat (refine And.intro rfl ?_; (conv => whnf))))
    | (refine .inl ⟨_, (dec_or _ _), ?_⟩; ((conv => whnf); repeat (refine And.intro rfl ?_; (conv => whnf))))
    | (refine .inl ⟨_, (dec_and _ _), ?_⟩; ((conv => whnf); repeat (refine And.intro rfl ?_; (conv => whnf))))
    | (refine .inl ⟨_, (dec_two 8 _ _), ?_⟩; ((conv => whnf); repeat (refine And.intro rfl ?_; (conv => whnf))))
    | (refine .inl ⟨_, (dec_one 7 _), ?_⟩; ((conv => whnf); repeat (refine And.intro rfl ?_; (conv => whnf))))
    | (refine .inl ⟨by unfold InR; rw [IntKind.wrap_i64]; have := hc (by ((try simp only [bne_iff_ne, ne_eq, bne_eq_false_iff_eq, beq_iff_eq, beq_eq_false_iff_ne, decide_eq_true_eq, decide_eq_false_iff_not, List.length_map, Bool.not_eq_true, Bool.not_eq_false, Bool.and_eq_true, Bool.or_eq_true, Bool.and_eq_false_iff, Bool.or_eq_false_iff, Bool.not_eq_true', Bool.not_eq_false', Bool.not_true, Bool.not_false, Bool.not_eq_eq_eq_not, not_true_eq_false, not_false_eq_true, reduceCtorEq, Bool.true_or, Bool.false_or, Bool.or_true, Bool.or_false, Bool.true_and, Bool.and_true, Bool.false_and, Bool.and_false, true_and, and_true, or_false, false_or, true_or, or_true, false_and, and_false, Bool.true_eq_false, Bool.false_eq_true] at *) <;> omega)); omega, ?_⟩; ((conv => whnf); repeat (refine And.intro rfl ?_; (conv => whnf))))
    | exact deep_as (by simp_all [formT]) (.refl _))
def c115 : PC := .seq (.ops [⟨(some 1), .box (.tmp 0), none, 0⟩,
    ⟨(some 2), .alloc [(.int .i64 0), (.int .i64 0), (.slice none 0 0)], none, 0⟩,
    ⟨(some 3), .move (.const (.int .i64 0)), none, 0⟩] false) (.seq (.seq (.ops [⟨(some 7), .loadA 4 (.tmp 1), none, 0⟩,
    ⟨(some 8), .call 97 [(.tmp 7)], none, 0⟩,
    ⟨(some 4), .move (.tmp 8), none, 0⟩] false) (.seq (.ops [⟨(some 9), .move (.tmp 4), none, 0⟩,
    ⟨(some 10), .bin .neq (.tmp 9) (.const (.int .i64 0)), none, 0⟩] false) (.cond (.tmp 10) (.seq (.ops [⟨(some 11), .build [(.int .i64 0), (.int .i64 0), (.slice none 0 0)] [], none, 0⟩,
    ⟨(some 12), .move (.tmp 4), none, 0⟩,
    ⟨none, .store 3 (.tmp 2) (.tmp 11), none, 0⟩,
    ⟨(some 3), .move (.tmp 12), none, 0⟩] false) (.ret)) (.skip)))) (.seq (.ops [⟨(some 13), .loadA 4 (.tmp 1), none, 0⟩,
    ⟨(some 14), .call 180 [(.tmp 13)], none, 0⟩,
    ⟨(some 5), .alloc [(.int .i64 0), (.int .i64 0), (.slice none 0 0)], none, 0⟩,
    ⟨none, .store 3 (.tmp 5) (.tmp 14), none, 0⟩] false) (.seq (.seq (.ops [⟨(some 15), .loadA 3 (.tmp 5), none, 0⟩,
    ⟨(some 16), .call 116 [(.tmp 15)], none, 0⟩,
    ⟨(some 6), .move (.tmp 16), none, 0⟩] false) (.seq (.ops [⟨(some 17), .move (.tmp 6), none, 0⟩,
    ⟨(some 18), .bin .neq (.tmp 17) (.const (.int .i64 0)), none, 0⟩] false) (.cond (.tmp 18) (.seq (.ops [⟨(some 19), .build [(.int .i64 0), (.int .i64 0), (.slice none 0 0)] [], none, 0⟩,
    ⟨(some 20), .move (.tmp 6), none, 0⟩,
    ⟨none, .store 3 (.tmp 2) (.tmp 19), none, 0⟩,
    ⟨(some 3), .move (.tmp 20), none, 0⟩] false) (.ret)) (.skip)))) (.seq (.ops [⟨(some 21), .loadA 3 (.tmp 5), none, 0⟩,
    ⟨none, .store 3 (.tmp 2) (.tmp 21), none, 0⟩,
    ⟨(some 3), .move (.const (.int .i64 0)), none, 0⟩] false) (.ret)))))
set_option maxRecDepth 100000 in
theorem c115_ok : FunOK Try.prog 115 22 [.agg 2 3, .tmp 3] c115 := ⟨⟨Try.f115, Try.func115, rfl, by kernel_rfl, rfl, by kernel_rfl⟩⟩
theorem small_evT (n : Int) : Small (evT n) := small_mk2 (small_mk0 _ _) (small_mk1 (small_mk0 _ _))
theorem small_manyT (a : Int) : ∀ n, Small (manyT a n)
  | 0 => small_mk1 (small_evT a)
  | n + 1 => small_mk1 (small_mk2 (small_evT a) (small_mk1 (small_manyT a n)))
theorem small_formT (k a b c : Int) : Small (formT k a b c) := by
  unfold formT respT precT
  repeat' (first | exact small_evT _ | exact small_manyT _ _ | exact small_mk0 _ _ | apply small_mk1 | apply small_mk2 | refine small_ite _ ?_ ?_)
def c183 : PC := .seq (.ops [⟨(some 1), .box (.tmp 0), none, 0⟩,
    ⟨(some 2), .alloc [(.int .i64 0), (.int .i64 0), (.slice none 0 0)], none, 0⟩] false) (.seq (.ops [⟨(some 9), .faddr 1 (.tmp 1), none, 0⟩,
    ⟨(some 10), .load1 (.tmp 9), none, 1⟩,
    ⟨(some 11), .call 247 [(.tmp 10)], none, 3⟩,
    ⟨(some 12), .faddr 2 (.tmp 1), none, 0⟩,
    ⟨(some 13), .load1 (.tmp 12), none, 8⟩,
    ⟨(some 14), .call 247 [(.tmp 13)], none, 31⟩,
    ⟨(some 3), .alloc [(.int .i64 0), (.int .i64 0), (.slice none 0 0)], none, 0⟩,
    ⟨(some 4), .alloc [(.int .i64 0), (.int .i64 0), (.slice none 0 0)], none, 0⟩,
    ⟨none, .store 3 (.tmp 3) (.tmp 11), none, 255⟩,
    ⟨none, .store 3 (.tmp 4) (.tmp 14), none, 511⟩] true) (.seq (.ops [⟨(some 15), .loadA 3 (.tmp 3), none, 0⟩,
    ⟨(some 16), .call 241 [(.const (.int .i64 10)), (.tmp 15)], none, 1⟩,
    ⟨(some 17), .loadA 3 (.tmp 4), none, 0⟩,
    ⟨(some 18), .call 241 [(.const (.int .i64 10)), (.tmp 17)], none, 7⟩,
    ⟨(some 5), .alloc [(.int .i64 0), (.int .i64 0), (.slice none 0 0)], none, 0⟩,
    ⟨(some 6), .alloc [(.int .i64 0), (.int .i64 0), (.slice none 0 0)], none, 0⟩,
    ⟨none, .store 3 (.tmp 5) (.tmp 16), none, 63⟩,
    ⟨none, .store 3 (.tmp 6) (.tmp 18), none, 127⟩] true) (.seq (.ops [⟨(some 19), .loadA 3 (.tmp 3), none, 0⟩,
    ⟨(some 20), .call 240 [(.tmp 19)], none, 1⟩,
    ⟨(some 21), .loadA 3 (.tmp 6), none, 0⟩,
    ⟨(some 22), .call 239 [(.tmp 20), (.tmp 21)], none, 7⟩,
    ⟨(some 23), .call 241 [(.const (.int .i64 11)), (.tmp 22)], none, 15⟩,
    ⟨(some 7), .alloc [(.int .i64 0), (.int .i64 0), (.slice none 0 0)], none, 0⟩,
    ⟨none, .store 3 (.tmp 7) (.tmp 23), none, 63⟩] true) (.seq (.ops [⟨(some 24), .loadA 3 (.tmp 4), none, 0⟩,
    ⟨(some 25), .call 240 [(.tmp 24)], none, 1⟩,
    ⟨(some 26), .loadA 3 (.tmp 3), none, 0⟩,
    ⟨(some 27), .call 244 [(.const (.int .i64 8)), (.tmp 25), (.tmp 26)], none, 7⟩,
    ⟨(some 28), .loadA 3 (.tmp 4), none, 0⟩,
    ⟨(some 29), .call 240 [(.tmp 28)], none, 31⟩,
    ⟨(some 30), .call 241 [(.const (.int .i64 11)), (.tmp 29)], none, 63⟩,
    ⟨(some 31), .call 239 [(.tmp 27), (.tmp 30)], none, 127⟩,
    ⟨(some 8), .alloc [(.int .i64 0), (.int .i64 0), (.slice none 0 0)], none, 0⟩,
    ⟨none, .store 3 (.tmp 8) (.tmp 31), none, 511⟩] true) (.seq (.seq (.ops [⟨(some 32), .faddr 0 (.tmp 1), none, 0⟩,
    ⟨(some 33), .load1 (.tmp 32), none, 0⟩] false) (.block 0 (.seq (.ops [⟨(some 35), .bin .eql (.tmp 33) (.const (.int .i64 1)), none, 0⟩,
    ⟨(some 34), .move (.tmp 35), none, 0⟩] false) (.cond (.tmp 34) (.seq (.ops [⟨(some 36), .faddr 1 (.tmp 1), none, 0⟩,
    ⟨(some 37), .load1 (.tmp 36), none, 0⟩,
    ⟨(some 38), .faddr 3 (.tmp 1), none, 0⟩,
    ⟨(some 39), .load1 (.tmp 38), none, 0⟩,
    ⟨(some 40), .call 248 [(.tmp 37), (.tmp 39)], none, 0⟩,
    ⟨none, .store 3 (.tmp 2) (.tmp 40), none, 0⟩] false) (.ret)) (.seq (.ops [⟨(some 42), .bin .eql (.tmp 33) (.const (.int .i64 2)), none, 0⟩,
    ⟨(some 41), .move (.tmp 42), none, 0⟩] false) (.cond (.tmp 41) (.seq (.ops [⟨(some 43), .faddr 1 (.tmp 1), none, 0⟩,
    ⟨(some 44), .load1 (.tmp 43), none, 0⟩,
    ⟨(some 45), .faddr 3 (.tmp 1), none, 0⟩,
    ⟨(some 46), .load1 (.tmp 45), none, 0⟩,
    ⟨(some 47), .call 248 [(.tmp 44), (.tmp 46)], none, 0⟩,
    ⟨(some 48), .call 240 [(.tmp 47)], none, 0⟩,
    ⟨none, .store 3 (.tmp 2) (.tmp 48), none, 0⟩] false) (.ret)) (.seq (.ops [⟨(some 50), .bin .eql (.tmp 33) (.const (.int .i64 3)), none, 0⟩,
    ⟨(some 49), .move (.tmp 50), none, 0⟩] false) (.cond (.tmp 49) (.seq (.ops [⟨(some 51), .faddr 1 (.tmp 1), none, 0⟩,
    ⟨(some 52), .load1 (.tmp 51), none, 1⟩,
    ⟨(some 53), .faddr 3 (.tmp 1), none, 0⟩,
    ⟨(some 54), .load1 (.tmp 53), none, 4⟩,
    ⟨(some 55), .call 248 [(.tmp 52), (.tmp 54)], none, 15⟩,
    ⟨(some 56), .faddr 1 (.tmp 1), none, 0⟩,
    ⟨(some 57), .load1 (.tmp 56), none, 32⟩,
    ⟨(some 58), .faddr 3 (.tmp 1), none, 0⟩,
    ⟨(some 59), .load1 (.tmp 58), none, 128⟩,
    ⟨(some 60), .bin .add (.tmp 59) (.const (.int .i64 1)), none, 384⟩,
    ⟨(some 61), .call 248 [(.tmp 57), (.tmp 60)], none, 1023⟩,
    ⟨(some 62), .call 240 [(.tmp 61)], none, 2047⟩,
    ⟨(some 63), .call 245 [(.tmp 55), (.tmp 62)], none, 4095⟩,
    ⟨none, .store 3 (.tmp 2) (.tmp 63), none, 8191⟩] true) (.ret)) (.seq (.ops [⟨(some 65), .bin .eql (.tmp 33) (.const (.int .i64 4)), none, 0⟩,
    ⟨(some 64), .move (.tmp 65), none, 0⟩] false) (.cond (.tmp 64) (.seq (.ops [⟨(some 66), .call 242 [(.const (.int .i64 63))], none, 0⟩,
    ⟨(some 67), .loadA 3 (.tmp 3), none, 0⟩,
    ⟨(some 68), .call 244 [(.const (.int .i64 8)), (.tmp 66), (.tmp 67)], none, 3⟩,
    ⟨(some 69), .call 242 [(.const (.int .i64 63))], none, 7⟩,
    ⟨(some 70), .call 241 [(.const (.int .i64 11)), (.tmp 69)], none, 15⟩,
    ⟨(some 71), .call 239 [(.tmp 68), (.tmp 70)], none, 31⟩,
    ⟨none, .store 3 (.tmp 2) (.tmp 71), none, 63⟩] true) (.ret)) (.seq (.ops [⟨(some 73), .bin .eql (.tmp 33) (.const (.int .i64 5)), none, 0⟩,
    ⟨(some 72), .move (.tmp 73), none, 0⟩] false) (.cond (.tmp 72) (.seq (.ops [⟨(some 74), .loadA 3 (.tmp 5), none, 0⟩,
    ⟨(some 75), .loadA 3 (.tmp 6), none, 0⟩,
    ⟨(some 76), .call 239 [(.tmp 74), (.tmp 75)], none, 0⟩,
    ⟨none, .store 3 (.tmp 2) (.tmp 76), none, 0⟩] false) (.ret)) (.seq (.ops [⟨(some 78), .bin .eql (.tmp 33) (.const (.int .i64 6)), none, 0⟩,
    ⟨(some 77), .move (.tmp 78), none, 0⟩] false) (.cond (.tmp 77) (.seq (.ops [⟨(some 79), .loadA 3 (.tmp 5), none, 0⟩,
    ⟨(some 80), .call 240 [(.tmp 79)], none, 1⟩,
    ⟨(some 81), .loadA 3 (.tmp 6), none, 0⟩,
    ⟨(some 82), .call 239 [(.tmp 80), (.tmp 81)], none, 7⟩,
    ⟨none, .store 3 (.tmp 2) (.tmp 82), none, 15⟩] true) (.ret)) (.seq (.ops [⟨(some 84), .bin .eql (.tmp 33) (.const (.int .i64 7)), none, 0⟩,
    ⟨(some 83), .move (.tmp 84), none, 0⟩] false) (.cond (.tmp 83) (.seq (.ops [⟨(some 85), .loadA 3 (.tmp 5), none, 0⟩,
    ⟨(some 86), .call 240 [(.tmp 85)], none, 1⟩,
    ⟨(some 87), .loadA 3 (.tmp 6), none, 0⟩,
    ⟨(some 88), .call 239 [(.tmp 86), (.tmp 87)], none, 7⟩,
    ⟨(some 89), .loadA 3 (.tmp 6), none, 0⟩,
    ⟨(some 90), .call 240 [(.tmp 89)], none, 31⟩,
    ⟨(some 91), .loadA 3 (.tmp 5), none, 0⟩,
    ⟨(some 92), .call 239 [(.tmp 90), (.tmp 91)], none, 127⟩,
    ⟨(some 93), .call 245 [(.tmp 88), (.tmp 92)], none, 255⟩,
    ⟨none, .store 3 (.tmp 2) (.tmp 93), none, 511⟩] true) (.ret)) (.seq (.ops [⟨(some 95), .bin .eql (.tmp 33) (.const (.int .i64 13)), none, 0⟩,
    ⟨(some 94), .move (.tmp 95), none, 0⟩] false) (.cond (.tmp 94) (.seq (.ops [⟨(some 96), .loadA 3 (.tmp 5), none, 0⟩,
    ⟨(some 97), .loadA 3 (.tmp 6), none, 0⟩,
    ⟨(some 98), .call 245 [(.tmp 96), (.tmp 97)], none, 0⟩,
    ⟨(some 99), .call 240 [(.tmp 98)], none, 0⟩,
    ⟨none, .store 3 (.tmp 2) (.tmp 99), none, 0⟩] false) (.ret)) (.seq (.ops [⟨(some 101), .bin .eql (.tmp 33) (.const (.int .i64 8)), none, 0⟩,
    ⟨(some 100), .move (.tmp 101), none, 0⟩] false) (.cond (.tmp 100) (.seq (.ops [⟨(some 102), .loadA 3 (.tmp 7), none, 0⟩,
    ⟨none, .store 3 (.tmp 2) (.tmp 102), none, 0⟩] false) (.ret)) (.seq (.ops [⟨(some 104), .bin .eql (.tmp 33) (.const (.int .i64 9)), none, 0⟩,
    ⟨(some 103), .move (.tmp 104), none, 0⟩] false) (.cond (.tmp 103) (.seq (.ops [⟨(some 105), .loadA 3 (.tmp 8), none, 0⟩,
    ⟨none, .store 3 (.tmp 2) (.tmp 105), none, 0⟩] false) (.ret)) (.seq (.ops [⟨(some 107), .bin .eql (.tmp 33) (.const (.int .i64 10)), none, 0⟩,
    ⟨(some 106), .move (.tmp 107), none, 0⟩] false) (.cond (.tmp 106) (.seq (.ops [⟨(some 108), .loadA 3 (.tmp 7), none, 0⟩,
    ⟨(some 109), .loadA 3 (.tmp 8), none, 0⟩,
    ⟨(some 110), .call 245 [(.tmp 108), (.tmp 109)], none, 0⟩,
    ⟨none, .store 3 (.tmp 2) (.tmp 110), none, 0⟩] false) (.ret)) (.seq (.ops [⟨(some 112), .bin .eql (.tmp 33) (.const (.int .i64 11)), none, 0⟩,
    ⟨(some 111), .move (.tmp 112), none, 0⟩] false) (.cond (.tmp 111) (.seq (.ops [⟨(some 113), .loadA 3 (.tmp 3), none, 0⟩,
    ⟨(some 114), .call 240 [(.tmp 113)], none, 1⟩,
    ⟨(some 115), .loadA 3 (.tmp 3), none, 0⟩,
    ⟨(some 116), .call 240 [(.tmp 115)], none, 7⟩,
    ⟨(some 117), .loadA 3 (.tmp 4), none, 0⟩,
    ⟨(some 118), .call 244 [(.const (.int .i64 8)), (.tmp 116), (.tmp 117)], none, 31⟩,
    ⟨(some 119), .call 241 [(.const (.int .i64 7)), (.tmp 118)], none, 63⟩,
    ⟨(some 120), .call 239 [(.tmp 114), (.tmp 119)], none, 127⟩,
    ⟨(some 121), .call 241 [(.const (.int .i64 11)), (.tmp 120)], none, 255⟩,
    ⟨none, .store 3 (.tmp 2) (.tmp 121), none, 511⟩] true) (.ret)) (.seq (.ops [⟨(some 123), .bin .eql (.tmp 33) (.const (.int .i64 12)), none, 0⟩,
    ⟨(some 122), .move (.tmp 123), none, 0⟩] false) (.cond (.tmp 122) (.seq (.ops [⟨(some 124), .loadA 3 (.tmp 3), none, 0⟩,
    ⟨(some 125), .call 240 [(.tmp 124)], none, 1⟩,
    ⟨(some 126), .call 242 [(.const (.int .i64 63))], none, 3⟩,
    ⟨(some 127), .loadA 3 (.tmp 4), none, 0⟩,
    ⟨(some 128), .call 244 [(.const (.int .i64 8)), (.tmp 126), (.tmp 127)], none, 15⟩,
    ⟨(some 129), .call 241 [(.const (.int .i64 7)), (.tmp 128)], none, 31⟩,
    ⟨(some 130), .call 239 [(.tmp 125), (.tmp 129)], none, 63⟩,
    ⟨(some 131), .call 241 [(.const (.int .i64 11)), (.tmp 130)], none, 127⟩,
    ⟨none, .store 3 (.tmp 2) (.tmp 131), none, 255⟩] true) (.ret)) (.skip))))))))))))))))))))))))))))) (.seq (.ops [⟨(some 132), .loadA 3 (.tmp 3), none, 0⟩,
    ⟨(some 133), .call 240 [(.tmp 132)], none, 1⟩,
    ⟨(some 134), .loadA 3 (.tmp 6), none, 0⟩,
    ⟨(some 135), .call 241 [(.const (.int .i64 7)), (.tmp 134)], none, 7⟩,
    ⟨(some 136), .call 240 [(.tmp 135)], none, 15⟩,
    ⟨(some 137), .call 239 [(.tmp 133), (.tmp 136)], none, 31⟩,
    ⟨(some 138), .call 241 [(.const (.int .i64 11)), (.tmp 137)], none, 63⟩,
    ⟨none, .store 3 (.tmp 2) (.tmp 138), none, 127⟩] true) (.ret)))))))
set_option maxRecDepth 100000 in
theorem c183_ok : FunOK Try.prog 183 139 [.agg 2 3] c183 := ⟨⟨Try.f183, Try.func183, rfl, by kernel_rfl, rfl, by kernel_rfl⟩⟩
theorem ref_formOf (k a b c : Int) (h : tmplChk k a b c = 0) : PCall Try.prog 183 [dtempl k a b c] (dtree (formT k a b c)) := by
  have hc : (k = 1 ∨ k = 2 ∨ k = 3) → 1 ≤ c ∧ c ≤ 3 := fun hk => by
    unfold tmplChk at h
    split at h
    · omega
    · split at h
      · omega
      · omega
  have m1 : (k = 1 ∨ k = 2 ∨ k = 3) → PCall Try.prog 248 [.sc (.int .i64 a), .sc (.int .i64 c)] (dtree (manyT a (c - 1).toNat)) := fun hk => by
    have := ref_often a (c - 1).toNat (by have := hc hk; omega)
    rwa [show (((c - 1).toNat : Int)) + 1 = c by have := hc hk; omega] at this
  have m2 : (k = 1 ∨ k = 2 ∨ k = 3) → PCall Try.prog 248 [.sc (.int .i64 a), .sc (.int .i64 (c + 1))] (dtree (manyT a c.toNat)) := fun hk => by
    have := ref_often a c.toNat (by have := hc hk; omega)
    rwa [show ((c.toNat : Int)) + 1 = c + 1 by have := hc hk; omega] at this
  refine pcall_intro c183_ok (by simp) (by simp [PureL, pure_dtempl]) ?_ (pure_dtree _)
  (apply red_sound; focus (repeat' (first | exact Red.skip | exact Red.ret | exact RedO.nil | exact RedD.nil | exact Red.exit _ | exact Red.loop _ | exact Red.stop _ | apply Red.ops | apply Red.draw | apply Red.seq | apply Red.cond | apply Red.block | apply RedO.cons | apply RedD.cons | exact (0 : Nat))))
  ((conv => whnf); repeat (refine And.intro rfl ?_; (conv => whnf)))
  repeat' (first
    | (refine ifK_split (fun h => ?_) (fun h => ?_) <;> (rw [h]; ((conv => whnf); repeat (refine And.intro rfl ?_; (conv => whnf)))))
    | (refine .inl ⟨_, (m1 (by ((try simp only [bne_iff_ne, ne_eq, bne_eq_false_iff_eq, beq_iff_eq, beq_eq_false_iff_ne, decide_eq_true_eq, decide_eq_false_iff_not, List.length_map, Bool.not_eq_true, Bool.not_eq_false, Bool.and_eq_true, Bool.or_eq_true, Bool.and_eq_false_iff, Bool.or_eq_false_iff, Bool.not_eq_true', Bool.not_eq_false', Bool.not_true, Bool.not_false, Bool.not_eq_eq_eq_not, not_true_eq_false, not_false_eq_true, reduceCtorEq, Bool.true_or, Bool.false_or, Bool.or_true, Bool.or_false, Bool.true_and, Bool.and_true, Bool.false_and, Bool.and_false, true_and, and_true, or_false, false_or, true_or, or_true, false_and, and_false, Bool.true_eq_false, Bool.false_eq_true] at *) <;> omega))), ?_⟩; ((conv => whnf); repeat (refine And.intro rfl ?_; (conv => whnf))))
    | (refine .inl ⟨_, (m2 (by ((try simp only [bne_iff_ne, ne_eq, bne_eq_false_iff_eq, beq_iff_eq, beq_eq_false_iff_ne, decide_eq_true_eq, decide_eq_false_iff_not, List.length_map, Bool.not_eq_true, Bool.not_eq_false, Bool.and_eq_true, Bool.or_eq_true, Bool.and_eq_false_iff, Bool.or_eq_false_iff, Bool.not_eq_true', Bool.not_eq_false', Bool.not_true, Bool.not_false, Bool.not_eq_eq_eq_not, not_true_eq_false, not_false_eq_true, reduceCtorEq, Bool.true_or, Bool.false_or, Bool.or_true, Bool.or_false, Bool.true_and, Bool.and_true, Bool.false_and, Bool.and_false, true_and, and_true, or_false, false_or, true_or, or_true, false_and, and_false, Bool.true_eq_false, Bool.false_eq_true] at *) <;> omega))), ?_⟩; ((conv => whnf); repeat (refine And.intro rfl ?_; (conv => whnf))))
    | (refine .inl ⟨_, (ref_event _), ?_⟩; ((conv => whnf); repeat (refine And.intro rfl ?_; (conv => whnf))))
    | (refine .inl ⟨_, (ref_not _), ?_⟩; ((conv => whnf); repeat (refine And.intro rfl ?_; (conv => whnf))))
    | (refine .inl ⟨_, (ref_atom _), ?_⟩; ((conv => whnf); repeat (refine And.intro rfl ?_; (conv => whnf))))
    | (refine .inl ⟨_, (ref_or _ _), ?_⟩; ((conv => whnf); repeat (refine And.intro rfl ?_; (conv => whnf))))
    | (refine .inl ⟨_, (ref_and _ _), ?_⟩; ((conv => whnf); repeat (refine And.intro rfl ?_; (conv => whnf))))
    | (refine .inl ⟨_, (ref_two 8 _ _), ?_⟩; ((conv => whnf); repeat (refine And.intro rfl ?_; (conv => whnf))))
    | (refine .inl ⟨_, (ref_one 7 _), ?_⟩; ((conv => whnf); repeat (refine And.intro rfl ?_; (conv => whnf))))
    | (refine .inl ⟨_, (ref_one 10 _), ?_⟩; ((conv => whnf); repeat (refine And.intro rfl ?_; (conv => whnf))))
    | (refine .inl ⟨_, (ref_one 11 _), ?_⟩; ((conv => whnf); repeat (refine And.intro rfl ?_; (conv => whnf))))
    | (refine .inl ⟨by unfold InR; rw [IntKind.wrap_i64]; have := hc (by ((try simp only [bne_iff_ne, ne_eq, bne_eq_false_iff_eq, beq_iff_eq, beq_eq_false_iff_ne, decide_eq_true_eq, decide_eq_false_iff_not, List.length_map, Bool.not_eq_true, Bool.not_eq_false, Bool.and_eq_true, Bool.or_eq_true, Bool.and_eq_false_iff, Bool.or_eq_false_iff, Bool.not_eq_true', Bool.not_eq_false', Bool.not_true, Bool.not_false, Bool.not_eq_eq_eq_not, not_true_eq_false, not_false_eq_true, reduceCtorEq, Bool.true_or, Bool.false_or, Bool.or_true, Bool.or_false, Bool.true_and, Bool.and_true, Bool.false_and, Bool.and_false, true_and, and_true, or_false, false_or, true_or, or_true, false_and, and_false, Bool.true_eq_false, Bool.false_eq_true] at *) <;> omega)); omega, ?_⟩; ((conv => whnf); repeat (refine And.intro rfl ?_; (conv => whnf))))
    | exact deep_as (by simp_all [formT, respT, precT]) (.refl _))
def c119 : PC := .seq (.ops [⟨(some 1), .box (.tmp 0), none, 0⟩,
    ⟨(some 2), .alloc [(.int .i64 0), (.int .i64 0), (.slice none 0 0)], none, 0⟩,
    ⟨(some 3), .move (.const (.int .i64 0)), none, 0⟩] false) (.seq (.ops [⟨(some 6), .loadA 4 (.tmp 1), none, 0⟩,
    ⟨(some 7), .call 183 [(.tmp 6)], none, 0⟩,
    ⟨(some 4), .alloc [(.int .i64 0), (.int .i64 0), (.slice none 0 0)], none, 0⟩,
    ⟨none, .store 3 (.tmp 4) (.tmp 7), none, 0⟩] false) (.seq (.seq (.ops [⟨(some 8), .loadA 3 (.tmp 4), none, 0⟩,
    ⟨(some 9), .call 120 [(.tmp 8)], none, 0⟩,
    ⟨(some 5), .move (.tmp 9), none, 0⟩] false) (.seq (.ops [⟨(some 10), .move (.tmp 5), none, 0⟩,
    ⟨(some 11), .bin .neq (.tmp 10) (.const (.int .i64 0)), none, 0⟩] false) (.cond (.tmp 11) (.seq (.ops [⟨(some 12), .build [(.int .i64 0), (.int .i64 0), (.slice none 0 0)] [], none, 0⟩,
    ⟨(some 13), .move (.tmp 5), none, 0⟩,
    ⟨none, .store 3 (.tmp 2) (.tmp 12), none, 0⟩,
    ⟨(some 3), .move (.tmp 13), none, 0⟩] false) (.ret)) (.skip)))) (.seq (.ops [⟨(some 14), .loadA 3 (.tmp 4), none, 0⟩,
    ⟨none, .store 3 (.tmp 2) (.tmp 14), none, 0⟩,
    ⟨(some 3), .move (.const (.int .i64 0)), none, 0⟩] false) (.ret))))
set_option maxRecDepth 100000 in
theorem c119_ok : FunOK Try.prog 119 15 [.agg 2 3, .tmp 3] c119 := ⟨⟨Try.f119, Try.func119, rfl, by kernel_rfl, rfl, by kernel_rfl⟩⟩
end Go.Proofs.Ytcgjbhnljjlffaa
