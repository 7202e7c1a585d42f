/-
  Patterns: their check and their formulas, over deep values. No statement is proved here.
-/
import Derived.Test.YtcgjbhnljjlffaaFo
namespace Go.Proofs.Ytcgjbhnljjlffaa
open Go.RowKit
set_option linter.unusedSimpArgs false
set_option maxHeartbeats 4000000

/-- A pattern. -/
structure Pat where
  kind : Int
  scope : Int
  p : Int
  s : Int
  q : Int
  r : Int
  count : Int
def patCells (x : Pat) : List D := [.sc (.int .i64 x.kind), .sc (.int .i64 x.scope), .sc (.int .i64 x.p), .sc (.int .i64 x.s), .sc (.int .i64 x.q), .sc (.int .i64 x.r), .sc (.int .i64 x.count)]
def dpat (x : Pat) : D := .agg (patCells x)
theorem pure_dpat (x : Pat) : Pure (dpat x) := by simp [dpat, patCells, Pure, PureL]
/-- What a pattern's check answers. -/
def patChk (x : Pat) : Int :=
  if x.kind < 1 ∨ 6 < x.kind ∨ x.scope < 1 ∨ 5 < x.scope ∨ x.p < 0 ∨ 63 < x.p ∨ x.s < 0 ∨ 63 < x.s ∨ (x.kind < 5 ∧ x.s ≠ 0)
    ∨ x.q < 0 ∨ 63 < x.q ∨ (x.scope < 3 ∧ x.q ≠ 0) ∨ x.r < 0 ∨ 63 < x.r ∨ (x.scope ≠ 2 ∧ x.scope < 4 ∧ x.r ≠ 0)
    ∨ x.count < 0 ∨ 3 < x.count ∨ (x.kind ≠ 4 ∧ x.count ≠ 0) then 1 else 0
def noP (x : Pat) : Tree := mk1 4 (mk0 3 x.p)
def noR (x : Pat) : Tree := mk1 4 (mk0 3 x.r)
def globN (x : Pat) (more : Bool) (T : Tree) : Tree :=
  if x.kind = 2 then mk1 11 (mk0 3 x.p) else if x.kind = 3 then mk1 10 (mk0 3 x.p)
  else if x.kind = 5 then mk2 6 (mk2 8 (noP x) (mk0 3 x.s)) (mk1 11 (noP x))
  else if x.kind = 6 then mk1 11 (mk2 6 (noP x) (mk1 10 (mk0 3 x.s)))
  else if x.kind = 4 ∧ more = true then mk2 6 (mk2 8 (noP x) (mk2 5 (mk0 3 x.p) (mk1 7 T))) (mk1 11 (noP x)) else mk1 11 (noP x)
def globT (x : Pat) : Nat → Tree
  | 0 => globN x false (mk0 0 0)
  | n + 1 => globN x true (globT x n)
def weakT (weak : Bool) (a b : Tree) : Tree := if weak = true then mk2 6 (mk2 8 a b) (mk1 11 a) else mk2 8 a b
def answT (x : Pat) : Tree := mk2 6 (noP x) (mk2 8 (noR x) (mk2 5 (mk0 3 x.s) (noR x)))
def moreT (x : Pat) (T : Tree) : Tree := mk2 6 (mk0 3 x.r) (mk2 5 (mk2 5 (mk0 3 x.p) (noR x)) (mk1 7 T))
def upN (x : Pat) (weak more : Bool) (T : Tree) : Tree :=
  if x.kind = 2 then weakT weak (mk0 3 x.p) (mk0 3 x.r) else if x.kind = 3 then mk2 8 (noR x) (mk2 5 (mk0 3 x.p) (noR x))
  else if x.kind = 5 then weakT weak (noP x) (mk2 6 (mk0 3 x.s) (mk0 3 x.r)) else if x.kind = 6 then weakT weak (answT x) (mk0 3 x.r)
  else if x.kind = 4 ∧ more = true then weakT weak (noP x) (moreT x T)
  else weakT weak (noP x) (mk0 3 x.r)
def upT (x : Pat) (weak : Bool) : Nat → Tree
  | 0 => upN x weak false (mk0 0 0)
  | n + 1 => upN x weak true (upT x weak n)
def scopeT (x : Pat) : Tree :=
  let n := x.count.toNat
  if x.scope = 2 then mk2 6 (mk1 4 (mk1 10 (mk0 3 x.r))) (upT x false n)
  else if x.scope = 3 then mk2 6 (mk1 11 (mk1 4 (mk0 3 x.q))) (mk2 8 (mk1 4 (mk0 3 x.q)) (mk2 5 (mk0 3 x.q) (globT x n)))
  else if x.scope = 4 then mk1 11 (mk2 6 (mk1 4 (mk2 5 (mk2 5 (mk0 3 x.q) (noR x)) (mk1 10 (mk0 3 x.r)))) (upT x false n))
  else if x.scope = 5 then mk1 11 (mk2 6 (mk1 4 (mk2 5 (mk0 3 x.q) (noR x))) (upT x true n))
  else globT x n
def c157 : PC := .seq (.ops [⟨(some 4), .move (.const (.bool false)), none, 0⟩] false) (.seq (.ops [⟨(some 5), .move (.tmp 0), none, 0⟩,
    ⟨(some 6), .bin .geq (.tmp 5) (.const (.int .i64 0)), none, 0⟩,
    ⟨(some 7), .move (.tmp 6), none, 0⟩,
    ⟨(some 8), .move (.tmp 0), (some (7, true)), 0⟩,
    ⟨(some 9), .bin .leq (.tmp 8) (.const (.int .i64 63)), (some (7, true)), 0⟩,
    ⟨(some 10), .pick (.tmp 7) (.tmp 9) (.const (.bool false)), none, 0⟩,
    ⟨(some 11), .move (.tmp 10), none, 0⟩,
    ⟨(some 12), .move (.tmp 1), (some (11, true)), 0⟩,
    ⟨(some 13), .move (.tmp 12), (some (11, true)), 0⟩,
    ⟨(some 14), .move (.tmp 0), (some (13, false)), 0⟩,
    ⟨(some 15), .bin .eql (.tmp 14) (.const (.int .i64 0)), (some (13, false)), 0⟩,
    ⟨(some 16), .pick (.tmp 13) (.const (.bool true)) (.tmp 15), (some (11, true)), 0⟩,
    ⟨(some 17), .pick (.tmp 11) (.tmp 16) (.const (.bool false)), none, 0⟩,
    ⟨(some 4), .move (.tmp 17), none, 0⟩] false) (.ret))
set_option maxRecDepth 100000 in
theorem c157_ok : FunOK Try.prog 157 18 [.tmp 4] c157 := ⟨⟨Try.f157, Try.func157, rfl, by kernel_rfl, rfl, by kernel_rfl⟩⟩
def c82 : PC := .seq (.ops [⟨(some 1), .box (.tmp 0), none, 0⟩,
    ⟨(some 2), .move (.const (.int .i64 0)), none, 0⟩] false) (.seq (.ops [⟨(some 6), .faddr 0 (.tmp 1), none, 0⟩,
    ⟨(some 7), .load1 (.tmp 6), none, 0⟩,
    ⟨(some 8), .bin .eql (.tmp 7) (.const (.int .i64 5)), none, 0⟩,
    ⟨(some 9), .move (.tmp 8), none, 0⟩,
    ⟨(some 10), .faddr 0 (.tmp 1), (some (9, false)), 0⟩,
    ⟨(some 11), .load1 (.tmp 10), (some (9, false)), 0⟩,
    ⟨(some 12), .bin .eql (.tmp 11) (.const (.int .i64 6)), (some (9, false)), 0⟩,
    ⟨(some 13), .pick (.tmp 9) (.const (.bool true)) (.tmp 12), none, 0⟩,
    ⟨(some 3), .move (.tmp 13), none, 0⟩] false) (.seq (.ops [⟨(some 14), .faddr 1 (.tmp 1), none, 0⟩,
    ⟨(some 15), .load1 (.tmp 14), none, 0⟩,
    ⟨(some 16), .bin .eql (.tmp 15) (.const (.int .i64 3)), none, 0⟩,
    ⟨(some 17), .move (.tmp 16), none, 0⟩,
    ⟨(some 18), .faddr 1 (.tmp 1), (some (17, false)), 0⟩,
    ⟨(some 19), .load1 (.tmp 18), (some (17, false)), 0⟩,
    ⟨(some 20), .bin .eql (.tmp 19) (.const (.int .i64 4)), (some (17, false)), 0⟩,
    ⟨(some 21), .pick (.tmp 17) (.const (.bool true)) (.tmp 20), none, 0⟩,
    ⟨(some 22), .move (.tmp 21), none, 0⟩,
    ⟨(some 23), .faddr 1 (.tmp 1), (some (22, false)), 0⟩,
    ⟨(some 24), .load1 (.tmp 23), (some (22, false)), 0⟩,
    ⟨(some 25), .bin .eql (.tmp 24) (.const (.int .i64 5)), (some (22, false)), 0⟩,
    ⟨(some 26), .pick (.tmp 22) (.const (.bool true)) (.tmp 25), none, 0⟩,
    ⟨(some 4), .move (.tmp 26), none, 0⟩] false) (.seq (.ops [⟨(some 27), .faddr 1 (.tmp 1), none, 0⟩,
    ⟨(some 28), .load1 (.tmp 27), none, 0⟩,
    ⟨(some 29), .bin .eql (.tmp 28) (.const (.int .i64 2)), none, 0⟩,
    ⟨(some 30), .move (.tmp 29), none, 0⟩,
    ⟨(some 31), .faddr 1 (.tmp 1), (some (30, false)), 0⟩,
    ⟨(some 32), .load1 (.tmp 31), (some (30, false)), 0⟩,
    ⟨(some 33), .bin .eql (.tmp 32) (.const (.int .i64 4)), (some (30, false)), 0⟩,
    ⟨(some 34), .pick (.tmp 30) (.const (.bool true)) (.tmp 33), none, 0⟩,
    ⟨(some 35), .move (.tmp 34), none, 0⟩,
    ⟨(some 36), .faddr 1 (.tmp 1), (some (35, false)), 0⟩,
    ⟨(some 37), .load1 (.tmp 36), (some (35, false)), 0⟩,
    ⟨(some 38), .bin .eql (.tmp 37) (.const (.int .i64 5)), (some (35, false)), 0⟩,
    ⟨(some 39), .pick (.tmp 35) (.const (.bool true)) (.tmp 38), none, 0⟩,
    ⟨(some 5), .move (.tmp 39), none, 0⟩] false) (.seq (.block 0 (.seq (.ops [⟨(some 41), .faddr 0 (.tmp 1), none, 0⟩,
    ⟨(some 42), .load1 (.tmp 41), none, 0⟩,
    ⟨(some 43), .bin .lss (.tmp 42) (.const (.int .i64 1)), none, 0⟩,
    ⟨(some 44), .move (.tmp 43), none, 0⟩,
    ⟨(some 45), .faddr 0 (.tmp 1), (some (44, false)), 0⟩,
    ⟨(some 46), .load1 (.tmp 45), (some (44, false)), 0⟩,
    ⟨(some 47), .bin .gtr (.tmp 46) (.const (.int .i64 6)), (some (44, false)), 0⟩,
    ⟨(some 48), .pick (.tmp 44) (.const (.bool true)) (.tmp 47), none, 0⟩,
    ⟨(some 49), .move (.tmp 48), none, 0⟩,
    ⟨(some 50), .faddr 1 (.tmp 1), (some (49, false)), 0⟩,
    ⟨(some 51), .load1 (.tmp 50), (some (49, false)), 0⟩,
    ⟨(some 52), .bin .lss (.tmp 51) (.const (.int .i64 1)), (some (49, false)), 0⟩,
    ⟨(some 53), .pick (.tmp 49) (.const (.bool true)) (.tmp 52), none, 0⟩,
    ⟨(some 54), .move (.tmp 53), none, 0⟩,
    ⟨(some 55), .faddr 1 (.tmp 1), (some (54, false)), 0⟩,
    ⟨(some 56), .load1 (.tmp 55), (some (54, false)), 0⟩,
    ⟨(some 57), .bin .gtr (.tmp 56) (.const (.int .i64 5)), (some (54, false)), 0⟩,
    ⟨(some 58), .pick (.tmp 54) (.const (.bool true)) (.tmp 57), none, 0⟩,
    ⟨(some 40), .move (.tmp 58), none, 0⟩] false) (.cond (.tmp 40) (.seq (.ops [⟨(some 2), .move (.const (.int .i64 1)), none, 0⟩] false) (.ret)) (.seq (.ops [⟨(some 60), .faddr 2 (.tmp 1), none, 0⟩,
    ⟨(some 61), .load1 (.tmp 60), none, 0⟩,
    ⟨(some 62), .call 157 [(.tmp 61), (.const (.bool true))], none, 0⟩,
    ⟨(some 63), .un .not (.tmp 62), none, 0⟩,
    ⟨(some 64), .move (.tmp 63), none, 0⟩,
    ⟨(some 65), .faddr 3 (.tmp 1), (some (64, false)), 0⟩,
    ⟨(some 66), .load1 (.tmp 65), (some (64, false)), 0⟩,
    ⟨(some 67), .move (.tmp 3), (some (64, false)), 0⟩,
    ⟨(some 68), .call 157 [(.tmp 66), (.tmp 67)], (some (64, false)), 0⟩,
    ⟨(some 69), .un .not (.tmp 68), (some (64, false)), 0⟩,
    ⟨(some 70), .pick (.tmp 64) (.const (.bool true)) (.tmp 69), none, 0⟩,
    ⟨(some 71), .move (.tmp 70), none, 0⟩,
    ⟨(some 72), .faddr 4 (.tmp 1), (some (71, false)), 0⟩,
    ⟨(some 73), .load1 (.tmp 72), (some (71, false)), 0⟩,
    ⟨(some 74), .move (.tmp 4), (some (71, false)), 0⟩,
    ⟨(some 75), .call 157 [(.tmp 73), (.tmp 74)], (some (71, false)), 0⟩,
    ⟨(some 76), .un .not (.tmp 75), (some (71, false)), 0⟩,
    ⟨(some 77), .pick (.tmp 71) (.const (.bool true)) (.tmp 76), none, 0⟩,
    ⟨(some 78), .move (.tmp 77), none, 0⟩,
    ⟨(some 79), .faddr 5 (.tmp 1), (some (78, false)), 0⟩,
    ⟨(some 80), .load1 (.tmp 79), (some (78, false)), 0⟩,
    ⟨(some 81), .move (.tmp 5), (some (78, false)), 0⟩,
    ⟨(some 82), .call 157 [(.tmp 80), (.tmp 81)], (some (78, false)), 0⟩,
    ⟨(some 83), .un .not (.tmp 82), (some (78, false)), 0⟩,
    ⟨(some 84), .pick (.tmp 78) (.const (.bool true)) (.tmp 83), none, 0⟩,
    ⟨(some 59), .move (.tmp 84), none, 0⟩] false) (.cond (.tmp 59) (.seq (.ops [⟨(some 2), .move (.const (.int .i64 1)), none, 0⟩] false) (.ret)) (.seq (.ops [⟨(some 86), .faddr 6 (.tmp 1), none, 0⟩,
    ⟨(some 87), .load1 (.tmp 86), none, 0⟩,
    ⟨(some 88), .bin .lss (.tmp 87) (.const (.int .i64 0)), none, 0⟩,
    ⟨(some 89), .move (.tmp 88), none, 0⟩,
    ⟨(some 90), .faddr 6 (.tmp 1), (some (89, false)), 0⟩,
    ⟨(some 91), .load1 (.tmp 90), (some (89, false)), 0⟩,
    ⟨(some 92), .bin .gtr (.tmp 91) (.const (.int .i64 3)), (some (89, false)), 0⟩,
    ⟨(some 93), .pick (.tmp 89) (.const (.bool true)) (.tmp 92), none, 0⟩,
    ⟨(some 94), .move (.tmp 93), none, 0⟩,
    ⟨(some 95), .faddr 0 (.tmp 1), (some (94, false)), 0⟩,
    ⟨(some 96), .load1 (.tmp 95), (some (94, false)), 0⟩,
    ⟨(some 97), .bin .neq (.tmp 96) (.const (.int .i64 4)), (some (94, false)), 0⟩,
    ⟨(some 98), .move (.tmp 97), (some (94, false)), 0⟩,
    ⟨(some 99), .faddr 6 (.tmp 1), (some (98, true)), 0⟩,
    ⟨(some 100), .load1 (.tmp 99), (some (98, true)), 0⟩,
    ⟨(some 101), .bin .neq (.tmp 100) (.const (.int .i64 0)), (some (98, true)), 0⟩,
    ⟨(some 102), .pick (.tmp 98) (.tmp 101) (.const (.bool false)), (some (94, false)), 0⟩,
    ⟨(some 103), .pick (.tmp 94) (.const (.bool true)) (.tmp 102), none, 0⟩,
    ⟨(some 85), .move (.tmp 103), none, 0⟩] false) (.cond (.tmp 85) (.seq (.ops [⟨(some 2), .move (.const (.int .i64 1)), none, 0⟩] false) (.ret)) (.skip)))))))) (.seq (.ops [⟨(some 2), .move (.const (.int .i64 0)), none, 0⟩] false) (.ret))))))
set_option maxRecDepth 100000 in
theorem c82_ok : FunOK Try.prog 82 104 [.tmp 2] c82 := ⟨⟨Try.f82, Try.func82, rfl, by kernel_rfl, rfl, by kernel_rfl⟩⟩
theorem dwy_right (n : Int) (has : Bool) : PCall Try.prog 157 [.sc (.int .i64 n), .sc (.bool has)] (.sc (.bool (decide (0 ≤ n) && decide (n ≤ 63) && (has || n == 0)))) := by
  refine pcall_intro c157_ok (by simp) (by simp [PureL, Pure]) ?_ (by simp [Pure])
  (apply red_sound; focus (repeat' (first | exact Red.skip | exact Red.ret | exact RedO.nil | exact RedD.nil | exact Red.exit _ | exact Red.loop _ | exact Red.stop _ | apply Red.ops | apply Red.draw | apply Red.seq | apply Red.cond | apply Red.block | apply RedO.cons | apply RedD.cons | exact (0 : Nat))))
  ((conv => whnf); repeat (refine And.intro rfl ?_; (conv => whnf)))
  repeat' (first | (refine ifK_split (fun h => ?_) (fun h => ?_) <;> (rw [h]; ((conv => whnf); repeat (refine And.intro rfl ?_; (conv => whnf))))) | exact deep_eq (by simp_all))
theorem dwy_Check (x : Pat) : PCall Try.prog 82 [dpat x] (.sc (.int .i64 (patChk x))) := by
  refine pcall_intro c82_ok (by simp) (by simp [PureL, pure_dpat]) ?_ (by simp [Pure])
  (apply red_sound; focus (repeat' (first | exact Red.skip | exact Red.ret | exact RedO.nil | exact RedD.nil | exact Red.exit _ | exact Red.loop _ | exact Red.stop _ | apply Red.ops | apply Red.draw | apply Red.seq | apply Red.cond | apply Red.block | apply RedO.cons | apply RedD.cons | exact (0 : Nat))))
  ((conv => whnf); repeat (refine And.intro rfl ?_; (conv => whnf)))
  repeat' (first
    | (refine ifK_split (fun h => ?_) (fun h => ?_) <;> (rw [h]; ((conv => whnf); repeat (refine And.intro rfl ?_; (conv => whnf)))))
    | (refine .inl ⟨_, (dwy_right _ _), ?_⟩; ((conv => whnf); repeat (refine And.intro rfl ?_; (conv => whnf))))
    | exact deep_eq (by unfold patChk; congr 2; (repeat' split) <;> first | rfl | ((try simp only [bne_iff_ne, ne_eq, bne_eq_false_iff_eq, beq_iff_eq, beq_eq_false_iff_ne, decide_eq_true_eq, decide_eq_false_iff_not, List.length_map, Bool.not_eq_true, Bool.not_eq_false, Bool.and_eq_true, Bool.or_eq_true, Bool.and_eq_false_iff, Bool.or_eq_false_iff, Bool.not_eq_true', Bool.not_eq_false', Bool.not_true, Bool.not_false, Bool.not_eq_eq_eq_not, not_true_eq_false, not_false_eq_true, reduceCtorEq, Bool.true_or, Bool.false_or, Bool.or_true, Bool.or_false, Bool.true_and, Bool.and_true, Bool.false_and, Bool.and_false, true_and, and_true, or_false, false_or, true_or, or_true, false_and, and_false, Bool.true_eq_false, Bool.false_eq_true] at *) <;> omega)))
def c22_1 : PC := .seq (.seq (.ops [⟨(some 48), .move (.tmp 5), none, 0⟩,
    ⟨(some 49), .bin .lss (.tmp 48) (.const (.int .i64 4)), none, 0⟩] false) (.cond (.tmp 49) (.skip) (.exit 0))) (.seq (.block 1 (.seq (.ops [⟨(some 52), .move (.tmp 4), none, 0⟩,
    ⟨(some 53), .move (.tmp 5), none, 0⟩,
    ⟨(some 54), .iaddr 1 (.tmp 52) (.tmp 53), none, 0⟩,
    ⟨(some 55), .load1 (.tmp 54), none, 0⟩,
    ⟨(some 56), .bin .lss (.tmp 55) (.const (.int .i64 0)), none, 0⟩,
    ⟨(some 57), .move (.tmp 56), none, 0⟩,
    ⟨(some 58), .move (.tmp 4), (some (57, false)), 0⟩,
    ⟨(some 59), .move (.tmp 5), (some (57, false)), 0⟩,
    ⟨(some 60), .iaddr 1 (.tmp 58) (.tmp 59), (some (57, false)), 0⟩,
    ⟨(some 61), .load1 (.tmp 60), (some (57, false)), 0⟩,
    ⟨(some 62), .bin .gtr (.tmp 61) (.const (.int .i64 63)), (some (57, false)), 0⟩,
    ⟨(some 63), .pick (.tmp 57) (.const (.bool true)) (.tmp 62), none, 0⟩,
    ⟨(some 64), .move (.tmp 63), none, 0⟩,
    ⟨(some 65), .move (.tmp 3), (some (64, false)), 0⟩,
    ⟨(some 66), .move (.tmp 5), (some (64, false)), 0⟩,
    ⟨(some 67), .iaddr 1 (.tmp 65) (.tmp 66), (some (64, false)), 0⟩,
    ⟨(some 68), .load1 (.tmp 67), (some (64, false)), 0⟩,
    ⟨(some 69), .un .not (.tmp 68), (some (64, false)), 0⟩,
    ⟨(some 70), .move (.tmp 69), (some (64, false)), 0⟩,
    ⟨(some 71), .move (.tmp 4), (some (70, true)), 0⟩,
    ⟨(some 72), .move (.tmp 5), (some (70, true)), 0⟩,
    ⟨(some 73), .iaddr 1 (.tmp 71) (.tmp 72), (some (70, true)), 0⟩,
    ⟨(some 74), .load1 (.tmp 73), (some (70, true)), 0⟩,
    ⟨(some 75), .bin .neq (.tmp 74) (.const (.int .i64 0)), (some (70, true)), 0⟩,
    ⟨(some 76), .pick (.tmp 70) (.tmp 75) (.const (.bool false)), (some (64, false)), 0⟩,
    ⟨(some 77), .pick (.tmp 64) (.const (.bool true)) (.tmp 76), none, 0⟩] false) (.cond (.tmp 77) (.seq (.ops [⟨(some 2), .move (.const (.int .i64 1)), none, 0⟩] false) (.ret)) (.skip)))) (.ops [⟨(some 50), .move (.tmp 5), none, 0⟩,
    ⟨(some 51), .bin .add (.tmp 50) (.const (.int .i64 1)), none, 0⟩,
    ⟨(some 5), .move (.tmp 51), none, 0⟩] false))
def c22 : PC := .seq (.ops [⟨(some 1), .box (.tmp 0), none, 0⟩,
    ⟨(some 2), .move (.const (.int .i64 0)), none, 0⟩] false) (.seq (.seq (.ops [⟨(some 6), .faddr 0 (.tmp 1), none, 0⟩,
    ⟨(some 7), .load1 (.tmp 6), none, 0⟩,
    ⟨(some 8), .bin .lss (.tmp 7) (.const (.int .i64 1)), none, 0⟩,
    ⟨(some 9), .move (.tmp 8), none, 0⟩,
    ⟨(some 10), .faddr 0 (.tmp 1), (some (9, false)), 0⟩,
    ⟨(some 11), .load1 (.tmp 10), (some (9, false)), 0⟩,
    ⟨(some 12), .bin .gtr (.tmp 11) (.const (.int .i64 6)), (some (9, false)), 0⟩,
    ⟨(some 13), .pick (.tmp 9) (.const (.bool true)) (.tmp 12), none, 0⟩,
    ⟨(some 14), .move (.tmp 13), none, 0⟩,
    ⟨(some 15), .faddr 1 (.tmp 1), (some (14, false)), 0⟩,
    ⟨(some 16), .load1 (.tmp 15), (some (14, false)), 0⟩,
    ⟨(some 17), .bin .lss (.tmp 16) (.const (.int .i64 1)), (some (14, false)), 0⟩,
    ⟨(some 18), .pick (.tmp 14) (.const (.bool true)) (.tmp 17), none, 0⟩,
    ⟨(some 19), .move (.tmp 18), none, 0⟩,
    ⟨(some 20), .faddr 1 (.tmp 1), (some (19, false)), 0⟩,
    ⟨(some 21), .load1 (.tmp 20), (some (19, false)), 0⟩,
    ⟨(some 22), .bin .gtr (.tmp 21) (.const (.int .i64 5)), (some (19, false)), 0⟩,
    ⟨(some 23), .pick (.tmp 19) (.const (.bool true)) (.tmp 22), none, 0⟩] false) (.cond (.tmp 23) (.seq (.ops [⟨(some 2), .move (.const (.int .i64 1)), none, 0⟩] false) (.ret)) (.skip))) (.seq (.ops [⟨(some 24), .faddr 0 (.tmp 1), none, 0⟩,
    ⟨(some 25), .load1 (.tmp 24), none, 0⟩,
    ⟨(some 26), .bin .geq (.tmp 25) (.const (.int .i64 5)), none, 0⟩,
    ⟨(some 27), .faddr 1 (.tmp 1), none, 0⟩,
    ⟨(some 28), .load1 (.tmp 27), none, 0⟩,
    ⟨(some 29), .bin .geq (.tmp 28) (.const (.int .i64 3)), none, 0⟩,
    ⟨(some 30), .faddr 1 (.tmp 1), none, 0⟩,
    ⟨(some 31), .load1 (.tmp 30), none, 0⟩,
    ⟨(some 32), .bin .eql (.tmp 31) (.const (.int .i64 2)), none, 0⟩,
    ⟨(some 33), .move (.tmp 32), none, 0⟩,
    ⟨(some 34), .faddr 1 (.tmp 1), (some (33, false)), 0⟩,
    ⟨(some 35), .load1 (.tmp 34), (some (33, false)), 0⟩,
    ⟨(some 36), .bin .geq (.tmp 35) (.const (.int .i64 4)), (some (33, false)), 0⟩,
    ⟨(some 37), .pick (.tmp 33) (.const (.bool true)) (.tmp 36), none, 0⟩,
    ⟨(some 38), .bslice 1 4 [(.const (.bool true)), (.tmp 26), (.tmp 29), (.tmp 37)], none, 0⟩,
    ⟨(some 3), .move (.tmp 38), none, 0⟩] false) (.seq (.ops [⟨(some 39), .faddr 2 (.tmp 1), none, 0⟩,
    ⟨(some 40), .load1 (.tmp 39), none, 0⟩,
    ⟨(some 41), .faddr 3 (.tmp 1), none, 0⟩,
    ⟨(some 42), .load1 (.tmp 41), none, 0⟩,
    ⟨(some 43), .faddr 4 (.tmp 1), none, 0⟩,
    ⟨(some 44), .load1 (.tmp 43), none, 0⟩,
    ⟨(some 45), .faddr 5 (.tmp 1), none, 0⟩,
    ⟨(some 46), .load1 (.tmp 45), none, 0⟩,
    ⟨(some 47), .bslice 1 4 [(.tmp 40), (.tmp 42), (.tmp 44), (.tmp 46)], none, 0⟩,
    ⟨(some 4), .move (.tmp 47), none, 0⟩] false) (.seq (.seq (.ops [⟨(some 5), .move (.const (.int .i64 0)), none, 0⟩] false) (.block 0 (.loop c22_1))) (.seq (.seq (.ops [⟨(some 78), .faddr 6 (.tmp 1), none, 0⟩,
    ⟨(some 79), .load1 (.tmp 78), none, 0⟩,
    ⟨(some 80), .bin .lss (.tmp 79) (.const (.int .i64 0)), none, 0⟩,
    ⟨(some 81), .move (.tmp 80), none, 0⟩,
    ⟨(some 82), .faddr 6 (.tmp 1), (some (81, false)), 0⟩,
    ⟨(some 83), .load1 (.tmp 82), (some (81, false)), 0⟩,
    ⟨(some 84), .bin .gtr (.tmp 83) (.const (.int .i64 3)), (some (81, false)), 0⟩,
    ⟨(some 85), .pick (.tmp 81) (.const (.bool true)) (.tmp 84), none, 0⟩,
    ⟨(some 86), .move (.tmp 85), none, 0⟩,
    ⟨(some 87), .faddr 6 (.tmp 1), (some (86, false)), 0⟩,
    ⟨(some 88), .load1 (.tmp 87), (some (86, false)), 0⟩,
    ⟨(some 89), .bin .neq (.tmp 88) (.const (.int .i64 0)), (some (86, false)), 0⟩,
    ⟨(some 90), .move (.tmp 89), (some (86, false)), 0⟩,
    ⟨(some 91), .faddr 0 (.tmp 1), (some (90, true)), 0⟩,
    ⟨(some 92), .load1 (.tmp 91), (some (90, true)), 0⟩,
    ⟨(some 93), .bin .neq (.tmp 92) (.const (.int .i64 4)), (some (90, true)), 0⟩,
    ⟨(some 94), .pick (.tmp 90) (.tmp 93) (.const (.bool false)), (some (86, false)), 0⟩,
    ⟨(some 95), .pick (.tmp 86) (.const (.bool true)) (.tmp 94), none, 0⟩] false) (.cond (.tmp 95) (.seq (.ops [⟨(some 2), .move (.const (.int .i64 1)), none, 0⟩] false) (.ret)) (.skip))) (.seq (.ops [⟨(some 2), .move (.const (.int .i64 0)), none, 0⟩] false) (.ret)))))))
set_option maxRecDepth 100000 in
theorem c22_ok : FunOK Try.prog 22 96 [.tmp 2] c22 := ⟨⟨Try.f22, Try.func22, rfl, by kernel_rfl, rfl, by kernel_rfl⟩⟩
theorem ref_Pattern (x : Pat) : PCall Try.prog 22 [dpat x] (.sc (.int .i64 (patChk x))) := by
  refine pcall_intro c22_ok (by simp) (by simp [PureL, pure_dpat]) ?_ (by simp [Pure])
  (apply red_sound; focus (repeat' (first | exact Red.skip | exact Red.ret | exact RedO.nil | exact RedD.nil | exact Red.exit _ | exact Red.loop _ | exact Red.stop _ | apply Red.ops | apply Red.draw | apply Red.seq | apply Red.cond | apply Red.block | apply RedO.cons | apply RedD.cons | exact (0 : Nat))))
  ((conv => whnf); repeat (refine And.intro rfl ?_; (conv => whnf)))
  repeat' (first
    | (refine ifK_split (fun h => ?_) (fun h => ?_) <;> (rw [h]; ((conv => whnf); repeat (refine And.intro rfl ?_; (conv => whnf)))))
    | (refine pwp_rounds 5 ?_; (apply red_sound; focus (repeat' (first | exact Red.skip | exact Red.ret | exact RedO.nil | exact RedD.nil | exact Red.exit _ | exact Red.loop _ | exact Red.stop _ | apply Red.ops | apply Red.draw | apply Red.seq | apply Red.cond | apply Red.block | apply RedO.cons | apply RedD.cons | exact (0 : Nat)))); ((conv => whnf); repeat (refine And.intro rfl ?_; (conv => whnf))))
    | ((apply red_sound; focus (repeat' (first | exact Red.skip | exact Red.ret | exact RedO.nil | exact RedD.nil | exact Red.exit _ | exact Red.loop _ | exact Red.stop _ | apply Red.ops | apply Red.draw | apply Red.seq | apply Red.cond | apply Red.block | apply RedO.cons | apply RedD.cons | exact (0 : Nat)))); ((conv => whnf); repeat (refine And.intro rfl ?_; (conv => whnf))))
    | (refine ⟨by omega, by omega, ?_⟩; ((conv => whnf); repeat (refine And.intro rfl ?_; (conv => whnf))))
    | (refine ⟨_, rfl, ?_⟩; ((conv => whnf); repeat (refine And.intro rfl ?_; (conv => whnf))))
    | (refine .inl ⟨by unfold InR; rw [IntKind.wrap_i64]; omega, ?_⟩; ((conv => whnf); repeat (refine And.intro rfl ?_; (conv => whnf))))
    | exact deep_eq (by unfold patChk; congr 2; (repeat' split) <;> first | rfl | ((try simp only [bne_iff_ne, ne_eq, bne_eq_false_iff_eq, beq_iff_eq, beq_eq_false_iff_ne, decide_eq_true_eq, decide_eq_false_iff_not, List.length_map, Bool.not_eq_true, Bool.not_eq_false, Bool.and_eq_true, Bool.or_eq_true, Bool.and_eq_false_iff, Bool.or_eq_false_iff, Bool.not_eq_true', Bool.not_eq_false', Bool.not_true, Bool.not_false, Bool.not_eq_eq_eq_not, not_true_eq_false, not_false_eq_true, reduceCtorEq, Bool.true_or, Bool.false_or, Bool.or_true, Bool.or_false, Bool.true_and, Bool.and_true, Bool.false_and, Bool.and_false, true_and, and_true, or_false, false_or, true_or, or_true, false_and, and_false, Bool.true_eq_false, Bool.false_eq_true] at *) <;> omega)))
theorem small_globT (x : Pat) : ∀ n, Small (globT x n)
  | 0 => by
    unfold globT globN noP
    repeat' (first | exact small_mk0 _ _ | apply small_mk1 | apply small_mk2 | refine small_ite _ ?_ ?_)
  | n + 1 => by
    have := small_globT x n
    unfold globT globN noP
    repeat' (first | assumption | exact small_mk0 _ _ | apply small_mk1 | apply small_mk2 | refine small_ite _ ?_ ?_)
theorem small_upT (x : Pat) (weak : Bool) : ∀ n, Small (upT x weak n)
  | 0 => by
    unfold upT upN weakT answT moreT noP noR
    repeat' (first | exact small_mk0 _ _ | apply small_mk1 | apply small_mk2 | refine small_ite _ ?_ ?_)
  | n + 1 => by
    have := small_upT x weak n
    unfold upT upN weakT answT moreT noP noR
    repeat' (first | assumption | exact small_mk0 _ _ | apply small_mk1 | apply small_mk2 | refine small_ite _ ?_ ?_)
theorem small_scopeT (x : Pat) : Small (scopeT x) := by
  unfold scopeT noR
  repeat' (first | exact small_globT _ _ | exact small_upT _ _ _ | exact small_mk0 _ _ | apply small_mk1 | apply small_mk2 | refine small_ite _ ?_ ?_)
def c223 : PC := .seq (.ops [⟨(some 2), .box (.tmp 0), none, 0⟩,
    ⟨(some 4), .alloc [(.int .i64 0), (.int .i64 0), (.slice none 0 0)], none, 0⟩] false) (.seq (.seq (.ops [⟨(some 6), .faddr 0 (.tmp 2), none, 0⟩,
    ⟨(some 7), .load1 (.tmp 6), none, 0⟩] false) (.block 0 (.seq (.ops [⟨(some 9), .bin .eql (.tmp 7) (.const (.int .i64 2)), none, 0⟩,
    ⟨(some 8), .move (.tmp 9), none, 0⟩] false) (.cond (.tmp 8) (.seq (.ops [⟨(some 10), .faddr 2 (.tmp 2), none, 0⟩,
    ⟨(some 11), .load1 (.tmp 10), none, 0⟩,
    ⟨(some 12), .call 215 [(.tmp 11)], none, 0⟩,
    ⟨(some 13), .call 220 [(.tmp 12)], none, 0⟩,
    ⟨none, .store 3 (.tmp 4) (.tmp 13), none, 0⟩] false) (.ret)) (.seq (.ops [⟨(some 15), .bin .eql (.tmp 7) (.const (.int .i64 3)), none, 0⟩,
    ⟨(some 14), .move (.tmp 15), none, 0⟩] false) (.cond (.tmp 14) (.seq (.ops [⟨(some 16), .faddr 2 (.tmp 2), none, 0⟩,
    ⟨(some 17), .load1 (.tmp 16), none, 0⟩,
    ⟨(some 18), .call 215 [(.tmp 17)], none, 0⟩,
    ⟨(some 19), .call 218 [(.const (.int .i64 10)), (.tmp 18)], none, 0⟩,
    ⟨none, .store 3 (.tmp 4) (.tmp 19), none, 0⟩] false) (.ret)) (.seq (.ops [⟨(some 21), .bin .eql (.tmp 7) (.const (.int .i64 5)), none, 0⟩,
    ⟨(some 20), .move (.tmp 21), none, 0⟩] false) (.cond (.tmp 20) (.seq (.ops [⟨(some 22), .faddr 2 (.tmp 2), none, 0⟩,
    ⟨(some 23), .load1 (.tmp 22), none, 1⟩,
    ⟨(some 24), .call 215 [(.tmp 23)], none, 3⟩,
    ⟨(some 25), .call 216 [(.tmp 24)], none, 7⟩,
    ⟨(some 26), .faddr 3 (.tmp 2), none, 0⟩,
    ⟨(some 27), .load1 (.tmp 26), none, 16⟩,
    ⟨(some 28), .call 215 [(.tmp 27)], none, 63⟩,
    ⟨(some 29), .call 221 [(.tmp 25), (.tmp 28)], none, 127⟩,
    ⟨(some 30), .faddr 2 (.tmp 2), none, 0⟩,
    ⟨(some 31), .load1 (.tmp 30), none, 256⟩,
    ⟨(some 32), .call 215 [(.tmp 31)], none, 1023⟩,
    ⟨(some 33), .call 216 [(.tmp 32)], none, 2047⟩,
    ⟨(some 34), .call 220 [(.tmp 33)], none, 4095⟩,
    ⟨(some 35), .call 217 [(.tmp 29), (.tmp 34)], none, 8191⟩,
    ⟨none, .store 3 (.tmp 4) (.tmp 35), none, 16383⟩] true) (.ret)) (.seq (.ops [⟨(some 37), .bin .eql (.tmp 7) (.const (.int .i64 6)), none, 0⟩,
    ⟨(some 36), .move (.tmp 37), none, 0⟩] false) (.cond (.tmp 36) (.seq (.ops [⟨(some 38), .faddr 2 (.tmp 2), none, 0⟩,
    ⟨(some 39), .load1 (.tmp 38), none, 1⟩,
    ⟨(some 40), .call 215 [(.tmp 39)], none, 3⟩,
    ⟨(some 41), .call 216 [(.tmp 40)], none, 7⟩,
    ⟨(some 42), .faddr 3 (.tmp 2), none, 0⟩,
    ⟨(some 43), .load1 (.tmp 42), none, 16⟩,
    ⟨(some 44), .call 215 [(.tmp 43)], none, 63⟩,
    ⟨(some 45), .call 218 [(.const (.int .i64 10)), (.tmp 44)], none, 127⟩,
    ⟨(some 46), .call 217 [(.tmp 41), (.tmp 45)], none, 255⟩,
    ⟨(some 47), .call 220 [(.tmp 46)], none, 511⟩,
    ⟨none, .store 3 (.tmp 4) (.tmp 47), none, 1023⟩] true) (.ret)) (.seq (.ops [⟨(some 49), .bin .eql (.tmp 7) (.const (.int .i64 4)), none, 0⟩,
    ⟨(some 48), .move (.tmp 49), none, 0⟩] false) (.cond (.tmp 48) (.seq (.ops [⟨(some 50), .move (.tmp 1), none, 0⟩,
    ⟨(some 51), .bin .gtr (.tmp 50) (.const (.int .i64 0)), none, 0⟩] false) (.cond (.tmp 51) (.seq (.ops [⟨(some 52), .faddr 2 (.tmp 2), none, 0⟩,
    ⟨(some 53), .load1 (.tmp 52), none, 1⟩,
    ⟨(some 54), .call 215 [(.tmp 53)], none, 3⟩,
    ⟨(some 55), .loadA 7 (.tmp 2), none, 0⟩,
    ⟨(some 56), .move (.tmp 1), none, 0⟩,
    ⟨(some 57), .bin .sub (.tmp 56) (.const (.int .i64 1)), none, 16⟩,
    ⟨(some 58), .call 223 [(.tmp 55), (.tmp 57)], none, 63⟩,
    ⟨(some 59), .call 218 [(.const (.int .i64 7)), (.tmp 58)], none, 127⟩,
    ⟨(some 60), .call 222 [(.tmp 54), (.tmp 59)], none, 255⟩,
    ⟨(some 5), .alloc [(.int .i64 0), (.int .i64 0), (.slice none 0 0)], none, 0⟩,
    ⟨none, .store 3 (.tmp 5) (.tmp 60), none, 1023⟩] true) (.seq (.ops [⟨(some 61), .faddr 2 (.tmp 2), none, 0⟩,
    ⟨(some 62), .load1 (.tmp 61), none, 1⟩,
    ⟨(some 63), .call 215 [(.tmp 62)], none, 3⟩,
    ⟨(some 64), .call 216 [(.tmp 63)], none, 7⟩,
    ⟨(some 65), .loadA 3 (.tmp 5), none, 0⟩,
    ⟨(some 66), .call 221 [(.tmp 64), (.tmp 65)], none, 31⟩,
    ⟨(some 67), .faddr 2 (.tmp 2), none, 0⟩,
    ⟨(some 68), .load1 (.tmp 67), none, 64⟩,
    ⟨(some 69), .call 215 [(.tmp 68)], none, 255⟩,
    ⟨(some 70), .call 216 [(.tmp 69)], none, 511⟩,
    ⟨(some 71), .call 220 [(.tmp 70)], none, 1023⟩,
    ⟨(some 72), .call 217 [(.tmp 66), (.tmp 71)], none, 2047⟩,
    ⟨none, .store 3 (.tmp 4) (.tmp 72), none, 4095⟩] true) (.ret))) (.skip))) (.skip))))))))))))) (.seq (.ops [⟨(some 73), .faddr 2 (.tmp 2), none, 0⟩,
    ⟨(some 74), .load1 (.tmp 73), none, 0⟩,
    ⟨(some 75), .call 215 [(.tmp 74)], none, 0⟩,
    ⟨(some 76), .call 216 [(.tmp 75)], none, 0⟩,
    ⟨(some 77), .call 220 [(.tmp 76)], none, 0⟩,
    ⟨none, .store 3 (.tmp 4) (.tmp 77), none, 0⟩] false) (.ret)))
set_option maxRecDepth 100000 in
theorem c223_ok : FunOK Try.prog 223 78 [.agg 4 3] c223 := ⟨⟨Try.f223, Try.func223, rfl, by kernel_rfl, rfl, by kernel_rfl⟩⟩
def c256 : PC := .seq (.ops [⟨(some 6), .alloc [(.int .i64 0), (.int .i64 0), (.slice none 0 0)], none, 0⟩] false) (.seq (.seq (.ops [⟨(some 7), .move (.tmp 0), none, 0⟩] false) (.cond (.tmp 7) (.seq (.ops [⟨(some 8), .move (.tmp 1), none, 0⟩,
    ⟨(some 9), .callv (.tmp 8) [], none, 0⟩,
    ⟨(some 10), .move (.tmp 2), none, 0⟩,
    ⟨(some 11), .callv (.tmp 10) [], none, 0⟩,
    ⟨(some 12), .call 221 [(.tmp 9), (.tmp 11)], none, 0⟩,
    ⟨(some 13), .move (.tmp 1), none, 0⟩,
    ⟨(some 14), .callv (.tmp 13) [], none, 0⟩,
    ⟨(some 15), .call 220 [(.tmp 14)], none, 0⟩,
    ⟨(some 16), .call 217 [(.tmp 12), (.tmp 15)], none, 0⟩,
    ⟨none, .store 3 (.tmp 6) (.tmp 16), none, 0⟩] false) (.ret)) (.skip))) (.seq (.ops [⟨(some 17), .move (.tmp 1), none, 0⟩,
    ⟨(some 18), .callv (.tmp 17) [], none, 0⟩,
    ⟨(some 19), .move (.tmp 2), none, 0⟩,
    ⟨(some 20), .callv (.tmp 19) [], none, 0⟩,
    ⟨(some 21), .call 221 [(.tmp 18), (.tmp 20)], none, 0⟩,
    ⟨none, .store 3 (.tmp 6) (.tmp 21), none, 0⟩] false) (.ret)))
set_option maxRecDepth 100000 in
theorem c256_ok : FunOK Try.prog 256 22 [.agg 6 3] c256 := ⟨⟨Try.f256, Try.func256, rfl, by kernel_rfl, rfl, by kernel_rfl⟩⟩
def c254 : PC := .seq (.ops [⟨(some 1), .alloc [(.int .i64 0), (.int .i64 0), (.slice none 0 0)], none, 0⟩] false) (.seq (.ops [⟨(some 2), .faddr 2 (.tmp 0), none, 0⟩,
    ⟨(some 3), .load1 (.tmp 2), none, 0⟩,
    ⟨(some 4), .call 215 [(.tmp 3)], none, 0⟩,
    ⟨(some 5), .call 216 [(.tmp 4)], none, 0⟩,
    ⟨none, .store 3 (.tmp 1) (.tmp 5), none, 0⟩] false) (.ret))
set_option maxRecDepth 100000 in
theorem c254_ok : FunOK Try.prog 254 6 [.agg 1 3] c254 := ⟨⟨Try.f254, Try.func254, rfl, by kernel_rfl, rfl, by kernel_rfl⟩⟩
def c255 : PC := .seq (.ops [⟨(some 1), .alloc [(.int .i64 0), (.int .i64 0), (.slice none 0 0)], none, 0⟩] false) (.seq (.ops [⟨(some 2), .faddr 5 (.tmp 0), none, 0⟩,
    ⟨(some 3), .load1 (.tmp 2), none, 0⟩,
    ⟨(some 4), .call 215 [(.tmp 3)], none, 0⟩,
    ⟨none, .store 3 (.tmp 1) (.tmp 4), none, 0⟩] false) (.ret))
set_option maxRecDepth 100000 in
theorem c255_ok : FunOK Try.prog 255 5 [.agg 1 3] c255 := ⟨⟨Try.f255, Try.func255, rfl, by kernel_rfl, rfl, by kernel_rfl⟩⟩
def c257 : PC := .seq (.ops [⟨(some 1), .alloc [(.int .i64 0), (.int .i64 0), (.slice none 0 0)], none, 0⟩] false) (.seq (.ops [⟨(some 2), .faddr 2 (.tmp 0), none, 0⟩,
    ⟨(some 3), .load1 (.tmp 2), none, 0⟩,
    ⟨(some 4), .call 215 [(.tmp 3)], none, 0⟩,
    ⟨none, .store 3 (.tmp 1) (.tmp 4), none, 0⟩] false) (.ret))
set_option maxRecDepth 100000 in
theorem c257_ok : FunOK Try.prog 257 5 [.agg 1 3] c257 := ⟨⟨Try.f257, Try.func257, rfl, by kernel_rfl, rfl, by kernel_rfl⟩⟩
def c258 : PC := .seq (.ops [⟨(some 2), .alloc [(.int .i64 0), (.int .i64 0), (.slice none 0 0)], none, 0⟩] false) (.seq (.ops [⟨(some 3), .faddr 3 (.tmp 0), none, 0⟩,
    ⟨(some 4), .load1 (.tmp 3), none, 1⟩,
    ⟨(some 5), .call 215 [(.tmp 4)], none, 3⟩,
    ⟨(some 6), .load1 (.tmp 1), none, 0⟩,
    ⟨(some 7), .callv (.tmp 6) [], none, 15⟩,
    ⟨(some 8), .call 217 [(.tmp 5), (.tmp 7)], none, 31⟩,
    ⟨none, .store 3 (.tmp 2) (.tmp 8), none, 63⟩] true) (.ret))
set_option maxRecDepth 100000 in
theorem c258_ok : FunOK Try.prog 258 9 [.agg 2 3] c258 := ⟨⟨Try.f258, Try.func258, rfl, by kernel_rfl, rfl, by kernel_rfl⟩⟩
def c259 : PC := .seq (.ops [⟨(some 3), .alloc [(.int .i64 0), (.int .i64 0), (.slice none 0 0)], none, 0⟩] false) (.seq (.ops [⟨(some 4), .load1 (.tmp 0), none, 0⟩,
    ⟨(some 5), .callv (.tmp 4) [], none, 1⟩,
    ⟨(some 6), .load1 (.tmp 1), none, 0⟩,
    ⟨(some 7), .callv (.tmp 6) [], none, 7⟩,
    ⟨(some 8), .call 216 [(.tmp 7)], none, 15⟩,
    ⟨(some 9), .faddr 3 (.tmp 2), none, 0⟩,
    ⟨(some 10), .load1 (.tmp 9), none, 32⟩,
    ⟨(some 11), .call 215 [(.tmp 10)], none, 127⟩,
    ⟨(some 12), .load1 (.tmp 1), none, 0⟩,
    ⟨(some 13), .callv (.tmp 12) [], none, 511⟩,
    ⟨(some 14), .call 216 [(.tmp 13)], none, 1023⟩,
    ⟨(some 15), .call 222 [(.tmp 11), (.tmp 14)], none, 2047⟩,
    ⟨(some 16), .call 221 [(.tmp 8), (.tmp 15)], none, 4095⟩,
    ⟨(some 17), .call 217 [(.tmp 5), (.tmp 16)], none, 8191⟩,
    ⟨none, .store 3 (.tmp 3) (.tmp 17), none, 16383⟩] true) (.ret))
set_option maxRecDepth 100000 in
theorem c259_ok : FunOK Try.prog 259 18 [.agg 3 3] c259 := ⟨⟨Try.f259, Try.func259, rfl, by kernel_rfl, rfl, by kernel_rfl⟩⟩
def c260 : PC := .seq (.ops [⟨(some 4), .alloc [(.int .i64 0), (.int .i64 0), (.slice none 0 0)], none, 0⟩] false) (.seq (.ops [⟨(some 5), .load1 (.tmp 0), none, 0⟩,
    ⟨(some 6), .callv (.tmp 5) [], none, 1⟩,
    ⟨(some 7), .faddr 2 (.tmp 1), none, 0⟩,
    ⟨(some 8), .load1 (.tmp 7), none, 4⟩,
    ⟨(some 9), .call 215 [(.tmp 8)], none, 15⟩,
    ⟨(some 10), .load1 (.tmp 0), none, 0⟩,
    ⟨(some 11), .callv (.tmp 10) [], none, 63⟩,
    ⟨(some 12), .call 216 [(.tmp 11)], none, 127⟩,
    ⟨(some 13), .call 222 [(.tmp 9), (.tmp 12)], none, 255⟩,
    ⟨(some 14), .loadA 7 (.tmp 1), none, 0⟩,
    ⟨(some 15), .load1 (.tmp 2), none, 0⟩,
    ⟨(some 16), .bin .sub (.tmp 15) (.const (.int .i64 1)), none, 1024⟩,
    ⟨(some 17), .load1 (.tmp 3), none, 0⟩,
    ⟨(some 18), .call 219 [(.tmp 14), (.tmp 16), (.tmp 17)], none, 8191⟩,
    ⟨(some 19), .call 218 [(.const (.int .i64 7)), (.tmp 18)], none, 16383⟩,
    ⟨(some 20), .call 222 [(.tmp 13), (.tmp 19)], none, 32767⟩,
    ⟨(some 21), .call 217 [(.tmp 6), (.tmp 20)], none, 65535⟩,
    ⟨none, .store 3 (.tmp 4) (.tmp 21), none, 131071⟩] true) (.ret))
set_option maxRecDepth 100000 in
theorem c260_ok : FunOK Try.prog 260 22 [.agg 4 3] c260 := ⟨⟨Try.f260, Try.func260, rfl, by kernel_rfl, rfl, by kernel_rfl⟩⟩
def c219 : PC := .seq (.ops [⟨(some 3), .box (.tmp 0), none, 0⟩,
    ⟨(some 4), .box (.tmp 1), none, 0⟩,
    ⟨(some 5), .box (.tmp 2), none, 0⟩,
    ⟨(some 6), .alloc [(.int .i64 0), (.int .i64 0), (.slice none 0 0)], none, 0⟩] false) (.seq (.ops [⟨(some 10), .mkfn (.func 254) [] [(.tmp 3)], none, 0⟩,
    ⟨(some 7), .alloc [(.nilFunc)], none, 0⟩,
    ⟨none, .store 1 (.tmp 7) (.tmp 10), none, 0⟩] false) (.seq (.ops [⟨(some 11), .mkfn (.func 255) [] [(.tmp 3)], none, 0⟩,
    ⟨(some 8), .alloc [(.nilFunc)], none, 0⟩,
    ⟨none, .store 1 (.tmp 8) (.tmp 11), none, 0⟩] false) (.seq (.seq (.stop (.ops [⟨(some 12), .faddr 0 (.tmp 3), none, 0⟩,
    ⟨(some 13), .load1 (.tmp 12), none, 0⟩] false)) (.block 0 (.seq (.ops [⟨(some 15), .bin .eql (.tmp 13) (.const (.int .i64 2)), none, 0⟩,
    ⟨(some 14), .move (.tmp 15), none, 0⟩] false) (.cond (.tmp 14) (.seq (.ops [⟨(some 16), .load1 (.tmp 5), none, 0⟩,
    ⟨(some 17), .mkfn (.func 257) [] [(.tmp 3)], none, 0⟩,
    ⟨(some 18), .load1 (.tmp 8), none, 0⟩,
    ⟨(some 19), .call 256 [(.tmp 16), (.tmp 17), (.tmp 18)], none, 0⟩,
    ⟨none, .store 3 (.tmp 6) (.tmp 19), none, 0⟩] false) (.ret)) (.seq (.ops [⟨(some 21), .bin .eql (.tmp 13) (.const (.int .i64 3)), none, 0⟩,
    ⟨(some 20), .move (.tmp 21), none, 0⟩] false) (.cond (.tmp 20) (.seq (.ops [⟨(some 22), .load1 (.tmp 8), none, 0⟩,
    ⟨(some 23), .callv (.tmp 22) [], none, 1⟩,
    ⟨(some 24), .call 216 [(.tmp 23)], none, 3⟩,
    ⟨(some 25), .faddr 2 (.tmp 3), none, 0⟩,
    ⟨(some 26), .load1 (.tmp 25), none, 8⟩,
    ⟨(some 27), .call 215 [(.tmp 26)], none, 31⟩,
    ⟨(some 28), .load1 (.tmp 8), none, 0⟩,
    ⟨(some 29), .callv (.tmp 28) [], none, 127⟩,
    ⟨(some 30), .call 216 [(.tmp 29)], none, 255⟩,
    ⟨(some 31), .call 222 [(.tmp 27), (.tmp 30)], none, 511⟩,
    ⟨(some 32), .call 221 [(.tmp 24), (.tmp 31)], none, 1023⟩,
    ⟨none, .store 3 (.tmp 6) (.tmp 32), none, 2047⟩] true) (.ret)) (.seq (.ops [⟨(some 34), .bin .eql (.tmp 13) (.const (.int .i64 5)), none, 0⟩,
    ⟨(some 33), .move (.tmp 34), none, 0⟩] false) (.cond (.tmp 33) (.seq (.ops [⟨(some 35), .load1 (.tmp 5), none, 0⟩,
    ⟨(some 36), .load1 (.tmp 7), none, 0⟩,
    ⟨(some 37), .mkfn (.func 258) [] [(.tmp 3), (.tmp 8)], none, 0⟩,
    ⟨(some 38), .call 256 [(.tmp 35), (.tmp 36), (.tmp 37)], none, 0⟩,
    ⟨none, .store 3 (.tmp 6) (.tmp 38), none, 0⟩] false) (.ret)) (.seq (.ops [⟨(some 40), .bin .eql (.tmp 13) (.const (.int .i64 6)), none, 0⟩,
    ⟨(some 39), .move (.tmp 40), none, 0⟩] false) (.cond (.tmp 39) (.seq (.ops [⟨(some 41), .mkfn (.func 259) [] [(.tmp 7), (.tmp 8), (.tmp 3)], none, 0⟩,
    ⟨(some 9), .move (.tmp 41), none, 0⟩] false) (.seq (.ops [⟨(some 42), .load1 (.tmp 5), none, 0⟩,
    ⟨(some 43), .move (.tmp 9), none, 0⟩,
    ⟨(some 44), .load1 (.tmp 8), none, 0⟩,
    ⟨(some 45), .call 256 [(.tmp 42), (.tmp 43), (.tmp 44)], none, 0⟩,
    ⟨none, .store 3 (.tmp 6) (.tmp 45), none, 0⟩] false) (.ret))) (.seq (.ops [⟨(some 47), .bin .eql (.tmp 13) (.const (.int .i64 4)), none, 0⟩,
    ⟨(some 46), .move (.tmp 47), none, 0⟩] false) (.cond (.tmp 46) (.seq (.ops [⟨(some 48), .load1 (.tmp 4), none, 0⟩,
    ⟨(some 49), .bin .gtr (.tmp 48) (.const (.int .i64 0)), none, 0⟩] false) (.cond (.tmp 49) (.seq (.ops [⟨(some 50), .load1 (.tmp 5), none, 0⟩,
    ⟨(some 51), .load1 (.tmp 7), none, 0⟩,
    ⟨(some 52), .mkfn (.func 260) [] [(.tmp 8), (.tmp 3), (.tmp 4), (.tmp 5)], none, 0⟩,
    ⟨(some 53), .call 256 [(.tmp 50), (.tmp 51), (.tmp 52)], none, 0⟩,
    ⟨none, .store 3 (.tmp 6) (.tmp 53), none, 0⟩] false) (.ret)) (.skip))) (.skip))))))))))))) (.seq (.ops [⟨(some 54), .load1 (.tmp 5), none, 0⟩,
    ⟨(some 55), .load1 (.tmp 7), none, 0⟩,
    ⟨(some 56), .load1 (.tmp 8), none, 0⟩,
    ⟨(some 57), .call 256 [(.tmp 54), (.tmp 55), (.tmp 56)], none, 0⟩,
    ⟨none, .store 3 (.tmp 6) (.tmp 57), none, 0⟩] false) (.ret)))))
set_option maxRecDepth 100000 in
theorem c219_ok : FunOK Try.prog 219 58 [.agg 6 3] c219 := ⟨⟨Try.f219, Try.func219, rfl, by kernel_rfl, rfl, by kernel_rfl⟩⟩
def c179 : PC := .seq (.ops [⟨(some 1), .box (.tmp 0), none, 0⟩,
    ⟨(some 2), .alloc [(.int .i64 0), (.int .i64 0), (.slice none 0 0)], none, 0⟩] false) (.seq (.ops [⟨(some 5), .faddr 4 (.tmp 1), none, 0⟩,
    ⟨(some 6), .load1 (.tmp 5), none, 1⟩,
    ⟨(some 7), .call 215 [(.tmp 6)], none, 3⟩,
    ⟨(some 8), .faddr 5 (.tmp 1), none, 0⟩,
    ⟨(some 9), .load1 (.tmp 8), none, 8⟩,
    ⟨(some 10), .call 215 [(.tmp 9)], none, 31⟩,
    ⟨(some 11), .call 216 [(.tmp 10)], none, 63⟩,
    ⟨(some 3), .alloc [(.int .i64 0), (.int .i64 0), (.slice none 0 0)], none, 0⟩,
    ⟨(some 4), .alloc [(.int .i64 0), (.int .i64 0), (.slice none 0 0)], none, 0⟩,
    ⟨none, .store 3 (.tmp 3) (.tmp 7), none, 511⟩,
    ⟨none, .store 3 (.tmp 4) (.tmp 11), none, 1023⟩] true) (.seq (.seq (.ops [⟨(some 12), .faddr 1 (.tmp 1), none, 0⟩,
    ⟨(some 13), .load1 (.tmp 12), none, 0⟩] false) (.block 0 (.seq (.ops [⟨(some 15), .bin .eql (.tmp 13) (.const (.int .i64 2)), none, 0⟩,
    ⟨(some 14), .move (.tmp 15), none, 0⟩] false) (.cond (.tmp 14) (.seq (.ops [⟨(some 16), .faddr 5 (.tmp 1), none, 0⟩,
    ⟨(some 17), .load1 (.tmp 16), none, 1⟩,
    ⟨(some 18), .call 215 [(.tmp 17)], none, 3⟩,
    ⟨(some 19), .call 218 [(.const (.int .i64 10)), (.tmp 18)], none, 7⟩,
    ⟨(some 20), .call 216 [(.tmp 19)], none, 15⟩,
    ⟨(some 21), .loadA 7 (.tmp 1), none, 0⟩,
    ⟨(some 22), .faddr 6 (.tmp 1), none, 0⟩,
    ⟨(some 23), .load1 (.tmp 22), none, 64⟩,
    ⟨(some 24), .call 219 [(.tmp 21), (.tmp 23), (.const (.bool false))], none, 255⟩,
    ⟨(some 25), .call 217 [(.tmp 20), (.tmp 24)], none, 511⟩,
    ⟨none, .store 3 (.tmp 2) (.tmp 25), none, 1023⟩] true) (.ret)) (.seq (.ops [⟨(some 27), .bin .eql (.tmp 13) (.const (.int .i64 3)), none, 0⟩,
    ⟨(some 26), .move (.tmp 27), none, 0⟩] false) (.cond (.tmp 26) (.seq (.ops [⟨(some 28), .loadA 3 (.tmp 3), none, 0⟩,
    ⟨(some 29), .call 216 [(.tmp 28)], none, 1⟩,
    ⟨(some 30), .call 220 [(.tmp 29)], none, 3⟩,
    ⟨(some 31), .faddr 4 (.tmp 1), none, 0⟩,
    ⟨(some 32), .load1 (.tmp 31), none, 8⟩,
    ⟨(some 33), .call 215 [(.tmp 32)], none, 31⟩,
    ⟨(some 34), .call 216 [(.tmp 33)], none, 63⟩,
    ⟨(some 35), .faddr 4 (.tmp 1), none, 0⟩,
    ⟨(some 36), .load1 (.tmp 35), none, 128⟩,
    ⟨(some 37), .call 215 [(.tmp 36)], none, 511⟩,
    ⟨(some 38), .loadA 7 (.tmp 1), none, 0⟩,
    ⟨(some 39), .faddr 6 (.tmp 1), none, 0⟩,
    ⟨(some 40), .load1 (.tmp 39), none, 2048⟩,
    ⟨(some 41), .call 223 [(.tmp 38), (.tmp 40)], none, 8191⟩,
    ⟨(some 42), .call 222 [(.tmp 37), (.tmp 41)], none, 16383⟩,
    ⟨(some 43), .call 221 [(.tmp 34), (.tmp 42)], none, 32767⟩,
    ⟨(some 44), .call 217 [(.tmp 30), (.tmp 43)], none, 65535⟩,
    ⟨none, .store 3 (.tmp 2) (.tmp 44), none, 131071⟩] true) (.ret)) (.seq (.ops [⟨(some 46), .bin .eql (.tmp 13) (.const (.int .i64 4)), none, 0⟩,
    ⟨(some 45), .move (.tmp 46), none, 0⟩] false) (.cond (.tmp 45) (.seq (.ops [⟨(some 47), .loadA 3 (.tmp 3), none, 0⟩,
    ⟨(some 48), .loadA 3 (.tmp 4), none, 0⟩,
    ⟨(some 49), .call 222 [(.tmp 47), (.tmp 48)], none, 3⟩,
    ⟨(some 50), .faddr 5 (.tmp 1), none, 0⟩,
    ⟨(some 51), .load1 (.tmp 50), none, 8⟩,
    ⟨(some 52), .call 215 [(.tmp 51)], none, 31⟩,
    ⟨(some 53), .call 218 [(.const (.int .i64 10)), (.tmp 52)], none, 63⟩,
    ⟨(some 54), .call 222 [(.tmp 49), (.tmp 53)], none, 127⟩,
    ⟨(some 55), .call 216 [(.tmp 54)], none, 255⟩,
    ⟨(some 56), .loadA 7 (.tmp 1), none, 0⟩,
    ⟨(some 57), .faddr 6 (.tmp 1), none, 0⟩,
    ⟨(some 58), .load1 (.tmp 57), none, 1024⟩,
    ⟨(some 59), .call 219 [(.tmp 56), (.tmp 58), (.const (.bool false))], none, 4095⟩,
    ⟨(some 60), .call 217 [(.tmp 55), (.tmp 59)], none, 8191⟩,
    ⟨(some 61), .call 220 [(.tmp 60)], none, 16383⟩,
    ⟨none, .store 3 (.tmp 2) (.tmp 61), none, 32767⟩] true) (.ret)) (.seq (.ops [⟨(some 63), .bin .eql (.tmp 13) (.const (.int .i64 5)), none, 0⟩,
    ⟨(some 62), .move (.tmp 63), none, 0⟩] false) (.cond (.tmp 62) (.seq (.ops [⟨(some 64), .loadA 3 (.tmp 3), none, 0⟩,
    ⟨(some 65), .loadA 3 (.tmp 4), none, 0⟩,
    ⟨(some 66), .call 222 [(.tmp 64), (.tmp 65)], none, 3⟩,
    ⟨(some 67), .call 216 [(.tmp 66)], none, 7⟩,
    ⟨(some 68), .loadA 7 (.tmp 1), none, 0⟩,
    ⟨(some 69), .faddr 6 (.tmp 1), none, 0⟩,
    ⟨(some 70), .load1 (.tmp 69), none, 32⟩,
    ⟨(some 71), .call 219 [(.tmp 68), (.tmp 70), (.const (.bool true))], none, 127⟩,
    ⟨(some 72), .call 217 [(.tmp 67), (.tmp 71)], none, 255⟩,
    ⟨(some 73), .call 220 [(.tmp 72)], none, 511⟩,
    ⟨none, .store 3 (.tmp 2) (.tmp 73), none, 1023⟩] true) (.ret)) (.skip))))))))))) (.seq (.ops [⟨(some 74), .loadA 7 (.tmp 1), none, 0⟩,
    ⟨(some 75), .faddr 6 (.tmp 1), none, 0⟩,
    ⟨(some 76), .load1 (.tmp 75), none, 0⟩,
    ⟨(some 77), .call 223 [(.tmp 74), (.tmp 76)], none, 0⟩,
    ⟨none, .store 3 (.tmp 2) (.tmp 77), none, 0⟩] false) (.ret))))
set_option maxRecDepth 100000 in
theorem c179_ok : FunOK Try.prog 179 78 [.agg 2 3] c179 := ⟨⟨Try.f179, Try.func179, rfl, by kernel_rfl, rfl, by kernel_rfl⟩⟩
def c114 : PC := .seq (.ops [⟨(some 1), .box (.tmp 0), none, 0⟩,
    ⟨(some 2), .alloc [(.int .i64 0), (.int .i64 0), (.slice none 0 0)], none, 0⟩,
    ⟨(some 3), .move (.const (.int .i64 0)), none, 0⟩] false) (.seq (.seq (.ops [⟨(some 7), .loadA 7 (.tmp 1), none, 0⟩,
    ⟨(some 8), .call 82 [(.tmp 7)], none, 0⟩,
    ⟨(some 4), .move (.tmp 8), none, 0⟩] false) (.seq (.ops [⟨(some 9), .move (.tmp 4), none, 0⟩,
    ⟨(some 10), .bin .neq (.tmp 9) (.const (.int .i64 0)), none, 0⟩] false) (.cond (.tmp 10) (.seq (.ops [⟨(some 11), .build [(.int .i64 0), (.int .i64 0), (.slice none 0 0)] [], none, 0⟩,
    ⟨(some 12), .move (.tmp 4), none, 0⟩,
    ⟨none, .store 3 (.tmp 2) (.tmp 11), none, 0⟩,
    ⟨(some 3), .move (.tmp 12), none, 0⟩] false) (.ret)) (.skip)))) (.seq (.ops [⟨(some 13), .loadA 7 (.tmp 1), none, 0⟩,
    ⟨(some 14), .call 179 [(.tmp 13)], none, 0⟩,
    ⟨(some 5), .alloc [(.int .i64 0), (.int .i64 0), (.slice none 0 0)], none, 0⟩,
    ⟨none, .store 3 (.tmp 5) (.tmp 14), none, 0⟩] false) (.seq (.seq (.ops [⟨(some 15), .loadA 3 (.tmp 5), none, 0⟩,
    ⟨(some 16), .call 116 [(.tmp 15)], none, 0⟩,
    ⟨(some 6), .move (.tmp 16), none, 0⟩] false) (.seq (.ops [⟨(some 17), .move (.tmp 6), none, 0⟩,
    ⟨(some 18), .bin .neq (.tmp 17) (.const (.int .i64 0)), none, 0⟩] false) (.cond (.tmp 18) (.seq (.ops [⟨(some 19), .build [(.int .i64 0), (.int .i64 0), (.slice none 0 0)] [], none, 0⟩,
    ⟨(some 20), .move (.tmp 6), none, 0⟩,
    ⟨none, .store 3 (.tmp 2) (.tmp 19), none, 0⟩,
    ⟨(some 3), .move (.tmp 20), none, 0⟩] false) (.ret)) (.skip)))) (.seq (.ops [⟨(some 21), .loadA 3 (.tmp 5), none, 0⟩,
    ⟨none, .store 3 (.tmp 2) (.tmp 21), none, 0⟩,
    ⟨(some 3), .move (.const (.int .i64 0)), none, 0⟩] false) (.ret)))))
set_option maxRecDepth 100000 in
theorem c114_ok : FunOK Try.prog 114 22 [.agg 2 3, .tmp 3] c114 := ⟨⟨Try.f114, Try.func114, rfl, by kernel_rfl, rfl, by kernel_rfl⟩⟩
theorem dwy_global (x : Pat) : ∀ n : Nat, n ≤ 3 → PCall Try.prog 223 [dpat x, .sc (.int .i64 n)] (dtree (globT x n)) := by
  intro n
  induction n with
  | zero =>
    intro _
    refine pcall_intro c223_ok (by simp) (by simp [PureL, Pure, pure_dpat]) ?_ (pure_dtree _)
    (apply red_sound; focus (repeat' (first | exact Red.skip | exact Red.ret | exact RedO.nil | exact RedD.nil | exact Red.exit _ | exact Red.loop _ | exact Red.stop _ | apply Red.ops | apply Red.draw | apply Red.seq | apply Red.cond | apply Red.block | apply RedO.cons | apply RedD.cons | exact (0 : Nat))))
    ((conv => whnf); repeat (refine And.intro rfl ?_; (conv => whnf)))
    repeat' (first
      | (refine ifK_split (fun h => ?_) (fun h => ?_) <;> (rw [h]; ((conv => whnf); repeat (refine And.intro rfl ?_; (conv => whnf)))))
      | (refine .inl ⟨_, (dwy_leaf _), ?_⟩; ((conv => whnf); repeat (refine And.intro rfl ?_; (conv => whnf))))
      | (refine .inl ⟨_, (dwy_not _), ?_⟩; ((conv => whnf); repeat (refine And.intro rfl ?_; (conv => whnf))))
      | (refine .inl ⟨_, (dwy_always _), ?_⟩; ((conv => whnf); repeat (refine And.intro rfl ?_; (conv => whnf))))
      | (refine .inl ⟨_, (dwy_or _ _), ?_⟩; ((conv => whnf); repeat (refine And.intro rfl ?_; (conv => whnf))))
      | (refine .inl ⟨_, (dwy_and _ _), ?_⟩; ((conv => whnf); repeat (refine And.intro rfl ?_; (conv => whnf))))
      | (refine .inl ⟨_, (dwy_until _ _), ?_⟩; ((conv => whnf); repeat (refine And.intro rfl ?_; (conv => whnf))))
      | (refine .inl ⟨_, (dwy_one 10 _), ?_⟩; ((conv => whnf); repeat (refine And.intro rfl ?_; (conv => whnf))))
      | exact deep_as (by simp_all [globT, globN, noP]) (.refl _))
  | succ n ih =>
    intro hn
    have ih := ih (by omega)
    refine pcall_intro c223_ok (by simp) (by simp [PureL, Pure, pure_dpat]) ?_ (pure_dtree _)
    (apply red_sound; focus (repeat' (first | exact Red.skip | exact Red.ret | exact RedO.nil | exact RedD.nil | exact Red.exit _ | exact Red.loop _ | exact Red.stop _ | apply Red.ops | apply Red.draw | apply Red.seq | apply Red.cond | apply Red.block | apply RedO.cons | apply RedD.cons | exact (0 : Nat))))
    ((conv => whnf); repeat (refine And.intro rfl ?_; (conv => whnf)))
    repeat' (first
      | (refine ifK_split (fun h => ?_) (fun h => ?_) <;> (rw [h]; ((conv => whnf); repeat (refine And.intro rfl ?_; (conv => whnf)))))
      | (refine .inl ⟨_, (dwy_leaf _), ?_⟩; ((conv => whnf); repeat (refine And.intro rfl ?_; (conv => whnf))))
      | (refine .inl ⟨_, (dwy_not _), ?_⟩; ((conv => whnf); repeat (refine And.intro rfl ?_; (conv => whnf))))
      | (refine .inl ⟨_, (dwy_always _), ?_⟩; ((conv => whnf); repeat (refine And.intro rfl ?_; (conv => whnf))))
      | (refine .inl ⟨_, (dwy_or _ _), ?_⟩; ((conv => whnf); repeat (refine And.intro rfl ?_; (conv => whnf))))
      | (refine .inl ⟨_, (dwy_and _ _), ?_⟩; ((conv => whnf); repeat (refine And.intro rfl ?_; (conv => whnf))))
      | (refine .inl ⟨_, (dwy_until _ _), ?_⟩; ((conv => whnf); repeat (refine And.intro rfl ?_; (conv => whnf))))
      | (refine .inl ⟨_, (dwy_one 10 _), ?_⟩; ((conv => whnf); repeat (refine And.intro rfl ?_; (conv => whnf))))
      | (refine .inl ⟨_, (dwy_one 7 _), ?_⟩; ((conv => whnf); repeat (refine And.intro rfl ?_; (conv => whnf))))
      | (refine .inl ⟨_, ih, ?_⟩; ((conv => whnf); repeat (refine And.intro rfl ?_; (conv => whnf))))
      | (refine .inl ⟨by unfold InR; rw [IntKind.wrap_i64]; omega, ?_⟩; rw [show (((n + 1 : Nat) : Int) - 1) = (n : Int) by omega]; ((conv => whnf); repeat (refine And.intro rfl ?_; (conv => whnf))))
      | exact deep_as (by simp_all [globT, globN, noP]) (.refl _))
theorem dwy_weakly (weak : Bool) (f g : FuncId) (c1 c2 : List D) (h1 : PureL c1) (h2 : PureL c2) (a b : Tree) (hA : PCall Try.prog f c1 (dtree a)) (hB : PCall Try.prog g c2 (dtree b)) :
    PCall Try.prog 256 [.sc (.bool weak), .fn (.func f) [] c1, .fn (.func g) [] c2] (dtree (weakT weak a b)) := by
  refine pcall_intro c256_ok (by simp) (by simp [PureL, Pure, h1, h2]) ?_ (pure_dtree _)
  (apply red_sound; focus (repeat' (first | exact Red.skip | exact Red.ret | exact RedO.nil | exact RedD.nil | exact Red.exit _ | exact Red.loop _ | exact Red.stop _ | apply Red.ops | apply Red.draw | apply Red.seq | apply Red.cond | apply Red.block | apply RedO.cons | apply RedD.cons | exact (0 : Nat))))
  ((conv => whnf); repeat (refine And.intro rfl ?_; (conv => whnf)))
  repeat' (first
    | (refine ifK_split (fun h => ?_) (fun h => ?_) <;> (rw [h]; ((conv => whnf); repeat (refine And.intro rfl ?_; (conv => whnf)))))
    | (refine .inl ⟨_, hA, ?_⟩; ((conv => whnf); repeat (refine And.intro rfl ?_; (conv => whnf))))
    | (refine .inl ⟨_, hB, ?_⟩; ((conv => whnf); repeat (refine And.intro rfl ?_; (conv => whnf))))
    | (refine .inl ⟨_, (dwy_always _), ?_⟩; ((conv => whnf); repeat (refine And.intro rfl ?_; (conv => whnf))))
    | (refine .inl ⟨_, (dwy_or _ _), ?_⟩; ((conv => whnf); repeat (refine And.intro rfl ?_; (conv => whnf))))
    | (refine .inl ⟨_, (dwy_until _ _), ?_⟩; ((conv => whnf); repeat (refine And.intro rfl ?_; (conv => whnf))))
    | exact deep_as (by simp_all [weakT]) (.refl _))
def fnNoP (x : Pat) : D := .fn (.func 254) [] [.ipt (patCells x)]
def fnR (x : Pat) : D := .fn (.func 255) [] [.ipt (patCells x)]
theorem dwy_u1 (x : Pat) : PCall Try.prog 254 [.ipt (patCells x)] (dtree (noP x)) := by
  refine pcall_intro c254_ok (by simp) (by simp [PureL, Pure, patCells]) ?_ (pure_dtree _)
  (apply red_sound; focus (repeat' (first | exact Red.skip | exact Red.ret | exact RedO.nil | exact RedD.nil | exact Red.exit _ | exact Red.loop _ | exact Red.stop _ | apply Red.ops | apply Red.draw | apply Red.seq | apply Red.cond | apply Red.block | apply RedO.cons | apply RedD.cons | exact (0 : Nat))))
  ((conv => whnf); repeat (refine And.intro rfl ?_; (conv => whnf)))
  (refine .inl ⟨_, (dwy_leaf _), ?_⟩; ((conv => whnf); repeat (refine And.intro rfl ?_; (conv => whnf))))
  (refine .inl ⟨_, (dwy_not _), ?_⟩; ((conv => whnf); repeat (refine And.intro rfl ?_; (conv => whnf))))
  exact .refl _
theorem dwy_u2 (x : Pat) : PCall Try.prog 255 [.ipt (patCells x)] (dtree (mk0 3 x.r)) := by
  refine pcall_intro c255_ok (by simp) (by simp [PureL, Pure, patCells]) ?_ (pure_dtree _)
  (apply red_sound; focus (repeat' (first | exact Red.skip | exact Red.ret | exact RedO.nil | exact RedD.nil | exact Red.exit _ | exact Red.loop _ | exact Red.stop _ | apply Red.ops | apply Red.draw | apply Red.seq | apply Red.cond | apply Red.block | apply RedO.cons | apply RedD.cons | exact (0 : Nat))))
  ((conv => whnf); repeat (refine And.intro rfl ?_; (conv => whnf)))
  (refine .inl ⟨_, (dwy_leaf _), ?_⟩; ((conv => whnf); repeat (refine And.intro rfl ?_; (conv => whnf))))
  exact .refl _
theorem dwy_u3 (x : Pat) : PCall Try.prog 257 [.ipt (patCells x)] (dtree (mk0 3 x.p)) := by
  refine pcall_intro c257_ok (by simp) (by simp [PureL, Pure, patCells]) ?_ (pure_dtree _)
  (apply red_sound; focus (repeat' (first | exact Red.skip | exact Red.ret | exact RedO.nil | exact RedD.nil | exact Red.exit _ | exact Red.loop _ | exact Red.stop _ | apply Red.ops | apply Red.draw | apply Red.seq | apply Red.cond | apply Red.block | apply RedO.cons | apply RedD.cons | exact (0 : Nat))))
  ((conv => whnf); repeat (refine And.intro rfl ?_; (conv => whnf)))
  (refine .inl ⟨_, (dwy_leaf _), ?_⟩; ((conv => whnf); repeat (refine And.intro rfl ?_; (conv => whnf))))
  exact .refl _
theorem dwy_u4 (x : Pat) : PCall Try.prog 258 [.ipt (patCells x), .ipt [fnR x]] (dtree (mk2 6 (mk0 3 x.s) (mk0 3 x.r))) := by
  refine pcall_intro c258_ok (by simp) (by simp [PureL, Pure, patCells, fnR]) ?_ (pure_dtree _)
  (apply red_sound; focus (repeat' (first | exact Red.skip | exact Red.ret | exact RedO.nil | exact RedD.nil | exact Red.exit _ | exact Red.loop _ | exact Red.stop _ | apply Red.ops | apply Red.draw | apply Red.seq | apply Red.cond | apply Red.block | apply RedO.cons | apply RedD.cons | exact (0 : Nat))))
  ((conv => whnf); repeat (refine And.intro rfl ?_; (conv => whnf)))
  repeat' (first
    | (refine .inl ⟨_, (dwy_leaf _), ?_⟩; ((conv => whnf); repeat (refine And.intro rfl ?_; (conv => whnf))))
    | (refine .inl ⟨_, (dwy_u2 x), ?_⟩; ((conv => whnf); repeat (refine And.intro rfl ?_; (conv => whnf))))
    | (refine .inl ⟨_, (dwy_or _ _), ?_⟩; ((conv => whnf); repeat (refine And.intro rfl ?_; (conv => whnf))))
    | exact deep_as rfl (.refl _))
theorem dwy_u5 (x : Pat) : PCall Try.prog 259 [.ipt [fnNoP x], .ipt [fnR x], .ipt (patCells x)] (dtree (answT x)) := by
  refine pcall_intro c259_ok (by simp) (by simp [PureL, Pure, patCells, fnR, fnNoP]) ?_ (pure_dtree _)
  (apply red_sound; focus (repeat' (first | exact Red.skip | exact Red.ret | exact RedO.nil | exact RedD.nil | exact Red.exit _ | exact Red.loop _ | exact Red.stop _ | apply Red.ops | apply Red.draw | apply Red.seq | apply Red.cond | apply Red.block | apply RedO.cons | apply RedD.cons | exact (0 : Nat))))
  ((conv => whnf); repeat (refine And.intro rfl ?_; (conv => whnf)))
  repeat' (first
    | (refine .inl ⟨_, (dwy_leaf _), ?_⟩; ((conv => whnf); repeat (refine And.intro rfl ?_; (conv => whnf))))
    | (refine .inl ⟨_, (dwy_u1 x), ?_⟩; ((conv => whnf); repeat (refine And.intro rfl ?_; (conv => whnf))))
    | (refine .inl ⟨_, (dwy_u2 x), ?_⟩; ((conv => whnf); repeat (refine And.intro rfl ?_; (conv => whnf))))
    | (refine .inl ⟨_, (dwy_or _ _), ?_⟩; ((conv => whnf); repeat (refine And.intro rfl ?_; (conv => whnf))))
    | (refine .inl ⟨_, (dwy_and _ _), ?_⟩; ((conv => whnf); repeat (refine And.intro rfl ?_; (conv => whnf))))
    | (refine .inl ⟨_, (dwy_until _ _), ?_⟩; ((conv => whnf); repeat (refine And.intro rfl ?_; (conv => whnf))))
    | (refine .inl ⟨_, (dwy_not _), ?_⟩; ((conv => whnf); repeat (refine And.intro rfl ?_; (conv => whnf))))
    | exact deep_as rfl (.refl _))
theorem dwy_u6 (x : Pat) (n : Nat) (hn : n ≤ 3) (weak : Bool) (T : Tree) (h : PCall Try.prog 219 [dpat x, .sc (.int .i64 n), .sc (.bool weak)] (dtree T)) :
    PCall Try.prog 260 [.ipt [fnR x], .ipt (patCells x), .ipt [.sc (.int .i64 ((n + 1 : Nat) : Int))], .ipt [.sc (.bool weak)]] (dtree (moreT x T)) := by
  refine pcall_intro c260_ok (by simp) (by simp [PureL, Pure, patCells, fnR]) ?_ (pure_dtree _)
  (apply red_sound; focus (repeat' (first | exact Red.skip | exact Red.ret | exact RedO.nil | exact RedD.nil | exact Red.exit _ | exact Red.loop _ | exact Red.stop _ | apply Red.ops | apply Red.draw | apply Red.seq | apply Red.cond | apply Red.block | apply RedO.cons | apply RedD.cons | exact (0 : Nat))))
  ((conv => whnf); repeat (refine And.intro rfl ?_; (conv => whnf)))
  repeat' (first
    | (refine .inl ⟨_, (dwy_leaf _), ?_⟩; ((conv => whnf); repeat (refine And.intro rfl ?_; (conv => whnf))))
    | (refine .inl ⟨_, (dwy_u2 x), ?_⟩; ((conv => whnf); repeat (refine And.intro rfl ?_; (conv => whnf))))
    | (refine .inl ⟨_, (dwy_or _ _), ?_⟩; ((conv => whnf); repeat (refine And.intro rfl ?_; (conv => whnf))))
    | (refine .inl ⟨_, (dwy_and _ _), ?_⟩; ((conv => whnf); repeat (refine And.intro rfl ?_; (conv => whnf))))
    | (refine .inl ⟨_, (dwy_one 7 _), ?_⟩; ((conv => whnf); repeat (refine And.intro rfl ?_; (conv => whnf))))
    | (refine .inl ⟨_, (dwy_not _), ?_⟩; ((conv => whnf); repeat (refine And.intro rfl ?_; (conv => whnf))))
    | (refine .inl ⟨_, h, ?_⟩; ((conv => whnf); repeat (refine And.intro rfl ?_; (conv => whnf))))
    | (refine .inl ⟨by unfold InR; rw [IntKind.wrap_i64]; omega, ?_⟩; rw [show (((n + 1 : Nat) : Int) - 1) = (n : Int) by omega]; ((conv => whnf); repeat (refine And.intro rfl ?_; (conv => whnf))))
    | exact deep_as rfl (.refl _))
theorem dwy_up (x : Pat) (n : Nat) (weak : Bool) (T : Tree) (h6 : 0 < n → PCall Try.prog 260 [.ipt [fnR x], .ipt (patCells x), .ipt [.sc (.int .i64 n)], .ipt [.sc (.bool weak)]] (dtree (moreT x T))) :
    PCall Try.prog 219 [dpat x, .sc (.int .i64 n), .sc (.bool weak)] (dtree (upN x weak (decide (0 < n)) T)) := by
  refine pcall_intro c219_ok (by simp) (by simp [PureL, Pure, pure_dpat]) ?_ (pure_dtree _)
  (apply red_sound; focus (repeat' (first | exact Red.skip | exact Red.ret | exact RedO.nil | exact RedD.nil | exact Red.exit _ | exact Red.loop _ | exact Red.stop _ | apply Red.ops | apply Red.draw | apply Red.seq | apply Red.cond | apply Red.block | apply RedO.cons | apply RedD.cons | exact (0 : Nat))))
  ((conv => whnf); repeat (refine And.intro rfl ?_; (conv => whnf)))
  refine pwp_ghostB (leB_freeze (fun i => !(Nat.beq i 3)) (env' := [(3, .ipt (patCells x)), (4, .ipt [.sc (.int .i64 n)]), (5, .ipt [.sc (.bool weak)]), (6, .loc 3 0), (7, .ipt [fnNoP x]), (8, .ipt [fnR x])])
    (H' := [.row false (patCells x), .row false [.sc (.int .i64 n)], .row false [.sc (.bool weak)], .row true [.sc (.int .i64 0), .sc (.int .i64 0), .sc (.slice none 0 0)], .row false [fnNoP x], .row false [fnR x]]) ?_ ?_) ?_
  · (repeat' (first | exact trivial | refine And.intro ?_ ?_ | exact Or.inl rfl | exact Or.inr ⟨rfl, rfl⟩ | exact fun _ => rfl | exact (fun h => by cases h) | refine DeepM.loc _ _ _ _ _ rfl rfl ?_ | refine DeepM.own _ _ _ _ _ _ _ _ rfl rfl ?_ | refine DeepM.fn _ _ _ _ _ ?_ ?_ | refine DeepM.agg _ _ ?_ | refine DeepM.tup _ _ ?_ | refine DeepM.ifc _ _ _ ?_ | exact DeepM.refl _ | refine DeepML.cons _ _ _ _ ?_ ?_ | exact DeepML.refl _ | refine DeepMLL.cons _ _ _ _ ?_ ?_ | exact DeepMLL.refl _ | exact rfl))
  · (repeat' (first | exact trivial | refine And.intro ?_ ?_ | exact Or.inl rfl | exact Or.inr ⟨rfl, rfl⟩ | exact fun _ => rfl | exact (fun h => by cases h) | refine DeepM.loc _ _ _ _ _ rfl rfl ?_ | refine DeepM.own _ _ _ _ _ _ _ _ rfl rfl ?_ | refine DeepM.fn _ _ _ _ _ ?_ ?_ | refine DeepM.agg _ _ ?_ | refine DeepM.tup _ _ ?_ | refine DeepM.ifc _ _ _ ?_ | exact DeepM.refl _ | refine DeepML.cons _ _ _ _ ?_ ?_ | exact DeepML.refl _ | refine DeepMLL.cons _ _ _ _ ?_ ?_ | exact DeepMLL.refl _ | exact rfl))
  (apply red_sound; focus (repeat' (first | exact Red.skip | exact Red.ret | exact RedO.nil | exact RedD.nil | exact Red.exit _ | exact Red.loop _ | exact Red.stop _ | apply Red.ops | apply Red.draw | apply Red.seq | apply Red.cond | apply Red.block | apply RedO.cons | apply RedD.cons | exact (0 : Nat))))
  ((conv => whnf); repeat (refine And.intro rfl ?_; (conv => whnf)))
  repeat' (first
    | (refine ifK_split (fun h => ?_) (fun h => ?_) <;> (rw [h]; ((conv => whnf); repeat (refine And.intro rfl ?_; (conv => whnf)))))
    | (refine .inl ⟨_, (dwy_leaf _), ?_⟩; ((conv => whnf); repeat (refine And.intro rfl ?_; (conv => whnf))))
    | (refine .inl ⟨_, (dwy_u1 x), ?_⟩; ((conv => whnf); repeat (refine And.intro rfl ?_; (conv => whnf))))
    | (refine .inl ⟨_, (dwy_u2 x), ?_⟩; ((conv => whnf); repeat (refine And.intro rfl ?_; (conv => whnf))))
    | (refine .inl ⟨_, (dwy_not _), ?_⟩; ((conv => whnf); repeat (refine And.intro rfl ?_; (conv => whnf))))
    | (refine .inl ⟨_, (dwy_and _ _), ?_⟩; ((conv => whnf); repeat (refine And.intro rfl ?_; (conv => whnf))))
    | (refine .inl ⟨_, (dwy_until _ _), ?_⟩; ((conv => whnf); repeat (refine And.intro rfl ?_; (conv => whnf))))
    | (refine .inl ⟨_, (dwy_weakly weak _ _ _ _ (by simp [PureL, Pure, patCells]) (by simp [PureL, Pure, patCells]) _ _ (dwy_u3 x) (dwy_u2 x)), ?_⟩; ((conv => whnf); repeat (refine And.intro rfl ?_; (conv => whnf))))
    | (refine .inl ⟨_, (dwy_weakly weak _ _ _ _ (by simp [PureL, Pure, patCells]) (by simp [PureL, Pure, patCells, fnR]) _ _ (dwy_u1 x) (dwy_u4 x)), ?_⟩; ((conv => whnf); repeat (refine And.intro rfl ?_; (conv => whnf))))
    | (refine .inl ⟨_, (dwy_weakly weak _ _ _ _ (by simp [PureL, Pure, patCells, fnR, fnNoP]) (by simp [PureL, Pure, patCells]) _ _ (dwy_u5 x) (dwy_u2 x)), ?_⟩; ((conv => whnf); repeat (refine And.intro rfl ?_; (conv => whnf))))
    | (refine .inl ⟨_, (dwy_weakly weak _ _ _ _ (by simp [PureL, Pure, patCells]) (by simp [PureL, Pure, patCells, fnR]) _ _ (dwy_u1 x) (h6 (by ((try simp only [bne_iff_ne, ne_eq, bne_eq_false_iff_eq, beq_iff_eq, beq_eq_false_iff_ne, decide_eq_true_eq, decide_eq_false_iff_not, List.length_map, Bool.not_eq_true, Bool.not_eq_false, Bool.and_eq_true, Bool.or_eq_true, Bool.and_eq_false_iff, Bool.or_eq_false_iff, Bool.not_eq_true', Bool.not_eq_false', Bool.not_true, Bool.not_false, Bool.not_eq_eq_eq_not, not_true_eq_false, not_false_eq_true, reduceCtorEq, Bool.true_or, Bool.false_or, Bool.or_true, Bool.or_false, Bool.true_and, Bool.and_true, Bool.false_and, Bool.and_false, true_and, and_true, or_false, false_or, true_or, or_true, false_and, and_false, Bool.true_eq_false, Bool.false_eq_true] at *) <;> omega)))), ?_⟩; ((conv => whnf); repeat (refine And.intro rfl ?_; (conv => whnf))))
    | (refine .inl ⟨_, (dwy_weakly weak _ _ _ _ (by simp [PureL, Pure, patCells]) (by simp [PureL, Pure, patCells]) _ _ (dwy_u1 x) (dwy_u2 x)), ?_⟩; ((conv => whnf); repeat (refine And.intro rfl ?_; (conv => whnf))))
    | exact deep_as (by simp_all [upN, weakT, noR]) (.refl _))
theorem dwy_upTo (x : Pat) (weak : Bool) : ∀ n : Nat, n ≤ 3 → PCall Try.prog 219 [dpat x, .sc (.int .i64 n), .sc (.bool weak)] (dtree (upT x weak n)) := by
  intro n
  induction n with
  | zero => exact fun _ => dwy_up x 0 weak (mk0 0 0) (fun h => by omega)
  | succ n ih =>
    intro hn
    have := dwy_up x (n + 1) weak (upT x weak n) (fun _ => dwy_u6 x n (by omega) weak _ (ih (by omega)))
    rw [show decide (0 < n + 1) = true from rfl] at this
    exact this
theorem dwy_form (x : Pat) (h : patChk x = 0) : PCall Try.prog 179 [dpat x] (dtree (scopeT x)) := by
  have hc : 0 ≤ x.count ∧ x.count ≤ 3 := by
    unfold patChk at h
    split at h <;> omega
  have hn : x.count = (x.count.toNat : Int) := by omega
  have hg := dwy_global x x.count.toNat (by omega)
  have hu := fun weak => dwy_upTo x weak x.count.toNat (by omega)
  rw [← hn] at hg hu
  clear hn hc h
  refine pcall_intro c179_ok (by simp) (by simp [PureL, pure_dpat]) ?_ (pure_dtree _)
  (apply red_sound; focus (repeat' (first | exact Red.skip | exact Red.ret | exact RedO.nil | exact RedD.nil | exact Red.exit _ | exact Red.loop _ | exact Red.stop _ | apply Red.ops | apply Red.draw | apply Red.seq | apply Red.cond | apply Red.block | apply RedO.cons | apply RedD.cons | exact (0 : Nat))))
  ((conv => whnf); repeat (refine And.intro rfl ?_; (conv => whnf)))
  repeat' (first
    | (refine ifK_split (fun h => ?_) (fun h => ?_) <;> (rw [h]; ((conv => whnf); repeat (refine And.intro rfl ?_; (conv => whnf)))))
    | (refine .inl ⟨_, hg, ?_⟩; ((conv => whnf); repeat (refine And.intro rfl ?_; (conv => whnf))))
    | (refine .inl ⟨_, (hu true), ?_⟩; ((conv => whnf); repeat (refine And.intro rfl ?_; (conv => whnf))))
    | (refine .inl ⟨_, (hu false), ?_⟩; ((conv => whnf); repeat (refine And.intro rfl ?_; (conv => whnf))))
    | (refine .inl ⟨_, (dwy_leaf _), ?_⟩; ((conv => whnf); repeat (refine And.intro rfl ?_; (conv => whnf))))
    | (refine .inl ⟨_, (dwy_not _), ?_⟩; ((conv => whnf); repeat (refine And.intro rfl ?_; (conv => whnf))))
    | (refine .inl ⟨_, (dwy_always _), ?_⟩; ((conv => whnf); repeat (refine And.intro rfl ?_; (conv => whnf))))
    | (refine .inl ⟨_, (dwy_or _ _), ?_⟩; ((conv => whnf); repeat (refine And.intro rfl ?_; (conv => whnf))))
    | (refine .inl ⟨_, (dwy_and _ _), ?_⟩; ((conv => whnf); repeat (refine And.intro rfl ?_; (conv => whnf))))
    | (refine .inl ⟨_, (dwy_until _ _), ?_⟩; ((conv => whnf); repeat (refine And.intro rfl ?_; (conv => whnf))))
    | (refine .inl ⟨_, (dwy_one 10 _), ?_⟩; ((conv => whnf); repeat (refine And.intro rfl ?_; (conv => whnf))))
    | exact deep_as (by simp_all [scopeT, noR]) (.refl _))
end Go.Proofs.Ytcgjbhnljjlffaa
