/-
  A shortest way, begun and gone: plain law, and the program's walk, over deep values. No statement is proved here.
-/
import Derived.Test.YtjagpdmiffmjhaaWv
namespace Go.Proofs.Ytjagpdmiffmjhaa
open Go.RowKit
set_option linter.unusedSimpArgs false
set_option linter.unusedVariables false
/-- From a node at distance d on: each time the least of the next ones that is one nearer. -/
noncomputable def walkW (g : List (List Int)) (o : Nat → Int) : Nat → Int → List Int
  | 0, a => [a]
  | d + 1, a => a :: walkW g o d (bestTo (fun n => decide (o n = (d : Int))) (g.getD a.toNat []) (g.getD a.toNat []).length)
theorem walkW_len (g : List (List Int)) (o : Nat → Int) : ∀ d a, (walkW g o d a).length = d + 1
  | 0, _ => rfl
  | d + 1, a => by simp only [walkW, List.length_cons, walkW_len g o d]
noncomputable def wayS (g : List (List Int)) (from_ : List Int) (to : Nat → Bool) : Int := startTo (dis g to) from_ from_.length
noncomputable def wayL (g : List (List Int)) (from_ : List Int) (to : Nat → Bool) : List Int := if 0 ≤ wayS g from_ to then walkW g (dis g to) (dis g to (wayS g from_ to).toNat).toNat (wayS g from_ to) else []
theorem dis_low (g : List (List Int)) (to : Nat → Bool) (n : Nat) : -1 ≤ dis g to n := by
  rcases Int.lt_or_le (dis g to n) 0 with h | h
  · rw [dis_none h]; omega
  · omega
/-- The next node is there, and one nearer. -/
theorem next_ok {g : List (List Int)} (hin : ∀ l ∈ g, inB l g.length = true) {to : Nat → Bool} {a d : Nat} (h : dis g to a = (d : Int) + 1) :
    0 ≤ bestTo (fun n => decide (dis g to n = (d : Int))) (g.getD a []) (g.getD a []).length ∧ bestTo (fun n => decide (dis g to n = (d : Int))) (g.getD a []) (g.getD a []).length < (g.length : Int) ∧
      dis g to (bestTo (fun n => decide (dis g to n = (d : Int))) (g.getD a []) (g.getD a []).length).toNat = (d : Int) := by
  have hB := inB_row hin a
  obtain ⟨x, hx, hf⟩ := far_step (dis_far.2 (show dis g to a = ((d + 1 : Nat) : Int) by omega))
  obtain ⟨j, hj, ej⟩ := getD_mem hx
  rcases bestTo_ok (p := fun n => decide (dis g to n = (d : Int))) (fun k hk => (inB_getD hB hk).1) (g.getD a []).length (Nat.le_refl _) with ⟨_, q⟩ | ⟨q1, q2, ⟨i, q3, q4⟩, _⟩
  · have := q j hj
    rw [ej] at this
    have := of_decide_eq_false this
    exact absurd (dis_far.1 hf) this
  · refine ⟨q1, ?_, of_decide_eq_true q2⟩
    rw [← q4]
    exact (inB_getD hB q3).2
theorem start_ok {g : List (List Int)} {from_ : List Int} (hf : inB from_ g.length = true) {to : Nat → Bool} (h : 0 ≤ wayS g from_ to) : wayS g from_ to < (g.length : Int) ∧ 0 ≤ dis g to (wayS g from_ to).toNat := by
  rcases startTo_ok (o := dis g to) (fun k hk => (inB_getD hf hk).1) from_.length (Nat.le_refl _) with ⟨q, _⟩ | ⟨q1, q2, ⟨i, q3, q4⟩, _⟩
  · unfold wayS at h; omega
  · unfold wayS
    refine ⟨?_, q2⟩
    rw [← q4]
    exact (inB_getD hf q3).2
theorem dis_lt {g : List (List Int)} (hin : ∀ l ∈ g, inB l g.length = true) {to : Nat → Bool} {n : Nat} (hn : n < g.length) : dis g to n < (g.length : Int) := by
  rcases Int.lt_or_le (dis g to n) 0 with h | h
  · omega
  · have := far_bound hin hn (dis_far.2 (show dis g to n = ((dis g to n).toNat : Int) by omega))
    omega
theorem startTo_rng {o : Nat → Int} {l : List Int} {N : Nat} (hl : inB l N = true) (k : Nat) (hk : k ≤ l.length) : startTo o l k < (N : Int) ∧ -1 ≤ startTo o l k := by
  rcases startTo_ok (o := o) (fun k hk => (inB_getD hl hk).1) k hk with ⟨q, _⟩ | ⟨q1, q2, ⟨i, q3, q4⟩, _⟩
  · omega
  · rw [← q4]
    have := inB_getD hl (k := i) (by omega)
    omega
theorem bestTo_rng {p : Nat → Bool} {l : List Int} {N : Nat} (hl : inB l N = true) (k : Nat) (hk : k ≤ l.length) : bestTo p l k < (N : Int) ∧ -1 ≤ bestTo p l k := by
  rcases bestTo_ok (p := p) (fun k hk => (inB_getD hl hk).1) k hk with ⟨q, _⟩ | ⟨q1, q2, ⟨i, q3, q4⟩, _⟩
  · omega
  · rw [← q4]
    have := inB_getD hl (k := i) (by omega)
    omega
theorem walkW_succ {g : List (List Int)} {o : Nat → Int} {d : Nat} {a : Int} : walkW g o (d + 1) a = a :: walkW g o d (bestTo (fun n => decide (o n = (d : Int))) (g.getD a.toNat []) (g.getD a.toNat []).length) := rfl
def c6_1 : PC := .seq (.ops [⟨(some 39), .bin .lss (.tmp 38) (.tmp 37), none, 0⟩] false) (.seq (.cond (.tmp 39) (.skip) (.exit 0)) (.seq (.block 1 (.seq (.ops [⟨(some 40), .iaddr 1 (.tmp 36) (.tmp 38), none, 0⟩,
    ⟨(some 41), .load1 (.tmp 40), none, 0⟩,
    ⟨(some 13), .move (.tmp 41), none, 0⟩] false) (.seq (.ops [⟨(some 42), .move (.tmp 10), none, 0⟩,
    ⟨(some 43), .move (.tmp 13), none, 0⟩,
    ⟨(some 44), .iaddr 1 (.tmp 42) (.tmp 43), none, 3⟩,
    ⟨(some 45), .load1 (.tmp 44), none, 7⟩,
    ⟨(some 46), .bin .geq (.tmp 45) (.const (.int .i64 0)), none, 15⟩,
    ⟨(some 47), .move (.tmp 46), none, 31⟩,
    ⟨(some 48), .move (.tmp 11), (some (47, true)), 63⟩,
    ⟨(some 49), .bin .lss (.tmp 48) (.const (.int .i64 0)), (some (47, true)), 127⟩,
    ⟨(some 50), .move (.tmp 49), (some (47, true)), 255⟩,
    ⟨(some 51), .move (.tmp 10), (some (50, false)), 511⟩,
    ⟨(some 52), .move (.tmp 13), (some (50, false)), 511⟩,
    ⟨(some 53), .iaddr 1 (.tmp 51) (.tmp 52), (some (50, false)), 2047⟩,
    ⟨(some 54), .load1 (.tmp 53), (some (50, false)), 4095⟩,
    ⟨(some 55), .move (.tmp 10), (some (50, false)), 511⟩,
    ⟨(some 56), .move (.tmp 11), (some (50, false)), 511⟩,
    ⟨(some 57), .iaddr 1 (.tmp 55) (.tmp 56), (some (50, false)), 25087⟩,
    ⟨(some 58), .load1 (.tmp 57), (some (50, false)), 57855⟩,
    ⟨(some 59), .bin .lss (.tmp 54) (.tmp 58), (some (50, false)), 131071⟩,
    ⟨(some 60), .pick (.tmp 50) (.const (.bool true)) (.tmp 59), (some (47, true)), 262143⟩,
    ⟨(some 61), .move (.tmp 60), (some (47, true)), 524287⟩,
    ⟨(some 62), .move (.tmp 10), (some (61, false)), 1048575⟩,
    ⟨(some 63), .move (.tmp 13), (some (61, false)), 1048575⟩,
    ⟨(some 64), .iaddr 1 (.tmp 62) (.tmp 63), (some (61, false)), 4194303⟩,
    ⟨(some 65), .load1 (.tmp 64), (some (61, false)), 8388607⟩,
    ⟨(some 66), .move (.tmp 10), (some (61, false)), 1048575⟩,
    ⟨(some 67), .move (.tmp 11), (some (61, false)), 1048575⟩,
    ⟨(some 68), .iaddr 1 (.tmp 66) (.tmp 67), (some (61, false)), 51380223⟩,
    ⟨(some 69), .load1 (.tmp 68), (some (61, false)), 118489087⟩,
    ⟨(some 70), .bin .eql (.tmp 65) (.tmp 69), (some (61, false)), 268435455⟩,
    ⟨(some 71), .move (.tmp 70), (some (61, false)), 536870911⟩,
    ⟨(some 72), .move (.tmp 13), (some (71, true)), 1073741823⟩,
    ⟨(some 73), .move (.tmp 11), (some (71, true)), 1073741823⟩,
    ⟨(some 74), .bin .lss (.tmp 72) (.tmp 73), (some (71, true)), 4294967295⟩,
    ⟨(some 75), .pick (.tmp 71) (.tmp 74) (.const (.bool false)), (some (61, false)), 8589934591⟩,
    ⟨(some 76), .pick (.tmp 61) (.const (.bool true)) (.tmp 75), (some (47, true)), 17179869183⟩,
    ⟨(some 77), .pick (.tmp 47) (.tmp 76) (.const (.bool false)), none, 34359738367⟩] true) (.cond (.tmp 77) (.ops [⟨(some 78), .move (.tmp 13), none, 0⟩,
    ⟨(some 11), .move (.tmp 78), none, 0⟩] false) (.skip))))) (.ops [⟨(some 79), .bin .add (.tmp 38) (.const (.int .i64 1)), none, 0⟩,
    ⟨(some 38), .move (.tmp 79), none, 0⟩] false)))
def c6_3 : PC := .seq (.ops [⟨(some 95), .bin .lss (.tmp 94) (.tmp 93), none, 0⟩] false) (.seq (.cond (.tmp 95) (.skip) (.exit 4)) (.seq (.block 5 (.seq (.ops [⟨(some 96), .iaddr 1 (.tmp 92) (.tmp 94), none, 0⟩,
    ⟨(some 97), .load1 (.tmp 96), none, 0⟩,
    ⟨(some 17), .move (.tmp 97), none, 0⟩] false) (.seq (.ops [⟨(some 98), .move (.tmp 10), none, 0⟩,
    ⟨(some 99), .move (.tmp 17), none, 0⟩,
    ⟨(some 100), .iaddr 1 (.tmp 98) (.tmp 99), none, 3⟩,
    ⟨(some 101), .load1 (.tmp 100), none, 7⟩,
    ⟨(some 102), .move (.tmp 10), none, 0⟩,
    ⟨(some 103), .move (.tmp 11), none, 0⟩,
    ⟨(some 104), .iaddr 1 (.tmp 102) (.tmp 103), none, 48⟩,
    ⟨(some 105), .load1 (.tmp 104), none, 112⟩,
    ⟨(some 106), .bin .sub (.tmp 105) (.const (.int .i64 1)), none, 240⟩,
    ⟨(some 107), .bin .eql (.tmp 101) (.tmp 106), none, 511⟩,
    ⟨(some 108), .move (.tmp 107), none, 1023⟩,
    ⟨(some 109), .move (.tmp 15), (some (108, true)), 2047⟩,
    ⟨(some 110), .bin .lss (.tmp 109) (.const (.int .i64 0)), (some (108, true)), 4095⟩,
    ⟨(some 111), .move (.tmp 110), (some (108, true)), 8191⟩,
    ⟨(some 112), .move (.tmp 17), (some (111, false)), 16383⟩,
    ⟨(some 113), .move (.tmp 15), (some (111, false)), 16383⟩,
    ⟨(some 114), .bin .lss (.tmp 112) (.tmp 113), (some (111, false)), 65535⟩,
    ⟨(some 115), .pick (.tmp 111) (.const (.bool true)) (.tmp 114), (some (108, true)), 131071⟩,
    ⟨(some 116), .pick (.tmp 108) (.tmp 115) (.const (.bool false)), none, 262143⟩] true) (.cond (.tmp 116) (.ops [⟨(some 117), .move (.tmp 17), none, 0⟩,
    ⟨(some 15), .move (.tmp 117), none, 0⟩] false) (.skip))))) (.ops [⟨(some 118), .bin .add (.tmp 94) (.const (.int .i64 1)), none, 0⟩,
    ⟨(some 94), .move (.tmp 118), none, 0⟩] false)))
def c6_2 : PC := .seq (.seq (.ops [⟨(some 84), .move (.tmp 10), none, 0⟩,
    ⟨(some 85), .move (.tmp 11), none, 0⟩,
    ⟨(some 86), .iaddr 1 (.tmp 84) (.tmp 85), none, 0⟩,
    ⟨(some 87), .load1 (.tmp 86), none, 0⟩,
    ⟨(some 88), .bin .gtr (.tmp 87) (.const (.int .i64 0)), none, 0⟩] false) (.cond (.tmp 88) (.skip) (.exit 2))) (.block 3 (.seq (.ops [⟨(some 15), .move (.const (.int .i64 (-1))), none, 0⟩] false) (.seq (.seq (.ops [⟨(some 89), .move (.tmp 0), none, 0⟩,
    ⟨(some 90), .move (.tmp 11), none, 0⟩,
    ⟨(some 91), .iaddr 1 (.tmp 89) (.tmp 90), none, 0⟩,
    ⟨(some 92), .load1 (.tmp 91), none, 0⟩,
    ⟨(some 93), .len (.tmp 92), none, 0⟩,
    ⟨(some 94), .move (.const (.int .i64 0)), none, 0⟩] false) (.block 4 (.loop c6_3))) (.seq (.ops [⟨(some 119), .move (.tmp 15), none, 0⟩,
    ⟨(some 11), .move (.tmp 119), none, 0⟩] false) (.ops [⟨(some 120), .move (.tmp 14), none, 0⟩,
    ⟨(some 121), .move (.tmp 11), none, 0⟩,
    ⟨(some 122), .bslice 1 1 [(.tmp 121)], none, 0⟩,
    ⟨(some 123), .append 1 8 (.tmp 120) (.tmp 122), none, 0⟩,
    ⟨(some 14), .move (.tmp 123), none, 0⟩] false)))))
def c6 : PC := .seq (.ops [⟨(some 6), .move (.const (.slice none 0 0)), none, 0⟩,
    ⟨(some 7), .move (.const (.bool false)), none, 0⟩,
    ⟨(some 8), .move (.const (.int .i64 0)), none, 0⟩] false) (.seq (.seq (.ops [⟨(some 18), .move (.tmp 0), none, 0⟩,
    ⟨(some 19), .call 9 [(.tmp 18)], none, 0⟩,
    ⟨(some 9), .move (.tmp 19), none, 0⟩] false) (.seq (.ops [⟨(some 20), .move (.tmp 9), none, 0⟩,
    ⟨(some 21), .bin .neq (.tmp 20) (.const (.int .i64 0)), none, 0⟩] false) (.cond (.tmp 21) (.seq (.ops [⟨(some 22), .move (.tmp 9), none, 0⟩,
    ⟨(some 6), .move (.const (.slice none 0 0)), none, 0⟩,
    ⟨(some 7), .move (.const (.bool false)), none, 0⟩,
    ⟨(some 8), .move (.tmp 22), none, 0⟩] false) (.ret)) (.skip)))) (.seq (.seq (.ops [⟨(some 23), .move (.tmp 0), none, 0⟩,
    ⟨(some 24), .move (.tmp 1), none, 0⟩,
    ⟨(some 25), .call 10 [(.tmp 23), (.tmp 24)], none, 0⟩,
    ⟨(some 26), .move (.tmp 25), none, 0⟩,
    ⟨(some 27), .move (.tmp 2), (some (26, false)), 0⟩,
    ⟨(some 28), .len (.tmp 27), (some (26, false)), 0⟩,
    ⟨(some 29), .move (.tmp 0), (some (26, false)), 0⟩,
    ⟨(some 30), .len (.tmp 29), (some (26, false)), 0⟩,
    ⟨(some 31), .bin .neq (.tmp 28) (.tmp 30), (some (26, false)), 0⟩,
    ⟨(some 32), .pick (.tmp 26) (.const (.bool true)) (.tmp 31), none, 0⟩] false) (.cond (.tmp 32) (.seq (.ops [⟨(some 6), .move (.const (.slice none 0 0)), none, 0⟩,
    ⟨(some 7), .move (.const (.bool false)), none, 0⟩,
    ⟨(some 8), .move (.const (.int .i64 1)), none, 0⟩] false) (.ret)) (.skip))) (.seq (.ops [⟨(some 33), .move (.tmp 0), none, 0⟩,
    ⟨(some 34), .move (.tmp 2), none, 0⟩,
    ⟨(some 35), .call 11 [(.tmp 33), (.tmp 34)], none, 0⟩,
    ⟨(some 10), .move (.tmp 35), none, 0⟩] false) (.seq (.ops [⟨(some 11), .move (.const (.int .i64 (-1))), none, 0⟩] false) (.seq (.seq (.ops [⟨(some 36), .move (.tmp 1), none, 0⟩,
    ⟨(some 37), .len (.tmp 36), none, 0⟩,
    ⟨(some 38), .move (.const (.int .i64 0)), none, 0⟩] false) (.block 0 (.loop c6_1))) (.seq (.seq (.ops [⟨(some 80), .move (.tmp 11), none, 0⟩,
    ⟨(some 81), .bin .lss (.tmp 80) (.const (.int .i64 0)), none, 0⟩] false) (.cond (.tmp 81) (.seq (.ops [⟨(some 6), .move (.const (.slice none 0 0)), none, 0⟩,
    ⟨(some 7), .move (.const (.bool false)), none, 0⟩,
    ⟨(some 8), .move (.const (.int .i64 0)), none, 0⟩] false) (.ret)) (.skip))) (.seq (.ops [⟨(some 82), .move (.tmp 11), none, 0⟩,
    ⟨(some 83), .bslice 1 1 [(.tmp 82)], none, 0⟩,
    ⟨(some 14), .move (.tmp 83), none, 0⟩] false) (.seq (.block 2 (.loop c6_2)) (.seq (.ops [⟨(some 124), .move (.tmp 14), none, 0⟩,
    ⟨(some 6), .move (.tmp 124), none, 0⟩,
    ⟨(some 7), .move (.const (.bool true)), none, 0⟩,
    ⟨(some 8), .move (.const (.int .i64 0)), none, 0⟩] false) (.ret))))))))))
set_option maxRecDepth 100000 in
theorem c6_ok : FunOK Try.prog 6 125 [.tmp 6, .tmp 7, .tmp 8] c6 := ⟨⟨Try.f6, Try.func6, rfl, by kernel_rfl, rfl, by kernel_rfl⟩⟩
theorem scc_Way_bad (g : List (List Int)) (hg : chkG g ≠ 0) (hF : FitsG g) (from_ : List Int) (m : Nat) (to : Nat → Bool) :
    PCall Try.prog 6 [dgrid g, dints from_, dbl m to] (.tup [dints [], .sc (.bool false), .sc (.int .i64 (chkG g))]) := by
  refine pcall_intro c6_ok (by simp) (by simp [PureL, Pure, pure_dgrid, pure_dints, pure_dbl]) ?_ (by simp [Pure, PureL, pure_dints])
  (apply red_sound; focus (repeat' (first | exact Red.skip | exact Red.ret | exact RedO.nil | exact RedD.nil | exact Red.exit _ | exact Red.loop _ | exact Red.stop _ | apply Red.ops | apply Red.draw | apply Red.seq | apply Red.cond | apply Red.block | apply RedO.cons | apply RedD.cons | exact (0 : Nat))))
  ((conv => whnf); repeat (refine And.intro rfl ?_; (conv => whnf)))
  (refine .inl ⟨_, (scc_Check g hF), ?_⟩; ((conv => whnf); repeat (refine And.intro rfl ?_; (conv => whnf))))
  (refine ifK_split (fun h1 => ?_) (fun h1 => ?_) <;> (rw [h1]; ((conv => whnf); repeat (refine And.intro rfl ?_; (conv => whnf)))))
  · exact .tup _ _ (.cons _ _ _ _ (.none _) (deepL_refl _))
  · exfalso; ((try simp only [bne_iff_ne, ne_eq, bne_eq_false_iff_eq, beq_iff_eq, beq_eq_false_iff_ne, decide_eq_true_eq, decide_eq_false_iff_not, List.length_map, Bool.not_eq_true, Bool.not_eq_false, Bool.and_eq_true, Bool.or_eq_true, Bool.and_eq_false_iff, Bool.or_eq_false_iff, Bool.not_eq_true', Bool.not_eq_false', Bool.not_true, Bool.not_false, Bool.not_eq_eq_eq_not, not_true_eq_false, not_false_eq_true, reduceCtorEq, Bool.true_or, Bool.false_or, Bool.or_true, Bool.or_false, Bool.true_and, Bool.and_true, Bool.false_and, Bool.and_false, true_and, and_true, or_false, false_or, true_or, or_true, false_and, and_false, Bool.true_eq_false, Bool.false_eq_true] at *) <;> omega)
theorem scc_Way_arg (g : List (List Int)) (hg : chkG g = 0) (hF : FitsG g) (from_ : List Int) (hfl : from_.length ≤ 9223372036854775807) (m : Nat) (to : Nat → Bool) (hbad : inB from_ g.length = false ∨ m ≠ g.length) :
    PCall Try.prog 6 [dgrid g, dints from_, dbl m to] (.tup [dints [], .sc (.bool false), .sc (.int .i64 1)]) := by
  refine pcall_intro c6_ok (by simp) (by simp [PureL, Pure, pure_dgrid, pure_dints, pure_dbl]) ?_ (by simp [Pure, PureL, pure_dints])
  (apply red_sound; focus (repeat' (first | exact Red.skip | exact Red.ret | exact RedO.nil | exact RedD.nil | exact Red.exit _ | exact Red.loop _ | exact Red.stop _ | apply Red.ops | apply Red.draw | apply Red.seq | apply Red.cond | apply Red.block | apply RedO.cons | apply RedD.cons | exact (0 : Nat))))
  ((conv => whnf); repeat (refine And.intro rfl ?_; (conv => whnf)))
  (refine .inl ⟨_, (scc_Check g hF), ?_⟩; ((conv => whnf); repeat (refine And.intro rfl ?_; (conv => whnf))))
  (refine ifK_split (fun h1 => ?_) (fun h1 => ?_) <;> (rw [h1]; ((conv => whnf); repeat (refine And.intro rfl ?_; (conv => whnf)))))
  · exfalso; ((try simp only [bne_iff_ne, ne_eq, bne_eq_false_iff_eq, beq_iff_eq, beq_eq_false_iff_ne, decide_eq_true_eq, decide_eq_false_iff_not, List.length_map, Bool.not_eq_true, Bool.not_eq_false, Bool.and_eq_true, Bool.or_eq_true, Bool.and_eq_false_iff, Bool.or_eq_false_iff, Bool.not_eq_true', Bool.not_eq_false', Bool.not_true, Bool.not_false, Bool.not_eq_eq_eq_not, not_true_eq_false, not_false_eq_true, reduceCtorEq, Bool.true_or, Bool.false_or, Bool.or_true, Bool.or_false, Bool.true_and, Bool.and_true, Bool.false_and, Bool.and_false, true_and, and_true, or_false, false_or, true_or, or_true, false_and, and_false, Bool.true_eq_false, Bool.false_eq_true] at *) <;> omega)
  (refine .inl ⟨_, (scc_odd g from_ hfl), ?_⟩; ((conv => whnf); repeat (refine And.intro rfl ?_; (conv => whnf))))
  cases h2 : inB from_ g.length
  · ((conv => whnf); repeat (refine And.intro rfl ?_; (conv => whnf)))
    exact .tup _ _ (.cons _ _ _ _ (.none _) (deepL_refl _))
  · ((conv => whnf); repeat (refine And.intro rfl ?_; (conv => whnf)))
    rw [rbl_len, List.length_map]
    (refine ifK_split (fun h3 => ?_) (fun h3 => ?_) <;> (rw [h3]; ((conv => whnf); repeat (refine And.intro rfl ?_; (conv => whnf)))))
    · exact .tup _ _ (.cons _ _ _ _ (.none _) (deepL_refl _))
    · exfalso
      rw [h2] at hbad
      ((try simp only [bne_iff_ne, ne_eq, bne_eq_false_iff_eq, beq_iff_eq, beq_eq_false_iff_ne, decide_eq_true_eq, decide_eq_false_iff_not, List.length_map, Bool.not_eq_true, Bool.not_eq_false, Bool.and_eq_true, Bool.or_eq_true, Bool.and_eq_false_iff, Bool.or_eq_false_iff, Bool.not_eq_true', Bool.not_eq_false', Bool.not_true, Bool.not_false, Bool.not_eq_eq_eq_not, not_true_eq_false, not_false_eq_true, reduceCtorEq, Bool.true_or, Bool.false_or, Bool.or_true, Bool.or_false, Bool.true_and, Bool.and_true, Bool.false_and, Bool.and_false, true_and, and_true, or_false, false_or, true_or, or_true, false_and, and_false, Bool.true_eq_false, Bool.false_eq_true] at *) <;> omega)
set_option maxRecDepth 100000 in
theorem scc_Way (g : List (List Int)) (hg : chkG g = 0) (hF : FitsG g) (from_ : List Int) (hf : inB from_ g.length = true) (hfl : from_.length ≤ 9223372036854775807) (to : Nat → Bool) (hto : ∀ i, g.length ≤ i → to i = false) :
    PCall Try.prog 6 [dgrid g, dints from_, dbl g.length to] (.tup [dints (wayL g from_ to), .sc (.bool (decide (0 ≤ wayS g from_ to))), .sc (.int .i64 0)]) := by
  obtain ⟨hn, hin⟩ := chkG_zero.1 hg
  refine pcall_intro c6_ok (by simp) (by simp [PureL, Pure, pure_dgrid, pure_dints, pure_dbl]) ?_ (by simp [Pure, PureL, pure_dints])
  (apply red_sound; focus (repeat' (first | exact Red.skip | exact Red.ret | exact RedO.nil | exact RedD.nil | exact Red.exit _ | exact Red.loop _ | exact Red.stop _ | apply Red.ops | apply Red.draw | apply Red.seq | apply Red.cond | apply Red.block | apply RedO.cons | apply RedD.cons | exact (0 : Nat))))
  ((conv => whnf); repeat (refine And.intro rfl ?_; (conv => whnf)))
  (refine .inl ⟨_, (scc_Check g hF), ?_⟩; ((conv => whnf); repeat (refine And.intro rfl ?_; (conv => whnf))))
  (refine ifK_split (fun h1 => ?_) (fun h1 => ?_) <;> (rw [h1]; ((conv => whnf); repeat (refine And.intro rfl ?_; (conv => whnf)))))
  · exfalso; ((try simp only [bne_iff_ne, ne_eq, bne_eq_false_iff_eq, beq_iff_eq, beq_eq_false_iff_ne, decide_eq_true_eq, decide_eq_false_iff_not, List.length_map, Bool.not_eq_true, Bool.not_eq_false, Bool.and_eq_true, Bool.or_eq_true, Bool.and_eq_false_iff, Bool.or_eq_false_iff, Bool.not_eq_true', Bool.not_eq_false', Bool.not_true, Bool.not_false, Bool.not_eq_eq_eq_not, not_true_eq_false, not_false_eq_true, reduceCtorEq, Bool.true_or, Bool.false_or, Bool.or_true, Bool.or_false, Bool.true_and, Bool.and_true, Bool.false_and, Bool.and_false, true_and, and_true, or_false, false_or, true_or, or_true, false_and, and_false, Bool.true_eq_false, Bool.false_eq_true] at *) <;> omega)
  (refine .inl ⟨_, (scc_odd g from_ hfl), ?_⟩; ((conv => whnf); repeat (refine And.intro rfl ?_; (conv => whnf))))
  rw [hf]
  ((conv => whnf); repeat (refine And.intro rfl ?_; (conv => whnf)))
  rw [rbl_len, List.length_map]
  (refine ifK_split (fun h3 => ?_) (fun h3 => ?_) <;> (rw [h3]; ((conv => whnf); repeat (refine And.intro rfl ?_; (conv => whnf)))))
  · exfalso; ((try simp only [bne_iff_ne, ne_eq, bne_eq_false_iff_eq, beq_iff_eq, beq_eq_false_iff_ne, decide_eq_true_eq, decide_eq_false_iff_not, List.length_map, Bool.not_eq_true, Bool.not_eq_false, Bool.and_eq_true, Bool.or_eq_true, Bool.and_eq_false_iff, Bool.or_eq_false_iff, Bool.not_eq_true', Bool.not_eq_false', Bool.not_true, Bool.not_false, Bool.not_eq_eq_eq_not, not_true_eq_false, not_false_eq_true, reduceCtorEq, Bool.true_or, Bool.false_or, Bool.or_true, Bool.or_false, Bool.true_and, Bool.and_true, Bool.false_and, Bool.and_false, true_and, and_true, or_false, false_or, true_or, or_true, false_and, and_false, Bool.true_eq_false, Bool.false_eq_true] at *) <;> omega)
  (refine .inl ⟨_, (scc_far g hg hF to hto), ?_⟩; ((conv => whnf); repeat (refine And.intro rfl ?_; (conv => whnf))))
  rw [List.length_map]
  have hdl := fun i (h : i < g.length) => dis_lt hin (to := to) h
  have hdm := dis_low g to
  have eW : wayS g from_ to = startTo (dis g to) from_ from_.length := rfl
  have eL : wayL g from_ to = if 0 ≤ wayS g from_ to then walkW g (dis g to) (dis g to (wayS g from_ to).toNat).toNat (wayS g from_ to) else [] := rfl
  have hst := @start_ok g from_ hf to
  have hnx := @next_ok g hin to
  generalize dis g to = o at hdl hdm eW eL hst hnx
  refine pwp_for [0, 10, 36, 37] (fun k : Nat => [(11, .sc (.int .i64 (startTo o from_ k))), (38, .sc (.int .i64 k))]) (fun _ => []) (fun k => k ≤ from_.length) (fun k => from_.length - k) 0 ?_
  ((conv => whnf); repeat (refine And.intro rfl ?_; (conv => whnf)))
  refine ⟨by omega, by (repeat' (first | exact trivial | refine And.intro rfl ?_)), rfl, ?_⟩
  rintro k hk
  ((conv => whnf); repeat (refine And.intro rfl ?_; (conv => whnf)))
  (apply red_sound; focus (repeat' (first | exact Red.skip | exact Red.ret | exact RedO.nil | exact RedD.nil | exact Red.exit _ | exact Red.loop _ | exact Red.stop _ | apply Red.ops | apply Red.draw | apply Red.seq | apply Red.cond | apply Red.block | apply RedO.cons | apply RedD.cons | exact (0 : Nat))))
  ((conv => whnf); repeat (refine And.intro rfl ?_; (conv => whnf)))
  (refine ifK_split (fun h4 => ?_) (fun h4 => ?_) <;> (rw [h4]; ((conv => whnf); repeat (refine And.intro rfl ?_; (conv => whnf)))))
  · have hk' : k < from_.length := by ((try simp only [bne_iff_ne, ne_eq, bne_eq_false_iff_eq, beq_iff_eq, beq_eq_false_iff_ne, decide_eq_true_eq, decide_eq_false_iff_not, List.length_map, Bool.not_eq_true, Bool.not_eq_false, Bool.and_eq_true, Bool.or_eq_true, Bool.and_eq_false_iff, Bool.or_eq_false_iff, Bool.not_eq_true', Bool.not_eq_false', Bool.not_true, Bool.not_false, Bool.not_eq_eq_eq_not, not_true_eq_false, not_false_eq_true, reduceCtorEq, Bool.true_or, Bool.false_or, Bool.or_true, Bool.or_false, Bool.true_and, Bool.and_true, Bool.false_and, Bool.and_false, true_and, and_true, or_false, false_or, true_or, or_true, false_and, and_false, Bool.true_eq_false, Bool.false_eq_true] at *) <;> omega)
    have hx := inB_getD hf hk'
    have hr := startTo_rng (o := o) hf k (by omega)
    refine ⟨by omega, _, intsD_at (l := from_) (k := k) (by omega) hk', ?_⟩
    ((conv => whnf); repeat (refine And.intro rfl ?_; (conv => whnf)))
    have eS : startTo o from_ (k + 1) = if 0 ≤ o (from_.getD k 0).toNat ∧ (startTo o from_ k < 0 ∨ o (from_.getD k 0).toNat < o (startTo o from_ k).toNat ∨ (o (from_.getD k 0).toNat = o (startTo o from_ k).toNat ∧ from_.getD k 0 < startTo o from_ k)) then from_.getD k 0 else startTo o from_ k := rfl
    generalize from_.getD k 0 = x at eS hx
    generalize startTo o from_ k = a at eS hr
    refine ⟨by omega, _, gl_atN x.toNat (by omega) (by omega), ?_⟩
    ((conv => whnf); repeat (refine And.intro rfl ?_; (conv => whnf)))
    (refine ifK_split (fun c1 => ?_) (fun c1 => ?_) <;> (rw [c1]; ((conv => whnf); repeat (refine And.intro rfl ?_; (conv => whnf)))))
    · have c1 : 0 ≤ o x.toNat := by ((try simp only [bne_iff_ne, ne_eq, bne_eq_false_iff_eq, beq_iff_eq, beq_eq_false_iff_ne, decide_eq_true_eq, decide_eq_false_iff_not, List.length_map, Bool.not_eq_true, Bool.not_eq_false, Bool.and_eq_true, Bool.or_eq_true, Bool.and_eq_false_iff, Bool.or_eq_false_iff, Bool.not_eq_true', Bool.not_eq_false', Bool.not_true, Bool.not_false, Bool.not_eq_eq_eq_not, not_true_eq_false, not_false_eq_true, reduceCtorEq, Bool.true_or, Bool.false_or, Bool.or_true, Bool.or_false, Bool.true_and, Bool.and_true, Bool.false_and, Bool.and_false, true_and, and_true, or_false, false_or, true_or, or_true, false_and, and_false, Bool.true_eq_false, Bool.false_eq_true] at *) <;> omega)
      (refine ifK_split (fun c2 => ?_) (fun c2 => ?_) <;> (rw [c2]; ((conv => whnf); repeat (refine And.intro rfl ?_; (conv => whnf)))))
      · have hc : 0 ≤ o x.toNat ∧ (a < 0 ∨ o x.toNat < o a.toNat ∨ (o x.toNat = o a.toNat ∧ x < a)) := ⟨c1, .inl (by ((try simp only [bne_iff_ne, ne_eq, bne_eq_false_iff_eq, beq_iff_eq, beq_eq_false_iff_ne, decide_eq_true_eq, decide_eq_false_iff_not, List.length_map, Bool.not_eq_true, Bool.not_eq_false, Bool.and_eq_true, Bool.or_eq_true, Bool.and_eq_false_iff, Bool.or_eq_false_iff, Bool.not_eq_true', Bool.not_eq_false', Bool.not_true, Bool.not_false, Bool.not_eq_eq_eq_not, not_true_eq_false, not_false_eq_true, reduceCtorEq, Bool.true_or, Bool.false_or, Bool.or_true, Bool.or_false, Bool.true_and, Bool.and_true, Bool.false_and, Bool.and_false, true_and, and_true, or_false, false_or, true_or, or_true, false_and, and_false, Bool.true_eq_false, Bool.false_eq_true] at *) <;> omega))⟩
        ((conv => whnf); repeat (refine And.intro rfl ?_; (conv => whnf)))
        (refine .inl ⟨by (unfold InR; rw [IntKind.wrap_i64]; omega), ?_⟩; ((conv => whnf); repeat (refine And.intro rfl ?_; (conv => whnf))))
        refine ⟨k + 1, by omega, by dsimp only; omega, ?_⟩
        dsimp only
        rw [eS, if_pos hc]
        exact leB_envH (by (repeat' (first | exact trivial | refine And.intro rfl ?_))) rfl
      · have c2 : ¬ a < 0 := by ((try simp only [bne_iff_ne, ne_eq, bne_eq_false_iff_eq, beq_iff_eq, beq_eq_false_iff_ne, decide_eq_true_eq, decide_eq_false_iff_not, List.length_map, Bool.not_eq_true, Bool.not_eq_false, Bool.and_eq_true, Bool.or_eq_true, Bool.and_eq_false_iff, Bool.or_eq_false_iff, Bool.not_eq_true', Bool.not_eq_false', Bool.not_true, Bool.not_false, Bool.not_eq_eq_eq_not, not_true_eq_false, not_false_eq_true, reduceCtorEq, Bool.true_or, Bool.false_or, Bool.or_true, Bool.or_false, Bool.true_and, Bool.and_true, Bool.false_and, Bool.and_false, true_and, and_true, or_false, false_or, true_or, or_true, false_and, and_false, Bool.true_eq_false, Bool.false_eq_true] at *) <;> omega)
        refine ⟨by omega, _, gl_atN x.toNat (by omega) (by omega), ?_⟩
        ((conv => whnf); repeat (refine And.intro rfl ?_; (conv => whnf)))
        refine ⟨by omega, _, gl_atN a.toNat (by omega) (by omega), ?_⟩
        ((conv => whnf); repeat (refine And.intro rfl ?_; (conv => whnf)))
        (refine ifK_split (fun c3 => ?_) (fun c3 => ?_) <;> (rw [c3]; ((conv => whnf); repeat (refine And.intro rfl ?_; (conv => whnf)))))
        · have hc : 0 ≤ o x.toNat ∧ (a < 0 ∨ o x.toNat < o a.toNat ∨ (o x.toNat = o a.toNat ∧ x < a)) := ⟨c1, .inr (.inl (by ((try simp only [bne_iff_ne, ne_eq, bne_eq_false_iff_eq, beq_iff_eq, beq_eq_false_iff_ne, decide_eq_true_eq, decide_eq_false_iff_not, List.length_map, Bool.not_eq_true, Bool.not_eq_false, Bool.and_eq_true, Bool.or_eq_true, Bool.and_eq_false_iff, Bool.or_eq_false_iff, Bool.not_eq_true', Bool.not_eq_false', Bool.not_true, Bool.not_false, Bool.not_eq_eq_eq_not, not_true_eq_false, not_false_eq_true, reduceCtorEq, Bool.true_or, Bool.false_or, Bool.or_true, Bool.or_false, Bool.true_and, Bool.and_true, Bool.false_and, Bool.and_false, true_and, and_true, or_false, false_or, true_or, or_true, false_and, and_false, Bool.true_eq_false, Bool.false_eq_true] at *) <;> omega)))⟩
          ((conv => whnf); repeat (refine And.intro rfl ?_; (conv => whnf)))
          (refine .inl ⟨by (unfold InR; rw [IntKind.wrap_i64]; omega), ?_⟩; ((conv => whnf); repeat (refine And.intro rfl ?_; (conv => whnf))))
          refine ⟨k + 1, by omega, by dsimp only; omega, ?_⟩
          dsimp only
          rw [eS, if_pos hc]
          exact leB_envH (by (repeat' (first | exact trivial | refine And.intro rfl ?_))) rfl
        · have c3 : ¬ o x.toNat < o a.toNat := by ((try simp only [bne_iff_ne, ne_eq, bne_eq_false_iff_eq, beq_iff_eq, beq_eq_false_iff_ne, decide_eq_true_eq, decide_eq_false_iff_not, List.length_map, Bool.not_eq_true, Bool.not_eq_false, Bool.and_eq_true, Bool.or_eq_true, Bool.and_eq_false_iff, Bool.or_eq_false_iff, Bool.not_eq_true', Bool.not_eq_false', Bool.not_true, Bool.not_false, Bool.not_eq_eq_eq_not, not_true_eq_false, not_false_eq_true, reduceCtorEq, Bool.true_or, Bool.false_or, Bool.or_true, Bool.or_false, Bool.true_and, Bool.and_true, Bool.false_and, Bool.and_false, true_and, and_true, or_false, false_or, true_or, or_true, false_and, and_false, Bool.true_eq_false, Bool.false_eq_true] at *) <;> omega)
          refine ⟨by omega, _, gl_atN x.toNat (by omega) (by omega), ?_⟩
          ((conv => whnf); repeat (refine And.intro rfl ?_; (conv => whnf)))
          refine ⟨by omega, _, gl_atN a.toNat (by omega) (by omega), ?_⟩
          ((conv => whnf); repeat (refine And.intro rfl ?_; (conv => whnf)))
          (refine ifK_split (fun c4 => ?_) (fun c4 => ?_) <;> (rw [c4]; ((conv => whnf); repeat (refine And.intro rfl ?_; (conv => whnf)))))
          · have c4 : o x.toNat = o a.toNat := by ((try simp only [bne_iff_ne, ne_eq, bne_eq_false_iff_eq, beq_iff_eq, beq_eq_false_iff_ne, decide_eq_true_eq, decide_eq_false_iff_not, List.length_map, Bool.not_eq_true, Bool.not_eq_false, Bool.and_eq_true, Bool.or_eq_true, Bool.and_eq_false_iff, Bool.or_eq_false_iff, Bool.not_eq_true', Bool.not_eq_false', Bool.not_true, Bool.not_false, Bool.not_eq_eq_eq_not, not_true_eq_false, not_false_eq_true, reduceCtorEq, Bool.true_or, Bool.false_or, Bool.or_true, Bool.or_false, Bool.true_and, Bool.and_true, Bool.false_and, Bool.and_false, true_and, and_true, or_false, false_or, true_or, or_true, false_and, and_false, Bool.true_eq_false, Bool.false_eq_true] at *) <;> omega)
            (refine ifK_split (fun c5 => ?_) (fun c5 => ?_) <;> (rw [c5]; ((conv => whnf); repeat (refine And.intro rfl ?_; (conv => whnf)))))
            · have hc : 0 ≤ o x.toNat ∧ (a < 0 ∨ o x.toNat < o a.toNat ∨ (o x.toNat = o a.toNat ∧ x < a)) := ⟨c1, .inr (.inr ⟨c4, by ((try simp only [bne_iff_ne, ne_eq, bne_eq_false_iff_eq, beq_iff_eq, beq_eq_false_iff_ne, decide_eq_true_eq, decide_eq_false_iff_not, List.length_map, Bool.not_eq_true, Bool.not_eq_false, Bool.and_eq_true, Bool.or_eq_true, Bool.and_eq_false_iff, Bool.or_eq_false_iff, Bool.not_eq_true', Bool.not_eq_false', Bool.not_true, Bool.not_false, Bool.not_eq_eq_eq_not, not_true_eq_false, not_false_eq_true, reduceCtorEq, Bool.true_or, Bool.false_or, Bool.or_true, Bool.or_false, Bool.true_and, Bool.and_true, Bool.false_and, Bool.and_false, true_and, and_true, or_false, false_or, true_or, or_true, false_and, and_false, Bool.true_eq_false, Bool.false_eq_true] at *) <;> omega)⟩)⟩
              ((conv => whnf); repeat (refine And.intro rfl ?_; (conv => whnf)))
              (refine .inl ⟨by (unfold InR; rw [IntKind.wrap_i64]; omega), ?_⟩; ((conv => whnf); repeat (refine And.intro rfl ?_; (conv => whnf))))
              refine ⟨k + 1, by omega, by dsimp only; omega, ?_⟩
              dsimp only
              rw [eS, if_pos hc]
              exact leB_envH (by (repeat' (first | exact trivial | refine And.intro rfl ?_))) rfl
            · have c5 : ¬ x < a := by ((try simp only [bne_iff_ne, ne_eq, bne_eq_false_iff_eq, beq_iff_eq, beq_eq_false_iff_ne, decide_eq_true_eq, decide_eq_false_iff_not, List.length_map, Bool.not_eq_true, Bool.not_eq_false, Bool.and_eq_true, Bool.or_eq_true, Bool.and_eq_false_iff, Bool.or_eq_false_iff, Bool.not_eq_true', Bool.not_eq_false', Bool.not_true, Bool.not_false, Bool.not_eq_eq_eq_not, not_true_eq_false, not_false_eq_true, reduceCtorEq, Bool.true_or, Bool.false_or, Bool.or_true, Bool.or_false, Bool.true_and, Bool.and_true, Bool.false_and, Bool.and_false, true_and, and_true, or_false, false_or, true_or, or_true, false_and, and_false, Bool.true_eq_false, Bool.false_eq_true] at *) <;> omega)
              have hc : ¬ (0 ≤ o x.toNat ∧ (a < 0 ∨ o x.toNat < o a.toNat ∨ (o x.toNat = o a.toNat ∧ x < a))) := by omega
              ((conv => whnf); repeat (refine And.intro rfl ?_; (conv => whnf)))
              (refine .inl ⟨by (unfold InR; rw [IntKind.wrap_i64]; omega), ?_⟩; ((conv => whnf); repeat (refine And.intro rfl ?_; (conv => whnf))))
              refine ⟨k + 1, by omega, by dsimp only; omega, ?_⟩
              dsimp only
              rw [eS, if_neg hc]
              exact leB_envH (by (repeat' (first | exact trivial | refine And.intro rfl ?_))) rfl
          · have c4 : o x.toNat ≠ o a.toNat := by ((try simp only [bne_iff_ne, ne_eq, bne_eq_false_iff_eq, beq_iff_eq, beq_eq_false_iff_ne, decide_eq_true_eq, decide_eq_false_iff_not, List.length_map, Bool.not_eq_true, Bool.not_eq_false, Bool.and_eq_true, Bool.or_eq_true, Bool.and_eq_false_iff, Bool.or_eq_false_iff, Bool.not_eq_true', Bool.not_eq_false', Bool.not_true, Bool.not_false, Bool.not_eq_eq_eq_not, not_true_eq_false, not_false_eq_true, reduceCtorEq, Bool.true_or, Bool.false_or, Bool.or_true, Bool.or_false, Bool.true_and, Bool.and_true, Bool.false_and, Bool.and_false, true_and, and_true, or_false, false_or, true_or, or_true, false_and, and_false, Bool.true_eq_false, Bool.false_eq_true] at *) <;> omega)
            have hc : ¬ (0 ≤ o x.toNat ∧ (a < 0 ∨ o x.toNat < o a.toNat ∨ (o x.toNat = o a.toNat ∧ x < a))) := by omega
            ((conv => whnf); repeat (refine And.intro rfl ?_; (conv => whnf)))
            (refine .inl ⟨by (unfold InR; rw [IntKind.wrap_i64]; omega), ?_⟩; ((conv => whnf); repeat (refine And.intro rfl ?_; (conv => whnf))))
            refine ⟨k + 1, by omega, by dsimp only; omega, ?_⟩
            dsimp only
            rw [eS, if_neg hc]
            exact leB_envH (by (repeat' (first | exact trivial | refine And.intro rfl ?_))) rfl
    · have hc : ¬ (0 ≤ o x.toNat ∧ (a < 0 ∨ o x.toNat < o a.toNat ∨ (o x.toNat = o a.toNat ∧ x < a))) := fun h => by ((try simp only [bne_iff_ne, ne_eq, bne_eq_false_iff_eq, beq_iff_eq, beq_eq_false_iff_ne, decide_eq_true_eq, decide_eq_false_iff_not, List.length_map, Bool.not_eq_true, Bool.not_eq_false, Bool.and_eq_true, Bool.or_eq_true, Bool.and_eq_false_iff, Bool.or_eq_false_iff, Bool.not_eq_true', Bool.not_eq_false', Bool.not_true, Bool.not_false, Bool.not_eq_eq_eq_not, not_true_eq_false, not_false_eq_true, reduceCtorEq, Bool.true_or, Bool.false_or, Bool.or_true, Bool.or_false, Bool.true_and, Bool.and_true, Bool.false_and, Bool.and_false, true_and, and_true, or_false, false_or, true_or, or_true, false_and, and_false, Bool.true_eq_false, Bool.false_eq_true] at *) <;> omega)
      ((conv => whnf); repeat (refine And.intro rfl ?_; (conv => whnf)))
      (refine .inl ⟨by (unfold InR; rw [IntKind.wrap_i64]; omega), ?_⟩; ((conv => whnf); repeat (refine And.intro rfl ?_; (conv => whnf))))
      refine ⟨k + 1, by omega, by dsimp only; omega, ?_⟩
      dsimp only
      rw [eS, if_neg hc]
      exact leB_envH (by (repeat' (first | exact trivial | refine And.intro rfl ?_))) rfl
  · have hk' : k = from_.length := by have : ¬ k < from_.length := by ((try simp only [bne_iff_ne, ne_eq, bne_eq_false_iff_eq, beq_iff_eq, beq_eq_false_iff_ne, decide_eq_true_eq, decide_eq_false_iff_not, List.length_map, Bool.not_eq_true, Bool.not_eq_false, Bool.and_eq_true, Bool.or_eq_true, Bool.and_eq_false_iff, Bool.or_eq_false_iff, Bool.not_eq_true', Bool.not_eq_false', Bool.not_true, Bool.not_false, Bool.not_eq_eq_eq_not, not_true_eq_false, not_false_eq_true, reduceCtorEq, Bool.true_or, Bool.false_or, Bool.or_true, Bool.or_false, Bool.true_and, Bool.and_true, Bool.false_and, Bool.and_false, true_and, and_true, or_false, false_or, true_or, or_true, false_and, and_false, Bool.true_eq_false, Bool.false_eq_true] at *) <;> omega)
                                      omega
    subst hk'
    rw [← eW]
    generalize wayS g from_ to = a at eL hst
    (refine ifK_split (fun h5 => ?_) (fun h5 => ?_) <;> (rw [h5]; ((conv => whnf); repeat (refine And.intro rfl ?_; (conv => whnf)))))
    · have h5 : ¬ 0 ≤ a := by ((try simp only [bne_iff_ne, ne_eq, bne_eq_false_iff_eq, beq_iff_eq, beq_eq_false_iff_ne, decide_eq_true_eq, decide_eq_false_iff_not, List.length_map, Bool.not_eq_true, Bool.not_eq_false, Bool.and_eq_true, Bool.or_eq_true, Bool.and_eq_false_iff, Bool.or_eq_false_iff, Bool.not_eq_true', Bool.not_eq_false', Bool.not_true, Bool.not_false, Bool.not_eq_eq_eq_not, not_true_eq_false, not_false_eq_true, reduceCtorEq, Bool.true_or, Bool.false_or, Bool.or_true, Bool.or_false, Bool.true_and, Bool.and_true, Bool.false_and, Bool.and_false, true_and, and_true, or_false, false_or, true_or, or_true, false_and, and_false, Bool.true_eq_false, Bool.false_eq_true] at *) <;> omega)
      rw [eL, if_neg h5, decide_eq_false h5]
      exact .tup _ _ (.cons _ _ _ _ (.none _) (deepL_refl _))
    · have h5 : 0 ≤ a := by ((try simp only [bne_iff_ne, ne_eq, bne_eq_false_iff_eq, beq_iff_eq, beq_eq_false_iff_ne, decide_eq_true_eq, decide_eq_false_iff_not, List.length_map, Bool.not_eq_true, Bool.not_eq_false, Bool.and_eq_true, Bool.or_eq_true, Bool.and_eq_false_iff, Bool.or_eq_false_iff, Bool.not_eq_true', Bool.not_eq_false', Bool.not_true, Bool.not_false, Bool.not_eq_eq_eq_not, not_true_eq_false, not_false_eq_true, reduceCtorEq, Bool.true_or, Bool.false_or, Bool.or_true, Bool.or_false, Bool.true_and, Bool.and_true, Bool.false_and, Bool.and_false, true_and, and_true, or_false, false_or, true_or, or_true, false_and, and_false, Bool.true_eq_false, Bool.false_eq_true] at *) <;> omega)
      obtain ⟨ha1, ha2⟩ := hst h5
      rw [eL, if_pos h5, decide_eq_true h5]
      generalize hW : walkW g o (o a.toNat).toNat a = W
      have ha3 := hdl a.toNat (by omega)
      refine pwp_for [0, 10] (fun ((b, pre) : Int × List Int) => [(11, .sc (.int .i64 b)), (14, .own 0 pre.length 0 (pre.length + 1))]) (fun (b, pre) => [(0, .vec true pre.length 1 (i64s (pre ++ [b])))])
        (fun (b, pre) => 0 ≤ b ∧ b < (g.length : Int) ∧ 0 ≤ o b.toNat ∧ pre.length + (o b.toNat).toNat ≤ 20000 ∧ pre ++ walkW g o (o b.toNat).toNat b = W) (fun (b, pre) => (o b.toNat).toNat) (a, []) ?_
      ((conv => whnf); repeat (refine And.intro rfl ?_; (conv => whnf)))
      refine ⟨⟨h5, ha1, ha2, by simp; omega, hW⟩, by (repeat' (first | exact trivial | refine And.intro rfl ?_)), rfl, ?_⟩
      rintro ⟨b, pre⟩ ⟨hb1, hb2, hb3, hb4, hb5⟩
      ((conv => whnf); repeat (refine And.intro rfl ?_; (conv => whnf)))
      (apply red_sound; focus (repeat' (first | exact Red.skip | exact Red.ret | exact RedO.nil | exact RedD.nil | exact Red.exit _ | exact Red.loop _ | exact Red.stop _ | apply Red.ops | apply Red.draw | apply Red.seq | apply Red.cond | apply Red.block | apply RedO.cons | apply RedD.cons | exact (0 : Nat))))
      ((conv => whnf); repeat (refine And.intro rfl ?_; (conv => whnf)))
      refine ⟨by omega, _, gl_atN b.toNat (by omega) (by omega), ?_⟩
      ((conv => whnf); repeat (refine And.intro rfl ?_; (conv => whnf)))
      have hb6 := hdl b.toNat (by omega)
      (refine ifK_split (fun h6 => ?_) (fun h6 => ?_) <;> (rw [h6]; ((conv => whnf); repeat (refine And.intro rfl ?_; (conv => whnf)))))
      · obtain ⟨d, ed⟩ : ∃ d : Nat, o b.toNat = (d : Int) + 1 := ⟨(o b.toNat).toNat - 1, by have h6 : 0 < o b.toNat := by ((try simp only [bne_iff_ne, ne_eq, bne_eq_false_iff_eq, beq_iff_eq, beq_eq_false_iff_ne, decide_eq_true_eq, decide_eq_false_iff_not, List.length_map, Bool.not_eq_true, Bool.not_eq_false, Bool.and_eq_true, Bool.or_eq_true, Bool.and_eq_false_iff, Bool.or_eq_false_iff, Bool.not_eq_true', Bool.not_eq_false', Bool.not_true, Bool.not_false, Bool.not_eq_eq_eq_not, not_true_eq_false, not_false_eq_true, reduceCtorEq, Bool.true_or, Bool.false_or, Bool.or_true, Bool.or_false, Bool.true_and, Bool.and_true, Bool.false_and, Bool.and_false, true_and, and_true, or_false, false_or, true_or, or_true, false_and, and_false, Bool.true_eq_false, Bool.false_eq_true] at *) <;> omega)
                                                                                            omega⟩
        obtain ⟨n1, n2, n3⟩ := hnx ed
        rw [show (o b.toNat).toNat = d + 1 by omega, walkW_succ] at hb5
        refine ⟨by omega, _, gridD_at (g := g) (k := b.toNat) (by omega) (by omega), ?_⟩
        ((conv => whnf); repeat (refine And.intro rfl ?_; (conv => whnf)))
        rw [List.length_map]
        have hB := inB_row hin b.toNat
        have hBl := hF.at b.toNat
        generalize g.getD b.toNat [] = L at n1 n2 n3 hb5 hB hBl
        refine pwp_for [0, 10, 11, 14, 92, 93] (fun k : Nat => [(15, .sc (.int .i64 (bestTo (fun n => decide (o n = (d : Int))) L k))), (94, .sc (.int .i64 k))]) (fun _ => []) (fun k => k ≤ L.length) (fun k => L.length - k) 0 ?_
        ((conv => whnf); repeat (refine And.intro rfl ?_; (conv => whnf)))
        refine ⟨by omega, by (repeat' (first | exact trivial | refine And.intro rfl ?_)), rfl, ?_⟩
        rintro k hk
        ((conv => whnf); repeat (refine And.intro rfl ?_; (conv => whnf)))
        (apply red_sound; focus (repeat' (first | exact Red.skip | exact Red.ret | exact RedO.nil | exact RedD.nil | exact Red.exit _ | exact Red.loop _ | exact Red.stop _ | apply Red.ops | apply Red.draw | apply Red.seq | apply Red.cond | apply Red.block | apply RedO.cons | apply RedD.cons | exact (0 : Nat))))
        ((conv => whnf); repeat (refine And.intro rfl ?_; (conv => whnf)))
        (refine ifK_split (fun h7 => ?_) (fun h7 => ?_) <;> (rw [h7]; ((conv => whnf); repeat (refine And.intro rfl ?_; (conv => whnf)))))
        · have hk' : k < L.length := by ((try simp only [bne_iff_ne, ne_eq, bne_eq_false_iff_eq, beq_iff_eq, beq_eq_false_iff_ne, decide_eq_true_eq, decide_eq_false_iff_not, List.length_map, Bool.not_eq_true, Bool.not_eq_false, Bool.and_eq_true, Bool.or_eq_true, Bool.and_eq_false_iff, Bool.or_eq_false_iff, Bool.not_eq_true', Bool.not_eq_false', Bool.not_true, Bool.not_false, Bool.not_eq_eq_eq_not, not_true_eq_false, not_false_eq_true, reduceCtorEq, Bool.true_or, Bool.false_or, Bool.or_true, Bool.or_false, Bool.true_and, Bool.and_true, Bool.false_and, Bool.and_false, true_and, and_true, or_false, false_or, true_or, or_true, false_and, and_false, Bool.true_eq_false, Bool.false_eq_true] at *) <;> omega)
          have hx := inB_getD hB hk'
          refine ⟨by omega, _, intsD_at (l := L) (k := k) (by omega) hk', ?_⟩
          ((conv => whnf); repeat (refine And.intro rfl ?_; (conv => whnf)))
          have eS : bestTo (fun n => decide (o n = (d : Int))) L (k + 1) = if decide (o (L.getD k 0).toNat = (d : Int)) = true ∧ (bestTo (fun n => decide (o n = (d : Int))) L k < 0 ∨ L.getD k 0 < bestTo (fun n => decide (o n = (d : Int))) L k) then L.getD k 0 else bestTo (fun n => decide (o n = (d : Int))) L k := rfl
          simp only [decide_eq_true_eq] at eS
          generalize L.getD k 0 = x at eS hx
          generalize bestTo (fun n => decide (o n = (d : Int))) L k = y at eS
          refine ⟨by omega, _, gl_atN x.toNat (by omega) (by omega), ?_⟩
          ((conv => whnf); repeat (refine And.intro rfl ?_; (conv => whnf)))
          refine ⟨by omega, _, gl_atN b.toNat (by omega) (by omega), ?_⟩
          ((conv => whnf); repeat (refine And.intro rfl ?_; (conv => whnf)))
          (refine .inl ⟨by (unfold InR; rw [IntKind.wrap_i64]; omega), ?_⟩; ((conv => whnf); repeat (refine And.intro rfl ?_; (conv => whnf))))
          (refine ifK_split (fun c1 => ?_) (fun c1 => ?_) <;> (rw [c1]; ((conv => whnf); repeat (refine And.intro rfl ?_; (conv => whnf)))))
          · have c1 : o x.toNat = d := by ((try simp only [bne_iff_ne, ne_eq, bne_eq_false_iff_eq, beq_iff_eq, beq_eq_false_iff_ne, decide_eq_true_eq, decide_eq_false_iff_not, List.length_map, Bool.not_eq_true, Bool.not_eq_false, Bool.and_eq_true, Bool.or_eq_true, Bool.and_eq_false_iff, Bool.or_eq_false_iff, Bool.not_eq_true', Bool.not_eq_false', Bool.not_true, Bool.not_false, Bool.not_eq_eq_eq_not, not_true_eq_false, not_false_eq_true, reduceCtorEq, Bool.true_or, Bool.false_or, Bool.or_true, Bool.or_false, Bool.true_and, Bool.and_true, Bool.false_and, Bool.and_false, true_and, and_true, or_false, false_or, true_or, or_true, false_and, and_false, Bool.true_eq_false, Bool.false_eq_true] at *) <;> omega)
            (refine ifK_split (fun c2 => ?_) (fun c2 => ?_) <;> (rw [c2]; ((conv => whnf); repeat (refine And.intro rfl ?_; (conv => whnf)))))
            · have hc : o x.toNat = (d : Int) ∧ (y < 0 ∨ x < y) := ⟨c1, .inl (by ((try simp only [bne_iff_ne, ne_eq, bne_eq_false_iff_eq, beq_iff_eq, beq_eq_false_iff_ne, decide_eq_true_eq, decide_eq_false_iff_not, List.length_map, Bool.not_eq_true, Bool.not_eq_false, Bool.and_eq_true, Bool.or_eq_true, Bool.and_eq_false_iff, Bool.or_eq_false_iff, Bool.not_eq_true', Bool.not_eq_false', Bool.not_true, Bool.not_false, Bool.not_eq_eq_eq_not, not_true_eq_false, not_false_eq_true, reduceCtorEq, Bool.true_or, Bool.false_or, Bool.or_true, Bool.or_false, Bool.true_and, Bool.and_true, Bool.false_and, Bool.and_false, true_and, and_true, or_false, false_or, true_or, or_true, false_and, and_false, Bool.true_eq_false, Bool.false_eq_true] at *) <;> omega))⟩
              ((conv => whnf); repeat (refine And.intro rfl ?_; (conv => whnf)))
              (refine .inl ⟨by (unfold InR; rw [IntKind.wrap_i64]; omega), ?_⟩; ((conv => whnf); repeat (refine And.intro rfl ?_; (conv => whnf))))
              refine ⟨k + 1, by omega, by dsimp only; omega, ?_⟩
              dsimp only
              rw [eS, if_pos hc]
              exact leB_envH (by (repeat' (first | exact trivial | refine And.intro rfl ?_))) rfl
            · have c2 : ¬ y < 0 := by ((try simp only [bne_iff_ne, ne_eq, bne_eq_false_iff_eq, beq_iff_eq, beq_eq_false_iff_ne, decide_eq_true_eq, decide_eq_false_iff_not, List.length_map, Bool.not_eq_true, Bool.not_eq_false, Bool.and_eq_true, Bool.or_eq_true, Bool.and_eq_false_iff, Bool.or_eq_false_iff, Bool.not_eq_true', Bool.not_eq_false', Bool.not_true, Bool.not_false, Bool.not_eq_eq_eq_not, not_true_eq_false, not_false_eq_true, reduceCtorEq, Bool.true_or, Bool.false_or, Bool.or_true, Bool.or_false, Bool.true_and, Bool.and_true, Bool.false_and, Bool.and_false, true_and, and_true, or_false, false_or, true_or, or_true, false_and, and_false, Bool.true_eq_false, Bool.false_eq_true] at *) <;> omega)
              (refine ifK_split (fun c3 => ?_) (fun c3 => ?_) <;> (rw [c3]; ((conv => whnf); repeat (refine And.intro rfl ?_; (conv => whnf)))))
              · have hc : o x.toNat = (d : Int) ∧ (y < 0 ∨ x < y) := ⟨c1, .inr (by ((try simp only [bne_iff_ne, ne_eq, bne_eq_false_iff_eq, beq_iff_eq, beq_eq_false_iff_ne, decide_eq_true_eq, decide_eq_false_iff_not, List.length_map, Bool.not_eq_true, Bool.not_eq_false, Bool.and_eq_true, Bool.or_eq_true, Bool.and_eq_false_iff, Bool.or_eq_false_iff, Bool.not_eq_true', Bool.not_eq_false', Bool.not_true, Bool.not_false, Bool.not_eq_eq_eq_not, not_true_eq_false, not_false_eq_true, reduceCtorEq, Bool.true_or, Bool.false_or, Bool.or_true, Bool.or_false, Bool.true_and, Bool.and_true, Bool.false_and, Bool.and_false, true_and, and_true, or_false, false_or, true_or, or_true, false_and, and_false, Bool.true_eq_false, Bool.false_eq_true] at *) <;> omega))⟩
                ((conv => whnf); repeat (refine And.intro rfl ?_; (conv => whnf)))
                (refine .inl ⟨by (unfold InR; rw [IntKind.wrap_i64]; omega), ?_⟩; ((conv => whnf); repeat (refine And.intro rfl ?_; (conv => whnf))))
                refine ⟨k + 1, by omega, by dsimp only; omega, ?_⟩
                dsimp only
                rw [eS, if_pos hc]
                exact leB_envH (by (repeat' (first | exact trivial | refine And.intro rfl ?_))) rfl
              · have hc : ¬ (o x.toNat = (d : Int) ∧ (y < 0 ∨ x < y)) := fun h => by ((try simp only [bne_iff_ne, ne_eq, bne_eq_false_iff_eq, beq_iff_eq, beq_eq_false_iff_ne, decide_eq_true_eq, decide_eq_false_iff_not, List.length_map, Bool.not_eq_true, Bool.not_eq_false, Bool.and_eq_true, Bool.or_eq_true, Bool.and_eq_false_iff, Bool.or_eq_false_iff, Bool.not_eq_true', Bool.not_eq_false', Bool.not_true, Bool.not_false, Bool.not_eq_eq_eq_not, not_true_eq_false, not_false_eq_true, reduceCtorEq, Bool.true_or, Bool.false_or, Bool.or_true, Bool.or_false, Bool.true_and, Bool.and_true, Bool.false_and, Bool.and_false, true_and, and_true, or_false, false_or, true_or, or_true, false_and, and_false, Bool.true_eq_false, Bool.false_eq_true] at *) <;> omega)
                ((conv => whnf); repeat (refine And.intro rfl ?_; (conv => whnf)))
                (refine .inl ⟨by (unfold InR; rw [IntKind.wrap_i64]; omega), ?_⟩; ((conv => whnf); repeat (refine And.intro rfl ?_; (conv => whnf))))
                refine ⟨k + 1, by omega, by dsimp only; omega, ?_⟩
                dsimp only
                rw [eS, if_neg hc]
                exact leB_envH (by (repeat' (first | exact trivial | refine And.intro rfl ?_))) rfl
          · have hc : ¬ (o x.toNat = (d : Int) ∧ (y < 0 ∨ x < y)) := fun h => by ((try simp only [bne_iff_ne, ne_eq, bne_eq_false_iff_eq, beq_iff_eq, beq_eq_false_iff_ne, decide_eq_true_eq, decide_eq_false_iff_not, List.length_map, Bool.not_eq_true, Bool.not_eq_false, Bool.and_eq_true, Bool.or_eq_true, Bool.and_eq_false_iff, Bool.or_eq_false_iff, Bool.not_eq_true', Bool.not_eq_false', Bool.not_true, Bool.not_false, Bool.not_eq_eq_eq_not, not_true_eq_false, not_false_eq_true, reduceCtorEq, Bool.true_or, Bool.false_or, Bool.or_true, Bool.or_false, Bool.true_and, Bool.and_true, Bool.false_and, Bool.and_false, true_and, and_true, or_false, false_or, true_or, or_true, false_and, and_false, Bool.true_eq_false, Bool.false_eq_true] at *) <;> omega)
            ((conv => whnf); repeat (refine And.intro rfl ?_; (conv => whnf)))
            (refine .inl ⟨by (unfold InR; rw [IntKind.wrap_i64]; omega), ?_⟩; ((conv => whnf); repeat (refine And.intro rfl ?_; (conv => whnf))))
            refine ⟨k + 1, by omega, by dsimp only; omega, ?_⟩
            dsimp only
            rw [eS, if_neg hc]
            exact leB_envH (by (repeat' (first | exact trivial | refine And.intro rfl ?_))) rfl
        · have hk' : k = L.length := by have : ¬ k < L.length := by ((try simp only [bne_iff_ne, ne_eq, bne_eq_false_iff_eq, beq_iff_eq, beq_eq_false_iff_ne, decide_eq_true_eq, decide_eq_false_iff_not, List.length_map, Bool.not_eq_true, Bool.not_eq_false, Bool.and_eq_true, Bool.or_eq_true, Bool.and_eq_false_iff, Bool.or_eq_false_iff, Bool.not_eq_true', Bool.not_eq_false', Bool.not_true, Bool.not_false, Bool.not_eq_eq_eq_not, not_true_eq_false, not_false_eq_true, reduceCtorEq, Bool.true_or, Bool.false_or, Bool.or_true, Bool.or_false, Bool.true_and, Bool.and_true, Bool.false_and, Bool.and_false, true_and, and_true, or_false, false_or, true_or, or_true, false_and, and_false, Bool.true_eq_false, Bool.false_eq_true] at *) <;> omega)
                                        omega
          subst hk'
          generalize bestTo (fun n => decide (o n = (d : Int))) L L.length = y at n1 n2 n3 hb5
          refine ⟨(by unfold sliceAppend; simp only [List.length_map, List.length_cons, List.length_nil, List.length_append, List.length_take, List.length_drop, List.drop_zero, List.take_succ_cons, List.take_zero]; omega), ?_⟩
          ((conv => whnf); repeat (refine And.intro rfl ?_; (conv => whnf)))
          refine ⟨(y, pre ++ [b]), ⟨n1, n2, by omega, by simp; omega, ?_⟩, by dsimp only; omega, ?_⟩
          · rw [n3, Int.toNat_natCast, ← hb5]; simp
          · dsimp only
            rw [show (pre ++ [b]).length = pre.length + 1 by simp]
            (refine leB_close 1 (by simp) rfl ?_ ?_ <;> (repeat' (first | exact trivial | exact rfl | exact DeepM.refl _ | exact DeepML.refl _ | exact DeepMLL.refl _ | refine And.intro ?_ ?_ | (simp [Under, UnderL, UnderLL, -List.map_take, -List.map_drop]; done))))
            exact deepMLL_eq (by rw [List.take_of_length_le (by simp), List.drop_zero]; simp [i64s])
      · have h6 : o b.toNat = 0 := by ((try simp only [bne_iff_ne, ne_eq, bne_eq_false_iff_eq, beq_iff_eq, beq_eq_false_iff_ne, decide_eq_true_eq, decide_eq_false_iff_not, List.length_map, Bool.not_eq_true, Bool.not_eq_false, Bool.and_eq_true, Bool.or_eq_true, Bool.and_eq_false_iff, Bool.or_eq_false_iff, Bool.not_eq_true', Bool.not_eq_false', Bool.not_true, Bool.not_false, Bool.not_eq_eq_eq_not, not_true_eq_false, not_false_eq_true, reduceCtorEq, Bool.true_or, Bool.false_or, Bool.or_true, Bool.or_false, Bool.true_and, Bool.and_true, Bool.false_and, Bool.and_false, true_and, and_true, or_false, false_or, true_or, or_true, false_and, and_false, Bool.true_eq_false, Bool.false_eq_true] at *) <;> omega)
        rw [h6] at hb5
        refine .tup _ _ (.cons _ _ _ _ ?_ (deepL_refl _))
        rw [← hb5]
        exact .own _ _ _ _ _ _ _ _ rfl (by rw [List.drop_zero, List.take_of_length_le (by simp)]; exact deepLL_refl _)
end Go.Proofs.Ytjagpdmiffmjhaa
