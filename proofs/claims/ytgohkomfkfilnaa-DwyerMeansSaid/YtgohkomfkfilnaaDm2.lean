/-
  What a pattern means: the program's keeps, answered and Means, over deep values. No statement is proved here.
-/
import Derived.Test.YtgohkomfkfilnaaDm1
namespace Go.Proofs.Ytgohkomfkfilnaa
open Go.RowKit
set_option linter.unusedSimpArgs false
set_option linter.unusedVariables false
/-! ### Plain -/
def earD (kind : Int) (S : Nat → Bool) (a d : Nat) : Bool := decide (kind = 5) && decide (0 < cnt S a (a + d))
def latD (kind : Int) (P S : Nat → Bool) (E a e d : Nat) : Bool := (List.range d).all fun d => !P (a + d) || (if kind = 5 then decide (0 < cnt S a (a + d + 1)) else if kind = 6 then decide (fst S E (a + d) < e) else true)
def uniD (P : Nat → Bool) (a d : Nat) : Bool := decide (cnt P a (a + d) = d)
theorem earD_succ (kind : Int) (S : Nat → Bool) (a d : Nat) : earD kind S a (d + 1) = (earD kind S a d || (decide (kind = 5) && S (a + d))) := by
  unfold earD
  rw [← Nat.add_assoc, cnt_succ (by omega)]
  cases S (a + d)
  · simp
  · by_cases q : kind = 5 <;> simp [q]
theorem latD_succ (kind : Int) (P S : Nat → Bool) (E a e d : Nat) : latD kind P S E a e (d + 1) = (latD kind P S E a e d && (!P (a + d) || (if kind = 5 then earD kind S a (d + 1) else if kind = 6 then decide (fst S E (a + d) < e) else true))) := by
  unfold latD earD
  rw [List.range_succ, List.all_append]
  by_cases q : kind = 5
  · simp [q, Nat.add_assoc]
  · simp [q]
theorem uniD_succ (P : Nat → Bool) (a d : Nat) : uniD P a (d + 1) = (uniD P a d && P (a + d)) := by
  unfold uniD
  rw [← Nat.add_assoc, cnt_succ (by omega)]
  have := cntF_le P a (a + d - a)
  change cnt P a (a + d) ≤ a + d - a at this
  cases hp : P (a + d)
  · rw [if_neg (by decide), Nat.add_zero, Bool.and_false, decide_eq_false (by omega)]
  · rw [if_pos rfl, Bool.and_true, Bool.eq_iff_iff, decide_eq_true_eq, decide_eq_true_eq]
    omega
theorem cntZ_succ (P : Nat → Bool) (a d : Nat) : (cnt P a (a + (d + 1)) : Int) = if P (a + d) = true then (cnt P a (a + d) : Int) + 1 else (cnt P a (a + d) : Int) := by
  rw [← Nat.add_assoc, cnt_succ (by omega)]
  split <;> omega
theorem latB_eq (kind : Int) (P S : Nat → Bool) (E a e : Nat) : lateB kind P S E a e e = latD kind P S E a e (e - a) := rfl
def c54_1 : PC := .seq (.seq (.ops [⟨(some 12), .move (.tmp 9), none, 0⟩,
    ⟨(some 13), .faddr 1 (.tmp 3), none, 0⟩,
    ⟨(some 14), .load1 (.tmp 13), none, 0⟩,
    ⟨(some 15), .bin .lss (.tmp 12) (.tmp 14), none, 0⟩] false) (.cond (.tmp 15) (.skip) (.exit 0))) (.seq (.block 1 (.seq (.ops [⟨(some 18), .move (.tmp 6), none, 0⟩,
    ⟨(some 19), .move (.tmp 18), none, 0⟩,
    ⟨(some 20), .move (.tmp 0), (some (19, false)), 0⟩,
    ⟨(some 21), .nilchk (.tmp 20), (some (19, false)), 0⟩,
    ⟨(some 22), .faddr 0 (.tmp 21), (some (19, false)), 0⟩,
    ⟨(some 23), .faddr 0 (.tmp 22), (some (19, false)), 0⟩,
    ⟨(some 24), .load1 (.tmp 23), (some (19, false)), 0⟩,
    ⟨(some 25), .bin .eql (.tmp 24) (.const (.int .i64 5)), (some (19, false)), 0⟩,
    ⟨(some 26), .move (.tmp 25), (some (19, false)), 0⟩,
    ⟨(some 27), .move (.tmp 0), (some (26, true)), 0⟩,
    ⟨(some 28), .move (.tmp 9), (some (26, true)), 0⟩,
    ⟨(some 29), .move (.tmp 0), (some (26, true)), 0⟩,
    ⟨(some 30), .nilchk (.tmp 29), (some (26, true)), 0⟩,
    ⟨(some 31), .faddr 0 (.tmp 30), (some (26, true)), 0⟩,
    ⟨(some 32), .faddr 3 (.tmp 31), (some (26, true)), 0⟩,
    ⟨(some 33), .load1 (.tmp 32), (some (26, true)), 0⟩,
    ⟨(some 34), .call 87 [(.tmp 27), (.tmp 28), (.tmp 33)], (some (26, true)), 0⟩,
    ⟨(some 35), .pick (.tmp 26) (.tmp 34) (.const (.bool false)), (some (19, false)), 0⟩,
    ⟨(some 36), .pick (.tmp 19) (.const (.bool true)) (.tmp 35), none, 0⟩,
    ⟨(some 6), .move (.tmp 36), none, 0⟩] false) (.seq (.seq (.ops [⟨(some 37), .move (.tmp 0), none, 0⟩,
    ⟨(some 38), .move (.tmp 9), none, 0⟩,
    ⟨(some 39), .move (.tmp 0), none, 0⟩,
    ⟨(some 40), .nilchk (.tmp 39), none, 0⟩,
    ⟨(some 41), .faddr 0 (.tmp 40), none, 0⟩,
    ⟨(some 42), .faddr 2 (.tmp 41), none, 0⟩,
    ⟨(some 43), .load1 (.tmp 42), none, 0⟩,
    ⟨(some 44), .call 87 [(.tmp 37), (.tmp 38), (.tmp 43)], none, 0⟩,
    ⟨(some 45), .un .not (.tmp 44), none, 0⟩] false) (.cond (.tmp 45) (.seq (.ops [⟨(some 8), .move (.const (.bool false)), none, 0⟩] false) (.exit 1)) (.skip))) (.seq (.ops [⟨(some 46), .move (.tmp 5), none, 0⟩,
    ⟨(some 47), .bin .add (.tmp 46) (.const (.int .i64 1)), none, 0⟩,
    ⟨(some 5), .move (.tmp 47), none, 0⟩] false) (.seq (.seq (.ops [⟨(some 48), .move (.tmp 0), none, 0⟩,
    ⟨(some 49), .nilchk (.tmp 48), none, 0⟩,
    ⟨(some 50), .faddr 0 (.tmp 49), none, 0⟩,
    ⟨(some 51), .faddr 0 (.tmp 50), none, 0⟩,
    ⟨(some 52), .load1 (.tmp 51), none, 0⟩,
    ⟨(some 53), .bin .eql (.tmp 52) (.const (.int .i64 5)), none, 0⟩,
    ⟨(some 54), .move (.tmp 53), none, 0⟩,
    ⟨(some 55), .move (.tmp 6), (some (54, true)), 0⟩,
    ⟨(some 56), .un .not (.tmp 55), (some (54, true)), 0⟩,
    ⟨(some 57), .pick (.tmp 54) (.tmp 56) (.const (.bool false)), none, 0⟩] false) (.cond (.tmp 57) (.ops [⟨(some 7), .move (.const (.bool false)), none, 0⟩] false) (.skip))) (.seq (.ops [⟨(some 58), .move (.tmp 0), none, 0⟩,
    ⟨(some 59), .nilchk (.tmp 58), none, 1⟩,
    ⟨(some 60), .faddr 0 (.tmp 59), none, 3⟩,
    ⟨(some 61), .faddr 0 (.tmp 60), none, 7⟩,
    ⟨(some 62), .load1 (.tmp 61), none, 15⟩,
    ⟨(some 63), .bin .eql (.tmp 62) (.const (.int .i64 6)), none, 31⟩,
    ⟨(some 64), .move (.tmp 63), none, 63⟩,
    ⟨(some 65), .move (.tmp 0), (some (64, true)), 127⟩,
    ⟨(some 66), .move (.tmp 9), (some (64, true)), 127⟩,
    ⟨(some 67), .move (.tmp 0), (some (64, true)), 127⟩,
    ⟨(some 68), .nilchk (.tmp 67), (some (64, true)), 639⟩,
    ⟨(some 69), .faddr 0 (.tmp 68), (some (64, true)), 1663⟩,
    ⟨(some 70), .faddr 3 (.tmp 69), (some (64, true)), 3711⟩,
    ⟨(some 71), .load1 (.tmp 70), (some (64, true)), 7807⟩,
    ⟨(some 72), .call 86 [(.tmp 65), (.tmp 66), (.tmp 71)], (some (64, true)), 16383⟩,
    ⟨(some 73), .faddr 1 (.tmp 3), (some (64, true)), 127⟩,
    ⟨(some 74), .load1 (.tmp 73), (some (64, true)), 32895⟩,
    ⟨(some 75), .bin .geq (.tmp 72) (.tmp 74), (some (64, true)), 131071⟩,
    ⟨(some 76), .pick (.tmp 64) (.tmp 75) (.const (.bool false)), none, 262143⟩] true) (.cond (.tmp 76) (.ops [⟨(some 7), .move (.const (.bool false)), none, 0⟩] false) (.skip)))))))) (.ops [⟨(some 16), .move (.tmp 9), none, 0⟩,
    ⟨(some 17), .bin .add (.tmp 16) (.const (.int .i64 1)), none, 0⟩,
    ⟨(some 9), .move (.tmp 17), none, 0⟩] false))
def c54 : PC := .seq (.ops [⟨(some 3), .box (.tmp 1), none, 0⟩,
    ⟨(some 4), .move (.const (.bool false)), none, 0⟩] false) (.seq (.ops [⟨(some 5), .move (.const (.int .i64 0)), none, 0⟩,
    ⟨(some 6), .move (.const (.bool false)), none, 0⟩,
    ⟨(some 7), .move (.const (.bool true)), none, 0⟩] false) (.seq (.ops [⟨(some 8), .move (.const (.bool true)), none, 0⟩] false) (.seq (.seq (.ops [⟨(some 10), .faddr 0 (.tmp 3), none, 0⟩,
    ⟨(some 11), .load1 (.tmp 10), none, 0⟩,
    ⟨(some 9), .move (.tmp 11), none, 0⟩] false) (.block 0 (.loop c54_1))) (.seq (.seq (.ops [⟨(some 77), .move (.tmp 0), none, 0⟩,
    ⟨(some 78), .nilchk (.tmp 77), none, 0⟩,
    ⟨(some 79), .faddr 0 (.tmp 78), none, 0⟩,
    ⟨(some 80), .faddr 0 (.tmp 79), none, 0⟩,
    ⟨(some 81), .load1 (.tmp 80), none, 0⟩] false) (.block 2 (.seq (.ops [⟨(some 83), .bin .eql (.tmp 81) (.const (.int .i64 1)), none, 0⟩,
    ⟨(some 82), .move (.tmp 83), none, 0⟩] false) (.cond (.tmp 82) (.seq (.ops [⟨(some 84), .move (.tmp 5), none, 0⟩,
    ⟨(some 85), .bin .eql (.tmp 84) (.const (.int .i64 0)), none, 0⟩,
    ⟨(some 4), .move (.tmp 85), none, 0⟩] false) (.ret)) (.seq (.ops [⟨(some 87), .bin .eql (.tmp 81) (.const (.int .i64 2)), none, 0⟩,
    ⟨(some 86), .move (.tmp 87), none, 0⟩] false) (.cond (.tmp 86) (.seq (.ops [⟨(some 88), .move (.tmp 8), none, 0⟩,
    ⟨(some 4), .move (.tmp 88), none, 0⟩] false) (.ret)) (.seq (.ops [⟨(some 90), .bin .eql (.tmp 81) (.const (.int .i64 3)), none, 0⟩,
    ⟨(some 89), .move (.tmp 90), none, 0⟩] false) (.cond (.tmp 89) (.seq (.ops [⟨(some 91), .move (.tmp 5), none, 0⟩,
    ⟨(some 92), .bin .gtr (.tmp 91) (.const (.int .i64 0)), none, 0⟩,
    ⟨(some 4), .move (.tmp 92), none, 0⟩] false) (.ret)) (.seq (.ops [⟨(some 94), .bin .eql (.tmp 81) (.const (.int .i64 4)), none, 0⟩,
    ⟨(some 93), .move (.tmp 94), none, 0⟩] false) (.cond (.tmp 93) (.seq (.ops [⟨(some 95), .move (.tmp 5), none, 0⟩,
    ⟨(some 96), .move (.tmp 0), none, 0⟩,
    ⟨(some 97), .nilchk (.tmp 96), none, 0⟩,
    ⟨(some 98), .faddr 0 (.tmp 97), none, 0⟩,
    ⟨(some 99), .faddr 6 (.tmp 98), none, 0⟩,
    ⟨(some 100), .load1 (.tmp 99), none, 0⟩,
    ⟨(some 101), .bin .leq (.tmp 95) (.tmp 100), none, 0⟩,
    ⟨(some 4), .move (.tmp 101), none, 0⟩] false) (.ret)) (.skip))))))))))) (.seq (.ops [⟨(some 102), .move (.tmp 7), none, 0⟩,
    ⟨(some 4), .move (.tmp 102), none, 0⟩] false) (.ret))))))
set_option maxRecDepth 100000 in
theorem c54_ok : FunOK Try.prog 54 103 [.tmp 4] c54 := ⟨⟨Try.f54, Try.func54, rfl, by kernel_rfl, rfl, by kernel_rfl⟩⟩
set_option maxRecDepth 100000 in
theorem dw_keeps (x : Pat) (s l : List Int) (E : Nat) (hE : E ≤ 100000) (h : PW x s l) (a e : Nat) (hae : a ≤ e) (heE : e ≤ E) : PCall Try.prog 54 [.ipt (lcells x s l E), .agg [.sc (.int .i64 a), .sc (.int .i64 e)]]
    (.sc (.bool (keptB x.kind x.count (hasP s l x.p) (hasP s l x.s) E a e))) := by
  have hH := fun j (hj : j ≤ 100000) a ha => dw_has x s l E h j hj a ha
  have hF := fun i (hi : i ≤ E) a ha => dw_first x s l E hE h i hi a ha
  obtain ⟨⟨k1, k2⟩, ⟨k3, k4⟩, ⟨k5, k6⟩, ⟨k7, k8⟩, ⟨k9, k10⟩, ⟨k11, k12⟩, k13, k14⟩ := h.nums
  refine pcall_intro c54_ok (by simp) (by simp [PureL, Pure, pure_lcells]) ?_ (by simp [Pure])
  have hP := fun j (hj : j ≤ 100000) => hH j hj x.p k5
  have hS := fun j (hj : j ≤ 100000) => hH j hj x.s k7
  have hFS := fun j (hj : j ≤ E) => hF j hj x.s k7
  clear hH hF
  unfold keptB
  rw [latB_eq]
  generalize hasP s l x.p = P at *
  generalize hasP s l x.s = S at *
  unfold lcells at *
  (apply rd_sound; focus (repeat' constructor))
  ((conv=>whnf);repeat(refine And.intro rfl ?_;(conv=>whnf)))
  refine pwp_for [0, 3] (fun ((d, ea, la, un, mn) : Nat × Bool × Bool × Bool × Int) => [(5, .sc (.int .i64 mn)), (6, .sc (.bool ea)), (7, .sc (.bool la)), (8, .sc (.bool un)), (9, .sc (.int .i64 ((a + d : Nat) : Int)))]) (fun _ => [])
    (fun (d, ea, la, un, mn) => d ≤ e - a ∧ ea = earD x.kind S a d ∧ la = latD x.kind P S E a e d ∧ un = uniD P a d ∧ mn = (cnt P a (a + d) : Int)) (fun (d, ea, la, un, mn) => e - a - d) (0, false, true, true, 0) ?_
  ((conv=>whnf);repeat(refine And.intro rfl ?_;(conv=>whnf)))
  refine ⟨⟨by omega, by simp [earD, cnt_self], by simp [latD], by simp [uniD, cnt_self], by simp [cnt_self]⟩, by (repeat' (first | exact trivial | refine And.intro rfl ?_)), rfl, ?_⟩
  rintro ⟨d, ea, la, un, mn⟩ ⟨hd, h1, h2, h3, h4⟩
  have e1 := earD_succ x.kind S a d
  have e2 := latD_succ x.kind P S E a e d
  have e3 := uniD_succ P a d
  have e4 := cntZ_succ P a d
  rw [← h1] at e1
  rw [← h2] at e2
  rw [← h3] at e3
  rw [← h4] at e4
  have hcb := cntF_le P a (a + d - a)
  change cnt P a (a + d) ≤ a + d - a at hcb
  ((conv=>whnf);repeat(refine And.intro rfl ?_;(conv=>whnf)))
  (apply rd_sound; focus (repeat' constructor))
  ((conv=>whnf);repeat(refine And.intro rfl ?_;(conv=>whnf)))
  (refine ifK_split (fun q0 => ?_) (fun q0 => ?_) <;> (rw [q0]; ((conv=>whnf);repeat(refine And.intro rfl ?_;(conv=>whnf)))))
  · have q0 : a + d < e := by ((try simp only [oo, reduceCtorEq] at *) <;> omega)
    have hPd := hP (a + d) (by omega)
    have hSd := hS (a + d) (by omega)
    have hFd := hFS (a + d) (by omega)
    cases ea
    · ((conv=>whnf);repeat(refine And.intro rfl ?_;(conv=>whnf)))
      (refine ifK_split (fun q1 => ?_) (fun q1 => ?_) <;> (rw [q1]; ((conv=>whnf);repeat(refine And.intro rfl ?_;(conv=>whnf)))))
      · have q1 : x.kind = 5 := by ((try simp only [oo, reduceCtorEq] at *) <;> omega)
        rw [decide_eq_true q1] at e1
        (refine .inl ⟨_, hSd, ?_⟩; ((conv=>whnf);repeat(refine And.intro rfl ?_;(conv=>whnf))))
        cases q2 : S (a + d)
        · rw [q2, Bool.and_false, Bool.or_false] at e1
          ((conv=>whnf);repeat(refine And.intro rfl ?_;(conv=>whnf)))
          (refine .inl ⟨_, hPd, ?_⟩; ((conv=>whnf);repeat(refine And.intro rfl ?_;(conv=>whnf))))
          cases p : P (a + d)
          · rw [p] at e2 e3 e4
            ((conv=>whnf);repeat(refine And.intro rfl ?_;(conv=>whnf)))
            (refine .inl ⟨by (unfold InR; rw [IntKind.wrap_i64]; omega), ?_⟩; ((conv=>whnf);repeat(refine And.intro rfl ?_;(conv=>whnf))))
            refine ⟨(d + 1, _, _, _, _), ⟨by omega, e1.symm, by rw [e2]; simp, by rw [e3]; simp, by rw [e4]; simp⟩, by dsimp only; omega, leB_envH ⟨rfl, rfl, rfl, rfl, by show D.sc _ = D.sc _; congr 3, by (repeat' (first | exact trivial | refine And.intro rfl ?_))⟩ rfl⟩
          · rw [p] at e2 e3 e4
            ((conv=>whnf);repeat(refine And.intro rfl ?_;(conv=>whnf)))
            (refine .inl ⟨by (unfold InR; rw [IntKind.wrap_i64]; omega), ?_⟩; ((conv=>whnf);repeat(refine And.intro rfl ?_;(conv=>whnf))))
            (refine ifK_split (fun r1 => ?_) (fun r1 => ?_) <;> (rw [r1]; ((conv=>whnf);repeat(refine And.intro rfl ?_;(conv=>whnf)))))
            · have r1 : x.kind = 5 := by ((try simp only [oo, reduceCtorEq] at *) <;> omega)
              ((conv=>whnf);repeat(refine And.intro rfl ?_;(conv=>whnf)))
              (refine ifK_split (fun r2 => ?_) (fun r2 => ?_) <;> (rw [r2]; ((conv=>whnf);repeat(refine And.intro rfl ?_;(conv=>whnf)))))
              · exfalso; ((try simp only [oo, reduceCtorEq] at *) <;> omega)
              · (refine .inl ⟨by (unfold InR; rw [IntKind.wrap_i64]; omega), ?_⟩; ((conv=>whnf);repeat(refine And.intro rfl ?_;(conv=>whnf))))
                refine ⟨(d + 1, _, _, _, _), ⟨by omega, e1.symm, by rw [e2, if_pos r1, e1]; simp, by rw [e3]; simp, by rw [e4]; simp⟩, by dsimp only; omega, leB_envH ⟨rfl, rfl, rfl, rfl, by show D.sc _ = D.sc _; congr 3, by (repeat' (first | exact trivial | refine And.intro rfl ?_))⟩ rfl⟩
            · have r1 : ¬ x.kind = 5 := by ((try simp only [oo, reduceCtorEq] at *) <;> omega)
              (refine ifK_split (fun r2 => ?_) (fun r2 => ?_) <;> (rw [r2]; ((conv=>whnf);repeat(refine And.intro rfl ?_;(conv=>whnf)))))
              · have r2 : x.kind = 6 := by ((try simp only [oo, reduceCtorEq] at *) <;> omega)
                (refine .inl ⟨_, hFd, ?_⟩; ((conv=>whnf);repeat(refine And.intro rfl ?_;(conv=>whnf))))
                (refine ifK_split (fun r3 => ?_) (fun r3 => ?_) <;> (rw [r3]; ((conv=>whnf);repeat(refine And.intro rfl ?_;(conv=>whnf)))))
                · have r3 : ¬ fst S E (a + d) < e := by ((try simp only [oo, reduceCtorEq] at *) <;> omega)
                  (refine .inl ⟨by (unfold InR; rw [IntKind.wrap_i64]; omega), ?_⟩; ((conv=>whnf);repeat(refine And.intro rfl ?_;(conv=>whnf))))
                  refine ⟨(d + 1, _, _, _, _), ⟨by omega, e1.symm, by rw [e2, if_neg r1, if_pos r2, decide_eq_false r3]; simp, by rw [e3]; simp, by rw [e4]; simp⟩, by dsimp only; omega, leB_envH ⟨rfl, rfl, rfl, rfl, by show D.sc _ = D.sc _; congr 3, by (repeat' (first | exact trivial | refine And.intro rfl ?_))⟩ rfl⟩
                · have r3 : fst S E (a + d) < e := by ((try simp only [oo, reduceCtorEq] at *) <;> omega)
                  (refine .inl ⟨by (unfold InR; rw [IntKind.wrap_i64]; omega), ?_⟩; ((conv=>whnf);repeat(refine And.intro rfl ?_;(conv=>whnf))))
                  refine ⟨(d + 1, _, _, _, _), ⟨by omega, e1.symm, by rw [e2, if_neg r1, if_pos r2, decide_eq_true r3]; simp, by rw [e3]; simp, by rw [e4]; simp⟩, by dsimp only; omega, leB_envH ⟨rfl, rfl, rfl, rfl, by show D.sc _ = D.sc _; congr 3, by (repeat' (first | exact trivial | refine And.intro rfl ?_))⟩ rfl⟩
              · have r2 : ¬ x.kind = 6 := by ((try simp only [oo, reduceCtorEq] at *) <;> omega)
                (refine .inl ⟨by (unfold InR; rw [IntKind.wrap_i64]; omega), ?_⟩; ((conv=>whnf);repeat(refine And.intro rfl ?_;(conv=>whnf))))
                refine ⟨(d + 1, _, _, _, _), ⟨by omega, e1.symm, by rw [e2, if_neg r1, if_neg r2]; simp, by rw [e3]; simp, by rw [e4]; simp⟩, by dsimp only; omega, leB_envH ⟨rfl, rfl, rfl, rfl, by show D.sc _ = D.sc _; congr 3, by (repeat' (first | exact trivial | refine And.intro rfl ?_))⟩ rfl⟩
        · rw [q2, Bool.and_true, Bool.false_or] at e1
          ((conv=>whnf);repeat(refine And.intro rfl ?_;(conv=>whnf)))
          (refine .inl ⟨_, hPd, ?_⟩; ((conv=>whnf);repeat(refine And.intro rfl ?_;(conv=>whnf))))
          cases p : P (a + d)
          · rw [p] at e2 e3 e4
            ((conv=>whnf);repeat(refine And.intro rfl ?_;(conv=>whnf)))
            (refine .inl ⟨by (unfold InR; rw [IntKind.wrap_i64]; omega), ?_⟩; ((conv=>whnf);repeat(refine And.intro rfl ?_;(conv=>whnf))))
            refine ⟨(d + 1, _, _, _, _), ⟨by omega, e1.symm, by rw [e2]; simp, by rw [e3]; simp, by rw [e4]; simp⟩, by dsimp only; omega, leB_envH ⟨rfl, rfl, rfl, rfl, by show D.sc _ = D.sc _; congr 3, by (repeat' (first | exact trivial | refine And.intro rfl ?_))⟩ rfl⟩
          · rw [p] at e2 e3 e4
            ((conv=>whnf);repeat(refine And.intro rfl ?_;(conv=>whnf)))
            (refine .inl ⟨by (unfold InR; rw [IntKind.wrap_i64]; omega), ?_⟩; ((conv=>whnf);repeat(refine And.intro rfl ?_;(conv=>whnf))))
            (refine ifK_split (fun r1 => ?_) (fun r1 => ?_) <;> (rw [r1]; ((conv=>whnf);repeat(refine And.intro rfl ?_;(conv=>whnf)))))
            · have r1 : x.kind = 5 := by ((try simp only [oo, reduceCtorEq] at *) <;> omega)
              ((conv=>whnf);repeat(refine And.intro rfl ?_;(conv=>whnf)))
              (refine ifK_split (fun r2 => ?_) (fun r2 => ?_) <;> (rw [r2]; ((conv=>whnf);repeat(refine And.intro rfl ?_;(conv=>whnf)))))
              · exfalso; ((try simp only [oo, reduceCtorEq] at *) <;> omega)
              · (refine .inl ⟨by (unfold InR; rw [IntKind.wrap_i64]; omega), ?_⟩; ((conv=>whnf);repeat(refine And.intro rfl ?_;(conv=>whnf))))
                refine ⟨(d + 1, _, _, _, _), ⟨by omega, e1.symm, by rw [e2, if_pos r1, e1]; simp, by rw [e3]; simp, by rw [e4]; simp⟩, by dsimp only; omega, leB_envH ⟨rfl, rfl, rfl, rfl, by show D.sc _ = D.sc _; congr 3, by (repeat' (first | exact trivial | refine And.intro rfl ?_))⟩ rfl⟩
            · have r1 : ¬ x.kind = 5 := by ((try simp only [oo, reduceCtorEq] at *) <;> omega)
              (refine ifK_split (fun r2 => ?_) (fun r2 => ?_) <;> (rw [r2]; ((conv=>whnf);repeat(refine And.intro rfl ?_;(conv=>whnf)))))
              · have r2 : x.kind = 6 := by ((try simp only [oo, reduceCtorEq] at *) <;> omega)
                (refine .inl ⟨_, hFd, ?_⟩; ((conv=>whnf);repeat(refine And.intro rfl ?_;(conv=>whnf))))
                (refine ifK_split (fun r3 => ?_) (fun r3 => ?_) <;> (rw [r3]; ((conv=>whnf);repeat(refine And.intro rfl ?_;(conv=>whnf)))))
                · have r3 : ¬ fst S E (a + d) < e := by ((try simp only [oo, reduceCtorEq] at *) <;> omega)
                  (refine .inl ⟨by (unfold InR; rw [IntKind.wrap_i64]; omega), ?_⟩; ((conv=>whnf);repeat(refine And.intro rfl ?_;(conv=>whnf))))
                  refine ⟨(d + 1, _, _, _, _), ⟨by omega, e1.symm, by rw [e2, if_neg r1, if_pos r2, decide_eq_false r3]; simp, by rw [e3]; simp, by rw [e4]; simp⟩, by dsimp only; omega, leB_envH ⟨rfl, rfl, rfl, rfl, by show D.sc _ = D.sc _; congr 3, by (repeat' (first | exact trivial | refine And.intro rfl ?_))⟩ rfl⟩
                · have r3 : fst S E (a + d) < e := by ((try simp only [oo, reduceCtorEq] at *) <;> omega)
                  (refine .inl ⟨by (unfold InR; rw [IntKind.wrap_i64]; omega), ?_⟩; ((conv=>whnf);repeat(refine And.intro rfl ?_;(conv=>whnf))))
                  refine ⟨(d + 1, _, _, _, _), ⟨by omega, e1.symm, by rw [e2, if_neg r1, if_pos r2, decide_eq_true r3]; simp, by rw [e3]; simp, by rw [e4]; simp⟩, by dsimp only; omega, leB_envH ⟨rfl, rfl, rfl, rfl, by show D.sc _ = D.sc _; congr 3, by (repeat' (first | exact trivial | refine And.intro rfl ?_))⟩ rfl⟩
              · have r2 : ¬ x.kind = 6 := by ((try simp only [oo, reduceCtorEq] at *) <;> omega)
                (refine .inl ⟨by (unfold InR; rw [IntKind.wrap_i64]; omega), ?_⟩; ((conv=>whnf);repeat(refine And.intro rfl ?_;(conv=>whnf))))
                refine ⟨(d + 1, _, _, _, _), ⟨by omega, e1.symm, by rw [e2, if_neg r1, if_neg r2]; simp, by rw [e3]; simp, by rw [e4]; simp⟩, by dsimp only; omega, leB_envH ⟨rfl, rfl, rfl, rfl, by show D.sc _ = D.sc _; congr 3, by (repeat' (first | exact trivial | refine And.intro rfl ?_))⟩ rfl⟩
      · have q1 : ¬ x.kind = 5 := by ((try simp only [oo, reduceCtorEq] at *) <;> omega)
        rw [decide_eq_false q1, Bool.false_and, Bool.or_false] at e1
        (refine .inl ⟨_, hPd, ?_⟩; ((conv=>whnf);repeat(refine And.intro rfl ?_;(conv=>whnf))))
        cases p : P (a + d)
        · rw [p] at e2 e3 e4
          ((conv=>whnf);repeat(refine And.intro rfl ?_;(conv=>whnf)))
          (refine .inl ⟨by (unfold InR; rw [IntKind.wrap_i64]; omega), ?_⟩; ((conv=>whnf);repeat(refine And.intro rfl ?_;(conv=>whnf))))
          refine ⟨(d + 1, _, _, _, _), ⟨by omega, e1.symm, by rw [e2]; simp, by rw [e3]; simp, by rw [e4]; simp⟩, by dsimp only; omega, leB_envH ⟨rfl, rfl, rfl, rfl, by show D.sc _ = D.sc _; congr 3, by (repeat' (first | exact trivial | refine And.intro rfl ?_))⟩ rfl⟩
        · rw [p] at e2 e3 e4
          ((conv=>whnf);repeat(refine And.intro rfl ?_;(conv=>whnf)))
          (refine .inl ⟨by (unfold InR; rw [IntKind.wrap_i64]; omega), ?_⟩; ((conv=>whnf);repeat(refine And.intro rfl ?_;(conv=>whnf))))
          (refine ifK_split (fun r1 => ?_) (fun r1 => ?_) <;> (rw [r1]; ((conv=>whnf);repeat(refine And.intro rfl ?_;(conv=>whnf)))))
          · have r1 : x.kind = 5 := by ((try simp only [oo, reduceCtorEq] at *) <;> omega)
            ((conv=>whnf);repeat(refine And.intro rfl ?_;(conv=>whnf)))
            (refine ifK_split (fun r2 => ?_) (fun r2 => ?_) <;> (rw [r2]; ((conv=>whnf);repeat(refine And.intro rfl ?_;(conv=>whnf)))))
            · exfalso; ((try simp only [oo, reduceCtorEq] at *) <;> omega)
            · (refine .inl ⟨by (unfold InR; rw [IntKind.wrap_i64]; omega), ?_⟩; ((conv=>whnf);repeat(refine And.intro rfl ?_;(conv=>whnf))))
              refine ⟨(d + 1, _, _, _, _), ⟨by omega, e1.symm, by rw [e2, if_pos r1, e1]; simp, by rw [e3]; simp, by rw [e4]; simp⟩, by dsimp only; omega, leB_envH ⟨rfl, rfl, rfl, rfl, by show D.sc _ = D.sc _; congr 3, by (repeat' (first | exact trivial | refine And.intro rfl ?_))⟩ rfl⟩
          · have r1 : ¬ x.kind = 5 := by ((try simp only [oo, reduceCtorEq] at *) <;> omega)
            (refine ifK_split (fun r2 => ?_) (fun r2 => ?_) <;> (rw [r2]; ((conv=>whnf);repeat(refine And.intro rfl ?_;(conv=>whnf)))))
            · have r2 : x.kind = 6 := by ((try simp only [oo, reduceCtorEq] at *) <;> omega)
              (refine .inl ⟨_, hFd, ?_⟩; ((conv=>whnf);repeat(refine And.intro rfl ?_;(conv=>whnf))))
              (refine ifK_split (fun r3 => ?_) (fun r3 => ?_) <;> (rw [r3]; ((conv=>whnf);repeat(refine And.intro rfl ?_;(conv=>whnf)))))
              · have r3 : ¬ fst S E (a + d) < e := by ((try simp only [oo, reduceCtorEq] at *) <;> omega)
                (refine .inl ⟨by (unfold InR; rw [IntKind.wrap_i64]; omega), ?_⟩; ((conv=>whnf);repeat(refine And.intro rfl ?_;(conv=>whnf))))
                refine ⟨(d + 1, _, _, _, _), ⟨by omega, e1.symm, by rw [e2, if_neg r1, if_pos r2, decide_eq_false r3]; simp, by rw [e3]; simp, by rw [e4]; simp⟩, by dsimp only; omega, leB_envH ⟨rfl, rfl, rfl, rfl, by show D.sc _ = D.sc _; congr 3, by (repeat' (first | exact trivial | refine And.intro rfl ?_))⟩ rfl⟩
              · have r3 : fst S E (a + d) < e := by ((try simp only [oo, reduceCtorEq] at *) <;> omega)
                (refine .inl ⟨by (unfold InR; rw [IntKind.wrap_i64]; omega), ?_⟩; ((conv=>whnf);repeat(refine And.intro rfl ?_;(conv=>whnf))))
                refine ⟨(d + 1, _, _, _, _), ⟨by omega, e1.symm, by rw [e2, if_neg r1, if_pos r2, decide_eq_true r3]; simp, by rw [e3]; simp, by rw [e4]; simp⟩, by dsimp only; omega, leB_envH ⟨rfl, rfl, rfl, rfl, by show D.sc _ = D.sc _; congr 3, by (repeat' (first | exact trivial | refine And.intro rfl ?_))⟩ rfl⟩
            · have r2 : ¬ x.kind = 6 := by ((try simp only [oo, reduceCtorEq] at *) <;> omega)
              (refine .inl ⟨by (unfold InR; rw [IntKind.wrap_i64]; omega), ?_⟩; ((conv=>whnf);repeat(refine And.intro rfl ?_;(conv=>whnf))))
              refine ⟨(d + 1, _, _, _, _), ⟨by omega, e1.symm, by rw [e2, if_neg r1, if_neg r2]; simp, by rw [e3]; simp, by rw [e4]; simp⟩, by dsimp only; omega, leB_envH ⟨rfl, rfl, rfl, rfl, by show D.sc _ = D.sc _; congr 3, by (repeat' (first | exact trivial | refine And.intro rfl ?_))⟩ rfl⟩
    · ((conv=>whnf);repeat(refine And.intro rfl ?_;(conv=>whnf)))
      rw [Bool.true_or] at e1
      (refine .inl ⟨_, hPd, ?_⟩; ((conv=>whnf);repeat(refine And.intro rfl ?_;(conv=>whnf))))
      cases p : P (a + d)
      · rw [p] at e2 e3 e4
        ((conv=>whnf);repeat(refine And.intro rfl ?_;(conv=>whnf)))
        (refine .inl ⟨by (unfold InR; rw [IntKind.wrap_i64]; omega), ?_⟩; ((conv=>whnf);repeat(refine And.intro rfl ?_;(conv=>whnf))))
        refine ⟨(d + 1, _, _, _, _), ⟨by omega, e1.symm, by rw [e2]; simp, by rw [e3]; simp, by rw [e4]; simp⟩, by dsimp only; omega, leB_envH ⟨rfl, rfl, rfl, rfl, by show D.sc _ = D.sc _; congr 3, by (repeat' (first | exact trivial | refine And.intro rfl ?_))⟩ rfl⟩
      · rw [p] at e2 e3 e4
        ((conv=>whnf);repeat(refine And.intro rfl ?_;(conv=>whnf)))
        (refine .inl ⟨by (unfold InR; rw [IntKind.wrap_i64]; omega), ?_⟩; ((conv=>whnf);repeat(refine And.intro rfl ?_;(conv=>whnf))))
        (refine ifK_split (fun r1 => ?_) (fun r1 => ?_) <;> (rw [r1]; ((conv=>whnf);repeat(refine And.intro rfl ?_;(conv=>whnf)))))
        · have r1 : x.kind = 5 := by ((try simp only [oo, reduceCtorEq] at *) <;> omega)
          ((conv=>whnf);repeat(refine And.intro rfl ?_;(conv=>whnf)))
          (refine ifK_split (fun r2 => ?_) (fun r2 => ?_) <;> (rw [r2]; ((conv=>whnf);repeat(refine And.intro rfl ?_;(conv=>whnf)))))
          · exfalso; ((try simp only [oo, reduceCtorEq] at *) <;> omega)
          · (refine .inl ⟨by (unfold InR; rw [IntKind.wrap_i64]; omega), ?_⟩; ((conv=>whnf);repeat(refine And.intro rfl ?_;(conv=>whnf))))
            refine ⟨(d + 1, _, _, _, _), ⟨by omega, e1.symm, by rw [e2, if_pos r1, e1]; simp, by rw [e3]; simp, by rw [e4]; simp⟩, by dsimp only; omega, leB_envH ⟨rfl, rfl, rfl, rfl, by show D.sc _ = D.sc _; congr 3, by (repeat' (first | exact trivial | refine And.intro rfl ?_))⟩ rfl⟩
        · have r1 : ¬ x.kind = 5 := by ((try simp only [oo, reduceCtorEq] at *) <;> omega)
          (refine ifK_split (fun r2 => ?_) (fun r2 => ?_) <;> (rw [r2]; ((conv=>whnf);repeat(refine And.intro rfl ?_;(conv=>whnf)))))
          · have r2 : x.kind = 6 := by ((try simp only [oo, reduceCtorEq] at *) <;> omega)
            (refine .inl ⟨_, hFd, ?_⟩; ((conv=>whnf);repeat(refine And.intro rfl ?_;(conv=>whnf))))
            (refine ifK_split (fun r3 => ?_) (fun r3 => ?_) <;> (rw [r3]; ((conv=>whnf);repeat(refine And.intro rfl ?_;(conv=>whnf)))))
            · have r3 : ¬ fst S E (a + d) < e := by ((try simp only [oo, reduceCtorEq] at *) <;> omega)
              (refine .inl ⟨by (unfold InR; rw [IntKind.wrap_i64]; omega), ?_⟩; ((conv=>whnf);repeat(refine And.intro rfl ?_;(conv=>whnf))))
              refine ⟨(d + 1, _, _, _, _), ⟨by omega, e1.symm, by rw [e2, if_neg r1, if_pos r2, decide_eq_false r3]; simp, by rw [e3]; simp, by rw [e4]; simp⟩, by dsimp only; omega, leB_envH ⟨rfl, rfl, rfl, rfl, by show D.sc _ = D.sc _; congr 3, by (repeat' (first | exact trivial | refine And.intro rfl ?_))⟩ rfl⟩
            · have r3 : fst S E (a + d) < e := by ((try simp only [oo, reduceCtorEq] at *) <;> omega)
              (refine .inl ⟨by (unfold InR; rw [IntKind.wrap_i64]; omega), ?_⟩; ((conv=>whnf);repeat(refine And.intro rfl ?_;(conv=>whnf))))
              refine ⟨(d + 1, _, _, _, _), ⟨by omega, e1.symm, by rw [e2, if_neg r1, if_pos r2, decide_eq_true r3]; simp, by rw [e3]; simp, by rw [e4]; simp⟩, by dsimp only; omega, leB_envH ⟨rfl, rfl, rfl, rfl, by show D.sc _ = D.sc _; congr 3, by (repeat' (first | exact trivial | refine And.intro rfl ?_))⟩ rfl⟩
          · have r2 : ¬ x.kind = 6 := by ((try simp only [oo, reduceCtorEq] at *) <;> omega)
            (refine .inl ⟨by (unfold InR; rw [IntKind.wrap_i64]; omega), ?_⟩; ((conv=>whnf);repeat(refine And.intro rfl ?_;(conv=>whnf))))
            refine ⟨(d + 1, _, _, _, _), ⟨by omega, e1.symm, by rw [e2, if_neg r1, if_neg r2]; simp, by rw [e3]; simp, by rw [e4]; simp⟩, by dsimp only; omega, leB_envH ⟨rfl, rfl, rfl, rfl, by show D.sc _ = D.sc _; congr 3, by (repeat' (first | exact trivial | refine And.intro rfl ?_))⟩ rfl⟩
  · have q0 : d = e - a := by have : ¬ a + d < e := by ((try simp only [oo, reduceCtorEq] at *) <;> omega)
                              omega
    subst q0
    rw [show a + (e - a) = e by omega] at h4
    unfold uniD at h3
    rw [show a + (e - a) = e by omega] at h3
    (refine ifK_split (fun r1 => ?_) (fun r1 => ?_) <;> (rw [r1]; ((conv=>whnf);repeat(refine And.intro rfl ?_;(conv=>whnf)))))
    · have r1 : x.kind = 1 := by ((try simp only [oo, reduceCtorEq] at *) <;> omega)
      rw [if_pos r1]
      refine deep_eq ?_
      rw [h4]
      congr 2
      rw [Bool.eq_iff_iff]
      simp
    have r1 : ¬ x.kind = 1 := by ((try simp only [oo, reduceCtorEq] at *) <;> omega)
    rw [if_neg r1]
    (refine ifK_split (fun r2 => ?_) (fun r2 => ?_) <;> (rw [r2]; ((conv=>whnf);repeat(refine And.intro rfl ?_;(conv=>whnf)))))
    · have r2 : x.kind = 2 := by ((try simp only [oo, reduceCtorEq] at *) <;> omega)
      rw [if_pos r2, ← h3]
      exact .refl _
    have r2 : ¬ x.kind = 2 := by ((try simp only [oo, reduceCtorEq] at *) <;> omega)
    rw [if_neg r2]
    (refine ifK_split (fun r3 => ?_) (fun r3 => ?_) <;> (rw [r3]; ((conv=>whnf);repeat(refine And.intro rfl ?_;(conv=>whnf)))))
    · have r3 : x.kind = 3 := by ((try simp only [oo, reduceCtorEq] at *) <;> omega)
      rw [if_pos r3]
      refine deep_eq ?_
      rw [h4]
      congr 2
      rw [Bool.eq_iff_iff, decide_eq_true_eq, decide_eq_true_eq]
      omega
    have r3 : ¬ x.kind = 3 := by ((try simp only [oo, reduceCtorEq] at *) <;> omega)
    rw [if_neg r3]
    (refine ifK_split (fun r4 => ?_) (fun r4 => ?_) <;> (rw [r4]; ((conv=>whnf);repeat(refine And.intro rfl ?_;(conv=>whnf)))))
    · have r4 : x.kind = 4 := by ((try simp only [oo, reduceCtorEq] at *) <;> omega)
      rw [if_pos r4]
      refine deep_eq ?_
      rw [h4]
    have r4 : ¬ x.kind = 4 := by ((try simp only [oo, reduceCtorEq] at *) <;> omega)
    rw [if_neg r4, ← h2]
    exact .refl _
def ansD (P S : Nat → Bool) (E a d : Nat) : Bool := (List.range d).all fun d => !(P (a + d) && decide (fst S E (a + d) = E))
theorem ansD_succ (P S : Nat → Bool) (E a d : Nat) : ansD P S E a (d + 1) = (ansD P S E a d && !(P (a + d) && decide (fst S E (a + d) = E))) := by
  unfold ansD
  rw [List.range_succ, List.all_append]
  simp
theorem ansD_false {P S : Nat → Bool} {E a : Nat} : ∀ {d n : Nat}, d ≤ n → ansD P S E a d = false → ansD P S E a n = false := by
  intro d n hdn h
  obtain ⟨k, rfl⟩ := Nat.exists_eq_add_of_le hdn
  clear hdn
  induction k with
  | zero => exact h
  | succ k ih => rw [← Nat.add_assoc, ansD_succ, ih]; rfl
def c53_1 : PC := .seq (.seq (.ops [⟨(some 8), .move (.tmp 5), none, 0⟩,
    ⟨(some 9), .faddr 1 (.tmp 3), none, 0⟩,
    ⟨(some 10), .load1 (.tmp 9), none, 0⟩,
    ⟨(some 11), .bin .lss (.tmp 8) (.tmp 10), none, 0⟩] false) (.cond (.tmp 11) (.skip) (.exit 0))) (.seq (.block 1 (.seq (.ops [⟨(some 14), .move (.tmp 0), none, 0⟩,
    ⟨(some 15), .move (.tmp 5), none, 0⟩,
    ⟨(some 16), .move (.tmp 0), none, 0⟩,
    ⟨(some 17), .nilchk (.tmp 16), none, 4⟩,
    ⟨(some 18), .faddr 0 (.tmp 17), none, 12⟩,
    ⟨(some 19), .faddr 2 (.tmp 18), none, 28⟩,
    ⟨(some 20), .load1 (.tmp 19), none, 60⟩,
    ⟨(some 21), .call 87 [(.tmp 14), (.tmp 15), (.tmp 20)], none, 127⟩,
    ⟨(some 22), .move (.tmp 21), none, 255⟩,
    ⟨(some 23), .move (.tmp 0), (some (22, true)), 511⟩,
    ⟨(some 24), .move (.tmp 5), (some (22, true)), 511⟩,
    ⟨(some 25), .move (.tmp 0), (some (22, true)), 511⟩,
    ⟨(some 26), .nilchk (.tmp 25), (some (22, true)), 2559⟩,
    ⟨(some 27), .faddr 0 (.tmp 26), (some (22, true)), 6655⟩,
    ⟨(some 28), .faddr 3 (.tmp 27), (some (22, true)), 14847⟩,
    ⟨(some 29), .load1 (.tmp 28), (some (22, true)), 31231⟩,
    ⟨(some 30), .call 86 [(.tmp 23), (.tmp 24), (.tmp 29)], (some (22, true)), 65535⟩,
    ⟨(some 31), .move (.tmp 0), (some (22, true)), 511⟩,
    ⟨(some 32), .nilchk (.tmp 31), (some (22, true)), 131583⟩,
    ⟨(some 33), .faddr 9 (.tmp 32), (some (22, true)), 393727⟩,
    ⟨(some 34), .load1 (.tmp 33), (some (22, true)), 918015⟩,
    ⟨(some 35), .bin .eql (.tmp 30) (.tmp 34), (some (22, true)), 2097151⟩,
    ⟨(some 36), .pick (.tmp 22) (.tmp 35) (.const (.bool false)), none, 4194303⟩] true) (.cond (.tmp 36) (.seq (.ops [⟨(some 4), .move (.const (.bool false)), none, 0⟩] false) (.ret)) (.skip)))) (.ops [⟨(some 12), .move (.tmp 5), none, 0⟩,
    ⟨(some 13), .bin .add (.tmp 12) (.const (.int .i64 1)), none, 0⟩,
    ⟨(some 5), .move (.tmp 13), none, 0⟩] false))
def c53 : PC := .seq (.ops [⟨(some 3), .box (.tmp 1), none, 0⟩,
    ⟨(some 4), .move (.const (.bool false)), none, 0⟩] false) (.seq (.seq (.ops [⟨(some 6), .faddr 0 (.tmp 3), none, 0⟩,
    ⟨(some 7), .load1 (.tmp 6), none, 0⟩,
    ⟨(some 5), .move (.tmp 7), none, 0⟩] false) (.block 0 (.loop c53_1))) (.seq (.ops [⟨(some 4), .move (.const (.bool true)), none, 0⟩] false) (.ret)))
set_option maxRecDepth 100000 in
theorem c53_ok : FunOK Try.prog 53 37 [.tmp 4] c53 := ⟨⟨Try.f53, Try.func53, rfl, by kernel_rfl, rfl, by kernel_rfl⟩⟩
set_option maxRecDepth 100000 in
theorem dw_answered (x : Pat) (s l : List Int) (E : Nat) (hE : E ≤ 100000) (h : PW x s l) (a e : Nat) (hae : a ≤ e) (heE : e ≤ E) : PCall Try.prog 53 [.ipt (lcells x s l E), .agg [.sc (.int .i64 a), .sc (.int .i64 e)]]
    (.sc (.bool (answB (hasP s l x.p) (hasP s l x.s) E a e))) := by
  obtain ⟨⟨k1, k2⟩, ⟨k3, k4⟩, ⟨k5, k6⟩, ⟨k7, k8⟩, ⟨k9, k10⟩, ⟨k11, k12⟩, k13, k14⟩ := h.nums
  have hP := fun j (hj : j ≤ 100000) => dw_has x s l E h j hj x.p k5
  have hFS := fun j (hj : j ≤ E) => dw_first x s l E hE h j hj x.s k7
  refine pcall_intro c53_ok (by simp) (by simp [PureL, Pure, pure_lcells]) ?_ (by simp [Pure])
  show PWp _ _ _ _ _ _
  rw [show answB (hasP s l x.p) (hasP s l x.s) E a e = ansD (hasP s l x.p) (hasP s l x.s) E a (e - a) from rfl]
  generalize hasP s l x.p = P at *
  generalize hasP s l x.s = S at *
  unfold lcells at *
  (apply rd_sound; focus (repeat' constructor))
  ((conv=>whnf);repeat(refine And.intro rfl ?_;(conv=>whnf)))
  refine pwp_for [0, 3] (fun d : Nat => [(5, .sc (.int .i64 ((a + d : Nat) : Int)))]) (fun _ => []) (fun d => d ≤ e - a ∧ ansD P S E a d = true) (fun d => e - a - d) 0 ?_
  ((conv=>whnf);repeat(refine And.intro rfl ?_;(conv=>whnf)))
  refine ⟨⟨by omega, by simp [ansD]⟩, by (repeat' (first | exact trivial | refine And.intro rfl ?_)), rfl, ?_⟩
  rintro d ⟨hd, h1⟩
  have e1 := ansD_succ P S E a d
  rw [h1, Bool.true_and] at e1
  ((conv=>whnf);repeat(refine And.intro rfl ?_;(conv=>whnf)))
  (apply rd_sound; focus (repeat' constructor))
  ((conv=>whnf);repeat(refine And.intro rfl ?_;(conv=>whnf)))
  (refine ifK_split (fun q0 => ?_) (fun q0 => ?_) <;> (rw [q0]; ((conv=>whnf);repeat(refine And.intro rfl ?_;(conv=>whnf)))))
  · have q0 : a + d < e := by ((try simp only [oo, reduceCtorEq] at *) <;> omega)
    have hFd := hFS (a + d) (by omega)
    (refine .inl ⟨_, (hP (a + d) (by omega)), ?_⟩; ((conv=>whnf);repeat(refine And.intro rfl ?_;(conv=>whnf))))
    cases p : P (a + d)
    · rw [p] at e1
      ((conv=>whnf);repeat(refine And.intro rfl ?_;(conv=>whnf)))
      (refine .inl ⟨by (unfold InR; rw [IntKind.wrap_i64]; omega), ?_⟩; ((conv=>whnf);repeat(refine And.intro rfl ?_;(conv=>whnf))))
      exact ⟨d + 1, ⟨by omega, e1⟩, by dsimp only; omega, leB_envH ⟨by show D.sc _ = D.sc _; congr 3, by (repeat' (first | exact trivial | refine And.intro rfl ?_))⟩ rfl⟩
    · rw [p, Bool.true_and] at e1
      ((conv=>whnf);repeat(refine And.intro rfl ?_;(conv=>whnf)))
      (refine .inl ⟨_, hFd, ?_⟩; ((conv=>whnf);repeat(refine And.intro rfl ?_;(conv=>whnf))))
      (refine ifK_split (fun q1 => ?_) (fun q1 => ?_) <;> (rw [q1]; ((conv=>whnf);repeat(refine And.intro rfl ?_;(conv=>whnf)))))
      · have q1 : fst S E (a + d) = E := by ((try simp only [oo, reduceCtorEq] at *) <;> omega)
        rw [decide_eq_true q1] at e1
        refine deep_eq ?_
        rw [ansD_false (show d + 1 ≤ e - a by omega) e1]
      · have q1 : ¬ fst S E (a + d) = E := by ((try simp only [oo, reduceCtorEq] at *) <;> omega)
        rw [decide_eq_false q1] at e1
        (refine .inl ⟨by (unfold InR; rw [IntKind.wrap_i64]; omega), ?_⟩; ((conv=>whnf);repeat(refine And.intro rfl ?_;(conv=>whnf))))
        exact ⟨d + 1, ⟨by omega, e1⟩, by dsimp only; omega, leB_envH ⟨by show D.sc _ = D.sc _; congr 3, by (repeat' (first | exact trivial | refine And.intro rfl ?_))⟩ rfl⟩
  · have q0 : d = e - a := by have : ¬ a + d < e := by ((try simp only [oo, reduceCtorEq] at *) <;> omega)
                              omega
    subst q0
    rw [h1]
    exact .refl _
/-! ### Means -/
@[simp] theorem under_dspn {m : Nat} (l : List (Nat × Nat)) : Under m (dspn l) ↔ True := ⟨fun _ => trivial, fun _ => under_pure _ (pure_dspn l)⟩
def spanB (x : Pat) (s l : List Int) (o : Nat × Nat) : Bool :=
  if o.2 = s.length + 6 * l.length ∧ x.kind = 6 then answB (hasP s l x.p) (hasP s l x.s) (s.length + 6 * l.length + l.length) o.1 o.2 else keptB x.kind x.count (hasP s l x.p) (hasP s l x.s) (s.length + 6 * l.length) o.1 o.2
def meansB (x : Pat) (s l : List Int) : Bool := (spansL x.scope (hasP s l x.q) (hasP s l x.r) (s.length + 6 * l.length) (s.length + l.length)).all (spanB x s l)
def c22_1 : PC := .seq (.ops [⟨(some 38), .bin .lss (.tmp 37) (.tmp 36), none, 0⟩] false) (.seq (.cond (.tmp 38) (.skip) (.exit 0)) (.seq (.block 1 (.seq (.ops [⟨(some 39), .iaddr 2 (.tmp 35) (.tmp 37), none, 0⟩,
    ⟨(some 40), .loadA 2 (.tmp 39), none, 0⟩,
    ⟨(some 10), .alloc [(.int .i64 0), (.int .i64 0)], none, 0⟩,
    ⟨none, .store 2 (.tmp 10) (.tmp 40), none, 0⟩] false) (.seq (.seq (.ops [⟨(some 41), .faddr 1 (.tmp 10), none, 0⟩,
    ⟨(some 42), .load1 (.tmp 41), none, 1⟩,
    ⟨(some 43), .move (.tmp 8), none, 0⟩,
    ⟨(some 44), .nilchk (.tmp 43), none, 4⟩,
    ⟨(some 45), .faddr 9 (.tmp 44), none, 12⟩,
    ⟨(some 46), .load1 (.tmp 45), none, 28⟩,
    ⟨(some 47), .bin .eql (.tmp 42) (.tmp 46), none, 63⟩,
    ⟨(some 48), .move (.tmp 47), none, 127⟩,
    ⟨(some 49), .faddr 0 (.tmp 2), (some (48, true)), 255⟩,
    ⟨(some 50), .load1 (.tmp 49), (some (48, true)), 511⟩,
    ⟨(some 51), .bin .eql (.tmp 50) (.const (.int .i64 6)), (some (48, true)), 1023⟩,
    ⟨(some 52), .pick (.tmp 48) (.tmp 51) (.const (.bool false)), none, 2047⟩] true) (.cond (.tmp 52) (.seq (.ops [⟨(some 53), .move (.tmp 8), none, 0⟩,
    ⟨(some 54), .nilchk (.tmp 53), none, 0⟩,
    ⟨(some 55), .loadA 10 (.tmp 54), none, 0⟩,
    ⟨(some 11), .alloc [(.int .i64 0), (.int .i64 0), (.int .i64 0), (.int .i64 0), (.int .i64 0), (.int .i64 0), (.int .i64 0), (.slice none 0 0), (.slice none 0 0), (.int .i64 0)], none, 0⟩,
    ⟨none, .store 10 (.tmp 11) (.tmp 55), none, 0⟩] false) (.seq (.ops [⟨(some 56), .faddr 9 (.tmp 11), none, 0⟩,
    ⟨(some 57), .load1 (.tmp 56), none, 0⟩,
    ⟨(some 58), .faddr 1 (.tmp 3), none, 0⟩,
    ⟨(some 59), .load1 (.tmp 58), none, 0⟩,
    ⟨(some 60), .len (.tmp 59), none, 0⟩,
    ⟨(some 61), .bin .add (.tmp 57) (.tmp 60), none, 0⟩,
    ⟨(some 62), .faddr 9 (.tmp 11), none, 0⟩,
    ⟨none, .store 1 (.tmp 62) (.tmp 61), none, 0⟩] false) (.seq (.seq (.ops [⟨(some 63), .loadA 2 (.tmp 10), none, 0⟩,
    ⟨(some 64), .call 53 [(.tmp 11), (.tmp 63)], none, 0⟩,
    ⟨(some 65), .un .not (.tmp 64), none, 0⟩] false) (.cond (.tmp 65) (.seq (.ops [⟨(some 4), .move (.const (.bool false)), none, 0⟩,
    ⟨(some 5), .move (.const (.int .i64 0)), none, 0⟩] false) (.ret)) (.skip))) (.exit 1)))) (.skip))) (.seq (.ops [⟨(some 66), .move (.tmp 8), none, 0⟩,
    ⟨(some 67), .loadA 2 (.tmp 10), none, 0⟩,
    ⟨(some 68), .call 54 [(.tmp 66), (.tmp 67)], none, 0⟩,
    ⟨(some 69), .un .not (.tmp 68), none, 0⟩] false) (.cond (.tmp 69) (.seq (.ops [⟨(some 4), .move (.const (.bool false)), none, 0⟩,
    ⟨(some 5), .move (.const (.int .i64 0)), none, 0⟩] false) (.ret)) (.skip)))))) (.ops [⟨(some 70), .bin .add (.tmp 37) (.const (.int .i64 1)), none, 0⟩,
    ⟨(some 37), .move (.tmp 70), none, 0⟩] false)))
def c22 : PC := .seq (.ops [⟨(some 2), .box (.tmp 0), none, 0⟩,
    ⟨(some 3), .box (.tmp 1), none, 0⟩,
    ⟨(some 4), .move (.const (.bool false)), none, 0⟩,
    ⟨(some 5), .move (.const (.int .i64 0)), none, 0⟩] false) (.seq (.seq (.ops [⟨(some 12), .loadA 7 (.tmp 2), none, 0⟩,
    ⟨(some 13), .call 50 [(.tmp 12)], none, 0⟩,
    ⟨(some 6), .move (.tmp 13), none, 0⟩] false) (.seq (.ops [⟨(some 14), .move (.tmp 6), none, 0⟩,
    ⟨(some 15), .bin .neq (.tmp 14) (.const (.int .i64 0)), none, 0⟩] false) (.cond (.tmp 15) (.seq (.ops [⟨(some 16), .move (.tmp 6), none, 0⟩,
    ⟨(some 4), .move (.const (.bool false)), none, 0⟩,
    ⟨(some 5), .move (.tmp 16), none, 0⟩] false) (.ret)) (.skip)))) (.seq (.seq (.ops [⟨(some 17), .loadA 2 (.tmp 3), none, 0⟩,
    ⟨(some 18), .call 51 [(.tmp 17)], none, 0⟩,
    ⟨(some 7), .move (.tmp 18), none, 0⟩] false) (.seq (.ops [⟨(some 19), .move (.tmp 7), none, 0⟩,
    ⟨(some 20), .bin .neq (.tmp 19) (.const (.int .i64 0)), none, 0⟩] false) (.cond (.tmp 20) (.seq (.ops [⟨(some 21), .move (.tmp 7), none, 0⟩,
    ⟨(some 4), .move (.const (.bool false)), none, 0⟩,
    ⟨(some 5), .move (.tmp 21), none, 0⟩] false) (.ret)) (.skip)))) (.seq (.ops [⟨(some 22), .loadA 7 (.tmp 2), none, 0⟩,
    ⟨(some 23), .loadA 2 (.tmp 3), none, 0⟩,
    ⟨(some 24), .faddr 0 (.tmp 3), none, 0⟩,
    ⟨(some 25), .load1 (.tmp 24), none, 0⟩,
    ⟨(some 26), .len (.tmp 25), none, 0⟩,
    ⟨(some 27), .faddr 1 (.tmp 3), none, 0⟩,
    ⟨(some 28), .load1 (.tmp 27), none, 0⟩,
    ⟨(some 29), .len (.tmp 28), none, 0⟩,
    ⟨(some 30), .bin .mul (.const (.int .i64 6)) (.tmp 29), none, 0⟩,
    ⟨(some 31), .bin .add (.tmp 26) (.tmp 30), none, 0⟩,
    ⟨(some 32), .build [(.int .i64 0), (.int .i64 0), (.int .i64 0), (.int .i64 0), (.int .i64 0), (.int .i64 0), (.int .i64 0), (.slice none 0 0), (.slice none 0 0), (.int .i64 0)] [(0, 7, (.tmp 22)), (7, 2, (.tmp 23)), (9, 1, (.tmp 31))], none, 0⟩,
    ⟨(some 33), .box (.tmp 32), none, 0⟩,
    ⟨(some 8), .move (.tmp 33), none, 0⟩] false) (.seq (.seq (.ops [⟨(some 34), .move (.tmp 8), none, 0⟩,
    ⟨(some 35), .call 52 [(.tmp 34)], none, 0⟩,
    ⟨(some 36), .len (.tmp 35), none, 0⟩,
    ⟨(some 37), .move (.const (.int .i64 0)), none, 0⟩] false) (.block 0 (.loop c22_1))) (.seq (.ops [⟨(some 4), .move (.const (.bool true)), none, 0⟩,
    ⟨(some 5), .move (.const (.int .i64 0)), none, 0⟩] false) (.ret))))))
set_option maxRecDepth 100000 in
theorem c22_ok : FunOK Try.prog 22 71 [.tmp 4, .tmp 5] c22 := ⟨⟨Try.f22, Try.func22, rfl, by kernel_rfl, rfl, by kernel_rfl⟩⟩
set_option maxRecDepth 100000 in
theorem dw_Means1 (x : Pat) (s l : List Int) (e : Int) (he : (if patChk x ≠ 0 then patChk x else wchk s l) = e) (h0 : e ≠ 0) : PCall Try.prog 22 [dpat x, dword s l] (.tup [.sc (.bool false), .sc (.int .i64 e)]) := by
  have hW := las_Check s l
  have hC := dwy_Check x
  refine pcall_intro c22_ok (by simp) (by simp [PureL, pure_dpat, pure_dword]) ?_ (by simp [Pure, PureL])
  generalize patChk x = c1 at *
  generalize wchk s l = c2 at *
  unfold dpat patCells at *
  (apply rd_sound; focus (repeat' constructor))
  ((conv=>whnf);repeat(refine And.intro rfl ?_;(conv=>whnf)))
  (refine .inl ⟨_, hC, ?_⟩; ((conv=>whnf);repeat(refine And.intro rfl ?_;(conv=>whnf))))
  (refine ifK_split (fun q1 => ?_) (fun q1 => ?_) <;> (rw [q1]; ((conv=>whnf);repeat(refine And.intro rfl ?_;(conv=>whnf)))))
  · have q1 : c1 ≠ 0 := by ((try simp only [oo, reduceCtorEq] at *) <;> omega)
    rw [if_pos q1] at he
    subst he
    exact .refl _
  · have q1 : c1 = 0 := by ((try simp only [oo, reduceCtorEq] at *) <;> omega)
    rw [if_neg (by omega)] at he
    subst he
    (refine .inl ⟨_, hW, ?_⟩; ((conv=>whnf);repeat(refine And.intro rfl ?_;(conv=>whnf))))
    (refine ifK_split (fun q2 => ?_) (fun q2 => ?_) <;> (rw [q2]; ((conv=>whnf);repeat(refine And.intro rfl ?_;(conv=>whnf)))))
    · exact .refl _
    · exfalso; ((try simp only [oo, reduceCtorEq] at *) <;> omega)
set_option maxRecDepth 100000 in
theorem dw_Means0 (x : Pat) (s l : List Int) (h : PW x s l) : PCall Try.prog 22 [dpat x, dword s l] (.tup [.sc (.bool (meansB x s l)), .sc (.int .i64 0)]) := by
  have hW := las_Check s l
  have hC := dwy_Check x
  have hl := h.lens
  rw [h.pat] at hC
  rw [h.word] at hW
  have hSp := dw_spans x s l (s.length + 6 * l.length) (by omega) h (by omega)
  have hK := fun a e (h1 : a ≤ e) (h2 : e ≤ s.length + 6 * l.length) => dw_keeps x s l (s.length + 6 * l.length) (by omega) h a e h1 h2
  have hA := fun a e (h1 : a ≤ e) (h2 : e ≤ s.length + 6 * l.length) => dw_answered x s l (s.length + 6 * l.length + l.length) (by omega) h a e h1 (by omega)
  have hin := spans_in (scope := x.scope) (Q := hasP s l x.q) (R := hasP s l x.r) (E := s.length + 6 * l.length) (n := s.length + l.length) (by omega)
  refine pcall_intro c22_ok (by simp) (by simp [PureL, pure_dpat, pure_dword]) ?_ (by simp [Pure, PureL])
  unfold meansB
  have hlen : (spansL x.scope (hasP s l x.q) (hasP s l x.r) (s.length + 6 * l.length) (s.length + l.length)).length ≤ 1000 := by
    have := spTo_len x.scope (hasP s l x.q) (hasP s l x.r) (s.length + 6 * l.length) (s.length + l.length)
    unfold spansL
    (repeat' split) <;> simp <;> omega
  generalize spansL x.scope (hasP s l x.q) (hasP s l x.r) (s.length + 6 * l.length) (s.length + l.length) = L at *
  unfold lcells dpat patCells at *
  (apply rd_sound; focus (repeat' constructor))
  ((conv=>whnf);repeat(refine And.intro rfl ?_;(conv=>whnf)))
  (refine .inl ⟨_, hC, ?_⟩; ((conv=>whnf);repeat(refine And.intro rfl ?_;(conv=>whnf))))
  (refine .inl ⟨_, hW, ?_⟩; ((conv=>whnf);repeat(refine And.intro rfl ?_;(conv=>whnf))))
  rw [List.length_map, List.length_map]
  (refine .inl ⟨by (unfold InR; rw [IntKind.wrap_i64]; omega), ?_⟩; ((conv=>whnf);repeat(refine And.intro rfl ?_;(conv=>whnf))))
  (refine .inl ⟨by (unfold InR; rw [IntKind.wrap_i64]; omega), ?_⟩; ((conv=>whnf);repeat(refine And.intro rfl ?_;(conv=>whnf))))
  rw [show (s.length : Int) + 6 * (l.length : Int) = ((s.length + 6 * l.length : Nat) : Int) by omega]
  (refine .inr (.inr (.inr (.inr (.inr (.inl ⟨rfl, _, _, (by (repeat' (first | exact Deep.refl _ | exact Deep.none _ | exact deep_row _ | exact DeepL.nil | exact DeepLL.nil | refine Deep.agg _ _ ?_ | refine Deep.tup _ _ ?_ | refine Deep.own _ _ _ _ _ _ _ _ rfl ?_ | refine Deep.loc _ _ _ _ _ rfl ?_ | refine Deep.ifc _ _ _ ?_ | refine Deep.fn _ _ _ _ _ ?_ ?_ | refine DeepL.cons _ _ _ _ ?_ ?_ | refine DeepLL.cons _ _ _ _ ?_ ?_))), hSp, ?_⟩))))); ((conv=>whnf);repeat(refine And.intro rfl ?_;(conv=>whnf))))
  rw [srw_len]
  dsimp only [frozenL, AObj.frozen]
  refine pwp_for [2, 3, 8, 35, 36] (fun k : Nat => [(37, .sc (.int .i64 k))]) (fun _ => []) (fun k => k ≤ L.length ∧ (L.take k).all (spanB x s l) = true) (fun k => L.length - k) 0 ?_
  ((conv=>whnf);repeat(refine And.intro rfl ?_;(conv=>whnf)))
  refine ⟨⟨by omega, by simp⟩, by (repeat' (first | exact trivial | refine And.intro rfl ?_)), rfl, ?_⟩
  rintro k ⟨hk, hall⟩
  ((conv=>whnf);repeat(refine And.intro rfl ?_;(conv=>whnf)))
  (apply rd_sound; focus (repeat' constructor))
  ((conv=>whnf);repeat(refine And.intro rfl ?_;(conv=>whnf)))
  (refine ifK_split (fun q0 => ?_) (fun q0 => ?_) <;> (rw [q0]; ((conv=>whnf);repeat(refine And.intro rfl ?_;(conv=>whnf)))))
  · have q0 : k < L.length := by ((try simp only [oo, reduceCtorEq] at *) <;> omega)
    have hex : L.getD k (0, 0) ∈ L := by rw [List.getD_eq_getElem?_getD, List.getElem?_eq_getElem q0]; exact List.getElem_mem q0
    have hi := hin _ hex
    have enx : (L.take (k + 1)).all (spanB x s l) = spanB x s l (L.getD k (0, 0)) := by
      rw [List.take_add_one, List.getElem?_eq_getElem q0, List.all_append, hall, List.getD_eq_getElem?_getD, List.getElem?_eq_getElem q0]
      simp
    have efl : spanB x s l (L.getD k (0, 0)) = false → L.all (spanB x s l) = false := fun q => by rw [List.all_eq_false]; exact ⟨_, hex, by rw [q]; decide⟩
    refine ⟨by omega, _, srw_at (k := k) (by omega) q0, ?_⟩
    ((conv=>whnf);repeat(refine And.intro rfl ?_;(conv=>whnf)))
    generalize L.getD k (0, 0) = o at *
    (refine ifK_split (fun c1 => ?_) (fun c1 => ?_) <;> (rw [c1]; ((conv=>whnf);repeat(refine And.intro rfl ?_;(conv=>whnf)))))
    · have c1 : o.2 = s.length + 6 * l.length := by ((try simp only [oo, reduceCtorEq] at *) <;> omega)
      (refine ifK_split (fun c2 => ?_) (fun c2 => ?_) <;> (rw [c2]; ((conv=>whnf);repeat(refine And.intro rfl ?_;(conv=>whnf)))))
      · have c2 : x.kind = 6 := by ((try simp only [oo, reduceCtorEq] at *) <;> omega)
        have ek : spanB x s l o = answB (hasP s l x.p) (hasP s l x.s) (s.length + 6 * l.length + l.length) o.1 o.2 := by unfold spanB; rw [if_pos ⟨c1, c2⟩]
        rw [List.length_map]
        (refine .inl ⟨by (unfold InR; rw [IntKind.wrap_i64]; omega), ?_⟩; ((conv=>whnf);repeat(refine And.intro rfl ?_;(conv=>whnf))))
        rw [show ((s.length + 6 * l.length : Nat) : Int) + (l.length : Int) = ((s.length + 6 * l.length + l.length : Nat) : Int) by omega]
        (refine .inr (.inl ⟨_, _, (by (repeat' (first | exact Deep.refl _ | exact Deep.none _ | exact deep_row _ | exact DeepL.nil | exact DeepLL.nil | refine Deep.agg _ _ ?_ | refine Deep.tup _ _ ?_ | refine Deep.own _ _ _ _ _ _ _ _ rfl ?_ | refine Deep.loc _ _ _ _ _ rfl ?_ | refine Deep.ifc _ _ _ ?_ | refine Deep.fn _ _ _ _ _ ?_ ?_ | refine DeepL.cons _ _ _ _ ?_ ?_ | refine DeepLL.cons _ _ _ _ ?_ ?_))), (hA o.1 o.2 hi.1 hi.2), rfl, ?_⟩); ((conv=>whnf);repeat(refine And.intro rfl ?_;(conv=>whnf))))
        cases r : answB (hasP s l x.p) (hasP s l x.s) (s.length + 6 * l.length + l.length) o.1 o.2
        · ((conv=>whnf);repeat(refine And.intro rfl ?_;(conv=>whnf)))
          refine deep_eq ?_
          rw [efl (by rw [ek]; exact r)]
        · ((conv=>whnf);repeat(refine And.intro rfl ?_;(conv=>whnf)))
          (refine .inl ⟨by (unfold InR; rw [IntKind.wrap_i64]; omega), ?_⟩; ((conv=>whnf);repeat(refine And.intro rfl ?_;(conv=>whnf))))
          refine ⟨k + 1, ⟨by omega, by rw [enx, ek]; exact r⟩, by dsimp only; omega, ?_⟩
          (refine leB_close 3 (by simp) rfl ?_ ?_ <;> (repeat' (first | exact trivial | exact rfl | exact DeepM.refl _ | exact DeepML.refl _ | exact DeepMLL.refl _ | refine And.intro ?_ ?_ | (simp [Under, UnderL, UnderLL, -List.map_take, -List.map_drop]; done))))
      · have c2 : ¬ x.kind = 6 := by ((try simp only [oo, reduceCtorEq] at *) <;> omega)
        have ek : spanB x s l o = keptB x.kind x.count (hasP s l x.p) (hasP s l x.s) (s.length + 6 * l.length) o.1 o.2 := by unfold spanB; rw [if_neg (fun q => c2 q.2)]
        (refine .inr (.inl ⟨_, _, (by (repeat' (first | exact Deep.refl _ | exact Deep.none _ | exact deep_row _ | exact DeepL.nil | exact DeepLL.nil | refine Deep.agg _ _ ?_ | refine Deep.tup _ _ ?_ | refine Deep.own _ _ _ _ _ _ _ _ rfl ?_ | refine Deep.loc _ _ _ _ _ rfl ?_ | refine Deep.ifc _ _ _ ?_ | refine Deep.fn _ _ _ _ _ ?_ ?_ | refine DeepL.cons _ _ _ _ ?_ ?_ | refine DeepLL.cons _ _ _ _ ?_ ?_))), (hK o.1 o.2 hi.1 hi.2), rfl, ?_⟩); ((conv=>whnf);repeat(refine And.intro rfl ?_;(conv=>whnf))))
        cases r : keptB x.kind x.count (hasP s l x.p) (hasP s l x.s) (s.length + 6 * l.length) o.1 o.2
        · ((conv=>whnf);repeat(refine And.intro rfl ?_;(conv=>whnf)))
          refine deep_eq ?_
          rw [efl (by rw [ek]; exact r)]
        · ((conv=>whnf);repeat(refine And.intro rfl ?_;(conv=>whnf)))
          (refine .inl ⟨by (unfold InR; rw [IntKind.wrap_i64]; omega), ?_⟩; ((conv=>whnf);repeat(refine And.intro rfl ?_;(conv=>whnf))))
          refine ⟨k + 1, ⟨by omega, by rw [enx, ek]; exact r⟩, by dsimp only; omega, ?_⟩
          (refine leB_close 3 (by simp) rfl ?_ ?_ <;> (repeat' (first | exact trivial | exact rfl | exact DeepM.refl _ | exact DeepML.refl _ | exact DeepMLL.refl _ | refine And.intro ?_ ?_ | (simp [Under, UnderL, UnderLL, -List.map_take, -List.map_drop]; done))))
    · have c1 : ¬ o.2 = s.length + 6 * l.length := by ((try simp only [oo, reduceCtorEq] at *) <;> omega)
      have ek : spanB x s l o = keptB x.kind x.count (hasP s l x.p) (hasP s l x.s) (s.length + 6 * l.length) o.1 o.2 := by unfold spanB; rw [if_neg (fun q => c1 q.1)]
      (refine .inr (.inl ⟨_, _, (by (repeat' (first | exact Deep.refl _ | exact Deep.none _ | exact deep_row _ | exact DeepL.nil | exact DeepLL.nil | refine Deep.agg _ _ ?_ | refine Deep.tup _ _ ?_ | refine Deep.own _ _ _ _ _ _ _ _ rfl ?_ | refine Deep.loc _ _ _ _ _ rfl ?_ | refine Deep.ifc _ _ _ ?_ | refine Deep.fn _ _ _ _ _ ?_ ?_ | refine DeepL.cons _ _ _ _ ?_ ?_ | refine DeepLL.cons _ _ _ _ ?_ ?_))), (hK o.1 o.2 hi.1 hi.2), rfl, ?_⟩); ((conv=>whnf);repeat(refine And.intro rfl ?_;(conv=>whnf))))
      cases r : keptB x.kind x.count (hasP s l x.p) (hasP s l x.s) (s.length + 6 * l.length) o.1 o.2
      · ((conv=>whnf);repeat(refine And.intro rfl ?_;(conv=>whnf)))
        refine deep_eq ?_
        rw [efl (by rw [ek]; exact r)]
      · ((conv=>whnf);repeat(refine And.intro rfl ?_;(conv=>whnf)))
        (refine .inl ⟨by (unfold InR; rw [IntKind.wrap_i64]; omega), ?_⟩; ((conv=>whnf);repeat(refine And.intro rfl ?_;(conv=>whnf))))
        refine ⟨k + 1, ⟨by omega, by rw [enx, ek]; exact r⟩, by dsimp only; omega, ?_⟩
        (refine leB_close 3 (by simp) rfl ?_ ?_ <;> (repeat' (first | exact trivial | exact rfl | exact DeepM.refl _ | exact DeepML.refl _ | exact DeepMLL.refl _ | refine And.intro ?_ ?_ | (simp [Under, UnderL, UnderLL, -List.map_take, -List.map_drop]; done))))
  · have q0 : k = L.length := by have : ¬ k < L.length := by ((try simp only [oo, reduceCtorEq] at *) <;> omega)
                                 omega
    subst q0
    rw [List.take_length] at hall
    rw [hall]
    exact .refl _
end Go.Proofs.Ytgohkomfkfilnaa
