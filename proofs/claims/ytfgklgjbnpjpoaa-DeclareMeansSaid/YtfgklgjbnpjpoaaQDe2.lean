/-
  What a template means: the program's keeps and Means, over deep values. No statement is proved here.
-/
import Derived.Test.YtfgklgjbnpjpoaaQDe1
namespace Go.Proofs.Ytfgklgjbnpjpoaa
open Go.RowKit
set_option linter.unusedSimpArgs false
set_option linter.unusedVariables false
def c161 : PC := .seq (.ops [⟨(some 3), .move (.const (.bool false)), none, 0⟩] false) (.seq (.ops [⟨(some 4), .load1 (.tmp 1), none, 0⟩,
    ⟨(some 5), .move (.tmp 0), none, 0⟩,
    ⟨(some 6), .call 157 [(.tmp 4), (.tmp 5), (.func 159)], none, 0⟩,
    ⟨(some 3), .move (.tmp 6), none, 0⟩] false) (.ret))
set_option maxRecDepth 100000 in
theorem c161_ok : FunOK Try.prog 161 7 [.tmp 3] c161 := ⟨⟨Try.f161, Try.func161, rfl, by kernel_rfl, rfl, by kernel_rfl⟩⟩
theorem dc_k1 (l : List (Bool × Bool)) (hl : l.length ≤ 100000) (i : Nat) (hi : i ≤ l.length) : PCall Try.prog 161 [.sc (.int .i64 i), .ipt [dbp l]] (.sc (.bool (laterB l i fun s => s.2))) := by
  have h := dc_later l hl i hi (fun s => s.2) 159 dc_isB
  refine pcall_intro c161_ok (by simp) (by simp [PureL, Pure, pure_dbp]) ?_ (by simp [Pure])
  (apply rd_sound; focus (repeat' constructor))
  ((conv=>whnf);repeat(refine And.intro rfl ?_;(conv=>whnf)))
  (refine .inl ⟨_, h, ?_⟩; ((conv=>whnf);repeat(refine And.intro rfl ?_;(conv=>whnf))))
  exact .refl _
def c163 : PC := .seq (.ops [⟨(some 3), .move (.const (.bool false)), none, 0⟩] false) (.seq (.ops [⟨(some 4), .load1 (.tmp 1), none, 0⟩,
    ⟨(some 5), .move (.tmp 0), none, 0⟩,
    ⟨(some 6), .call 164 [(.tmp 4), (.tmp 5)], none, 0⟩,
    ⟨(some 3), .move (.tmp 6), none, 0⟩] false) (.ret))
set_option maxRecDepth 100000 in
theorem c163_ok : FunOK Try.prog 163 7 [.tmp 3] c163 := ⟨⟨Try.f163, Try.func163, rfl, by kernel_rfl, rfl, by kernel_rfl⟩⟩
theorem dc_k2 (l : List (Bool × Bool)) (hl : l.length ≤ 100000) (i : Nat) (hi : i < l.length) : PCall Try.prog 163 [.sc (.int .i64 i), .ipt [dbp l]] (.sc (.bool (altB l i))) := by
  have h := dc_alternates l hl i hi
  refine pcall_intro c163_ok (by simp) (by simp [PureL, Pure, pure_dbp]) ?_ (by simp [Pure])
  (apply rd_sound; focus (repeat' constructor))
  ((conv=>whnf);repeat(refine And.intro rfl ?_;(conv=>whnf)))
  (refine .inl ⟨_, h, ?_⟩; ((conv=>whnf);repeat(refine And.intro rfl ?_;(conv=>whnf))))
  exact .refl _
def c165 : PC := .seq (.ops [⟨(some 3), .move (.const (.bool false)), none, 0⟩] false) (.seq (.ops [⟨(some 4), .move (.tmp 0), none, 0⟩,
    ⟨(some 5), .bin .add (.tmp 4) (.const (.int .i64 1)), none, 0⟩,
    ⟨(some 6), .load1 (.tmp 1), none, 0⟩,
    ⟨(some 7), .len (.tmp 6), none, 0⟩,
    ⟨(some 8), .bin .lss (.tmp 5) (.tmp 7), none, 0⟩,
    ⟨(some 9), .move (.tmp 8), none, 0⟩,
    ⟨(some 10), .load1 (.tmp 1), (some (9, true)), 0⟩,
    ⟨(some 11), .move (.tmp 0), (some (9, true)), 0⟩,
    ⟨(some 12), .bin .add (.tmp 11) (.const (.int .i64 1)), (some (9, true)), 0⟩,
    ⟨(some 13), .iaddr 2 (.tmp 10) (.tmp 12), (some (9, true)), 0⟩,
    ⟨(some 14), .faddr 1 (.tmp 13), (some (9, true)), 0⟩,
    ⟨(some 15), .load1 (.tmp 14), (some (9, true)), 0⟩,
    ⟨(some 16), .pick (.tmp 9) (.tmp 15) (.const (.bool false)), none, 0⟩,
    ⟨(some 3), .move (.tmp 16), none, 0⟩] false) (.ret))
set_option maxRecDepth 100000 in
theorem c165_ok : FunOK Try.prog 165 17 [.tmp 3] c165 := ⟨⟨Try.f165, Try.func165, rfl, by kernel_rfl, rfl, by kernel_rfl⟩⟩
theorem dc_k3 (l : List (Bool × Bool)) (hl : l.length ≤ 100000) (i : Nat) (hi : i < l.length) : PCall Try.prog 165 [.sc (.int .i64 i), .ipt [dbp l]] (.sc (.bool (decide (i + 1 < l.length) && (l.getD (i + 1) (false, false)).2))) := by
  refine pcall_intro c165_ok (by simp) (by simp [PureL, Pure, pure_dbp]) ?_ (by simp [Pure])
  (apply rd_sound; focus (repeat' constructor))
  ((conv=>whnf);repeat(refine And.intro rfl ?_;(conv=>whnf)))
  (refine .inl ⟨by (unfold InR; rw [IntKind.wrap_i64]; omega), ?_⟩; ((conv=>whnf);repeat(refine And.intro rfl ?_;(conv=>whnf))))
  rw [bprw_len]
  (refine ifK_split (fun q => ?_) (fun q => ?_) <;> (rw [q]; ((conv=>whnf);repeat(refine And.intro rfl ?_;(conv=>whnf)))))
  · have q : i + 1 < l.length := by ((try simp only [oo, reduceCtorEq] at *) <;> omega)
    (refine .inl ⟨by (unfold InR; rw [IntKind.wrap_i64]; omega), ?_⟩; ((conv=>whnf);repeat(refine And.intro rfl ?_;(conv=>whnf))))
    refine ⟨by omega, _, bprw_at (k := i + 1) (by omega) q, ?_⟩
    ((conv=>whnf);repeat(refine And.intro rfl ?_;(conv=>whnf)))
    rw [decide_eq_true q]
    exact .refl _
  · have q : ¬ i + 1 < l.length := by ((try simp only [oo, reduceCtorEq] at *) <;> omega)
    rw [decide_eq_false q]
    exact .refl _
def c166 : PC := .seq (.ops [⟨(some 3), .move (.const (.bool false)), none, 0⟩] false) (.seq (.ops [⟨(some 4), .load1 (.tmp 1), none, 0⟩,
    ⟨(some 5), .move (.tmp 0), none, 0⟩,
    ⟨(some 6), .bin .add (.tmp 5) (.const (.int .i64 1)), none, 0⟩,
    ⟨(some 7), .call 157 [(.tmp 4), (.tmp 6), (.func 159)], none, 0⟩,
    ⟨(some 8), .un .not (.tmp 7), none, 0⟩,
    ⟨(some 3), .move (.tmp 8), none, 0⟩] false) (.ret))
set_option maxRecDepth 100000 in
theorem c166_ok : FunOK Try.prog 166 9 [.tmp 3] c166 := ⟨⟨Try.f166, Try.func166, rfl, by kernel_rfl, rfl, by kernel_rfl⟩⟩
theorem dc_k4 (l : List (Bool × Bool)) (hl : l.length ≤ 100000) (i : Nat) (hi : i < l.length) : PCall Try.prog 166 [.sc (.int .i64 i), .ipt [dbp l]] (.sc (.bool (!laterB l (i + 1) fun s => s.2))) := by
  have h := dc_later l hl (i + 1) hi (fun s => s.2) 159 dc_isB
  refine pcall_intro c166_ok (by simp) (by simp [PureL, Pure, pure_dbp]) ?_ (by simp [Pure])
  (apply rd_sound; focus (repeat' constructor))
  ((conv=>whnf);repeat(refine And.intro rfl ?_;(conv=>whnf)))
  (refine .inl ⟨by (unfold InR; rw [IntKind.wrap_i64]; omega), ?_⟩; ((conv=>whnf);repeat(refine And.intro rfl ?_;(conv=>whnf))))
  (refine .inl ⟨_, h, ?_⟩; ((conv=>whnf);repeat(refine And.intro rfl ?_;(conv=>whnf))))
  exact .refl _
def c76 : PC := .seq (.ops [⟨(some 3), .box (.tmp 0), none, 0⟩,
    ⟨(some 4), .box (.tmp 1), none, 0⟩,
    ⟨(some 6), .move (.const (.bool false)), none, 0⟩] false) (.seq (.ops [⟨(some 10), .load1 (.tmp 4), none, 0⟩,
    ⟨(some 11), .call 157 [(.tmp 10), (.const (.int .i64 0)), (.func 158)], none, 1⟩,
    ⟨(some 12), .load1 (.tmp 4), none, 0⟩,
    ⟨(some 13), .call 157 [(.tmp 12), (.const (.int .i64 0)), (.func 159)], none, 7⟩,
    ⟨(some 7), .move (.tmp 11), none, 15⟩,
    ⟨(some 8), .move (.tmp 13), none, 31⟩] true) (.seq (.ops [⟨(some 14), .load1 (.tmp 4), none, 0⟩,
    ⟨(some 15), .move (.tmp 2), none, 0⟩,
    ⟨(some 16), .mkfn (.func 161) [] [(.tmp 4)], none, 0⟩,
    ⟨(some 17), .call 160 [(.tmp 14), (.tmp 15), (.tmp 16)], none, 0⟩,
    ⟨(some 9), .move (.tmp 17), none, 0⟩] false) (.seq (.seq (.ops [⟨(some 18), .faddr 0 (.tmp 3), none, 0⟩,
    ⟨(some 19), .load1 (.tmp 18), none, 0⟩] false) (.block 0 (.seq (.ops [⟨(some 21), .bin .eql (.tmp 19) (.const (.int .i64 4)), none, 0⟩,
    ⟨(some 20), .move (.tmp 21), none, 0⟩] false) (.cond (.tmp 20) (.seq (.ops [⟨(some 22), .load1 (.tmp 4), none, 0⟩,
    ⟨(some 23), .len (.tmp 22), none, 0⟩,
    ⟨(some 24), .bin .eql (.tmp 23) (.const (.int .i64 0)), none, 0⟩,
    ⟨(some 25), .move (.tmp 24), none, 0⟩,
    ⟨(some 26), .load1 (.tmp 4), (some (25, false)), 0⟩,
    ⟨(some 27), .iaddr 2 (.tmp 26) (.const (.int .i64 0)), (some (25, false)), 0⟩,
    ⟨(some 28), .faddr 0 (.tmp 27), (some (25, false)), 0⟩,
    ⟨(some 29), .load1 (.tmp 28), (some (25, false)), 0⟩,
    ⟨(some 30), .pick (.tmp 25) (.const (.bool true)) (.tmp 29), none, 0⟩,
    ⟨(some 6), .move (.tmp 30), none, 0⟩] false) (.ret)) (.seq (.ops [⟨(some 32), .bin .eql (.tmp 19) (.const (.int .i64 5)), none, 0⟩,
    ⟨(some 31), .move (.tmp 32), none, 0⟩] false) (.cond (.tmp 31) (.seq (.ops [⟨(some 33), .move (.tmp 7), none, 0⟩,
    ⟨(some 34), .move (.tmp 33), none, 0⟩,
    ⟨(some 35), .move (.tmp 8), (some (34, false)), 0⟩,
    ⟨(some 36), .pick (.tmp 34) (.const (.bool true)) (.tmp 35), none, 0⟩,
    ⟨(some 6), .move (.tmp 36), none, 0⟩] false) (.ret)) (.seq (.ops [⟨(some 38), .bin .eql (.tmp 19) (.const (.int .i64 6)), none, 0⟩,
    ⟨(some 37), .move (.tmp 38), none, 0⟩] false) (.cond (.tmp 37) (.seq (.ops [⟨(some 39), .move (.tmp 7), none, 0⟩,
    ⟨(some 40), .un .not (.tmp 39), none, 0⟩,
    ⟨(some 41), .move (.tmp 40), none, 0⟩,
    ⟨(some 42), .move (.tmp 8), (some (41, false)), 0⟩,
    ⟨(some 43), .pick (.tmp 41) (.const (.bool true)) (.tmp 42), none, 0⟩,
    ⟨(some 6), .move (.tmp 43), none, 0⟩] false) (.ret)) (.seq (.ops [⟨(some 45), .bin .eql (.tmp 19) (.const (.int .i64 7)), none, 0⟩,
    ⟨(some 44), .move (.tmp 45), none, 0⟩] false) (.cond (.tmp 44) (.seq (.ops [⟨(some 46), .move (.tmp 7), none, 0⟩,
    ⟨(some 47), .move (.tmp 8), none, 0⟩,
    ⟨(some 48), .eqb false (.tmp 46) (.tmp 47), none, 0⟩,
    ⟨(some 6), .move (.tmp 48), none, 0⟩] false) (.ret)) (.seq (.ops [⟨(some 50), .bin .eql (.tmp 19) (.const (.int .i64 13)), none, 0⟩,
    ⟨(some 49), .move (.tmp 50), none, 0⟩] false) (.cond (.tmp 49) (.seq (.ops [⟨(some 51), .move (.tmp 7), none, 0⟩,
    ⟨(some 52), .un .not (.tmp 51), none, 0⟩,
    ⟨(some 53), .move (.tmp 52), none, 0⟩,
    ⟨(some 54), .move (.tmp 8), (some (53, false)), 0⟩,
    ⟨(some 55), .un .not (.tmp 54), (some (53, false)), 0⟩,
    ⟨(some 56), .pick (.tmp 53) (.const (.bool true)) (.tmp 55), none, 0⟩,
    ⟨(some 6), .move (.tmp 56), none, 0⟩] false) (.ret)) (.seq (.ops [⟨(some 58), .bin .eql (.tmp 19) (.const (.int .i64 8)), none, 0⟩,
    ⟨(some 57), .move (.tmp 58), none, 0⟩] false) (.cond (.tmp 57) (.seq (.ops [⟨(some 59), .move (.tmp 9), none, 0⟩,
    ⟨(some 6), .move (.tmp 59), none, 0⟩] false) (.ret)) (.seq (.ops [⟨(some 61), .bin .eql (.tmp 19) (.const (.int .i64 9)), none, 0⟩,
    ⟨(some 60), .move (.tmp 61), none, 0⟩] false) (.cond (.tmp 60) (.seq (.ops [⟨(some 62), .load1 (.tmp 4), none, 0⟩,
    ⟨(some 63), .call 162 [(.tmp 62)], none, 0⟩,
    ⟨(some 6), .move (.tmp 63), none, 0⟩] false) (.ret)) (.seq (.ops [⟨(some 65), .bin .eql (.tmp 19) (.const (.int .i64 10)), none, 0⟩,
    ⟨(some 64), .move (.tmp 65), none, 0⟩] false) (.cond (.tmp 64) (.seq (.ops [⟨(some 66), .move (.tmp 9), none, 0⟩,
    ⟨(some 67), .move (.tmp 66), none, 0⟩,
    ⟨(some 68), .load1 (.tmp 4), (some (67, true)), 0⟩,
    ⟨(some 69), .call 162 [(.tmp 68)], (some (67, true)), 0⟩,
    ⟨(some 70), .pick (.tmp 67) (.tmp 69) (.const (.bool false)), none, 0⟩,
    ⟨(some 6), .move (.tmp 70), none, 0⟩] false) (.ret)) (.seq (.ops [⟨(some 72), .bin .eql (.tmp 19) (.const (.int .i64 11)), none, 0⟩,
    ⟨(some 71), .move (.tmp 72), none, 0⟩] false) (.cond (.tmp 71) (.seq (.ops [⟨(some 73), .load1 (.tmp 4), none, 0⟩,
    ⟨(some 74), .move (.tmp 2), none, 0⟩,
    ⟨(some 75), .mkfn (.func 163) [] [(.tmp 4)], none, 0⟩,
    ⟨(some 76), .call 160 [(.tmp 73), (.tmp 74), (.tmp 75)], none, 0⟩,
    ⟨(some 6), .move (.tmp 76), none, 0⟩] false) (.ret)) (.seq (.ops [⟨(some 78), .bin .eql (.tmp 19) (.const (.int .i64 12)), none, 0⟩,
    ⟨(some 77), .move (.tmp 78), none, 0⟩] false) (.cond (.tmp 77) (.seq (.ops [⟨(some 79), .load1 (.tmp 4), none, 0⟩,
    ⟨(some 80), .move (.tmp 2), none, 0⟩,
    ⟨(some 81), .mkfn (.func 165) [] [(.tmp 4)], none, 0⟩,
    ⟨(some 82), .call 160 [(.tmp 79), (.tmp 80), (.tmp 81)], none, 0⟩,
    ⟨(some 6), .move (.tmp 82), none, 0⟩] false) (.ret)) (.skip))))))))))))))))))))))) (.seq (.ops [⟨(some 83), .load1 (.tmp 4), none, 0⟩,
    ⟨(some 84), .move (.tmp 2), none, 0⟩,
    ⟨(some 85), .mkfn (.func 166) [] [(.tmp 4)], none, 0⟩,
    ⟨(some 86), .call 160 [(.tmp 83), (.tmp 84), (.tmp 85)], none, 0⟩,
    ⟨(some 6), .move (.tmp 86), none, 0⟩] false) (.ret)))))
set_option maxRecDepth 100000 in
theorem c76_ok : FunOK Try.prog 76 87 [.tmp 6] c76 := ⟨⟨Try.f76, Try.func76, rfl, by kernel_rfl, rfl, by kernel_rfl⟩⟩
set_option maxRecDepth 100000 in
theorem dc_keeps (kd a b ct : Int) (l : List (Bool × Bool)) (hl : l.length ≤ 100000) (fresh : Nat) (hf : fresh ≤ l.length) : PCall Try.prog 76 [dtempl kd a b ct, dbp l, .sc (.int .i64 fresh)] (.sc (.bool (keepsB kd l fresh))) := by
  have hA := dc_later l hl 0 (by omega) (fun s => s.1) 158 dc_isA
  have hB := dc_later l hl 0 (by omega) (fun s => s.2) 159 dc_isB
  have h1 := dc_each l fresh hf hl (fun i => laterB l i fun s => s.2) 161 [.ipt [dbp l]] (by simp [PureL, Pure, pure_dbp]) (fun i hi => dc_k1 l hl i (by omega))
  have h2 := dc_each l fresh hf hl (altB l) 163 [.ipt [dbp l]] (by simp [PureL, Pure, pure_dbp]) (fun i hi => dc_k2 l hl i (by omega))
  have h3 := dc_each l fresh hf hl (fun i => decide (i + 1 < l.length) && (l.getD (i + 1) (false, false)).2) 165 [.ipt [dbp l]] (by simp [PureL, Pure, pure_dbp]) (fun i hi => dc_k3 l hl i (by omega))
  have h4 := dc_each l fresh hf hl (fun i => !laterB l (i + 1) fun s => s.2) 166 [.ipt [dbp l]] (by simp [PureL, Pure, pure_dbp]) (fun i hi => dc_k4 l hl i (by omega))
  have hP := dc_precedes l hl
  refine pcall_intro c76_ok (by simp) (by simp [PureL, Pure, pure_dtempl, pure_dbp]) ?_ (by simp [Pure])
  unfold keepsB
  generalize laterB l 0 (fun s => s.1) = vA at *
  generalize laterB l 0 (fun s => s.2) = vB at *
  generalize eachB l fresh (fun i => laterB l i fun s => s.2) = v1 at *
  generalize eachB l fresh (altB l) = v2 at *
  generalize eachB l fresh (fun i => decide (i + 1 < l.length) && (l.getD (i + 1) (false, false)).2) = v3 at *
  generalize eachB l fresh (fun i => !laterB l (i + 1) fun s => s.2) = v4 at *
  generalize precB l = vP at *
  unfold dtempl
  (apply rd_sound; focus (repeat' constructor))
  ((conv=>whnf);repeat(refine And.intro rfl ?_;(conv=>whnf)))
  (refine .inl ⟨_, hA, ?_⟩; ((conv=>whnf);repeat(refine And.intro rfl ?_;(conv=>whnf))))
  (refine .inl ⟨_, hB, ?_⟩; ((conv=>whnf);repeat(refine And.intro rfl ?_;(conv=>whnf))))
  (refine .inr (.inl ⟨_, _, (by (repeat' (first | exact Deep.refl _ | exact Deep.none _ | exact deep_row _ | exact DeepL.nil | exact DeepLL.nil | refine Deep.agg _ _ ?_ | refine Deep.tup _ _ ?_ | refine Deep.own _ _ _ _ _ _ _ _ rfl ?_ | refine Deep.loc _ _ _ _ _ rfl ?_ | refine Deep.ifc _ _ _ ?_ | refine Deep.fn _ _ _ _ _ ?_ ?_ | refine DeepL.cons _ _ _ _ ?_ ?_ | refine DeepLL.cons _ _ _ _ ?_ ?_))), h1, rfl, ?_⟩); ((conv=>whnf);repeat(refine And.intro rfl ?_;(conv=>whnf))))
  (refine ifK_split (fun q4 => ?_) (fun q4 => ?_) <;> (rw [q4]; ((conv=>whnf);repeat(refine And.intro rfl ?_;(conv=>whnf)))))
  · have q4 : kd = 4 := by ((try simp only [oo, reduceCtorEq] at *) <;> omega)
    subst q4
    rw [if_pos rfl, bprw_len]
    (refine ifK_split (fun z => ?_) (fun z => ?_) <;> (rw [z]; ((conv=>whnf);repeat(refine And.intro rfl ?_;(conv=>whnf)))))
    · have z : l.length = 0 := by ((try simp only [oo, reduceCtorEq] at *) <;> omega)
      rw [decide_eq_true z]
      exact .refl _
    · have z : ¬ l.length = 0 := by ((try simp only [oo, reduceCtorEq] at *) <;> omega)
      refine ⟨by omega, _, bprw_at (k := 0) rfl (by omega), ?_⟩
      ((conv=>whnf);repeat(refine And.intro rfl ?_;(conv=>whnf)))
      rw [decide_eq_false z]
      exact .refl _
  have q4 : ¬ kd = 4 := by ((try simp only [oo, reduceCtorEq] at *) <;> omega)
  rw [if_neg q4]
  (refine ifK_split (fun q5 => ?_) (fun q5 => ?_) <;> (rw [q5]; ((conv=>whnf);repeat(refine And.intro rfl ?_;(conv=>whnf)))))
  · have q5 : kd = 5 := by ((try simp only [oo, reduceCtorEq] at *) <;> omega)
    subst q5
    rw [if_pos rfl]
    cases vA <;> cases vB <;> (((conv=>whnf);repeat(refine And.intro rfl ?_;(conv=>whnf))); exact .refl _)
  have q5 : ¬ kd = 5 := by ((try simp only [oo, reduceCtorEq] at *) <;> omega)
  rw [if_neg q5]
  (refine ifK_split (fun q6 => ?_) (fun q6 => ?_) <;> (rw [q6]; ((conv=>whnf);repeat(refine And.intro rfl ?_;(conv=>whnf)))))
  · have q6 : kd = 6 := by ((try simp only [oo, reduceCtorEq] at *) <;> omega)
    subst q6
    rw [if_pos rfl]
    cases vA <;> cases vB <;> (((conv=>whnf);repeat(refine And.intro rfl ?_;(conv=>whnf))); exact .refl _)
  have q6 : ¬ kd = 6 := by ((try simp only [oo, reduceCtorEq] at *) <;> omega)
  rw [if_neg q6]
  (refine ifK_split (fun q7 => ?_) (fun q7 => ?_) <;> (rw [q7]; ((conv=>whnf);repeat(refine And.intro rfl ?_;(conv=>whnf)))))
  · have q7 : kd = 7 := by ((try simp only [oo, reduceCtorEq] at *) <;> omega)
    subst q7
    rw [if_pos rfl]
    cases vA <;> cases vB <;> (((conv=>whnf);repeat(refine And.intro rfl ?_;(conv=>whnf))); exact .refl _)
  have q7 : ¬ kd = 7 := by ((try simp only [oo, reduceCtorEq] at *) <;> omega)
  rw [if_neg q7]
  (refine ifK_split (fun q13 => ?_) (fun q13 => ?_) <;> (rw [q13]; ((conv=>whnf);repeat(refine And.intro rfl ?_;(conv=>whnf)))))
  · have q13 : kd = 13 := by ((try simp only [oo, reduceCtorEq] at *) <;> omega)
    subst q13
    rw [if_pos rfl]
    cases vA <;> cases vB <;> (((conv=>whnf);repeat(refine And.intro rfl ?_;(conv=>whnf))); exact .refl _)
  have q13 : ¬ kd = 13 := by ((try simp only [oo, reduceCtorEq] at *) <;> omega)
  rw [if_neg q13]
  (refine ifK_split (fun q8 => ?_) (fun q8 => ?_) <;> (rw [q8]; ((conv=>whnf);repeat(refine And.intro rfl ?_;(conv=>whnf)))))
  · have q8 : kd = 8 := by ((try simp only [oo, reduceCtorEq] at *) <;> omega)
    subst q8
    rw [if_pos rfl]
    exact .refl _
  have q8 : ¬ kd = 8 := by ((try simp only [oo, reduceCtorEq] at *) <;> omega)
  rw [if_neg q8]
  (refine ifK_split (fun q9 => ?_) (fun q9 => ?_) <;> (rw [q9]; ((conv=>whnf);repeat(refine And.intro rfl ?_;(conv=>whnf)))))
  · have q9 : kd = 9 := by ((try simp only [oo, reduceCtorEq] at *) <;> omega)
    subst q9
    rw [if_pos rfl]
    (refine .inl ⟨_, hP, ?_⟩; ((conv=>whnf);repeat(refine And.intro rfl ?_;(conv=>whnf))))
    exact .refl _
  have q9 : ¬ kd = 9 := by ((try simp only [oo, reduceCtorEq] at *) <;> omega)
  rw [if_neg q9]
  (refine ifK_split (fun q10 => ?_) (fun q10 => ?_) <;> (rw [q10]; ((conv=>whnf);repeat(refine And.intro rfl ?_;(conv=>whnf)))))
  · have q10 : kd = 10 := by ((try simp only [oo, reduceCtorEq] at *) <;> omega)
    subst q10
    rw [if_pos rfl]
    cases v1
    · ((conv=>whnf);repeat(refine And.intro rfl ?_;(conv=>whnf)))
      exact .refl _
    · ((conv=>whnf);repeat(refine And.intro rfl ?_;(conv=>whnf)))
      (refine .inl ⟨_, hP, ?_⟩; ((conv=>whnf);repeat(refine And.intro rfl ?_;(conv=>whnf))))
      exact .refl _
  have q10 : ¬ kd = 10 := by ((try simp only [oo, reduceCtorEq] at *) <;> omega)
  rw [if_neg q10]
  (refine ifK_split (fun q11 => ?_) (fun q11 => ?_) <;> (rw [q11]; ((conv=>whnf);repeat(refine And.intro rfl ?_;(conv=>whnf)))))
  · have q11 : kd = 11 := by ((try simp only [oo, reduceCtorEq] at *) <;> omega)
    subst q11
    rw [if_pos rfl]
    (refine .inr (.inl ⟨_, _, (by (repeat' (first | exact Deep.refl _ | exact Deep.none _ | exact deep_row _ | exact DeepL.nil | exact DeepLL.nil | refine Deep.agg _ _ ?_ | refine Deep.tup _ _ ?_ | refine Deep.own _ _ _ _ _ _ _ _ rfl ?_ | refine Deep.loc _ _ _ _ _ rfl ?_ | refine Deep.ifc _ _ _ ?_ | refine Deep.fn _ _ _ _ _ ?_ ?_ | refine DeepL.cons _ _ _ _ ?_ ?_ | refine DeepLL.cons _ _ _ _ ?_ ?_))), h2, rfl, ?_⟩); ((conv=>whnf);repeat(refine And.intro rfl ?_;(conv=>whnf))))
    exact .refl _
  have q11 : ¬ kd = 11 := by ((try simp only [oo, reduceCtorEq] at *) <;> omega)
  rw [if_neg q11]
  (refine ifK_split (fun q12 => ?_) (fun q12 => ?_) <;> (rw [q12]; ((conv=>whnf);repeat(refine And.intro rfl ?_;(conv=>whnf)))))
  · have q12 : kd = 12 := by ((try simp only [oo, reduceCtorEq] at *) <;> omega)
    subst q12
    rw [if_pos rfl]
    (refine .inr (.inl ⟨_, _, (by (repeat' (first | exact Deep.refl _ | exact Deep.none _ | exact deep_row _ | exact DeepL.nil | exact DeepLL.nil | refine Deep.agg _ _ ?_ | refine Deep.tup _ _ ?_ | refine Deep.own _ _ _ _ _ _ _ _ rfl ?_ | refine Deep.loc _ _ _ _ _ rfl ?_ | refine Deep.ifc _ _ _ ?_ | refine Deep.fn _ _ _ _ _ ?_ ?_ | refine DeepL.cons _ _ _ _ ?_ ?_ | refine DeepLL.cons _ _ _ _ ?_ ?_))), h3, rfl, ?_⟩); ((conv=>whnf);repeat(refine And.intro rfl ?_;(conv=>whnf))))
    exact .refl _
  have q12 : ¬ kd = 12 := by ((try simp only [oo, reduceCtorEq] at *) <;> omega)
  rw [if_neg q12]
  (refine .inr (.inl ⟨_, _, (by (repeat' (first | exact Deep.refl _ | exact Deep.none _ | exact deep_row _ | exact DeepL.nil | exact DeepLL.nil | refine Deep.agg _ _ ?_ | refine Deep.tup _ _ ?_ | refine Deep.own _ _ _ _ _ _ _ _ rfl ?_ | refine Deep.loc _ _ _ _ _ rfl ?_ | refine Deep.ifc _ _ _ ?_ | refine Deep.fn _ _ _ _ _ ?_ ?_ | refine DeepL.cons _ _ _ _ ?_ ?_ | refine DeepLL.cons _ _ _ _ ?_ ?_))), h4, rfl, ?_⟩); ((conv=>whnf);repeat(refine And.intro rfl ?_;(conv=>whnf))))
  exact .refl _
/-! ### Means -/
structure TW (kd a b ct : Int) (s l : List Int) : Prop where
  tm : tmplChk kd a b ct = 0
  word : wchk s l = 0
  stem : Lett s
  loop : Lett l
theorem TW.nums {kd a b ct : Int} {s l : List Int} (h : TW kd a b ct s l) : (1 ≤ kd ∧ kd ≤ 14) ∧ 0 ≤ a ∧ 0 ≤ b ∧ (kd ≤ 3 → 1 ≤ ct ∧ ct ≤ 3) := by
  have := h.tm
  unfold tmplChk at this
  split at this
  · cases this
  · split at this
    · cases this
    · omega
def tmeans (kd a b ct : Int) (s l : List Int) : Bool := decB kd ct (allTo (snP s l) (bitP s l a) (bitP s l b) (s.length + 6 * l.length)) (cnt (snP s l) 0 (s.length + l.length))
theorem many_succ {l : List (Bool × Bool)} {k : Nat} : cnt (fun k => (l.getD k (false, false)).1) 0 (k + 1) = cnt (fun k => (l.getD k (false, false)).1) 0 k + if (l.getD k (false, false)).1 = true then 1 else 0 := cnt_succ (Nat.zero_le _)
def c27_1 : PC := .seq (.ops [⟨(some 40), .bin .lss (.tmp 39) (.tmp 38), none, 0⟩] false) (.seq (.cond (.tmp 40) (.skip) (.exit 0)) (.seq (.block 1 (.seq (.ops [⟨(some 41), .iaddr 2 (.tmp 37) (.tmp 39), none, 0⟩,
    ⟨(some 42), .loadA 2 (.tmp 41), none, 0⟩,
    ⟨(some 12), .alloc [(.bool false), (.bool false)], none, 0⟩,
    ⟨none, .store 2 (.tmp 12) (.tmp 42), none, 0⟩] false) (.seq (.ops [⟨(some 43), .faddr 0 (.tmp 12), none, 0⟩,
    ⟨(some 44), .load1 (.tmp 43), none, 0⟩] false) (.cond (.tmp 44) (.ops [⟨(some 45), .move (.tmp 10), none, 0⟩,
    ⟨(some 46), .bin .add (.tmp 45) (.const (.int .i64 1)), none, 0⟩,
    ⟨(some 10), .move (.tmp 46), none, 0⟩] false) (.skip))))) (.ops [⟨(some 47), .bin .add (.tmp 39) (.const (.int .i64 1)), none, 0⟩,
    ⟨(some 39), .move (.tmp 47), none, 0⟩] false)))
def c27 : PC := .seq (.ops [⟨(some 2), .box (.tmp 0), none, 0⟩,
    ⟨(some 3), .box (.tmp 1), none, 0⟩,
    ⟨(some 4), .move (.const (.bool false)), none, 0⟩,
    ⟨(some 5), .move (.const (.int .i64 0)), none, 0⟩] false) (.seq (.seq (.ops [⟨(some 13), .loadA 4 (.tmp 2), none, 0⟩,
    ⟨(some 14), .call 72 [(.tmp 13)], none, 0⟩,
    ⟨(some 6), .move (.tmp 14), none, 0⟩] false) (.seq (.ops [⟨(some 15), .move (.tmp 6), none, 0⟩,
    ⟨(some 16), .bin .neq (.tmp 15) (.const (.int .i64 0)), none, 0⟩] false) (.cond (.tmp 16) (.seq (.ops [⟨(some 17), .move (.tmp 6), none, 0⟩,
    ⟨(some 4), .move (.const (.bool false)), none, 0⟩,
    ⟨(some 5), .move (.tmp 17), none, 0⟩] false) (.ret)) (.skip)))) (.seq (.seq (.ops [⟨(some 18), .loadA 2 (.tmp 3), none, 0⟩,
    ⟨(some 19), .call 73 [(.tmp 18)], none, 0⟩,
    ⟨(some 7), .move (.tmp 19), none, 0⟩] false) (.seq (.ops [⟨(some 20), .move (.tmp 7), none, 0⟩,
    ⟨(some 21), .bin .neq (.tmp 20) (.const (.int .i64 0)), none, 0⟩] false) (.cond (.tmp 21) (.seq (.ops [⟨(some 22), .move (.tmp 7), none, 0⟩,
    ⟨(some 4), .move (.const (.bool false)), none, 0⟩,
    ⟨(some 5), .move (.tmp 22), none, 0⟩] false) (.ret)) (.skip)))) (.seq (.ops [⟨(some 24), .loadA 4 (.tmp 2), none, 0⟩,
    ⟨(some 25), .loadA 2 (.tmp 3), none, 0⟩,
    ⟨(some 26), .call 74 [(.tmp 24), (.tmp 25)], none, 0⟩,
    ⟨(some 23), .move (.tmp 26), none, 0⟩,
    ⟨(some 27), .ext 0 (.tmp 23), none, 0⟩,
    ⟨(some 28), .ext 1 (.tmp 23), none, 0⟩,
    ⟨(some 8), .move (.tmp 27), none, 0⟩,
    ⟨(some 9), .move (.tmp 28), none, 0⟩] false) (.seq (.seq (.ops [⟨(some 29), .faddr 0 (.tmp 2), none, 0⟩,
    ⟨(some 30), .load1 (.tmp 29), none, 0⟩,
    ⟨(some 31), .call 75 [(.tmp 30)], none, 0⟩,
    ⟨(some 32), .un .not (.tmp 31), none, 0⟩] false) (.cond (.tmp 32) (.seq (.ops [⟨(some 33), .loadA 4 (.tmp 2), none, 0⟩,
    ⟨(some 34), .move (.tmp 8), none, 0⟩,
    ⟨(some 35), .move (.tmp 9), none, 0⟩,
    ⟨(some 36), .call 76 [(.tmp 33), (.tmp 34), (.tmp 35)], none, 0⟩,
    ⟨(some 4), .move (.tmp 36), none, 0⟩,
    ⟨(some 5), .move (.const (.int .i64 0)), none, 0⟩] false) (.ret)) (.skip))) (.seq (.ops [⟨(some 10), .move (.const (.int .i64 0)), none, 0⟩] false) (.seq (.seq (.ops [⟨(some 37), .move (.tmp 8), none, 0⟩,
    ⟨(some 38), .len (.tmp 37), none, 0⟩,
    ⟨(some 39), .move (.const (.int .i64 0)), none, 0⟩] false) (.block 0 (.loop c27_1))) (.seq (.seq (.ops [⟨(some 48), .faddr 0 (.tmp 2), none, 0⟩,
    ⟨(some 49), .load1 (.tmp 48), none, 0⟩] false) (.block 2 (.seq (.ops [⟨(some 51), .bin .eql (.tmp 49) (.const (.int .i64 1)), none, 0⟩,
    ⟨(some 50), .move (.tmp 51), none, 0⟩] false) (.cond (.tmp 50) (.seq (.ops [⟨(some 52), .move (.tmp 10), none, 0⟩,
    ⟨(some 53), .faddr 3 (.tmp 2), none, 0⟩,
    ⟨(some 54), .load1 (.tmp 53), none, 0⟩,
    ⟨(some 55), .bin .geq (.tmp 52) (.tmp 54), none, 0⟩,
    ⟨(some 4), .move (.tmp 55), none, 0⟩,
    ⟨(some 5), .move (.const (.int .i64 0)), none, 0⟩] false) (.ret)) (.seq (.ops [⟨(some 57), .bin .eql (.tmp 49) (.const (.int .i64 2)), none, 0⟩,
    ⟨(some 56), .move (.tmp 57), none, 0⟩] false) (.cond (.tmp 56) (.seq (.ops [⟨(some 58), .move (.tmp 10), none, 0⟩,
    ⟨(some 59), .faddr 3 (.tmp 2), none, 0⟩,
    ⟨(some 60), .load1 (.tmp 59), none, 0⟩,
    ⟨(some 61), .bin .lss (.tmp 58) (.tmp 60), none, 0⟩,
    ⟨(some 4), .move (.tmp 61), none, 0⟩,
    ⟨(some 5), .move (.const (.int .i64 0)), none, 0⟩] false) (.ret)) (.skip))))))) (.seq (.ops [⟨(some 62), .move (.tmp 10), none, 0⟩,
    ⟨(some 63), .faddr 3 (.tmp 2), none, 0⟩,
    ⟨(some 64), .load1 (.tmp 63), none, 0⟩,
    ⟨(some 65), .bin .eql (.tmp 62) (.tmp 64), none, 0⟩,
    ⟨(some 4), .move (.tmp 65), none, 0⟩,
    ⟨(some 5), .move (.const (.int .i64 0)), none, 0⟩] false) (.ret)))))))))
set_option maxRecDepth 100000 in
theorem c27_ok : FunOK Try.prog 27 66 [.tmp 4, .tmp 5] c27 := ⟨⟨Try.f27, Try.func27, rfl, by kernel_rfl, rfl, by kernel_rfl⟩⟩
set_option maxRecDepth 100000 in
theorem dc_Means1 (kd a b ct : Int) (s l : List Int) (e : Int) (he : (if tmplChk kd a b ct ≠ 0 then tmplChk kd a b ct else wchk s l) = e) (h0 : e ≠ 0) : PCall Try.prog 27 [dtempl kd a b ct, dword s l] (.tup [.sc (.bool false), .sc (.int .i64 e)]) := by
  have hW := las_Check s l
  have hC := dec_Check kd a b ct
  refine pcall_intro c27_ok (by simp) (by simp [PureL, pure_dtempl, pure_dword]) ?_ (by simp [Pure, PureL])
  generalize tmplChk kd a b ct = c1 at *
  generalize wchk s l = c2 at *
  unfold dtempl at *
  (apply rd_sound; focus (repeat' constructor))
  ((conv=>whnf);repeat(refine And.intro rfl ?_;(conv=>whnf)))
  (refine .inl ⟨_, hC, ?_⟩; ((conv=>whnf);repeat(refine And.intro rfl ?_;(conv=>whnf))))
  (refine ifK_split (fun q1 => ?_) (fun q1 => ?_) <;> (rw [q1]; ((conv=>whnf);repeat(refine And.intro rfl ?_;(conv=>whnf)))))
  · have q1 : c1 ≠ 0 := by ((try simp only [oo, reduceCtorEq] at *) <;> omega)
    rw [if_pos q1] at he
    subst he
    exact .refl _
  · have q1 : c1 = 0 := by ((try simp only [oo, reduceCtorEq] at *) <;> omega)
    rw [if_neg (by omega)] at he
    subst he
    (refine .inl ⟨_, hW, ?_⟩; ((conv=>whnf);repeat(refine And.intro rfl ?_;(conv=>whnf))))
    (refine ifK_split (fun q2 => ?_) (fun q2 => ?_) <;> (rw [q2]; ((conv=>whnf);repeat(refine And.intro rfl ?_;(conv=>whnf)))))
    · exact .refl _
    · exfalso; ((try simp only [oo, reduceCtorEq] at *) <;> omega)
set_option maxRecDepth 100000 in
theorem dc_Means0 (kd a b ct : Int) (s l : List Int) (h : TW kd a b ct s l) : PCall Try.prog 27 [dtempl kd a b ct, dword s l] (.tup [.sc (.bool (tmeans kd a b ct s l)), .sc (.int .i64 0)]) := by
  have hW := las_Check s l
  have hC := dec_Check kd a b ct
  have hwl := (wchk_zero s l).1 h.word
  obtain ⟨hkd, ha, hb, hct⟩ := h.nums
  have hL := dc_look kd a b ct ha hb s l h.word h.stem h.loop
  have hlen : (allTo (snP s l) (bitP s l a) (bitP s l b) (s.length + 6 * l.length)).length ≤ 100000 := by
    rw [allTo_len]
    have := cntF_le (snP s l) 0 (s.length + 6 * l.length)
    change cnt (snP s l) 0 (s.length + 6 * l.length) ≤ _ at this
    omega
  have hfr : cnt (snP s l) 0 (s.length + l.length) ≤ (allTo (snP s l) (bitP s l a) (bitP s l b) (s.length + 6 * l.length)).length := by
    rw [allTo_len]
    exact cnt_mono (by omega)
  have hK := dc_keeps kd a b ct _ hlen _ hfr
  have hcd := dec_counted kd
  rw [h.tm] at hC
  rw [h.word] at hW
  refine pcall_intro c27_ok (by simp) (by simp [PureL, pure_dtempl, pure_dword]) ?_ (by simp [Pure, PureL])
  unfold tmeans
  generalize allTo (snP s l) (bitP s l a) (bitP s l b) (s.length + 6 * l.length) = L at *
  generalize cnt (snP s l) 0 (s.length + l.length) = fresh at *
  unfold decB
  unfold dtempl at *
  (apply rd_sound; focus (repeat' constructor))
  ((conv=>whnf);repeat(refine And.intro rfl ?_;(conv=>whnf)))
  (refine .inl ⟨_, hC, ?_⟩; ((conv=>whnf);repeat(refine And.intro rfl ?_;(conv=>whnf))))
  (refine .inl ⟨_, hW, ?_⟩; ((conv=>whnf);repeat(refine And.intro rfl ?_;(conv=>whnf))))
  (refine .inl ⟨_, hL, ?_⟩; ((conv=>whnf);repeat(refine And.intro rfl ?_;(conv=>whnf))))
  (refine .inl ⟨_, hcd, ?_⟩; ((conv=>whnf);repeat(refine And.intro rfl ?_;(conv=>whnf))))
  by_cases q : kd ≤ 3
  · rw [show (decide (1 ≤ kd) && decide (kd ≤ 3)) = true by simp; omega]
    ((conv=>whnf);repeat(refine And.intro rfl ?_;(conv=>whnf)))
    rw [bprw_len]
    refine pwp_for [2, 37, 38] (fun ((k, c) : Nat × Nat) => [(10, .sc (.int .i64 c)), (39, .sc (.int .i64 k))]) (fun _ => []) (fun (k, c) => k ≤ L.length ∧ c = cnt (fun k => (L.getD k (false, false)).1) 0 k ∧ c ≤ k) (fun (k, c) => L.length - k) (0, 0) ?_
    ((conv=>whnf);repeat(refine And.intro rfl ?_;(conv=>whnf)))
    refine ⟨⟨by omega, by simp [cnt_self], by omega⟩, by (repeat' (first | exact trivial | refine And.intro rfl ?_)), rfl, ?_⟩
    rintro ⟨k, c⟩ ⟨hk, hc, hck⟩
    have e1 := many_succ (l := L) (k := k)
    rw [← hc] at e1
    ((conv=>whnf);repeat(refine And.intro rfl ?_;(conv=>whnf)))
    (apply rd_sound; focus (repeat' constructor))
    ((conv=>whnf);repeat(refine And.intro rfl ?_;(conv=>whnf)))
    (refine ifK_split (fun q0 => ?_) (fun q0 => ?_) <;> (rw [q0]; ((conv=>whnf);repeat(refine And.intro rfl ?_;(conv=>whnf)))))
    · have q0 : k < L.length := by ((try simp only [oo, reduceCtorEq] at *) <;> omega)
      refine ⟨by omega, _, bprw_at (k := k) (by omega) q0, ?_⟩
      ((conv=>whnf);repeat(refine And.intro rfl ?_;(conv=>whnf)))
      cases r : (L.getD k (false, false)).1
      · rw [r, if_neg (by decide)] at e1
        ((conv=>whnf);repeat(refine And.intro rfl ?_;(conv=>whnf)))
        (refine .inl ⟨by (unfold InR; rw [IntKind.wrap_i64]; omega), ?_⟩; ((conv=>whnf);repeat(refine And.intro rfl ?_;(conv=>whnf))))
        refine ⟨(k + 1, c), ⟨by omega, by rw [e1]; rfl, by omega⟩, by dsimp only; omega, ?_⟩
        (refine leB_close 2 (by simp) rfl ?_ ?_ <;> (repeat' (first | exact trivial | exact rfl | exact DeepM.refl _ | exact DeepML.refl _ | exact DeepMLL.refl _ | refine And.intro ?_ ?_ | (simp [Under, UnderL, UnderLL, -List.map_take, -List.map_drop]; done))))
      · rw [r, if_pos rfl] at e1
        ((conv=>whnf);repeat(refine And.intro rfl ?_;(conv=>whnf)))
        (refine .inl ⟨by (unfold InR; rw [IntKind.wrap_i64]; omega), ?_⟩; ((conv=>whnf);repeat(refine And.intro rfl ?_;(conv=>whnf))))
        (refine .inl ⟨by (unfold InR; rw [IntKind.wrap_i64]; omega), ?_⟩; ((conv=>whnf);repeat(refine And.intro rfl ?_;(conv=>whnf))))
        refine ⟨(k + 1, c + 1), ⟨by omega, by rw [e1], by omega⟩, by dsimp only; omega, ?_⟩
        (refine leB_close 2 (by simp) rfl ?_ ?_ <;> (repeat' (first | exact trivial | exact rfl | exact DeepM.refl _ | exact DeepML.refl _ | exact DeepMLL.refl _ | refine And.intro ?_ ?_ | (simp [Under, UnderL, UnderLL, -List.map_take, -List.map_drop]; done))))
    · have q0 : k = L.length := by have : ¬ k < L.length := by ((try simp only [oo, reduceCtorEq] at *) <;> omega)
                                   omega
      subst q0
      have hm : manyB L = c := hc.symm
      rw [hm]
      (refine ifK_split (fun q1 => ?_) (fun q1 => ?_) <;> (rw [q1]; ((conv=>whnf);repeat(refine And.intro rfl ?_;(conv=>whnf)))))
      · have q1 : kd = 1 := by ((try simp only [oo, reduceCtorEq] at *) <;> omega)
        rw [if_pos q1]
        exact .refl _
      have q1 : ¬ kd = 1 := by ((try simp only [oo, reduceCtorEq] at *) <;> omega)
      rw [if_neg q1]
      (refine ifK_split (fun q2 => ?_) (fun q2 => ?_) <;> (rw [q2]; ((conv=>whnf);repeat(refine And.intro rfl ?_;(conv=>whnf)))))
      · have q2 : kd = 2 := by ((try simp only [oo, reduceCtorEq] at *) <;> omega)
        rw [if_pos q2]
        exact .refl _
      have q2 : ¬ kd = 2 := by ((try simp only [oo, reduceCtorEq] at *) <;> omega)
      rw [if_neg q2, if_pos (show kd = 3 by omega)]
      refine deep_eq ?_
      rfl
  · rw [show (decide (1 ≤ kd) && decide (kd ≤ 3)) = false by simp; omega, if_neg (show ¬ kd = 1 by omega), if_neg (show ¬ kd = 2 by omega), if_neg (show ¬ kd = 3 by omega)]
    ((conv=>whnf);repeat(refine And.intro rfl ?_;(conv=>whnf)))
    (refine .inr (.inl ⟨_, _, (by (repeat' (first | exact Deep.refl _ | exact Deep.none _ | exact deep_row _ | exact DeepL.nil | exact DeepLL.nil | refine Deep.agg _ _ ?_ | refine Deep.tup _ _ ?_ | refine Deep.own _ _ _ _ _ _ _ _ rfl ?_ | refine Deep.loc _ _ _ _ _ rfl ?_ | refine Deep.ifc _ _ _ ?_ | refine Deep.fn _ _ _ _ _ ?_ ?_ | refine DeepL.cons _ _ _ _ ?_ ?_ | refine DeepLL.cons _ _ _ _ ?_ ?_))), hK, rfl, ?_⟩); ((conv=>whnf);repeat(refine And.intro rfl ?_;(conv=>whnf))))
    exact .refl _
end Go.Proofs.Ytfgklgjbnpjpoaa
