/-
  The steps of a process: the program's list and the reference's. No statement is proved here.
-/
import Derived.Test.YtcgjbhnljjlffaaSt1
namespace Go.Proofs.Ytcgjbhnljjlffaa
open Go.RowKit
set_option linter.unusedSimpArgs false
set_option linter.unusedVariables false
theorem step_at {l : List StepD} {z k : Nat} (hz : z = k) (h : k < l.length) : (srows l)[z]? = some (srow l[k]) := by
  subst hz
  unfold srows
  rw [List.getElem?_map, List.getElem?_eq_getElem h]
  rfl
def c47_1 : PC := .seq (.ops [⟨(some 14), .bin .lss (.tmp 13) (.tmp 12), none, 0⟩] false) (.seq (.cond (.tmp 14) (.skip) (.exit 0)) (.seq (.block 1 (.seq (.ops [⟨(some 15), .move (.tmp 13), none, 0⟩,
    ⟨(some 5), .move (.tmp 15), none, 0⟩] false) (.seq (.ops [⟨(some 16), .move (.tmp 0), none, 0⟩,
    ⟨(some 17), .move (.tmp 5), none, 0⟩,
    ⟨(some 18), .iaddr 3 (.tmp 16) (.tmp 17), none, 3⟩,
    ⟨(some 19), .loadA 3 (.tmp 18), none, 7⟩,
    ⟨(some 20), .move (.tmp 1), none, 0⟩,
    ⟨(some 21), .move (.tmp 5), none, 0⟩,
    ⟨(some 22), .iaddr 3 (.tmp 20) (.tmp 21), none, 48⟩,
    ⟨(some 23), .loadA 3 (.tmp 22), none, 112⟩,
    ⟨(some 24), .eqa true [0, 0, 0] (.tmp 19) (.tmp 23), none, 255⟩] true) (.cond (.tmp 24) (.seq (.ops [⟨(some 4), .move (.const (.bool false)), none, 0⟩] false) (.ret)) (.skip))))) (.ops [⟨(some 25), .bin .add (.tmp 13) (.const (.int .i64 1)), none, 0⟩,
    ⟨(some 13), .move (.tmp 25), none, 0⟩] false)))
def c47 : PC := .seq (.ops [⟨(some 4), .move (.const (.bool false)), none, 0⟩] false) (.seq (.seq (.ops [⟨(some 6), .move (.tmp 0), none, 0⟩,
    ⟨(some 7), .len (.tmp 6), none, 0⟩,
    ⟨(some 8), .move (.tmp 1), none, 0⟩,
    ⟨(some 9), .len (.tmp 8), none, 0⟩,
    ⟨(some 10), .bin .neq (.tmp 7) (.tmp 9), none, 0⟩] false) (.cond (.tmp 10) (.seq (.ops [⟨(some 4), .move (.const (.bool false)), none, 0⟩] false) (.ret)) (.skip))) (.seq (.seq (.ops [⟨(some 11), .move (.tmp 0), none, 0⟩,
    ⟨(some 12), .len (.tmp 11), none, 0⟩,
    ⟨(some 13), .move (.const (.int .i64 0)), none, 0⟩] false) (.block 0 (.loop c47_1))) (.seq (.ops [⟨(some 4), .move (.const (.bool true)), none, 0⟩] false) (.ret))))
set_option maxRecDepth 100000 in
theorem c47_ok : FunOK Try.prog 47 26 [.tmp 4] c47 := ⟨⟨Try.f47, Try.func47, rfl, by kernel_rfl, rfl, by kernel_rfl⟩⟩
theorem equal_step (a b : List StepD) (ha : a.length ≤ 9223372036854775807) : PCall Try.prog 47 [dsteps a, dsteps b] (.sc (.bool (decide (a = b)))) := by
  refine pcall_intro c47_ok (by simp) (by simp [PureL, Pure, pure_dsteps]) ?_ (by simp [Pure])
  unfold dsteps
  (apply red_sound; focus (repeat' (first | exact Red.skip | exact Red.ret | exact RedO.nil | exact RedD.nil | exact Red.exit _ | exact Red.loop _ | exact Red.stop _ | apply Red.ops | apply Red.draw | apply Red.seq | apply Red.cond | apply Red.block | apply RedO.cons | apply RedD.cons | exact (0 : Nat))))
  ((conv => whnf); repeat (refine And.intro rfl ?_; (conv => whnf)))
  rw [srows_len, srows_len]
  have fin : ∀ {c : Bool}, c = decide (a = b) → Deep [] (.sc (.bool c)) (.sc (.bool (decide (a = b)))) := fun h => h ▸ .refl _
  (refine ifK_split (fun h1 => ?_) (fun h1 => ?_) <;> (rw [h1]; ((conv => whnf); repeat (refine And.intro rfl ?_; (conv => whnf)))))
  · exact fin (by rw [eq_comm, decide_eq_false_iff_not]; rintro rfl; simp at h1)
  have hl : a.length = b.length := by ((try simp only [bne_iff_ne, ne_eq, bne_eq_false_iff_eq, beq_iff_eq, beq_eq_false_iff_ne, decide_eq_true_eq, decide_eq_false_iff_not, List.length_map, Bool.not_eq_true, Bool.not_eq_false, Bool.and_eq_true, Bool.or_eq_true, Bool.and_eq_false_iff, Bool.or_eq_false_iff, Bool.not_eq_true', Bool.not_eq_false', Bool.not_true, Bool.not_false, Bool.not_eq_eq_eq_not, not_true_eq_false, not_false_eq_true, reduceCtorEq, Bool.true_or, Bool.false_or, Bool.or_true, Bool.or_false, Bool.true_and, Bool.and_true, Bool.false_and, Bool.and_false, true_and, and_true, or_false, false_or, true_or, or_true, false_and, and_false, Bool.true_eq_false, Bool.false_eq_true] at *) <;> omega)
  rw [srows_len]
  refine pwp_for [0, 1, 12] (fun k : Nat => [(13, .sc (.int .i64 k))]) (fun _ => []) (fun k => k ≤ a.length ∧ ∀ j (hj : j < k) (h1 : j < a.length) (h2 : j < b.length), a[j] = b[j]) (fun k => a.length - k) 0 ?_
  ((conv => whnf); repeat (refine And.intro rfl ?_; (conv => whnf)))
  refine ⟨⟨by omega, fun j h => by omega⟩, by (repeat' (first | exact trivial | refine And.intro rfl ?_)), rfl, ?_⟩
  rintro k ⟨hk, hall⟩
  ((conv => whnf); repeat (refine And.intro rfl ?_; (conv => whnf)))
  (apply red_sound; focus (repeat' (first | exact Red.skip | exact Red.ret | exact RedO.nil | exact RedD.nil | exact Red.exit _ | exact Red.loop _ | exact Red.stop _ | apply Red.ops | apply Red.draw | apply Red.seq | apply Red.cond | apply Red.block | apply RedO.cons | apply RedD.cons | exact (0 : Nat))))
  ((conv => whnf); repeat (refine And.intro rfl ?_; (conv => whnf)))
  (refine ifK_split (fun h2 => ?_) (fun h2 => ?_) <;> (rw [h2]; ((conv => whnf); repeat (refine And.intro rfl ?_; (conv => whnf)))))
  · have hk' : k < a.length := by ((try simp only [bne_iff_ne, ne_eq, bne_eq_false_iff_eq, beq_iff_eq, beq_eq_false_iff_ne, decide_eq_true_eq, decide_eq_false_iff_not, List.length_map, Bool.not_eq_true, Bool.not_eq_false, Bool.and_eq_true, Bool.or_eq_true, Bool.and_eq_false_iff, Bool.or_eq_false_iff, Bool.not_eq_true', Bool.not_eq_false', Bool.not_true, Bool.not_false, Bool.not_eq_eq_eq_not, not_true_eq_false, not_false_eq_true, reduceCtorEq, Bool.true_or, Bool.false_or, Bool.or_true, Bool.or_false, Bool.true_and, Bool.and_true, Bool.false_and, Bool.and_false, true_and, and_true, or_false, false_or, true_or, or_true, false_and, and_false, Bool.true_eq_false, Bool.false_eq_true] at *) <;> omega)
    refine ⟨by omega, _, step_at (k := k) (by omega) hk', ?_⟩
    ((conv => whnf); repeat (refine And.intro rfl ?_; (conv => whnf)))
    refine ⟨by omega, _, step_at (l := b) (k := k) (by omega) (by omega), ?_⟩
    ((conv => whnf); repeat (refine And.intro rfl ?_; (conv => whnf)))
    have q : ∀ x y : StepD, (x.1 == y.1 && (x.2.1 == y.2.1 && (x.2.2 == y.2.2 && true))) = decide (x = y) := by
      rintro ⟨x1, x2, x3⟩ ⟨y1, y2, y3⟩
      simp only [Bool.and_true]
      by_cases g1 : x1 = y1 <;> by_cases g2 : x2 = y2 <;> by_cases g3 : x3 = y3 <;> simp [g1, g2, g3]
    rw [q]
    (refine ifK_split (fun h3 => ?_) (fun h3 => ?_) <;> (rw [h3]; ((conv => whnf); repeat (refine And.intro rfl ?_; (conv => whnf)))))
    · exact fin (by rw [eq_comm, decide_eq_false_iff_not]; rintro rfl; simp [flipB] at h3)
    · (refine .inl ⟨by (unfold InR; rw [IntKind.wrap_i64]; omega), ?_⟩; ((conv => whnf); repeat (refine And.intro rfl ?_; (conv => whnf))))
      refine ⟨k + 1, ⟨by omega, fun j hj h1 h2 => ?_⟩, by dsimp only; omega, leB_envH (by (repeat' (first | exact trivial | refine And.intro rfl ?_))) rfl⟩
      by_cases e : j = k
      · subst e; simpa [flipB] using h3
      · exact hall j (by omega) h1 h2
  · refine fin ?_
    rw [eq_comm, decide_eq_true_eq]
    have hk' : ¬ k < a.length := by ((try simp only [bne_iff_ne, ne_eq, bne_eq_false_iff_eq, beq_iff_eq, beq_eq_false_iff_ne, decide_eq_true_eq, decide_eq_false_iff_not, List.length_map, Bool.not_eq_true, Bool.not_eq_false, Bool.and_eq_true, Bool.or_eq_true, Bool.and_eq_false_iff, Bool.or_eq_false_iff, Bool.not_eq_true', Bool.not_eq_false', Bool.not_true, Bool.not_false, Bool.not_eq_eq_eq_not, not_true_eq_false, not_false_eq_true, reduceCtorEq, Bool.true_or, Bool.false_or, Bool.or_true, Bool.or_false, Bool.true_and, Bool.and_true, Bool.false_and, Bool.and_false, true_and, and_true, or_false, false_or, true_or, or_true, false_and, and_false, Bool.true_eq_false, Bool.false_eq_true] at *) <;> omega)
    exact List.ext_getElem hl fun i h1 h2 => hall i (by omega) h1 h2
def c45_1 : PC := .seq (.ops [⟨(some 16), .bin .lss (.tmp 15) (.tmp 14), none, 0⟩] false) (.seq (.cond (.tmp 16) (.skip) (.exit 0)) (.seq (.block 1 (.seq (.ops [⟨(some 17), .move (.tmp 15), none, 0⟩,
    ⟨(some 6), .move (.tmp 17), none, 0⟩] false) (.ops [⟨(some 18), .move (.tmp 5), none, 0⟩,
    ⟨(some 19), .loadA 2 (.tmp 1), none, 0⟩,
    ⟨(some 20), .move (.tmp 6), none, 0⟩,
    ⟨(some 21), .call 121 [(.tmp 19), (.tmp 20)], none, 0⟩,
    ⟨(some 22), .append 3 24 (.tmp 18) (.tmp 21), none, 0⟩,
    ⟨(some 5), .move (.tmp 22), none, 0⟩] false))) (.ops [⟨(some 23), .bin .add (.tmp 15) (.const (.int .i64 1)), none, 0⟩,
    ⟨(some 15), .move (.tmp 23), none, 0⟩] false)))
def c45 : PC := .seq (.ops [⟨(some 1), .box (.tmp 0), none, 0⟩,
    ⟨(some 2), .move (.const (.slice none 0 0)), none, 0⟩,
    ⟨(some 3), .move (.const (.int .i64 0)), none, 0⟩] false) (.seq (.seq (.ops [⟨(some 7), .loadA 2 (.tmp 1), none, 0⟩,
    ⟨(some 8), .call 39 [(.tmp 7)], none, 0⟩,
    ⟨(some 4), .move (.tmp 8), none, 0⟩] false) (.seq (.ops [⟨(some 9), .move (.tmp 4), none, 0⟩,
    ⟨(some 10), .bin .neq (.tmp 9) (.const (.int .i64 0)), none, 0⟩] false) (.cond (.tmp 10) (.seq (.ops [⟨(some 11), .move (.tmp 4), none, 0⟩,
    ⟨(some 2), .move (.const (.slice none 0 0)), none, 0⟩,
    ⟨(some 3), .move (.tmp 11), none, 0⟩] false) (.ret)) (.skip)))) (.seq (.ops [⟨(some 5), .move (.const (.slice none 0 0)), none, 0⟩] false) (.seq (.seq (.ops [⟨(some 12), .faddr 0 (.tmp 1), none, 0⟩,
    ⟨(some 13), .load1 (.tmp 12), none, 0⟩,
    ⟨(some 14), .len (.tmp 13), none, 0⟩,
    ⟨(some 15), .move (.const (.int .i64 0)), none, 0⟩] false) (.block 0 (.loop c45_1))) (.seq (.seq (.ops [⟨(some 24), .move (.tmp 5), none, 0⟩,
    ⟨(some 25), .len (.tmp 24), none, 0⟩,
    ⟨(some 26), .bin .gtr (.tmp 25) (.const (.int .i64 60)), none, 0⟩] false) (.cond (.tmp 26) (.seq (.ops [⟨(some 2), .move (.const (.slice none 0 0)), none, 0⟩,
    ⟨(some 3), .move (.const (.int .i64 2)), none, 0⟩] false) (.ret)) (.skip))) (.seq (.ops [⟨(some 27), .move (.tmp 5), none, 0⟩,
    ⟨(some 2), .move (.tmp 27), none, 0⟩,
    ⟨(some 3), .move (.const (.int .i64 0)), none, 0⟩] false) (.ret))))))
set_option maxRecDepth 100000 in
theorem c45_ok : FunOK Try.prog 45 28 [.tmp 2, .tmp 3] c45 := ⟨⟨Try.f45, Try.func45, rfl, by kernel_rfl, rfl, by kernel_rfl⟩⟩
set_option maxRecDepth 100000 in
theorem steps_Of (P : ProcD) (hP : P.Fits) : PCall Try.prog 45 [dproc P] (.tup [dsteps P.stepsL, .sc (.int .i64 P.stepsE)]) := by
  refine pcall_intro c45_ok (by simp) (by simp [PureL, Pure, pure_dproc]) ?_ (by simp [Pure, PureL, pure_dsteps])
  have bad : ∀ {H : List AObj} {e : Int}, e ≠ 0 → P.stepsE = e → Deep H (.tup [.sc (.slice none 0 0), .sc (.int .i64 e)]) (.tup [dsteps P.stepsL, .sc (.int .i64 P.stepsE)]) := fun h k => by
    have : P.stepsL = [] := by unfold ProcD.stepsL; rw [if_neg (by rw [k]; exact h)]
    rw [k, this]
    exact .tup _ _ (.cons _ _ _ _ (.none _) (.cons _ _ _ _ (.refl _) .nil))
  (apply red_sound; focus (repeat' (first | exact Red.skip | exact Red.ret | exact RedO.nil | exact RedD.nil | exact Red.exit _ | exact Red.loop _ | exact Red.stop _ | apply Red.ops | apply Red.draw | apply Red.seq | apply Red.cond | apply Red.block | apply RedO.cons | apply RedD.cons | exact (0 : Nat))))
  ((conv => whnf); repeat (refine And.intro rfl ?_; (conv => whnf)))
  (refine .inl ⟨_, (proc_Check P hP), ?_⟩; ((conv => whnf); repeat (refine And.intro rfl ?_; (conv => whnf))))
  (refine ifK_split (fun h1 => ?_) (fun h1 => ?_) <;> (rw [h1]; ((conv => whnf); repeat (refine And.intro rfl ?_; (conv => whnf)))))
  · have h1 : P.chk ≠ 0 := by ((try simp only [bne_iff_ne, ne_eq, bne_eq_false_iff_eq, beq_iff_eq, beq_eq_false_iff_ne, decide_eq_true_eq, decide_eq_false_iff_not, List.length_map, Bool.not_eq_true, Bool.not_eq_false, Bool.and_eq_true, Bool.or_eq_true, Bool.and_eq_false_iff, Bool.or_eq_false_iff, Bool.not_eq_true', Bool.not_eq_false', Bool.not_true, Bool.not_false, Bool.not_eq_eq_eq_not, not_true_eq_false, not_false_eq_true, reduceCtorEq, Bool.true_or, Bool.false_or, Bool.or_true, Bool.or_false, Bool.true_and, Bool.and_true, Bool.false_and, Bool.and_false, true_and, and_true, or_false, false_or, true_or, or_true, false_and, and_false, Bool.true_eq_false, Bool.false_eq_true] at *) <;> omega)
    exact bad h1 (by unfold ProcD.stepsE; rw [if_pos h1])
  have h0 : P.chk = 0 := by ((try simp only [bne_iff_ne, ne_eq, bne_eq_false_iff_eq, beq_iff_eq, beq_eq_false_iff_ne, decide_eq_true_eq, decide_eq_false_iff_not, List.length_map, Bool.not_eq_true, Bool.not_eq_false, Bool.and_eq_true, Bool.or_eq_true, Bool.and_eq_false_iff, Bool.or_eq_false_iff, Bool.not_eq_true', Bool.not_eq_false', Bool.not_true, Bool.not_false, Bool.not_eq_eq_eq_not, not_true_eq_false, not_false_eq_true, reduceCtorEq, Bool.true_or, Bool.false_or, Bool.or_true, Bool.or_false, Bool.true_and, Bool.and_true, Bool.false_and, Bool.and_false, true_and, and_true, or_false, false_or, true_or, or_true, false_and, and_false, Bool.true_eq_false, Bool.false_eq_true] at *) <;> omega)
  obtain ⟨hs1, hs2⟩ := chk_small h0
  have hall := ProcD.nodeOK_of h0
  have e1 : P.stepsE = if 60 < (P.stepsTo P.nodes.length).length then 2 else 0 := by unfold ProcD.stepsE; rw [if_neg (by omega)]
  rw [List.length_map]
  refine pwp_ghostB (leB_nil 5 3 (by simp) rfl) ?_
  refine pwp_for [1, 14] (fun ((k, c, l) : Nat × Nat × List StepD) => [(5, .own 1 k 0 c), (15, .sc (.int .i64 k))]) (fun (k, c, l) => [(1, .vec true k 3 (srows l))]) (fun (k, c, l) => k ≤ P.nodes.length ∧ c = l.length ∧ l = P.stepsTo k) (fun (k, c, l) => P.nodes.length - k) (0, 0, []) ?_
  ((conv => whnf); repeat (refine And.intro rfl ?_; (conv => whnf)))
  refine ⟨⟨by omega, rfl, rfl⟩, by (repeat' (first | exact trivial | refine And.intro rfl ?_)), rfl, ?_⟩
  rintro ⟨k, c, l⟩ ⟨hk, hc, hl⟩
  ((conv => whnf); repeat (refine And.intro rfl ?_; (conv => whnf)))
  (apply red_sound; focus (repeat' (first | exact Red.skip | exact Red.ret | exact RedO.nil | exact RedD.nil | exact Red.exit _ | exact Red.loop _ | exact Red.stop _ | apply Red.ops | apply Red.draw | apply Red.seq | apply Red.cond | apply Red.block | apply RedO.cons | apply RedD.cons | exact (0 : Nat))))
  ((conv => whnf); repeat (refine And.intro rfl ?_; (conv => whnf)))
  (refine ifK_split (fun h2 => ?_) (fun h2 => ?_) <;> (rw [h2]; ((conv => whnf); repeat (refine And.intro rfl ?_; (conv => whnf)))))
  · have hk' : k < P.nodes.length := by ((try simp only [bne_iff_ne, ne_eq, bne_eq_false_iff_eq, beq_iff_eq, beq_eq_false_iff_ne, decide_eq_true_eq, decide_eq_false_iff_not, List.length_map, Bool.not_eq_true, Bool.not_eq_false, Bool.and_eq_true, Bool.or_eq_true, Bool.and_eq_false_iff, Bool.or_eq_false_iff, Bool.not_eq_true', Bool.not_eq_false', Bool.not_true, Bool.not_false, Bool.not_eq_eq_eq_not, not_true_eq_false, not_false_eq_true, reduceCtorEq, Bool.true_or, Bool.false_or, Bool.or_true, Bool.or_false, Bool.true_and, Bool.and_true, Bool.false_and, Bool.and_false, true_and, and_true, or_false, false_or, true_or, or_true, false_and, and_false, Bool.true_eq_false, Bool.false_eq_true] at *) <;> omega)
    have b1 := ProcD.stepsTo_len hs2 k fun i hi => hall i (by omega)
    have b2 := ProcD.stepsOf_len (hall k hk') hs2
    have b3 : l.length = (P.stepsTo k).length := by rw [hl]
    (refine .inl ⟨_, (steps_of P hP h0 k hk'), ?_⟩; ((conv => whnf); repeat (refine And.intro rfl ?_; (conv => whnf))))
    refine ⟨(by unfold sliceAppend; rw [srows_len]; omega), ?_⟩
    ((conv => whnf); repeat (refine And.intro rfl ?_; (conv => whnf)))
    (refine .inl ⟨by (unfold InR; rw [IntKind.wrap_i64]; omega), ?_⟩; ((conv => whnf); repeat (refine And.intro rfl ?_; (conv => whnf))))
    refine ⟨(k + 1, c + (srows (P.stepsOf k)).length, l ++ P.stepsOf k), ⟨by omega, by simp [hc, srows_len], by rw [hl]; rfl⟩, by dsimp only; omega, ?_⟩
    (refine leB_close 2 (by simp) rfl ?_ ?_ <;> (repeat' (first | exact trivial | exact rfl | exact DeepM.refl _ | exact DeepML.refl _ | exact DeepMLL.refl _ | refine And.intro ?_ ?_ | (simp [Under, UnderL, UnderLL, -List.map_take, -List.map_drop]; done))))
    exact deepMLL_eq (srow_app hc)
  · have hk' : k = P.nodes.length := by have : ¬ k < P.nodes.length := by ((try simp only [bne_iff_ne, ne_eq, bne_eq_false_iff_eq, beq_iff_eq, beq_eq_false_iff_ne, decide_eq_true_eq, decide_eq_false_iff_not, List.length_map, Bool.not_eq_true, Bool.not_eq_false, Bool.and_eq_true, Bool.or_eq_true, Bool.and_eq_false_iff, Bool.or_eq_false_iff, Bool.not_eq_true', Bool.not_eq_false', Bool.not_true, Bool.not_false, Bool.not_eq_eq_eq_not, not_true_eq_false, not_false_eq_true, reduceCtorEq, Bool.true_or, Bool.false_or, Bool.or_true, Bool.or_false, Bool.true_and, Bool.and_true, Bool.false_and, Bool.and_false, true_and, and_true, or_false, false_or, true_or, or_true, false_and, and_false, Bool.true_eq_false, Bool.false_eq_true] at *) <;> omega)
                                        omega
    subst hk'
    have b3 : l.length = (P.stepsTo P.nodes.length).length := by rw [hl]
    (refine ifK_split (fun h3 => ?_) (fun h3 => ?_) <;> (rw [h3]; ((conv => whnf); repeat (refine And.intro rfl ?_; (conv => whnf)))))
    · exact bad (by decide) (by rw [e1, if_pos (by ((try simp only [bne_iff_ne, ne_eq, bne_eq_false_iff_eq, beq_iff_eq, beq_eq_false_iff_ne, decide_eq_true_eq, decide_eq_false_iff_not, List.length_map, Bool.not_eq_true, Bool.not_eq_false, Bool.and_eq_true, Bool.or_eq_true, Bool.and_eq_false_iff, Bool.or_eq_false_iff, Bool.not_eq_true', Bool.not_eq_false', Bool.not_true, Bool.not_false, Bool.not_eq_eq_eq_not, not_true_eq_false, not_false_eq_true, reduceCtorEq, Bool.true_or, Bool.false_or, Bool.or_true, Bool.or_false, Bool.true_and, Bool.and_true, Bool.false_and, Bool.and_false, true_and, and_true, or_false, false_or, true_or, or_true, false_and, and_false, Bool.true_eq_false, Bool.false_eq_true] at *) <;> omega))])
    · have e2 : P.stepsE = 0 := by rw [e1, if_neg (by ((try simp only [bne_iff_ne, ne_eq, bne_eq_false_iff_eq, beq_iff_eq, beq_eq_false_iff_ne, decide_eq_true_eq, decide_eq_false_iff_not, List.length_map, Bool.not_eq_true, Bool.not_eq_false, Bool.and_eq_true, Bool.or_eq_true, Bool.and_eq_false_iff, Bool.or_eq_false_iff, Bool.not_eq_true', Bool.not_eq_false', Bool.not_true, Bool.not_false, Bool.not_eq_eq_eq_not, not_true_eq_false, not_false_eq_true, reduceCtorEq, Bool.true_or, Bool.false_or, Bool.or_true, Bool.or_false, Bool.true_and, Bool.and_true, Bool.false_and, Bool.and_false, true_and, and_true, or_false, false_or, true_or, or_true, false_and, and_false, Bool.true_eq_false, Bool.false_eq_true] at *) <;> omega))]
      have e3 : P.stepsL = l := by unfold ProcD.stepsL; rw [if_pos e2, hl]
      rw [e2, e3]
      exact .tup _ _ (.cons _ _ _ _ (deep_steps hc rfl) (.cons _ _ _ _ (.refl _) .nil))
end Go.Proofs.Ytcgjbhnljjlffaa
