/-
  Is a path a fair way of a world, over deep values. No statement is proved here.
-/
import Derived.Test.YtkkfiadefekbbaaWo3
namespace Go.Proofs.Ytkkfiadefekbbaa
open Go.RowKit
set_option linter.unusedSimpArgs false
set_option linter.unusedVariables false
/-- A path's states, and the first of its loop once more. -/
def roundA (s l : List Int) : List Int := s ++ l ++ [l.getD 0 0]
theorem roundA_at {s l : List Int} {k : Nat} (h : k < (s ++ l).length) : (s ++ l)[k] = (roundA s l).getD k 0 := by
  unfold roundA
  rw [List.getD_eq_getElem?_getD, List.getElem?_append_left h, List.getElem?_eq_getElem h]
  rfl
theorem roundA_last {s l : List Int} {k : Nat} (h : k = (s ++ l).length) : l.getD 0 0 = (roundA s l).getD k 0 := by
  unfold roundA
  rw [List.getD_eq_getElem?_getD (l := s ++ l ++ _), List.getElem?_append_right (by omega), h, Nat.sub_self]
  rfl
theorem roundA_len (s l : List Int) : (roundA s l).length = s.length + l.length + 1 := by simp [roundA]; omega
def WorldD.goes (W : WorldD) (a b : Int) : Bool := (W.next.getD a.toNat []).contains b
theorem goes_at {W : WorldD} {a : Int} (h : a.toNat < W.next.length) (b : Int) : (W.next[a.toNat]).contains b = W.goes a b := by
  unfold WorldD.goes
  rw [List.getD_eq_getElem?_getD, List.getElem?_eq_getElem h]
  rfl
/-- Is a path a fair way from one of these states on? -/
def WorldD.good (W : WorldD) (from_ s l : List Int) : Prop := W.onB s l = true ∧ from_.contains ((roundA s l).getD 0 0) = true ∧ (∀ i, i < s.length + l.length → W.goes ((roundA s l).getD i 0) ((roundA s l).getD (i + 1) 0) = true) ∧ ∀ f ∈ W.fair, (f.any fun x => l.contains x) = true
theorem in_all {s l : List Int} {n : Nat} (hs : inB s n = true) (hl : inB l n = true) {k : Nat} (h : k < (s ++ l).length) : 0 ≤ (s ++ l)[k] ∧ ((s ++ l)[k]).toNat < n := by
  have h1 : inB (s ++ l) n = true := by
    unfold inB at *
    rw [List.all_append, hs, hl]; rfl
  have := inB_get h1 h
  omega
def i64s (l : List Int) : List (List D) := l.map fun n => [.sc (.int .i64 n)]
@[simp] theorem underLL_i64s {m : Nat} (l : List Int) : UnderLL m (i64s l) ↔ True := by simp [i64s, UnderL, Under]
open Classical in
noncomputable def WorldD.goodB (W : WorldD) (from_ s l : List Int) : Bool := decide (W.good from_ s l)
theorem goodB_no {W : WorldD} {f s l : List Int} (h : ¬ W.good f s l) : W.goodB f s l = false := by unfold WorldD.goodB; simp [h]
theorem goodB_yes {W : WorldD} {f s l : List Int} (h : W.good f s l) : W.goodB f s l = true := by unfold WorldD.goodB; simp [h]
def c85 : PC := .seq (.ops [⟨(some 3), .move (.const (.bool false)), none, 0⟩] false) (.seq (.ops [⟨(some 4), .faddr 1 (.tmp 1), none, 0⟩,
    ⟨(some 5), .load1 (.tmp 4), none, 0⟩,
    ⟨(some 6), .move (.tmp 0), none, 0⟩,
    ⟨(some 7), .call 83 [(.tmp 5), (.tmp 6)], none, 0⟩,
    ⟨(some 3), .move (.tmp 7), none, 0⟩] false) (.ret))
set_option maxRecDepth 100000 in
theorem c85_ok : FunOK Try.prog 85 8 [.tmp 3] c85 := ⟨⟨Try.f85, Try.func85, rfl, by kernel_rfl, rfl, by kernel_rfl⟩⟩
theorem wo_Good1 (s l : List Int) (hl : l.length ≤ 17592186043904) (x : Int) : PCall Try.prog 85 [.sc (.int .i64 x), .ipt (pcells s l)] (.sc (.bool (l.contains x))) := by
  refine pcall_intro c85_ok (by simp) (by simp [PureL, Pure, pure_pcells]) ?_ (by simp [Pure])
  (apply red_sound; focus (repeat' (first | exact Red.skip | exact Red.ret | exact RedO.nil | exact RedD.nil | exact Red.exit _ | exact Red.loop _ | exact Red.stop _ | apply Red.ops | apply Red.draw | apply Red.seq | apply Red.cond | apply Red.block | apply RedO.cons | apply RedD.cons | exact (0 : Nat))))
  ((conv => whnf); repeat (refine And.intro rfl ?_; (conv => whnf)))
  (refine .inl ⟨_, (contains_int l (by omega) x), ?_⟩; ((conv => whnf); repeat (refine And.intro rfl ?_; (conv => whnf))))
  exact .refl _
def c43_1 : PC := .seq (.ops [⟨(some 68), .bin .lss (.tmp 67) (.tmp 66), none, 0⟩] false) (.seq (.cond (.tmp 68) (.skip) (.exit 0)) (.seq (.block 1 (.seq (.ops [⟨(some 69), .move (.tmp 67), none, 0⟩,
    ⟨(some 70), .iaddr 1 (.tmp 65) (.tmp 67), none, 0⟩,
    ⟨(some 71), .load1 (.tmp 70), none, 0⟩,
    ⟨(some 8), .move (.tmp 69), none, 0⟩,
    ⟨(some 9), .move (.tmp 71), none, 0⟩] false) (.seq (.ops [⟨(some 72), .faddr 1 (.tmp 3), none, 0⟩,
    ⟨(some 73), .load1 (.tmp 72), none, 0⟩,
    ⟨(some 74), .iaddr 1 (.tmp 73) (.const (.int .i64 0)), none, 0⟩,
    ⟨(some 75), .load1 (.tmp 74), none, 0⟩,
    ⟨(some 10), .move (.tmp 75), none, 0⟩] false) (.seq (.seq (.ops [⟨(some 76), .move (.tmp 8), none, 0⟩,
    ⟨(some 77), .bin .add (.tmp 76) (.const (.int .i64 1)), none, 0⟩,
    ⟨(some 78), .move (.tmp 7), none, 0⟩,
    ⟨(some 79), .len (.tmp 78), none, 0⟩,
    ⟨(some 80), .bin .lss (.tmp 77) (.tmp 79), none, 0⟩] false) (.cond (.tmp 80) (.ops [⟨(some 81), .move (.tmp 7), none, 0⟩,
    ⟨(some 82), .move (.tmp 8), none, 0⟩,
    ⟨(some 83), .bin .add (.tmp 82) (.const (.int .i64 1)), none, 0⟩,
    ⟨(some 84), .iaddr 1 (.tmp 81) (.tmp 83), none, 0⟩,
    ⟨(some 85), .load1 (.tmp 84), none, 0⟩,
    ⟨(some 10), .move (.tmp 85), none, 0⟩] false) (.skip))) (.seq (.ops [⟨(some 86), .faddr 1 (.tmp 2), none, 0⟩,
    ⟨(some 87), .load1 (.tmp 86), none, 0⟩,
    ⟨(some 88), .move (.tmp 9), none, 0⟩,
    ⟨(some 89), .iaddr 1 (.tmp 87) (.tmp 88), none, 0⟩,
    ⟨(some 90), .load1 (.tmp 89), none, 0⟩,
    ⟨(some 91), .move (.tmp 10), none, 0⟩,
    ⟨(some 92), .call 83 [(.tmp 90), (.tmp 91)], none, 0⟩,
    ⟨(some 93), .un .not (.tmp 92), none, 0⟩] false) (.cond (.tmp 93) (.seq (.ops [⟨(some 4), .move (.const (.bool false)), none, 0⟩,
    ⟨(some 5), .move (.const (.int .i64 0)), none, 0⟩] false) (.ret)) (.skip))))))) (.ops [⟨(some 94), .bin .add (.tmp 67) (.const (.int .i64 1)), none, 0⟩,
    ⟨(some 67), .move (.tmp 94), none, 0⟩] false)))
def c43_2 : PC := .seq (.ops [⟨(some 99), .bin .lss (.tmp 98) (.tmp 97), none, 0⟩] false) (.seq (.cond (.tmp 99) (.skip) (.exit 2)) (.seq (.block 3 (.seq (.ops [⟨(some 100), .iaddr 1 (.tmp 96) (.tmp 98), none, 0⟩,
    ⟨(some 101), .load1 (.tmp 100), none, 0⟩,
    ⟨(some 12), .move (.tmp 101), none, 0⟩] false) (.seq (.ops [⟨(some 102), .move (.tmp 12), none, 0⟩,
    ⟨(some 103), .mkfn (.func 85) [] [(.tmp 3)], none, 0⟩,
    ⟨(some 104), .call 84 [(.tmp 102), (.tmp 103)], none, 0⟩,
    ⟨(some 105), .un .not (.tmp 104), none, 0⟩] false) (.cond (.tmp 105) (.seq (.ops [⟨(some 4), .move (.const (.bool false)), none, 0⟩,
    ⟨(some 5), .move (.const (.int .i64 0)), none, 0⟩] false) (.ret)) (.skip))))) (.ops [⟨(some 106), .bin .add (.tmp 98) (.const (.int .i64 1)), none, 0⟩,
    ⟨(some 98), .move (.tmp 106), none, 0⟩] false)))
def c43 : PC := .seq (.ops [⟨(some 2), .box (.tmp 0), none, 0⟩,
    ⟨(some 3), .box (.tmp 1), none, 0⟩,
    ⟨(some 4), .move (.const (.bool false)), none, 0⟩,
    ⟨(some 5), .move (.const (.int .i64 0)), none, 0⟩] false) (.seq (.seq (.ops [⟨(some 13), .loadA 4 (.tmp 2), none, 0⟩,
    ⟨(some 14), .call 80 [(.tmp 13)], none, 0⟩,
    ⟨(some 6), .move (.tmp 14), none, 0⟩] false) (.seq (.ops [⟨(some 15), .move (.tmp 6), none, 0⟩,
    ⟨(some 16), .bin .neq (.tmp 15) (.const (.int .i64 0)), none, 0⟩] false) (.cond (.tmp 16) (.seq (.ops [⟨(some 17), .move (.tmp 6), none, 0⟩,
    ⟨(some 4), .move (.const (.bool false)), none, 0⟩,
    ⟨(some 5), .move (.tmp 17), none, 0⟩] false) (.ret)) (.skip)))) (.seq (.seq (.ops [⟨(some 18), .faddr 0 (.tmp 3), none, 0⟩,
    ⟨(some 19), .load1 (.tmp 18), none, 0⟩,
    ⟨(some 20), .len (.tmp 19), none, 0⟩,
    ⟨(some 21), .bin .gtr (.tmp 20) (.const (.int .i64 60000)), none, 0⟩,
    ⟨(some 22), .move (.tmp 21), none, 0⟩,
    ⟨(some 23), .faddr 1 (.tmp 3), (some (22, false)), 0⟩,
    ⟨(some 24), .load1 (.tmp 23), (some (22, false)), 0⟩,
    ⟨(some 25), .len (.tmp 24), (some (22, false)), 0⟩,
    ⟨(some 26), .faddr 0 (.tmp 3), (some (22, false)), 0⟩,
    ⟨(some 27), .load1 (.tmp 26), (some (22, false)), 0⟩,
    ⟨(some 28), .len (.tmp 27), (some (22, false)), 0⟩,
    ⟨(some 29), .bin .sub (.const (.int .i64 60000)) (.tmp 28), (some (22, false)), 0⟩,
    ⟨(some 30), .bin .gtr (.tmp 25) (.tmp 29), (some (22, false)), 0⟩,
    ⟨(some 31), .pick (.tmp 22) (.const (.bool true)) (.tmp 30), none, 0⟩] false) (.cond (.tmp 31) (.seq (.ops [⟨(some 4), .move (.const (.bool false)), none, 0⟩,
    ⟨(some 5), .move (.const (.int .i64 2)), none, 0⟩] false) (.ret)) (.skip))) (.seq (.seq (.ops [⟨(some 32), .faddr 1 (.tmp 3), none, 0⟩,
    ⟨(some 33), .load1 (.tmp 32), none, 0⟩,
    ⟨(some 34), .len (.tmp 33), none, 0⟩,
    ⟨(some 35), .bin .eql (.tmp 34) (.const (.int .i64 0)), none, 0⟩,
    ⟨(some 36), .move (.tmp 35), none, 0⟩,
    ⟨(some 37), .faddr 0 (.tmp 3), (some (36, false)), 0⟩,
    ⟨(some 38), .load1 (.tmp 37), (some (36, false)), 0⟩,
    ⟨(some 39), .faddr 1 (.tmp 2), (some (36, false)), 0⟩,
    ⟨(some 40), .load1 (.tmp 39), (some (36, false)), 0⟩,
    ⟨(some 41), .len (.tmp 40), (some (36, false)), 0⟩,
    ⟨(some 42), .call 81 [(.tmp 38), (.tmp 41)], (some (36, false)), 0⟩,
    ⟨(some 43), .pick (.tmp 36) (.const (.bool true)) (.tmp 42), none, 0⟩,
    ⟨(some 44), .move (.tmp 43), none, 0⟩,
    ⟨(some 45), .faddr 1 (.tmp 3), (some (44, false)), 0⟩,
    ⟨(some 46), .load1 (.tmp 45), (some (44, false)), 0⟩,
    ⟨(some 47), .faddr 1 (.tmp 2), (some (44, false)), 0⟩,
    ⟨(some 48), .load1 (.tmp 47), (some (44, false)), 0⟩,
    ⟨(some 49), .len (.tmp 48), (some (44, false)), 0⟩,
    ⟨(some 50), .call 81 [(.tmp 46), (.tmp 49)], (some (44, false)), 0⟩,
    ⟨(some 51), .pick (.tmp 44) (.const (.bool true)) (.tmp 50), none, 0⟩] false) (.cond (.tmp 51) (.seq (.ops [⟨(some 4), .move (.const (.bool false)), none, 0⟩,
    ⟨(some 5), .move (.const (.int .i64 0)), none, 0⟩] false) (.ret)) (.skip))) (.seq (.ops [⟨(some 52), .faddr 0 (.tmp 3), none, 0⟩,
    ⟨(some 53), .load1 (.tmp 52), none, 1⟩,
    ⟨(some 54), .call 82 [(.tmp 53)], none, 3⟩,
    ⟨(some 55), .faddr 1 (.tmp 3), none, 0⟩,
    ⟨(some 56), .load1 (.tmp 55), none, 8⟩,
    ⟨(some 57), .append 1 8 (.tmp 54) (.tmp 56), none, 31⟩,
    ⟨(some 7), .move (.tmp 57), none, 63⟩] true) (.seq (.seq (.ops [⟨(some 58), .faddr 0 (.tmp 2), none, 0⟩,
    ⟨(some 59), .load1 (.tmp 58), none, 1⟩,
    ⟨(some 60), .move (.tmp 7), none, 0⟩,
    ⟨(some 61), .iaddr 1 (.tmp 60) (.const (.int .i64 0)), none, 4⟩,
    ⟨(some 62), .load1 (.tmp 61), none, 12⟩,
    ⟨(some 63), .call 83 [(.tmp 59), (.tmp 62)], none, 31⟩,
    ⟨(some 64), .un .not (.tmp 63), none, 63⟩] true) (.cond (.tmp 64) (.seq (.ops [⟨(some 4), .move (.const (.bool false)), none, 0⟩,
    ⟨(some 5), .move (.const (.int .i64 0)), none, 0⟩] false) (.ret)) (.skip))) (.seq (.seq (.ops [⟨(some 65), .move (.tmp 7), none, 0⟩,
    ⟨(some 66), .len (.tmp 65), none, 0⟩,
    ⟨(some 67), .move (.const (.int .i64 0)), none, 0⟩] false) (.block 0 (.loop c43_1))) (.seq (.seq (.ops [⟨(some 95), .faddr 3 (.tmp 2), none, 0⟩,
    ⟨(some 96), .load1 (.tmp 95), none, 0⟩,
    ⟨(some 97), .len (.tmp 96), none, 0⟩,
    ⟨(some 98), .move (.const (.int .i64 0)), none, 0⟩] false) (.block 2 (.loop c43_2))) (.seq (.ops [⟨(some 4), .move (.const (.bool true)), none, 0⟩,
    ⟨(some 5), .move (.const (.int .i64 0)), none, 0⟩] false) (.ret)))))))))
set_option maxRecDepth 100000 in
theorem c43_ok : FunOK Try.prog 43 107 [.tmp 4, .tmp 5] c43 := ⟨⟨Try.f43, Try.func43, rfl, by kernel_rfl, rfl, by kernel_rfl⟩⟩
noncomputable def WorldD.goodE (W : WorldD) (s l : List Int) : Int := if W.chk ≠ 0 then W.chk else if 60000 < s.length ∨ 60000 < s.length + l.length then 2 else 0
theorem wo_Good (W : WorldD) (hW : W.Fits) (s l : List Int) (hs : s.length ≤ 17592186043904) (hl : l.length ≤ 17592186043904) (b : Bool) (hb : b = if W.goodE s l = 0 then W.goodB W.start s l else false) :
    PCall Try.prog 43 [dworld W, dpath s l] (.tup [.sc (.bool b), .sc (.int .i64 (W.goodE s l))]) := by
  have bad : ∀ {H : List AObj} {e : Int}, e ≠ 0 → W.goodE s l = e → Deep H (.tup [.sc (.bool false), .sc (.int .i64 e)]) (.tup [.sc (.bool b), .sc (.int .i64 (W.goodE s l))]) := fun h0 h => by
    rw [hb, if_neg (by rw [h]; exact h0), h]
    exact .refl _
  refine pcall_intro c43_ok (by simp) (by simp [PureL, pure_dworld, pure_dpath]) ?_ (by simp [Pure, PureL])
  (apply red_sound; focus (repeat' (first | exact Red.skip | exact Red.ret | exact RedO.nil | exact RedD.nil | exact Red.exit _ | exact Red.loop _ | exact Red.stop _ | apply Red.ops | apply Red.draw | apply Red.seq | apply Red.cond | apply Red.block | apply RedO.cons | apply RedD.cons | exact (0 : Nat))))
  ((conv => whnf); repeat (refine And.intro rfl ?_; (conv => whnf)))
  (refine .inl ⟨_, (wo_Check W hW), ?_⟩; ((conv => whnf); repeat (refine And.intro rfl ?_; (conv => whnf))))
  (refine ifK_split (fun h1 => ?_) (fun h1 => ?_) <;> (rw [h1]; ((conv => whnf); repeat (refine And.intro rfl ?_; (conv => whnf)))))
  · have h1 : W.chk ≠ 0 := by ((try simp only [bne_iff_ne, ne_eq, bne_eq_false_iff_eq, beq_iff_eq, beq_eq_false_iff_ne, decide_eq_true_eq, decide_eq_false_iff_not, List.length_map, Bool.not_eq_true, Bool.not_eq_false, Bool.and_eq_true, Bool.or_eq_true, Bool.and_eq_false_iff, Bool.or_eq_false_iff, Bool.not_eq_true', Bool.not_eq_false', Bool.not_true, Bool.not_false, Bool.not_eq_eq_eq_not, not_true_eq_false, not_false_eq_true, reduceCtorEq, Bool.true_or, Bool.false_or, Bool.or_true, Bool.or_false, Bool.true_and, Bool.and_true, Bool.false_and, Bool.and_false, true_and, and_true, or_false, false_or, true_or, or_true, false_and, and_false, Bool.true_eq_false, Bool.false_eq_true] at *) <;> omega)
    exact bad h1 (by unfold WorldD.goodE; rw [if_pos h1])
  have h1 : W.chk = 0 := by ((try simp only [bne_iff_ne, ne_eq, bne_eq_false_iff_eq, beq_iff_eq, beq_eq_false_iff_ne, decide_eq_true_eq, decide_eq_false_iff_not, List.length_map, Bool.not_eq_true, Bool.not_eq_false, Bool.and_eq_true, Bool.or_eq_true, Bool.and_eq_false_iff, Bool.or_eq_false_iff, Bool.not_eq_true', Bool.not_eq_false', Bool.not_true, Bool.not_false, Bool.not_eq_eq_eq_not, not_true_eq_false, not_false_eq_true, reduceCtorEq, Bool.true_or, Bool.false_or, Bool.or_true, Bool.or_false, Bool.true_and, Bool.and_true, Bool.false_and, Bool.and_false, true_and, and_true, or_false, false_or, true_or, or_true, false_and, and_false, Bool.true_eq_false, Bool.false_eq_true] at *) <;> omega)
  have hlab := chk_label W h1
  have bn := hW.next
  rw [List.length_map]
  (refine ifK_split (fun h2 => ?_) (fun h2 => ?_) <;> (rw [h2]; ((conv => whnf); repeat (refine And.intro rfl ?_; (conv => whnf)))))
  · exact bad (by decide) (by unfold WorldD.goodE; rw [if_neg (by omega), if_pos (by ((try simp only [bne_iff_ne, ne_eq, bne_eq_false_iff_eq, beq_iff_eq, beq_eq_false_iff_ne, decide_eq_true_eq, decide_eq_false_iff_not, List.length_map, Bool.not_eq_true, Bool.not_eq_false, Bool.and_eq_true, Bool.or_eq_true, Bool.and_eq_false_iff, Bool.or_eq_false_iff, Bool.not_eq_true', Bool.not_eq_false', Bool.not_true, Bool.not_false, Bool.not_eq_eq_eq_not, not_true_eq_false, not_false_eq_true, reduceCtorEq, Bool.true_or, Bool.false_or, Bool.or_true, Bool.or_false, Bool.true_and, Bool.and_true, Bool.false_and, Bool.and_false, true_and, and_true, or_false, false_or, true_or, or_true, false_and, and_false, Bool.true_eq_false, Bool.false_eq_true] at *) <;> omega))])
  rw [List.length_map]
  (refine .inl ⟨by (unfold InR; rw [IntKind.wrap_i64]; omega), ?_⟩; ((conv => whnf); repeat (refine And.intro rfl ?_; (conv => whnf))))
  rw [List.length_map]
  (refine ifK_split (fun h3 => ?_) (fun h3 => ?_) <;> (rw [h3]; ((conv => whnf); repeat (refine And.intro rfl ?_; (conv => whnf)))))
  · exact bad (by decide) (by unfold WorldD.goodE; rw [if_neg (by omega), if_pos (by ((try simp only [bne_iff_ne, ne_eq, bne_eq_false_iff_eq, beq_iff_eq, beq_eq_false_iff_ne, decide_eq_true_eq, decide_eq_false_iff_not, List.length_map, Bool.not_eq_true, Bool.not_eq_false, Bool.and_eq_true, Bool.or_eq_true, Bool.and_eq_false_iff, Bool.or_eq_false_iff, Bool.not_eq_true', Bool.not_eq_false', Bool.not_true, Bool.not_false, Bool.not_eq_eq_eq_not, not_true_eq_false, not_false_eq_true, reduceCtorEq, Bool.true_or, Bool.false_or, Bool.or_true, Bool.or_false, Bool.true_and, Bool.and_true, Bool.false_and, Bool.and_false, true_and, and_true, or_false, false_or, true_or, or_true, false_and, and_false, Bool.true_eq_false, Bool.false_eq_true] at *) <;> omega))])
  have h4 : ¬ (60000 < s.length ∨ 60000 < s.length + l.length) := by ((try simp only [bne_iff_ne, ne_eq, bne_eq_false_iff_eq, beq_iff_eq, beq_eq_false_iff_ne, decide_eq_true_eq, decide_eq_false_iff_not, List.length_map, Bool.not_eq_true, Bool.not_eq_false, Bool.and_eq_true, Bool.or_eq_true, Bool.and_eq_false_iff, Bool.or_eq_false_iff, Bool.not_eq_true', Bool.not_eq_false', Bool.not_true, Bool.not_false, Bool.not_eq_eq_eq_not, not_true_eq_false, not_false_eq_true, reduceCtorEq, Bool.true_or, Bool.false_or, Bool.or_true, Bool.or_false, Bool.true_and, Bool.and_true, Bool.false_and, Bool.and_false, true_and, and_true, or_false, false_or, true_or, or_true, false_and, and_false, Bool.true_eq_false, Bool.false_eq_true] at *) <;> omega)
  have hE : W.goodE s l = 0 := by unfold WorldD.goodE; rw [if_neg (by omega), if_neg h4]
  have no : ∀ {H : List AObj}, ¬ W.good W.start s l → Deep H (.tup [.sc (.bool false), .sc (.int .i64 0)]) (.tup [.sc (.bool b), .sc (.int .i64 (W.goodE s l))]) := fun h => by
    rw [hb, hE, if_pos rfl, goodB_no h]
    exact .refl _
  clear h2 h3 bad
  (refine ifK_split (fun h2 => ?_) (fun h2 => ?_) <;> (rw [h2]; ((conv => whnf); repeat (refine And.intro rfl ?_; (conv => whnf)))))
  · have h2 : l.length = 0 := by ((try simp only [bne_iff_ne, ne_eq, bne_eq_false_iff_eq, beq_iff_eq, beq_eq_false_iff_ne, decide_eq_true_eq, decide_eq_false_iff_not, List.length_map, Bool.not_eq_true, Bool.not_eq_false, Bool.and_eq_true, Bool.or_eq_true, Bool.and_eq_false_iff, Bool.or_eq_false_iff, Bool.not_eq_true', Bool.not_eq_false', Bool.not_true, Bool.not_false, Bool.not_eq_eq_eq_not, not_true_eq_false, not_false_eq_true, reduceCtorEq, Bool.true_or, Bool.false_or, Bool.or_true, Bool.or_false, Bool.true_and, Bool.and_true, Bool.false_and, Bool.and_false, true_and, and_true, or_false, false_or, true_or, or_true, false_and, and_false, Bool.true_eq_false, Bool.false_eq_true] at *) <;> omega)
    exact no fun ⟨q, _⟩ => absurd h2 ((onB_iff _ _ _).1 q).1
  have h2 : l.length ≠ 0 := by ((try simp only [bne_iff_ne, ne_eq, bne_eq_false_iff_eq, beq_iff_eq, beq_eq_false_iff_ne, decide_eq_true_eq, decide_eq_false_iff_not, List.length_map, Bool.not_eq_true, Bool.not_eq_false, Bool.and_eq_true, Bool.or_eq_true, Bool.and_eq_false_iff, Bool.or_eq_false_iff, Bool.not_eq_true', Bool.not_eq_false', Bool.not_true, Bool.not_false, Bool.not_eq_eq_eq_not, not_true_eq_false, not_false_eq_true, reduceCtorEq, Bool.true_or, Bool.false_or, Bool.or_true, Bool.or_false, Bool.true_and, Bool.and_true, Bool.false_and, Bool.and_false, true_and, and_true, or_false, false_or, true_or, or_true, false_and, and_false, Bool.true_eq_false, Bool.false_eq_true] at *) <;> omega)
  rw [List.length_map]
  (refine .inl ⟨_, (wo_odd s (by omega) W.next.length), ?_⟩; ((conv => whnf); repeat (refine And.intro rfl ?_; (conv => whnf))))
  (refine ifK_split (fun h3 => ?_) (fun h3 => ?_) <;> (rw [h3]; ((conv => whnf); repeat (refine And.intro rfl ?_; (conv => whnf)))))
  · refine no fun ⟨q, _⟩ => ?_
    rw [((onB_iff _ _ _).1 q).2.1] at h3; cases h3
  have h3 : inB s W.next.length = true := by simpa using h3
  rw [List.length_map]
  (refine .inl ⟨_, (wo_odd l (by omega) W.next.length), ?_⟩; ((conv => whnf); repeat (refine And.intro rfl ?_; (conv => whnf))))
  (refine ifK_split (fun h5 => ?_) (fun h5 => ?_) <;> (rw [h5]; ((conv => whnf); repeat (refine And.intro rfl ?_; (conv => whnf)))))
  · refine no fun ⟨q, _⟩ => ?_
    rw [((onB_iff _ _ _).1 q).2.2] at h5; cases h5
  have h5 : inB l W.next.length = true := by simpa using h5
  have hon : W.onB s l = true := (onB_iff _ _ _).2 ⟨h2, h3, h5⟩
  (refine .inr (.inr (.inr (.inr ⟨_, _, _, (acallAt_new (cloneO_int s (by omega)) (by simp [PureL, Pure]) [2] rfl rfl (by simp [AObj.ren, renL, D.ren]; rfl)), ?_⟩))); ((conv => whnf); repeat (refine And.intro rfl ?_; (conv => whnf))))
  refine ⟨(by unfold sliceAppend; simp only [List.length_map, List.length_cons, List.length_nil, List.length_append, List.length_take, List.length_drop, List.drop_zero, List.take_succ_cons, List.take_zero]; omega), ?_⟩
  rw [app_map, List.length_map]
  ((conv => whnf); repeat (refine And.intro rfl ?_; (conv => whnf)))
  have hn : (s ++ l).length = s.length + l.length := List.length_append
  (refine ⟨by omega, (by first | omega | (simp only [List.length_map, List.length_append, List.length_cons, List.length_nil]; omega)), ?_⟩; ((conv => whnf); repeat (refine And.intro rfl ?_; (conv => whnf))))
  refine ⟨_, ints_at (l := s ++ l) (k := 0) (by omega) (by omega), ?_⟩
  ((conv => whnf); repeat (refine And.intro rfl ?_; (conv => whnf)))
  (refine .inl ⟨_, (contains_int W.start (by have := hW.start; omega) _), ?_⟩; ((conv => whnf); repeat (refine And.intro rfl ?_; (conv => whnf))))
  rw [roundA_at]
  (refine ifK_split (fun g1 => ?_) (fun g1 => ?_) <;> (rw [g1]; ((conv => whnf); repeat (refine And.intro rfl ?_; (conv => whnf)))))
  · exact no fun ⟨_, q, _⟩ => by rw [q] at g1; cases g1
  have g1 : W.start.contains ((roundA s l).getD 0 0) = true := by simpa using g1
  refine pwp_for [2, 3, 7, 65, 66] (fun k : Nat => [(67, .sc (.int .i64 k))]) (fun _ => []) (fun k => k ≤ s.length + l.length ∧ ∀ i, i < k → W.goes ((roundA s l).getD i 0) ((roundA s l).getD (i + 1) 0) = true) (fun k => s.length + l.length - k) 0 ?_
  ((conv => whnf); repeat (refine And.intro rfl ?_; (conv => whnf)))
  refine ⟨⟨by omega, fun i hi => by omega⟩, by (repeat' (first | exact trivial | refine And.intro rfl ?_)), rfl, ?_⟩
  rintro k ⟨hk, hall⟩
  ((conv => whnf); repeat (refine And.intro rfl ?_; (conv => whnf)))
  (apply red_sound; focus (repeat' (first | exact Red.skip | exact Red.ret | exact RedO.nil | exact RedD.nil | exact Red.exit _ | exact Red.loop _ | exact Red.stop _ | apply Red.ops | apply Red.draw | apply Red.seq | apply Red.cond | apply Red.block | apply RedO.cons | apply RedD.cons | exact (0 : Nat))))
  ((conv => whnf); repeat (refine And.intro rfl ?_; (conv => whnf)))
  (refine ifK_split (fun h => ?_) (fun h => ?_) <;> (rw [h]; ((conv => whnf); repeat (refine And.intro rfl ?_; (conv => whnf)))))
  · have hk' : k < s.length + l.length := by ((try simp only [bne_iff_ne, ne_eq, bne_eq_false_iff_eq, beq_iff_eq, beq_eq_false_iff_ne, decide_eq_true_eq, decide_eq_false_iff_not, List.length_map, Bool.not_eq_true, Bool.not_eq_false, Bool.and_eq_true, Bool.or_eq_true, Bool.and_eq_false_iff, Bool.or_eq_false_iff, Bool.not_eq_true', Bool.not_eq_false', Bool.not_true, Bool.not_false, Bool.not_eq_eq_eq_not, not_true_eq_false, not_false_eq_true, reduceCtorEq, Bool.true_or, Bool.false_or, Bool.or_true, Bool.or_false, Bool.true_and, Bool.and_true, Bool.false_and, Bool.and_false, true_and, and_true, or_false, false_or, true_or, or_true, false_and, and_false, Bool.true_eq_false, Bool.false_eq_true] at *) <;> omega)
    have bk := in_all h3 h5 (k := k) (by omega)
    (refine ⟨by omega, (by first | omega | (simp only [List.length_map, List.length_append, List.length_cons, List.length_nil]; omega)), ?_⟩; ((conv => whnf); repeat (refine And.intro rfl ?_; (conv => whnf))))
    refine ⟨_, ints_at (l := s ++ l) (k := k) (by omega) (by omega), ?_⟩
    ((conv => whnf); repeat (refine And.intro rfl ?_; (conv => whnf)))
    refine ⟨by omega, _, ints_at (l := l) (k := 0) (by omega) (by omega), ?_⟩
    ((conv => whnf); repeat (refine And.intro rfl ?_; (conv => whnf)))
    (refine .inl ⟨by (unfold InR; rw [IntKind.wrap_i64]; omega), ?_⟩; ((conv => whnf); repeat (refine And.intro rfl ?_; (conv => whnf))))
    have el : l[0] = l.getD 0 0 := by rw [List.getD_eq_getElem?_getD, List.getElem?_eq_getElem (by omega)]; rfl
    have key : W.goes ((roundA s l).getD k 0) ((roundA s l).getD (k + 1) 0) = false → ¬ W.good W.start s l := fun h => fun ⟨_, _, q, _⟩ => by rw [q k hk'] at h; cases h
    have bk2 : ((s ++ l)[k]).toNat < W.next.length := bk.2
    have lk : (W.next[((s ++ l)[k]).toNat]).length ≤ 17592186043904 := hW.nextEach _ (List.getElem_mem bk2)
    have next : W.goes ((roundA s l).getD k 0) ((roundA s l).getD (k + 1) 0) = true → ∀ i, i < k + 1 → W.goes ((roundA s l).getD i 0) ((roundA s l).getD (i + 1) 0) = true := fun h i hi => by
      by_cases e : i = k
      · subst e; exact h
      · exact hall i (by omega)
    (refine ifK_split (fun g => ?_) (fun g => ?_) <;> (rw [g]; ((conv => whnf); repeat (refine And.intro rfl ?_; (conv => whnf)))))
    · have g' : k + 1 < s.length + l.length := by ((try simp only [bne_iff_ne, ne_eq, bne_eq_false_iff_eq, beq_iff_eq, beq_eq_false_iff_ne, decide_eq_true_eq, decide_eq_false_iff_not, List.length_map, Bool.not_eq_true, Bool.not_eq_false, Bool.and_eq_true, Bool.or_eq_true, Bool.and_eq_false_iff, Bool.or_eq_false_iff, Bool.not_eq_true', Bool.not_eq_false', Bool.not_true, Bool.not_false, Bool.not_eq_eq_eq_not, not_true_eq_false, not_false_eq_true, reduceCtorEq, Bool.true_or, Bool.false_or, Bool.or_true, Bool.or_false, Bool.true_and, Bool.and_true, Bool.false_and, Bool.and_false, true_and, and_true, or_false, false_or, true_or, or_true, false_and, and_false, Bool.true_eq_false, Bool.false_eq_true] at *) <;> omega)
      (refine .inl ⟨by (unfold InR; rw [IntKind.wrap_i64]; omega), ?_⟩; ((conv => whnf); repeat (refine And.intro rfl ?_; (conv => whnf))))
      (refine ⟨by omega, (by first | omega | (simp only [List.length_map, List.length_append, List.length_cons, List.length_nil]; omega)), ?_⟩; ((conv => whnf); repeat (refine And.intro rfl ?_; (conv => whnf))))
      refine ⟨_, ints_at (l := s ++ l) (k := k + 1) (by omega) (by omega), ?_⟩
      ((conv => whnf); repeat (refine And.intro rfl ?_; (conv => whnf)))
      refine ⟨bk.1, _, grid_at (k := ((s ++ l)[k]).toNat) rfl bk.2, ?_⟩
      ((conv => whnf); repeat (refine And.intro rfl ?_; (conv => whnf)))
      (refine .inl ⟨_, (contains_int (W.next[((s ++ l)[k]).toNat]) (by omega) _), ?_⟩; ((conv => whnf); repeat (refine And.intro rfl ?_; (conv => whnf))))
      have eG : W.goes (s ++ l)[k] ((s ++ l)[k + 1]'(by omega)) = W.goes ((roundA s l).getD k 0) ((roundA s l).getD (k + 1) 0) := by rw [roundA_at, roundA_at]
      rw [goes_at bk2, eG]
      (refine ifK_split (fun g2 => ?_) (fun g2 => ?_) <;> (rw [g2]; ((conv => whnf); repeat (refine And.intro rfl ?_; (conv => whnf)))))
      · exact no (key (by simpa using g2))
      · (refine .inl ⟨by (unfold InR; rw [IntKind.wrap_i64]; omega), ?_⟩; ((conv => whnf); repeat (refine And.intro rfl ?_; (conv => whnf))))
        exact ⟨k + 1, ⟨by omega, next (by simpa using g2)⟩, by dsimp only; omega, leB_envH (by (repeat' (first | exact trivial | refine And.intro rfl ?_))) rfl⟩
    · have g' : k + 1 = s.length + l.length := by ((try simp only [bne_iff_ne, ne_eq, bne_eq_false_iff_eq, beq_iff_eq, beq_eq_false_iff_ne, decide_eq_true_eq, decide_eq_false_iff_not, List.length_map, Bool.not_eq_true, Bool.not_eq_false, Bool.and_eq_true, Bool.or_eq_true, Bool.and_eq_false_iff, Bool.or_eq_false_iff, Bool.not_eq_true', Bool.not_eq_false', Bool.not_true, Bool.not_false, Bool.not_eq_eq_eq_not, not_true_eq_false, not_false_eq_true, reduceCtorEq, Bool.true_or, Bool.false_or, Bool.or_true, Bool.or_false, Bool.true_and, Bool.and_true, Bool.false_and, Bool.and_false, true_and, and_true, or_false, false_or, true_or, or_true, false_and, and_false, Bool.true_eq_false, Bool.false_eq_true] at *) <;> omega)
      refine ⟨bk.1, _, grid_at (k := ((s ++ l)[k]).toNat) rfl bk.2, ?_⟩
      ((conv => whnf); repeat (refine And.intro rfl ?_; (conv => whnf)))
      (refine .inl ⟨_, (contains_int (W.next[((s ++ l)[k]).toNat]) (by omega) _), ?_⟩; ((conv => whnf); repeat (refine And.intro rfl ?_; (conv => whnf))))
      have eG : W.goes (s ++ l)[k] (l[0]'(by omega)) = W.goes ((roundA s l).getD k 0) ((roundA s l).getD (k + 1) 0) := by rw [roundA_at, el, roundA_last (s := s) (k := k + 1) (by omega)]
      rw [goes_at bk2, eG]
      (refine ifK_split (fun g2 => ?_) (fun g2 => ?_) <;> (rw [g2]; ((conv => whnf); repeat (refine And.intro rfl ?_; (conv => whnf)))))
      · exact no (key (by simpa using g2))
      · (refine .inl ⟨by (unfold InR; rw [IntKind.wrap_i64]; omega), ?_⟩; ((conv => whnf); repeat (refine And.intro rfl ?_; (conv => whnf))))
        exact ⟨k + 1, ⟨by omega, next (by simpa using g2)⟩, by dsimp only; omega, leB_envH (by (repeat' (first | exact trivial | refine And.intro rfl ?_))) rfl⟩
  have hkn : k = s.length + l.length := by have : ¬ k < s.length + l.length := by ((try simp only [bne_iff_ne, ne_eq, bne_eq_false_iff_eq, beq_iff_eq, beq_eq_false_iff_ne, decide_eq_true_eq, decide_eq_false_iff_not, List.length_map, Bool.not_eq_true, Bool.not_eq_false, Bool.and_eq_true, Bool.or_eq_true, Bool.and_eq_false_iff, Bool.or_eq_false_iff, Bool.not_eq_true', Bool.not_eq_false', Bool.not_true, Bool.not_false, Bool.not_eq_eq_eq_not, not_true_eq_false, not_false_eq_true, reduceCtorEq, Bool.true_or, Bool.false_or, Bool.or_true, Bool.or_false, Bool.true_and, Bool.and_true, Bool.false_and, Bool.and_false, true_and, and_true, or_false, false_or, true_or, or_true, false_and, and_false, Bool.true_eq_false, Bool.false_eq_true] at *) <;> omega)
                                           omega
  subst hkn
  clear h hk
  have bf := hW.fair
  rw [List.length_map]
  refine pwp_for [3, 96, 97] (fun k : Nat => [(98, .sc (.int .i64 k))]) (fun _ => []) (fun k => k ≤ W.fair.length ∧ ∀ i (hi : i < k) (h2 : i < W.fair.length), (W.fair[i].any fun x => l.contains x) = true) (fun k => W.fair.length - k) 0 ?_
  ((conv => whnf); repeat (refine And.intro rfl ?_; (conv => whnf)))
  refine ⟨⟨by omega, fun i hi => by omega⟩, by (repeat' (first | exact trivial | refine And.intro rfl ?_)), rfl, ?_⟩
  rintro k ⟨hk, hmet⟩
  ((conv => whnf); repeat (refine And.intro rfl ?_; (conv => whnf)))
  (apply red_sound; focus (repeat' (first | exact Red.skip | exact Red.ret | exact RedO.nil | exact RedD.nil | exact Red.exit _ | exact Red.loop _ | exact Red.stop _ | apply Red.ops | apply Red.draw | apply Red.seq | apply Red.cond | apply Red.block | apply RedO.cons | apply RedD.cons | exact (0 : Nat))))
  ((conv => whnf); repeat (refine And.intro rfl ?_; (conv => whnf)))
  (refine ifK_split (fun h => ?_) (fun h => ?_) <;> (rw [h]; ((conv => whnf); repeat (refine And.intro rfl ?_; (conv => whnf)))))
  · have hk' : k < W.fair.length := by ((try simp only [bne_iff_ne, ne_eq, bne_eq_false_iff_eq, beq_iff_eq, beq_eq_false_iff_ne, decide_eq_true_eq, decide_eq_false_iff_not, List.length_map, Bool.not_eq_true, Bool.not_eq_false, Bool.and_eq_true, Bool.or_eq_true, Bool.and_eq_false_iff, Bool.or_eq_false_iff, Bool.not_eq_true', Bool.not_eq_false', Bool.not_true, Bool.not_false, Bool.not_eq_eq_eq_not, not_true_eq_false, not_false_eq_true, reduceCtorEq, Bool.true_or, Bool.false_or, Bool.or_true, Bool.or_false, Bool.true_and, Bool.and_true, Bool.false_and, Bool.and_false, true_and, and_true, or_false, false_or, true_or, or_true, false_and, and_false, Bool.true_eq_false, Bool.false_eq_true] at *) <;> omega)
    refine ⟨by omega, _, grid_at (k := k) (by omega) hk', ?_⟩
    ((conv => whnf); repeat (refine And.intro rfl ?_; (conv => whnf)))
    have lk := hW.fairEach _ (List.getElem_mem hk')
    (refine .inr (.inl ⟨_, _, (by (repeat' (first | exact Deep.refl _ | exact Deep.none _ | exact deep_row _ | exact DeepL.nil | exact DeepLL.nil | refine Deep.agg _ _ ?_ | refine Deep.tup _ _ ?_ | refine Deep.own _ _ _ _ _ _ _ _ rfl ?_ | refine Deep.loc _ _ _ _ _ rfl ?_ | refine Deep.ifc _ _ _ ?_ | refine Deep.fn _ _ _ _ _ ?_ ?_ | refine DeepL.cons _ _ _ _ ?_ ?_ | refine DeepLL.cons _ _ _ _ ?_ ?_))), (containsF_int (fun n => .sc (.int .i64 n)) (fun a => by simp [Pure]) W.fair[k] (by omega) (fun x => l.contains x) 85 [.ipt (pcells s l)] (by simp [PureL, Pure, pure_pcells]) fun a _ => wo_Good1 s l (by omega) a), rfl, ?_⟩); ((conv => whnf); repeat (refine And.intro rfl ?_; (conv => whnf))))
    (refine ifK_split (fun g => ?_) (fun g => ?_) <;> (rw [g]; ((conv => whnf); repeat (refine And.intro rfl ?_; (conv => whnf)))))
    · refine no fun ⟨_, _, _, q⟩ => ?_
      rw [q _ (List.getElem_mem hk')] at g; cases g
    · (refine .inl ⟨by (unfold InR; rw [IntKind.wrap_i64]; omega), ?_⟩; ((conv => whnf); repeat (refine And.intro rfl ?_; (conv => whnf))))
      refine ⟨k + 1, ⟨by omega, fun i hi h2 => ?_⟩, by dsimp only; omega, leB_envH (by (repeat' (first | exact trivial | refine And.intro rfl ?_))) rfl⟩
      by_cases e : i = k
      · subst e; simpa using g
      · exact hmet i (by omega) h2
  · have hk' : ¬ k < W.fair.length := by ((try simp only [bne_iff_ne, ne_eq, bne_eq_false_iff_eq, beq_iff_eq, beq_eq_false_iff_ne, decide_eq_true_eq, decide_eq_false_iff_not, List.length_map, Bool.not_eq_true, Bool.not_eq_false, Bool.and_eq_true, Bool.or_eq_true, Bool.and_eq_false_iff, Bool.or_eq_false_iff, Bool.not_eq_true', Bool.not_eq_false', Bool.not_true, Bool.not_false, Bool.not_eq_eq_eq_not, not_true_eq_false, not_false_eq_true, reduceCtorEq, Bool.true_or, Bool.false_or, Bool.or_true, Bool.or_false, Bool.true_and, Bool.and_true, Bool.false_and, Bool.and_false, true_and, and_true, or_false, false_or, true_or, or_true, false_and, and_false, Bool.true_eq_false, Bool.false_eq_true] at *) <;> omega)
    have hg : W.good W.start s l := ⟨hon, g1, hall, fun f hf => by
      obtain ⟨i, hi, rfl⟩ := List.mem_iff_getElem.1 hf
      exact hmet i (by omega) hi⟩
    rw [hb, hE, if_pos rfl, goodB_yes hg]
    exact .refl _
end Go.Proofs.Ytkkfiadefekbbaa
