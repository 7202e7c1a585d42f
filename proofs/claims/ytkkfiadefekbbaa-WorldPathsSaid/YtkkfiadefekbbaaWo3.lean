/-
  The program's word of a path, over deep values. No statement is proved here.
-/
import Derived.Test.YtkkfiadefekbbaaWo2
namespace Go.Proofs.Ytkkfiadefekbbaa
open Go.RowKit
set_option linter.unusedSimpArgs false
set_option linter.unusedVariables false
/-- Is a path of a world's states, and goes round? -/
def WorldD.onB (W : WorldD) (s l : List Int) : Bool := !(l.isEmpty) && inB s W.next.length && inB l W.next.length
theorem onB_iff (W : WorldD) (s l : List Int) : W.onB s l = true ↔ l.length ≠ 0 ∧ inB s W.next.length = true ∧ inB l W.next.length = true := by
  unfold WorldD.onB
  simp only [Bool.and_eq_true, Bool.not_eq_true', ← Bool.not_eq_true, List.isEmpty_iff_length_eq_zero]
  exact ⟨fun h => ⟨h.1.1, h.1.2, h.2⟩, fun h => ⟨⟨h.1, h.2.1⟩, h.2.2⟩⟩
theorem chk_label (W : WorldD) (h : W.chk = 0) : W.label.length = W.next.length ∧ W.next.length ≤ 600 ∧ W.fair.length ≤ 80 ∧ inB W.start W.next.length = true ∧ (∀ l ∈ W.next, l.length ≠ 0 ∧ inB l W.next.length = true) ∧ ∀ l ∈ W.fair, inB l W.next.length = true := by
  unfold WorldD.chk at h
  split at h
  · exact absurd h (by decide)
  split at h
  · exact absurd h (by decide)
  split at h
  · exact absurd h (by decide)
  split at h
  · exact absurd h (by decide)
  rename_i h1 h2 h3 h4
  refine ⟨by omega, by omega, by omega, ?_, fun l hl => ?_, fun l hl => ?_⟩
  · have := not_or.1 h2
    simpa using this.2
  · rw [Bool.not_eq_true, List.any_eq_false] at h3
    have := h3 l hl
    simp only [Bool.or_eq_true, Bool.not_eq_true', not_or, Bool.not_eq_false, List.isEmpty_iff_length_eq_zero] at this
    exact this
  · rw [Bool.not_eq_true, List.any_eq_false] at h4
    simpa using h4 l hl
/-- What is answered of a path's word. -/
def WorldD.wordE (W : WorldD) (s l : List Int) : Int := if W.chk ≠ 0 then W.chk else if W.onB s l = false then 1 else wchk (W.lts s) (W.lts l)
def c44_1 : PC := .seq (.ops [⟨(some 44), .bin .lss (.tmp 43) (.tmp 42), none, 0⟩] false) (.seq (.cond (.tmp 44) (.skip) (.exit 0)) (.seq (.block 1 (.seq (.ops [⟨(some 45), .iaddr 1 (.tmp 41) (.tmp 43), none, 0⟩,
    ⟨(some 46), .load1 (.tmp 45), none, 0⟩,
    ⟨(some 9), .move (.tmp 46), none, 0⟩] false) (.ops [⟨(some 47), .faddr 0 (.tmp 7), none, 0⟩,
    ⟨(some 48), .load1 (.tmp 47), none, 1⟩,
    ⟨(some 49), .faddr 2 (.tmp 2), none, 0⟩,
    ⟨(some 50), .load1 (.tmp 49), none, 4⟩,
    ⟨(some 51), .move (.tmp 9), none, 0⟩,
    ⟨(some 52), .iaddr 1 (.tmp 50) (.tmp 51), none, 28⟩,
    ⟨(some 53), .load1 (.tmp 52), none, 60⟩,
    ⟨(some 54), .bslice 1 1 [(.tmp 53)], none, 124⟩,
    ⟨(some 55), .append 1 8 (.tmp 48) (.tmp 54), none, 255⟩,
    ⟨(some 56), .faddr 0 (.tmp 7), none, 511⟩,
    ⟨none, .store 1 (.tmp 56) (.tmp 55), none, 1023⟩] true))) (.ops [⟨(some 57), .bin .add (.tmp 43) (.const (.int .i64 1)), none, 0⟩,
    ⟨(some 43), .move (.tmp 57), none, 0⟩] false)))
def c44_2 : PC := .seq (.ops [⟨(some 62), .bin .lss (.tmp 61) (.tmp 60), none, 0⟩] false) (.seq (.cond (.tmp 62) (.skip) (.exit 2)) (.seq (.block 3 (.seq (.ops [⟨(some 63), .iaddr 1 (.tmp 59) (.tmp 61), none, 0⟩,
    ⟨(some 64), .load1 (.tmp 63), none, 0⟩,
    ⟨(some 11), .move (.tmp 64), none, 0⟩] false) (.ops [⟨(some 65), .faddr 1 (.tmp 7), none, 0⟩,
    ⟨(some 66), .load1 (.tmp 65), none, 1⟩,
    ⟨(some 67), .faddr 2 (.tmp 2), none, 0⟩,
    ⟨(some 68), .load1 (.tmp 67), none, 4⟩,
    ⟨(some 69), .move (.tmp 11), none, 0⟩,
    ⟨(some 70), .iaddr 1 (.tmp 68) (.tmp 69), none, 28⟩,
    ⟨(some 71), .load1 (.tmp 70), none, 60⟩,
    ⟨(some 72), .bslice 1 1 [(.tmp 71)], none, 124⟩,
    ⟨(some 73), .append 1 8 (.tmp 66) (.tmp 72), none, 255⟩,
    ⟨(some 74), .faddr 1 (.tmp 7), none, 511⟩,
    ⟨none, .store 1 (.tmp 74) (.tmp 73), none, 1023⟩] true))) (.ops [⟨(some 75), .bin .add (.tmp 61) (.const (.int .i64 1)), none, 0⟩,
    ⟨(some 61), .move (.tmp 75), none, 0⟩] false)))
def c44 : PC := .seq (.ops [⟨(some 2), .box (.tmp 0), none, 0⟩,
    ⟨(some 3), .box (.tmp 1), none, 0⟩,
    ⟨(some 4), .alloc [(.slice none 0 0), (.slice none 0 0)], none, 0⟩,
    ⟨(some 5), .move (.const (.int .i64 0)), none, 0⟩] false) (.seq (.seq (.ops [⟨(some 13), .loadA 4 (.tmp 2), none, 0⟩,
    ⟨(some 14), .call 80 [(.tmp 13)], none, 0⟩,
    ⟨(some 6), .move (.tmp 14), none, 0⟩] false) (.seq (.ops [⟨(some 15), .move (.tmp 6), none, 0⟩,
    ⟨(some 16), .bin .neq (.tmp 15) (.const (.int .i64 0)), none, 0⟩] false) (.cond (.tmp 16) (.seq (.ops [⟨(some 17), .build [(.slice none 0 0), (.slice none 0 0)] [], none, 0⟩,
    ⟨(some 18), .move (.tmp 6), none, 0⟩,
    ⟨none, .store 2 (.tmp 4) (.tmp 17), none, 0⟩,
    ⟨(some 5), .move (.tmp 18), none, 0⟩] false) (.ret)) (.skip)))) (.seq (.seq (.ops [⟨(some 19), .faddr 1 (.tmp 3), none, 0⟩,
    ⟨(some 20), .load1 (.tmp 19), none, 0⟩,
    ⟨(some 21), .len (.tmp 20), none, 0⟩,
    ⟨(some 22), .bin .eql (.tmp 21) (.const (.int .i64 0)), none, 0⟩,
    ⟨(some 23), .move (.tmp 22), none, 0⟩,
    ⟨(some 24), .faddr 0 (.tmp 3), (some (23, false)), 0⟩,
    ⟨(some 25), .load1 (.tmp 24), (some (23, false)), 0⟩,
    ⟨(some 26), .faddr 1 (.tmp 2), (some (23, false)), 0⟩,
    ⟨(some 27), .load1 (.tmp 26), (some (23, false)), 0⟩,
    ⟨(some 28), .len (.tmp 27), (some (23, false)), 0⟩,
    ⟨(some 29), .call 81 [(.tmp 25), (.tmp 28)], (some (23, false)), 0⟩,
    ⟨(some 30), .pick (.tmp 23) (.const (.bool true)) (.tmp 29), none, 0⟩,
    ⟨(some 31), .move (.tmp 30), none, 0⟩,
    ⟨(some 32), .faddr 1 (.tmp 3), (some (31, false)), 0⟩,
    ⟨(some 33), .load1 (.tmp 32), (some (31, false)), 0⟩,
    ⟨(some 34), .faddr 1 (.tmp 2), (some (31, false)), 0⟩,
    ⟨(some 35), .load1 (.tmp 34), (some (31, false)), 0⟩,
    ⟨(some 36), .len (.tmp 35), (some (31, false)), 0⟩,
    ⟨(some 37), .call 81 [(.tmp 33), (.tmp 36)], (some (31, false)), 0⟩,
    ⟨(some 38), .pick (.tmp 31) (.const (.bool true)) (.tmp 37), none, 0⟩] false) (.cond (.tmp 38) (.seq (.ops [⟨(some 39), .build [(.slice none 0 0), (.slice none 0 0)] [], none, 0⟩,
    ⟨none, .store 2 (.tmp 4) (.tmp 39), none, 0⟩,
    ⟨(some 5), .move (.const (.int .i64 1)), none, 0⟩] false) (.ret)) (.skip))) (.seq (.ops [⟨(some 7), .alloc [(.slice none 0 0), (.slice none 0 0)], none, 0⟩] false) (.seq (.seq (.ops [⟨(some 40), .faddr 0 (.tmp 3), none, 0⟩,
    ⟨(some 41), .load1 (.tmp 40), none, 0⟩,
    ⟨(some 42), .len (.tmp 41), none, 0⟩,
    ⟨(some 43), .move (.const (.int .i64 0)), none, 0⟩] false) (.block 0 (.loop c44_1))) (.seq (.seq (.ops [⟨(some 58), .faddr 1 (.tmp 3), none, 0⟩,
    ⟨(some 59), .load1 (.tmp 58), none, 0⟩,
    ⟨(some 60), .len (.tmp 59), none, 0⟩,
    ⟨(some 61), .move (.const (.int .i64 0)), none, 0⟩] false) (.block 2 (.loop c44_2))) (.seq (.seq (.ops [⟨(some 76), .loadA 2 (.tmp 7), none, 0⟩,
    ⟨(some 77), .call 55 [(.tmp 76)], none, 0⟩,
    ⟨(some 12), .move (.tmp 77), none, 0⟩] false) (.seq (.ops [⟨(some 78), .move (.tmp 12), none, 0⟩,
    ⟨(some 79), .bin .neq (.tmp 78) (.const (.int .i64 0)), none, 0⟩] false) (.cond (.tmp 79) (.seq (.ops [⟨(some 80), .build [(.slice none 0 0), (.slice none 0 0)] [], none, 0⟩,
    ⟨(some 81), .move (.tmp 12), none, 0⟩,
    ⟨none, .store 2 (.tmp 4) (.tmp 80), none, 0⟩,
    ⟨(some 5), .move (.tmp 81), none, 0⟩] false) (.ret)) (.skip)))) (.seq (.ops [⟨(some 82), .loadA 2 (.tmp 7), none, 0⟩,
    ⟨none, .store 2 (.tmp 4) (.tmp 82), none, 0⟩,
    ⟨(some 5), .move (.const (.int .i64 0)), none, 0⟩] false) (.ret))))))))
set_option maxRecDepth 100000 in
theorem c44_ok : FunOK Try.prog 44 83 [.agg 4 2, .tmp 5] c44 := ⟨⟨Try.f44, Try.func44, rfl, by kernel_rfl, rfl, by kernel_rfl⟩⟩
theorem deep_word0 {H : List AObj} : Deep H (.agg [.sc (.slice none 0 0), .sc (.slice none 0 0)]) (dword [] []) := .agg _ _ (.cons _ _ _ _ (.none _) (.cons _ _ _ _ (.none _) .nil))
theorem wo_Word (W : WorldD) (hW : W.Fits) (s l : List Int) (hs : s.length ≤ 17592186043904) (hl : l.length ≤ 17592186043904) (w : D) (hw : w = if W.wordE s l = 0 then dword (W.lts s) (W.lts l) else dword [] []) :
    PCall Try.prog 44 [dworld W, dpath s l] (.tup [w, .sc (.int .i64 (W.wordE s l))]) := by
  have hwp : Pure w := by rw [hw]; split <;> exact pure_dword _ _
  have bad : ∀ {H : List AObj} {e : Int}, e ≠ 0 → W.wordE s l = e → Deep H (.tup [.agg [.sc (.slice none 0 0), .sc (.slice none 0 0)], .sc (.int .i64 e)]) (.tup [w, .sc (.int .i64 (W.wordE s l))]) := fun h0 h => by
    rw [hw, if_neg (by rw [h]; exact h0), h]
    exact .tup _ _ (.cons _ _ _ _ deep_word0 (.cons _ _ _ _ (.refl _) .nil))
  refine pcall_intro c44_ok (by simp) (by simp [PureL, pure_dworld, pure_dpath]) ?_ (by simp [Pure, PureL, hwp])
  (apply red_sound; focus (repeat' (first | exact Red.skip | exact Red.ret | exact RedO.nil | exact RedD.nil | exact Red.exit _ | exact Red.loop _ | exact Red.stop _ | apply Red.ops | apply Red.draw | apply Red.seq | apply Red.cond | apply Red.block | apply RedO.cons | apply RedD.cons | exact (0 : Nat))))
  ((conv => whnf); repeat (refine And.intro rfl ?_; (conv => whnf)))
  (refine .inl ⟨_, (wo_Check W hW), ?_⟩; ((conv => whnf); repeat (refine And.intro rfl ?_; (conv => whnf))))
  (refine ifK_split (fun h1 => ?_) (fun h1 => ?_) <;> (rw [h1]; ((conv => whnf); repeat (refine And.intro rfl ?_; (conv => whnf)))))
  · have h1 : W.chk ≠ 0 := by ((try simp only [bne_iff_ne, ne_eq, bne_eq_false_iff_eq, beq_iff_eq, beq_eq_false_iff_ne, decide_eq_true_eq, decide_eq_false_iff_not, List.length_map, Bool.not_eq_true, Bool.not_eq_false, Bool.and_eq_true, Bool.or_eq_true, Bool.and_eq_false_iff, Bool.or_eq_false_iff, Bool.not_eq_true', Bool.not_eq_false', Bool.not_true, Bool.not_false, Bool.not_eq_eq_eq_not, not_true_eq_false, not_false_eq_true, reduceCtorEq, Bool.true_or, Bool.false_or, Bool.or_true, Bool.or_false, Bool.true_and, Bool.and_true, Bool.false_and, Bool.and_false, true_and, and_true, or_false, false_or, true_or, or_true, false_and, and_false, Bool.true_eq_false, Bool.false_eq_true] at *) <;> omega)
    exact bad h1 (by unfold WorldD.wordE; rw [if_pos h1])
  have h1 : W.chk = 0 := by ((try simp only [bne_iff_ne, ne_eq, bne_eq_false_iff_eq, beq_iff_eq, beq_eq_false_iff_ne, decide_eq_true_eq, decide_eq_false_iff_not, List.length_map, Bool.not_eq_true, Bool.not_eq_false, Bool.and_eq_true, Bool.or_eq_true, Bool.and_eq_false_iff, Bool.or_eq_false_iff, Bool.not_eq_true', Bool.not_eq_false', Bool.not_true, Bool.not_false, Bool.not_eq_eq_eq_not, not_true_eq_false, not_false_eq_true, reduceCtorEq, Bool.true_or, Bool.false_or, Bool.or_true, Bool.or_false, Bool.true_and, Bool.and_true, Bool.false_and, Bool.and_false, true_and, and_true, or_false, false_or, true_or, or_true, false_and, and_false, Bool.true_eq_false, Bool.false_eq_true] at *) <;> omega)
  have hlab := chk_label W h1
  have bn := hW.next
  rw [List.length_map]
  (refine ifK_split (fun h2 => ?_) (fun h2 => ?_) <;> (rw [h2]; ((conv => whnf); repeat (refine And.intro rfl ?_; (conv => whnf)))))
  · have h2 : l.length = 0 := by ((try simp only [bne_iff_ne, ne_eq, bne_eq_false_iff_eq, beq_iff_eq, beq_eq_false_iff_ne, decide_eq_true_eq, decide_eq_false_iff_not, List.length_map, Bool.not_eq_true, Bool.not_eq_false, Bool.and_eq_true, Bool.or_eq_true, Bool.and_eq_false_iff, Bool.or_eq_false_iff, Bool.not_eq_true', Bool.not_eq_false', Bool.not_true, Bool.not_false, Bool.not_eq_eq_eq_not, not_true_eq_false, not_false_eq_true, reduceCtorEq, Bool.true_or, Bool.false_or, Bool.or_true, Bool.or_false, Bool.true_and, Bool.and_true, Bool.false_and, Bool.and_false, true_and, and_true, or_false, false_or, true_or, or_true, false_and, and_false, Bool.true_eq_false, Bool.false_eq_true] at *) <;> omega)
    have e : W.onB s l = false := by rw [← Bool.not_eq_true, onB_iff]; omega
    exact bad (by decide) (by unfold WorldD.wordE; rw [if_neg (by omega), if_pos e])
  have h2 : l.length ≠ 0 := by ((try simp only [bne_iff_ne, ne_eq, bne_eq_false_iff_eq, beq_iff_eq, beq_eq_false_iff_ne, decide_eq_true_eq, decide_eq_false_iff_not, List.length_map, Bool.not_eq_true, Bool.not_eq_false, Bool.and_eq_true, Bool.or_eq_true, Bool.and_eq_false_iff, Bool.or_eq_false_iff, Bool.not_eq_true', Bool.not_eq_false', Bool.not_true, Bool.not_false, Bool.not_eq_eq_eq_not, not_true_eq_false, not_false_eq_true, reduceCtorEq, Bool.true_or, Bool.false_or, Bool.or_true, Bool.or_false, Bool.true_and, Bool.and_true, Bool.false_and, Bool.and_false, true_and, and_true, or_false, false_or, true_or, or_true, false_and, and_false, Bool.true_eq_false, Bool.false_eq_true] at *) <;> omega)
  rw [List.length_map]
  (refine .inl ⟨_, (wo_odd s (by omega) W.next.length), ?_⟩; ((conv => whnf); repeat (refine And.intro rfl ?_; (conv => whnf))))
  (refine ifK_split (fun h3 => ?_) (fun h3 => ?_) <;> (rw [h3]; ((conv => whnf); repeat (refine And.intro rfl ?_; (conv => whnf)))))
  · have e : W.onB s l = false := by
      rw [← Bool.not_eq_true, onB_iff]
      rintro ⟨_, q, _⟩
      rw [q] at h3; cases h3
    exact bad (by decide) (by unfold WorldD.wordE; rw [if_neg (by omega), if_pos e])
  have h3 : inB s W.next.length = true := by simpa using h3
  rw [List.length_map]
  (refine .inl ⟨_, (wo_odd l (by omega) W.next.length), ?_⟩; ((conv => whnf); repeat (refine And.intro rfl ?_; (conv => whnf))))
  (refine ifK_split (fun h4 => ?_) (fun h4 => ?_) <;> (rw [h4]; ((conv => whnf); repeat (refine And.intro rfl ?_; (conv => whnf)))))
  · have e : W.onB s l = false := by
      rw [← Bool.not_eq_true, onB_iff]
      rintro ⟨_, _, q⟩
      rw [q] at h4; cases h4
    exact bad (by decide) (by unfold WorldD.wordE; rw [if_neg (by omega), if_pos e])
  have h4 : inB l W.next.length = true := by simpa using h4
  have hE : W.wordE s l = wchk (W.lts s) (W.lts l) := by
    have e : W.onB s l = true := (onB_iff _ _ _).2 ⟨h2, h3, h4⟩
    unfold WorldD.wordE; rw [if_neg (by omega), if_neg (by rw [e]; simp)]
  refine pwp_ghostB (leB_nilc 3 0 1 (by simp) rfl rfl) ?_
  refine pwp_for [2, 3, 4, 7, 41, 42] (fun k : Nat => [(43, .sc (.int .i64 k))]) (fun k => [(3, .row true [.own 4 k 0 k, .sc (.slice none 0 0)]), (4, .vec true k 1 (u64s ((W.lts s).take k)))]) (fun k => k ≤ s.length) (fun k => s.length - k) 0 ?_
  ((conv => whnf); repeat (refine And.intro rfl ?_; (conv => whnf)))
  refine ⟨by omega, by (repeat' (first | exact trivial | refine And.intro rfl ?_)), rfl, ?_⟩
  rintro k hk
  ((conv => whnf); repeat (refine And.intro rfl ?_; (conv => whnf)))
  (apply red_sound; focus (repeat' (first | exact Red.skip | exact Red.ret | exact RedO.nil | exact RedD.nil | exact Red.exit _ | exact Red.loop _ | exact Red.stop _ | apply Red.ops | apply Red.draw | apply Red.seq | apply Red.cond | apply Red.block | apply RedO.cons | apply RedD.cons | exact (0 : Nat))))
  ((conv => whnf); repeat (refine And.intro rfl ?_; (conv => whnf)))
  (refine ifK_split (fun h => ?_) (fun h => ?_) <;> (rw [h]; ((conv => whnf); repeat (refine And.intro rfl ?_; (conv => whnf)))))
  · have hk' : k < s.length := by ((try simp only [bne_iff_ne, ne_eq, bne_eq_false_iff_eq, beq_iff_eq, beq_eq_false_iff_ne, decide_eq_true_eq, decide_eq_false_iff_not, List.length_map, Bool.not_eq_true, Bool.not_eq_false, Bool.and_eq_true, Bool.or_eq_true, Bool.and_eq_false_iff, Bool.or_eq_false_iff, Bool.not_eq_true', Bool.not_eq_false', Bool.not_true, Bool.not_false, Bool.not_eq_eq_eq_not, not_true_eq_false, not_false_eq_true, reduceCtorEq, Bool.true_or, Bool.false_or, Bool.or_true, Bool.or_false, Bool.true_and, Bool.and_true, Bool.false_and, Bool.and_false, true_and, and_true, or_false, false_or, true_or, or_true, false_and, and_false, Bool.true_eq_false, Bool.false_eq_true] at *) <;> omega)
    have b := inB_get h3 hk'
    refine ⟨by omega, _, ints_at (k := k) (by omega) hk', ?_⟩
    ((conv => whnf); repeat (refine And.intro rfl ?_; (conv => whnf)))
    refine ⟨b.1, _, u64_at (k := (s[k]).toNat) rfl (by omega), ?_⟩
    ((conv => whnf); repeat (refine And.intro rfl ?_; (conv => whnf)))
    refine ⟨(by unfold sliceAppend; simp only [List.length_map, List.length_cons, List.length_nil, List.length_append, List.length_take, List.length_drop, List.drop_zero, List.take_succ_cons, List.take_zero]; omega), ?_⟩
    ((conv => whnf); repeat (refine And.intro rfl ?_; (conv => whnf)))
    (refine .inl ⟨by (unfold InR; rw [IntKind.wrap_i64]; omega), ?_⟩; ((conv => whnf); repeat (refine And.intro rfl ?_; (conv => whnf))))
    refine ⟨k + 1, by omega, by dsimp only; omega, ?_⟩
    (refine leB_close 5 (by simp) rfl ?_ ?_ <;> (repeat' (first | exact trivial | exact rfl | exact DeepM.refl _ | exact DeepML.refl _ | exact DeepMLL.refl _ | refine And.intro ?_ ?_ | (simp [Under, UnderL, UnderLL]; done))))
    exact deepMLL_eq (lts_snoc W s k hk')
  have hks : k = s.length := by have : ¬ k < s.length := by ((try simp only [bne_iff_ne, ne_eq, bne_eq_false_iff_eq, beq_iff_eq, beq_eq_false_iff_ne, decide_eq_true_eq, decide_eq_false_iff_not, List.length_map, Bool.not_eq_true, Bool.not_eq_false, Bool.and_eq_true, Bool.or_eq_true, Bool.and_eq_false_iff, Bool.or_eq_false_iff, Bool.not_eq_true', Bool.not_eq_false', Bool.not_true, Bool.not_false, Bool.not_eq_eq_eq_not, not_true_eq_false, not_false_eq_true, reduceCtorEq, Bool.true_or, Bool.false_or, Bool.or_true, Bool.or_false, Bool.true_and, Bool.and_true, Bool.false_and, Bool.and_false, true_and, and_true, or_false, false_or, true_or, or_true, false_and, and_false, Bool.true_eq_false, Bool.false_eq_true] at *) <;> omega)
                                omega
  subst hks
  clear h hk
  refine pwp_ghostB (leB_nilc 3 1 1 (by simp) rfl rfl) ?_
  refine pwp_for [2, 4, 7, 59, 60] (fun k : Nat => [(61, .sc (.int .i64 k))]) (fun k => [(3, .row true [.own 4 s.length 0 s.length, .own 5 k 0 k]), (5, .vec true k 1 (u64s ((W.lts l).take k)))]) (fun k => k ≤ l.length) (fun k => l.length - k) 0 ?_
  ((conv => whnf); repeat (refine And.intro rfl ?_; (conv => whnf)))
  refine ⟨by omega, by (repeat' (first | exact trivial | refine And.intro rfl ?_)), rfl, ?_⟩
  rintro k hk
  ((conv => whnf); repeat (refine And.intro rfl ?_; (conv => whnf)))
  (apply red_sound; focus (repeat' (first | exact Red.skip | exact Red.ret | exact RedO.nil | exact RedD.nil | exact Red.exit _ | exact Red.loop _ | exact Red.stop _ | apply Red.ops | apply Red.draw | apply Red.seq | apply Red.cond | apply Red.block | apply RedO.cons | apply RedD.cons | exact (0 : Nat))))
  ((conv => whnf); repeat (refine And.intro rfl ?_; (conv => whnf)))
  (refine ifK_split (fun h => ?_) (fun h => ?_) <;> (rw [h]; ((conv => whnf); repeat (refine And.intro rfl ?_; (conv => whnf)))))
  · have hk' : k < l.length := by ((try simp only [bne_iff_ne, ne_eq, bne_eq_false_iff_eq, beq_iff_eq, beq_eq_false_iff_ne, decide_eq_true_eq, decide_eq_false_iff_not, List.length_map, Bool.not_eq_true, Bool.not_eq_false, Bool.and_eq_true, Bool.or_eq_true, Bool.and_eq_false_iff, Bool.or_eq_false_iff, Bool.not_eq_true', Bool.not_eq_false', Bool.not_true, Bool.not_false, Bool.not_eq_eq_eq_not, not_true_eq_false, not_false_eq_true, reduceCtorEq, Bool.true_or, Bool.false_or, Bool.or_true, Bool.or_false, Bool.true_and, Bool.and_true, Bool.false_and, Bool.and_false, true_and, and_true, or_false, false_or, true_or, or_true, false_and, and_false, Bool.true_eq_false, Bool.false_eq_true] at *) <;> omega)
    have b := inB_get h4 hk'
    refine ⟨by omega, _, ints_at (k := k) (by omega) hk', ?_⟩
    ((conv => whnf); repeat (refine And.intro rfl ?_; (conv => whnf)))
    refine ⟨b.1, _, u64_at (k := (l[k]).toNat) rfl (by omega), ?_⟩
    ((conv => whnf); repeat (refine And.intro rfl ?_; (conv => whnf)))
    refine ⟨(by unfold sliceAppend; simp only [List.length_map, List.length_cons, List.length_nil, List.length_append, List.length_take, List.length_drop, List.drop_zero, List.take_succ_cons, List.take_zero]; omega), ?_⟩
    ((conv => whnf); repeat (refine And.intro rfl ?_; (conv => whnf)))
    (refine .inl ⟨by (unfold InR; rw [IntKind.wrap_i64]; omega), ?_⟩; ((conv => whnf); repeat (refine And.intro rfl ?_; (conv => whnf))))
    refine ⟨k + 1, by omega, by dsimp only; omega, ?_⟩
    (refine leB_close 6 (by simp) rfl ?_ ?_ <;> (repeat' (first | exact trivial | exact rfl | exact DeepM.refl _ | exact DeepML.refl _ | exact DeepMLL.refl _ | refine And.intro ?_ ?_ | (simp [Under, UnderL, UnderLL]; done))))
    exact deepMLL_eq (lts_snoc W l k hk')
  have hkl : k = l.length := by have : ¬ k < l.length := by ((try simp only [bne_iff_ne, ne_eq, bne_eq_false_iff_eq, beq_iff_eq, beq_eq_false_iff_ne, decide_eq_true_eq, decide_eq_false_iff_not, List.length_map, Bool.not_eq_true, Bool.not_eq_false, Bool.and_eq_true, Bool.or_eq_true, Bool.and_eq_false_iff, Bool.or_eq_false_iff, Bool.not_eq_true', Bool.not_eq_false', Bool.not_true, Bool.not_false, Bool.not_eq_eq_eq_not, not_true_eq_false, not_false_eq_true, reduceCtorEq, Bool.true_or, Bool.false_or, Bool.or_true, Bool.or_false, Bool.true_and, Bool.and_true, Bool.false_and, Bool.and_false, true_and, and_true, or_false, false_or, true_or, or_true, false_and, and_false, Bool.true_eq_false, Bool.false_eq_true] at *) <;> omega)
                                omega
  subst hkl
  have deep : ∀ {H : List AObj}, H[4]? = some (.vec true s.length 1 (u64s (W.lts s))) → H[5]? = some (.vec true l.length 1 (u64s (W.lts l))) → Deep H (.agg [.own 4 s.length 0 s.length, .own 5 l.length 0 l.length]) (dword (W.lts s) (W.lts l)) := fun g1 g2 =>
    .agg _ _ (.cons _ _ _ _ (deep_u64 (by rw [lts_len]; omega) g1) (.cons _ _ _ _ (deep_u64 (by rw [lts_len]; omega) g2) .nil))
  rw [List.take_of_length_le (by rw [lts_len]; omega), List.take_of_length_le (by rw [lts_len]; omega)]
  refine .inr (.inl ⟨_, _, .cons _ _ _ _ (deep rfl rfl) .nil, las_Check (W.lts s) (W.lts l), rfl, ?_⟩)
  ((conv => whnf); repeat (refine And.intro rfl ?_; (conv => whnf)))
  (refine ifK_split (fun h5 => ?_) (fun h5 => ?_) <;> (rw [h5]; ((conv => whnf); repeat (refine And.intro rfl ?_; (conv => whnf)))))
  · have h5 : wchk (W.lts s) (W.lts l) ≠ 0 := by ((try simp only [bne_iff_ne, ne_eq, bne_eq_false_iff_eq, beq_iff_eq, beq_eq_false_iff_ne, decide_eq_true_eq, decide_eq_false_iff_not, List.length_map, Bool.not_eq_true, Bool.not_eq_false, Bool.and_eq_true, Bool.or_eq_true, Bool.and_eq_false_iff, Bool.or_eq_false_iff, Bool.not_eq_true', Bool.not_eq_false', Bool.not_true, Bool.not_false, Bool.not_eq_eq_eq_not, not_true_eq_false, not_false_eq_true, reduceCtorEq, Bool.true_or, Bool.false_or, Bool.or_true, Bool.or_false, Bool.true_and, Bool.and_true, Bool.false_and, Bool.and_false, true_and, and_true, or_false, false_or, true_or, or_true, false_and, and_false, Bool.true_eq_false, Bool.false_eq_true] at *) <;> omega)
    exact bad (by rw [hE] at *; exact h5) hE
  · have h5 : wchk (W.lts s) (W.lts l) = 0 := by ((try simp only [bne_iff_ne, ne_eq, bne_eq_false_iff_eq, beq_iff_eq, beq_eq_false_iff_ne, decide_eq_true_eq, decide_eq_false_iff_not, List.length_map, Bool.not_eq_true, Bool.not_eq_false, Bool.and_eq_true, Bool.or_eq_true, Bool.and_eq_false_iff, Bool.or_eq_false_iff, Bool.not_eq_true', Bool.not_eq_false', Bool.not_true, Bool.not_false, Bool.not_eq_eq_eq_not, not_true_eq_false, not_false_eq_true, reduceCtorEq, Bool.true_or, Bool.false_or, Bool.or_true, Bool.or_false, Bool.true_and, Bool.and_true, Bool.false_and, Bool.and_false, true_and, and_true, or_false, false_or, true_or, or_true, false_and, and_false, Bool.true_eq_false, Bool.false_eq_true] at *) <;> omega)
    rw [hw, hE, if_pos h5, h5]
    exact .tup _ _ (.cons _ _ _ _ (deep rfl rfl) (.cons _ _ _ _ (.refl _) .nil))
end Go.Proofs.Ytkkfiadefekbbaa
