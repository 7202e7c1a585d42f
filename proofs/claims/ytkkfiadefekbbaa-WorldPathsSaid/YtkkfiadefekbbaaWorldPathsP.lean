/-
  watchlaw.WorldPaths returns true for every world and every path, and each argument reads afterwards as it read before. No conditions.
-/
import Derived.Test.YtkkfiadefekbbaaDC
import Derived.Test.YtkkfiadefekbbaaAw
import Derived.Test.YtkkfiadefekbbaaWo5
import Derived.Test.YtkkfiadefekbbaaRows
namespace Go.Proofs.Ytkkfiadefekbbaa
open Go.RowKit Go.ChangeShapes Go.WideShapes Go.ChangeAt
set_option linter.unusedSimpArgs false
set_option linter.unusedVariables false
def c10 : PC := .seq (.ops [⟨(some 2), .box (.tmp 0), none, 0⟩,
    ⟨(some 3), .box (.tmp 1), none, 0⟩,
    ⟨(some 4), .move (.const (.bool false)), none, 0⟩] false) (.seq (.ops [⟨(some 12), .loadA 4 (.tmp 2), none, 0⟩,
    ⟨(some 13), .call 42 [(.tmp 12)], none, 0⟩,
    ⟨(some 5), .move (.tmp 13), none, 0⟩] false) (.seq (.ops [⟨(some 15), .loadA 4 (.tmp 2), none, 0⟩,
    ⟨(some 16), .loadA 2 (.tmp 3), none, 0⟩,
    ⟨(some 17), .call 43 [(.tmp 15), (.tmp 16)], none, 0⟩,
    ⟨(some 14), .move (.tmp 17), none, 0⟩,
    ⟨(some 18), .ext 0 (.tmp 14), none, 0⟩,
    ⟨(some 19), .ext 1 (.tmp 14), none, 0⟩,
    ⟨(some 6), .move (.tmp 18), none, 0⟩,
    ⟨(some 7), .move (.tmp 19), none, 0⟩] false) (.seq (.ops [⟨(some 21), .loadA 4 (.tmp 2), none, 0⟩,
    ⟨(some 22), .loadA 2 (.tmp 3), none, 0⟩,
    ⟨(some 23), .call 44 [(.tmp 21), (.tmp 22)], none, 0⟩,
    ⟨(some 20), .move (.tmp 23), none, 0⟩,
    ⟨(some 24), .ext 0 (.tmp 20), none, 0⟩,
    ⟨(some 25), .ext 1 (.tmp 20), none, 0⟩,
    ⟨(some 8), .alloc [(.slice none 0 0), (.slice none 0 0)], none, 0⟩,
    ⟨none, .store 2 (.tmp 8) (.tmp 24), none, 0⟩,
    ⟨(some 9), .move (.tmp 25), none, 0⟩] false) (.seq (.seq (.ops [⟨(some 26), .move (.tmp 5), none, 0⟩,
    ⟨(some 27), .bin .neq (.tmp 26) (.const (.int .i64 0)), none, 0⟩] false) (.cond (.tmp 27) (.seq (.ops [⟨(some 28), .move (.tmp 7), none, 0⟩,
    ⟨(some 29), .move (.tmp 5), none, 0⟩,
    ⟨(some 30), .bin .eql (.tmp 28) (.tmp 29), none, 0⟩,
    ⟨(some 31), .move (.tmp 30), none, 0⟩,
    ⟨(some 32), .move (.tmp 9), (some (31, true)), 0⟩,
    ⟨(some 33), .move (.tmp 5), (some (31, true)), 0⟩,
    ⟨(some 34), .bin .eql (.tmp 32) (.tmp 33), (some (31, true)), 0⟩,
    ⟨(some 35), .pick (.tmp 31) (.tmp 34) (.const (.bool false)), none, 0⟩,
    ⟨(some 36), .move (.tmp 35), none, 0⟩,
    ⟨(some 37), .move (.tmp 6), (some (36, true)), 0⟩,
    ⟨(some 38), .un .not (.tmp 37), (some (36, true)), 0⟩,
    ⟨(some 39), .pick (.tmp 36) (.tmp 38) (.const (.bool false)), none, 0⟩,
    ⟨(some 40), .move (.tmp 39), none, 0⟩,
    ⟨(some 41), .loadA 2 (.tmp 8), (some (40, true)), 0⟩,
    ⟨(some 42), .build [(.slice none 0 0), (.slice none 0 0)] [], (some (40, true)), 0⟩,
    ⟨(some 43), .call 17 [(.tmp 41), (.tmp 42)], (some (40, true)), 0⟩,
    ⟨(some 44), .pick (.tmp 40) (.tmp 43) (.const (.bool false)), none, 0⟩,
    ⟨(some 4), .move (.tmp 44), none, 0⟩] false) (.ret)) (.skip))) (.seq (.seq (.ops [⟨(some 45), .faddr 0 (.tmp 3), none, 0⟩,
    ⟨(some 46), .load1 (.tmp 45), none, 0⟩,
    ⟨(some 47), .len (.tmp 46), none, 0⟩,
    ⟨(some 48), .bin .gtr (.tmp 47) (.const (.int .i64 60000)), none, 0⟩,
    ⟨(some 49), .move (.tmp 48), none, 0⟩,
    ⟨(some 50), .faddr 1 (.tmp 3), (some (49, false)), 0⟩,
    ⟨(some 51), .load1 (.tmp 50), (some (49, false)), 0⟩,
    ⟨(some 52), .len (.tmp 51), (some (49, false)), 0⟩,
    ⟨(some 53), .faddr 0 (.tmp 3), (some (49, false)), 0⟩,
    ⟨(some 54), .load1 (.tmp 53), (some (49, false)), 0⟩,
    ⟨(some 55), .len (.tmp 54), (some (49, false)), 0⟩,
    ⟨(some 56), .bin .sub (.const (.int .i64 60000)) (.tmp 55), (some (49, false)), 0⟩,
    ⟨(some 57), .bin .gtr (.tmp 52) (.tmp 56), (some (49, false)), 0⟩,
    ⟨(some 58), .pick (.tmp 49) (.const (.bool true)) (.tmp 57), none, 0⟩] false) (.cond (.tmp 58) (.seq (.ops [⟨(some 59), .move (.tmp 7), none, 0⟩,
    ⟨(some 60), .bin .neq (.tmp 59) (.const (.int .i64 2)), none, 0⟩,
    ⟨(some 61), .move (.tmp 60), none, 0⟩,
    ⟨(some 62), .move (.tmp 6), (some (61, false)), 0⟩,
    ⟨(some 63), .pick (.tmp 61) (.const (.bool true)) (.tmp 62), none, 0⟩] false) (.cond (.tmp 63) (.seq (.ops [⟨(some 4), .move (.const (.bool false)), none, 0⟩] false) (.ret)) (.skip))) (.seq (.ops [⟨(some 64), .move (.tmp 7), none, 0⟩,
    ⟨(some 65), .bin .neq (.tmp 64) (.const (.int .i64 0)), none, 0⟩,
    ⟨(some 66), .move (.tmp 65), none, 0⟩,
    ⟨(some 67), .move (.tmp 6), (some (66, false)), 0⟩,
    ⟨(some 68), .loadA 4 (.tmp 2), (some (66, false)), 0⟩,
    ⟨(some 69), .faddr 0 (.tmp 2), (some (66, false)), 0⟩,
    ⟨(some 70), .load1 (.tmp 69), (some (66, false)), 0⟩,
    ⟨(some 71), .loadA 2 (.tmp 3), (some (66, false)), 0⟩,
    ⟨(some 72), .call 45 [(.tmp 68), (.tmp 70), (.tmp 71)], (some (66, false)), 0⟩,
    ⟨(some 73), .eqb true (.tmp 67) (.tmp 72), (some (66, false)), 0⟩,
    ⟨(some 74), .pick (.tmp 66) (.const (.bool true)) (.tmp 73), none, 0⟩] false) (.cond (.tmp 74) (.seq (.ops [⟨(some 4), .move (.const (.bool false)), none, 0⟩] false) (.ret)) (.skip))))) (.seq (.seq (.ops [⟨(some 75), .faddr 1 (.tmp 3), none, 0⟩,
    ⟨(some 76), .load1 (.tmp 75), none, 0⟩,
    ⟨(some 77), .len (.tmp 76), none, 0⟩,
    ⟨(some 78), .bin .eql (.tmp 77) (.const (.int .i64 0)), none, 0⟩,
    ⟨(some 79), .move (.tmp 78), none, 0⟩,
    ⟨(some 80), .faddr 0 (.tmp 3), (some (79, false)), 0⟩,
    ⟨(some 81), .load1 (.tmp 80), (some (79, false)), 0⟩,
    ⟨(some 82), .faddr 1 (.tmp 2), (some (79, false)), 0⟩,
    ⟨(some 83), .load1 (.tmp 82), (some (79, false)), 0⟩,
    ⟨(some 84), .len (.tmp 83), (some (79, false)), 0⟩,
    ⟨(some 85), .call 25 [(.tmp 81), (.tmp 84)], (some (79, false)), 0⟩,
    ⟨(some 86), .un .not (.tmp 85), (some (79, false)), 0⟩,
    ⟨(some 87), .pick (.tmp 79) (.const (.bool true)) (.tmp 86), none, 0⟩,
    ⟨(some 88), .move (.tmp 87), none, 0⟩,
    ⟨(some 89), .faddr 1 (.tmp 3), (some (88, false)), 0⟩,
    ⟨(some 90), .load1 (.tmp 89), (some (88, false)), 0⟩,
    ⟨(some 91), .faddr 1 (.tmp 2), (some (88, false)), 0⟩,
    ⟨(some 92), .load1 (.tmp 91), (some (88, false)), 0⟩,
    ⟨(some 93), .len (.tmp 92), (some (88, false)), 0⟩,
    ⟨(some 94), .call 25 [(.tmp 90), (.tmp 93)], (some (88, false)), 0⟩,
    ⟨(some 95), .un .not (.tmp 94), (some (88, false)), 0⟩,
    ⟨(some 96), .pick (.tmp 88) (.const (.bool true)) (.tmp 95), none, 0⟩] false) (.cond (.tmp 96) (.seq (.ops [⟨(some 97), .move (.tmp 9), none, 0⟩,
    ⟨(some 98), .bin .eql (.tmp 97) (.const (.int .i64 1)), none, 0⟩,
    ⟨(some 99), .move (.tmp 98), none, 0⟩,
    ⟨(some 100), .loadA 2 (.tmp 8), (some (99, true)), 0⟩,
    ⟨(some 101), .build [(.slice none 0 0), (.slice none 0 0)] [], (some (99, true)), 0⟩,
    ⟨(some 102), .call 17 [(.tmp 100), (.tmp 101)], (some (99, true)), 0⟩,
    ⟨(some 103), .pick (.tmp 99) (.tmp 102) (.const (.bool false)), none, 0⟩,
    ⟨(some 4), .move (.tmp 103), none, 0⟩] false) (.ret)) (.skip))) (.seq (.ops [⟨(some 104), .loadA 4 (.tmp 2), none, 0⟩,
    ⟨(some 105), .loadA 2 (.tmp 3), none, 0⟩,
    ⟨(some 106), .call 46 [(.tmp 104), (.tmp 105)], none, 0⟩,
    ⟨(some 10), .alloc [(.slice none 0 0), (.slice none 0 0)], none, 0⟩,
    ⟨none, .store 2 (.tmp 10) (.tmp 106), none, 0⟩] false) (.seq (.seq (.ops [⟨(some 107), .loadA 2 (.tmp 10), none, 0⟩,
    ⟨(some 108), .call 14 [(.tmp 107)], none, 0⟩,
    ⟨(some 11), .move (.tmp 108), none, 0⟩] false) (.seq (.ops [⟨(some 109), .move (.tmp 11), none, 0⟩,
    ⟨(some 110), .bin .neq (.tmp 109) (.const (.int .i64 0)), none, 0⟩] false) (.cond (.tmp 110) (.seq (.ops [⟨(some 111), .move (.tmp 9), none, 0⟩,
    ⟨(some 112), .move (.tmp 11), none, 0⟩,
    ⟨(some 113), .bin .eql (.tmp 111) (.tmp 112), none, 0⟩,
    ⟨(some 114), .move (.tmp 113), none, 0⟩,
    ⟨(some 115), .loadA 2 (.tmp 8), (some (114, true)), 0⟩,
    ⟨(some 116), .build [(.slice none 0 0), (.slice none 0 0)] [], (some (114, true)), 0⟩,
    ⟨(some 117), .call 17 [(.tmp 115), (.tmp 116)], (some (114, true)), 0⟩,
    ⟨(some 118), .pick (.tmp 114) (.tmp 117) (.const (.bool false)), none, 0⟩,
    ⟨(some 4), .move (.tmp 118), none, 0⟩] false) (.ret)) (.skip)))) (.seq (.ops [⟨(some 119), .move (.tmp 9), none, 0⟩,
    ⟨(some 120), .bin .eql (.tmp 119) (.const (.int .i64 0)), none, 0⟩,
    ⟨(some 121), .move (.tmp 120), none, 0⟩,
    ⟨(some 122), .loadA 2 (.tmp 8), (some (121, true)), 0⟩,
    ⟨(some 123), .loadA 2 (.tmp 10), (some (121, true)), 0⟩,
    ⟨(some 124), .call 17 [(.tmp 122), (.tmp 123)], (some (121, true)), 0⟩,
    ⟨(some 125), .pick (.tmp 121) (.tmp 124) (.const (.bool false)), none, 0⟩,
    ⟨(some 4), .move (.tmp 125), none, 0⟩] false) (.ret))))))))))
set_option maxRecDepth 100000 in
theorem c10_ok : FunOK Try.prog 10 126 [.tmp 4] c10 := ⟨⟨Try.f10, Try.func10, rfl, by kernel_rfl, rfl, by kernel_rfl⟩⟩
set_option maxRecDepth 100000 in
theorem law_WorldPaths (W : WorldD) (hW : W.Fits) (s l : List Int) (hs : s.length ≤ 17592186043904) (hl : l.length ≤ 17592186043904) : PCall Try.prog 10 [dworld W, dpath s l] (dbool true) := by
  have hR := ref_World W hW
  obtain ⟨b, hb⟩ : ∃ b, b = if W.goodE s l = 0 then W.goodB W.start s l else false := ⟨_, rfl⟩
  obtain ⟨xs, hxs⟩ : ∃ x, x = if W.wordE s l = 0 then W.lts s else [] := ⟨_, rfl⟩
  obtain ⟨xl, hxl⟩ : ∃ x, x = if W.wordE s l = 0 then W.lts l else [] := ⟨_, rfl⟩
  have hG := wo_Good W hW s l hs hl b hb
  have hX := wo_Word W hW s l hs hl (dword xs xl) (by rw [hxs, hxl]; split <;> rfl)
  have none : W.wordE s l ≠ 0 → xs = [] ∧ xl = [] := fun h => by rw [hxs, hxl, if_neg h, if_neg h]; exact ⟨rfl, rfl⟩
  have eG : W.goodE s l = if W.chk ≠ 0 then W.chk else if 60000 < s.length ∨ 60000 < s.length + l.length then 2 else 0 := rfl
  have eX : W.wordE s l = if W.chk ≠ 0 then W.chk else if W.onB s l = false then 1 else wchk (W.lts s) (W.lts l) := rfl
  have hon := onB_iff W s l
  have b1 := hW.next
  refine pcall_intro c10_ok (by simp) (by simp [PureL, Pure, pure_dworld, pure_dpath]) ?_ (by simp [dbool, Pure])
  (apply red_sound; focus (repeat' (first | exact Red.skip | exact Red.ret | exact RedO.nil | exact RedD.nil | exact Red.exit _ | exact Red.loop _ | exact Red.stop _ | apply Red.ops | apply Red.draw | apply Red.seq | apply Red.cond | apply Red.block | apply RedO.cons | apply RedD.cons | exact (0 : Nat))))
  ((conv => whnf); repeat (refine And.intro rfl ?_; (conv => whnf)))
  (refine .inl ⟨_, hR, ?_⟩; ((conv => whnf); repeat (refine And.intro rfl ?_; (conv => whnf))))
  (refine .inl ⟨_, hG, ?_⟩; ((conv => whnf); repeat (refine And.intro rfl ?_; (conv => whnf))))
  (refine .inl ⟨_, hX, ?_⟩; ((conv => whnf); repeat (refine And.intro rfl ?_; (conv => whnf))))
  (refine ifK_split (fun h1 => ?_) (fun h1 => ?_) <;> (rw [h1]; ((conv => whnf); repeat (refine And.intro rfl ?_; (conv => whnf)))))
  · have h1 : W.chk ≠ 0 := by ((try simp only [bne_iff_ne, ne_eq, bne_eq_false_iff_eq, beq_iff_eq, beq_eq_false_iff_ne, decide_eq_true_eq, decide_eq_false_iff_not, List.length_map, Bool.not_eq_true, Bool.not_eq_false, Bool.and_eq_true, Bool.or_eq_true, Bool.and_eq_false_iff, Bool.or_eq_false_iff, Bool.not_eq_true', Bool.not_eq_false', Bool.not_true, Bool.not_false, Bool.not_eq_eq_eq_not, not_true_eq_false, not_false_eq_true, reduceCtorEq, Bool.true_or, Bool.false_or, Bool.or_true, Bool.or_false, Bool.true_and, Bool.and_true, Bool.false_and, Bool.and_false, true_and, and_true, or_false, false_or, true_or, or_true, false_and, and_false, Bool.true_eq_false, Bool.false_eq_true] at *) <;> omega)
    rw [if_pos h1] at eG eX
    obtain ⟨rfl, rfl⟩ := none (by rw [eX]; exact h1)
    rw [if_neg (by rw [eG]; exact h1)] at hb
    subst hb
    rw [eG, eX]
    have hb : (W.chk == W.chk) = true := by simp
    rw [hb]
    ((conv => whnf); repeat (refine And.intro rfl ?_; (conv => whnf)))
    rw [hb]
    ((conv => whnf); repeat (refine And.intro rfl ?_; (conv => whnf)))
    (refine .inl ⟨_, (same_word0 [] [] (by simp) (by simp)), ?_⟩; ((conv => whnf); repeat (refine And.intro rfl ?_; (conv => whnf))))
    exact .refl _
  have h1 : W.chk = 0 := by ((try simp only [bne_iff_ne, ne_eq, bne_eq_false_iff_eq, beq_iff_eq, beq_eq_false_iff_ne, decide_eq_true_eq, decide_eq_false_iff_not, List.length_map, Bool.not_eq_true, Bool.not_eq_false, Bool.and_eq_true, Bool.or_eq_true, Bool.and_eq_false_iff, Bool.or_eq_false_iff, Bool.not_eq_true', Bool.not_eq_false', Bool.not_true, Bool.not_false, Bool.not_eq_eq_eq_not, not_true_eq_false, not_false_eq_true, reduceCtorEq, Bool.true_or, Bool.false_or, Bool.or_true, Bool.or_false, Bool.true_and, Bool.and_true, Bool.false_and, Bool.and_false, true_and, and_true, or_false, false_or, true_or, or_true, false_and, and_false, Bool.true_eq_false, Bool.false_eq_true] at *) <;> omega)
  rw [if_neg (by omega)] at eG eX
  have hlab := chk_label W h1
  rw [List.length_map]
  (refine ifK_split (fun h2 => ?_) (fun h2 => ?_) <;> (rw [h2]; ((conv => whnf); repeat (refine And.intro rfl ?_; (conv => whnf)))))
  · rw [if_pos (.inl (by ((try simp only [bne_iff_ne, ne_eq, bne_eq_false_iff_eq, beq_iff_eq, beq_eq_false_iff_ne, decide_eq_true_eq, decide_eq_false_iff_not, List.length_map, Bool.not_eq_true, Bool.not_eq_false, Bool.and_eq_true, Bool.or_eq_true, Bool.and_eq_false_iff, Bool.or_eq_false_iff, Bool.not_eq_true', Bool.not_eq_false', Bool.not_true, Bool.not_false, Bool.not_eq_eq_eq_not, not_true_eq_false, not_false_eq_true, reduceCtorEq, Bool.true_or, Bool.false_or, Bool.or_true, Bool.or_false, Bool.true_and, Bool.and_true, Bool.false_and, Bool.and_false, true_and, and_true, or_false, false_or, true_or, or_true, false_and, and_false, Bool.true_eq_false, Bool.false_eq_true] at *) <;> omega)))] at eG
    rw [if_neg (by rw [eG]; decide)] at hb
    subst hb
    rw [eG]
    ((conv => whnf); repeat (refine And.intro rfl ?_; (conv => whnf)))
    have w1 : l.length = 0 → W.onB s l = false := fun q => by rw [← Bool.not_eq_true, hon]; exact fun ⟨q1, _⟩ => q1 q
    have w2 : inB s W.next.length = false → W.onB s l = false := fun q => by rw [← Bool.not_eq_true, hon, q]; exact fun ⟨_, q1, _⟩ => absurd q1 (by simp)
    have w3 : inB l W.next.length = false → W.onB s l = false := fun q => by rw [← Bool.not_eq_true, hon, q]; exact fun ⟨_, _, q1⟩ => absurd q1 (by simp)
    have zero : W.onB s l = false → W.wordE s l = 1 := fun q => by rw [eX, if_pos q]
    have none : W.wordE s l = 1 → xs = [] ∧ xl = [] := fun h => none (by rw [h]; decide)
    rw [List.length_map]
    (refine ifK_split (fun g1 => ?_) (fun g1 => ?_) <;> (rw [g1]; ((conv => whnf); repeat (refine And.intro rfl ?_; (conv => whnf)))))
    · have z := zero (w1 (by ((try simp only [bne_iff_ne, ne_eq, bne_eq_false_iff_eq, beq_iff_eq, beq_eq_false_iff_ne, decide_eq_true_eq, decide_eq_false_iff_not, List.length_map, Bool.not_eq_true, Bool.not_eq_false, Bool.and_eq_true, Bool.or_eq_true, Bool.and_eq_false_iff, Bool.or_eq_false_iff, Bool.not_eq_true', Bool.not_eq_false', Bool.not_true, Bool.not_false, Bool.not_eq_eq_eq_not, not_true_eq_false, not_false_eq_true, reduceCtorEq, Bool.true_or, Bool.false_or, Bool.or_true, Bool.or_false, Bool.true_and, Bool.and_true, Bool.false_and, Bool.and_false, true_and, and_true, or_false, false_or, true_or, or_true, false_and, and_false, Bool.true_eq_false, Bool.false_eq_true] at *) <;> omega)))
      obtain ⟨rfl, rfl⟩ := none z
      rw [z]
      ((conv => whnf); repeat (refine And.intro rfl ?_; (conv => whnf)))
      (refine .inl ⟨_, (same_word0 [] [] (by simp) (by simp)), ?_⟩; ((conv => whnf); repeat (refine And.intro rfl ?_; (conv => whnf))))
      exact .refl _
    rw [List.length_map]
    (refine .inl ⟨_, (ref_In s (by omega) W.next.length), ?_⟩; ((conv => whnf); repeat (refine And.intro rfl ?_; (conv => whnf))))
    (refine ifK_split (fun g2 => ?_) (fun g2 => ?_) <;> (rw [g2]; ((conv => whnf); repeat (refine And.intro rfl ?_; (conv => whnf)))))
    · have z := zero (w2 (by simpa using g2))
      obtain ⟨rfl, rfl⟩ := none z
      rw [z]
      ((conv => whnf); repeat (refine And.intro rfl ?_; (conv => whnf)))
      (refine .inl ⟨_, (same_word0 [] [] (by simp) (by simp)), ?_⟩; ((conv => whnf); repeat (refine And.intro rfl ?_; (conv => whnf))))
      exact .refl _
    rw [List.length_map]
    (refine .inl ⟨_, (ref_In l (by omega) W.next.length), ?_⟩; ((conv => whnf); repeat (refine And.intro rfl ?_; (conv => whnf))))
    (refine ifK_split (fun g3 => ?_) (fun g3 => ?_) <;> (rw [g3]; ((conv => whnf); repeat (refine And.intro rfl ?_; (conv => whnf)))))
    · have z := zero (w3 (by simpa using g3))
      obtain ⟨rfl, rfl⟩ := none z
      rw [z]
      ((conv => whnf); repeat (refine And.intro rfl ?_; (conv => whnf)))
      (refine .inl ⟨_, (same_word0 [] [] (by simp) (by simp)), ?_⟩; ((conv => whnf); repeat (refine And.intro rfl ?_; (conv => whnf))))
      exact .refl _
    have g1 : l.length ≠ 0 := by ((try simp only [bne_iff_ne, ne_eq, bne_eq_false_iff_eq, beq_iff_eq, beq_eq_false_iff_ne, decide_eq_true_eq, decide_eq_false_iff_not, List.length_map, Bool.not_eq_true, Bool.not_eq_false, Bool.and_eq_true, Bool.or_eq_true, Bool.and_eq_false_iff, Bool.or_eq_false_iff, Bool.not_eq_true', Bool.not_eq_false', Bool.not_true, Bool.not_false, Bool.not_eq_eq_eq_not, not_true_eq_false, not_false_eq_true, reduceCtorEq, Bool.true_or, Bool.false_or, Bool.or_true, Bool.or_false, Bool.true_and, Bool.and_true, Bool.false_and, Bool.and_false, true_and, and_true, or_false, false_or, true_or, or_true, false_and, and_false, Bool.true_eq_false, Bool.false_eq_true] at *) <;> omega)
    have g2 : inB s W.next.length = true := by simpa using g2
    have g3 : inB l W.next.length = true := by simpa using g3
    rw [if_neg (by rw [hon.2 ⟨g1, g2, g3⟩]; simp)] at eX
    rw [eX]
    (refine .inl ⟨_, (ref_WordOf W hW hlab.1 s l hs hl g2 g3), ?_⟩; ((conv => whnf); repeat (refine And.intro rfl ?_; (conv => whnf))))
    (refine .inl ⟨_, (ref_Word (W.lts s) (W.lts l)), ?_⟩; ((conv => whnf); repeat (refine And.intro rfl ?_; (conv => whnf))))
    (refine ifK_split (fun g4 => ?_) (fun g4 => ?_) <;> (rw [g4]; ((conv => whnf); repeat (refine And.intro rfl ?_; (conv => whnf)))))
    · have g4 : wchk (W.lts s) (W.lts l) ≠ 0 := by ((try simp only [bne_iff_ne, ne_eq, bne_eq_false_iff_eq, beq_iff_eq, beq_eq_false_iff_ne, decide_eq_true_eq, decide_eq_false_iff_not, List.length_map, Bool.not_eq_true, Bool.not_eq_false, Bool.and_eq_true, Bool.or_eq_true, Bool.and_eq_false_iff, Bool.or_eq_false_iff, Bool.not_eq_true', Bool.not_eq_false', Bool.not_true, Bool.not_false, Bool.not_eq_eq_eq_not, not_true_eq_false, not_false_eq_true, reduceCtorEq, Bool.true_or, Bool.false_or, Bool.or_true, Bool.or_false, Bool.true_and, Bool.and_true, Bool.false_and, Bool.and_false, true_and, and_true, or_false, false_or, true_or, or_true, false_and, and_false, Bool.true_eq_false, Bool.false_eq_true] at *) <;> omega)
      have hb : (wchk (W.lts s) (W.lts l) == wchk (W.lts s) (W.lts l)) = true := by simp
      obtain ⟨rfl, rfl⟩ : xs = [] ∧ xl = [] := by rw [hxs, hxl, eX, if_neg g4, if_neg g4]; exact ⟨rfl, rfl⟩
      rw [hb]
      ((conv => whnf); repeat (refine And.intro rfl ?_; (conv => whnf)))
      (refine .inl ⟨_, (same_word0 [] [] (by simp) (by simp)), ?_⟩; ((conv => whnf); repeat (refine And.intro rfl ?_; (conv => whnf))))
      exact .refl _
    · have g4 : wchk (W.lts s) (W.lts l) = 0 := by ((try simp only [bne_iff_ne, ne_eq, bne_eq_false_iff_eq, beq_iff_eq, beq_eq_false_iff_ne, decide_eq_true_eq, decide_eq_false_iff_not, List.length_map, Bool.not_eq_true, Bool.not_eq_false, Bool.and_eq_true, Bool.or_eq_true, Bool.and_eq_false_iff, Bool.or_eq_false_iff, Bool.not_eq_true', Bool.not_eq_false', Bool.not_true, Bool.not_false, Bool.not_eq_eq_eq_not, not_true_eq_false, not_false_eq_true, reduceCtorEq, Bool.true_or, Bool.false_or, Bool.or_true, Bool.or_false, Bool.true_and, Bool.and_true, Bool.false_and, Bool.and_false, true_and, and_true, or_false, false_or, true_or, or_true, false_and, and_false, Bool.true_eq_false, Bool.false_eq_true] at *) <;> omega)
      have hb : (wchk (W.lts s) (W.lts l) == 0) = true := by simp [g4]
      have z := (wchk_zero _ _).1 g4
      obtain ⟨rfl, rfl⟩ : xs = W.lts s ∧ xl = W.lts l := by rw [hxs, hxl, eX, if_pos g4, if_pos g4]; exact ⟨rfl, rfl⟩
      rw [hb]
      ((conv => whnf); repeat (refine And.intro rfl ?_; (conv => whnf)))
      (refine .inl ⟨_, (ref_SameWord (W.lts s) (W.lts l) (W.lts s) (W.lts l) (by omega) (by omega)), ?_⟩; ((conv => whnf); repeat (refine And.intro rfl ?_; (conv => whnf))))
      exact deep_eq (by simp [dbool])
  rw [List.length_map]
  (refine .inl ⟨by (unfold InR; rw [IntKind.wrap_i64]; omega), ?_⟩; ((conv => whnf); repeat (refine And.intro rfl ?_; (conv => whnf))))
  rw [List.length_map]
  (refine ifK_split (fun h3 => ?_) (fun h3 => ?_) <;> (rw [h3]; ((conv => whnf); repeat (refine And.intro rfl ?_; (conv => whnf)))))
  · rw [if_pos (.inr (by ((try simp only [bne_iff_ne, ne_eq, bne_eq_false_iff_eq, beq_iff_eq, beq_eq_false_iff_ne, decide_eq_true_eq, decide_eq_false_iff_not, List.length_map, Bool.not_eq_true, Bool.not_eq_false, Bool.and_eq_true, Bool.or_eq_true, Bool.and_eq_false_iff, Bool.or_eq_false_iff, Bool.not_eq_true', Bool.not_eq_false', Bool.not_true, Bool.not_false, Bool.not_eq_eq_eq_not, not_true_eq_false, not_false_eq_true, reduceCtorEq, Bool.true_or, Bool.false_or, Bool.or_true, Bool.or_false, Bool.true_and, Bool.and_true, Bool.false_and, Bool.and_false, true_and, and_true, or_false, false_or, true_or, or_true, false_and, and_false, Bool.true_eq_false, Bool.false_eq_true] at *) <;> omega)))] at eG
    rw [if_neg (by rw [eG]; decide)] at hb
    subst hb
    rw [eG]
    ((conv => whnf); repeat (refine And.intro rfl ?_; (conv => whnf)))
    have w1 : l.length = 0 → W.onB s l = false := fun q => by rw [← Bool.not_eq_true, hon]; exact fun ⟨q1, _⟩ => q1 q
    have w2 : inB s W.next.length = false → W.onB s l = false := fun q => by rw [← Bool.not_eq_true, hon, q]; exact fun ⟨_, q1, _⟩ => absurd q1 (by simp)
    have w3 : inB l W.next.length = false → W.onB s l = false := fun q => by rw [← Bool.not_eq_true, hon, q]; exact fun ⟨_, _, q1⟩ => absurd q1 (by simp)
    have zero : W.onB s l = false → W.wordE s l = 1 := fun q => by rw [eX, if_pos q]
    have none : W.wordE s l = 1 → xs = [] ∧ xl = [] := fun h => none (by rw [h]; decide)
    rw [List.length_map]
    (refine ifK_split (fun g1 => ?_) (fun g1 => ?_) <;> (rw [g1]; ((conv => whnf); repeat (refine And.intro rfl ?_; (conv => whnf)))))
    · have z := zero (w1 (by ((try simp only [bne_iff_ne, ne_eq, bne_eq_false_iff_eq, beq_iff_eq, beq_eq_false_iff_ne, decide_eq_true_eq, decide_eq_false_iff_not, List.length_map, Bool.not_eq_true, Bool.not_eq_false, Bool.and_eq_true, Bool.or_eq_true, Bool.and_eq_false_iff, Bool.or_eq_false_iff, Bool.not_eq_true', Bool.not_eq_false', Bool.not_true, Bool.not_false, Bool.not_eq_eq_eq_not, not_true_eq_false, not_false_eq_true, reduceCtorEq, Bool.true_or, Bool.false_or, Bool.or_true, Bool.or_false, Bool.true_and, Bool.and_true, Bool.false_and, Bool.and_false, true_and, and_true, or_false, false_or, true_or, or_true, false_and, and_false, Bool.true_eq_false, Bool.false_eq_true] at *) <;> omega)))
      obtain ⟨rfl, rfl⟩ := none z
      rw [z]
      ((conv => whnf); repeat (refine And.intro rfl ?_; (conv => whnf)))
      (refine .inl ⟨_, (same_word0 [] [] (by simp) (by simp)), ?_⟩; ((conv => whnf); repeat (refine And.intro rfl ?_; (conv => whnf))))
      exact .refl _
    rw [List.length_map]
    (refine .inl ⟨_, (ref_In s (by omega) W.next.length), ?_⟩; ((conv => whnf); repeat (refine And.intro rfl ?_; (conv => whnf))))
    (refine ifK_split (fun g2 => ?_) (fun g2 => ?_) <;> (rw [g2]; ((conv => whnf); repeat (refine And.intro rfl ?_; (conv => whnf)))))
    · have z := zero (w2 (by simpa using g2))
      obtain ⟨rfl, rfl⟩ := none z
      rw [z]
      ((conv => whnf); repeat (refine And.intro rfl ?_; (conv => whnf)))
      (refine .inl ⟨_, (same_word0 [] [] (by simp) (by simp)), ?_⟩; ((conv => whnf); repeat (refine And.intro rfl ?_; (conv => whnf))))
      exact .refl _
    rw [List.length_map]
    (refine .inl ⟨_, (ref_In l (by omega) W.next.length), ?_⟩; ((conv => whnf); repeat (refine And.intro rfl ?_; (conv => whnf))))
    (refine ifK_split (fun g3 => ?_) (fun g3 => ?_) <;> (rw [g3]; ((conv => whnf); repeat (refine And.intro rfl ?_; (conv => whnf)))))
    · have z := zero (w3 (by simpa using g3))
      obtain ⟨rfl, rfl⟩ := none z
      rw [z]
      ((conv => whnf); repeat (refine And.intro rfl ?_; (conv => whnf)))
      (refine .inl ⟨_, (same_word0 [] [] (by simp) (by simp)), ?_⟩; ((conv => whnf); repeat (refine And.intro rfl ?_; (conv => whnf))))
      exact .refl _
    have g1 : l.length ≠ 0 := by ((try simp only [bne_iff_ne, ne_eq, bne_eq_false_iff_eq, beq_iff_eq, beq_eq_false_iff_ne, decide_eq_true_eq, decide_eq_false_iff_not, List.length_map, Bool.not_eq_true, Bool.not_eq_false, Bool.and_eq_true, Bool.or_eq_true, Bool.and_eq_false_iff, Bool.or_eq_false_iff, Bool.not_eq_true', Bool.not_eq_false', Bool.not_true, Bool.not_false, Bool.not_eq_eq_eq_not, not_true_eq_false, not_false_eq_true, reduceCtorEq, Bool.true_or, Bool.false_or, Bool.or_true, Bool.or_false, Bool.true_and, Bool.and_true, Bool.false_and, Bool.and_false, true_and, and_true, or_false, false_or, true_or, or_true, false_and, and_false, Bool.true_eq_false, Bool.false_eq_true] at *) <;> omega)
    have g2 : inB s W.next.length = true := by simpa using g2
    have g3 : inB l W.next.length = true := by simpa using g3
    rw [if_neg (by rw [hon.2 ⟨g1, g2, g3⟩]; simp)] at eX
    rw [eX]
    (refine .inl ⟨_, (ref_WordOf W hW hlab.1 s l hs hl g2 g3), ?_⟩; ((conv => whnf); repeat (refine And.intro rfl ?_; (conv => whnf))))
    (refine .inl ⟨_, (ref_Word (W.lts s) (W.lts l)), ?_⟩; ((conv => whnf); repeat (refine And.intro rfl ?_; (conv => whnf))))
    (refine ifK_split (fun g4 => ?_) (fun g4 => ?_) <;> (rw [g4]; ((conv => whnf); repeat (refine And.intro rfl ?_; (conv => whnf)))))
    · have g4 : wchk (W.lts s) (W.lts l) ≠ 0 := by ((try simp only [bne_iff_ne, ne_eq, bne_eq_false_iff_eq, beq_iff_eq, beq_eq_false_iff_ne, decide_eq_true_eq, decide_eq_false_iff_not, List.length_map, Bool.not_eq_true, Bool.not_eq_false, Bool.and_eq_true, Bool.or_eq_true, Bool.and_eq_false_iff, Bool.or_eq_false_iff, Bool.not_eq_true', Bool.not_eq_false', Bool.not_true, Bool.not_false, Bool.not_eq_eq_eq_not, not_true_eq_false, not_false_eq_true, reduceCtorEq, Bool.true_or, Bool.false_or, Bool.or_true, Bool.or_false, Bool.true_and, Bool.and_true, Bool.false_and, Bool.and_false, true_and, and_true, or_false, false_or, true_or, or_true, false_and, and_false, Bool.true_eq_false, Bool.false_eq_true] at *) <;> omega)
      have hb : (wchk (W.lts s) (W.lts l) == wchk (W.lts s) (W.lts l)) = true := by simp
      obtain ⟨rfl, rfl⟩ : xs = [] ∧ xl = [] := by rw [hxs, hxl, eX, if_neg g4, if_neg g4]; exact ⟨rfl, rfl⟩
      rw [hb]
      ((conv => whnf); repeat (refine And.intro rfl ?_; (conv => whnf)))
      (refine .inl ⟨_, (same_word0 [] [] (by simp) (by simp)), ?_⟩; ((conv => whnf); repeat (refine And.intro rfl ?_; (conv => whnf))))
      exact .refl _
    · have g4 : wchk (W.lts s) (W.lts l) = 0 := by ((try simp only [bne_iff_ne, ne_eq, bne_eq_false_iff_eq, beq_iff_eq, beq_eq_false_iff_ne, decide_eq_true_eq, decide_eq_false_iff_not, List.length_map, Bool.not_eq_true, Bool.not_eq_false, Bool.and_eq_true, Bool.or_eq_true, Bool.and_eq_false_iff, Bool.or_eq_false_iff, Bool.not_eq_true', Bool.not_eq_false', Bool.not_true, Bool.not_false, Bool.not_eq_eq_eq_not, not_true_eq_false, not_false_eq_true, reduceCtorEq, Bool.true_or, Bool.false_or, Bool.or_true, Bool.or_false, Bool.true_and, Bool.and_true, Bool.false_and, Bool.and_false, true_and, and_true, or_false, false_or, true_or, or_true, false_and, and_false, Bool.true_eq_false, Bool.false_eq_true] at *) <;> omega)
      have hb : (wchk (W.lts s) (W.lts l) == 0) = true := by simp [g4]
      have z := (wchk_zero _ _).1 g4
      obtain ⟨rfl, rfl⟩ : xs = W.lts s ∧ xl = W.lts l := by rw [hxs, hxl, eX, if_pos g4, if_pos g4]; exact ⟨rfl, rfl⟩
      rw [hb]
      ((conv => whnf); repeat (refine And.intro rfl ?_; (conv => whnf)))
      (refine .inl ⟨_, (ref_SameWord (W.lts s) (W.lts l) (W.lts s) (W.lts l) (by omega) (by omega)), ?_⟩; ((conv => whnf); repeat (refine And.intro rfl ?_; (conv => whnf))))
      exact deep_eq (by simp [dbool])
  · rw [if_neg (by ((try simp only [bne_iff_ne, ne_eq, bne_eq_false_iff_eq, beq_iff_eq, beq_eq_false_iff_ne, decide_eq_true_eq, decide_eq_false_iff_not, List.length_map, Bool.not_eq_true, Bool.not_eq_false, Bool.and_eq_true, Bool.or_eq_true, Bool.and_eq_false_iff, Bool.or_eq_false_iff, Bool.not_eq_true', Bool.not_eq_false', Bool.not_true, Bool.not_false, Bool.not_eq_eq_eq_not, not_true_eq_false, not_false_eq_true, reduceCtorEq, Bool.true_or, Bool.false_or, Bool.or_true, Bool.or_false, Bool.true_and, Bool.and_true, Bool.false_and, Bool.and_false, true_and, and_true, or_false, false_or, true_or, or_true, false_and, and_false, Bool.true_eq_false, Bool.false_eq_true] at *) <;> omega))] at eG
    rw [if_pos eG] at hb
    subst hb
    rw [eG]
    ((conv => whnf); repeat (refine And.intro rfl ?_; (conv => whnf)))
    (refine .inl ⟨_, (ref_Path W hW W.start hW.start s l (by ((try simp only [bne_iff_ne, ne_eq, bne_eq_false_iff_eq, beq_iff_eq, beq_eq_false_iff_ne, decide_eq_true_eq, decide_eq_false_iff_not, List.length_map, Bool.not_eq_true, Bool.not_eq_false, Bool.and_eq_true, Bool.or_eq_true, Bool.and_eq_false_iff, Bool.or_eq_false_iff, Bool.not_eq_true', Bool.not_eq_false', Bool.not_true, Bool.not_false, Bool.not_eq_eq_eq_not, not_true_eq_false, not_false_eq_true, reduceCtorEq, Bool.true_or, Bool.false_or, Bool.or_true, Bool.or_false, Bool.true_and, Bool.and_true, Bool.false_and, Bool.and_false, true_and, and_true, or_false, false_or, true_or, or_true, false_and, and_false, Bool.true_eq_false, Bool.false_eq_true] at *) <;> omega)) (by ((try simp only [bne_iff_ne, ne_eq, bne_eq_false_iff_eq, beq_iff_eq, beq_eq_false_iff_ne, decide_eq_true_eq, decide_eq_false_iff_not, List.length_map, Bool.not_eq_true, Bool.not_eq_false, Bool.and_eq_true, Bool.or_eq_true, Bool.and_eq_false_iff, Bool.or_eq_false_iff, Bool.not_eq_true', Bool.not_eq_false', Bool.not_true, Bool.not_false, Bool.not_eq_eq_eq_not, not_true_eq_false, not_false_eq_true, reduceCtorEq, Bool.true_or, Bool.false_or, Bool.or_true, Bool.or_false, Bool.true_and, Bool.and_true, Bool.false_and, Bool.and_false, true_and, and_true, or_false, false_or, true_or, or_true, false_and, and_false, Bool.true_eq_false, Bool.false_eq_true] at *) <;> omega))), ?_⟩; ((conv => whnf); repeat (refine And.intro rfl ?_; (conv => whnf))))
    have hb : (W.goodB W.start s l == W.goodB W.start s l) = true := by simp
    rw [hb]
    ((conv => whnf); repeat (refine And.intro rfl ?_; (conv => whnf)))
    have w1 : l.length = 0 → W.onB s l = false := fun q => by rw [← Bool.not_eq_true, hon]; exact fun ⟨q1, _⟩ => q1 q
    have w2 : inB s W.next.length = false → W.onB s l = false := fun q => by rw [← Bool.not_eq_true, hon, q]; exact fun ⟨_, q1, _⟩ => absurd q1 (by simp)
    have w3 : inB l W.next.length = false → W.onB s l = false := fun q => by rw [← Bool.not_eq_true, hon, q]; exact fun ⟨_, _, q1⟩ => absurd q1 (by simp)
    have zero : W.onB s l = false → W.wordE s l = 1 := fun q => by rw [eX, if_pos q]
    have none : W.wordE s l = 1 → xs = [] ∧ xl = [] := fun h => none (by rw [h]; decide)
    rw [List.length_map]
    (refine ifK_split (fun g1 => ?_) (fun g1 => ?_) <;> (rw [g1]; ((conv => whnf); repeat (refine And.intro rfl ?_; (conv => whnf)))))
    · have z := zero (w1 (by ((try simp only [bne_iff_ne, ne_eq, bne_eq_false_iff_eq, beq_iff_eq, beq_eq_false_iff_ne, decide_eq_true_eq, decide_eq_false_iff_not, List.length_map, Bool.not_eq_true, Bool.not_eq_false, Bool.and_eq_true, Bool.or_eq_true, Bool.and_eq_false_iff, Bool.or_eq_false_iff, Bool.not_eq_true', Bool.not_eq_false', Bool.not_true, Bool.not_false, Bool.not_eq_eq_eq_not, not_true_eq_false, not_false_eq_true, reduceCtorEq, Bool.true_or, Bool.false_or, Bool.or_true, Bool.or_false, Bool.true_and, Bool.and_true, Bool.false_and, Bool.and_false, true_and, and_true, or_false, false_or, true_or, or_true, false_and, and_false, Bool.true_eq_false, Bool.false_eq_true] at *) <;> omega)))
      obtain ⟨rfl, rfl⟩ := none z
      rw [z]
      ((conv => whnf); repeat (refine And.intro rfl ?_; (conv => whnf)))
      (refine .inl ⟨_, (same_word0 [] [] (by simp) (by simp)), ?_⟩; ((conv => whnf); repeat (refine And.intro rfl ?_; (conv => whnf))))
      exact .refl _
    rw [List.length_map]
    (refine .inl ⟨_, (ref_In s (by omega) W.next.length), ?_⟩; ((conv => whnf); repeat (refine And.intro rfl ?_; (conv => whnf))))
    (refine ifK_split (fun g2 => ?_) (fun g2 => ?_) <;> (rw [g2]; ((conv => whnf); repeat (refine And.intro rfl ?_; (conv => whnf)))))
    · have z := zero (w2 (by simpa using g2))
      obtain ⟨rfl, rfl⟩ := none z
      rw [z]
      ((conv => whnf); repeat (refine And.intro rfl ?_; (conv => whnf)))
      (refine .inl ⟨_, (same_word0 [] [] (by simp) (by simp)), ?_⟩; ((conv => whnf); repeat (refine And.intro rfl ?_; (conv => whnf))))
      exact .refl _
    rw [List.length_map]
    (refine .inl ⟨_, (ref_In l (by omega) W.next.length), ?_⟩; ((conv => whnf); repeat (refine And.intro rfl ?_; (conv => whnf))))
    (refine ifK_split (fun g3 => ?_) (fun g3 => ?_) <;> (rw [g3]; ((conv => whnf); repeat (refine And.intro rfl ?_; (conv => whnf)))))
    · have z := zero (w3 (by simpa using g3))
      obtain ⟨rfl, rfl⟩ := none z
      rw [z]
      ((conv => whnf); repeat (refine And.intro rfl ?_; (conv => whnf)))
      (refine .inl ⟨_, (same_word0 [] [] (by simp) (by simp)), ?_⟩; ((conv => whnf); repeat (refine And.intro rfl ?_; (conv => whnf))))
      exact .refl _
    have g1 : l.length ≠ 0 := by ((try simp only [bne_iff_ne, ne_eq, bne_eq_false_iff_eq, beq_iff_eq, beq_eq_false_iff_ne, decide_eq_true_eq, decide_eq_false_iff_not, List.length_map, Bool.not_eq_true, Bool.not_eq_false, Bool.and_eq_true, Bool.or_eq_true, Bool.and_eq_false_iff, Bool.or_eq_false_iff, Bool.not_eq_true', Bool.not_eq_false', Bool.not_true, Bool.not_false, Bool.not_eq_eq_eq_not, not_true_eq_false, not_false_eq_true, reduceCtorEq, Bool.true_or, Bool.false_or, Bool.or_true, Bool.or_false, Bool.true_and, Bool.and_true, Bool.false_and, Bool.and_false, true_and, and_true, or_false, false_or, true_or, or_true, false_and, and_false, Bool.true_eq_false, Bool.false_eq_true] at *) <;> omega)
    have g2 : inB s W.next.length = true := by simpa using g2
    have g3 : inB l W.next.length = true := by simpa using g3
    rw [if_neg (by rw [hon.2 ⟨g1, g2, g3⟩]; simp)] at eX
    rw [eX]
    (refine .inl ⟨_, (ref_WordOf W hW hlab.1 s l hs hl g2 g3), ?_⟩; ((conv => whnf); repeat (refine And.intro rfl ?_; (conv => whnf))))
    (refine .inl ⟨_, (ref_Word (W.lts s) (W.lts l)), ?_⟩; ((conv => whnf); repeat (refine And.intro rfl ?_; (conv => whnf))))
    (refine ifK_split (fun g4 => ?_) (fun g4 => ?_) <;> (rw [g4]; ((conv => whnf); repeat (refine And.intro rfl ?_; (conv => whnf)))))
    · have g4 : wchk (W.lts s) (W.lts l) ≠ 0 := by ((try simp only [bne_iff_ne, ne_eq, bne_eq_false_iff_eq, beq_iff_eq, beq_eq_false_iff_ne, decide_eq_true_eq, decide_eq_false_iff_not, List.length_map, Bool.not_eq_true, Bool.not_eq_false, Bool.and_eq_true, Bool.or_eq_true, Bool.and_eq_false_iff, Bool.or_eq_false_iff, Bool.not_eq_true', Bool.not_eq_false', Bool.not_true, Bool.not_false, Bool.not_eq_eq_eq_not, not_true_eq_false, not_false_eq_true, reduceCtorEq, Bool.true_or, Bool.false_or, Bool.or_true, Bool.or_false, Bool.true_and, Bool.and_true, Bool.false_and, Bool.and_false, true_and, and_true, or_false, false_or, true_or, or_true, false_and, and_false, Bool.true_eq_false, Bool.false_eq_true] at *) <;> omega)
      have hb : (wchk (W.lts s) (W.lts l) == wchk (W.lts s) (W.lts l)) = true := by simp
      obtain ⟨rfl, rfl⟩ : xs = [] ∧ xl = [] := by rw [hxs, hxl, eX, if_neg g4, if_neg g4]; exact ⟨rfl, rfl⟩
      rw [hb]
      ((conv => whnf); repeat (refine And.intro rfl ?_; (conv => whnf)))
      (refine .inl ⟨_, (same_word0 [] [] (by simp) (by simp)), ?_⟩; ((conv => whnf); repeat (refine And.intro rfl ?_; (conv => whnf))))
      exact .refl _
    · have g4 : wchk (W.lts s) (W.lts l) = 0 := by ((try simp only [bne_iff_ne, ne_eq, bne_eq_false_iff_eq, beq_iff_eq, beq_eq_false_iff_ne, decide_eq_true_eq, decide_eq_false_iff_not, List.length_map, Bool.not_eq_true, Bool.not_eq_false, Bool.and_eq_true, Bool.or_eq_true, Bool.and_eq_false_iff, Bool.or_eq_false_iff, Bool.not_eq_true', Bool.not_eq_false', Bool.not_true, Bool.not_false, Bool.not_eq_eq_eq_not, not_true_eq_false, not_false_eq_true, reduceCtorEq, Bool.true_or, Bool.false_or, Bool.or_true, Bool.or_false, Bool.true_and, Bool.and_true, Bool.false_and, Bool.and_false, true_and, and_true, or_false, false_or, true_or, or_true, false_and, and_false, Bool.true_eq_false, Bool.false_eq_true] at *) <;> omega)
      have hb : (wchk (W.lts s) (W.lts l) == 0) = true := by simp [g4]
      have z := (wchk_zero _ _).1 g4
      obtain ⟨rfl, rfl⟩ : xs = W.lts s ∧ xl = W.lts l := by rw [hxs, hxl, eX, if_pos g4, if_pos g4]; exact ⟨rfl, rfl⟩
      rw [hb]
      ((conv => whnf); repeat (refine And.intro rfl ?_; (conv => whnf)))
      (refine .inl ⟨_, (ref_SameWord (W.lts s) (W.lts l) (W.lts s) (W.lts l) (by omega) (by omega)), ?_⟩; ((conv => whnf); repeat (refine And.intro rfl ?_; (conv => whnf))))
      exact deep_eq (by simp [dbool])
theorem argGrid {P : Program} {t e u : TypeId} {ts : List TypeId} {cs : List D} (ht : P.underlying t = some (.slice e)) (he : P.underlying e = some (.slice u)) (hu : P.underlying u = some (.int .i64)) (hc : P.cellsOf u = 1) (hce : P.cellsOf e = 1) (hb : P.bytesOf u = 8) (hbe : 8 ≤ P.bytesOf e) (h : OfTs P (t :: ts) cs) :
    ∃ (g : List (List Int)) (r : List D), cs = dgrid g :: r ∧ g.length ≤ 17592186043904 ∧ (∀ l ∈ g, l.length ≤ 17592186043904) ∧ OfTs P ts r := by
  obtain ⟨xs, r, rfl, ⟨hz0, hz⟩, hx, hr⟩ := ofTs_sliceZ ht h
  have : ∃ g : List (List Int), xs = g.map (fun l => [dints l]) ∧ ∀ l ∈ g, l.length ≤ 17592186043904 := by
    clear hz hz0 h hr
    induction xs with
    | nil => exact ⟨[], rfl, by simp⟩
    | cons x xs ih =>
      cases hx with
      | cons _ _ _ h1 h2 =>
        obtain ⟨g, rfl, hg⟩ := ih h2
        obtain ⟨ys, rfl, ⟨_, hy⟩, h3⟩ := of_sliceZ he h1
        obtain ⟨l, rfl, _⟩ := of_cells (f := fun n : Int => .int .i64 n) (ok := fun _ => True) (fun cs h => by obtain ⟨n, e, _⟩ := of_int hu h; exact ⟨n, e, trivial⟩) h3
        rw [hc]
        refine ⟨l :: g, rfl, fun a ha => ?_⟩
        rcases List.mem_cons.1 ha with rfl | ha
        · rw [hb, List.length_map] at hy; omega
        · exact hg a ha
  obtain ⟨g, rfl, hg⟩ := this
  rw [hce]
  refine ⟨g, r, rfl, ?_, hg, hr⟩
  rw [List.length_map] at hz
  have := Nat.mul_le_mul_left g.length hbe
  omega
theorem argList {P : Program} {t u : TypeId} {k : IntKind} {ts : List TypeId} {cs : List D} (ht : P.underlying t = some (.slice u)) (hu : P.underlying u = some (.int k)) (hc : P.cellsOf u = 1) (hb : P.bytesOf u = 8) (h : OfTs P (t :: ts) cs) :
    ∃ (l : List Int) (r : List D), cs = .lst 1 (l.map fun n => [.sc (.int k n)]) :: r ∧ l.length ≤ 17592186043904 ∧ OfTs P ts r := by
  obtain ⟨xs, r, rfl, ⟨_, hz⟩, hx, hr⟩ := ofTs_sliceZ ht h
  obtain ⟨l, rfl, _⟩ := of_cells (f := fun n : Int => .int k n) (ok := fun _ => True) (fun cs h => by obtain ⟨n, e, _⟩ := of_int hu h; exact ⟨n, e, trivial⟩) hx
  rw [hc]
  rw [hb, List.length_map] at hz
  exact ⟨l, r, rfl, by omega, hr⟩
namespace worldPaths
set_option maxRecDepth 100000 in
theorem law : ∀ Ds, OfAs Try.prog [76, 78] Ds → PCall Try.prog 10 Ds (dbool true)
  | [d, e], h => by
    obtain ⟨h1, h2, _⟩ := h
    unfold OfA at h1 h2
    rw [Try.underlying76] at h1
    rw [Try.underlying78] at h2
    obtain ⟨cs, rfl, h1⟩ := h1
    obtain ⟨ds, rfl, h2⟩ := h2
    have k1 := of_struct Try.underlying76 h1
    have k2 := of_struct Try.underlying78 h2
    simp only [List.map_cons, List.map_nil] at k1 k2
    obtain ⟨start, r, rfl, b1, k1⟩ := argList Try.underlying24 Try.underlying3 (by kernel_rfl) (by kernel_rfl) k1
    obtain ⟨next, r, rfl, b2, b2', k1⟩ := argGrid Try.underlying25 Try.underlying24 Try.underlying3 (by kernel_rfl) (by kernel_rfl) (by kernel_rfl) (of_decide_eq_true (by kernel_rfl)) k1
    obtain ⟨label, r, rfl, b3, k1⟩ := argList Try.underlying27 Try.underlying94 (by kernel_rfl) (by kernel_rfl) k1
    obtain ⟨fair, r, rfl, b4, b4', k1⟩ := argGrid Try.underlying25 Try.underlying24 Try.underlying3 (by kernel_rfl) (by kernel_rfl) (by kernel_rfl) (of_decide_eq_true (by kernel_rfl)) k1
    obtain rfl := ofTs_nil k1
    obtain ⟨s, r, rfl, b5, k2⟩ := argList Try.underlying24 Try.underlying3 (by kernel_rfl) (by kernel_rfl) k2
    obtain ⟨l, r, rfl, b6, k2⟩ := argList Try.underlying24 Try.underlying3 (by kernel_rfl) (by kernel_rfl) k2
    obtain rfl := ofTs_nil k2
    exact law_WorldPaths ⟨start, next, label, fair⟩ ⟨b1, b2, b3, b4, b2', b4'⟩ s l b5 b6
theorem types : typesOK Try.prog [76, 78, 24, 25, 27, 3, 94] = true := by kernel_rfl
set_option maxRecDepth 100000 in
theorem laidOut : laidOutB Try.prog = true := by kernel_rfl
set_option maxRecDepth 100000 in
theorem readable : (Try.f10.params.toList.all fun t => Try.prog.readableRec t && decide (t < Try.prog.types.size)) = true := by kernel_rfl
theorem own : ownKnob Try.prog.godebug = none := by kernel_rfl
set_option maxRecDepth 100000 in
theorem lifted (os : Os) (started : os.Started) (H : Type) (enc : TypeId × Value → H) :
    ReturnsInHanded {} Try.checked os 10 .any (Rows.worldPathsSpec.pre6 enc Try.prog Try.f10 Rows.worldPathsRow.domain false) (Rows.worldPathsSpec.post enc Try.prog Try.f10 false true false false) := by
  refine returnsInHanded_of_change_sized (C := Try.checked) own started (by kernel_rfl) Try.func10
    (ChangeSpec.witness6 (enc := enc) (C := Try.checked) false ⟨#[], #[.agg #[.slice none 0 0, .slice none 0 0, .slice none 0 0, .slice none 0 0], .agg #[.slice none 0 0, .slice none 0 0]], []⟩ 8 (by kernel_rfl) (by kernel_rfl) (by kernel_rfl) (by kernel_rfl)) ?_
  intro W base args ds gs before hval0 hW _ hsz _
  have hval : ∀ (j : Nat) t v, Try.f10.params[j]? = some t → args[j]? = some v → Value.okWide Try.prog W .any base t v := hval0
  have hW' := hW
  obtain ⟨p, q, hA0, hV, _, hfz, hnd⟩ := hW
  have hA : DataW.TrodAll enc Try.prog W 0 (fun _ => true) true Try.f10.params.toList args.toList ds p := hA0
  have hps : Try.f10.params.toList = [76, 78] := by kernel_rfl
  obtain ⟨Ds, hD, hR⟩ := args_rep types (base := base) _ _ _ _ (fun t ht => by rw [hps] at ht; revert t; decide) (fun j t v h1 h2 => hval j t v (by simpa using h1) (by simpa using h2)) hA fun n hn => by
    have := List.all_eq_true.1 hsz n (weightsEach_pre _ _ _ _ (trodAll_len _ _ _ _ hA).symm n hn)
    simpa using this
  rw [hps] at hD
  have hC := (law Ds hD).run noInj (There W) W args.toList (fun b h => h) hR
  rw [show args.toList.toArray = args from rfl] at hC
  refine hC.mono fun e W' ⟨v, F', he, _, hv, hx⟩ => ?_
  have hv' : v = .bool true := by simpa only [rep, dbool] using hv
  subst he hv'
  exact ⟨_, rfl, row_post hW' rfl (by kernel_rfl) Try.underlying4 laidOut (fun t ht => by
      have := List.all_eq_true.1 readable t ht
      simp only [Bool.and_eq_true, decide_eq_true_eq] at this
      exact this) (fun ds h => by rw [hps] at h; match ds, h with | [_, _], _ => rfl) (below_of_ext hx) (ok_one (by kernel_rfl) rfl (okWide_bool_mk Try.underlying4 _))⟩

theorem over : Rows.worldPathsRow.holds Try.pinned (OpenSpec.ofChange Rows.worldPathsSpec) :=
  OpenClaim.holds_of_wide 10 Try.f10 rfl rfl rfl rfl rfl rfl rfl ⟨rfl, rfl, rfl, rfl, rfl⟩ rfl rfl rfl rfl rfl (by kernel_rfl) Try.func10 (by kernel_rfl)
    (of_decide_eq_true (by kernel_rfl)) (by unfold Func.isWrapper; first | (rw [if_pos (by decide +kernel)]; kernel_rfl) | (rw [if_neg (by decide +kernel)]; exact ⟨rfl, rfl⟩))
    (fun os started H enc _ => lifted os started H enc)

theorem proved : Rows.WorldPathsSaid := over
end worldPaths
end Go.Proofs.Ytkkfiadefekbbaa
