/-
  The reference's shortest word, over deep values. No statement is proved here.
-/
import Derived.Test.YtkkfiadefekbbaaLas3
namespace Go.Proofs.Ytkkfiadefekbbaa
open Go.RowKit
set_option linter.unusedSimpArgs false
def c18_3 : PC := .seq (.seq (.ops [⟨(some 28), .move (.tmp 7), none, 0⟩,
    ⟨(some 29), .move (.tmp 5), none, 0⟩,
    ⟨(some 30), .bin .lss (.tmp 28) (.tmp 29), none, 0⟩] false) (.cond (.tmp 30) (.skip) (.exit 4))) (.seq (.block 5 (.ops [⟨(some 33), .faddr 0 (.tmp 6), none, 0⟩,
    ⟨(some 34), .load1 (.tmp 33), none, 1⟩,
    ⟨(some 35), .loadA 2 (.tmp 1), none, 0⟩,
    ⟨(some 36), .move (.tmp 7), none, 0⟩,
    ⟨(some 37), .call 56 [(.tmp 35), (.tmp 36)], none, 12⟩,
    ⟨(some 38), .bslice 1 1 [(.tmp 37)], none, 28⟩,
    ⟨(some 39), .append 1 8 (.tmp 34) (.tmp 38), none, 63⟩,
    ⟨(some 40), .faddr 0 (.tmp 6), none, 127⟩,
    ⟨none, .store 1 (.tmp 40) (.tmp 39), none, 255⟩] true)) (.ops [⟨(some 31), .move (.tmp 7), none, 0⟩,
    ⟨(some 32), .bin .add (.tmp 31) (.const (.int .i64 1)), none, 0⟩,
    ⟨(some 7), .move (.tmp 32), none, 0⟩] false))
def c18_4 : PC := .seq (.seq (.ops [⟨(some 42), .move (.tmp 8), none, 0⟩,
    ⟨(some 43), .move (.tmp 5), none, 0⟩,
    ⟨(some 44), .move (.tmp 4), none, 0⟩,
    ⟨(some 45), .bin .add (.tmp 43) (.tmp 44), none, 0⟩,
    ⟨(some 46), .bin .lss (.tmp 42) (.tmp 45), none, 0⟩] false) (.cond (.tmp 46) (.skip) (.exit 6))) (.seq (.block 7 (.ops [⟨(some 49), .faddr 1 (.tmp 6), none, 0⟩,
    ⟨(some 50), .load1 (.tmp 49), none, 1⟩,
    ⟨(some 51), .loadA 2 (.tmp 1), none, 0⟩,
    ⟨(some 52), .move (.tmp 8), none, 0⟩,
    ⟨(some 53), .call 56 [(.tmp 51), (.tmp 52)], none, 12⟩,
    ⟨(some 54), .bslice 1 1 [(.tmp 53)], none, 28⟩,
    ⟨(some 55), .append 1 8 (.tmp 50) (.tmp 54), none, 63⟩,
    ⟨(some 56), .faddr 1 (.tmp 6), none, 127⟩,
    ⟨none, .store 1 (.tmp 56) (.tmp 55), none, 255⟩] true)) (.ops [⟨(some 47), .move (.tmp 8), none, 0⟩,
    ⟨(some 48), .bin .add (.tmp 47) (.const (.int .i64 1)), none, 0⟩,
    ⟨(some 8), .move (.tmp 48), none, 0⟩] false))
def c18_5 : PC := .seq (.seq (.ops [⟨(some 57), .move (.tmp 10), none, 0⟩,
    ⟨(some 58), .move (.tmp 3), none, 0⟩,
    ⟨(some 59), .bin .mul (.const (.int .i64 2)) (.tmp 58), none, 0⟩,
    ⟨(some 60), .move (.tmp 4), none, 0⟩,
    ⟨(some 61), .bin .mul (.const (.int .i64 2)) (.tmp 60), none, 0⟩,
    ⟨(some 62), .bin .add (.tmp 59) (.tmp 61), none, 0⟩,
    ⟨(some 63), .bin .lss (.tmp 57) (.tmp 62), none, 0⟩,
    ⟨(some 64), .move (.tmp 63), none, 0⟩,
    ⟨(some 65), .move (.tmp 9), (some (64, true)), 0⟩,
    ⟨(some 66), .pick (.tmp 64) (.tmp 65) (.const (.bool false)), none, 0⟩] false) (.cond (.tmp 66) (.skip) (.exit 8))) (.seq (.block 9 (.ops [⟨(some 69), .loadA 2 (.tmp 1), none, 0⟩,
    ⟨(some 70), .move (.tmp 10), none, 0⟩,
    ⟨(some 71), .call 56 [(.tmp 69), (.tmp 70)], none, 3⟩,
    ⟨(some 72), .loadA 2 (.tmp 6), none, 0⟩,
    ⟨(some 73), .move (.tmp 10), none, 0⟩,
    ⟨(some 74), .call 56 [(.tmp 72), (.tmp 73)], none, 31⟩,
    ⟨(some 75), .bin .eql (.tmp 71) (.tmp 74), none, 63⟩,
    ⟨(some 9), .move (.tmp 75), none, 127⟩] true)) (.ops [⟨(some 67), .move (.tmp 10), none, 0⟩,
    ⟨(some 68), .bin .add (.tmp 67) (.const (.int .i64 1)), none, 0⟩,
    ⟨(some 10), .move (.tmp 68), none, 0⟩] false))
def c18_2 : PC := .seq (.seq (.ops [⟨(some 20), .move (.tmp 5), none, 0⟩,
    ⟨(some 21), .faddr 0 (.tmp 1), none, 0⟩,
    ⟨(some 22), .load1 (.tmp 21), none, 0⟩,
    ⟨(some 23), .len (.tmp 22), none, 0⟩,
    ⟨(some 24), .bin .leq (.tmp 20) (.tmp 23), none, 0⟩] false) (.cond (.tmp 24) (.skip) (.exit 2))) (.seq (.block 3 (.seq (.ops [⟨(some 27), .build [(.slice none 0 0), (.slice none 0 0)] [], none, 0⟩,
    ⟨(some 6), .alloc [(.slice none 0 0), (.slice none 0 0)], none, 0⟩,
    ⟨none, .store 2 (.tmp 6) (.tmp 27), none, 0⟩] false) (.seq (.seq (.ops [⟨(some 7), .move (.const (.int .i64 0)), none, 0⟩] false) (.block 4 (.loop c18_3))) (.seq (.seq (.ops [⟨(some 41), .move (.tmp 5), none, 0⟩,
    ⟨(some 8), .move (.tmp 41), none, 0⟩] false) (.block 6 (.loop c18_4))) (.seq (.ops [⟨(some 9), .move (.const (.bool true)), none, 0⟩] false) (.seq (.seq (.ops [⟨(some 10), .move (.const (.int .i64 0)), none, 0⟩] false) (.block 8 (.loop c18_5))) (.seq (.ops [⟨(some 76), .move (.tmp 9), none, 0⟩] false) (.cond (.tmp 76) (.seq (.ops [⟨(some 77), .loadA 2 (.tmp 6), none, 0⟩,
    ⟨none, .store 2 (.tmp 2) (.tmp 77), none, 0⟩] false) (.ret)) (.skip))))))))) (.ops [⟨(some 25), .move (.tmp 5), none, 0⟩,
    ⟨(some 26), .bin .add (.tmp 25) (.const (.int .i64 1)), none, 0⟩,
    ⟨(some 5), .move (.tmp 26), none, 0⟩] false))
def c18_1 : PC := .seq (.block 1 (.seq (.ops [⟨(some 5), .move (.const (.int .i64 0)), none, 0⟩] false) (.block 2 (.loop c18_2)))) (.ops [⟨(some 18), .move (.tmp 4), none, 0⟩,
    ⟨(some 19), .bin .add (.tmp 18) (.const (.int .i64 1)), none, 0⟩,
    ⟨(some 4), .move (.tmp 19), none, 0⟩] false)
def c18 : PC := .seq (.ops [⟨(some 1), .box (.tmp 0), none, 0⟩,
    ⟨(some 2), .alloc [(.slice none 0 0), (.slice none 0 0)], none, 0⟩] false) (.seq (.ops [⟨(some 11), .faddr 0 (.tmp 1), none, 0⟩,
    ⟨(some 12), .load1 (.tmp 11), none, 0⟩,
    ⟨(some 13), .len (.tmp 12), none, 0⟩,
    ⟨(some 14), .faddr 1 (.tmp 1), none, 0⟩,
    ⟨(some 15), .load1 (.tmp 14), none, 0⟩,
    ⟨(some 16), .len (.tmp 15), none, 0⟩,
    ⟨(some 17), .bin .add (.tmp 13) (.tmp 16), none, 0⟩,
    ⟨(some 3), .move (.tmp 17), none, 0⟩] false) (.seq (.ops [⟨(some 4), .move (.const (.int .i64 1)), none, 0⟩] false) (.block 0 (.loop c18_1))))
set_option maxRecDepth 100000 in
theorem c18_ok : FunOK Try.prog 18 78 [.agg 2 2] c18 := ⟨⟨Try.f18, Try.func18, rfl, by kernel_rfl, rfl, by kernel_rfl⟩⟩
def lets (l : List Int) : List (List D) := l.map fun n => [.sc (.int .u64 n)]
@[simp] theorem lets_len (l : List Int) : (lets l).length = l.length := by simp [lets]
theorem pure_lets (l : List Int) : PureLL (lets l) := pureLL_map _ (fun n => by simp [PureL, Pure]) l
theorem lets_snoc (f : Nat → Int) (b k : Nat) : List.drop 0 (List.take k (lets (seg f b k))) ++ [[D.sc (.int .u64 (f (b + k)))]] = lets (seg f b (k + 1)) := by
  rw [List.drop_zero, List.take_of_length_le (by simp), seg_succ]
  simp [lets]
set_option maxHeartbeats 1000000 in
theorem ref_LeastWord (s l : List Int) (a p : Nat) (hN : Norm (atW s l) s.length l.length a p) (hs : s.length + l.length ≤ 60) :
    PCall Try.prog 18 [dword s l] (dword (seg (atW s l) 0 a) (seg (atW s l) a p)) := by
  have hm := hN.m1
  have hp1 := hN.p1
  have hpm := hN.pm
  have has := hN.as
  have hAt : ∀ i : Nat, i ≤ 1000 → PCall Try.prog 56 [dword s l, .sc (.int .i64 i)] (.sc (.int .u64 (atW s l i))) := fun i hi => ref_At s l hm (by omega) (by omega) i (by omega)
  refine pcall_intro c18_ok (by simp) (by simp [PureL, pure_dword]) ?_ (pure_dword _ _)
  (apply red_sound; focus (repeat' (first | exact Red.skip | exact Red.ret | exact RedO.nil | exact RedD.nil | exact Red.exit _ | exact Red.loop _ | exact Red.stop _ | apply Red.ops | apply Red.draw | apply Red.seq | apply Red.cond | apply Red.block | apply RedO.cons | apply RedD.cons | exact (0 : Nat))))
  ((conv => whnf); repeat (refine And.intro rfl ?_; (conv => whnf)))
  rw [List.length_map, List.length_map]
  refine .inl ⟨by unfold InR; rw [IntKind.wrap_i64]; omega, ?_⟩
  ((conv => whnf); repeat (refine And.intro rfl ?_; (conv => whnf)))
  have zz : ∀ {z : Int} (k : Nat), z = k → (D.sc (.int .i64 z)) = .sc (.int .i64 (k : Int)) := fun k h => by rw [h]
  refine pwp_loopB (fun q : Nat => [(1, .loc 0 0), (2, .loc 1 0), (3, .sc (.int .i64 ((s.length : Int) + l.length))), (4, .sc (.int .i64 q))]) (fun _ => [.row true (wcells s l), .row true [.sc (.slice none 0 0), .sc (.slice none 0 0)]])
    (fun q => 1 ≤ q ∧ q ≤ p) (fun q => p - q) 1 ⟨by omega, by omega⟩ (leB_env ⟨rfl, rfl, rfl, rfl, trivial⟩) ?_
  rintro q ⟨hq1, hq2⟩
  (apply red_sound; focus (repeat' (first | exact Red.skip | exact Red.ret | exact RedO.nil | exact RedD.nil | exact Red.exit _ | exact Red.loop _ | exact Red.stop _ | apply Red.ops | apply Red.draw | apply Red.seq | apply Red.cond | apply Red.block | apply RedO.cons | apply RedD.cons | exact (0 : Nat))))
  ((conv => whnf); repeat (refine And.intro rfl ?_; (conv => whnf)))
  refine pwp_loopB (fun b : Nat => [(1, .loc 0 0), (2, .loc 1 0), (3, .sc (.int .i64 ((s.length : Int) + l.length))), (4, .sc (.int .i64 q)), (5, .sc (.int .i64 b))]) (fun _ => [.row true (wcells s l), .row true [.sc (.slice none 0 0), .sc (.slice none 0 0)]])
    (fun b => b ≤ s.length + 1 ∧ ∀ b', b' < b → ¬ Per (atW s l) b' q) (fun b => s.length + 1 - b) 0 ⟨by omega, fun b h => by omega⟩ (leB_env ⟨rfl, rfl, rfl, rfl, rfl, trivial⟩) ?_
  rintro b ⟨hb, hall⟩
  (apply red_sound; focus (repeat' (first | exact Red.skip | exact Red.ret | exact RedO.nil | exact RedD.nil | exact Red.exit _ | exact Red.loop _ | exact Red.stop _ | apply Red.ops | apply Red.draw | apply Red.seq | apply Red.cond | apply Red.block | apply RedO.cons | apply RedD.cons | exact (0 : Nat))))
  ((conv => whnf); repeat (refine And.intro rfl ?_; (conv => whnf)))
  rw [List.length_map]
  (refine ifK_split (fun g1 => ?_) (fun g1 => ?_) <;> (rw [g1]; ((conv => whnf); repeat (refine And.intro rfl ?_; (conv => whnf)))))
  · have g1 : b ≤ s.length := by ((try simp only [bne_iff_ne, ne_eq, bne_eq_false_iff_eq, beq_iff_eq, beq_eq_false_iff_ne, decide_eq_true_eq, decide_eq_false_iff_not, List.length_map, Bool.not_eq_true, Bool.not_eq_false, Bool.and_eq_true, Bool.or_eq_true, Bool.and_eq_false_iff, Bool.or_eq_false_iff, Bool.not_eq_true', Bool.not_eq_false', Bool.not_true, Bool.not_false, Bool.not_eq_eq_eq_not, not_true_eq_false, not_false_eq_true, reduceCtorEq, Bool.true_or, Bool.false_or, Bool.or_true, Bool.or_false, Bool.true_and, Bool.and_true, Bool.false_and, Bool.and_false, true_and, and_true, or_false, false_or, true_or, or_true, false_and, and_false, Bool.true_eq_false, Bool.false_eq_true] at *) <;> omega)
    refine pwp_loopB (fun k : Nat => [(1, .loc 0 0), (2, .loc 1 0), (3, .sc (.int .i64 ((s.length : Int) + l.length))), (4, .sc (.int .i64 q)), (5, .sc (.int .i64 b)), (6, .loc 2 0), (7, .sc (.int .i64 k))])
      (fun k => [.row true (wcells s l), .row true [.sc (.slice none 0 0), .sc (.slice none 0 0)], .row true [.own 3 k 0 k, .sc (.slice none 0 0)], .vec true k 1 (lets (seg (atW s l) 0 k))])
      (fun k => k ≤ b) (fun k => b - k) 0 (by omega) (leB_trans (leB_nilc 2 0 1 (by simp) rfl rfl) (leB_env ⟨rfl, rfl, rfl, rfl, rfl, rfl, rfl, trivial⟩)) ?_
    rintro k hk
    (apply red_sound; focus (repeat' (first | exact Red.skip | exact Red.ret | exact RedO.nil | exact RedD.nil | exact Red.exit _ | exact Red.loop _ | exact Red.stop _ | apply Red.ops | apply Red.draw | apply Red.seq | apply Red.cond | apply Red.block | apply RedO.cons | apply RedD.cons | exact (0 : Nat))))
    ((conv => whnf); repeat (refine And.intro rfl ?_; (conv => whnf)))
    (refine ifK_split (fun g2 => ?_) (fun g2 => ?_) <;> (rw [g2]; ((conv => whnf); repeat (refine And.intro rfl ?_; (conv => whnf)))))
    · have g2 : k < b := by ((try simp only [bne_iff_ne, ne_eq, bne_eq_false_iff_eq, beq_iff_eq, beq_eq_false_iff_ne, decide_eq_true_eq, decide_eq_false_iff_not, List.length_map, Bool.not_eq_true, Bool.not_eq_false, Bool.and_eq_true, Bool.or_eq_true, Bool.and_eq_false_iff, Bool.or_eq_false_iff, Bool.not_eq_true', Bool.not_eq_false', Bool.not_true, Bool.not_false, Bool.not_eq_eq_eq_not, not_true_eq_false, not_false_eq_true, reduceCtorEq, Bool.true_or, Bool.false_or, Bool.or_true, Bool.or_false, Bool.true_and, Bool.and_true, Bool.false_and, Bool.and_false, true_and, and_true, or_false, false_or, true_or, or_true, false_and, and_false, Bool.true_eq_false, Bool.false_eq_true] at *) <;> omega)
      (refine .inl ⟨_, (hAt k (by omega)), ?_⟩; ((conv => whnf); repeat (refine And.intro rfl ?_; (conv => whnf))))
      refine ⟨by unfold sliceAppend; simp only [List.length_cons, List.length_nil, List.drop_zero, List.take_succ_cons, List.take_zero]; omega, ?_⟩
      ((conv => whnf); repeat (refine And.intro rfl ?_; (conv => whnf)))
      refine .inl ⟨by unfold InR; rw [IntKind.wrap_i64]; omega, ?_⟩
      ((conv => whnf); repeat (refine And.intro rfl ?_; (conv => whnf)))
      refine ⟨k + 1, by omega, by dsimp only; omega, leB_close 4 (by simp) rfl ⟨.refl _, by simp [Under], .refl _, by simp [Under], .refl _, by simp [Under], .refl _, by simp [Under], .refl _, by simp [Under], .refl _, by simp [Under], .refl _, by simp [Under], trivial⟩
        ⟨⟨rfl, .refl _, underL_pure _ (pure_wcells s l)⟩, ⟨rfl, .refl _, by simp [UnderL, Under]⟩, ⟨rfl, .refl _, by simp [UnderL, Under]⟩, ⟨rfl, rfl, rfl, deepMLL_eq ?_, underLL_pure _ (pure_lets _)⟩, trivial⟩⟩
      have := lets_snoc (atW s l) 0 k
      rw [Nat.zero_add] at this
      exact this
    have hkb : k = b := by have : ¬ k < b := by ((try simp only [bne_iff_ne, ne_eq, bne_eq_false_iff_eq, beq_iff_eq, beq_eq_false_iff_ne, decide_eq_true_eq, decide_eq_false_iff_not, List.length_map, Bool.not_eq_true, Bool.not_eq_false, Bool.and_eq_true, Bool.or_eq_true, Bool.and_eq_false_iff, Bool.or_eq_false_iff, Bool.not_eq_true', Bool.not_eq_false', Bool.not_true, Bool.not_false, Bool.not_eq_eq_eq_not, not_true_eq_false, not_false_eq_true, reduceCtorEq, Bool.true_or, Bool.false_or, Bool.or_true, Bool.or_false, Bool.true_and, Bool.and_true, Bool.false_and, Bool.and_false, true_and, and_true, or_false, false_or, true_or, or_true, false_and, and_false, Bool.true_eq_false, Bool.false_eq_true] at *) <;> omega)
                           omega
    subst hkb
    clear g2 hk
    refine pwp_loopB (fun k' : Nat => [(1, .loc 0 0), (2, .loc 1 0), (3, .sc (.int .i64 ((s.length : Int) + l.length))), (4, .sc (.int .i64 q)), (5, .sc (.int .i64 k)), (6, .loc 2 0), (8, .sc (.int .i64 ((k + k' : Nat) : Int)))])
      (fun k' => [.row true (wcells s l), .row true [.sc (.slice none 0 0), .sc (.slice none 0 0)], .row true [.own 3 k 0 k, .own 4 k' 0 k'], .vec true k 1 (lets (seg (atW s l) 0 k)), .vec true k' 1 (lets (seg (atW s l) k k'))])
      (fun k' => k' ≤ q) (fun k' => q - k') 0 (by omega) (leB_trans (leB_nilc 2 1 1 (by simp) rfl rfl) (leB_env ⟨rfl, rfl, rfl, rfl, rfl, rfl, rfl, trivial⟩)) ?_
    rintro k' hk'
    (apply red_sound; focus (repeat' (first | exact Red.skip | exact Red.ret | exact RedO.nil | exact RedD.nil | exact Red.exit _ | exact Red.loop _ | exact Red.stop _ | apply Red.ops | apply Red.draw | apply Red.seq | apply Red.cond | apply Red.block | apply RedO.cons | apply RedD.cons | exact (0 : Nat))))
    ((conv => whnf); repeat (refine And.intro rfl ?_; (conv => whnf)))
    refine .inl ⟨by unfold InR; rw [IntKind.wrap_i64]; omega, ?_⟩
    ((conv => whnf); repeat (refine And.intro rfl ?_; (conv => whnf)))
    (refine ifK_split (fun g2 => ?_) (fun g2 => ?_) <;> (rw [g2]; ((conv => whnf); repeat (refine And.intro rfl ?_; (conv => whnf)))))
    · have g2 : k' < q := by ((try simp only [bne_iff_ne, ne_eq, bne_eq_false_iff_eq, beq_iff_eq, beq_eq_false_iff_ne, decide_eq_true_eq, decide_eq_false_iff_not, List.length_map, Bool.not_eq_true, Bool.not_eq_false, Bool.and_eq_true, Bool.or_eq_true, Bool.and_eq_false_iff, Bool.or_eq_false_iff, Bool.not_eq_true', Bool.not_eq_false', Bool.not_true, Bool.not_false, Bool.not_eq_eq_eq_not, not_true_eq_false, not_false_eq_true, reduceCtorEq, Bool.true_or, Bool.false_or, Bool.or_true, Bool.or_false, Bool.true_and, Bool.and_true, Bool.false_and, Bool.and_false, true_and, and_true, or_false, false_or, true_or, or_true, false_and, and_false, Bool.true_eq_false, Bool.false_eq_true] at *) <;> omega)
      (refine .inl ⟨_, (hAt (k + k') (by omega)), ?_⟩; ((conv => whnf); repeat (refine And.intro rfl ?_; (conv => whnf))))
      refine ⟨by unfold sliceAppend; simp only [List.length_cons, List.length_nil, List.drop_zero, List.take_succ_cons, List.take_zero]; omega, ?_⟩
      ((conv => whnf); repeat (refine And.intro rfl ?_; (conv => whnf)))
      refine .inl ⟨by unfold InR; rw [IntKind.wrap_i64]; omega, ?_⟩
      ((conv => whnf); repeat (refine And.intro rfl ?_; (conv => whnf)))
      refine ⟨k' + 1, by omega, by dsimp only; omega, leB_close 5 (by simp) rfl ⟨.refl _, by simp [Under], .refl _, by simp [Under], .refl _, by simp [Under], .refl _, by simp [Under], .refl _, by simp [Under], .refl _, by simp [Under], .refl _, by simp [Under], trivial⟩
        ⟨⟨rfl, .refl _, underL_pure _ (pure_wcells s l)⟩, ⟨rfl, .refl _, by simp [UnderL, Under]⟩, ⟨rfl, .refl _, by simp [UnderL, Under]⟩, ⟨rfl, rfl, rfl, .refl _, underLL_pure _ (pure_lets _)⟩, ⟨rfl, rfl, rfl, deepMLL_eq (lets_snoc (atW s l) k k'), underLL_pure _ (pure_lets _)⟩, trivial⟩⟩
    have hkq : k' = q := by have : ¬ k' < q := by ((try simp only [bne_iff_ne, ne_eq, bne_eq_false_iff_eq, beq_iff_eq, beq_eq_false_iff_ne, decide_eq_true_eq, decide_eq_false_iff_not, List.length_map, Bool.not_eq_true, Bool.not_eq_false, Bool.and_eq_true, Bool.or_eq_true, Bool.and_eq_false_iff, Bool.or_eq_false_iff, Bool.not_eq_true', Bool.not_eq_false', Bool.not_true, Bool.not_false, Bool.not_eq_eq_eq_not, not_true_eq_false, not_false_eq_true, reduceCtorEq, Bool.true_or, Bool.false_or, Bool.or_true, Bool.or_false, Bool.true_and, Bool.and_true, Bool.false_and, Bool.and_false, true_and, and_true, or_false, false_or, true_or, or_true, false_and, and_false, Bool.true_eq_false, Bool.false_eq_true] at *) <;> omega)
                            omega
    subst hkq
    clear g2 hk'
    have hB : ∀ i : Nat, i ≤ 1000 → PCall Try.prog 56 [dword (seg (atW s l) 0 k) (seg (atW s l) k k'), .sc (.int .i64 i)] (.sc (.int .u64 (atW (seg (atW s l) 0 k) (seg (atW s l) k k') i))) := fun i hi => ref_At _ _ (by simp; omega) (by simp; omega) (by simp; omega) i (by omega)
    have hsame := same_iff hN.m1 hN.per (a := k) (q := k') (by omega) hq1
    have hdep : ∀ (m : Nat → Bool) (H : List AObj) (id v b n : Nat), H[id]? = some (.vec true v 1 (lets (seg (atW s l) b n))) → m id = true → DeepM m H (.own id v 0 n) (dlet (seg (atW s l) b n)) := fun m H id v b n h1 h2 =>
      .own _ _ _ _ _ _ _ _ h2 h1 (deepMLL_eq (by rw [List.drop_zero, List.take_of_length_le (by simp)]; rfl))
    refine pwp_loopB (fun x : Nat × Bool => [(1, .loc 0 0), (2, .loc 1 0), (3, .sc (.int .i64 ((s.length : Int) + l.length))), (4, .sc (.int .i64 k')), (5, .sc (.int .i64 k)), (6, .loc 2 0), (9, .sc (.bool x.2)), (10, .sc (.int .i64 x.1))])
      (fun _ => [.row true (wcells s l), .row true [.sc (.slice none 0 0), .sc (.slice none 0 0)], .row true (wcells (seg (atW s l) 0 k) (seg (atW s l) k k')), .vec false k 1 (lets (seg (atW s l) 0 k)), .vec false k' 1 (lets (seg (atW s l) k k'))])
      (fun x => x.1 ≤ 2 * (s.length + l.length) + 2 * k' ∧ (x.2 = true → ∀ j, j < x.1 → atW s l j = atW (seg (atW s l) 0 k) (seg (atW s l) k k') j) ∧ (x.2 = false → ¬ Per (atW s l) k k'))
      (fun x => 2 * (s.length + l.length) + 2 * k' - x.1) (0, true) ⟨by simp, fun _ j h => by simp at h, fun h => by simp at h⟩
      (leB_freeze (fromN 3) ⟨.refl _, .refl _, .refl _, .refl _, .refl _, .refl _, .refl _, .refl _, trivial⟩
        ⟨⟨.inl rfl, (fun h => by cases h), .refl _⟩, ⟨.inl rfl, (fun h => by cases h), .refl _⟩, ⟨.inl rfl, (fun h => by cases h), .cons _ _ _ _ (hdep _ _ 3 k 0 k rfl rfl) (.cons _ _ _ _ (hdep _ _ 4 k' k k' rfl rfl) (.refl _))⟩, ⟨.inr ⟨rfl, rfl⟩, fun _ => rfl, rfl, rfl, .refl _⟩, ⟨.inr ⟨rfl, rfl⟩, fun _ => rfl, rfl, rfl, .refl _⟩, trivial⟩) ?_
    rintro ⟨i, same⟩ ⟨hi, ht, hf⟩
    dsimp only at hi ht hf
    (apply red_sound; focus (repeat' (first | exact Red.skip | exact Red.ret | exact RedO.nil | exact RedD.nil | exact Red.exit _ | exact Red.loop _ | exact Red.stop _ | apply Red.ops | apply Red.draw | apply Red.seq | apply Red.cond | apply Red.block | apply RedO.cons | apply RedD.cons | exact (0 : Nat))))
    ((conv => whnf); repeat (refine And.intro rfl ?_; (conv => whnf)))
    refine .inl ⟨by unfold InR; rw [IntKind.wrap_i64]; omega, ?_⟩
    ((conv => whnf); repeat (refine And.intro rfl ?_; (conv => whnf)))
    refine .inl ⟨by unfold InR; rw [IntKind.wrap_i64]; omega, ?_⟩
    ((conv => whnf); repeat (refine And.intro rfl ?_; (conv => whnf)))
    refine .inl ⟨by unfold InR; rw [IntKind.wrap_i64]; omega, ?_⟩
    ((conv => whnf); repeat (refine And.intro rfl ?_; (conv => whnf)))
    have result : same = true → 2 * (s.length + l.length) + 2 * k' ≤ i → k = a ∧ k' = p := fun h1 h2 => by
      have hper := hsame.1 fun j hj => ht h1 j (by omega)
      have e1 : k' = p := by
        rcases Nat.lt_or_ge k' p with h | h
        · exact absurd (hper.mono g1) (hN.noP k' hq1 h)
        · omega
      subst e1
      refine ⟨?_, rfl⟩
      rcases Nat.lt_trichotomy k a with h | h | h
      · exact absurd hper (hN.noA k h)
      · exact h
      · exact absurd hN.ok (hall a h)
    have fail : same = false → ¬ Per (atW s l) k k' := hf
    have fin : ∀ {H : List AObj}, k = a ∧ k' = p → Deep H (.agg (wcells (seg (atW s l) 0 k) (seg (atW s l) k k'))) (dword (seg (atW s l) 0 a) (seg (atW s l) a p)) := fun ⟨h1, h2⟩ => by subst h1 h2; exact .refl _
    (refine ifK_split (fun g2 => ?_) (fun g2 => ?_) <;> (rw [g2]; ((conv => whnf); repeat (refine And.intro rfl ?_; (conv => whnf)))))
    · have g3 : i < 2 * (s.length + l.length) + 2 * k' := by ((try simp only [bne_iff_ne, ne_eq, bne_eq_false_iff_eq, beq_iff_eq, beq_eq_false_iff_ne, decide_eq_true_eq, decide_eq_false_iff_not, List.length_map, Bool.not_eq_true, Bool.not_eq_false, Bool.and_eq_true, Bool.or_eq_true, Bool.and_eq_false_iff, Bool.or_eq_false_iff, Bool.not_eq_true', Bool.not_eq_false', Bool.not_true, Bool.not_false, Bool.not_eq_eq_eq_not, not_true_eq_false, not_false_eq_true, reduceCtorEq, Bool.true_or, Bool.false_or, Bool.or_true, Bool.or_false, Bool.true_and, Bool.and_true, Bool.false_and, Bool.and_false, true_and, and_true, or_false, false_or, true_or, or_true, false_and, and_false, Bool.true_eq_false, Bool.false_eq_true] at *) <;> omega)
      clear g2
      cases same
      · ((conv => whnf); repeat (refine And.intro rfl ?_; (conv => whnf)))
        refine .inl ⟨by unfold InR; rw [IntKind.wrap_i64]; omega, ?_⟩
        ((conv => whnf); repeat (refine And.intro rfl ?_; (conv => whnf)))
        refine ⟨k + 1, ⟨by omega, fun b' hb' => ?_⟩, by dsimp only; omega, leB_close 2 (by simp) rfl ⟨.refl _, by simp [Under], .refl _, by simp [Under], .refl _, by simp [Under], .refl _, by simp [Under], .refl _, by simp [Under], trivial⟩
          ⟨⟨rfl, .refl _, underL_pure _ (pure_wcells s l)⟩, ⟨rfl, .refl _, by simp [UnderL, Under]⟩, trivial⟩⟩
        by_cases e : b' = k
        · subst e; exact fail rfl
        · exact hall b' (by omega)
      · ((conv => whnf); repeat (refine And.intro rfl ?_; (conv => whnf)))
        (refine .inl ⟨_, (hAt i (by omega)), ?_⟩; ((conv => whnf); repeat (refine And.intro rfl ?_; (conv => whnf))))
        (refine .inl ⟨_, (hB i (by omega)), ?_⟩; ((conv => whnf); repeat (refine And.intro rfl ?_; (conv => whnf))))
        refine .inl ⟨by unfold InR; rw [IntKind.wrap_i64]; omega, ?_⟩
        ((conv => whnf); repeat (refine And.intro rfl ?_; (conv => whnf)))
        refine ⟨(i + 1, atW s l i == atW (seg (atW s l) 0 k) (seg (atW s l) k k') i), ⟨by dsimp only; omega, fun h j hj => ?_, fun h hper => ?_⟩, by dsimp only; omega, leB_env ⟨rfl, rfl, rfl, rfl, rfl, rfl, rfl, rfl, trivial⟩⟩
        · dsimp only at h hj
          by_cases e : j = i
          · subst e; simpa using h
          · exact ht rfl j (by omega)
        · dsimp only at h
          have := hsame.2 hper i g3
          simp [this] at h
    · have g3 : 2 * (s.length + l.length) + 2 * k' ≤ i := by ((try simp only [bne_iff_ne, ne_eq, bne_eq_false_iff_eq, beq_iff_eq, beq_eq_false_iff_ne, decide_eq_true_eq, decide_eq_false_iff_not, List.length_map, Bool.not_eq_true, Bool.not_eq_false, Bool.and_eq_true, Bool.or_eq_true, Bool.and_eq_false_iff, Bool.or_eq_false_iff, Bool.not_eq_true', Bool.not_eq_false', Bool.not_true, Bool.not_false, Bool.not_eq_eq_eq_not, not_true_eq_false, not_false_eq_true, reduceCtorEq, Bool.true_or, Bool.false_or, Bool.or_true, Bool.or_false, Bool.true_and, Bool.and_true, Bool.false_and, Bool.and_false, true_and, and_true, or_false, false_or, true_or, or_true, false_and, and_false, Bool.true_eq_false, Bool.false_eq_true] at *) <;> omega)
      clear g2
      cases same
      · ((conv => whnf); repeat (refine And.intro rfl ?_; (conv => whnf)))
        refine .inl ⟨by unfold InR; rw [IntKind.wrap_i64]; omega, ?_⟩
        ((conv => whnf); repeat (refine And.intro rfl ?_; (conv => whnf)))
        refine ⟨k + 1, ⟨by omega, fun b' hb' => ?_⟩, by dsimp only; omega, leB_close 2 (by simp) rfl ⟨.refl _, by simp [Under], .refl _, by simp [Under], .refl _, by simp [Under], .refl _, by simp [Under], .refl _, by simp [Under], trivial⟩
          ⟨⟨rfl, .refl _, underL_pure _ (pure_wcells s l)⟩, ⟨rfl, .refl _, by simp [UnderL, Under]⟩, trivial⟩⟩
        by_cases e : b' = k
        · subst e; exact fail rfl
        · exact hall b' (by omega)
      · exact fin (result rfl g3)
  · have g1 : ¬ b ≤ s.length := by ((try simp only [bne_iff_ne, ne_eq, bne_eq_false_iff_eq, beq_iff_eq, beq_eq_false_iff_ne, decide_eq_true_eq, decide_eq_false_iff_not, List.length_map, Bool.not_eq_true, Bool.not_eq_false, Bool.and_eq_true, Bool.or_eq_true, Bool.and_eq_false_iff, Bool.or_eq_false_iff, Bool.not_eq_true', Bool.not_eq_false', Bool.not_true, Bool.not_false, Bool.not_eq_eq_eq_not, not_true_eq_false, not_false_eq_true, reduceCtorEq, Bool.true_or, Bool.false_or, Bool.or_true, Bool.or_false, Bool.true_and, Bool.and_true, Bool.false_and, Bool.and_false, true_and, and_true, or_false, false_or, true_or, or_true, false_and, and_false, Bool.true_eq_false, Bool.false_eq_true] at *) <;> omega)
    have hqp : q < p := by
      rcases Nat.lt_or_ge q p with h | h
      · exact h
      · have : q = p := by omega
        subst this
        exact absurd hN.ok (hall a (by omega))
    refine .inl ⟨by unfold InR; rw [IntKind.wrap_i64]; omega, ?_⟩
    ((conv => whnf); repeat (refine And.intro rfl ?_; (conv => whnf)))
    exact ⟨q + 1, ⟨by omega, by omega⟩, by dsimp only; omega, leB_env ⟨rfl, rfl, rfl, rfl, trivial⟩⟩
end Go.Proofs.Ytkkfiadefekbbaa
