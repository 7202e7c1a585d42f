/-
  The program's truths of a formula along a word: all formulas. No statement is proved here.
-/
import Derived.Test.YtkkfiadefekbbaaLh
import Derived.Test.YtkkfiadefekbbaaAw
namespace Go.Proofs.Ytkkfiadefekbbaa
open Go.RowKit
set_option linter.unusedSimpArgs false
theorem lett_at {s l : List Int} (hs : Lett s) (hl : Lett l) (i : Nat) : 0 ≤ atW s l i ∧ atW s l i < 18446744073709551616 := by
  have key : ∀ (q : List Int) (j : Nat), Lett q → 0 ≤ q.getD j 0 ∧ q.getD j 0 < 18446744073709551616 := fun q j hq => by
    rw [List.getD_eq_getElem?_getD]
    cases e : q[j]? with
    | none => simp
    | some x => exact hq x (List.mem_of_getElem? e)
  unfold atW
  split
  · exact key _ _ hs
  · exact key _ _ hl
theorem and_one {y : Int} (h : 0 ≤ y) (h' : y < 18446744073709551616) : bitsV .and .u64 y 1 = y.tmod 2 := by
  obtain ⟨n, rfl⟩ : ∃ n : Nat, y = n := ⟨y.toNat, by omega⟩
  have e : (BitVec.ofInt 64 (n : Int) &&& BitVec.ofInt 64 1).toNat = n % 2 := by
    rw [BitVec.toNat_and]
    have e1 : (BitVec.ofInt 64 (n : Int)).toNat = n := by rw [BitVec.toNat_ofInt]; omega
    have e2 : (BitVec.ofInt 64 1).toNat = 1 := by decide
    rw [e1, e2, Nat.and_one_is_mod]
  show IntKind.u64.wrap ((BitVec.ofInt 64 (n : Int) &&& BitVec.ofInt 64 1).toNat : Int) = _
  rw [e, show ((n : Int).tmod 2) = ((n % 2 : Nat) : Int) from (Int.ofNat_tmod n 2).symm]
  unfold IntKind.wrap
  simp [IntKind.bits, IntKind.signed]
  omega
theorem fdiv_range {x : Int} (h : 0 ≤ x) (h' : x < 18446744073709551616) (k : Nat) : 0 ≤ x.fdiv (2 ^ k) ∧ x.fdiv (2 ^ k) < 18446744073709551616 := by
  have hp : (0 : Int) < 2 ^ k := Int.pow_pos (by decide)
  rw [Int.fdiv_eq_ediv_of_nonneg _ (by omega)]
  exact ⟨Int.ediv_nonneg h (by omega), Int.lt_of_le_of_lt (Int.ediv_le_self _ h) h'⟩
/-- The kids' truths. -/
def kidsV (s l : List Int) (t : Tree) (k : Nat) : List (List D) := (List.range k).map fun j => [dbl (s.length + l.length) (trT s l (t.kid j))]
@[simp] theorem kidsV_len (s l : List Int) (t : Tree) (k : Nat) : (kidsV s l t k).length = k := by simp [kidsV]
theorem kidsV_at {s l : List Int} {t : Tree} {k j : Nat} (h : j < k) : (kidsV s l t k)[j]? = some [dbl (s.length + l.length) (trT s l (t.kid j))] := by
  simp [kidsV, List.getElem?_map, List.getElem?_range h]
theorem kidsV_succ (s l : List Int) (t : Tree) (k : Nat) : List.drop 0 (List.take k (kidsV s l t k)) ++ [[dbl (s.length + l.length) (trT s l (t.kid k))]] = kidsV s l t (k + 1) := by
  rw [List.drop_zero, List.take_of_length_le (by simp)]
  simp [kidsV, List.range_succ]
theorem pure_kidsV (s l : List Int) (t : Tree) (k : Nat) : PureLL (kidsV s l t k) := pureLL_map _ (fun j => by simp [PureL, pure_dbl]) _
def c93_1 : PC := .seq (.ops [⟨(some 25), .bin .lss (.tmp 24) (.tmp 23), none, 0⟩] false) (.seq (.cond (.tmp 25) (.skip) (.exit 0)) (.seq (.block 1 (.seq (.ops [⟨(some 26), .iaddr 3 (.tmp 22) (.tmp 24), none, 0⟩,
    ⟨(some 27), .loadA 3 (.tmp 26), none, 0⟩,
    ⟨(some 9), .alloc [(.int .i64 0), (.int .i64 0), (.slice none 0 0)], none, 0⟩,
    ⟨none, .store 3 (.tmp 9) (.tmp 27), none, 0⟩] false) (.ops [⟨(some 28), .move (.tmp 7), none, 0⟩,
    ⟨(some 29), .loadA 3 (.tmp 9), none, 0⟩,
    ⟨(some 30), .loadA 2 (.tmp 3), none, 0⟩,
    ⟨(some 31), .call 93 [(.tmp 29), (.tmp 30)], none, 0⟩,
    ⟨(some 32), .bslice 1 1 [(.tmp 31)], none, 0⟩,
    ⟨(some 33), .append 1 24 (.tmp 28) (.tmp 32), none, 0⟩,
    ⟨(some 7), .move (.tmp 33), none, 0⟩] false))) (.ops [⟨(some 34), .bin .add (.tmp 24) (.const (.int .i64 1)), none, 0⟩,
    ⟨(some 24), .move (.tmp 34), none, 0⟩] false)))
def c93_2 : PC := .seq (.ops [⟨(some 92), .bin .lss (.tmp 91) (.tmp 90), none, 0⟩] false) (.seq (.cond (.tmp 92) (.skip) (.exit 3)) (.seq (.block 4 (.seq (.ops [⟨(some 93), .move (.tmp 91), none, 0⟩,
    ⟨(some 11), .move (.tmp 93), none, 0⟩] false) (.seq (.ops [⟨(some 94), .faddr 0 (.tmp 2), none, 0⟩,
    ⟨(some 95), .load1 (.tmp 94), none, 0⟩] false) (.block 5 (.seq (.ops [⟨(some 97), .bin .eql (.tmp 95) (.const (.int .i64 3)), none, 0⟩,
    ⟨(some 96), .move (.tmp 97), none, 0⟩] false) (.cond (.tmp 96) (.ops [⟨(some 98), .move (.tmp 6), none, 0⟩,
    ⟨(some 99), .move (.tmp 11), none, 0⟩,
    ⟨(some 100), .loadA 2 (.tmp 3), none, 0⟩,
    ⟨(some 101), .move (.tmp 11), none, 0⟩,
    ⟨(some 102), .call 92 [(.tmp 100), (.tmp 101)], none, 12⟩,
    ⟨(some 103), .faddr 1 (.tmp 2), none, 0⟩,
    ⟨(some 104), .load1 (.tmp 103), none, 32⟩,
    ⟨(some 105), .bin .shr (.tmp 102) (.tmp 104), none, 124⟩,
    ⟨(some 106), .bin .and (.tmp 105) (.const (.int .u64 1)), none, 252⟩,
    ⟨(some 107), .bin .eql (.tmp 106) (.const (.int .u64 1)), none, 508⟩,
    ⟨(some 108), .iaddr 1 (.tmp 98) (.tmp 99), none, 1023⟩,
    ⟨none, .store 1 (.tmp 108) (.tmp 107), none, 2047⟩] true) (.seq (.ops [⟨(some 110), .bin .eql (.tmp 95) (.const (.int .i64 5)), none, 0⟩,
    ⟨(some 109), .move (.tmp 110), none, 0⟩] false) (.cond (.tmp 109) (.ops [⟨(some 111), .move (.tmp 6), none, 0⟩,
    ⟨(some 112), .move (.tmp 11), none, 0⟩,
    ⟨(some 113), .move (.tmp 7), none, 0⟩,
    ⟨(some 114), .iaddr 1 (.tmp 113) (.const (.int .i64 0)), none, 0⟩,
    ⟨(some 115), .load1 (.tmp 114), none, 0⟩,
    ⟨(some 116), .move (.tmp 11), none, 0⟩,
    ⟨(some 117), .iaddr 1 (.tmp 115) (.tmp 116), none, 0⟩,
    ⟨(some 118), .load1 (.tmp 117), none, 0⟩,
    ⟨(some 119), .move (.tmp 118), none, 0⟩,
    ⟨(some 120), .move (.tmp 7), (some (119, true)), 0⟩,
    ⟨(some 121), .iaddr 1 (.tmp 120) (.const (.int .i64 1)), (some (119, true)), 0⟩,
    ⟨(some 122), .load1 (.tmp 121), (some (119, true)), 0⟩,
    ⟨(some 123), .move (.tmp 11), (some (119, true)), 0⟩,
    ⟨(some 124), .iaddr 1 (.tmp 122) (.tmp 123), (some (119, true)), 0⟩,
    ⟨(some 125), .load1 (.tmp 124), (some (119, true)), 0⟩,
    ⟨(some 126), .pick (.tmp 119) (.tmp 125) (.const (.bool false)), none, 0⟩,
    ⟨(some 127), .iaddr 1 (.tmp 111) (.tmp 112), none, 0⟩,
    ⟨none, .store 1 (.tmp 127) (.tmp 126), none, 0⟩] false) (.seq (.ops [⟨(some 129), .bin .eql (.tmp 95) (.const (.int .i64 6)), none, 0⟩,
    ⟨(some 128), .move (.tmp 129), none, 0⟩] false) (.cond (.tmp 128) (.ops [⟨(some 130), .move (.tmp 6), none, 0⟩,
    ⟨(some 131), .move (.tmp 11), none, 0⟩,
    ⟨(some 132), .move (.tmp 7), none, 0⟩,
    ⟨(some 133), .iaddr 1 (.tmp 132) (.const (.int .i64 0)), none, 0⟩,
    ⟨(some 134), .load1 (.tmp 133), none, 0⟩,
    ⟨(some 135), .move (.tmp 11), none, 0⟩,
    ⟨(some 136), .iaddr 1 (.tmp 134) (.tmp 135), none, 0⟩,
    ⟨(some 137), .load1 (.tmp 136), none, 0⟩,
    ⟨(some 138), .move (.tmp 137), none, 0⟩,
    ⟨(some 139), .move (.tmp 7), (some (138, false)), 0⟩,
    ⟨(some 140), .iaddr 1 (.tmp 139) (.const (.int .i64 1)), (some (138, false)), 0⟩,
    ⟨(some 141), .load1 (.tmp 140), (some (138, false)), 0⟩,
    ⟨(some 142), .move (.tmp 11), (some (138, false)), 0⟩,
    ⟨(some 143), .iaddr 1 (.tmp 141) (.tmp 142), (some (138, false)), 0⟩,
    ⟨(some 144), .load1 (.tmp 143), (some (138, false)), 0⟩,
    ⟨(some 145), .pick (.tmp 138) (.const (.bool true)) (.tmp 144), none, 0⟩,
    ⟨(some 146), .iaddr 1 (.tmp 130) (.tmp 131), none, 0⟩,
    ⟨none, .store 1 (.tmp 146) (.tmp 145), none, 0⟩] false) (.seq (.ops [⟨(some 148), .bin .eql (.tmp 95) (.const (.int .i64 7)), none, 0⟩,
    ⟨(some 147), .move (.tmp 148), none, 0⟩] false) (.cond (.tmp 147) (.ops [⟨(some 149), .move (.tmp 6), none, 0⟩,
    ⟨(some 150), .move (.tmp 11), none, 0⟩,
    ⟨(some 151), .move (.tmp 7), none, 0⟩,
    ⟨(some 152), .iaddr 1 (.tmp 151) (.const (.int .i64 0)), none, 4⟩,
    ⟨(some 153), .load1 (.tmp 152), none, 12⟩,
    ⟨(some 154), .loadA 2 (.tmp 3), none, 0⟩,
    ⟨(some 155), .move (.tmp 11), none, 0⟩,
    ⟨(some 156), .call 151 [(.tmp 154), (.tmp 155)], none, 96⟩,
    ⟨(some 157), .iaddr 1 (.tmp 153) (.tmp 156), none, 252⟩,
    ⟨(some 158), .load1 (.tmp 157), none, 508⟩,
    ⟨(some 159), .iaddr 1 (.tmp 149) (.tmp 150), none, 1023⟩,
    ⟨none, .store 1 (.tmp 159) (.tmp 158), none, 2047⟩] true) (.skip))))))))))))) (.ops [⟨(some 160), .bin .add (.tmp 91) (.const (.int .i64 1)), none, 0⟩,
    ⟨(some 91), .move (.tmp 160), none, 0⟩] false)))
def c93 : PC := .seq (.ops [⟨(some 2), .box (.tmp 0), none, 0⟩,
    ⟨(some 3), .box (.tmp 1), none, 0⟩,
    ⟨(some 4), .move (.const (.slice none 0 0)), none, 0⟩] false) (.seq (.ops [⟨(some 12), .faddr 0 (.tmp 3), none, 0⟩,
    ⟨(some 13), .load1 (.tmp 12), none, 0⟩,
    ⟨(some 14), .len (.tmp 13), none, 0⟩,
    ⟨(some 15), .faddr 1 (.tmp 3), none, 0⟩,
    ⟨(some 16), .load1 (.tmp 15), none, 0⟩,
    ⟨(some 17), .len (.tmp 16), none, 0⟩,
    ⟨(some 18), .bin .add (.tmp 14) (.tmp 17), none, 0⟩,
    ⟨(some 5), .move (.tmp 18), none, 0⟩] false) (.seq (.ops [⟨(some 19), .move (.tmp 5), none, 0⟩,
    ⟨(some 20), .mslice 1 1 [(.bool false)] (.tmp 19) (.tmp 19), none, 0⟩,
    ⟨(some 6), .move (.tmp 20), none, 0⟩] false) (.seq (.ops [⟨(some 7), .move (.const (.slice none 0 0)), none, 0⟩] false) (.seq (.seq (.ops [⟨(some 21), .faddr 2 (.tmp 2), none, 0⟩,
    ⟨(some 22), .load1 (.tmp 21), none, 0⟩,
    ⟨(some 23), .len (.tmp 22), none, 0⟩,
    ⟨(some 24), .move (.const (.int .i64 0)), none, 0⟩] false) (.block 0 (.loop c93_1))) (.seq (.ops [⟨(some 35), .move (.tmp 6), none, 0⟩,
    ⟨(some 36), .call 149 [(.tmp 35)], none, 0⟩,
    ⟨(some 10), .move (.tmp 36), none, 0⟩] false) (.seq (.seq (.stop (.ops [⟨(some 37), .faddr 0 (.tmp 2), none, 0⟩,
    ⟨(some 38), .load1 (.tmp 37), none, 0⟩] false)) (.block 2 (.seq (.ops [⟨(some 40), .bin .eql (.tmp 38) (.const (.int .i64 8)), none, 0⟩,
    ⟨(some 39), .move (.tmp 40), none, 0⟩] false) (.cond (.tmp 39) (.seq (.ops [⟨(some 41), .loadA 2 (.tmp 3), none, 0⟩,
    ⟨(some 42), .move (.tmp 7), none, 0⟩,
    ⟨(some 43), .iaddr 1 (.tmp 42) (.const (.int .i64 0)), none, 2⟩,
    ⟨(some 44), .load1 (.tmp 43), none, 6⟩,
    ⟨(some 45), .move (.tmp 7), none, 0⟩,
    ⟨(some 46), .iaddr 1 (.tmp 45) (.const (.int .i64 1)), none, 16⟩,
    ⟨(some 47), .load1 (.tmp 46), none, 48⟩,
    ⟨(some 48), .call 150 [(.tmp 41), (.tmp 44), (.tmp 47)], none, 127⟩,
    ⟨(some 4), .move (.tmp 48), none, 255⟩] true) (.ret)) (.seq (.ops [⟨(some 50), .bin .eql (.tmp 38) (.const (.int .i64 9)), none, 0⟩,
    ⟨(some 49), .move (.tmp 50), none, 0⟩] false) (.cond (.tmp 49) (.seq (.ops [⟨(some 51), .loadA 2 (.tmp 3), none, 0⟩,
    ⟨(some 52), .move (.tmp 7), none, 0⟩,
    ⟨(some 53), .iaddr 1 (.tmp 52) (.const (.int .i64 0)), none, 2⟩,
    ⟨(some 54), .load1 (.tmp 53), none, 6⟩,
    ⟨(some 55), .call 149 [(.tmp 54)], none, 14⟩,
    ⟨(some 56), .move (.tmp 7), none, 0⟩,
    ⟨(some 57), .iaddr 1 (.tmp 56) (.const (.int .i64 1)), none, 32⟩,
    ⟨(some 58), .load1 (.tmp 57), none, 96⟩,
    ⟨(some 59), .call 149 [(.tmp 58)], none, 254⟩,
    ⟨(some 60), .call 150 [(.tmp 51), (.tmp 55), (.tmp 59)], none, 511⟩,
    ⟨(some 61), .call 149 [(.tmp 60)], none, 1023⟩,
    ⟨(some 4), .move (.tmp 61), none, 2047⟩] true) (.ret)) (.seq (.ops [⟨(some 63), .bin .eql (.tmp 38) (.const (.int .i64 10)), none, 0⟩,
    ⟨(some 62), .move (.tmp 63), none, 0⟩] false) (.cond (.tmp 62) (.seq (.ops [⟨(some 64), .loadA 2 (.tmp 3), none, 0⟩,
    ⟨(some 65), .move (.tmp 10), none, 0⟩,
    ⟨(some 66), .move (.tmp 7), none, 0⟩,
    ⟨(some 67), .iaddr 1 (.tmp 66) (.const (.int .i64 0)), none, 4⟩,
    ⟨(some 68), .load1 (.tmp 67), none, 12⟩,
    ⟨(some 69), .call 150 [(.tmp 64), (.tmp 65), (.tmp 68)], none, 31⟩,
    ⟨(some 4), .move (.tmp 69), none, 63⟩] true) (.ret)) (.seq (.ops [⟨(some 71), .bin .eql (.tmp 38) (.const (.int .i64 11)), none, 0⟩,
    ⟨(some 70), .move (.tmp 71), none, 0⟩] false) (.cond (.tmp 70) (.seq (.ops [⟨(some 72), .loadA 2 (.tmp 3), none, 0⟩,
    ⟨(some 73), .move (.tmp 10), none, 0⟩,
    ⟨(some 74), .move (.tmp 7), none, 0⟩,
    ⟨(some 75), .iaddr 1 (.tmp 74) (.const (.int .i64 0)), none, 4⟩,
    ⟨(some 76), .load1 (.tmp 75), none, 12⟩,
    ⟨(some 77), .call 149 [(.tmp 76)], none, 28⟩,
    ⟨(some 78), .call 150 [(.tmp 72), (.tmp 73), (.tmp 77)], none, 63⟩,
    ⟨(some 79), .call 149 [(.tmp 78)], none, 127⟩,
    ⟨(some 4), .move (.tmp 79), none, 255⟩] true) (.ret)) (.seq (.ops [⟨(some 81), .bin .eql (.tmp 38) (.const (.int .i64 4)), none, 0⟩,
    ⟨(some 80), .move (.tmp 81), none, 0⟩] false) (.cond (.tmp 80) (.seq (.ops [⟨(some 82), .move (.tmp 7), none, 0⟩,
    ⟨(some 83), .iaddr 1 (.tmp 82) (.const (.int .i64 0)), none, 0⟩,
    ⟨(some 84), .load1 (.tmp 83), none, 0⟩,
    ⟨(some 85), .call 149 [(.tmp 84)], none, 0⟩,
    ⟨(some 4), .move (.tmp 85), none, 0⟩] false) (.ret)) (.seq (.ops [⟨(some 87), .bin .eql (.tmp 38) (.const (.int .i64 1)), none, 0⟩,
    ⟨(some 86), .move (.tmp 87), none, 0⟩] false) (.cond (.tmp 86) (.seq (.ops [⟨(some 88), .move (.tmp 10), none, 0⟩,
    ⟨(some 4), .move (.tmp 88), none, 0⟩] false) (.ret)) (.skip))))))))))))))) (.seq (.seq (.ops [⟨(some 89), .move (.tmp 6), none, 0⟩,
    ⟨(some 90), .len (.tmp 89), none, 0⟩,
    ⟨(some 91), .move (.const (.int .i64 0)), none, 0⟩] false) (.block 3 (.loop c93_2))) (.seq (.ops [⟨(some 161), .move (.tmp 6), none, 0⟩,
    ⟨(some 4), .move (.tmp 161), none, 0⟩] false) (.ret)))))))))
set_option maxRecDepth 100000 in
theorem c93_ok : FunOK Try.prog 93 162 [.tmp 4] c93 := ⟨⟨Try.f93, Try.func93, rfl, by kernel_rfl, rfl, by kernel_rfl⟩⟩
theorem las_holds (s l : List Int) (hw : s.length + l.length ≤ 60 ∧ 1 ≤ l.length) (hls : Lett s) (hll : Lett l) : ∀ t : Tree, t.wf lKids → PCall Try.prog 93 [dtree t, dword s l] (dbl (s.length + l.length) (trT s l t)) := by
  intro t
  induction t using Tree.ind with
  | h t ih =>
    intro hwf
    have hs := wf_small t hwf
    have hwd := hs.width
    have har := node_arity ((wf_iff _ _).1 hwf).1
    have hnum : 0 ≤ t.num := by have := ((wf_iff _ _).1 hwf).1; unfold oddNode at this; omega
    obtain ⟨n, hn⟩ : ∃ n, n = s.length + l.length := ⟨_, rfl⟩
    have hU : ∀ a b : Nat → Bool, PCall Try.prog 150 [dword s l, dbl n a, dbl n b] (dbl n (untilF n l.length a b)) := fun a b => las_until s l hw.2 hw.1 a b n hn
    have hN : ∀ g : Nat → Bool, PCall Try.prog 149 [dbl n g] (dbl n fun i => !(g i)) := fun g => las_not n (by omega) g
    refine pcall_intro c93_ok (by simp) (by simp [PureL, pure_dtree, pure_dword]) ?_ (pure_dbl _ _)
    (apply red_sound; focus (repeat' (first | exact Red.skip | exact Red.ret | exact RedO.nil | exact RedD.nil | exact Red.exit _ | exact Red.loop _ | exact Red.stop _ | apply Red.ops | apply Red.draw | apply Red.seq | apply Red.cond | apply Red.block | apply RedO.cons | apply RedD.cons | exact (0 : Nat))))
    ((conv => whnf); repeat (refine And.intro rfl ?_; (conv => whnf)))
    rw [List.length_map, List.length_map]
    refine .inl ⟨by unfold InR; rw [IntKind.wrap_i64]; omega, ?_⟩
    rw [show (s.length : Int) + l.length = (n : Int) by omega]
    ((conv => whnf); repeat (refine And.intro rfl ?_; (conv => whnf)))
    refine ⟨by omega, by omega, by omega, ?_⟩
    rw [Int.toNat_natCast]
    ((conv => whnf); repeat (refine And.intro rfl ?_; (conv => whnf)))
    rw [List.length_map]
    refine pwp_loopB (fun k : Nat => [(2, .loc 0 0), (3, .loc 1 0), (5, .sc (.int .i64 n)), (6, .own 2 0 0 n), (7, .own 3 k 0 k), (22, .lst 3 (t.kids.map dcells)), (23, .sc (.int .i64 t.kids.length)), (24, .sc (.int .i64 k))])
      (fun k => [.row true (drow t), .row true (wcells s l), .vec true 0 1 (rbl n fun _ => false), .vec true k 1 (kidsV s l t k)])
      (fun k => k ≤ t.width) (fun k => t.width - k) 0 (by omega) (leB_trans (leB_nil 7 1 (by simp) rfl) (leB_envH ⟨rfl, rfl, rfl, rfl, rfl, rfl, rfl, rfl, trivial⟩ (by simp [rbl_rep]; rfl))) ?_
    rintro k hk
    (apply red_sound; focus (repeat' (first | exact Red.skip | exact Red.ret | exact RedO.nil | exact RedD.nil | exact Red.exit _ | exact Red.loop _ | exact Red.stop _ | apply Red.ops | apply Red.draw | apply Red.seq | apply Red.cond | apply Red.block | apply RedO.cons | apply RedD.cons | exact (0 : Nat))))
    ((conv => whnf); repeat (refine And.intro rfl ?_; (conv => whnf)))
    (refine ifK_split (fun h1 => ?_) (fun h1 => ?_) <;> (rw [h1]; ((conv => whnf); repeat (refine And.intro rfl ?_; (conv => whnf)))))
    · have hk' : k < t.width := by simpa [Tree.width] using h1
      refine ⟨by omega, _, kid_at hk', ?_⟩
      ((conv => whnf); repeat (refine And.intro rfl ?_; (conv => whnf)))
      (refine .inl ⟨_, (ih k hk' (wf_kid hwf hk')), ?_⟩; ((conv => whnf); repeat (refine And.intro rfl ?_; (conv => whnf))))
      refine ⟨by unfold sliceAppend; simp only [List.drop_zero, List.take_succ_cons, List.take_zero, List.length_cons, List.length_nil]; omega, ?_⟩
      ((conv => whnf); repeat (refine And.intro rfl ?_; (conv => whnf)))
      refine .inl ⟨by unfold InR; rw [IntKind.wrap_i64]; unfold Tree.width at *; omega, ?_⟩
      ((conv => whnf); repeat (refine And.intro rfl ?_; (conv => whnf)))
      exact ⟨k + 1, by omega, by dsimp only; omega, leB_close 4 (by simp) rfl ⟨.refl _, by simp [Under], .refl _, by simp [Under], .refl _, by simp [Under], .refl _, by simp [Under], .refl _, by simp [Under], .refl _, by simp only [Under]; exact underLL_pure _ (pure_kids t), .refl _, by simp [Under], .refl _, by simp [Under], trivial⟩
        ⟨⟨rfl, .refl _, underL_pure _ (pure_drow t)⟩, ⟨rfl, .refl _, underL_pure _ (pure_wcells s l)⟩, ⟨rfl, rfl, rfl, .refl _, underLL_pure _ (pure_rbl _ _)⟩, ⟨rfl, rfl, rfl, deepMLL_eq (kidsV_succ s l t k), underLL_pure _ (pure_kidsV _ _ _ _)⟩, trivial⟩⟩
    have hkw : k = t.width := by have : ¬ k < t.width := by simpa [Tree.width] using h1
                                 omega
    subst hkw
    clear h1 hk
    (refine .inr (.inr (.inl ⟨rfl, _, _, (acall_own1 (las_not_own n 0 (by omega) fun _ => false) (fun ρ => by simp [AObj.ren, renLL_pure _ (pure_rbl _ _)]) (fun ρ => by simp [AObj.ren, renLL_pure _ (pure_rbl _ _)]) (by simp [AObj.under, underLL_pure _ (pure_rbl _ _)]) (H := [.row true (drow t), .row true (wcells s l), .vec true 0 1 (rbl n fun _ => false), .vec true t.width 1 (kidsV s l t t.width)]) (id := 2) rfl), ?_⟩)); ((conv => whnf); repeat (refine And.intro rfl ?_; (conv => whnf))))
    refine pwp_ghostB (leB_freeze (fromN 3) (env' := [(2, .loc 0 0), (3, .loc 1 0), (6, .own 2 0 0 n), (7, .lst 1 (kidsV s l t t.width)), (10, dbl n fun _ => true)])
      (H' := [.row true (drow t), .row true (wcells s l), .vec true 0 1 (rbl n fun _ => false), .vec false t.width 1 (kidsV s l t t.width), .vec false 0 1 (rbl n fun _ => true)])
      ⟨.refl _, .refl _, .refl _, .own _ _ _ _ _ _ _ _ rfl rfl (deepMLL_eq (by rw [List.drop_zero, List.take_of_length_le (by simp)])), .own _ _ _ _ _ _ _ _ rfl rfl (deepMLL_eq (rbl_all n _)), trivial⟩
      ⟨⟨.inl rfl, (fun h => by cases h), .refl _⟩, ⟨.inl rfl, (fun h => by cases h), .refl _⟩, ⟨.inl rfl, (fun h => by cases h), rfl, rfl, .refl _⟩, ⟨.inr ⟨rfl, rfl⟩, fun _ => rfl, rfl, rfl, .refl _⟩, ⟨.inr ⟨rfl, rfl⟩, fun _ => rfl, rfl, rfl, .refl _⟩, trivial⟩) ?_
    (apply red_sound; focus (repeat' (first | exact Red.skip | exact Red.ret | exact RedO.nil | exact RedD.nil | exact Red.exit _ | exact Red.loop _ | exact Red.stop _ | apply Red.ops | apply Red.draw | apply Red.seq | apply Red.cond | apply Red.block | apply RedO.cons | apply RedD.cons | exact (0 : Nat))))
    ((conv => whnf); repeat (refine And.intro rfl ?_; (conv => whnf)))
    have kid0 : 1 ≤ t.width → kidT s l t 0 = trT s l (t.kid 0) := fun h => kidT_eq s l (by omega)
    have kid1 : 2 ≤ t.width → kidT s l t 1 = trT s l (t.kid 1) := fun h => kidT_eq s l (by omega)
    have tr := trT_eq s l t
    have fin : ∀ {H : List AObj} {g : Nat → Bool}, g = trT s l t → Deep H (dbl n g) (dbl (s.length + l.length) (trT s l t)) := fun h => by rw [h, hn]; exact .refl _
    have ka0 : ∀ {z : Nat}, z = 0 → 1 ≤ t.width → (kidsV s l t t.width)[z]? = some [dbl n (trT s l (t.kid 0))] := fun h h1 => by subst h; rw [hn]; exact kidsV_at (by omega)
    have ka1 : ∀ {z : Nat}, z = 1 → 2 ≤ t.width → (kidsV s l t t.width)[z]? = some [dbl n (trT s l (t.kid 1))] := fun h h1 => by subst h; rw [hn]; exact kidsV_at (by omega)
    (refine ifK_split (fun h8 => ?_) (fun h8 => ?_) <;> (rw [h8]; ((conv => whnf); repeat (refine And.intro rfl ?_; (conv => whnf)))))
    · have hk1 : t.kind = 8 := by ((try simp only [bne_iff_ne, ne_eq, bne_eq_false_iff_eq, beq_iff_eq, beq_eq_false_iff_ne, decide_eq_true_eq, decide_eq_false_iff_not, List.length_map, Bool.not_eq_true, Bool.not_eq_false, Bool.and_eq_true, Bool.or_eq_true, Bool.and_eq_false_iff, Bool.or_eq_false_iff, Bool.not_eq_true', Bool.not_eq_false', Bool.not_true, Bool.not_false, Bool.not_eq_eq_eq_not, not_true_eq_false, not_false_eq_true, reduceCtorEq, Bool.true_or, Bool.false_or, Bool.or_true, Bool.or_false, Bool.true_and, Bool.and_true, Bool.false_and, Bool.and_false, true_and, and_true, or_false, false_or, true_or, or_true, false_and, and_false, Bool.true_eq_false, Bool.false_eq_true] at *) <;> omega)
      refine ⟨by omega, _, ka0 rfl (by omega), ?_⟩
      ((conv => whnf); repeat (refine And.intro rfl ?_; (conv => whnf)))
      refine ⟨by omega, _, ka1 rfl (by omega), ?_⟩
      ((conv => whnf); repeat (refine And.intro rfl ?_; (conv => whnf)))
      (refine .inl ⟨_, (hU _ _), ?_⟩; ((conv => whnf); repeat (refine And.intro rfl ?_; (conv => whnf))))
      exact fin (by rw [tr, hk1, kid0 (by omega), kid1 (by omega), hn]; rfl)
    (refine ifK_split (fun h9 => ?_) (fun h9 => ?_) <;> (rw [h9]; ((conv => whnf); repeat (refine And.intro rfl ?_; (conv => whnf)))))
    · have hk1 : t.kind = 9 := by ((try simp only [bne_iff_ne, ne_eq, bne_eq_false_iff_eq, beq_iff_eq, beq_eq_false_iff_ne, decide_eq_true_eq, decide_eq_false_iff_not, List.length_map, Bool.not_eq_true, Bool.not_eq_false, Bool.and_eq_true, Bool.or_eq_true, Bool.and_eq_false_iff, Bool.or_eq_false_iff, Bool.not_eq_true', Bool.not_eq_false', Bool.not_true, Bool.not_false, Bool.not_eq_eq_eq_not, not_true_eq_false, not_false_eq_true, reduceCtorEq, Bool.true_or, Bool.false_or, Bool.or_true, Bool.or_false, Bool.true_and, Bool.and_true, Bool.false_and, Bool.and_false, true_and, and_true, or_false, false_or, true_or, or_true, false_and, and_false, Bool.true_eq_false, Bool.false_eq_true] at *) <;> omega)
      refine ⟨by omega, _, ka0 rfl (by omega), ?_⟩
      ((conv => whnf); repeat (refine And.intro rfl ?_; (conv => whnf)))
      (refine .inl ⟨_, (hN _), ?_⟩; ((conv => whnf); repeat (refine And.intro rfl ?_; (conv => whnf))))
      refine ⟨by omega, _, ka1 rfl (by omega), ?_⟩
      ((conv => whnf); repeat (refine And.intro rfl ?_; (conv => whnf)))
      (refine .inl ⟨_, (hN _), ?_⟩; ((conv => whnf); repeat (refine And.intro rfl ?_; (conv => whnf))))
      (refine .inl ⟨_, (hU _ _), ?_⟩; ((conv => whnf); repeat (refine And.intro rfl ?_; (conv => whnf))))
      (refine .inl ⟨_, (hN _), ?_⟩; ((conv => whnf); repeat (refine And.intro rfl ?_; (conv => whnf))))
      exact fin (by rw [tr, hk1, kid0 (by omega), kid1 (by omega), hn]; rfl)
    (refine ifK_split (fun h10 => ?_) (fun h10 => ?_) <;> (rw [h10]; ((conv => whnf); repeat (refine And.intro rfl ?_; (conv => whnf)))))
    · have hk1 : t.kind = 10 := by ((try simp only [bne_iff_ne, ne_eq, bne_eq_false_iff_eq, beq_iff_eq, beq_eq_false_iff_ne, decide_eq_true_eq, decide_eq_false_iff_not, List.length_map, Bool.not_eq_true, Bool.not_eq_false, Bool.and_eq_true, Bool.or_eq_true, Bool.and_eq_false_iff, Bool.or_eq_false_iff, Bool.not_eq_true', Bool.not_eq_false', Bool.not_true, Bool.not_false, Bool.not_eq_eq_eq_not, not_true_eq_false, not_false_eq_true, reduceCtorEq, Bool.true_or, Bool.false_or, Bool.or_true, Bool.or_false, Bool.true_and, Bool.and_true, Bool.false_and, Bool.and_false, true_and, and_true, or_false, false_or, true_or, or_true, false_and, and_false, Bool.true_eq_false, Bool.false_eq_true] at *) <;> omega)
      refine ⟨by omega, _, ka0 rfl (by omega), ?_⟩
      ((conv => whnf); repeat (refine And.intro rfl ?_; (conv => whnf)))
      (refine .inl ⟨_, (hU _ _), ?_⟩; ((conv => whnf); repeat (refine And.intro rfl ?_; (conv => whnf))))
      exact fin (by rw [tr, hk1, kid0 (by omega), hn]; rfl)
    (refine ifK_split (fun h11 => ?_) (fun h11 => ?_) <;> (rw [h11]; ((conv => whnf); repeat (refine And.intro rfl ?_; (conv => whnf)))))
    · have hk1 : t.kind = 11 := by ((try simp only [bne_iff_ne, ne_eq, bne_eq_false_iff_eq, beq_iff_eq, beq_eq_false_iff_ne, decide_eq_true_eq, decide_eq_false_iff_not, List.length_map, Bool.not_eq_true, Bool.not_eq_false, Bool.and_eq_true, Bool.or_eq_true, Bool.and_eq_false_iff, Bool.or_eq_false_iff, Bool.not_eq_true', Bool.not_eq_false', Bool.not_true, Bool.not_false, Bool.not_eq_eq_eq_not, not_true_eq_false, not_false_eq_true, reduceCtorEq, Bool.true_or, Bool.false_or, Bool.or_true, Bool.or_false, Bool.true_and, Bool.and_true, Bool.false_and, Bool.and_false, true_and, and_true, or_false, false_or, true_or, or_true, false_and, and_false, Bool.true_eq_false, Bool.false_eq_true] at *) <;> omega)
      refine ⟨by omega, _, ka0 rfl (by omega), ?_⟩
      ((conv => whnf); repeat (refine And.intro rfl ?_; (conv => whnf)))
      (refine .inl ⟨_, (hN _), ?_⟩; ((conv => whnf); repeat (refine And.intro rfl ?_; (conv => whnf))))
      (refine .inl ⟨_, (hU _ _), ?_⟩; ((conv => whnf); repeat (refine And.intro rfl ?_; (conv => whnf))))
      (refine .inl ⟨_, (hN _), ?_⟩; ((conv => whnf); repeat (refine And.intro rfl ?_; (conv => whnf))))
      exact fin (by rw [tr, hk1, kid0 (by omega), hn]; rfl)
    (refine ifK_split (fun h4 => ?_) (fun h4 => ?_) <;> (rw [h4]; ((conv => whnf); repeat (refine And.intro rfl ?_; (conv => whnf)))))
    · have hk1 : t.kind = 4 := by ((try simp only [bne_iff_ne, ne_eq, bne_eq_false_iff_eq, beq_iff_eq, beq_eq_false_iff_ne, decide_eq_true_eq, decide_eq_false_iff_not, List.length_map, Bool.not_eq_true, Bool.not_eq_false, Bool.and_eq_true, Bool.or_eq_true, Bool.and_eq_false_iff, Bool.or_eq_false_iff, Bool.not_eq_true', Bool.not_eq_false', Bool.not_true, Bool.not_false, Bool.not_eq_eq_eq_not, not_true_eq_false, not_false_eq_true, reduceCtorEq, Bool.true_or, Bool.false_or, Bool.or_true, Bool.or_false, Bool.true_and, Bool.and_true, Bool.false_and, Bool.and_false, true_and, and_true, or_false, false_or, true_or, or_true, false_and, and_false, Bool.true_eq_false, Bool.false_eq_true] at *) <;> omega)
      refine ⟨by omega, _, ka0 rfl (by omega), ?_⟩
      ((conv => whnf); repeat (refine And.intro rfl ?_; (conv => whnf)))
      (refine .inl ⟨_, (hN _), ?_⟩; ((conv => whnf); repeat (refine And.intro rfl ?_; (conv => whnf))))
      exact fin (by rw [tr, hk1, kid0 (by omega)]; rfl)
    (refine ifK_split (fun h1 => ?_) (fun h1 => ?_) <;> (rw [h1]; ((conv => whnf); repeat (refine And.intro rfl ?_; (conv => whnf)))))
    · have hk1 : t.kind = 1 := by ((try simp only [bne_iff_ne, ne_eq, bne_eq_false_iff_eq, beq_iff_eq, beq_eq_false_iff_ne, decide_eq_true_eq, decide_eq_false_iff_not, List.length_map, Bool.not_eq_true, Bool.not_eq_false, Bool.and_eq_true, Bool.or_eq_true, Bool.and_eq_false_iff, Bool.or_eq_false_iff, Bool.not_eq_true', Bool.not_eq_false', Bool.not_true, Bool.not_false, Bool.not_eq_eq_eq_not, not_true_eq_false, not_false_eq_true, reduceCtorEq, Bool.true_or, Bool.false_or, Bool.or_true, Bool.or_false, Bool.true_and, Bool.and_true, Bool.false_and, Bool.and_false, true_and, and_true, or_false, false_or, true_or, or_true, false_and, and_false, Bool.true_eq_false, Bool.false_eq_true] at *) <;> omega)
      exact fin (by rw [tr, hk1]; rfl)
    refine pwp_for [2, 3, 6, 7, 90] (fun k : Nat => [(91, .sc (.int .i64 k))]) (fun k => [(2, .vec true 0 1 (rbl n (curF (trT s l t) k false)))]) (fun k => k ≤ n) (fun k => n - k) 0 ?_
    ((conv => whnf); repeat (refine And.intro rfl ?_; (conv => whnf)))
    refine ⟨by omega, by (repeat' (first | exact trivial | refine And.intro rfl ?_)), by rw [cur_zero n (trT s l t)]; rfl, ?_⟩
    rintro k hk
    ((conv => whnf); repeat (refine And.intro rfl ?_; (conv => whnf)))
    (apply red_sound; focus (repeat' (first | exact Red.skip | exact Red.ret | exact RedO.nil | exact RedD.nil | exact Red.exit _ | exact Red.loop _ | exact Red.stop _ | apply Red.ops | apply Red.draw | apply Red.seq | apply Red.cond | apply Red.block | apply RedO.cons | apply RedD.cons | exact (0 : Nat))))
    ((conv => whnf); repeat (refine And.intro rfl ?_; (conv => whnf)))
    (refine ifK_split (fun g1 => ?_) (fun g1 => ?_) <;> (rw [g1]; ((conv => whnf); repeat (refine And.intro rfl ?_; (conv => whnf)))))
    · have hk' : k < n := by ((try simp only [bne_iff_ne, ne_eq, bne_eq_false_iff_eq, beq_iff_eq, beq_eq_false_iff_ne, decide_eq_true_eq, decide_eq_false_iff_not, List.length_map, Bool.not_eq_true, Bool.not_eq_false, Bool.and_eq_true, Bool.or_eq_true, Bool.and_eq_false_iff, Bool.or_eq_false_iff, Bool.not_eq_true', Bool.not_eq_false', Bool.not_true, Bool.not_false, Bool.not_eq_eq_eq_not, not_true_eq_false, not_false_eq_true, reduceCtorEq, Bool.true_or, Bool.false_or, Bool.or_true, Bool.or_false, Bool.true_and, Bool.and_true, Bool.false_and, Bool.and_false, true_and, and_true, or_false, false_or, true_or, or_true, false_and, and_false, Bool.true_eq_false, Bool.false_eq_true] at *) <;> omega)
      have put : ∀ {v : Bool}, v = trT s l t k → (rbl n (curF (trT s l t) k false)).set (0 + (k : Int).toNat) [.sc (.bool v)] = rbl n (curF (trT s l t) (k + 1) false) := fun h => by rw [cur_set (by omega), cur_next h]
      have inr : InR .i64 ((k : Int) + 1) := by unfold InR; rw [IntKind.wrap_i64]; omega
      have kat : ∀ g : Nat → Bool, 0 ≤ (k : Int) ∧ (rbl n g)[(k : Int).toNat]? = some [.sc (.bool (g k))] := fun g => rbl_atZ k rfl hk'
      have trk := congrFun tr k
      (refine ifK_split (fun g3 => ?_) (fun g3 => ?_) <;> (rw [g3]; ((conv => whnf); repeat (refine And.intro rfl ?_; (conv => whnf)))))
      · have hk1 : t.kind = 3 := by ((try simp only [bne_iff_ne, ne_eq, bne_eq_false_iff_eq, beq_iff_eq, beq_eq_false_iff_ne, decide_eq_true_eq, decide_eq_false_iff_not, List.length_map, Bool.not_eq_true, Bool.not_eq_false, Bool.and_eq_true, Bool.or_eq_true, Bool.and_eq_false_iff, Bool.or_eq_false_iff, Bool.not_eq_true', Bool.not_eq_false', Bool.not_true, Bool.not_false, Bool.not_eq_eq_eq_not, not_true_eq_false, not_false_eq_true, reduceCtorEq, Bool.true_or, Bool.false_or, Bool.or_true, Bool.or_false, Bool.true_and, Bool.and_true, Bool.false_and, Bool.and_false, true_and, and_true, or_false, false_or, true_or, or_true, false_and, and_false, Bool.true_eq_false, Bool.false_eq_true] at *) <;> omega)
        (refine .inl ⟨_, (las_at s l hw.2 (by omega) (by omega) k (by omega)), ?_⟩; ((conv => whnf); repeat (refine And.intro rfl ?_; (conv => whnf))))
        refine ⟨hnum, ?_⟩
        ((conv => whnf); repeat (refine And.intro rfl ?_; (conv => whnf)))
        refine ⟨by omega, by omega, ?_⟩
        ((conv => whnf); repeat (refine And.intro rfl ?_; (conv => whnf)))
        refine ⟨_, rbl_atN k (by omega) hk', ?_⟩
        ((conv => whnf); repeat (refine And.intro rfl ?_; (conv => whnf)))
        refine .inl ⟨inr, ?_⟩
        ((conv => whnf); repeat (refine And.intro rfl ?_; (conv => whnf)))
        refine ⟨k + 1, by omega, by dsimp only; omega, leB_envH (by (repeat' (first | exact trivial | refine And.intro rfl ?_))) ?_⟩
        rw [put]
        · rfl
        rw [trk, hk1]
        have ha := lett_at hls hll k
        have hr := fdiv_range ha.1 ha.2 (min t.num.toNat 64)
        have := and_one hr.1 hr.2
        show (bitsV .and .u64 ((atW s l k).fdiv (2 ^ min t.num.toNat 64)) 1 == 1) = bitB (atW s l k) t.num
        rw [this]
        rfl
      (refine ifK_split (fun g5 => ?_) (fun g5 => ?_) <;> (rw [g5]; ((conv => whnf); repeat (refine And.intro rfl ?_; (conv => whnf)))))
      · have hk1 : t.kind = 5 := by ((try simp only [bne_iff_ne, ne_eq, bne_eq_false_iff_eq, beq_iff_eq, beq_eq_false_iff_ne, decide_eq_true_eq, decide_eq_false_iff_not, List.length_map, Bool.not_eq_true, Bool.not_eq_false, Bool.and_eq_true, Bool.or_eq_true, Bool.and_eq_false_iff, Bool.or_eq_false_iff, Bool.not_eq_true', Bool.not_eq_false', Bool.not_true, Bool.not_false, Bool.not_eq_eq_eq_not, not_true_eq_false, not_false_eq_true, reduceCtorEq, Bool.true_or, Bool.false_or, Bool.or_true, Bool.or_false, Bool.true_and, Bool.and_true, Bool.false_and, Bool.and_false, true_and, and_true, or_false, false_or, true_or, or_true, false_and, and_false, Bool.true_eq_false, Bool.false_eq_true] at *) <;> omega)
        have e0 := kid0 (by omega)
        have e1 := kid1 (by omega)
        refine ⟨by omega, _, ka0 rfl (by omega), ?_⟩
        ((conv => whnf); repeat (refine And.intro rfl ?_; (conv => whnf)))
        refine ⟨by omega, _, (kat _).2, ?_⟩
        ((conv => whnf); repeat (refine And.intro rfl ?_; (conv => whnf)))
        cases c0 : trT s l (t.kid 0) k
        · ((conv => whnf); repeat (refine And.intro rfl ?_; (conv => whnf)))
          refine ⟨by omega, by omega, ?_⟩
          ((conv => whnf); repeat (refine And.intro rfl ?_; (conv => whnf)))
          refine ⟨_, rbl_atN k (by omega) hk', ?_⟩
          ((conv => whnf); repeat (refine And.intro rfl ?_; (conv => whnf)))
          refine .inl ⟨inr, ?_⟩
          ((conv => whnf); repeat (refine And.intro rfl ?_; (conv => whnf)))
          exact ⟨k + 1, by omega, by dsimp only; omega, leB_envH (by (repeat' (first | exact trivial | refine And.intro rfl ?_))) (by rw [put (by rw [trk, hk1, e0, e1]; simp [trF, c0])]; rfl)⟩
        · ((conv => whnf); repeat (refine And.intro rfl ?_; (conv => whnf)))
          refine ⟨by omega, _, ka1 rfl (by omega), ?_⟩
          ((conv => whnf); repeat (refine And.intro rfl ?_; (conv => whnf)))
          refine ⟨by omega, _, (kat _).2, ?_⟩
          ((conv => whnf); repeat (refine And.intro rfl ?_; (conv => whnf)))
          refine ⟨by omega, by omega, ?_⟩
          ((conv => whnf); repeat (refine And.intro rfl ?_; (conv => whnf)))
          refine ⟨_, rbl_atN k (by omega) hk', ?_⟩
          ((conv => whnf); repeat (refine And.intro rfl ?_; (conv => whnf)))
          refine .inl ⟨inr, ?_⟩
          ((conv => whnf); repeat (refine And.intro rfl ?_; (conv => whnf)))
          exact ⟨k + 1, by omega, by dsimp only; omega, leB_envH (by (repeat' (first | exact trivial | refine And.intro rfl ?_))) (by rw [put (by rw [trk, hk1, e0, e1]; simp [trF, c0])]; rfl)⟩
      (refine ifK_split (fun g6 => ?_) (fun g6 => ?_) <;> (rw [g6]; ((conv => whnf); repeat (refine And.intro rfl ?_; (conv => whnf)))))
      · have hk1 : t.kind = 6 := by ((try simp only [bne_iff_ne, ne_eq, bne_eq_false_iff_eq, beq_iff_eq, beq_eq_false_iff_ne, decide_eq_true_eq, decide_eq_false_iff_not, List.length_map, Bool.not_eq_true, Bool.not_eq_false, Bool.and_eq_true, Bool.or_eq_true, Bool.and_eq_false_iff, Bool.or_eq_false_iff, Bool.not_eq_true', Bool.not_eq_false', Bool.not_true, Bool.not_false, Bool.not_eq_eq_eq_not, not_true_eq_false, not_false_eq_true, reduceCtorEq, Bool.true_or, Bool.false_or, Bool.or_true, Bool.or_false, Bool.true_and, Bool.and_true, Bool.false_and, Bool.and_false, true_and, and_true, or_false, false_or, true_or, or_true, false_and, and_false, Bool.true_eq_false, Bool.false_eq_true] at *) <;> omega)
        have e0 := kid0 (by omega)
        have e1 := kid1 (by omega)
        refine ⟨by omega, _, ka0 rfl (by omega), ?_⟩
        ((conv => whnf); repeat (refine And.intro rfl ?_; (conv => whnf)))
        refine ⟨by omega, _, (kat _).2, ?_⟩
        ((conv => whnf); repeat (refine And.intro rfl ?_; (conv => whnf)))
        cases c0 : trT s l (t.kid 0) k
        · ((conv => whnf); repeat (refine And.intro rfl ?_; (conv => whnf)))
          refine ⟨by omega, _, ka1 rfl (by omega), ?_⟩
          ((conv => whnf); repeat (refine And.intro rfl ?_; (conv => whnf)))
          refine ⟨by omega, _, (kat _).2, ?_⟩
          ((conv => whnf); repeat (refine And.intro rfl ?_; (conv => whnf)))
          refine ⟨by omega, by omega, ?_⟩
          ((conv => whnf); repeat (refine And.intro rfl ?_; (conv => whnf)))
          refine ⟨_, rbl_atN k (by omega) hk', ?_⟩
          ((conv => whnf); repeat (refine And.intro rfl ?_; (conv => whnf)))
          refine .inl ⟨inr, ?_⟩
          ((conv => whnf); repeat (refine And.intro rfl ?_; (conv => whnf)))
          exact ⟨k + 1, by omega, by dsimp only; omega, leB_envH (by (repeat' (first | exact trivial | refine And.intro rfl ?_))) (by rw [put (by rw [trk, hk1, e0, e1]; simp [trF, c0])]; rfl)⟩
        · ((conv => whnf); repeat (refine And.intro rfl ?_; (conv => whnf)))
          refine ⟨by omega, by omega, ?_⟩
          ((conv => whnf); repeat (refine And.intro rfl ?_; (conv => whnf)))
          refine ⟨_, rbl_atN k (by omega) hk', ?_⟩
          ((conv => whnf); repeat (refine And.intro rfl ?_; (conv => whnf)))
          refine .inl ⟨inr, ?_⟩
          ((conv => whnf); repeat (refine And.intro rfl ?_; (conv => whnf)))
          exact ⟨k + 1, by omega, by dsimp only; omega, leB_envH (by (repeat' (first | exact trivial | refine And.intro rfl ?_))) (by rw [put (by rw [trk, hk1, e0, e1]; simp [trF, c0])]; rfl)⟩
      (refine ifK_split (fun g7 => ?_) (fun g7 => ?_) <;> (rw [g7]; ((conv => whnf); repeat (refine And.intro rfl ?_; (conv => whnf)))))
      · have hk1 : t.kind = 7 := by ((try simp only [bne_iff_ne, ne_eq, bne_eq_false_iff_eq, beq_iff_eq, beq_eq_false_iff_ne, decide_eq_true_eq, decide_eq_false_iff_not, List.length_map, Bool.not_eq_true, Bool.not_eq_false, Bool.and_eq_true, Bool.or_eq_true, Bool.and_eq_false_iff, Bool.or_eq_false_iff, Bool.not_eq_true', Bool.not_eq_false', Bool.not_true, Bool.not_false, Bool.not_eq_eq_eq_not, not_true_eq_false, not_false_eq_true, reduceCtorEq, Bool.true_or, Bool.false_or, Bool.or_true, Bool.or_false, Bool.true_and, Bool.and_true, Bool.false_and, Bool.and_false, true_and, and_true, or_false, false_or, true_or, or_true, false_and, and_false, Bool.true_eq_false, Bool.false_eq_true] at *) <;> omega)
        have e0 := kid0 (by omega)
        have hwr : wr n l.length (k + 1) < n := by unfold wr; split <;> omega
        refine ⟨by omega, _, ka0 rfl (by omega), ?_⟩
        ((conv => whnf); repeat (refine And.intro rfl ?_; (conv => whnf)))
        (refine .inl ⟨_, (las_next s l hw.2 hw.1 k (by omega)), ?_⟩; ((conv => whnf); repeat (refine And.intro rfl ?_; (conv => whnf))))
        rw [← hn]
        refine ⟨by omega, _, rbl_at (i := wr n l.length (k + 1)) hwr, ?_⟩
        ((conv => whnf); repeat (refine And.intro rfl ?_; (conv => whnf)))
        refine ⟨by omega, by omega, ?_⟩
        ((conv => whnf); repeat (refine And.intro rfl ?_; (conv => whnf)))
        refine ⟨_, rbl_atN k (by omega) hk', ?_⟩
        ((conv => whnf); repeat (refine And.intro rfl ?_; (conv => whnf)))
        refine .inl ⟨inr, ?_⟩
        ((conv => whnf); repeat (refine And.intro rfl ?_; (conv => whnf)))
        exact ⟨k + 1, by omega, by dsimp only; omega, leB_envH (by (repeat' (first | exact trivial | refine And.intro rfl ?_))) (by rw [put (by rw [trk, hk1, e0]; simp [trF, hn])]; rfl)⟩
      · have hk1 : t.kind = 2 := by ((try simp only [bne_iff_ne, ne_eq, bne_eq_false_iff_eq, beq_iff_eq, beq_eq_false_iff_ne, decide_eq_true_eq, decide_eq_false_iff_not, List.length_map, Bool.not_eq_true, Bool.not_eq_false, Bool.and_eq_true, Bool.or_eq_true, Bool.and_eq_false_iff, Bool.or_eq_false_iff, Bool.not_eq_true', Bool.not_eq_false', Bool.not_true, Bool.not_false, Bool.not_eq_eq_eq_not, not_true_eq_false, not_false_eq_true, reduceCtorEq, Bool.true_or, Bool.false_or, Bool.or_true, Bool.or_false, Bool.true_and, Bool.and_true, Bool.false_and, Bool.and_false, true_and, and_true, or_false, false_or, true_or, or_true, false_and, and_false, Bool.true_eq_false, Bool.false_eq_true] at *) <;> omega)
        refine .inl ⟨inr, ?_⟩
        ((conv => whnf); repeat (refine And.intro rfl ?_; (conv => whnf)))
        exact ⟨k + 1, by omega, by dsimp only; omega, leB_envH (by (repeat' (first | exact trivial | refine And.intro rfl ?_))) (by rw [cur_next (by rw [trk, hk1]; rfl)]; rfl)⟩
    · have hkn : k = n := by have : ¬ k < n := by ((try simp only [bne_iff_ne, ne_eq, bne_eq_false_iff_eq, beq_iff_eq, beq_eq_false_iff_ne, decide_eq_true_eq, decide_eq_false_iff_not, List.length_map, Bool.not_eq_true, Bool.not_eq_false, Bool.and_eq_true, Bool.or_eq_true, Bool.and_eq_false_iff, Bool.or_eq_false_iff, Bool.not_eq_true', Bool.not_eq_false', Bool.not_true, Bool.not_false, Bool.not_eq_eq_eq_not, not_true_eq_false, not_false_eq_true, reduceCtorEq, Bool.true_or, Bool.false_or, Bool.or_true, Bool.or_false, Bool.true_and, Bool.and_true, Bool.false_and, Bool.and_false, true_and, and_true, or_false, false_or, true_or, or_true, false_and, and_false, Bool.true_eq_false, Bool.false_eq_true] at *) <;> omega)
                             omega
      subst hkn
      rw [← hn]
      exact deep_vec (by rw [← cur_done k (trT s l t) false]; rfl)
end Go.Proofs.Ytkkfiadefekbbaa
