/-
  Letters of a word, of the program and of the reference, over deep values. No statement is proved here.
-/
import Derived.Test.YtfgklgjbnpjpoaaQLas
import Derived.Test.YtfgklgjbnpjpoaaQAw
import Derived.Test.YtfgklgjbnpjpoaaQBit
namespace Go.Proofs.Ytfgklgjbnpjpoaa
open Go.RowKit
set_option linter.unusedSimpArgs false
set_option linter.unusedVariables false
theorem lett_at {s l : List Int} (hs : Lett s) (hl : Lett l) (i : Nat) : 0 ≤ atW s l i ∧ atW s l i < 18446744073709551616 := by
  have key : ∀ (q : List Int) (j : Nat), Lett q → 0 ≤ q.getD j 0 ∧ q.getD j 0 < 18446744073709551616 := fun q j hq => by
    rw [List.getD_eq_getElem?_getD]
    cases e : q[j]? with
    | none => simp
    | some x => exact hq x (List.mem_of_getElem? e)
  unfold atW
  split
  · exact key _ _ hs
  · exact key _ _ hl
theorem and_one {y : Int} (h : 0 ≤ y) (h' : y < 18446744073709551616) : bitsV .and .u64 y 1 = y.tmod 2 := by
  obtain ⟨n, rfl⟩ : ∃ n : Nat, y = n := ⟨y.toNat, by omega⟩
  have e : (BitVec.ofInt 64 (n : Int) &&& BitVec.ofInt 64 1).toNat = n % 2 := by
    rw [BitVec.toNat_and]
    have e1 : (BitVec.ofInt 64 (n : Int)).toNat = n := by rw [BitVec.toNat_ofInt]; omega
    have e2 : (BitVec.ofInt 64 1).toNat = 1 := by decide
    rw [e1, e2, Nat.and_one_is_mod]
  show IntKind.u64.wrap ((BitVec.ofInt 64 (n : Int) &&& BitVec.ofInt 64 1).toNat : Int) = _
  rw [e, show ((n : Int).tmod 2) = ((n % 2 : Nat) : Int) from (Int.ofNat_tmod n 2).symm]
  unfold IntKind.wrap
  simp [IntKind.bits, IntKind.signed]
  omega
theorem fdiv_range {x : Int} (h : 0 ≤ x) (h' : x < 18446744073709551616) (k : Nat) : 0 ≤ x.fdiv (2 ^ k) ∧ x.fdiv (2 ^ k) < 18446744073709551616 := by
  have hp : (0 : Int) < 2 ^ k := Int.pow_pos (by decide)
  rw [Int.fdiv_eq_ediv_of_nonneg _ (by omega)]
  exact ⟨Int.ediv_nonneg h (by omega), Int.lt_of_le_of_lt (Int.ediv_le_self _ h) h'⟩
def c96 : PC := .seq (.ops [⟨(some 2), .box (.tmp 0), none, 0⟩,
    ⟨(some 4), .move (.const (.int .u64 0)), none, 0⟩] false) (.seq (.seq (.ops [⟨(some 5), .move (.tmp 1), none, 0⟩,
    ⟨(some 6), .faddr 0 (.tmp 2), none, 0⟩,
    ⟨(some 7), .load1 (.tmp 6), none, 0⟩,
    ⟨(some 8), .len (.tmp 7), none, 0⟩,
    ⟨(some 9), .faddr 1 (.tmp 2), none, 0⟩,
    ⟨(some 10), .load1 (.tmp 9), none, 0⟩,
    ⟨(some 11), .len (.tmp 10), none, 0⟩,
    ⟨(some 12), .bin .add (.tmp 8) (.tmp 11), none, 0⟩,
    ⟨(some 13), .bin .geq (.tmp 5) (.tmp 12), none, 0⟩] false) (.cond (.tmp 13) (.ops [⟨(some 14), .faddr 0 (.tmp 2), none, 0⟩,
    ⟨(some 15), .load1 (.tmp 14), none, 1⟩,
    ⟨(some 16), .len (.tmp 15), none, 3⟩,
    ⟨(some 17), .move (.tmp 1), none, 0⟩,
    ⟨(some 18), .faddr 0 (.tmp 2), none, 0⟩,
    ⟨(some 19), .load1 (.tmp 18), none, 16⟩,
    ⟨(some 20), .len (.tmp 19), none, 48⟩,
    ⟨(some 21), .bin .sub (.tmp 17) (.tmp 20), none, 120⟩,
    ⟨(some 22), .faddr 1 (.tmp 2), none, 0⟩,
    ⟨(some 23), .load1 (.tmp 22), none, 256⟩,
    ⟨(some 24), .len (.tmp 23), none, 768⟩,
    ⟨(some 25), .bin .rem (.tmp 21) (.tmp 24), none, 2040⟩,
    ⟨(some 26), .bin .add (.tmp 16) (.tmp 25), none, 4095⟩,
    ⟨(some 1), .move (.tmp 26), none, 8191⟩] true) (.skip))) (.seq (.seq (.ops [⟨(some 27), .move (.tmp 1), none, 0⟩,
    ⟨(some 28), .faddr 0 (.tmp 2), none, 0⟩,
    ⟨(some 29), .load1 (.tmp 28), none, 0⟩,
    ⟨(some 30), .len (.tmp 29), none, 0⟩,
    ⟨(some 31), .bin .lss (.tmp 27) (.tmp 30), none, 0⟩] false) (.cond (.tmp 31) (.seq (.ops [⟨(some 32), .faddr 0 (.tmp 2), none, 0⟩,
    ⟨(some 33), .load1 (.tmp 32), none, 0⟩,
    ⟨(some 34), .move (.tmp 1), none, 0⟩,
    ⟨(some 35), .iaddr 1 (.tmp 33) (.tmp 34), none, 0⟩,
    ⟨(some 36), .load1 (.tmp 35), none, 0⟩,
    ⟨(some 4), .move (.tmp 36), none, 0⟩] false) (.ret)) (.skip))) (.seq (.ops [⟨(some 37), .faddr 1 (.tmp 2), none, 0⟩,
    ⟨(some 38), .load1 (.tmp 37), none, 0⟩,
    ⟨(some 39), .move (.tmp 1), none, 0⟩,
    ⟨(some 40), .faddr 0 (.tmp 2), none, 0⟩,
    ⟨(some 41), .load1 (.tmp 40), none, 0⟩,
    ⟨(some 42), .len (.tmp 41), none, 0⟩,
    ⟨(some 43), .bin .sub (.tmp 39) (.tmp 42), none, 0⟩,
    ⟨(some 44), .iaddr 1 (.tmp 38) (.tmp 43), none, 0⟩,
    ⟨(some 45), .load1 (.tmp 44), none, 0⟩,
    ⟨(some 4), .move (.tmp 45), none, 0⟩] false) (.ret))))
set_option maxRecDepth 100000 in
theorem c96_ok : FunOK Try.prog 96 46 [.tmp 4] c96 := ⟨⟨Try.f96, Try.func96, rfl, by kernel_rfl, rfl, by kernel_rfl⟩⟩
theorem ref_At (s l : List Int) (hl : 1 ≤ l.length) (h1 : s.length ≤ 1000) (h2 : l.length ≤ 1000) (i : Nat) (hi : i ≤ 1000000000) : PCall Try.prog 96 [dword s l, .sc (.int .i64 i)] (du (atW s l i)) := by
  refine pcall_intro c96_ok (by simp) (by simp [PureL, Pure, pure_dword]) ?_ (by simp [du, Pure])
  unfold dword wcells dlet
  (apply rd_sound; focus (repeat' constructor))
  ((conv=>whnf);repeat(refine And.intro rfl ?_;(conv=>whnf)))
  rw [List.length_map, List.length_map]
  refine .inl ⟨by unfold InR; rw [IntKind.wrap_i64]; omega, ?_⟩
  ((conv=>whnf);repeat(refine And.intro rfl ?_;(conv=>whnf)))
  have fin : ∀ {H : List AObj} {n : Int}, n = atW s l i → Deep H (.sc (.int .u64 n)) (du (atW s l i)) := fun h => h ▸ .refl _
  (refine ifK_split (fun g1 => ?_) (fun g1 => ?_) <;> (rw [g1]; ((conv=>whnf);repeat(refine And.intro rfl ?_;(conv=>whnf)))))
  · have g1 : s.length + l.length ≤ i := by ((try simp only [oo, reduceCtorEq] at *) <;> omega)
    rw [List.length_map]
    refine .inl ⟨by unfold InR; rw [IntKind.wrap_i64]; omega, ?_⟩
    ((conv=>whnf);repeat(refine And.intro rfl ?_;(conv=>whnf)))
    rw [List.length_map]
    refine ⟨by omega, ?_⟩
    rw [show ((i : Int) - s.length).tmod l.length = (((i - s.length) % l.length : Nat) : Int) by rw [show (i : Int) - s.length = ((i - s.length : Nat) : Int) by omega, ← Int.ofNat_tmod]]
    have hlt : (i - s.length) % l.length < l.length := Nat.mod_lt _ (by omega)
    generalize hr : (i - s.length) % l.length = r at hlt
    ((conv=>whnf);repeat(refine And.intro rfl ?_;(conv=>whnf)))
    refine .inl ⟨by unfold InR; rw [IntKind.wrap_i64]; omega, ?_⟩
    ((conv=>whnf);repeat(refine And.intro rfl ?_;(conv=>whnf)))
    rw [List.length_map]
    (refine ifK_split (fun g2 => ?_) (fun g2 => ?_) <;> (rw [g2]; ((conv=>whnf);repeat(refine And.intro rfl ?_;(conv=>whnf)))))
    · exfalso; ((try simp only [oo, reduceCtorEq] at *) <;> omega)
    rw [List.length_map]
    refine .inl ⟨by unfold InR; rw [IntKind.wrap_i64]; omega, ?_⟩
    ((conv=>whnf);repeat(refine And.intro rfl ?_;(conv=>whnf)))
    obtain ⟨q1, q2⟩ := let_atZ (l := l) (z := (s.length : Int) + r - s.length) r (by omega) hlt
    refine ⟨q1, _, q2, ?_⟩
    ((conv=>whnf);repeat(refine And.intro rfl ?_;(conv=>whnf)))
    exact fin (by unfold atW; rw [if_neg (by omega), hr])
  · have g1 : ¬ s.length + l.length ≤ i := by ((try simp only [oo, reduceCtorEq] at *) <;> omega)
    rw [List.length_map]
    (refine ifK_split (fun g2 => ?_) (fun g2 => ?_) <;> (rw [g2]; ((conv=>whnf);repeat(refine And.intro rfl ?_;(conv=>whnf)))))
    · have g2 : i < s.length := by ((try simp only [oo, reduceCtorEq] at *) <;> omega)
      obtain ⟨q1, q2⟩ := let_atZ (l := s) (z := (i : Int)) i rfl g2
      refine ⟨q1, _, q2, ?_⟩
      ((conv=>whnf);repeat(refine And.intro rfl ?_;(conv=>whnf)))
      exact fin (by unfold atW; rw [if_pos g2])
    · have g2 : ¬ i < s.length := by ((try simp only [oo, reduceCtorEq] at *) <;> omega)
      rw [List.length_map]
      refine .inl ⟨by unfold InR; rw [IntKind.wrap_i64]; omega, ?_⟩
      ((conv=>whnf);repeat(refine And.intro rfl ?_;(conv=>whnf)))
      obtain ⟨q1, q2⟩ := let_atZ (l := l) (z := (i : Int) - s.length) (i - s.length) (by omega) (by omega)
      refine ⟨q1, _, q2, ?_⟩
      ((conv=>whnf);repeat(refine And.intro rfl ?_;(conv=>whnf)))
      exact fin (by unfold atW; rw [if_neg g2, Nat.mod_eq_of_lt (by omega)])
def c218 : PC := .seq (.ops [⟨(some 2), .box (.tmp 0), none, 0⟩,
    ⟨(some 4), .move (.const (.int .u64 0)), none, 0⟩] false) (.seq (.seq (.ops [⟨(some 5), .move (.tmp 1), none, 0⟩,
    ⟨(some 6), .faddr 0 (.tmp 2), none, 0⟩,
    ⟨(some 7), .load1 (.tmp 6), none, 0⟩,
    ⟨(some 8), .len (.tmp 7), none, 0⟩,
    ⟨(some 9), .bin .lss (.tmp 5) (.tmp 8), none, 0⟩] false) (.cond (.tmp 9) (.seq (.ops [⟨(some 10), .faddr 0 (.tmp 2), none, 0⟩,
    ⟨(some 11), .load1 (.tmp 10), none, 0⟩,
    ⟨(some 12), .move (.tmp 1), none, 0⟩,
    ⟨(some 13), .iaddr 1 (.tmp 11) (.tmp 12), none, 0⟩,
    ⟨(some 14), .load1 (.tmp 13), none, 0⟩,
    ⟨(some 4), .move (.tmp 14), none, 0⟩] false) (.ret)) (.skip))) (.seq (.ops [⟨(some 15), .faddr 1 (.tmp 2), none, 0⟩,
    ⟨(some 16), .load1 (.tmp 15), none, 1⟩,
    ⟨(some 17), .move (.tmp 1), none, 0⟩,
    ⟨(some 18), .faddr 0 (.tmp 2), none, 0⟩,
    ⟨(some 19), .load1 (.tmp 18), none, 8⟩,
    ⟨(some 20), .len (.tmp 19), none, 24⟩,
    ⟨(some 21), .bin .sub (.tmp 17) (.tmp 20), none, 60⟩,
    ⟨(some 22), .faddr 1 (.tmp 2), none, 0⟩,
    ⟨(some 23), .load1 (.tmp 22), none, 128⟩,
    ⟨(some 24), .len (.tmp 23), none, 384⟩,
    ⟨(some 25), .bin .rem (.tmp 21) (.tmp 24), none, 1020⟩,
    ⟨(some 26), .iaddr 1 (.tmp 16) (.tmp 25), none, 2047⟩,
    ⟨(some 27), .load1 (.tmp 26), none, 4095⟩,
    ⟨(some 4), .move (.tmp 27), none, 8191⟩] true) (.ret)))
set_option maxRecDepth 100000 in
theorem c218_ok : FunOK Try.prog 218 28 [.tmp 4] c218 := ⟨⟨Try.f218, Try.func218, rfl, by kernel_rfl, rfl, by kernel_rfl⟩⟩
theorem las_at (s l : List Int) (hl : 1 ≤ l.length) (h1 : s.length ≤ 1000) (h2 : l.length ≤ 1000) (i : Nat) (hi : (i : Int) ≤ 9223372036854775807) : PCall Try.prog 218 [dword s l, .sc (.int .i64 i)] (.sc (.int .u64 (atW s l i))) := by
  refine pcall_intro c218_ok (by simp) (by simp [PureL, Pure, pure_dword]) ?_ (by simp [Pure])
  unfold dword wcells dlet
  (apply rd_sound; focus (repeat' constructor))
  ((conv=>whnf);repeat(refine And.intro rfl ?_;(conv=>whnf)))
  rw [List.length_map]
  have fin : ∀ {H : List AObj} {n : Int}, n = atW s l i → Deep H (.sc (.int .u64 n)) (.sc (.int .u64 (atW s l i))) := fun h => h ▸ .refl _
  (refine ifK_split (fun g2 => ?_) (fun g2 => ?_) <;> (rw [g2]; ((conv=>whnf);repeat(refine And.intro rfl ?_;(conv=>whnf)))))
  · have g2 : i < s.length := by ((try simp only [oo, reduceCtorEq] at *) <;> omega)
    obtain ⟨q1, q2⟩ := let_atZ (l := s) (z := (i : Int)) i rfl g2
    refine ⟨q1, _, q2, ?_⟩
    ((conv=>whnf);repeat(refine And.intro rfl ?_;(conv=>whnf)))
    exact fin (by unfold atW; rw [if_pos g2])
  · have g2 : ¬ i < s.length := by ((try simp only [oo, reduceCtorEq] at *) <;> omega)
    rw [List.length_map]
    refine .inl ⟨by unfold InR; rw [IntKind.wrap_i64]; omega, ?_⟩
    ((conv=>whnf);repeat(refine And.intro rfl ?_;(conv=>whnf)))
    rw [List.length_map]
    refine ⟨by omega, ?_⟩
    rw [show ((i : Int) - s.length).tmod l.length = (((i - s.length) % l.length : Nat) : Int) by rw [show (i : Int) - s.length = ((i - s.length : Nat) : Int) by omega, ← Int.ofNat_tmod]]
    have hlt : (i - s.length) % l.length < l.length := Nat.mod_lt _ (by omega)
    generalize hr : (i - s.length) % l.length = r at hlt
    ((conv=>whnf);repeat(refine And.intro rfl ?_;(conv=>whnf)))
    obtain ⟨q1, q2⟩ := let_atZ (l := l) (z := (r : Int)) r rfl hlt
    refine ⟨q1, _, q2, ?_⟩
    ((conv=>whnf);repeat(refine And.intro rfl ?_;(conv=>whnf)))
    exact fin (by unfold atW; rw [if_neg g2, hr])
def c156k : PC := .seq (.ops [⟨(some 2), .box (.tmp 0), none, 0⟩,
    ⟨(some 4), .move (.const (.int .u64 0)), none, 0⟩,
    ⟨(some 5), .move (.const (.int .i64 0)), none, 0⟩] false) (.seq (.seq (.ops [⟨(some 7), .loadA 2 (.tmp 2), none, 0⟩,
    ⟨(some 8), .call 73 [(.tmp 7)], none, 0⟩,
    ⟨(some 6), .move (.tmp 8), none, 0⟩] false) (.seq (.ops [⟨(some 9), .move (.tmp 6), none, 0⟩,
    ⟨(some 10), .bin .neq (.tmp 9) (.const (.int .i64 0)), none, 0⟩] false) (.cond (.tmp 10) (.seq (.ops [⟨(some 11), .move (.tmp 6), none, 0⟩,
    ⟨(some 4), .move (.const (.int .u64 0)), none, 0⟩,
    ⟨(some 5), .move (.tmp 11), none, 0⟩] false) (.ret)) (.skip)))) (.seq (.seq (.ops [⟨(some 12), .move (.tmp 1), none, 0⟩,
    ⟨(some 13), .bin .lss (.tmp 12) (.const (.int .i64 0)), none, 0⟩] false) (.cond (.tmp 13) (.seq (.ops [⟨(some 4), .move (.const (.int .u64 0)), none, 0⟩,
    ⟨(some 5), .move (.const (.int .i64 1)), none, 0⟩] false) (.ret)) (.skip))) (.seq (.ops [⟨(some 14), .loadA 2 (.tmp 2), none, 0⟩,
    ⟨(some 15), .move (.tmp 1), none, 0⟩,
    ⟨(some 16), .call 218 [(.tmp 14), (.tmp 15)], none, 0⟩,
    ⟨(some 4), .move (.tmp 16), none, 0⟩,
    ⟨(some 5), .move (.const (.int .i64 0)), none, 0⟩] false) (.ret))))
set_option maxRecDepth 100000 in
theorem c156k_ok : FunOK Try.prog 156 17 [.tmp 4, .tmp 5] c156k := ⟨⟨Try.f156, Try.func156, rfl, by kernel_rfl, rfl, by kernel_rfl⟩⟩
theorem las_AtK (s l : List Int) (hw : wchk s l = 0) (i : Nat) (hi : i ≤ 1000000) : PCall Try.prog 156 [dword s l, .sc (.int .i64 i)] (.tup [.sc (.int .u64 (atW s l i)), .sc (.int .i64 0)]) := by
  have w1 := (wchk_zero s l).1 hw
  refine pcall_intro c156k_ok (by simp) (by simp [PureL, Pure, pure_dword]) ?_ (by simp [Pure, PureL])
  (apply rd_sound; focus (repeat' constructor))
  ((conv=>whnf);repeat(refine And.intro rfl ?_;(conv=>whnf)))
  (refine .inl ⟨_, (las_Check s l), ?_⟩; ((conv=>whnf);repeat(refine And.intro rfl ?_;(conv=>whnf))))
  (refine ifK_split (fun h1 => ?_) (fun h1 => ?_) <;> (rw [h1]; ((conv=>whnf);repeat(refine And.intro rfl ?_;(conv=>whnf)))))
  · exfalso; ((try simp only [oo, reduceCtorEq] at *) <;> omega)
  (refine .inl ⟨_, (las_at s l w1.2 (by omega) (by omega) i (by omega)), ?_⟩; ((conv=>whnf);repeat(refine And.intro rfl ?_;(conv=>whnf))))
  exact .refl _
def c78 : PC := .seq (.ops [⟨(some 3), .box (.tmp 0), none, 0⟩,
    ⟨(some 6), .move (.const (.bool false)), none, 0⟩] false) (.seq (.ops [⟨(some 7), .loadA 2 (.tmp 3), none, 0⟩,
    ⟨(some 8), .move (.tmp 1), none, 0⟩,
    ⟨(some 9), .call 96 [(.tmp 7), (.tmp 8)], none, 0⟩,
    ⟨(some 10), .move (.tmp 2), none, 0⟩,
    ⟨(some 11), .bin .shr (.tmp 9) (.tmp 10), none, 0⟩,
    ⟨(some 12), .bin .rem (.tmp 11) (.const (.int .u64 2)), none, 0⟩,
    ⟨(some 13), .bin .eql (.tmp 12) (.const (.int .u64 1)), none, 0⟩,
    ⟨(some 6), .move (.tmp 13), none, 0⟩] false) (.ret))
set_option maxRecDepth 100000 in
theorem c78_ok : FunOK Try.prog 78 14 [.tmp 6] c78 := ⟨⟨Try.f78, Try.func78, rfl, by kernel_rfl, rfl, by kernel_rfl⟩⟩
theorem ref_Has (s l : List Int) (hl : 1 ≤ l.length) (h1 : s.length + l.length ≤ 60) (i : Nat) (hi : i ≤ 1000) (a : Int) (ha : 0 ≤ a) : PCall Try.prog 78 [dword s l, .sc (.int .i64 i), .sc (.int .i64 a)] (.sc (.bool (bitB (atW s l i) a))) := by
  refine pcall_intro c78_ok (by simp) (by simp [PureL, Pure, pure_dword]) ?_ (by simp [Pure])
  (apply rd_sound; focus (repeat' constructor))
  ((conv=>whnf);repeat(refine And.intro rfl ?_;(conv=>whnf)))
  (refine .inl ⟨_, (ref_At s l hl (by omega) (by omega) i (by omega)), ?_⟩; ((conv=>whnf);repeat(refine And.intro rfl ?_;(conv=>whnf))))
  refine ⟨ha, ?_⟩
  ((conv=>whnf);repeat(refine And.intro rfl ?_;(conv=>whnf)))
  refine ⟨by decide, ?_⟩
  ((conv=>whnf);repeat(refine And.intro rfl ?_;(conv=>whnf)))
  exact .refl _
end Go.Proofs.Ytfgklgjbnpjpoaa
