/-
  The reference's words, over deep values. No statement is proved here.
-/
import Derived.Test.YtkkfiadefekbbaaLas2
namespace Go.Proofs.Ytkkfiadefekbbaa
open Go.RowKit
set_option linter.unusedSimpArgs false
def c56 : PC := .seq (.ops [⟨(some 2), .box (.tmp 0), none, 0⟩,
    ⟨(some 4), .move (.const (.int .u64 0)), none, 0⟩] false) (.seq (.seq (.ops [⟨(some 5), .move (.tmp 1), none, 0⟩,
    ⟨(some 6), .faddr 0 (.tmp 2), none, 0⟩,
    ⟨(some 7), .load1 (.tmp 6), none, 0⟩,
    ⟨(some 8), .len (.tmp 7), none, 0⟩,
    ⟨(some 9), .faddr 1 (.tmp 2), none, 0⟩,
    ⟨(some 10), .load1 (.tmp 9), none, 0⟩,
    ⟨(some 11), .len (.tmp 10), none, 0⟩,
    ⟨(some 12), .bin .add (.tmp 8) (.tmp 11), none, 0⟩,
    ⟨(some 13), .bin .geq (.tmp 5) (.tmp 12), none, 0⟩] false) (.cond (.tmp 13) (.ops [⟨(some 14), .faddr 0 (.tmp 2), none, 0⟩,
    ⟨(some 15), .load1 (.tmp 14), none, 1⟩,
    ⟨(some 16), .len (.tmp 15), none, 3⟩,
    ⟨(some 17), .move (.tmp 1), none, 0⟩,
    ⟨(some 18), .faddr 0 (.tmp 2), none, 0⟩,
    ⟨(some 19), .load1 (.tmp 18), none, 16⟩,
    ⟨(some 20), .len (.tmp 19), none, 48⟩,
    ⟨(some 21), .bin .sub (.tmp 17) (.tmp 20), none, 120⟩,
    ⟨(some 22), .faddr 1 (.tmp 2), none, 0⟩,
    ⟨(some 23), .load1 (.tmp 22), none, 256⟩,
    ⟨(some 24), .len (.tmp 23), none, 768⟩,
    ⟨(some 25), .bin .rem (.tmp 21) (.tmp 24), none, 2040⟩,
    ⟨(some 26), .bin .add (.tmp 16) (.tmp 25), none, 4095⟩,
    ⟨(some 1), .move (.tmp 26), none, 8191⟩] true) (.skip))) (.seq (.seq (.ops [⟨(some 27), .move (.tmp 1), none, 0⟩,
    ⟨(some 28), .faddr 0 (.tmp 2), none, 0⟩,
    ⟨(some 29), .load1 (.tmp 28), none, 0⟩,
    ⟨(some 30), .len (.tmp 29), none, 0⟩,
    ⟨(some 31), .bin .lss (.tmp 27) (.tmp 30), none, 0⟩] false) (.cond (.tmp 31) (.seq (.ops [⟨(some 32), .faddr 0 (.tmp 2), none, 0⟩,
    ⟨(some 33), .load1 (.tmp 32), none, 0⟩,
    ⟨(some 34), .move (.tmp 1), none, 0⟩,
    ⟨(some 35), .iaddr 1 (.tmp 33) (.tmp 34), none, 0⟩,
    ⟨(some 36), .load1 (.tmp 35), none, 0⟩,
    ⟨(some 4), .move (.tmp 36), none, 0⟩] false) (.ret)) (.skip))) (.seq (.ops [⟨(some 37), .faddr 1 (.tmp 2), none, 0⟩,
    ⟨(some 38), .load1 (.tmp 37), none, 0⟩,
    ⟨(some 39), .move (.tmp 1), none, 0⟩,
    ⟨(some 40), .faddr 0 (.tmp 2), none, 0⟩,
    ⟨(some 41), .load1 (.tmp 40), none, 0⟩,
    ⟨(some 42), .len (.tmp 41), none, 0⟩,
    ⟨(some 43), .bin .sub (.tmp 39) (.tmp 42), none, 0⟩,
    ⟨(some 44), .iaddr 1 (.tmp 38) (.tmp 43), none, 0⟩,
    ⟨(some 45), .load1 (.tmp 44), none, 0⟩,
    ⟨(some 4), .move (.tmp 45), none, 0⟩] false) (.ret))))
set_option maxRecDepth 100000 in
theorem c56_ok : FunOK Try.prog 56 46 [.tmp 4] c56 := ⟨⟨Try.f56, Try.func56, rfl, by kernel_rfl, rfl, by kernel_rfl⟩⟩
theorem ref_At (s l : List Int) (hl : 1 ≤ l.length) (h1 : s.length ≤ 1000) (h2 : l.length ≤ 1000) (i : Nat) (hi : i ≤ 1000000000) : PCall Try.prog 56 [dword s l, .sc (.int .i64 i)] (du (atW s l i)) := by
  refine pcall_intro c56_ok (by simp) (by simp [PureL, Pure, pure_dword]) ?_ (by simp [du, Pure])
  unfold dword wcells dlet
  (apply red_sound; focus (repeat' (first | exact Red.skip | exact Red.ret | exact RedO.nil | exact RedD.nil | exact Red.exit _ | exact Red.loop _ | exact Red.stop _ | apply Red.ops | apply Red.draw | apply Red.seq | apply Red.cond | apply Red.block | apply RedO.cons | apply RedD.cons | exact (0 : Nat))))
  ((conv => whnf); repeat (refine And.intro rfl ?_; (conv => whnf)))
  rw [List.length_map, List.length_map]
  refine .inl ⟨by unfold InR; rw [IntKind.wrap_i64]; omega, ?_⟩
  ((conv => whnf); repeat (refine And.intro rfl ?_; (conv => whnf)))
  have fin : ∀ {H : List AObj} {n : Int}, n = atW s l i → Deep H (.sc (.int .u64 n)) (du (atW s l i)) := fun h => h ▸ .refl _
  (refine ifK_split (fun g1 => ?_) (fun g1 => ?_) <;> (rw [g1]; ((conv => whnf); repeat (refine And.intro rfl ?_; (conv => whnf)))))
  · have g1 : s.length + l.length ≤ i := by ((try simp only [bne_iff_ne, ne_eq, bne_eq_false_iff_eq, beq_iff_eq, beq_eq_false_iff_ne, decide_eq_true_eq, decide_eq_false_iff_not, List.length_map, Bool.not_eq_true, Bool.not_eq_false, Bool.and_eq_true, Bool.or_eq_true, Bool.and_eq_false_iff, Bool.or_eq_false_iff, Bool.not_eq_true', Bool.not_eq_false', Bool.not_true, Bool.not_false, Bool.not_eq_eq_eq_not, not_true_eq_false, not_false_eq_true, reduceCtorEq, Bool.true_or, Bool.false_or, Bool.or_true, Bool.or_false, Bool.true_and, Bool.and_true, Bool.false_and, Bool.and_false, true_and, and_true, or_false, false_or, true_or, or_true, false_and, and_false, Bool.true_eq_false, Bool.false_eq_true] at *) <;> omega)
    rw [List.length_map]
    refine .inl ⟨by unfold InR; rw [IntKind.wrap_i64]; omega, ?_⟩
    ((conv => whnf); repeat (refine And.intro rfl ?_; (conv => whnf)))
    rw [List.length_map]
    refine ⟨by omega, ?_⟩
    rw [show ((i : Int) - s.length).tmod l.length = (((i - s.length) % l.length : Nat) : Int) by rw [show (i : Int) - s.length = ((i - s.length : Nat) : Int) by omega, ← Int.ofNat_tmod]]
    have hlt : (i - s.length) % l.length < l.length := Nat.mod_lt _ (by omega)
    generalize hr : (i - s.length) % l.length = r at hlt
    ((conv => whnf); repeat (refine And.intro rfl ?_; (conv => whnf)))
    refine .inl ⟨by unfold InR; rw [IntKind.wrap_i64]; omega, ?_⟩
    ((conv => whnf); repeat (refine And.intro rfl ?_; (conv => whnf)))
    rw [List.length_map]
    (refine ifK_split (fun g2 => ?_) (fun g2 => ?_) <;> (rw [g2]; ((conv => whnf); repeat (refine And.intro rfl ?_; (conv => whnf)))))
    · exfalso; ((try simp only [bne_iff_ne, ne_eq, bne_eq_false_iff_eq, beq_iff_eq, beq_eq_false_iff_ne, decide_eq_true_eq, decide_eq_false_iff_not, List.length_map, Bool.not_eq_true, Bool.not_eq_false, Bool.and_eq_true, Bool.or_eq_true, Bool.and_eq_false_iff, Bool.or_eq_false_iff, Bool.not_eq_true', Bool.not_eq_false', Bool.not_true, Bool.not_false, Bool.not_eq_eq_eq_not, not_true_eq_false, not_false_eq_true, reduceCtorEq, Bool.true_or, Bool.false_or, Bool.or_true, Bool.or_false, Bool.true_and, Bool.and_true, Bool.false_and, Bool.and_false, true_and, and_true, or_false, false_or, true_or, or_true, false_and, and_false, Bool.true_eq_false, Bool.false_eq_true] at *) <;> omega)
    rw [List.length_map]
    refine .inl ⟨by unfold InR; rw [IntKind.wrap_i64]; omega, ?_⟩
    ((conv => whnf); repeat (refine And.intro rfl ?_; (conv => whnf)))
    obtain ⟨q1, q2⟩ := let_atZ (l := l) (z := (s.length : Int) + r - s.length) r (by omega) hlt
    refine ⟨q1, _, q2, ?_⟩
    ((conv => whnf); repeat (refine And.intro rfl ?_; (conv => whnf)))
    exact fin (by unfold atW; rw [if_neg (by omega), hr])
  · have g1 : ¬ s.length + l.length ≤ i := by ((try simp only [bne_iff_ne, ne_eq, bne_eq_false_iff_eq, beq_iff_eq, beq_eq_false_iff_ne, decide_eq_true_eq, decide_eq_false_iff_not, List.length_map, Bool.not_eq_true, Bool.not_eq_false, Bool.and_eq_true, Bool.or_eq_true, Bool.and_eq_false_iff, Bool.or_eq_false_iff, Bool.not_eq_true', Bool.not_eq_false', Bool.not_true, Bool.not_false, Bool.not_eq_eq_eq_not, not_true_eq_false, not_false_eq_true, reduceCtorEq, Bool.true_or, Bool.false_or, Bool.or_true, Bool.or_false, Bool.true_and, Bool.and_true, Bool.false_and, Bool.and_false, true_and, and_true, or_false, false_or, true_or, or_true, false_and, and_false, Bool.true_eq_false, Bool.false_eq_true] at *) <;> omega)
    rw [List.length_map]
    (refine ifK_split (fun g2 => ?_) (fun g2 => ?_) <;> (rw [g2]; ((conv => whnf); repeat (refine And.intro rfl ?_; (conv => whnf)))))
    · have g2 : i < s.length := by ((try simp only [bne_iff_ne, ne_eq, bne_eq_false_iff_eq, beq_iff_eq, beq_eq_false_iff_ne, decide_eq_true_eq, decide_eq_false_iff_not, List.length_map, Bool.not_eq_true, Bool.not_eq_false, Bool.and_eq_true, Bool.or_eq_true, Bool.and_eq_false_iff, Bool.or_eq_false_iff, Bool.not_eq_true', Bool.not_eq_false', Bool.not_true, Bool.not_false, Bool.not_eq_eq_eq_not, not_true_eq_false, not_false_eq_true, reduceCtorEq, Bool.true_or, Bool.false_or, Bool.or_true, Bool.or_false, Bool.true_and, Bool.and_true, Bool.false_and, Bool.and_false, true_and, and_true, or_false, false_or, true_or, or_true, false_and, and_false, Bool.true_eq_false, Bool.false_eq_true] at *) <;> omega)
      obtain ⟨q1, q2⟩ := let_atZ (l := s) (z := (i : Int)) i rfl g2
      refine ⟨q1, _, q2, ?_⟩
      ((conv => whnf); repeat (refine And.intro rfl ?_; (conv => whnf)))
      exact fin (by unfold atW; rw [if_pos g2])
    · have g2 : ¬ i < s.length := by ((try simp only [bne_iff_ne, ne_eq, bne_eq_false_iff_eq, beq_iff_eq, beq_eq_false_iff_ne, decide_eq_true_eq, decide_eq_false_iff_not, List.length_map, Bool.not_eq_true, Bool.not_eq_false, Bool.and_eq_true, Bool.or_eq_true, Bool.and_eq_false_iff, Bool.or_eq_false_iff, Bool.not_eq_true', Bool.not_eq_false', Bool.not_true, Bool.not_false, Bool.not_eq_eq_eq_not, not_true_eq_false, not_false_eq_true, reduceCtorEq, Bool.true_or, Bool.false_or, Bool.or_true, Bool.or_false, Bool.true_and, Bool.and_true, Bool.false_and, Bool.and_false, true_and, and_true, or_false, false_or, true_or, or_true, false_and, and_false, Bool.true_eq_false, Bool.false_eq_true] at *) <;> omega)
      rw [List.length_map]
      refine .inl ⟨by unfold InR; rw [IntKind.wrap_i64]; omega, ?_⟩
      ((conv => whnf); repeat (refine And.intro rfl ?_; (conv => whnf)))
      obtain ⟨q1, q2⟩ := let_atZ (l := l) (z := (i : Int) - s.length) (i - s.length) (by omega) (by omega)
      refine ⟨q1, _, q2, ?_⟩
      ((conv => whnf); repeat (refine And.intro rfl ?_; (conv => whnf)))
      exact fin (by unfold atW; rw [if_neg g2, Nat.mod_eq_of_lt (by omega)])
def c17 : PC := .seq (.ops [⟨(some 2), .box (.tmp 0), none, 0⟩,
    ⟨(some 3), .box (.tmp 1), none, 0⟩,
    ⟨(some 4), .move (.const (.bool false)), none, 0⟩] false) (.seq (.ops [⟨(some 5), .faddr 0 (.tmp 2), none, 0⟩,
    ⟨(some 6), .load1 (.tmp 5), none, 0⟩,
    ⟨(some 7), .faddr 0 (.tmp 3), none, 0⟩,
    ⟨(some 8), .load1 (.tmp 7), none, 0⟩,
    ⟨(some 9), .call 61 [(.tmp 6), (.tmp 8)], none, 0⟩,
    ⟨(some 10), .move (.tmp 9), none, 0⟩,
    ⟨(some 11), .faddr 1 (.tmp 2), (some (10, true)), 0⟩,
    ⟨(some 12), .load1 (.tmp 11), (some (10, true)), 0⟩,
    ⟨(some 13), .faddr 1 (.tmp 3), (some (10, true)), 0⟩,
    ⟨(some 14), .load1 (.tmp 13), (some (10, true)), 0⟩,
    ⟨(some 15), .call 61 [(.tmp 12), (.tmp 14)], (some (10, true)), 0⟩,
    ⟨(some 16), .pick (.tmp 10) (.tmp 15) (.const (.bool false)), none, 0⟩,
    ⟨(some 4), .move (.tmp 16), none, 0⟩] false) (.ret))
set_option maxRecDepth 100000 in
theorem c17_ok : FunOK Try.prog 17 17 [.tmp 4] c17 := ⟨⟨Try.f17, Try.func17, rfl, by kernel_rfl, rfl, by kernel_rfl⟩⟩
theorem ref_SameWord (s l s' l' : List Int) (h1 : s.length ≤ 1000) (h2 : l.length ≤ 1000) : PCall Try.prog 17 [dword s l, dword s' l'] (.sc (.bool (decide (s = s' ∧ l = l')))) := by
  refine pcall_intro c17_ok (by simp) (by simp [PureL, Pure, pure_dword]) ?_ (by simp [Pure])
  (apply red_sound; focus (repeat' (first | exact Red.skip | exact Red.ret | exact RedO.nil | exact RedD.nil | exact Red.exit _ | exact Red.loop _ | exact Red.stop _ | apply Red.ops | apply Red.draw | apply Red.seq | apply Red.cond | apply Red.block | apply RedO.cons | apply RedD.cons | exact (0 : Nat))))
  ((conv => whnf); repeat (refine And.intro rfl ?_; (conv => whnf)))
  (refine .inl ⟨_, (eq_u64 s s' (by omega)), ?_⟩; ((conv => whnf); repeat (refine And.intro rfl ?_; (conv => whnf))))
  by_cases e : s = s'
  · rw [decide_eq_true e]
    ((conv => whnf); repeat (refine And.intro rfl ?_; (conv => whnf)))
    (refine .inl ⟨_, (eq_u64 l l' (by omega)), ?_⟩; ((conv => whnf); repeat (refine And.intro rfl ?_; (conv => whnf))))
    exact deep_eq (congrArg (fun b => D.sc (.bool b)) (by simp [e]))
  · rw [decide_eq_false e]
    ((conv => whnf); repeat (refine And.intro rfl ?_; (conv => whnf)))
    exact deep_eq (congrArg (fun b => D.sc (.bool b)) (by simp [e]))
theorem same_word0 (s l : List Int) (h1 : s.length ≤ 1000) (h2 : l.length ≤ 1000) : PCall Try.prog 17 [dword s l, .agg [.sc (.slice none 0 0), .sc (.slice none 0 0)]] (.sc (.bool (decide (s = [] ∧ l = [])))) :=
  pcall_deep (by simp [PureL, Pure, pure_dword]) (.cons _ _ _ _ (.refl _) (.cons _ _ _ _ (.agg _ _ (.cons _ _ _ _ (.none _) (.cons _ _ _ _ (.none _) .nil))) .nil)) (ref_SameWord s l [] [] h1 h2)
def c19_1 : PC := .seq (.seq (.ops [⟨(some 6), .move (.tmp 5), none, 0⟩,
    ⟨(some 7), .bin .lss (.tmp 6) (.const (.int .i64 3660)), none, 0⟩] false) (.cond (.tmp 7) (.skip) (.exit 0))) (.seq (.block 1 (.seq (.ops [⟨(some 10), .loadA 2 (.tmp 2), none, 0⟩,
    ⟨(some 11), .move (.tmp 5), none, 0⟩,
    ⟨(some 12), .call 56 [(.tmp 10), (.tmp 11)], none, 3⟩,
    ⟨(some 13), .loadA 2 (.tmp 3), none, 0⟩,
    ⟨(some 14), .move (.tmp 5), none, 0⟩,
    ⟨(some 15), .call 56 [(.tmp 13), (.tmp 14)], none, 31⟩,
    ⟨(some 16), .bin .neq (.tmp 12) (.tmp 15), none, 63⟩] true) (.cond (.tmp 16) (.seq (.ops [⟨(some 4), .move (.const (.bool false)), none, 0⟩] false) (.ret)) (.skip)))) (.ops [⟨(some 8), .move (.tmp 5), none, 0⟩,
    ⟨(some 9), .bin .add (.tmp 8) (.const (.int .i64 1)), none, 0⟩,
    ⟨(some 5), .move (.tmp 9), none, 0⟩] false))
def c19 : PC := .seq (.ops [⟨(some 2), .box (.tmp 0), none, 0⟩,
    ⟨(some 3), .box (.tmp 1), none, 0⟩,
    ⟨(some 4), .move (.const (.bool false)), none, 0⟩] false) (.seq (.seq (.ops [⟨(some 5), .move (.const (.int .i64 0)), none, 0⟩] false) (.block 0 (.loop c19_1))) (.seq (.ops [⟨(some 4), .move (.const (.bool true)), none, 0⟩] false) (.ret)))
set_option maxRecDepth 100000 in
theorem c19_ok : FunOK Try.prog 19 17 [.tmp 4] c19 := ⟨⟨Try.f19, Try.func19, rfl, by kernel_rfl, rfl, by kernel_rfl⟩⟩
set_option maxRecDepth 100000 in
theorem ref_Alike (s l s' l' : List Int) (h : s.length + l.length ≤ 60 ∧ 1 ≤ l.length) (h' : s'.length + l'.length ≤ 60 ∧ 1 ≤ l'.length) (b : Bool) (hb : b = true ↔ ∀ i, i < 3660 → atW s l i = atW s' l' i) :
    PCall Try.prog 19 [dword s l, dword s' l'] (.sc (.bool b)) := by
  refine pcall_intro c19_ok (by simp) (by simp [PureL, Pure, pure_dword]) ?_ (by simp [Pure])
  (apply red_sound; focus (repeat' (first | exact Red.skip | exact Red.ret | exact RedO.nil | exact RedD.nil | exact Red.exit _ | exact Red.loop _ | exact Red.stop _ | apply Red.ops | apply Red.draw | apply Red.seq | apply Red.cond | apply Red.block | apply RedO.cons | apply RedD.cons | exact (0 : Nat))))
  ((conv => whnf); repeat (refine And.intro rfl ?_; (conv => whnf)))
  have fin : ∀ {H : List AObj} {c : Bool}, c = b → Deep H (.sc (.bool c)) (.sc (.bool b)) := fun h => h ▸ .refl _
  refine pwp_loop (fun k : Nat => [(2, .loc 0 0), (3, .loc 1 0), (5, .sc (.int .i64 k))]) (fun _ => [.row true (wcells s l), .row true (wcells s' l')])
    (fun k => k ≤ 3660 ∧ ∀ j, j < k → atW s l j = atW s' l' j) (fun k => 3660 - k) 0 ⟨by omega, fun j h => by omega⟩ (le_env ⟨rfl, rfl, rfl, trivial⟩) ?_
  rintro k ⟨hk, hall⟩
  (apply red_sound; focus (repeat' (first | exact Red.skip | exact Red.ret | exact RedO.nil | exact RedD.nil | exact Red.exit _ | exact Red.loop _ | exact Red.stop _ | apply Red.ops | apply Red.draw | apply Red.seq | apply Red.cond | apply Red.block | apply RedO.cons | apply RedD.cons | exact (0 : Nat))))
  ((conv => whnf); repeat (refine And.intro rfl ?_; (conv => whnf)))
  (refine ifK_split (fun g => ?_) (fun g => ?_) <;> (rw [g]; ((conv => whnf); repeat (refine And.intro rfl ?_; (conv => whnf)))))
  · have g : k < 3660 := by ((try simp only [bne_iff_ne, ne_eq, bne_eq_false_iff_eq, beq_iff_eq, beq_eq_false_iff_ne, decide_eq_true_eq, decide_eq_false_iff_not, List.length_map, Bool.not_eq_true, Bool.not_eq_false, Bool.and_eq_true, Bool.or_eq_true, Bool.and_eq_false_iff, Bool.or_eq_false_iff, Bool.not_eq_true', Bool.not_eq_false', Bool.not_true, Bool.not_false, Bool.not_eq_eq_eq_not, not_true_eq_false, not_false_eq_true, reduceCtorEq, Bool.true_or, Bool.false_or, Bool.or_true, Bool.or_false, Bool.true_and, Bool.and_true, Bool.false_and, Bool.and_false, true_and, and_true, or_false, false_or, true_or, or_true, false_and, and_false, Bool.true_eq_false, Bool.false_eq_true] at *) <;> omega)
    (refine .inl ⟨_, (ref_At s l h.2 (by omega) (by omega) k (by omega)), ?_⟩; ((conv => whnf); repeat (refine And.intro rfl ?_; (conv => whnf))))
    (refine .inl ⟨_, (ref_At s' l' h'.2 (by omega) (by omega) k (by omega)), ?_⟩; ((conv => whnf); repeat (refine And.intro rfl ?_; (conv => whnf))))
    (refine ifK_split (fun g2 => ?_) (fun g2 => ?_) <;> (rw [g2]; ((conv => whnf); repeat (refine And.intro rfl ?_; (conv => whnf)))))
    · refine fin ?_
      rw [eq_comm, ← Bool.not_eq_true, hb]
      intro q
      have := q k g
      simp only [bne_iff_ne, ne_eq] at g2
      exact g2 this
    · refine .inl ⟨by unfold InR; rw [IntKind.wrap_i64]; omega, ?_⟩
      ((conv => whnf); repeat (refine And.intro rfl ?_; (conv => whnf)))
      refine ⟨k + 1, ⟨by omega, fun j hj => ?_⟩, by dsimp only; omega, le_env ⟨rfl, rfl, rfl, trivial⟩⟩
      by_cases e : j = k
      · subst e; simpa using g2
      · exact hall j (by omega)
  · have g : ¬ k < 3660 := by ((try simp only [bne_iff_ne, ne_eq, bne_eq_false_iff_eq, beq_iff_eq, beq_eq_false_iff_ne, decide_eq_true_eq, decide_eq_false_iff_not, List.length_map, Bool.not_eq_true, Bool.not_eq_false, Bool.and_eq_true, Bool.or_eq_true, Bool.and_eq_false_iff, Bool.or_eq_false_iff, Bool.not_eq_true', Bool.not_eq_false', Bool.not_true, Bool.not_false, Bool.not_eq_eq_eq_not, not_true_eq_false, not_false_eq_true, reduceCtorEq, Bool.true_or, Bool.false_or, Bool.or_true, Bool.or_false, Bool.true_and, Bool.and_true, Bool.false_and, Bool.and_false, true_and, and_true, or_false, false_or, true_or, or_true, false_and, and_false, Bool.true_eq_false, Bool.false_eq_true] at *) <;> omega)
    exact fin (hb.2 fun i hi => hall i (by omega)).symm
end Go.Proofs.Ytkkfiadefekbbaa
