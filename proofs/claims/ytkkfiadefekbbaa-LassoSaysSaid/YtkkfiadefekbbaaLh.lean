/-
  The program's truths of a formula along a word, over deep values. No statement is proved here.
-/
import Derived.Test.YtkkfiadefekbbaaLas3
import Derived.Test.YtkkfiadefekbbaaLt
import Derived.Test.YtkkfiadefekbbaaCk
import Derived.Test.YtkkfiadefekbbaaDl
namespace Go.Proofs.Ytkkfiadefekbbaa
open Go.RowKit
set_option linter.unusedSimpArgs false
set_option linter.unusedVariables false

/-! ### Lists of truths -/
def rbl (n : Nat) (g : Nat → Bool) : List (List D) := (List.range n).map fun i => [.sc (.bool (g i))]
def dbl (n : Nat) (g : Nat → Bool) : D := .lst 1 (rbl n g)
@[simp] theorem rbl_len (n : Nat) (g : Nat → Bool) : (rbl n g).length = n := by simp [rbl]
theorem rbl_at {n i : Nat} {g : Nat → Bool} (h : i < n) : (rbl n g)[i]? = some [.sc (.bool (g i))] := by
  simp [rbl, List.getElem?_map, List.getElem?_range h]
theorem rbl_atN {n : Nat} {g : Nat → Bool} {z : Nat} (i : Nat) (hz : z = i) (h : i < n) : (rbl n g)[z]? = some [.sc (.bool (g i))] := by
  subst hz
  exact rbl_at h
theorem rbl_atZ {n : Nat} {g : Nat → Bool} {z : Int} (i : Nat) (hz : z = i) (h : i < n) : 0 ≤ z ∧ (rbl n g)[z.toNat]? = some [.sc (.bool (g i))] := by
  subst hz
  exact ⟨by omega, rbl_at h⟩
theorem rbl_congr {n : Nat} {g g' : Nat → Bool} (h : ∀ i, i < n → g i = g' i) : rbl n g = rbl n g' := by
  unfold rbl
  exact List.map_congr_left fun i hi => by rw [h i (List.mem_range.1 hi)]
theorem rbl_set (n : Nat) (g : Nat → Bool) (k : Nat) (v : Bool) : (rbl n g).set k [.sc (.bool v)] = rbl n (fun i => if i = k then v else g i) := by
  apply List.ext_getElem?
  intro i
  by_cases hi : i < n
  · by_cases hk : i = k
    · subst hk
      rw [List.getElem?_set_self (by simpa using hi), rbl_at hi]
      simp
    · rw [List.getElem?_set_ne (fun e => hk e.symm), rbl_at hi, rbl_at hi]
      simp [hk]
  · rw [List.getElem?_eq_none (by simp; omega), List.getElem?_eq_none (by simp; omega)]
theorem rbl_rep (n : Nat) : List.replicate n [D.sc (.bool false)] = rbl n (fun _ => false) := by
  apply List.ext_getElem?
  intro i
  by_cases hi : i < n
  · rw [rbl_at hi, List.getElem?_replicate, if_pos hi]
  · rw [List.getElem?_eq_none (by simp; omega), List.getElem?_eq_none (by simp; omega)]
theorem pure_rbl (n : Nat) (g : Nat → Bool) : PureLL (rbl n g) := pureLL_map _ (fun i => by simp [PureL, Pure]) _
theorem pure_dbl (n : Nat) (g : Nat → Bool) : Pure (dbl n g) := by simp only [dbl, Pure]; exact pure_rbl n g
theorem rbl_all (n : Nat) (g : Nat → Bool) : List.drop 0 (List.take n (rbl n g)) = rbl n g := by rw [List.drop_zero, List.take_of_length_le (by simp)]
theorem dbl_congr {n : Nat} {g g' : Nat → Bool} (h : ∀ i, i < n → g i = g' i) : dbl n g = dbl n g' := by unfold dbl; rw [rbl_congr h]
theorem le_envH {n : Nat} {env env' : Env} {H H' : List AObj} (h : sameE env env') (e : H = H') : St.le n env H env' H' := e ▸ le_env h
theorem deep_vec {H : List AObj} {id v n : Nat} {q : Bool} {g : Nat → Bool} (h : H[id]? = some (.vec q v 1 (rbl n g))) : Deep H (.own id v 0 n) (dbl n g) := .own _ _ _ _ _ _ _ _ h (by rw [rbl_all]; exact deepLL_refl _)
/-- What is known of the places ahead of one; what stands there. -/
def curF (T : Nat → Bool) (k : Nat) (o : Bool) : Nat → Bool := fun i => if i < k then T i else if i = k then o else false
@[simp] theorem curF_at (T : Nat → Bool) (k : Nat) (o : Bool) : curF T k o k = o := by simp [curF]
theorem cur_set {n k : Nat} {T : Nat → Bool} {o v : Bool} {z : Nat} (hz : z = k) : (rbl n (curF T k o)).set z [.sc (.bool v)] = rbl n (curF T k v) := by
  subst hz
  rw [rbl_set]
  refine rbl_congr fun i _ => ?_
  unfold curF
  by_cases e : i = z
  · subst e; simp
  · simp [e]
theorem cur_next {n k : Nat} {T : Nat → Bool} {o : Bool} (h : o = T k) : rbl n (curF T k o) = rbl n (curF T (k + 1) false) := by
  refine rbl_congr fun i _ => ?_
  unfold curF
  by_cases e : i = k
  · subst e; simp [h]
  · by_cases e2 : i < k
    · rw [if_pos e2, if_pos (by omega)]
    · rw [if_neg e2, if_neg e, if_neg (by omega)]
      split <;> rfl
theorem cur_zero (n : Nat) (T : Nat → Bool) : rbl n (fun _ => false) = rbl n (curF T 0 false) := by
  refine rbl_congr fun i _ => ?_
  unfold curF
  simp
theorem cur_done (n : Nat) (T : Nat → Bool) (o : Bool) : rbl n (curF T n o) = rbl n T := rbl_congr fun i hi => if_pos hi
/-- A call on one of the caller's slices that makes a new one. -/
theorem acall_own1 {P : Program} {f : FuncId} {v lo hi v' lo' hi' : Nat} {o x : AObj} (h : ACall P f [.own 0 v lo hi] [o] (.own 1 v' lo' hi') [o, x]) (ho : ∀ ρ, o.ren ρ = o) (hx : ∀ ρ, x.ren ρ = x) (hu : o.under 1)
    {H : List AObj} {id : Nat} (hid : H[id]? = some o) : ACall P f [.own id v lo hi] H (.own H.length v' lo' hi') (H ++ [x]) := by
  have hlt := get_lt hid
  refine acall_frame (H := H) (H' := H ++ [x]) (fun i => if i = 0 then id else H.length) h (fun i j hi hj e => ?_) (fun i q hq => ?_) (fun i h1 h2 => ?_) (by simp) (fun i q hq => ?_) (fun j hj _ => ?_) ⟨by simp [Under], trivial⟩ (fun q hq => ?_)
  · simp only [List.length_cons, List.length_nil] at hi hj
    (repeat' split at e) <;> omega
  · cases i with
    | zero => simp at hq; subst hq; rw [ho]; exact hid
    | succ i => simp at hq
  · simp only [List.length_cons, List.length_nil] at h1 h2
    rw [if_neg (by omega)]
    exact Nat.le_refl _
  · match i with
    | 0 => simp at hq; subst hq; rw [ho]; simp only [if_true]; rw [List.getElem?_append_left hlt]; exact hid
    | 1 => simp at hq; subst hq; rw [hx]; simp
    | i + 2 => simp at hq
  · rw [List.getElem?_append_left hj]
  · simp at hq; subst hq; exact hu

/-! ### The program's functions -/
def c92 : PC := .seq (.ops [⟨(some 2), .box (.tmp 0), none, 0⟩,
    ⟨(some 4), .move (.const (.int .u64 0)), none, 0⟩] false) (.seq (.seq (.ops [⟨(some 5), .move (.tmp 1), none, 0⟩,
    ⟨(some 6), .faddr 0 (.tmp 2), none, 0⟩,
    ⟨(some 7), .load1 (.tmp 6), none, 0⟩,
    ⟨(some 8), .len (.tmp 7), none, 0⟩,
    ⟨(some 9), .bin .lss (.tmp 5) (.tmp 8), none, 0⟩] false) (.cond (.tmp 9) (.seq (.ops [⟨(some 10), .faddr 0 (.tmp 2), none, 0⟩,
    ⟨(some 11), .load1 (.tmp 10), none, 0⟩,
    ⟨(some 12), .move (.tmp 1), none, 0⟩,
    ⟨(some 13), .iaddr 1 (.tmp 11) (.tmp 12), none, 0⟩,
    ⟨(some 14), .load1 (.tmp 13), none, 0⟩,
    ⟨(some 4), .move (.tmp 14), none, 0⟩] false) (.ret)) (.skip))) (.seq (.ops [⟨(some 15), .faddr 1 (.tmp 2), none, 0⟩,
    ⟨(some 16), .load1 (.tmp 15), none, 1⟩,
    ⟨(some 17), .move (.tmp 1), none, 0⟩,
    ⟨(some 18), .faddr 0 (.tmp 2), none, 0⟩,
    ⟨(some 19), .load1 (.tmp 18), none, 8⟩,
    ⟨(some 20), .len (.tmp 19), none, 24⟩,
    ⟨(some 21), .bin .sub (.tmp 17) (.tmp 20), none, 60⟩,
    ⟨(some 22), .faddr 1 (.tmp 2), none, 0⟩,
    ⟨(some 23), .load1 (.tmp 22), none, 128⟩,
    ⟨(some 24), .len (.tmp 23), none, 384⟩,
    ⟨(some 25), .bin .rem (.tmp 21) (.tmp 24), none, 1020⟩,
    ⟨(some 26), .iaddr 1 (.tmp 16) (.tmp 25), none, 2047⟩,
    ⟨(some 27), .load1 (.tmp 26), none, 4095⟩,
    ⟨(some 4), .move (.tmp 27), none, 8191⟩] true) (.ret)))
set_option maxRecDepth 100000 in
theorem c92_ok : FunOK Try.prog 92 28 [.tmp 4] c92 := ⟨⟨Try.f92, Try.func92, rfl, by kernel_rfl, rfl, by kernel_rfl⟩⟩
theorem las_at (s l : List Int) (hl : 1 ≤ l.length) (h1 : s.length ≤ 1000) (h2 : l.length ≤ 1000) (i : Nat) (hi : (i : Int) ≤ 9223372036854775807) : PCall Try.prog 92 [dword s l, .sc (.int .i64 i)] (.sc (.int .u64 (atW s l i))) := by
  refine pcall_intro c92_ok (by simp) (by simp [PureL, Pure, pure_dword]) ?_ (by simp [Pure])
  unfold dword wcells dlet
  (apply red_sound; focus (repeat' (first | exact Red.skip | exact Red.ret | exact RedO.nil | exact RedD.nil | exact Red.exit _ | exact Red.loop _ | exact Red.stop _ | apply Red.ops | apply Red.draw | apply Red.seq | apply Red.cond | apply Red.block | apply RedO.cons | apply RedD.cons | exact (0 : Nat))))
  ((conv => whnf); repeat (refine And.intro rfl ?_; (conv => whnf)))
  rw [List.length_map]
  have fin : ∀ {H : List AObj} {n : Int}, n = atW s l i → Deep H (.sc (.int .u64 n)) (.sc (.int .u64 (atW s l i))) := fun h => h ▸ .refl _
  (refine ifK_split (fun g2 => ?_) (fun g2 => ?_) <;> (rw [g2]; ((conv => whnf); repeat (refine And.intro rfl ?_; (conv => whnf)))))
  · have g2 : i < s.length := by ((try simp only [bne_iff_ne, ne_eq, bne_eq_false_iff_eq, beq_iff_eq, beq_eq_false_iff_ne, decide_eq_true_eq, decide_eq_false_iff_not, List.length_map, Bool.not_eq_true, Bool.not_eq_false, Bool.and_eq_true, Bool.or_eq_true, Bool.and_eq_false_iff, Bool.or_eq_false_iff, Bool.not_eq_true', Bool.not_eq_false', Bool.not_true, Bool.not_false, Bool.not_eq_eq_eq_not, not_true_eq_false, not_false_eq_true, reduceCtorEq, Bool.true_or, Bool.false_or, Bool.or_true, Bool.or_false, Bool.true_and, Bool.and_true, Bool.false_and, Bool.and_false, true_and, and_true, or_false, false_or, true_or, or_true, false_and, and_false, Bool.true_eq_false, Bool.false_eq_true] at *) <;> omega)
    obtain ⟨q1, q2⟩ := let_atZ (l := s) (z := (i : Int)) i rfl g2
    refine ⟨q1, _, q2, ?_⟩
    ((conv => whnf); repeat (refine And.intro rfl ?_; (conv => whnf)))
    exact fin (by unfold atW; rw [if_pos g2])
  · have g2 : ¬ i < s.length := by ((try simp only [bne_iff_ne, ne_eq, bne_eq_false_iff_eq, beq_iff_eq, beq_eq_false_iff_ne, decide_eq_true_eq, decide_eq_false_iff_not, List.length_map, Bool.not_eq_true, Bool.not_eq_false, Bool.and_eq_true, Bool.or_eq_true, Bool.and_eq_false_iff, Bool.or_eq_false_iff, Bool.not_eq_true', Bool.not_eq_false', Bool.not_true, Bool.not_false, Bool.not_eq_eq_eq_not, not_true_eq_false, not_false_eq_true, reduceCtorEq, Bool.true_or, Bool.false_or, Bool.or_true, Bool.or_false, Bool.true_and, Bool.and_true, Bool.false_and, Bool.and_false, true_and, and_true, or_false, false_or, true_or, or_true, false_and, and_false, Bool.true_eq_false, Bool.false_eq_true] at *) <;> omega)
    rw [List.length_map]
    refine .inl ⟨by unfold InR; rw [IntKind.wrap_i64]; omega, ?_⟩
    ((conv => whnf); repeat (refine And.intro rfl ?_; (conv => whnf)))
    rw [List.length_map]
    refine ⟨by omega, ?_⟩
    rw [show ((i : Int) - s.length).tmod l.length = (((i - s.length) % l.length : Nat) : Int) by rw [show (i : Int) - s.length = ((i - s.length : Nat) : Int) by omega, ← Int.ofNat_tmod]]
    have hlt : (i - s.length) % l.length < l.length := Nat.mod_lt _ (by omega)
    generalize hr : (i - s.length) % l.length = r at hlt
    ((conv => whnf); repeat (refine And.intro rfl ?_; (conv => whnf)))
    obtain ⟨q1, q2⟩ := let_atZ (l := l) (z := (r : Int)) r rfl hlt
    refine ⟨q1, _, q2, ?_⟩
    ((conv => whnf); repeat (refine And.intro rfl ?_; (conv => whnf)))
    exact fin (by unfold atW; rw [if_neg g2, hr])
def c151 : PC := .seq (.ops [⟨(some 2), .box (.tmp 0), none, 0⟩,
    ⟨(some 4), .move (.const (.int .i64 0)), none, 0⟩] false) (.seq (.seq (.ops [⟨(some 5), .move (.tmp 1), none, 0⟩,
    ⟨(some 6), .bin .add (.tmp 5) (.const (.int .i64 1)), none, 0⟩,
    ⟨(some 7), .faddr 0 (.tmp 2), none, 0⟩,
    ⟨(some 8), .load1 (.tmp 7), none, 0⟩,
    ⟨(some 9), .len (.tmp 8), none, 0⟩,
    ⟨(some 10), .faddr 1 (.tmp 2), none, 0⟩,
    ⟨(some 11), .load1 (.tmp 10), none, 0⟩,
    ⟨(some 12), .len (.tmp 11), none, 0⟩,
    ⟨(some 13), .bin .add (.tmp 9) (.tmp 12), none, 0⟩,
    ⟨(some 14), .bin .eql (.tmp 6) (.tmp 13), none, 0⟩] false) (.cond (.tmp 14) (.seq (.ops [⟨(some 15), .faddr 0 (.tmp 2), none, 0⟩,
    ⟨(some 16), .load1 (.tmp 15), none, 0⟩,
    ⟨(some 17), .len (.tmp 16), none, 0⟩,
    ⟨(some 4), .move (.tmp 17), none, 0⟩] false) (.ret)) (.skip))) (.seq (.ops [⟨(some 18), .move (.tmp 1), none, 0⟩,
    ⟨(some 19), .bin .add (.tmp 18) (.const (.int .i64 1)), none, 0⟩,
    ⟨(some 4), .move (.tmp 19), none, 0⟩] false) (.ret)))
set_option maxRecDepth 100000 in
theorem c151_ok : FunOK Try.prog 151 20 [.tmp 4] c151 := ⟨⟨Try.f151, Try.func151, rfl, by kernel_rfl, rfl, by kernel_rfl⟩⟩
theorem las_next (s l : List Int) (hl : 1 ≤ l.length) (h1 : s.length + l.length ≤ 60) (i : Nat) (hi : i < s.length + l.length) : PCall Try.prog 151 [dword s l, .sc (.int .i64 i)] (.sc (.int .i64 (wr (s.length + l.length) l.length (i + 1) : Nat))) := by
  refine pcall_intro c151_ok (by simp) (by simp [PureL, Pure, pure_dword]) ?_ (by simp [Pure])
  unfold dword wcells dlet
  (apply red_sound; focus (repeat' (first | exact Red.skip | exact Red.ret | exact RedO.nil | exact RedD.nil | exact Red.exit _ | exact Red.loop _ | exact Red.stop _ | apply Red.ops | apply Red.draw | apply Red.seq | apply Red.cond | apply Red.block | apply RedO.cons | apply RedD.cons | exact (0 : Nat))))
  ((conv => whnf); repeat (refine And.intro rfl ?_; (conv => whnf)))
  refine .inl ⟨by unfold InR; rw [IntKind.wrap_i64]; omega, ?_⟩
  ((conv => whnf); repeat (refine And.intro rfl ?_; (conv => whnf)))
  rw [List.length_map, List.length_map]
  refine .inl ⟨by unfold InR; rw [IntKind.wrap_i64]; omega, ?_⟩
  ((conv => whnf); repeat (refine And.intro rfl ?_; (conv => whnf)))
  have fin : ∀ {H : List AObj} {z : Int}, z = (wr (s.length + l.length) l.length (i + 1) : Nat) → Deep H (.sc (.int .i64 z)) (.sc (.int .i64 (wr (s.length + l.length) l.length (i + 1) : Nat))) := fun h => h ▸ .refl _
  (refine ifK_split (fun g => ?_) (fun g => ?_) <;> (rw [g]; ((conv => whnf); repeat (refine And.intro rfl ?_; (conv => whnf)))))
  · rw [List.length_map]
    exact fin (by have : i + 1 = s.length + l.length := by ((try simp only [bne_iff_ne, ne_eq, bne_eq_false_iff_eq, beq_iff_eq, beq_eq_false_iff_ne, decide_eq_true_eq, decide_eq_false_iff_not, List.length_map, Bool.not_eq_true, Bool.not_eq_false, Bool.and_eq_true, Bool.or_eq_true, Bool.and_eq_false_iff, Bool.or_eq_false_iff, Bool.not_eq_true', Bool.not_eq_false', Bool.not_true, Bool.not_false, Bool.not_eq_eq_eq_not, not_true_eq_false, not_false_eq_true, reduceCtorEq, Bool.true_or, Bool.false_or, Bool.or_true, Bool.or_false, Bool.true_and, Bool.and_true, Bool.false_and, Bool.and_false, true_and, and_true, or_false, false_or, true_or, or_true, false_and, and_false, Bool.true_eq_false, Bool.false_eq_true] at *) <;> omega)
                  unfold wr; rw [if_neg (by omega)]; omega)
  · refine .inl ⟨by unfold InR; rw [IntKind.wrap_i64]; omega, ?_⟩
    ((conv => whnf); repeat (refine And.intro rfl ?_; (conv => whnf)))
    exact fin (by have : ¬ i + 1 = s.length + l.length := by ((try simp only [bne_iff_ne, ne_eq, bne_eq_false_iff_eq, beq_iff_eq, beq_eq_false_iff_ne, decide_eq_true_eq, decide_eq_false_iff_not, List.length_map, Bool.not_eq_true, Bool.not_eq_false, Bool.and_eq_true, Bool.or_eq_true, Bool.and_eq_false_iff, Bool.or_eq_false_iff, Bool.not_eq_true', Bool.not_eq_false', Bool.not_true, Bool.not_false, Bool.not_eq_eq_eq_not, not_true_eq_false, not_false_eq_true, reduceCtorEq, Bool.true_or, Bool.false_or, Bool.or_true, Bool.or_false, Bool.true_and, Bool.and_true, Bool.false_and, Bool.and_false, true_and, and_true, or_false, false_or, true_or, or_true, false_and, and_false, Bool.true_eq_false, Bool.false_eq_true] at *) <;> omega)
                  unfold wr; rw [if_pos (by omega)]; omega)
def c149_1 : PC := .seq (.ops [⟨(some 12), .bin .lss (.tmp 11) (.tmp 10), none, 0⟩] false) (.seq (.cond (.tmp 12) (.skip) (.exit 0)) (.seq (.block 1 (.seq (.ops [⟨(some 13), .move (.tmp 11), none, 0⟩,
    ⟨(some 14), .iaddr 1 (.tmp 9) (.tmp 11), none, 0⟩,
    ⟨(some 15), .load1 (.tmp 14), none, 0⟩,
    ⟨(some 4), .move (.tmp 13), none, 0⟩,
    ⟨(some 5), .move (.tmp 15), none, 0⟩] false) (.ops [⟨(some 16), .move (.tmp 3), none, 0⟩,
    ⟨(some 17), .move (.tmp 4), none, 0⟩,
    ⟨(some 18), .move (.tmp 5), none, 0⟩,
    ⟨(some 19), .un .not (.tmp 18), none, 0⟩,
    ⟨(some 20), .iaddr 1 (.tmp 16) (.tmp 17), none, 0⟩,
    ⟨none, .store 1 (.tmp 20) (.tmp 19), none, 0⟩] false))) (.ops [⟨(some 21), .bin .add (.tmp 11) (.const (.int .i64 1)), none, 0⟩,
    ⟨(some 11), .move (.tmp 21), none, 0⟩] false)))
def c149 : PC := .seq (.ops [⟨(some 2), .move (.const (.slice none 0 0)), none, 0⟩] false) (.seq (.ops [⟨(some 6), .move (.tmp 0), none, 0⟩,
    ⟨(some 7), .len (.tmp 6), none, 0⟩,
    ⟨(some 8), .mslice 1 1 [(.bool false)] (.tmp 7) (.tmp 7), none, 0⟩,
    ⟨(some 3), .move (.tmp 8), none, 0⟩] false) (.seq (.seq (.ops [⟨(some 9), .move (.tmp 0), none, 0⟩,
    ⟨(some 10), .len (.tmp 9), none, 0⟩,
    ⟨(some 11), .move (.const (.int .i64 0)), none, 0⟩] false) (.block 0 (.loop c149_1))) (.seq (.ops [⟨(some 22), .move (.tmp 3), none, 0⟩,
    ⟨(some 2), .move (.tmp 22), none, 0⟩] false) (.ret))))
set_option maxRecDepth 100000 in
theorem c149_ok : FunOK Try.prog 149 23 [.tmp 2] c149 := ⟨⟨Try.f149, Try.func149, rfl, by kernel_rfl, rfl, by kernel_rfl⟩⟩
theorem las_not (n : Nat) (hn : n ≤ 1000) (g : Nat → Bool) : PCall Try.prog 149 [dbl n g] (dbl n fun i => !(g i)) := by
  refine pcall_intro c149_ok (by simp) (by simp [PureL, pure_dbl]) ?_ (pure_dbl _ _)
  (apply red_sound; focus (repeat' (first | exact Red.skip | exact Red.ret | exact RedO.nil | exact RedD.nil | exact Red.exit _ | exact Red.loop _ | exact Red.stop _ | apply Red.ops | apply Red.draw | apply Red.seq | apply Red.cond | apply Red.block | apply RedO.cons | apply RedD.cons | exact (0 : Nat))))
  ((conv => whnf); repeat (refine And.intro rfl ?_; (conv => whnf)))
  rw [rbl_len]
  refine ⟨by omega, by omega, by omega, ?_⟩
  rw [Int.toNat_natCast]
  ((conv => whnf); repeat (refine And.intro rfl ?_; (conv => whnf)))
  rw [rbl_len]
  refine pwp_loop (fun k : Nat => [(3, .own 0 0 0 n), (9, dbl n g), (10, .sc (.int .i64 n)), (11, .sc (.int .i64 k))]) (fun k => [.vec true 0 1 (rbl n fun i => if i < k then !(g i) else false)])
    (fun k => k ≤ n) (fun k => n - k) 0 (by omega) (le_envH ⟨rfl, rfl, rfl, rfl, trivial⟩ (by simp [rbl_rep])) ?_
  rintro k hk
  (apply red_sound; focus (repeat' (first | exact Red.skip | exact Red.ret | exact RedO.nil | exact RedD.nil | exact Red.exit _ | exact Red.loop _ | exact Red.stop _ | apply Red.ops | apply Red.draw | apply Red.seq | apply Red.cond | apply Red.block | apply RedO.cons | apply RedD.cons | exact (0 : Nat))))
  ((conv => whnf); repeat (refine And.intro rfl ?_; (conv => whnf)))
  (refine ifK_split (fun h => ?_) (fun h => ?_) <;> (rw [h]; ((conv => whnf); repeat (refine And.intro rfl ?_; (conv => whnf)))))
  · have hk' : k < n := by ((try simp only [bne_iff_ne, ne_eq, bne_eq_false_iff_eq, beq_iff_eq, beq_eq_false_iff_ne, decide_eq_true_eq, decide_eq_false_iff_not, List.length_map, Bool.not_eq_true, Bool.not_eq_false, Bool.and_eq_true, Bool.or_eq_true, Bool.and_eq_false_iff, Bool.or_eq_false_iff, Bool.not_eq_true', Bool.not_eq_false', Bool.not_true, Bool.not_false, Bool.not_eq_eq_eq_not, not_true_eq_false, not_false_eq_true, reduceCtorEq, Bool.true_or, Bool.false_or, Bool.or_true, Bool.or_false, Bool.true_and, Bool.and_true, Bool.false_and, Bool.and_false, true_and, and_true, or_false, false_or, true_or, or_true, false_and, and_false, Bool.true_eq_false, Bool.false_eq_true] at *) <;> omega)
    obtain ⟨q1, q2⟩ := rbl_atZ (g := g) (z := (k : Int)) k rfl hk'
    refine ⟨q1, _, q2, ?_⟩
    ((conv => whnf); repeat (refine And.intro rfl ?_; (conv => whnf)))
    refine ⟨by omega, by omega, ?_⟩
    ((conv => whnf); repeat (refine And.intro rfl ?_; (conv => whnf)))
    refine ⟨_, rbl_atN k (by omega) hk', ?_⟩
    ((conv => whnf); repeat (refine And.intro rfl ?_; (conv => whnf)))
    refine .inl ⟨by unfold InR; rw [IntKind.wrap_i64]; omega, ?_⟩
    ((conv => whnf); repeat (refine And.intro rfl ?_; (conv => whnf)))
    refine ⟨k + 1, by omega, by dsimp only; omega, le_envH ⟨rfl, rfl, rfl, rfl, trivial⟩ ?_⟩
    rw [show 0 + (k : Int).toNat = k by omega, rbl_set]
    congr 2
    refine rbl_congr fun i hi => ?_
    by_cases e : i = k
    · subst e; simp
    · rw [if_neg e]
      by_cases e2 : i < k
      · rw [if_pos e2, if_pos (by omega)]
      · rw [if_neg e2, if_neg (by omega)]
  · have hkn : k = n := by have : ¬ k < n := by ((try simp only [bne_iff_ne, ne_eq, bne_eq_false_iff_eq, beq_iff_eq, beq_eq_false_iff_ne, decide_eq_true_eq, decide_eq_false_iff_not, List.length_map, Bool.not_eq_true, Bool.not_eq_false, Bool.and_eq_true, Bool.or_eq_true, Bool.and_eq_false_iff, Bool.or_eq_false_iff, Bool.not_eq_true', Bool.not_eq_false', Bool.not_true, Bool.not_false, Bool.not_eq_eq_eq_not, not_true_eq_false, not_false_eq_true, reduceCtorEq, Bool.true_or, Bool.false_or, Bool.or_true, Bool.or_false, Bool.true_and, Bool.and_true, Bool.false_and, Bool.and_false, true_and, and_true, or_false, false_or, true_or, or_true, false_and, and_false, Bool.true_eq_false, Bool.false_eq_true] at *) <;> omega)
                           omega
    subst hkn
    refine .own _ _ _ _ _ _ _ _ rfl ?_
    rw [rbl_all, rbl_congr (g' := fun i => !(g i)) fun i hi => if_pos hi]
    exact deepLL_refl _
theorem las_not_own (n v : Nat) (hn : n ≤ 1000) (g : Nat → Bool) : ACall Try.prog 149 [.own 0 v 0 n] [.vec true v 1 (rbl n g)] (.own 1 0 0 n) [.vec true v 1 (rbl n g), .vec true 0 1 (rbl n fun i => !(g i))] := by
  refine acall_intro c149_ok (by simp) (by simp) ?_ (by simp [Under]) (by simp [AObj.under, underLL_pure _ (pure_rbl _ _)])
  (apply red_sound; focus (repeat' (first | exact Red.skip | exact Red.ret | exact RedO.nil | exact RedD.nil | exact Red.exit _ | exact Red.loop _ | exact Red.stop _ | apply Red.ops | apply Red.draw | apply Red.seq | apply Red.cond | apply Red.block | apply RedO.cons | apply RedD.cons | exact (0 : Nat))))
  ((conv => whnf); repeat (refine And.intro rfl ?_; (conv => whnf)))
  refine ⟨by omega, by omega, by omega, ?_⟩
  rw [Int.toNat_natCast]
  ((conv => whnf); repeat (refine And.intro rfl ?_; (conv => whnf)))
  refine pwp_loop (fun k : Nat => [(3, .own 1 0 0 n), (9, .own 0 v 0 n), (10, .sc (.int .i64 n)), (11, .sc (.int .i64 k))]) (fun k => [.vec true v 1 (rbl n g), .vec true 0 1 (rbl n fun i => if i < k then !(g i) else false)])
    (fun k => k ≤ n) (fun k => n - k) 0 (by omega) (le_envH ⟨rfl, rfl, rfl, rfl, trivial⟩ (by simp [rbl_rep])) ?_
  rintro k hk
  (apply red_sound; focus (repeat' (first | exact Red.skip | exact Red.ret | exact RedO.nil | exact RedD.nil | exact Red.exit _ | exact Red.loop _ | exact Red.stop _ | apply Red.ops | apply Red.draw | apply Red.seq | apply Red.cond | apply Red.block | apply RedO.cons | apply RedD.cons | exact (0 : Nat))))
  ((conv => whnf); repeat (refine And.intro rfl ?_; (conv => whnf)))
  (refine ifK_split (fun h => ?_) (fun h => ?_) <;> (rw [h]; ((conv => whnf); repeat (refine And.intro rfl ?_; (conv => whnf)))))
  · have hk' : k < n := by ((try simp only [bne_iff_ne, ne_eq, bne_eq_false_iff_eq, beq_iff_eq, beq_eq_false_iff_ne, decide_eq_true_eq, decide_eq_false_iff_not, List.length_map, Bool.not_eq_true, Bool.not_eq_false, Bool.and_eq_true, Bool.or_eq_true, Bool.and_eq_false_iff, Bool.or_eq_false_iff, Bool.not_eq_true', Bool.not_eq_false', Bool.not_true, Bool.not_false, Bool.not_eq_eq_eq_not, not_true_eq_false, not_false_eq_true, reduceCtorEq, Bool.true_or, Bool.false_or, Bool.or_true, Bool.or_false, Bool.true_and, Bool.and_true, Bool.false_and, Bool.and_false, true_and, and_true, or_false, false_or, true_or, or_true, false_and, and_false, Bool.true_eq_false, Bool.false_eq_true] at *) <;> omega)
    refine ⟨by omega, by omega, ?_⟩
    ((conv => whnf); repeat (refine And.intro rfl ?_; (conv => whnf)))
    refine ⟨_, rbl_atN k (by omega) hk', ?_⟩
    ((conv => whnf); repeat (refine And.intro rfl ?_; (conv => whnf)))
    refine ⟨by omega, by omega, ?_⟩
    ((conv => whnf); repeat (refine And.intro rfl ?_; (conv => whnf)))
    refine ⟨_, rbl_atN k (by omega) hk', ?_⟩
    ((conv => whnf); repeat (refine And.intro rfl ?_; (conv => whnf)))
    refine .inl ⟨by unfold InR; rw [IntKind.wrap_i64]; omega, ?_⟩
    ((conv => whnf); repeat (refine And.intro rfl ?_; (conv => whnf)))
    refine ⟨k + 1, by omega, by dsimp only; omega, le_envH ⟨rfl, rfl, rfl, rfl, trivial⟩ ?_⟩
    rw [show 0 + (k : Int).toNat = k by omega, rbl_set]
    congr 3
    refine rbl_congr fun i hi => ?_
    by_cases e : i = k
    · subst e; simp
    · rw [if_neg e]
      by_cases e2 : i < k
      · rw [if_pos e2, if_pos (by omega)]
      · rw [if_neg e2, if_neg (by omega)]
  · have hkn : k = n := by have : ¬ k < n := by ((try simp only [bne_iff_ne, ne_eq, bne_eq_false_iff_eq, beq_iff_eq, beq_eq_false_iff_ne, decide_eq_true_eq, decide_eq_false_iff_not, List.length_map, Bool.not_eq_true, Bool.not_eq_false, Bool.and_eq_true, Bool.or_eq_true, Bool.and_eq_false_iff, Bool.or_eq_false_iff, Bool.not_eq_true', Bool.not_eq_false', Bool.not_true, Bool.not_false, Bool.not_eq_eq_eq_not, not_true_eq_false, not_false_eq_true, reduceCtorEq, Bool.true_or, Bool.false_or, Bool.or_true, Bool.or_false, Bool.true_and, Bool.and_true, Bool.false_and, Bool.and_false, true_and, and_true, or_false, false_or, true_or, or_true, false_and, and_false, Bool.true_eq_false, Bool.false_eq_true] at *) <;> omega)
                           omega
    subst hkn
    rw [rbl_congr (g := fun i => if i < k then !(g i) else false) (g' := fun i => !(g i)) fun i hi => if_pos hi]
    exact ⟨rfl, by simp⟩
def c150_2 : PC := .seq (.seq (.ops [⟨(some 18), .move (.tmp 9), none, 0⟩,
    ⟨(some 19), .bin .geq (.tmp 18) (.const (.int .i64 0)), none, 0⟩] false) (.cond (.tmp 19) (.skip) (.exit 2))) (.seq (.block 3 (.ops [⟨(some 22), .move (.tmp 8), none, 0⟩,
    ⟨(some 23), .move (.tmp 9), none, 0⟩,
    ⟨(some 24), .move (.tmp 2), none, 0⟩,
    ⟨(some 25), .move (.tmp 9), none, 0⟩,
    ⟨(some 26), .iaddr 1 (.tmp 24) (.tmp 25), none, 0⟩,
    ⟨(some 27), .load1 (.tmp 26), none, 0⟩,
    ⟨(some 28), .move (.tmp 27), none, 0⟩,
    ⟨(some 29), .move (.tmp 1), (some (28, false)), 0⟩,
    ⟨(some 30), .move (.tmp 9), (some (28, false)), 0⟩,
    ⟨(some 31), .iaddr 1 (.tmp 29) (.tmp 30), (some (28, false)), 0⟩,
    ⟨(some 32), .load1 (.tmp 31), (some (28, false)), 0⟩,
    ⟨(some 33), .move (.tmp 32), (some (28, false)), 0⟩,
    ⟨(some 34), .move (.tmp 8), (some (33, true)), 0⟩,
    ⟨(some 35), .loadA 2 (.tmp 3), (some (33, true)), 0⟩,
    ⟨(some 36), .move (.tmp 9), (some (33, true)), 0⟩,
    ⟨(some 37), .call 151 [(.tmp 35), (.tmp 36)], (some (33, true)), 0⟩,
    ⟨(some 38), .iaddr 1 (.tmp 34) (.tmp 37), (some (33, true)), 0⟩,
    ⟨(some 39), .load1 (.tmp 38), (some (33, true)), 0⟩,
    ⟨(some 40), .pick (.tmp 33) (.tmp 39) (.const (.bool false)), (some (28, false)), 0⟩,
    ⟨(some 41), .pick (.tmp 28) (.const (.bool true)) (.tmp 40), none, 0⟩,
    ⟨(some 42), .iaddr 1 (.tmp 22) (.tmp 23), none, 0⟩,
    ⟨none, .store 1 (.tmp 42) (.tmp 41), none, 0⟩] false)) (.ops [⟨(some 20), .move (.tmp 9), none, 0⟩,
    ⟨(some 21), .bin .sub (.tmp 20) (.const (.int .i64 1)), none, 0⟩,
    ⟨(some 9), .move (.tmp 21), none, 0⟩] false))
def c150_1 : PC := .seq (.ops [⟨(some 15), .bin .lss (.tmp 14) (.const (.int .i64 2)), none, 0⟩] false) (.seq (.cond (.tmp 15) (.skip) (.exit 0)) (.seq (.block 1 (.seq (.ops [⟨(some 16), .move (.tmp 7), none, 0⟩,
    ⟨(some 17), .bin .sub (.tmp 16) (.const (.int .i64 1)), none, 0⟩,
    ⟨(some 9), .move (.tmp 17), none, 0⟩] false) (.block 2 (.loop c150_2)))) (.ops [⟨(some 43), .bin .add (.tmp 14) (.const (.int .i64 1)), none, 0⟩,
    ⟨(some 14), .move (.tmp 43), none, 0⟩] false)))
def c150 : PC := .seq (.ops [⟨(some 3), .box (.tmp 0), none, 0⟩,
    ⟨(some 6), .move (.const (.slice none 0 0)), none, 0⟩] false) (.seq (.ops [⟨(some 10), .move (.tmp 1), none, 0⟩,
    ⟨(some 11), .len (.tmp 10), none, 0⟩,
    ⟨(some 7), .move (.tmp 11), none, 0⟩] false) (.seq (.ops [⟨(some 12), .move (.tmp 7), none, 0⟩,
    ⟨(some 13), .mslice 1 1 [(.bool false)] (.tmp 12) (.tmp 12), none, 0⟩,
    ⟨(some 8), .move (.tmp 13), none, 0⟩] false) (.seq (.seq (.ops [⟨(some 14), .move (.const (.int .i64 0)), none, 0⟩] false) (.block 0 (.loop c150_1))) (.seq (.ops [⟨(some 44), .move (.tmp 8), none, 0⟩,
    ⟨(some 6), .move (.tmp 44), none, 0⟩] false) (.ret)))))
set_option maxRecDepth 100000 in
theorem c150_ok : FunOK Try.prog 150 45 [.tmp 6] c150 := ⟨⟨Try.f150, Try.func150, rfl, by kernel_rfl, rfl, by kernel_rfl⟩⟩
/-- What stands after so many rounds. -/
def olds (n s : Nat) (a b : Nat → Bool) : Nat → Nat → Bool
  | 0 => fun _ => false
  | r + 1 => fun i => rr a b (olds n s a b r s) i (n - i)
theorem olds_two {n m s : Nat} {a b : Nat → Bool} (hn : n = s + m) {i : Nat} (hi : i ≤ n) : olds n s a b 2 i = untilF n m a b i := by
  rw [until_rounds hn hi]
  simp only [olds]
  rw [show n - s = m by omega]
theorem las_until (s l : List Int) (hl : 1 ≤ l.length) (h1 : s.length + l.length ≤ 60) (a b : Nat → Bool) (n : Nat) (hn : n = s.length + l.length) : PCall Try.prog 150 [dword s l, dbl n a, dbl n b] (dbl n (untilF n l.length a b)) := by
  have hnx : ∀ i : Nat, i < n → PCall Try.prog 151 [dword s l, .sc (.int .i64 i)] (.sc (.int .i64 (wr n l.length (i + 1) : Nat))) := fun i hi => by subst hn; exact las_next s l hl h1 i hi
  refine pcall_intro c150_ok (by simp) (by simp [PureL, pure_dword, pure_dbl]) ?_ (pure_dbl _ _)
  (apply red_sound; focus (repeat' (first | exact Red.skip | exact Red.ret | exact RedO.nil | exact RedD.nil | exact Red.exit _ | exact Red.loop _ | exact Red.stop _ | apply Red.ops | apply Red.draw | apply Red.seq | apply Red.cond | apply Red.block | apply RedO.cons | apply RedD.cons | exact (0 : Nat))))
  ((conv => whnf); repeat (refine And.intro rfl ?_; (conv => whnf)))
  rw [rbl_len]
  refine ⟨by omega, by omega, by omega, ?_⟩
  rw [Int.toNat_natCast]
  ((conv => whnf); repeat (refine And.intro rfl ?_; (conv => whnf)))
  refine pwp_loop (fun r : Nat => [(1, dbl n a), (2, dbl n b), (3, .loc 0 0), (7, .sc (.int .i64 n)), (8, .own 1 0 0 n), (14, .sc (.int .i64 r))]) (fun r => [.row true (wcells s l), .vec true 0 1 (rbl n (olds n s.length a b r))])
    (fun r => r ≤ 2) (fun r => 2 - r) 0 (by omega) (le_envH ⟨rfl, rfl, rfl, rfl, rfl, rfl, trivial⟩ (by simp [rbl_rep, olds])) ?_
  rintro r hr
  (apply red_sound; focus (repeat' (first | exact Red.skip | exact Red.ret | exact RedO.nil | exact RedD.nil | exact Red.exit _ | exact Red.loop _ | exact Red.stop _ | apply Red.ops | apply Red.draw | apply Red.seq | apply Red.cond | apply Red.block | apply RedO.cons | apply RedD.cons | exact (0 : Nat))))
  ((conv => whnf); repeat (refine And.intro rfl ?_; (conv => whnf)))
  (refine ifK_split (fun hr2 => ?_) (fun hr2 => ?_) <;> (rw [hr2]; ((conv => whnf); repeat (refine And.intro rfl ?_; (conv => whnf)))))
  · have hr2 : r < 2 := by ((try simp only [bne_iff_ne, ne_eq, bne_eq_false_iff_eq, beq_iff_eq, beq_eq_false_iff_ne, decide_eq_true_eq, decide_eq_false_iff_not, List.length_map, Bool.not_eq_true, Bool.not_eq_false, Bool.and_eq_true, Bool.or_eq_true, Bool.and_eq_false_iff, Bool.or_eq_false_iff, Bool.not_eq_true', Bool.not_eq_false', Bool.not_true, Bool.not_false, Bool.not_eq_eq_eq_not, not_true_eq_false, not_false_eq_true, reduceCtorEq, Bool.true_or, Bool.false_or, Bool.or_true, Bool.or_false, Bool.true_and, Bool.and_true, Bool.false_and, Bool.and_false, true_and, and_true, or_false, false_or, true_or, or_true, false_and, and_false, Bool.true_eq_false, Bool.false_eq_true] at *) <;> omega)
    refine .inl ⟨by unfold InR; rw [IntKind.wrap_i64]; omega, ?_⟩
    ((conv => whnf); repeat (refine And.intro rfl ?_; (conv => whnf)))
    generalize ho : olds n s.length a b r = old
    have hnew : olds n s.length a b (r + 1) = fun i => rr a b (old s.length) i (n - i) := by rw [← ho]; rfl
    refine pwp_loop (fun c : Nat => [(1, dbl n a), (2, dbl n b), (3, .loc 0 0), (7, .sc (.int .i64 n)), (8, .own 1 0 0 n), (14, .sc (.int .i64 r)), (9, .sc (.int .i64 ((c : Int) - 1)))])
      (fun c => [.row true (wcells s l), .vec true 0 1 (rbl n fun i => if c ≤ i then rr a b (old s.length) i (n - i) else old i)])
      (fun c => c ≤ n) (fun c => c) n (by omega) (le_envH ⟨rfl, rfl, rfl, rfl, rfl, rfl, rfl, trivial⟩ (by rw [rbl_congr (g := old) (g' := fun i => if n ≤ i then rr a b (old s.length) i (n - i) else old i) fun i hi => by rw [if_neg (by omega)]])) ?_
    rintro c hc
    (apply red_sound; focus (repeat' (first | exact Red.skip | exact Red.ret | exact RedO.nil | exact RedD.nil | exact Red.exit _ | exact Red.loop _ | exact Red.stop _ | apply Red.ops | apply Red.draw | apply Red.seq | apply Red.cond | apply Red.block | apply RedO.cons | apply RedD.cons | exact (0 : Nat))))
    ((conv => whnf); repeat (refine And.intro rfl ?_; (conv => whnf)))
    (refine ifK_split (fun hc2 => ?_) (fun hc2 => ?_) <;> (rw [hc2]; ((conv => whnf); repeat (refine And.intro rfl ?_; (conv => whnf)))))
    · have hc2 : 1 ≤ c := by ((try simp only [bne_iff_ne, ne_eq, bne_eq_false_iff_eq, beq_iff_eq, beq_eq_false_iff_ne, decide_eq_true_eq, decide_eq_false_iff_not, List.length_map, Bool.not_eq_true, Bool.not_eq_false, Bool.and_eq_true, Bool.or_eq_true, Bool.and_eq_false_iff, Bool.or_eq_false_iff, Bool.not_eq_true', Bool.not_eq_false', Bool.not_true, Bool.not_false, Bool.not_eq_eq_eq_not, not_true_eq_false, not_false_eq_true, reduceCtorEq, Bool.true_or, Bool.false_or, Bool.or_true, Bool.or_false, Bool.true_and, Bool.and_true, Bool.false_and, Bool.and_false, true_and, and_true, or_false, false_or, true_or, or_true, false_and, and_false, Bool.true_eq_false, Bool.false_eq_true] at *) <;> omega)
      obtain ⟨k, rfl⟩ : ∃ k, c = k + 1 := ⟨c - 1, by omega⟩
      rw [show ((k + 1 : Nat) : Int) - 1 = (k : Int) by omega]
      have hk : k < n := by omega
      obtain ⟨q1, q2⟩ := rbl_atZ (g := b) (z := (k : Int)) k rfl hk
      refine ⟨q1, _, q2, ?_⟩
      ((conv => whnf); repeat (refine And.intro rfl ?_; (conv => whnf)))
      have step : rr a b (old s.length) k (n - k) = (b k || (a k && rr a b (old s.length) (k + 1) (n - (k + 1)))) := by
        rw [show n - k = (n - (k + 1)) + 1 by omega]; rfl
      have nextv : (if k + 1 ≤ wr n l.length (k + 1) then rr a b (old s.length) (wr n l.length (k + 1)) (n - wr n l.length (k + 1)) else old (wr n l.length (k + 1))) = rr a b (old s.length) (k + 1) (n - (k + 1)) := by
        by_cases e : k + 1 < n
        · have : wr n l.length (k + 1) = k + 1 := by unfold wr; rw [if_pos e]
          rw [this, if_pos (by omega)]
        · have : wr n l.length (k + 1) = s.length := by unfold wr; rw [if_neg e]; omega
          rw [this, if_neg (by omega), show n - (k + 1) = 0 by omega]
          rfl
      have fin : ∀ {v : Bool}, v = rr a b (old s.length) k (n - k) → (rbl n fun i => if k + 1 ≤ i then rr a b (old s.length) i (n - i) else old i).set (0 + (k : Int).toNat) [.sc (.bool v)] = rbl n fun i => if k ≤ i then rr a b (old s.length) i (n - i) else old i := fun h => by
        rw [show 0 + (k : Int).toNat = k by omega, rbl_set, h]
        refine rbl_congr fun i hi => ?_
        by_cases e : i = k
        · subst e; simp
        · rw [if_neg e]
          by_cases e2 : k ≤ i
          · rw [if_pos e2, if_pos (by omega)]
          · rw [if_neg e2, if_neg (by omega)]
      have close : ∀ {v : Bool}, v = rr a b (old s.length) k (n - k) → InR .i64 ((k : Int) - 1) := fun _ => by unfold InR; rw [IntKind.wrap_i64]; omega
      cases hb : b k
      · ((conv => whnf); repeat (refine And.intro rfl ?_; (conv => whnf)))
        obtain ⟨q3, q4⟩ := rbl_atZ (g := a) (z := (k : Int)) k rfl hk
        refine ⟨q3, _, q4, ?_⟩
        ((conv => whnf); repeat (refine And.intro rfl ?_; (conv => whnf)))
        cases ha : a k
        · ((conv => whnf); repeat (refine And.intro rfl ?_; (conv => whnf)))
          refine ⟨by omega, by omega, ?_⟩
          ((conv => whnf); repeat (refine And.intro rfl ?_; (conv => whnf)))
          refine ⟨_, rbl_atN k (by omega) hk, ?_⟩
          ((conv => whnf); repeat (refine And.intro rfl ?_; (conv => whnf)))
          refine .inl ⟨by unfold InR; rw [IntKind.wrap_i64]; omega, ?_⟩
          ((conv => whnf); repeat (refine And.intro rfl ?_; (conv => whnf)))
          exact ⟨k, by omega, by dsimp only; omega, le_envH ⟨rfl, rfl, rfl, rfl, rfl, rfl, rfl, trivial⟩ (by congr 3; exact fin (by rw [step, hb, ha]; rfl))⟩
        · ((conv => whnf); repeat (refine And.intro rfl ?_; (conv => whnf)))
          (refine .inl ⟨_, (hnx k hk), ?_⟩; ((conv => whnf); repeat (refine And.intro rfl ?_; (conv => whnf))))
          have hw : wr n l.length (k + 1) < n := by unfold wr; split <;> omega
          refine ⟨by omega, by omega, ?_⟩
          ((conv => whnf); repeat (refine And.intro rfl ?_; (conv => whnf)))
          refine ⟨_, rbl_atN (wr n l.length (k + 1)) (by omega) hw, ?_⟩
          ((conv => whnf); repeat (refine And.intro rfl ?_; (conv => whnf)))
          refine ⟨by omega, by omega, ?_⟩
          ((conv => whnf); repeat (refine And.intro rfl ?_; (conv => whnf)))
          refine ⟨_, rbl_atN k (by omega) hk, ?_⟩
          ((conv => whnf); repeat (refine And.intro rfl ?_; (conv => whnf)))
          refine .inl ⟨by unfold InR; rw [IntKind.wrap_i64]; omega, ?_⟩
          ((conv => whnf); repeat (refine And.intro rfl ?_; (conv => whnf)))
          exact ⟨k, by omega, by dsimp only; omega, le_envH ⟨rfl, rfl, rfl, rfl, rfl, rfl, rfl, trivial⟩ (by congr 3; exact fin (by rw [step, hb, ha, nextv]; rfl))⟩
      · ((conv => whnf); repeat (refine And.intro rfl ?_; (conv => whnf)))
        refine ⟨by omega, by omega, ?_⟩
        ((conv => whnf); repeat (refine And.intro rfl ?_; (conv => whnf)))
        refine ⟨_, rbl_atN k (by omega) hk, ?_⟩
        ((conv => whnf); repeat (refine And.intro rfl ?_; (conv => whnf)))
        refine .inl ⟨by unfold InR; rw [IntKind.wrap_i64]; omega, ?_⟩
        ((conv => whnf); repeat (refine And.intro rfl ?_; (conv => whnf)))
        exact ⟨k, by omega, by dsimp only; omega, le_envH ⟨rfl, rfl, rfl, rfl, rfl, rfl, rfl, trivial⟩ (by congr 3; exact fin (by rw [step, hb]; rfl))⟩
    · have hc0 : c = 0 := by have : ¬ 1 ≤ c := by ((try simp only [bne_iff_ne, ne_eq, bne_eq_false_iff_eq, beq_iff_eq, beq_eq_false_iff_ne, decide_eq_true_eq, decide_eq_false_iff_not, List.length_map, Bool.not_eq_true, Bool.not_eq_false, Bool.and_eq_true, Bool.or_eq_true, Bool.and_eq_false_iff, Bool.or_eq_false_iff, Bool.not_eq_true', Bool.not_eq_false', Bool.not_true, Bool.not_false, Bool.not_eq_eq_eq_not, not_true_eq_false, not_false_eq_true, reduceCtorEq, Bool.true_or, Bool.false_or, Bool.or_true, Bool.or_false, Bool.true_and, Bool.and_true, Bool.false_and, Bool.and_false, true_and, and_true, or_false, false_or, true_or, or_true, false_and, and_false, Bool.true_eq_false, Bool.false_eq_true] at *) <;> omega)
                             omega
      subst hc0
      refine .inl ⟨by unfold InR; rw [IntKind.wrap_i64]; omega, ?_⟩
      ((conv => whnf); repeat (refine And.intro rfl ?_; (conv => whnf)))
      exact ⟨r + 1, by omega, by dsimp only; omega, le_envH ⟨rfl, rfl, rfl, rfl, rfl, rfl, trivial⟩ (by congr 3; rw [hnew]; exact rbl_congr fun i hi => by simp)⟩
  · have hr2 : r = 2 := by have : ¬ r < 2 := by ((try simp only [bne_iff_ne, ne_eq, bne_eq_false_iff_eq, beq_iff_eq, beq_eq_false_iff_ne, decide_eq_true_eq, decide_eq_false_iff_not, List.length_map, Bool.not_eq_true, Bool.not_eq_false, Bool.and_eq_true, Bool.or_eq_true, Bool.and_eq_false_iff, Bool.or_eq_false_iff, Bool.not_eq_true', Bool.not_eq_false', Bool.not_true, Bool.not_false, Bool.not_eq_eq_eq_not, not_true_eq_false, not_false_eq_true, reduceCtorEq, Bool.true_or, Bool.false_or, Bool.or_true, Bool.or_false, Bool.true_and, Bool.and_true, Bool.false_and, Bool.and_false, true_and, and_true, or_false, false_or, true_or, or_true, false_and, and_false, Bool.true_eq_false, Bool.false_eq_true] at *) <;> omega)
                           omega
    subst hr2
    refine .own _ _ _ _ _ _ _ _ rfl ?_
    rw [rbl_all, rbl_congr fun i hi => olds_two hn (by omega)]
    exact deepLL_refl _
end Go.Proofs.Ytkkfiadefekbbaa
