/-
  What a pattern means: the program, over deep values. No statement is proved here.
-/
import Derived.Test.YtgohkomfkfilnaaDm0
import Derived.Test.YtgohkomfkfilnaaLa
import Derived.Test.YtgohkomfkfilnaaPt
import Derived.Test.YtgohkomfkfilnaaDl
import Derived.Test.YtgohkomfkfilnaaFn
namespace Go.Proofs.Ytgohkomfkfilnaa
open Go.RowKit
set_option linter.unusedSimpArgs false
set_option linter.unusedVariables false
/-! ### Plain -/
/-- Where a letter of a word has an atom. -/
def hasP (s l : List Int) (a : Int) (i : Nat) : Bool := bitB (atW s l i) a
theorem prd_has (s l : List Int) (a : Int) : Prd s.length l.length (hasP s l a) := fun i hi => by
  unfold hasP atW
  rw [if_neg (by omega), if_neg (by omega), show i + l.length - s.length = (i - s.length) + l.length by omega, Nat.add_mod_right]
def spTo (scope : Int) (Q R : Nat → Bool) (E : Nat) : Nat → List (Nat × Nat)
  | 0 => []
  | k + 1 => if Q k = true ∧ R k = false ∧ (fst R E (k + 1) < E ∨ scope = 5) then spTo scope Q R E k ++ [(k, fst R E (k + 1))] else spTo scope Q R E k
def spansL (scope : Int) (Q R : Nat → Bool) (E n : Nat) : List (Nat × Nat) :=
  if scope = 1 then [(0, E)] else if scope = 2 then (if fst R E 0 = E then [] else [(0, fst R E 0)]) else if scope = 3 then (if fst Q E 0 < E then [(fst Q E 0, E)] else []) else spTo scope Q R E n
theorem spTo_len (scope : Int) (Q R : Nat → Bool) (E : Nat) : ∀ k, (spTo scope Q R E k).length ≤ k
  | 0 => Nat.le_refl _
  | k + 1 => by
    have := spTo_len scope Q R E k
    simp only [spTo]
    split <;> simp <;> omega
theorem spTo_in {scope : Int} {Q R : Nat → Bool} {E : Nat} : ∀ {k : Nat}, k ≤ E → ∀ o ∈ spTo scope Q R E k, o.1 ≤ o.2 ∧ o.2 ≤ E ∧ o.1 < k
  | 0, _, o, h => by simp [spTo] at h
  | k + 1, hk, o, h => by
    simp only [spTo] at h
    split at h
    · rcases List.mem_append.1 h with h | h
      · have := spTo_in (by omega) o h; exact ⟨this.1, this.2.1, by omega⟩
      · rw [List.mem_singleton] at h
        subst h
        have := fst_spec (p := R) (e := E) (i := k + 1) hk
        exact ⟨by show k ≤ _; omega, this.2.1, by show k < k + 1; omega⟩
    · have := spTo_in (by omega) o h; exact ⟨this.1, this.2.1, by omega⟩
theorem spans_in {scope : Int} {Q R : Nat → Bool} {E n : Nat} (hn : n ≤ E) : ∀ o ∈ spansL scope Q R E n, o.1 ≤ o.2 ∧ o.2 ≤ E := by
  intro o h
  have hR := fst_spec (p := R) (e := E) (i := 0) (by omega)
  have hQ := fst_spec (p := Q) (e := E) (i := 0) (by omega)
  unfold spansL at h
  split at h
  · rw [List.mem_singleton] at h; subst h; exact ⟨Nat.zero_le _, Nat.le_refl _⟩
  split at h
  · split at h
    · simp at h
    · rw [List.mem_singleton] at h; subst h; exact ⟨Nat.zero_le _, hR.2.1⟩
  split at h
  · split at h
    · rw [List.mem_singleton] at h; subst h; exact ⟨hQ.2.1, Nat.le_refl _⟩
    · simp at h
  have := spTo_in hn o h
  exact ⟨this.1, this.2.1⟩
def srw (l : List (Nat × Nat)) : List (List D) := l.map fun o => [.sc (.int .i64 o.1), .sc (.int .i64 o.2)]
@[simp] theorem srw_len (l : List (Nat × Nat)) : (srw l).length = l.length := by simp [srw]
theorem pure_srw (l : List (Nat × Nat)) : PureLL (srw l) := pureLL_map _ (fun l => by simp [PureL, Pure]) l
@[simp] theorem underLL_srw {m : Nat} (l : List (Nat × Nat)) : UnderLL m (srw l) ↔ True := ⟨fun _ => trivial, fun _ => underLL_pure _ (pure_srw l)⟩
theorem srw_at {l : List (Nat × Nat)} {z k : Nat} (hz : z = k) (h : k < l.length) : (srw l)[z]? = some [.sc (.int .i64 (l.getD k (0, 0)).1), .sc (.int .i64 (l.getD k (0, 0)).2)] := by
  subst hz
  rw [List.getD_eq_getElem?_getD, List.getElem?_eq_getElem h]
  simp [srw, h]
theorem srw_snoc {l : List (Nat × Nat)} {c : Nat} {a b : Nat} (h : c = l.length) : List.drop 0 (List.take c (srw l)) ++ [[D.sc (.int .i64 a), D.sc (.int .i64 b)]] = srw (l ++ [(a, b)]) := by
  rw [drop_take_all (by simp [h])]
  simp [srw]
def dspn (l : List (Nat × Nat)) : D := .lst 2 (srw l)
theorem pure_dspn (l : List (Nat × Nat)) : Pure (dspn l) := by simp only [dspn, Pure]; exact pure_srw l
/-! ### The program's look at a word -/
theorem pure_dlet' (l : List Int) : Pure (dlet l) := by simp only [dlet, Pure]; exact pureLL_map _ (fun l => by simp [PureL, Pure]) l
@[simp] theorem under_dlet' {m : Nat} (l : List Int) : Under m (dlet l) ↔ True := ⟨fun _ => trivial, fun _ => under_pure _ (pure_dlet' l)⟩
def lcells (x : Pat) (s l : List Int) (E : Nat) : List D := [.sc (.int .i64 x.kind), .sc (.int .i64 x.scope), .sc (.int .i64 x.p), .sc (.int .i64 x.s), .sc (.int .i64 x.q), .sc (.int .i64 x.r), .sc (.int .i64 x.count), dlet s, dlet l, .sc (.int .i64 E)]
theorem pure_lcells (x : Pat) (s l : List Int) (E : Nat) : PureL (lcells x s l E) := by
  have h1 : Pure (dlet s) := by simp only [dlet, Pure]; exact pureLL_map _ (fun l => by simp [PureL, Pure]) s
  have h2 : Pure (dlet l) := by simp only [dlet, Pure]; exact pureLL_map _ (fun l => by simp [PureL, Pure]) l
  simp [lcells, PureL, Pure, h1, h2]
/-- A right pattern and a right word. -/
structure PW (x : Pat) (s l : List Int) : Prop where
  pat : patChk x = 0
  word : wchk s l = 0
  ls : Lett s
  ll : Lett l
theorem PW.nums {x : Pat} {s l : List Int} (h : PW x s l) : (1 ≤ x.kind ∧ x.kind ≤ 6) ∧ (1 ≤ x.scope ∧ x.scope ≤ 5) ∧ (0 ≤ x.p ∧ x.p ≤ 63) ∧ (0 ≤ x.s ∧ x.s ≤ 63) ∧ (0 ≤ x.q ∧ x.q ≤ 63) ∧ (0 ≤ x.r ∧ x.r ≤ 63) ∧ 0 ≤ x.count ∧ x.count ≤ 3 := by
  have := h.pat
  unfold patChk at this
  split at this
  · cases this
  · omega
theorem PW.lens {x : Pat} {s l : List Int} (h : PW x s l) : s.length + l.length ≤ 60 ∧ 1 ≤ l.length := (wchk_zero s l).1 h.word
def c87 : PC := .seq (.ops [⟨(some 6), .move (.const (.bool false)), none, 0⟩] false) (.seq (.ops [⟨(some 10), .move (.tmp 0), none, 0⟩,
    ⟨(some 11), .nilchk (.tmp 10), none, 0⟩,
    ⟨(some 12), .faddr 7 (.tmp 11), none, 0⟩,
    ⟨(some 13), .loadA 2 (.tmp 12), none, 0⟩,
    ⟨(some 14), .move (.tmp 1), none, 0⟩,
    ⟨(some 15), .call 89 [(.tmp 13), (.tmp 14)], none, 0⟩,
    ⟨(some 9), .move (.tmp 15), none, 0⟩,
    ⟨(some 16), .ext 0 (.tmp 9), none, 0⟩,
    ⟨(some 17), .ext 1 (.tmp 9), none, 0⟩,
    ⟨(some 7), .move (.tmp 16), none, 0⟩,
    ⟨(some 8), .move (.tmp 17), none, 0⟩] false) (.seq (.ops [⟨(some 18), .move (.tmp 7), none, 0⟩,
    ⟨(some 19), .move (.tmp 2), none, 0⟩,
    ⟨(some 20), .bin .shr (.tmp 18) (.tmp 19), none, 0⟩,
    ⟨(some 21), .bin .and (.tmp 20) (.const (.int .u64 1)), none, 0⟩,
    ⟨(some 22), .bin .eql (.tmp 21) (.const (.int .u64 1)), none, 0⟩,
    ⟨(some 6), .move (.tmp 22), none, 0⟩] false) (.ret)))
set_option maxRecDepth 100000 in
theorem c87_ok : FunOK Try.prog 87 23 [.tmp 6] c87 := ⟨⟨Try.f87, Try.func87, rfl, by kernel_rfl, rfl, by kernel_rfl⟩⟩
theorem dw_has (x : Pat) (s l : List Int) (E : Nat) (h : PW x s l) (i : Nat) (hi : i ≤ 100000) (a : Int) (ha : 0 ≤ a) : PCall Try.prog 87 [.ipt (lcells x s l E), .sc (.int .i64 i), .sc (.int .i64 a)] (.sc (.bool (hasP s l a i))) := by
  have hAt := las_AtK s l h.word i (by omega)
  have hb := lett_at h.ls h.ll i
  refine pcall_intro c87_ok (by simp) (by simp [PureL, Pure, pure_lcells]) ?_ (by simp [Pure])
  unfold lcells
  unfold hasP
  generalize atW s l i = v at *
  (apply rd_sound; focus (repeat' constructor))
  ((conv=>whnf);repeat(refine And.intro rfl ?_;(conv=>whnf)))
  (refine .inl ⟨_, hAt, ?_⟩; ((conv=>whnf);repeat(refine And.intro rfl ?_;(conv=>whnf))))
  refine ⟨ha, ?_⟩
  ((conv=>whnf);repeat(refine And.intro rfl ?_;(conv=>whnf)))
  refine deep_eq ?_
  have hr := fdiv_range hb.1 hb.2 (min a.toNat 64)
  have := and_one hr.1 hr.2
  show D.sc (.bool (bitsV .and .u64 (v.fdiv (2 ^ min a.toNat 64)) 1 == 1)) = .sc (.bool (bitB v a))
  rw [this]
  rfl
def c86_1 : PC := .seq (.seq (.ops [⟨(some 7), .move (.tmp 1), none, 0⟩,
    ⟨(some 8), .move (.tmp 0), none, 0⟩,
    ⟨(some 9), .nilchk (.tmp 8), none, 0⟩,
    ⟨(some 10), .faddr 9 (.tmp 9), none, 0⟩,
    ⟨(some 11), .load1 (.tmp 10), none, 0⟩,
    ⟨(some 12), .bin .lss (.tmp 7) (.tmp 11), none, 0⟩,
    ⟨(some 13), .move (.tmp 12), none, 0⟩,
    ⟨(some 14), .move (.tmp 0), (some (13, true)), 0⟩,
    ⟨(some 15), .move (.tmp 1), (some (13, true)), 0⟩,
    ⟨(some 16), .move (.tmp 2), (some (13, true)), 0⟩,
    ⟨(some 17), .call 87 [(.tmp 14), (.tmp 15), (.tmp 16)], (some (13, true)), 0⟩,
    ⟨(some 18), .un .not (.tmp 17), (some (13, true)), 0⟩,
    ⟨(some 19), .pick (.tmp 13) (.tmp 18) (.const (.bool false)), none, 0⟩] false) (.cond (.tmp 19) (.skip) (.exit 0))) (.block 1 (.ops [⟨(some 20), .move (.tmp 1), none, 0⟩,
    ⟨(some 21), .bin .add (.tmp 20) (.const (.int .i64 1)), none, 0⟩,
    ⟨(some 1), .move (.tmp 21), none, 0⟩] false))
def c86 : PC := .seq (.ops [⟨(some 6), .move (.const (.int .i64 0)), none, 0⟩] false) (.seq (.block 0 (.loop c86_1)) (.seq (.ops [⟨(some 22), .move (.tmp 1), none, 0⟩,
    ⟨(some 6), .move (.tmp 22), none, 0⟩] false) (.ret)))
set_option maxRecDepth 100000 in
theorem c86_ok : FunOK Try.prog 86 23 [.tmp 6] c86 := ⟨⟨Try.f86, Try.func86, rfl, by kernel_rfl, rfl, by kernel_rfl⟩⟩
theorem dw_first (x : Pat) (s l : List Int) (E : Nat) (hE : E ≤ 100000) (h : PW x s l) (i : Nat) (hi : i ≤ E) (a : Int) (ha : 0 ≤ a) : PCall Try.prog 86 [.ipt (lcells x s l E), .sc (.int .i64 i), .sc (.int .i64 a)] (.sc (.int .i64 (fst (hasP s l a) E i))) := by
  have hH := fun j (hj : j ≤ 100000) => dw_has x s l E h j hj a ha
  refine pcall_intro c86_ok (by simp) (by simp [PureL, Pure, pure_lcells]) ?_ (by simp [Pure])
  have fin : ∀ {H : List AObj} {k : Nat}, i ≤ k → k ≤ E → (∀ j, i ≤ j → j < k → hasP s l a j = false) → (k < E → hasP s l a k = true) → Deep H (.sc (.int .i64 k)) (.sc (.int .i64 (fst (hasP s l a) E i))) := fun h1 h2 h3 h4 => by rw [fst_eq h1 h2 h3 h4]; exact .refl _
  unfold lcells at *
  (apply rd_sound; focus (repeat' constructor))
  ((conv=>whnf);repeat(refine And.intro rfl ?_;(conv=>whnf)))
  refine pwp_for [0, 2] (fun k : Nat => [(1, .sc (.int .i64 k))]) (fun _ => []) (fun k => i ≤ k ∧ k ≤ E ∧ ∀ j, i ≤ j → j < k → hasP s l a j = false) (fun k => E - k) i ?_
  ((conv=>whnf);repeat(refine And.intro rfl ?_;(conv=>whnf)))
  refine ⟨⟨by omega, by omega, fun j h1 h2 => by omega⟩, by (repeat' (first | exact trivial | refine And.intro rfl ?_)), rfl, ?_⟩
  rintro k ⟨h1, h2, h3⟩
  ((conv=>whnf);repeat(refine And.intro rfl ?_;(conv=>whnf)))
  (apply rd_sound; focus (repeat' constructor))
  ((conv=>whnf);repeat(refine And.intro rfl ?_;(conv=>whnf)))
  (refine ifK_split (fun q1 => ?_) (fun q1 => ?_) <;> (rw [q1]; ((conv=>whnf);repeat(refine And.intro rfl ?_;(conv=>whnf)))))
  · have q1 : k < E := by ((try simp only [oo, reduceCtorEq] at *) <;> omega)
    (refine .inl ⟨_, (hH k (by omega)), ?_⟩; ((conv=>whnf);repeat(refine And.intro rfl ?_;(conv=>whnf))))
    cases q2 : hasP s l a k
    · ((conv=>whnf);repeat(refine And.intro rfl ?_;(conv=>whnf)))
      (refine .inl ⟨by (unfold InR; rw [IntKind.wrap_i64]; omega), ?_⟩; ((conv=>whnf);repeat(refine And.intro rfl ?_;(conv=>whnf))))
      refine ⟨k + 1, ⟨by omega, by omega, fun j g1 g2 => ?_⟩, by dsimp only; omega, leB_envH (by (repeat' (first | exact trivial | refine And.intro rfl ?_))) rfl⟩
      by_cases e : j = k
      · subst e; exact q2
      · exact h3 j g1 (by omega)
    · ((conv=>whnf);repeat(refine And.intro rfl ?_;(conv=>whnf)))
      exact fin h1 h2 h3 fun _ => q2
  · have q1 : ¬ k < E := by ((try simp only [oo, reduceCtorEq] at *) <;> omega)
    exact fin h1 h2 h3 fun q => absurd q q1
def c52_1 : PC := .seq (.ops [⟨(some 77), .bin .lss (.tmp 76) (.tmp 75), none, 0⟩] false) (.seq (.cond (.tmp 77) (.skip) (.exit 1)) (.seq (.block 2 (.seq (.ops [⟨(some 78), .move (.tmp 76), none, 0⟩,
    ⟨(some 7), .move (.tmp 78), none, 0⟩] false) (.seq (.ops [⟨(some 79), .move (.tmp 0), none, 0⟩,
    ⟨(some 80), .move (.tmp 7), none, 0⟩,
    ⟨(some 81), .move (.tmp 0), none, 0⟩,
    ⟨(some 82), .nilchk (.tmp 81), none, 0⟩,
    ⟨(some 83), .faddr 0 (.tmp 82), none, 0⟩,
    ⟨(some 84), .faddr 4 (.tmp 83), none, 0⟩,
    ⟨(some 85), .load1 (.tmp 84), none, 0⟩,
    ⟨(some 86), .call 87 [(.tmp 79), (.tmp 80), (.tmp 85)], none, 0⟩,
    ⟨(some 87), .move (.tmp 86), none, 0⟩,
    ⟨(some 88), .move (.tmp 0), (some (87, true)), 0⟩,
    ⟨(some 89), .move (.tmp 7), (some (87, true)), 0⟩,
    ⟨(some 90), .move (.tmp 0), (some (87, true)), 0⟩,
    ⟨(some 91), .nilchk (.tmp 90), (some (87, true)), 0⟩,
    ⟨(some 92), .faddr 0 (.tmp 91), (some (87, true)), 0⟩,
    ⟨(some 93), .faddr 5 (.tmp 92), (some (87, true)), 0⟩,
    ⟨(some 94), .load1 (.tmp 93), (some (87, true)), 0⟩,
    ⟨(some 95), .call 87 [(.tmp 88), (.tmp 89), (.tmp 94)], (some (87, true)), 0⟩,
    ⟨(some 96), .un .not (.tmp 95), (some (87, true)), 0⟩,
    ⟨(some 97), .pick (.tmp 87) (.tmp 96) (.const (.bool false)), none, 0⟩] false) (.cond (.tmp 97) (.seq (.ops [⟨(some 98), .move (.tmp 0), none, 0⟩,
    ⟨(some 99), .move (.tmp 7), none, 0⟩,
    ⟨(some 100), .bin .add (.tmp 99) (.const (.int .i64 1)), none, 0⟩,
    ⟨(some 101), .move (.tmp 0), none, 0⟩,
    ⟨(some 102), .nilchk (.tmp 101), none, 0⟩,
    ⟨(some 103), .faddr 0 (.tmp 102), none, 0⟩,
    ⟨(some 104), .faddr 5 (.tmp 103), none, 0⟩,
    ⟨(some 105), .load1 (.tmp 104), none, 0⟩,
    ⟨(some 106), .call 86 [(.tmp 98), (.tmp 100), (.tmp 105)], none, 0⟩,
    ⟨(some 8), .move (.tmp 106), none, 0⟩] false) (.seq (.ops [⟨(some 107), .move (.tmp 8), none, 0⟩,
    ⟨(some 108), .move (.tmp 0), none, 0⟩,
    ⟨(some 109), .nilchk (.tmp 108), none, 0⟩,
    ⟨(some 110), .faddr 9 (.tmp 109), none, 0⟩,
    ⟨(some 111), .load1 (.tmp 110), none, 0⟩,
    ⟨(some 112), .bin .lss (.tmp 107) (.tmp 111), none, 0⟩,
    ⟨(some 113), .move (.tmp 112), none, 0⟩,
    ⟨(some 114), .move (.tmp 0), (some (113, false)), 0⟩,
    ⟨(some 115), .nilchk (.tmp 114), (some (113, false)), 0⟩,
    ⟨(some 116), .faddr 0 (.tmp 115), (some (113, false)), 0⟩,
    ⟨(some 117), .faddr 1 (.tmp 116), (some (113, false)), 0⟩,
    ⟨(some 118), .load1 (.tmp 117), (some (113, false)), 0⟩,
    ⟨(some 119), .bin .eql (.tmp 118) (.const (.int .i64 5)), (some (113, false)), 0⟩,
    ⟨(some 120), .pick (.tmp 113) (.const (.bool true)) (.tmp 119), none, 0⟩] false) (.cond (.tmp 120) (.ops [⟨(some 121), .move (.tmp 6), none, 0⟩,
    ⟨(some 122), .move (.tmp 7), none, 0⟩,
    ⟨(some 123), .move (.tmp 8), none, 0⟩,
    ⟨(some 124), .build [(.int .i64 0), (.int .i64 0)] [(0, 1, (.tmp 122)), (1, 1, (.tmp 123))], none, 0⟩,
    ⟨(some 125), .bslice 2 1 [(.tmp 124)], none, 0⟩,
    ⟨(some 126), .append 2 16 (.tmp 121) (.tmp 125), none, 0⟩,
    ⟨(some 6), .move (.tmp 126), none, 0⟩] false) (.skip)))) (.skip))))) (.ops [⟨(some 127), .bin .add (.tmp 76) (.const (.int .i64 1)), none, 0⟩,
    ⟨(some 76), .move (.tmp 127), none, 0⟩] false)))
def c52 : PC := .seq (.ops [⟨(some 2), .move (.const (.slice none 0 0)), none, 0⟩] false) (.seq (.ops [⟨(some 9), .move (.tmp 0), none, 0⟩,
    ⟨(some 10), .nilchk (.tmp 9), none, 1⟩,
    ⟨(some 11), .faddr 7 (.tmp 10), none, 3⟩,
    ⟨(some 12), .faddr 0 (.tmp 11), none, 7⟩,
    ⟨(some 13), .load1 (.tmp 12), none, 15⟩,
    ⟨(some 14), .len (.tmp 13), none, 31⟩,
    ⟨(some 15), .move (.tmp 0), none, 0⟩,
    ⟨(some 16), .nilchk (.tmp 15), none, 64⟩,
    ⟨(some 17), .faddr 7 (.tmp 16), none, 192⟩,
    ⟨(some 18), .faddr 1 (.tmp 17), none, 448⟩,
    ⟨(some 19), .load1 (.tmp 18), none, 960⟩,
    ⟨(some 20), .len (.tmp 19), none, 1984⟩,
    ⟨(some 21), .bin .add (.tmp 14) (.tmp 20), none, 4095⟩,
    ⟨(some 3), .move (.tmp 21), none, 8191⟩] true) (.seq (.ops [⟨(some 22), .move (.tmp 0), none, 0⟩,
    ⟨(some 23), .move (.tmp 0), none, 0⟩,
    ⟨(some 24), .nilchk (.tmp 23), none, 0⟩,
    ⟨(some 25), .faddr 0 (.tmp 24), none, 0⟩,
    ⟨(some 26), .faddr 5 (.tmp 25), none, 0⟩,
    ⟨(some 27), .load1 (.tmp 26), none, 0⟩,
    ⟨(some 28), .call 86 [(.tmp 22), (.const (.int .i64 0)), (.tmp 27)], none, 0⟩,
    ⟨(some 4), .move (.tmp 28), none, 0⟩] false) (.seq (.seq (.ops [⟨(some 29), .move (.tmp 0), none, 0⟩,
    ⟨(some 30), .nilchk (.tmp 29), none, 0⟩,
    ⟨(some 31), .faddr 0 (.tmp 30), none, 0⟩,
    ⟨(some 32), .faddr 1 (.tmp 31), none, 0⟩,
    ⟨(some 33), .load1 (.tmp 32), none, 0⟩] false) (.block 0 (.seq (.ops [⟨(some 35), .bin .eql (.tmp 33) (.const (.int .i64 1)), none, 0⟩,
    ⟨(some 34), .move (.tmp 35), none, 0⟩] false) (.cond (.tmp 34) (.seq (.ops [⟨(some 36), .move (.tmp 0), none, 0⟩,
    ⟨(some 37), .nilchk (.tmp 36), none, 0⟩,
    ⟨(some 38), .faddr 9 (.tmp 37), none, 0⟩,
    ⟨(some 39), .load1 (.tmp 38), none, 0⟩,
    ⟨(some 40), .build [(.int .i64 0), (.int .i64 0)] [(0, 1, (.const (.int .i64 0))), (1, 1, (.tmp 39))], none, 0⟩,
    ⟨(some 41), .bslice 2 1 [(.tmp 40)], none, 0⟩,
    ⟨(some 2), .move (.tmp 41), none, 0⟩] false) (.ret)) (.seq (.ops [⟨(some 43), .bin .eql (.tmp 33) (.const (.int .i64 2)), none, 0⟩,
    ⟨(some 42), .move (.tmp 43), none, 0⟩] false) (.cond (.tmp 42) (.seq (.seq (.ops [⟨(some 44), .move (.tmp 4), none, 0⟩,
    ⟨(some 45), .move (.tmp 0), none, 0⟩,
    ⟨(some 46), .nilchk (.tmp 45), none, 0⟩,
    ⟨(some 47), .faddr 9 (.tmp 46), none, 0⟩,
    ⟨(some 48), .load1 (.tmp 47), none, 0⟩,
    ⟨(some 49), .bin .eql (.tmp 44) (.tmp 48), none, 0⟩] false) (.cond (.tmp 49) (.seq (.ops [⟨(some 2), .move (.const (.slice none 0 0)), none, 0⟩] false) (.ret)) (.skip))) (.seq (.ops [⟨(some 50), .move (.tmp 4), none, 0⟩,
    ⟨(some 51), .build [(.int .i64 0), (.int .i64 0)] [(0, 1, (.const (.int .i64 0))), (1, 1, (.tmp 50))], none, 0⟩,
    ⟨(some 52), .bslice 2 1 [(.tmp 51)], none, 0⟩,
    ⟨(some 2), .move (.tmp 52), none, 0⟩] false) (.ret))) (.seq (.ops [⟨(some 54), .bin .eql (.tmp 33) (.const (.int .i64 3)), none, 0⟩,
    ⟨(some 53), .move (.tmp 54), none, 0⟩] false) (.cond (.tmp 53) (.seq (.seq (.ops [⟨(some 55), .move (.tmp 0), none, 0⟩,
    ⟨(some 56), .move (.tmp 0), none, 0⟩,
    ⟨(some 57), .nilchk (.tmp 56), none, 0⟩,
    ⟨(some 58), .faddr 0 (.tmp 57), none, 0⟩,
    ⟨(some 59), .faddr 4 (.tmp 58), none, 0⟩,
    ⟨(some 60), .load1 (.tmp 59), none, 0⟩,
    ⟨(some 61), .call 86 [(.tmp 55), (.const (.int .i64 0)), (.tmp 60)], none, 0⟩,
    ⟨(some 5), .move (.tmp 61), none, 0⟩] false) (.seq (.ops [⟨(some 62), .move (.tmp 5), none, 0⟩,
    ⟨(some 63), .move (.tmp 0), none, 0⟩,
    ⟨(some 64), .nilchk (.tmp 63), none, 0⟩,
    ⟨(some 65), .faddr 9 (.tmp 64), none, 0⟩,
    ⟨(some 66), .load1 (.tmp 65), none, 0⟩,
    ⟨(some 67), .bin .lss (.tmp 62) (.tmp 66), none, 0⟩] false) (.cond (.tmp 67) (.seq (.ops [⟨(some 68), .move (.tmp 5), none, 0⟩,
    ⟨(some 69), .move (.tmp 0), none, 0⟩,
    ⟨(some 70), .nilchk (.tmp 69), none, 0⟩,
    ⟨(some 71), .faddr 9 (.tmp 70), none, 0⟩,
    ⟨(some 72), .load1 (.tmp 71), none, 0⟩,
    ⟨(some 73), .build [(.int .i64 0), (.int .i64 0)] [(0, 1, (.tmp 68)), (1, 1, (.tmp 72))], none, 0⟩,
    ⟨(some 74), .bslice 2 1 [(.tmp 73)], none, 0⟩,
    ⟨(some 2), .move (.tmp 74), none, 0⟩] false) (.ret)) (.skip)))) (.seq (.ops [⟨(some 2), .move (.const (.slice none 0 0)), none, 0⟩] false) (.ret))) (.skip))))))))) (.seq (.ops [⟨(some 6), .move (.const (.slice none 0 0)), none, 0⟩] false) (.seq (.seq (.ops [⟨(some 75), .move (.tmp 3), none, 0⟩,
    ⟨(some 76), .move (.const (.int .i64 0)), none, 0⟩] false) (.block 1 (.loop c52_1))) (.seq (.ops [⟨(some 128), .move (.tmp 6), none, 0⟩,
    ⟨(some 2), .move (.tmp 128), none, 0⟩] false) (.ret)))))))
set_option maxRecDepth 100000 in
theorem c52_ok : FunOK Try.prog 52 129 [.tmp 2] c52 := ⟨⟨Try.f52, Try.func52, rfl, by kernel_rfl, rfl, by kernel_rfl⟩⟩
set_option maxRecDepth 100000 in
theorem dw_spans (x : Pat) (s l : List Int) (E : Nat) (hE : E ≤ 100000) (h : PW x s l) (hn : s.length + l.length ≤ E) : PCall Try.prog 52 [.ipt (lcells x s l E)] (dspn (spansL x.scope (hasP s l x.q) (hasP s l x.r) E (s.length + l.length))) := by
  have hH := fun j (hj : j ≤ 100000) a ha => dw_has x s l E h j hj a ha
  have hF := fun i (hi : i ≤ E) a ha => dw_first x s l E hE h i hi a ha
  obtain ⟨⟨k1, k2⟩, ⟨k3, k4⟩, ⟨k5, k6⟩, ⟨k7, k8⟩, ⟨k9, k10⟩, ⟨k11, k12⟩, k13, k14⟩ := h.nums
  have hlen := h.lens
  refine pcall_intro c52_ok (by simp) (by simp [PureL, Pure, pure_lcells]) ?_ (pure_dspn _)
  have hF0 := fun a ha => hF 0 (by omega) a ha
  unfold lcells at *
  unfold spansL
  (apply rd_sound; focus (repeat' constructor))
  ((conv=>whnf);repeat(refine And.intro rfl ?_;(conv=>whnf)))
  rw [List.length_map, List.length_map]
  (refine .inl ⟨by (unfold InR; rw [IntKind.wrap_i64]; omega), ?_⟩; ((conv=>whnf);repeat(refine And.intro rfl ?_;(conv=>whnf))))
  (refine .inl ⟨_, (hF0 x.r k11), ?_⟩; ((conv=>whnf);repeat(refine And.intro rfl ?_;(conv=>whnf))))
  (refine ifK_split (fun q1 => ?_) (fun q1 => ?_) <;> (rw [q1]; ((conv=>whnf);repeat(refine And.intro rfl ?_;(conv=>whnf)))))
  · have q1 : x.scope = 1 := by ((try simp only [oo, reduceCtorEq] at *) <;> omega)
    rw [if_pos q1]
    exact .own _ _ _ _ _ _ _ _ rfl (deepLL_refl _)
  have q1 : ¬ x.scope = 1 := by ((try simp only [oo, reduceCtorEq] at *) <;> omega)
  rw [if_neg q1]
  (refine ifK_split (fun q2 => ?_) (fun q2 => ?_) <;> (rw [q2]; ((conv=>whnf);repeat(refine And.intro rfl ?_;(conv=>whnf)))))
  · have q2 : x.scope = 2 := by ((try simp only [oo, reduceCtorEq] at *) <;> omega)
    rw [if_pos q2]
    (refine ifK_split (fun q3 => ?_) (fun q3 => ?_) <;> (rw [q3]; ((conv=>whnf);repeat(refine And.intro rfl ?_;(conv=>whnf)))))
    · have q3 : fst (hasP s l x.r) E 0 = E := by ((try simp only [oo, reduceCtorEq] at *) <;> omega)
      rw [if_pos q3]
      exact .none _
    · have q3 : ¬ fst (hasP s l x.r) E 0 = E := by ((try simp only [oo, reduceCtorEq] at *) <;> omega)
      rw [if_neg q3]
      exact .own _ _ _ _ _ _ _ _ rfl (deepLL_refl _)
  have q2 : ¬ x.scope = 2 := by ((try simp only [oo, reduceCtorEq] at *) <;> omega)
  rw [if_neg q2]
  (refine ifK_split (fun q3 => ?_) (fun q3 => ?_) <;> (rw [q3]; ((conv=>whnf);repeat(refine And.intro rfl ?_;(conv=>whnf)))))
  · have q3 : x.scope = 3 := by ((try simp only [oo, reduceCtorEq] at *) <;> omega)
    rw [if_pos q3]
    (refine .inl ⟨_, (hF0 x.q k9), ?_⟩; ((conv=>whnf);repeat(refine And.intro rfl ?_;(conv=>whnf))))
    (refine ifK_split (fun q4 => ?_) (fun q4 => ?_) <;> (rw [q4]; ((conv=>whnf);repeat(refine And.intro rfl ?_;(conv=>whnf)))))
    · have q4 : fst (hasP s l x.q) E 0 < E := by ((try simp only [oo, reduceCtorEq] at *) <;> omega)
      rw [if_pos q4]
      exact .own _ _ _ _ _ _ _ _ rfl (deepLL_refl _)
    · have q4 : ¬ fst (hasP s l x.q) E 0 < E := by ((try simp only [oo, reduceCtorEq] at *) <;> omega)
      rw [if_neg q4]
      exact .none _
  have q3 : ¬ x.scope = 3 := by ((try simp only [oo, reduceCtorEq] at *) <;> omega)
  rw [if_neg q3]
  refine pwp_ghostB (leB_nil 6 2 (by simp) rfl) ?_
  refine pwp_for [0, 75] (fun ((k, c, L) : Nat × Nat × List (Nat × Nat)) => [(6, .own 0 c 0 c), (76, .sc (.int .i64 k))]) (fun (k, c, L) => [(0, .vec true c 2 (srw L))]) (fun (k, c, L) => k ≤ s.length + l.length ∧ c = L.length ∧ c ≤ k ∧ L = spTo x.scope (hasP s l x.q) (hasP s l x.r) E k) (fun (k, c, L) => s.length + l.length - k) (0, 0, []) ?_
  ((conv=>whnf);repeat(refine And.intro rfl ?_;(conv=>whnf)))
  refine ⟨⟨by omega, rfl, by omega, rfl⟩, by (repeat' (first | exact trivial | refine And.intro rfl ?_)), rfl, ?_⟩
  rintro ⟨k, c, L⟩ ⟨hk, hc, hck, hL⟩
  ((conv=>whnf);repeat(refine And.intro rfl ?_;(conv=>whnf)))
  (apply rd_sound; focus (repeat' constructor))
  ((conv=>whnf);repeat(refine And.intro rfl ?_;(conv=>whnf)))
  (refine ifK_split (fun h1 => ?_) (fun h1 => ?_) <;> (rw [h1]; ((conv=>whnf);repeat(refine And.intro rfl ?_;(conv=>whnf)))))
  · have h1 : k < s.length + l.length := by ((try simp only [oo, reduceCtorEq] at *) <;> omega)
    have eT : spTo x.scope (hasP s l x.q) (hasP s l x.r) E (k + 1) = if hasP s l x.q k = true ∧ hasP s l x.r k = false ∧ (fst (hasP s l x.r) E (k + 1) < E ∨ x.scope = 5) then spTo x.scope (hasP s l x.q) (hasP s l x.r) E k ++ [(k, fst (hasP s l x.r) E (k + 1))] else spTo x.scope (hasP s l x.q) (hasP s l x.r) E k := rfl
    rw [← hL] at eT
    have hFk := hF (k + 1) (by omega) x.r k11
    (refine .inl ⟨_, (hH k (by omega) x.q k9), ?_⟩; ((conv=>whnf);repeat(refine And.intro rfl ?_;(conv=>whnf))))
    cases c1 : hasP s l x.q k
    · rw [c1, if_neg (fun q => by cases q.1)] at eT
      ((conv=>whnf);repeat(refine And.intro rfl ?_;(conv=>whnf)))
      (refine .inl ⟨by (unfold InR; rw [IntKind.wrap_i64]; omega), ?_⟩; ((conv=>whnf);repeat(refine And.intro rfl ?_;(conv=>whnf))))
      exact ⟨(k + 1, c, L), ⟨by omega, hc, by omega, eT.symm⟩, by dsimp only; omega, leB_envH (by (repeat' (first | exact trivial | refine And.intro rfl ?_))) rfl⟩
    · ((conv=>whnf);repeat(refine And.intro rfl ?_;(conv=>whnf)))
      (refine .inl ⟨_, (hH k (by omega) x.r k11), ?_⟩; ((conv=>whnf);repeat(refine And.intro rfl ?_;(conv=>whnf))))
      cases c2 : hasP s l x.r k
      · ((conv=>whnf);repeat(refine And.intro rfl ?_;(conv=>whnf)))
        (refine .inl ⟨by (unfold InR; rw [IntKind.wrap_i64]; omega), ?_⟩; ((conv=>whnf);repeat(refine And.intro rfl ?_;(conv=>whnf))))
        (refine .inl ⟨_, hFk, ?_⟩; ((conv=>whnf);repeat(refine And.intro rfl ?_;(conv=>whnf))))
        (refine ifK_split (fun c3 => ?_) (fun c3 => ?_) <;> (rw [c3]; ((conv=>whnf);repeat(refine And.intro rfl ?_;(conv=>whnf)))))
        · have c3 : fst (hasP s l x.r) E (k + 1) < E := by ((try simp only [oo, reduceCtorEq] at *) <;> omega)
          rw [if_pos ⟨c1, c2, .inl c3⟩] at eT
          refine ⟨(by unfold sliceAppend; simp only [ll]; omega), ?_⟩
          ((conv=>whnf);repeat(refine And.intro rfl ?_;(conv=>whnf)))
          (refine .inl ⟨by (unfold InR; rw [IntKind.wrap_i64]; omega), ?_⟩; ((conv=>whnf);repeat(refine And.intro rfl ?_;(conv=>whnf))))
          refine ⟨(k + 1, c + 1, L ++ [(k, fst (hasP s l x.r) E (k + 1))]), ⟨by omega, by simp [hc], by omega, eT.symm⟩, by dsimp only; omega, ?_⟩
          (refine leB_close 1 (by simp) rfl ?_ ?_ <;> (repeat' (first | exact trivial | exact rfl | exact DeepM.refl _ | exact DeepML.refl _ | exact DeepMLL.refl _ | refine And.intro ?_ ?_ | (simp [Under, UnderL, UnderLL, -List.map_take, -List.map_drop]; done))))
          exact deepMLL_eq (srw_snoc hc)
        · have c3 : ¬ fst (hasP s l x.r) E (k + 1) < E := by ((try simp only [oo, reduceCtorEq] at *) <;> omega)
          (refine ifK_split (fun c4 => ?_) (fun c4 => ?_) <;> (rw [c4]; ((conv=>whnf);repeat(refine And.intro rfl ?_;(conv=>whnf)))))
          · have c4 : x.scope = 5 := by ((try simp only [oo, reduceCtorEq] at *) <;> omega)
            rw [if_pos ⟨c1, c2, .inr c4⟩] at eT
            refine ⟨(by unfold sliceAppend; simp only [ll]; omega), ?_⟩
            ((conv=>whnf);repeat(refine And.intro rfl ?_;(conv=>whnf)))
            (refine .inl ⟨by (unfold InR; rw [IntKind.wrap_i64]; omega), ?_⟩; ((conv=>whnf);repeat(refine And.intro rfl ?_;(conv=>whnf))))
            refine ⟨(k + 1, c + 1, L ++ [(k, fst (hasP s l x.r) E (k + 1))]), ⟨by omega, by simp [hc], by omega, eT.symm⟩, by dsimp only; omega, ?_⟩
            (refine leB_close 1 (by simp) rfl ?_ ?_ <;> (repeat' (first | exact trivial | exact rfl | exact DeepM.refl _ | exact DeepML.refl _ | exact DeepMLL.refl _ | refine And.intro ?_ ?_ | (simp [Under, UnderL, UnderLL, -List.map_take, -List.map_drop]; done))))
            exact deepMLL_eq (srw_snoc hc)
          · have c4 : ¬ x.scope = 5 := by ((try simp only [oo, reduceCtorEq] at *) <;> omega)
            rw [if_neg (fun q => q.2.2.elim c3 c4)] at eT
            (refine .inl ⟨by (unfold InR; rw [IntKind.wrap_i64]; omega), ?_⟩; ((conv=>whnf);repeat(refine And.intro rfl ?_;(conv=>whnf))))
            exact ⟨(k + 1, c, L), ⟨by omega, hc, by omega, eT.symm⟩, by dsimp only; omega, leB_envH (by (repeat' (first | exact trivial | refine And.intro rfl ?_))) rfl⟩
      · rw [c2, if_neg (fun q => by cases q.2.1)] at eT
        ((conv=>whnf);repeat(refine And.intro rfl ?_;(conv=>whnf)))
        (refine .inl ⟨by (unfold InR; rw [IntKind.wrap_i64]; omega), ?_⟩; ((conv=>whnf);repeat(refine And.intro rfl ?_;(conv=>whnf))))
        exact ⟨(k + 1, c, L), ⟨by omega, hc, by omega, eT.symm⟩, by dsimp only; omega, leB_envH (by (repeat' (first | exact trivial | refine And.intro rfl ?_))) rfl⟩
  · have h1 : k = s.length + l.length := by have : ¬ k < s.length + l.length := by ((try simp only [oo, reduceCtorEq] at *) <;> omega)
                                            omega
    subst h1
    rw [← hL]
    refine .own _ _ _ _ _ _ _ _ rfl ?_
    rw [drop_take_all (by simp; omega)]
    exact deepLL_refl _
end Go.Proofs.Ytgohkomfkfilnaa
