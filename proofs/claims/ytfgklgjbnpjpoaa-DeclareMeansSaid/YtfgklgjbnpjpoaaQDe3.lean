/-
  What a template means: the reference, over deep values; both say the same. No statement is proved here.
-/
import Derived.Test.YtfgklgjbnpjpoaaQDe2
namespace Go.Proofs.Ytfgklgjbnpjpoaa
open Go.RowKit
set_option linter.unusedSimpArgs false
set_option linter.unusedVariables false
def tcells (k a b c : Int) : List D := [.sc (.int .i64 k), .sc (.int .i64 a), .sc (.int .i64 b), .sc (.int .i64 c)]
def seenP (s l : List Int) (a : Int) (i : Nat) : Bool := snP s l i && bitP s l a i
theorem someB_true {far a k : Nat} {p : Nat → Bool} (h1 : a ≤ k) (h2 : k < far) (h3 : p k = true) : someB far a p = true := by
  unfold someB; rw [decide_eq_true_eq, fst_lt (by omega)]; exact ⟨k, h1, h2, h3⟩
theorem someB_false {far a : Nat} {p : Nat → Bool} (h : a ≤ far) (h3 : ∀ j, a ≤ j → j < far → p j = false) : someB far a p = false := by
  unfold someB; rw [decide_eq_false_iff_not, fst_lt h]
  rintro ⟨j, h1, h2, h4⟩
  rw [h3 j h1 h2] at h4; cases h4
def c77 : PC := .seq (.ops [⟨(some 3), .move (.const (.bool false)), none, 0⟩] false) (.seq (.ops [⟨(some 4), .loadA 2 (.tmp 1), none, 0⟩,
    ⟨(some 5), .move (.tmp 0), none, 0⟩,
    ⟨(some 6), .call 78 [(.tmp 4), (.tmp 5), (.const (.int .i64 63))], none, 0⟩,
    ⟨(some 7), .un .not (.tmp 6), none, 0⟩,
    ⟨(some 3), .move (.tmp 7), none, 0⟩] false) (.ret))
set_option maxRecDepth 100000 in
theorem c77_ok : FunOK Try.prog 77 8 [.tmp 3] c77 := ⟨⟨Try.f77, Try.func77, rfl, by kernel_rfl, rfl, by kernel_rfl⟩⟩
theorem fi_seen (s l : List Int) (hl : 1 ≤ l.length) (h1 : s.length + l.length ≤ 60) (i : Nat) (hi : i ≤ 1000) : PCall Try.prog 77 [.sc (.int .i64 i), .ipt (wcells s l)] (.sc (.bool (snP s l i))) := by
  have h := ref_Has s l hl h1 i hi 63 (by omega)
  refine pcall_intro c77_ok (by simp) (by simp [PureL, Pure, wcells, pure_dlet2]) ?_ (by simp [Pure])
  (apply rd_sound; focus (repeat' constructor))
  ((conv=>whnf);repeat(refine And.intro rfl ?_;(conv=>whnf)))
  (refine .inl ⟨_, h, ?_⟩; ((conv=>whnf);repeat(refine And.intro rfl ?_;(conv=>whnf))))
  exact .refl _
def seenF (s l : List Int) : D := .fn (.func 77) [] [.ipt (wcells s l)]
theorem pure_seenF (s l : List Int) : Pure (seenF s l) := by simp [seenF, Pure, PureL, wcells, pure_dlet2]
def c79 : PC := .seq (.ops [⟨(some 5), .move (.const (.bool false)), none, 0⟩] false) (.seq (.ops [⟨(some 6), .load1 (.tmp 1), none, 0⟩,
    ⟨(some 7), .move (.tmp 0), none, 0⟩,
    ⟨(some 8), .callv (.tmp 6) [(.tmp 7)], none, 0⟩,
    ⟨(some 9), .move (.tmp 8), none, 0⟩,
    ⟨(some 10), .loadA 2 (.tmp 2), (some (9, true)), 0⟩,
    ⟨(some 11), .move (.tmp 0), (some (9, true)), 0⟩,
    ⟨(some 12), .faddr 1 (.tmp 3), (some (9, true)), 0⟩,
    ⟨(some 13), .load1 (.tmp 12), (some (9, true)), 0⟩,
    ⟨(some 14), .call 78 [(.tmp 10), (.tmp 11), (.tmp 13)], (some (9, true)), 0⟩,
    ⟨(some 15), .pick (.tmp 9) (.tmp 14) (.const (.bool false)), none, 0⟩,
    ⟨(some 5), .move (.tmp 15), none, 0⟩] false) (.ret))
set_option maxRecDepth 100000 in
theorem c79_ok : FunOK Try.prog 79 16 [.tmp 5] c79 := ⟨⟨Try.f79, Try.func79, rfl, by kernel_rfl, rfl, by kernel_rfl⟩⟩
theorem fi_a (s l : List Int) (hl : 1 ≤ l.length) (h1 : s.length + l.length ≤ 60) (kd a b ct : Int) (h0 : 0 ≤ a) (i : Nat) (hi : i ≤ 1000) : PCall Try.prog 79 [.sc (.int .i64 i), .ipt [seenF s l], .ipt (wcells s l), .ipt (tcells kd a b ct)] (.sc (.bool (seenP s l a i))) := by
  have hs := fi_seen s l hl h1 i hi
  have h := ref_Has s l hl h1 i hi a h0
  refine pcall_intro c79_ok (by simp) (by simp [PureL, Pure, wcells, pure_dlet2, tcells, pure_seenF]) ?_ (by simp [Pure])
  unfold seenF tcells
  have e : seenP s l a i = (snP s l i && bitP s l a i) := rfl
  (apply rd_sound; focus (repeat' constructor))
  ((conv=>whnf);repeat(refine And.intro rfl ?_;(conv=>whnf)))
  (refine .inl ⟨_, hs, ?_⟩; ((conv=>whnf);repeat(refine And.intro rfl ?_;(conv=>whnf))))
  cases r : snP s l i
  · rw [r, Bool.false_and] at e
    ((conv=>whnf);repeat(refine And.intro rfl ?_;(conv=>whnf)))
    rw [e]
    exact .refl _
  · rw [r, Bool.true_and] at e
    ((conv=>whnf);repeat(refine And.intro rfl ?_;(conv=>whnf)))
    (refine .inl ⟨_, h, ?_⟩; ((conv=>whnf);repeat(refine And.intro rfl ?_;(conv=>whnf))))
    rw [e]
    exact .refl _
def aF (s l : List Int) (kd a b ct : Int) : D := .fn (.func 79) [] [.ipt [seenF s l], .ipt (wcells s l), .ipt (tcells kd a b ct)]
theorem pure_aF (s l : List Int) (kd a b ct : Int) : Pure (aF s l kd a b ct) := by simp [aF, Pure, PureL, wcells, pure_dlet2, pure_seenF, tcells]
def c80 : PC := .seq (.ops [⟨(some 5), .move (.const (.bool false)), none, 0⟩] false) (.seq (.ops [⟨(some 6), .load1 (.tmp 1), none, 0⟩,
    ⟨(some 7), .move (.tmp 0), none, 0⟩,
    ⟨(some 8), .callv (.tmp 6) [(.tmp 7)], none, 0⟩,
    ⟨(some 9), .move (.tmp 8), none, 0⟩,
    ⟨(some 10), .loadA 2 (.tmp 2), (some (9, true)), 0⟩,
    ⟨(some 11), .move (.tmp 0), (some (9, true)), 0⟩,
    ⟨(some 12), .faddr 2 (.tmp 3), (some (9, true)), 0⟩,
    ⟨(some 13), .load1 (.tmp 12), (some (9, true)), 0⟩,
    ⟨(some 14), .call 78 [(.tmp 10), (.tmp 11), (.tmp 13)], (some (9, true)), 0⟩,
    ⟨(some 15), .pick (.tmp 9) (.tmp 14) (.const (.bool false)), none, 0⟩,
    ⟨(some 5), .move (.tmp 15), none, 0⟩] false) (.ret))
set_option maxRecDepth 100000 in
theorem c80_ok : FunOK Try.prog 80 16 [.tmp 5] c80 := ⟨⟨Try.f80, Try.func80, rfl, by kernel_rfl, rfl, by kernel_rfl⟩⟩
theorem fi_b (s l : List Int) (hl : 1 ≤ l.length) (h1 : s.length + l.length ≤ 60) (kd a b ct : Int) (h0 : 0 ≤ b) (i : Nat) (hi : i ≤ 1000) : PCall Try.prog 80 [.sc (.int .i64 i), .ipt [seenF s l], .ipt (wcells s l), .ipt (tcells kd a b ct)] (.sc (.bool (seenP s l b i))) := by
  have hs := fi_seen s l hl h1 i hi
  have h := ref_Has s l hl h1 i hi b h0
  refine pcall_intro c80_ok (by simp) (by simp [PureL, Pure, wcells, pure_dlet2, tcells, pure_seenF]) ?_ (by simp [Pure])
  unfold seenF tcells
  have e : seenP s l b i = (snP s l i && bitP s l b i) := rfl
  (apply rd_sound; focus (repeat' constructor))
  ((conv=>whnf);repeat(refine And.intro rfl ?_;(conv=>whnf)))
  (refine .inl ⟨_, hs, ?_⟩; ((conv=>whnf);repeat(refine And.intro rfl ?_;(conv=>whnf))))
  cases r : snP s l i
  · rw [r, Bool.false_and] at e
    ((conv=>whnf);repeat(refine And.intro rfl ?_;(conv=>whnf)))
    rw [e]
    exact .refl _
  · rw [r, Bool.true_and] at e
    ((conv=>whnf);repeat(refine And.intro rfl ?_;(conv=>whnf)))
    (refine .inl ⟨_, h, ?_⟩; ((conv=>whnf);repeat(refine And.intro rfl ?_;(conv=>whnf))))
    rw [e]
    exact .refl _
def bF (s l : List Int) (kd a b ct : Int) : D := .fn (.func 80) [] [.ipt [seenF s l], .ipt (wcells s l), .ipt (tcells kd a b ct)]
theorem pure_bF (s l : List Int) (kd a b ct : Int) : Pure (bF s l kd a b ct) := by simp [bF, Pure, PureL, wcells, pure_dlet2, pure_seenF, tcells]
def c81_1 : PC := .seq (.seq (.ops [⟨(some 8), .move (.tmp 6), none, 0⟩,
    ⟨(some 9), .load1 (.tmp 2), none, 0⟩,
    ⟨(some 10), .bin .lss (.tmp 8) (.tmp 9), none, 0⟩] false) (.cond (.tmp 10) (.skip) (.exit 0))) (.seq (.block 1 (.seq (.ops [⟨(some 13), .move (.tmp 1), none, 0⟩,
    ⟨(some 14), .move (.tmp 6), none, 0⟩,
    ⟨(some 15), .callv (.tmp 13) [(.tmp 14)], none, 0⟩] false) (.cond (.tmp 15) (.seq (.ops [⟨(some 5), .move (.const (.bool true)), none, 0⟩] false) (.ret)) (.skip)))) (.ops [⟨(some 11), .move (.tmp 6), none, 0⟩,
    ⟨(some 12), .bin .add (.tmp 11) (.const (.int .i64 1)), none, 0⟩,
    ⟨(some 6), .move (.tmp 12), none, 0⟩] false))
def c81 : PC := .seq (.ops [⟨(some 5), .move (.const (.bool false)), none, 0⟩] false) (.seq (.seq (.ops [⟨(some 7), .move (.tmp 0), none, 0⟩,
    ⟨(some 6), .move (.tmp 7), none, 0⟩] false) (.block 0 (.loop c81_1))) (.seq (.ops [⟨(some 5), .move (.const (.bool false)), none, 0⟩] false) (.ret)))
set_option maxRecDepth 100000 in
theorem c81_ok : FunOK Try.prog 81 16 [.tmp 5] c81 := ⟨⟨Try.f81, Try.func81, rfl, by kernel_rfl, rfl, by kernel_rfl⟩⟩
theorem fi_some (far : Nat) (hfar : far ≤ 1000) (f : Nat) (hf : f ≤ far) (p : Nat → Bool) (cl : FuncId) (caps : List D) (hcaps : PureL caps) (hc : ∀ i : Nat, i ≤ 1000 → PCall Try.prog cl (.sc (.int .i64 i) :: caps) (.sc (.bool (p i)))) :
    PCall Try.prog 81 [.sc (.int .i64 f), .fn (.func cl) [] caps, .ipt [.sc (.int .i64 far)]] (.sc (.bool (someB far f p))) := by
  refine pcall_intro c81_ok (by simp) (by simp [PureL, Pure, hcaps]) ?_ (by simp [Pure])
  (apply rd_sound; focus (repeat' constructor))
  ((conv=>whnf);repeat(refine And.intro rfl ?_;(conv=>whnf)))
  refine pwp_for [1, 2] (fun k : Nat => [(6, .sc (.int .i64 k))]) (fun _ => []) (fun k => f ≤ k ∧ k ≤ far ∧ ∀ j, f ≤ j → j < k → p j = false) (fun k => far - k) f ?_
  ((conv=>whnf);repeat(refine And.intro rfl ?_;(conv=>whnf)))
  refine ⟨⟨by omega, by omega, fun j h1 h2 => by omega⟩, by (repeat' (first | exact trivial | refine And.intro rfl ?_)), rfl, ?_⟩
  rintro k ⟨hk1, hk, hno⟩
  ((conv=>whnf);repeat(refine And.intro rfl ?_;(conv=>whnf)))
  (apply rd_sound; focus (repeat' constructor))
  ((conv=>whnf);repeat(refine And.intro rfl ?_;(conv=>whnf)))
  (refine ifK_split (fun q0 => ?_) (fun q0 => ?_) <;> (rw [q0]; ((conv=>whnf);repeat(refine And.intro rfl ?_;(conv=>whnf)))))
  · have q0 : k < far := by ((try simp only [oo, reduceCtorEq] at *) <;> omega)
    (refine .inl ⟨_, (hc k (by omega)), ?_⟩; ((conv=>whnf);repeat(refine And.intro rfl ?_;(conv=>whnf))))
    cases r : p k
    · ((conv=>whnf);repeat(refine And.intro rfl ?_;(conv=>whnf)))
      (refine .inl ⟨by (unfold InR; rw [IntKind.wrap_i64]; omega), ?_⟩; ((conv=>whnf);repeat(refine And.intro rfl ?_;(conv=>whnf))))
      refine ⟨k + 1, ⟨by omega, by omega, fun j h1 h2 => ?_⟩, by dsimp only; omega, leB_envH (by (repeat' (first | exact trivial | refine And.intro rfl ?_))) rfl⟩
      by_cases e : j = k
      · subst e; exact r
      · exact hno j h1 (by omega)
    · ((conv=>whnf);repeat(refine And.intro rfl ?_;(conv=>whnf)))
      rw [someB_true hk1 q0 r]
      exact .refl _
  · have q0 : k = far := by have : ¬ k < far := by ((try simp only [oo, reduceCtorEq] at *) <;> omega)
                            omega
    subst q0
    rw [someB_false hf hno]
    exact .refl _
def someF (far : Nat) : D := .fn (.func 81) [] [.ipt [.sc (.int .i64 far)]]
theorem pure_someF (far : Nat) : Pure (someF far) := by simp [someF, Pure, PureL]
theorem resp_succ (far k : Nat) (A B : Nat → Bool) : respB far (k + 1) A B = (respB far k A B && (!A k || someB far k B)) := by
  unfold respB; rw [List.range_succ, List.all_append]; simp
theorem resp_false {far k n : Nat} {A B : Nat → Bool} (hk : k < n) (h : (!A k || someB far k B) = false) : respB far n A B = false := by
  rw [Bool.eq_false_iff]
  intro q
  have := all_range.1 q k hk
  rw [h] at this
  cases this
def c82_1 : PC := .seq (.seq (.ops [⟨(some 6), .move (.tmp 5), none, 0⟩,
    ⟨(some 7), .load1 (.tmp 0), none, 0⟩,
    ⟨(some 8), .bin .lss (.tmp 6) (.tmp 7), none, 0⟩] false) (.cond (.tmp 8) (.skip) (.exit 0))) (.seq (.block 1 (.seq (.ops [⟨(some 11), .load1 (.tmp 1), none, 0⟩,
    ⟨(some 12), .move (.tmp 5), none, 0⟩,
    ⟨(some 13), .callv (.tmp 11) [(.tmp 12)], none, 0⟩,
    ⟨(some 14), .move (.tmp 13), none, 0⟩,
    ⟨(some 15), .load1 (.tmp 2), (some (14, true)), 0⟩,
    ⟨(some 16), .move (.tmp 5), (some (14, true)), 0⟩,
    ⟨(some 17), .load1 (.tmp 3), (some (14, true)), 0⟩,
    ⟨(some 18), .callv (.tmp 15) [(.tmp 16), (.tmp 17)], (some (14, true)), 0⟩,
    ⟨(some 19), .un .not (.tmp 18), (some (14, true)), 0⟩,
    ⟨(some 20), .pick (.tmp 14) (.tmp 19) (.const (.bool false)), none, 0⟩] false) (.cond (.tmp 20) (.seq (.ops [⟨(some 4), .move (.const (.bool false)), none, 0⟩] false) (.ret)) (.skip)))) (.ops [⟨(some 9), .move (.tmp 5), none, 0⟩,
    ⟨(some 10), .bin .add (.tmp 9) (.const (.int .i64 1)), none, 0⟩,
    ⟨(some 5), .move (.tmp 10), none, 0⟩] false))
def c82 : PC := .seq (.ops [⟨(some 4), .move (.const (.bool false)), none, 0⟩] false) (.seq (.seq (.ops [⟨(some 5), .move (.const (.int .i64 0)), none, 0⟩] false) (.block 0 (.loop c82_1))) (.seq (.ops [⟨(some 4), .move (.const (.bool true)), none, 0⟩] false) (.ret)))
set_option maxRecDepth 100000 in
theorem c82_ok : FunOK Try.prog 82 21 [.tmp 4] c82 := ⟨⟨Try.f82, Try.func82, rfl, by kernel_rfl, rfl, by kernel_rfl⟩⟩
theorem fi_resp (s l : List Int) (hl : 1 ≤ l.length) (h1 : s.length + l.length ≤ 60) (kd a b ct : Int) (ha : 0 ≤ a) (hb : 0 ≤ b) (far n : Nat) (hfar : far ≤ 1000) (hn : n ≤ far) : PCall Try.prog 82 [.ipt [.sc (.int .i64 n)], .ipt [aF s l kd a b ct], .ipt [someF far], .ipt [bF s l kd a b ct]]
    (.sc (.bool (respB far n (seenP s l a) (seenP s l b)))) := by
  have hA := fun i hi => fi_a s l hl h1 kd a b ct ha i hi
  have hS := fun f hf => fi_some far hfar f hf (seenP s l b) _ [.ipt [seenF s l], .ipt (wcells s l), .ipt (tcells kd a b ct)] (by simp [PureL, Pure, wcells, pure_dlet2, tcells, pure_seenF]) (fun i hi => fi_b s l hl h1 kd a b ct hb i hi)
  refine pcall_intro c82_ok (by simp) (by simp [PureL, Pure, pure_aF, pure_bF, pure_someF]) ?_ (by simp [Pure])
  generalize seenP s l a = A at *
  generalize seenP s l b = B at *
  unfold aF bF someF
  (apply rd_sound; focus (repeat' constructor))
  ((conv=>whnf);repeat(refine And.intro rfl ?_;(conv=>whnf)))
  refine pwp_for [0, 1, 2, 3] (fun k : Nat => [(5, .sc (.int .i64 k))]) (fun _ => []) (fun k => k ≤ n ∧ respB far k A B = true) (fun k => n - k) 0 ?_
  ((conv=>whnf);repeat(refine And.intro rfl ?_;(conv=>whnf)))
  refine ⟨⟨by omega, rfl⟩, by (repeat' (first | exact trivial | refine And.intro rfl ?_)), rfl, ?_⟩
  rintro k ⟨hk, hall⟩
  have e1 := resp_succ far k A B
  rw [hall, Bool.true_and] at e1
  ((conv=>whnf);repeat(refine And.intro rfl ?_;(conv=>whnf)))
  (apply rd_sound; focus (repeat' constructor))
  ((conv=>whnf);repeat(refine And.intro rfl ?_;(conv=>whnf)))
  (refine ifK_split (fun q0 => ?_) (fun q0 => ?_) <;> (rw [q0]; ((conv=>whnf);repeat(refine And.intro rfl ?_;(conv=>whnf)))))
  · have q0 : k < n := by ((try simp only [oo, reduceCtorEq] at *) <;> omega)
    have efl := resp_false (far := far) (A := A) (B := B) q0
    (refine .inl ⟨_, (hA k (by omega)), ?_⟩; ((conv=>whnf);repeat(refine And.intro rfl ?_;(conv=>whnf))))
    cases r : A k
    · rw [r] at e1
      ((conv=>whnf);repeat(refine And.intro rfl ?_;(conv=>whnf)))
      (refine .inl ⟨by (unfold InR; rw [IntKind.wrap_i64]; omega), ?_⟩; ((conv=>whnf);repeat(refine And.intro rfl ?_;(conv=>whnf))))
      exact ⟨k + 1, ⟨by omega, by rw [e1]; rfl⟩, by dsimp only; omega, leB_envH (by (repeat' (first | exact trivial | refine And.intro rfl ?_))) rfl⟩
    · rw [r] at e1 efl
      ((conv=>whnf);repeat(refine And.intro rfl ?_;(conv=>whnf)))
      (refine .inl ⟨_, (hS k (by omega)), ?_⟩; ((conv=>whnf);repeat(refine And.intro rfl ?_;(conv=>whnf))))
      cases r2 : someB far k B
      · rw [r2] at efl
        ((conv=>whnf);repeat(refine And.intro rfl ?_;(conv=>whnf)))
        rw [efl rfl]
        exact .refl _
      · rw [r2] at e1
        ((conv=>whnf);repeat(refine And.intro rfl ?_;(conv=>whnf)))
        (refine .inl ⟨by (unfold InR; rw [IntKind.wrap_i64]; omega), ?_⟩; ((conv=>whnf);repeat(refine And.intro rfl ?_;(conv=>whnf))))
        exact ⟨k + 1, ⟨by omega, by rw [e1]; rfl⟩, by dsimp only; omega, leB_envH (by (repeat' (first | exact trivial | refine And.intro rfl ?_))) rfl⟩
  · have q0 : k = n := by have : ¬ k < n := by ((try simp only [oo, reduceCtorEq] at *) <;> omega)
                          omega
    subst q0
    rw [hall]
    exact .refl _
theorem anyTo_succ (p : Nat → Bool) (k : Nat) : (List.range (k + 1)).any p = ((List.range k).any p || p k) := by
  rw [List.range_succ, List.any_append]; simp
theorem pref_succ (k : Nat) (A B : Nat → Bool) : prefB (k + 1) A B = (prefB k A B && (!B k || (List.range (k + 1)).any A)) := by
  unfold prefB; rw [List.range_succ, List.all_append]; simp only [List.all_cons, List.all_nil, Bool.and_true, List.range_succ]
theorem pref_false {k n : Nat} {A B : Nat → Bool} (hk : k < n) (h : (!B k || (List.range (k + 1)).any A) = false) : prefB n A B = false := by
  rw [Bool.eq_false_iff]
  intro q
  have := all_range.1 q k hk
  rw [h] at this
  cases this
def c83_2 : PC := .seq (.seq (.ops [⟨(some 12), .move (.tmp 6), none, 0⟩,
    ⟨(some 13), .move (.tmp 4), none, 0⟩,
    ⟨(some 14), .bin .leq (.tmp 12) (.tmp 13), none, 0⟩] false) (.cond (.tmp 14) (.skip) (.exit 2))) (.seq (.block 3 (.ops [⟨(some 17), .move (.tmp 5), none, 0⟩,
    ⟨(some 18), .move (.tmp 17), none, 0⟩,
    ⟨(some 19), .load1 (.tmp 1), (some (18, false)), 0⟩,
    ⟨(some 20), .move (.tmp 6), (some (18, false)), 0⟩,
    ⟨(some 21), .callv (.tmp 19) [(.tmp 20)], (some (18, false)), 0⟩,
    ⟨(some 22), .pick (.tmp 18) (.const (.bool true)) (.tmp 21), none, 0⟩,
    ⟨(some 5), .move (.tmp 22), none, 0⟩] false)) (.ops [⟨(some 15), .move (.tmp 6), none, 0⟩,
    ⟨(some 16), .bin .add (.tmp 15) (.const (.int .i64 1)), none, 0⟩,
    ⟨(some 6), .move (.tmp 16), none, 0⟩] false))
def c83_1 : PC := .seq (.seq (.ops [⟨(some 7), .move (.tmp 4), none, 0⟩,
    ⟨(some 8), .load1 (.tmp 0), none, 0⟩,
    ⟨(some 9), .bin .lss (.tmp 7) (.tmp 8), none, 0⟩] false) (.cond (.tmp 9) (.skip) (.exit 0))) (.seq (.block 1 (.seq (.ops [⟨(some 5), .move (.const (.bool false)), none, 0⟩] false) (.seq (.seq (.ops [⟨(some 6), .move (.const (.int .i64 0)), none, 0⟩] false) (.block 2 (.loop c83_2))) (.seq (.ops [⟨(some 23), .load1 (.tmp 2), none, 0⟩,
    ⟨(some 24), .move (.tmp 4), none, 0⟩,
    ⟨(some 25), .callv (.tmp 23) [(.tmp 24)], none, 0⟩,
    ⟨(some 26), .move (.tmp 25), none, 0⟩,
    ⟨(some 27), .move (.tmp 5), (some (26, true)), 0⟩,
    ⟨(some 28), .un .not (.tmp 27), (some (26, true)), 0⟩,
    ⟨(some 29), .pick (.tmp 26) (.tmp 28) (.const (.bool false)), none, 0⟩] false) (.cond (.tmp 29) (.seq (.ops [⟨(some 3), .move (.const (.bool false)), none, 0⟩] false) (.ret)) (.skip)))))) (.ops [⟨(some 10), .move (.tmp 4), none, 0⟩,
    ⟨(some 11), .bin .add (.tmp 10) (.const (.int .i64 1)), none, 0⟩,
    ⟨(some 4), .move (.tmp 11), none, 0⟩] false))
def c83 : PC := .seq (.ops [⟨(some 3), .move (.const (.bool false)), none, 0⟩] false) (.seq (.seq (.ops [⟨(some 4), .move (.const (.int .i64 0)), none, 0⟩] false) (.block 0 (.loop c83_1))) (.seq (.ops [⟨(some 3), .move (.const (.bool true)), none, 0⟩] false) (.ret)))
set_option maxRecDepth 100000 in
theorem c83_ok : FunOK Try.prog 83 30 [.tmp 3] c83 := ⟨⟨Try.f83, Try.func83, rfl, by kernel_rfl, rfl, by kernel_rfl⟩⟩
theorem fi_pref (s l : List Int) (hl : 1 ≤ l.length) (h1 : s.length + l.length ≤ 60) (kd a b ct : Int) (ha : 0 ≤ a) (hb : 0 ≤ b) (n : Nat) (hn : n ≤ 1000) : PCall Try.prog 83 [.ipt [.sc (.int .i64 n)], .ipt [aF s l kd a b ct], .ipt [bF s l kd a b ct]]
    (.sc (.bool (prefB n (seenP s l a) (seenP s l b)))) := by
  have hA := fun i hi => fi_a s l hl h1 kd a b ct ha i hi
  have hB := fun i hi => fi_b s l hl h1 kd a b ct hb i hi
  refine pcall_intro c83_ok (by simp) (by simp [PureL, Pure, pure_aF, pure_bF]) ?_ (by simp [Pure])
  generalize seenP s l a = A at *
  generalize seenP s l b = B at *
  unfold aF bF
  (apply rd_sound; focus (repeat' constructor))
  ((conv=>whnf);repeat(refine And.intro rfl ?_;(conv=>whnf)))
  refine pwp_for [0, 1, 2] (fun k : Nat => [(4, .sc (.int .i64 k))]) (fun _ => []) (fun k => k ≤ n ∧ prefB k A B = true) (fun k => n - k) 0 ?_
  ((conv=>whnf);repeat(refine And.intro rfl ?_;(conv=>whnf)))
  refine ⟨⟨by omega, rfl⟩, by (repeat' (first | exact trivial | refine And.intro rfl ?_)), rfl, ?_⟩
  rintro k ⟨hk, hall⟩
  have e1 := pref_succ k A B
  rw [hall, Bool.true_and] at e1
  ((conv=>whnf);repeat(refine And.intro rfl ?_;(conv=>whnf)))
  (apply rd_sound; focus (repeat' constructor))
  ((conv=>whnf);repeat(refine And.intro rfl ?_;(conv=>whnf)))
  (refine ifK_split (fun q0 => ?_) (fun q0 => ?_) <;> (rw [q0]; ((conv=>whnf);repeat(refine And.intro rfl ?_;(conv=>whnf)))))
  · have q0 : k < n := by ((try simp only [oo, reduceCtorEq] at *) <;> omega)
    have efl := pref_false (A := A) (B := B) q0
    refine pwp_for [0, 1, 2, 4] (fun ((j, o) : Nat × Bool) => [(5, .sc (.bool o)), (6, .sc (.int .i64 j))]) (fun _ => []) (fun (j, o) => j ≤ k + 1 ∧ o = (List.range j).any A) (fun (j, o) => k + 1 - j) (0, false) ?_
    ((conv=>whnf);repeat(refine And.intro rfl ?_;(conv=>whnf)))
    refine ⟨⟨by omega, rfl⟩, by (repeat' (first | exact trivial | refine And.intro rfl ?_)), rfl, ?_⟩
    rintro ⟨j, o⟩ ⟨hj, ho⟩
    have e2 := anyTo_succ A j
    rw [← ho] at e2
    ((conv=>whnf);repeat(refine And.intro rfl ?_;(conv=>whnf)))
    (apply rd_sound; focus (repeat' constructor))
    ((conv=>whnf);repeat(refine And.intro rfl ?_;(conv=>whnf)))
    (refine ifK_split (fun q1 => ?_) (fun q1 => ?_) <;> (rw [q1]; ((conv=>whnf);repeat(refine And.intro rfl ?_;(conv=>whnf)))))
    · have q1 : j ≤ k := by ((try simp only [oo, reduceCtorEq] at *) <;> omega)
      cases o
      · ((conv=>whnf);repeat(refine And.intro rfl ?_;(conv=>whnf)))
        (refine .inl ⟨_, (hA j (by omega)), ?_⟩; ((conv=>whnf);repeat(refine And.intro rfl ?_;(conv=>whnf))))
        (refine .inl ⟨by (unfold InR; rw [IntKind.wrap_i64]; omega), ?_⟩; ((conv=>whnf);repeat(refine And.intro rfl ?_;(conv=>whnf))))
        exact ⟨(j + 1, A j), ⟨by omega, by rw [e2]; rfl⟩, by dsimp only; omega, leB_envH (by (repeat' (first | exact trivial | refine And.intro rfl ?_))) rfl⟩
      · ((conv=>whnf);repeat(refine And.intro rfl ?_;(conv=>whnf)))
        (refine .inl ⟨by (unfold InR; rw [IntKind.wrap_i64]; omega), ?_⟩; ((conv=>whnf);repeat(refine And.intro rfl ?_;(conv=>whnf))))
        exact ⟨(j + 1, true), ⟨by omega, by rw [e2]; rfl⟩, by dsimp only; omega, leB_envH (by (repeat' (first | exact trivial | refine And.intro rfl ?_))) rfl⟩
    · have q1 : j = k + 1 := by have : ¬ j ≤ k := by ((try simp only [oo, reduceCtorEq] at *) <;> omega)
                                omega
      subst q1
      rw [← ho] at e1 efl
      (refine .inl ⟨_, (hB k (by omega)), ?_⟩; ((conv=>whnf);repeat(refine And.intro rfl ?_;(conv=>whnf))))
      cases r : B k
      · rw [r] at e1
        ((conv=>whnf);repeat(refine And.intro rfl ?_;(conv=>whnf)))
        (refine .inl ⟨by (unfold InR; rw [IntKind.wrap_i64]; omega), ?_⟩; ((conv=>whnf);repeat(refine And.intro rfl ?_;(conv=>whnf))))
        exact ⟨k + 1, ⟨by omega, by rw [e1]; rfl⟩, by dsimp only; omega, leB_envH (by (repeat' (first | exact trivial | refine And.intro rfl ?_))) rfl⟩
      · rw [r] at e1 efl
        cases o
        · ((conv=>whnf);repeat(refine And.intro rfl ?_;(conv=>whnf)))
          rw [efl rfl]
          exact .refl _
        · ((conv=>whnf);repeat(refine And.intro rfl ?_;(conv=>whnf)))
          (refine .inl ⟨by (unfold InR; rw [IntKind.wrap_i64]; omega), ?_⟩; ((conv=>whnf);repeat(refine And.intro rfl ?_;(conv=>whnf))))
          exact ⟨k + 1, ⟨by omega, by rw [e1]; rfl⟩, by dsimp only; omega, leB_envH (by (repeat' (first | exact trivial | refine And.intro rfl ?_))) rfl⟩
  · have q0 : k = n := by have : ¬ k < n := by ((try simp only [oo, reduceCtorEq] at *) <;> omega)
                          omega
    subst q0
    rw [hall]
    exact .refl _
end Go.Proofs.Ytfgklgjbnpjpoaa
