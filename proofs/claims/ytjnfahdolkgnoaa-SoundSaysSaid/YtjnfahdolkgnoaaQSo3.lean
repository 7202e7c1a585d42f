/-
  Is a process sound?: the reference's functions, over deep values. No statement is proved here.
-/
import Derived.Test.YtjnfahdolkgnoaaQSo2
import Derived.Test.YtjnfahdolkgnoaaQWz
namespace Go.Proofs.Ytjnfahdolkgnoaa
open Go.RowKit
set_option linter.unusedSimpArgs false
set_option linter.unusedVariables false
/-! ### Plain -/
theorem zero_empty {m : List Int} (h : ∀ x ∈ m, 0 ≤ x) : (m.all fun x => x == 0) = emptyB m := by
  unfold emptyB
  rw [Bool.eq_iff_iff]
  simp only [List.all_eq_true, beq_iff_eq, Bool.not_eq_true', List.any_eq_false, decide_eq_true_eq]
  constructor
  · intro q x hx; have := q x hx; omega
  · intro q x hx; have := q x hx; have := h x hx; omega
theorem frst_step {p : Nat → Bool} {n j : Nat} (h : j < n) : frst p n (n - j) = if p j = true then (j : Int) else frst p n (n - (j + 1)) := by
  rw [show n - j = (n - (j + 1)) + 1 by omega]
  simp only [frst]
  rw [show n - (n - (j + 1) + 1) = j by omega]
theorem never_ref {M : List (List Int)} {N : List (List EdgeD)} {s : Nat} (hS : SpN M N s) {i : Nat} (hi : i < M.length) :
    neverB M N i = !((List.range M.length).any fun j => rchB (gN N) [(i : Int)] j && emptyB (M.getD j [])) := by
  obtain ⟨g1, _⟩ := hS.graph
  have hl := hS.len
  have hin := (chkG_zero.1 g1).2
  have hmem : ∀ v y, y ∈ (gN N).getD v [] → 0 ≤ y ∧ y.toNat < (gN N).length := fun v y hy => by have := inB_mem (inB_row hin v) hy; omega
  unfold neverB
  congr 1
  rw [Bool.eq_iff_iff, rchB_iff, rch_of (fun x hx => (endsTo_mem.1 hx).1), List.any_eq_true]
  constructor
  · rintro ⟨x, hx, h⟩
    obtain ⟨h0, h1, h2⟩ := endsTo_mem.1 hx
    refine ⟨x.toNat, List.mem_range.2 (by omega), ?_⟩
    rw [Bool.and_eq_true, rchB_iff]
    refine ⟨rch_back hmem (v := x.toNat) ?_, h2⟩
    rw [Int.toNat_of_nonneg h0]
    exact h
  · rintro ⟨k, hk, h⟩
    rw [Bool.and_eq_true, rchB_iff] at h
    have hk := List.mem_range.1 hk
    refine ⟨(k : Int), endsTo_mem.2 ⟨by omega, by omega, by rw [Int.toNat_natCast]; exact h.2⟩, ?_⟩
    exact rch_turn hmem (by rw [gN_len, hl]; exact hi) h.1
/-- What is known of the marks while one looks for what comes. -/
structure ComI (g : List (List Int)) (from_ : List Int) (s : Nat → Bool) : Prop where
  start : ∀ x ∈ from_, s x.toNat = true
  seen : ∀ v, s v = true → Rch g from_ v
theorem ComI.done {g : List (List Int)} {from_ : List Int} {s : Nat → Bool} (h : ComI g from_ s) (hc : ∀ a, a < g.length → s a = true → ∀ x ∈ g.getD a [], s x.toNat = true) (v : Nat) : s v = rchB g from_ v :=
  rchB_eq ⟨h.seen v, rch_closed h.start (fun v hv x hx => by
    by_cases q : v < g.length
    · exact hc v q hv x hx
    · rw [List.getD_eq_getElem?_getD, List.getElem?_eq_none (by omega)] at hx; simp at hx) v⟩
def c30_1 : PC := .seq (.seq (.ops [⟨(some 4), .move (.tmp 3), none, 0⟩,
    ⟨(some 5), .move (.tmp 0), none, 0⟩,
    ⟨(some 6), .len (.tmp 5), none, 0⟩,
    ⟨(some 7), .bin .lss (.tmp 4) (.tmp 6), none, 0⟩] false) (.cond (.tmp 7) (.skip) (.exit 0))) (.seq (.block 1 (.seq (.ops [⟨(some 10), .move (.tmp 0), none, 0⟩,
    ⟨(some 11), .move (.tmp 3), none, 0⟩,
    ⟨(some 12), .iaddr 1 (.tmp 10) (.tmp 11), none, 0⟩,
    ⟨(some 13), .load1 (.tmp 12), none, 0⟩,
    ⟨(some 14), .bin .neq (.tmp 13) (.const (.int .i64 0)), none, 0⟩] false) (.cond (.tmp 14) (.seq (.ops [⟨(some 2), .move (.const (.bool false)), none, 0⟩] false) (.ret)) (.skip)))) (.ops [⟨(some 8), .move (.tmp 3), none, 0⟩,
    ⟨(some 9), .bin .add (.tmp 8) (.const (.int .i64 1)), none, 0⟩,
    ⟨(some 3), .move (.tmp 9), none, 0⟩] false))
def c30 : PC := .seq (.ops [⟨(some 2), .move (.const (.bool false)), none, 0⟩] false) (.seq (.seq (.ops [⟨(some 3), .move (.const (.int .i64 0)), none, 0⟩] false) (.block 0 (.loop c30_1))) (.seq (.ops [⟨(some 2), .move (.const (.bool true)), none, 0⟩] false) (.ret)))
set_option maxRecDepth 100000 in
theorem c30_ok : FunOK Try.prog 30 15 [.tmp 2] c30 := ⟨⟨Try.f30, Try.func30, rfl, by kernel_rfl, rfl, by kernel_rfl⟩⟩
theorem ref_Zero (m : List Int) (hm : m.length ≤ 100000) : PCall Try.prog 30 [dints m] (.sc (.bool (m.all fun x => x == 0))) := by
  refine pcall_intro c30_ok (by simp) (by simp [PureL, pure_dints]) ?_ (by simp [Pure])
  (apply rd_sound; focus (repeat' constructor))
  ((conv=>whnf);repeat(refine And.intro rfl ?_;(conv=>whnf)))
  refine pwp_for [0] (fun k : Nat => [(3, .sc (.int .i64 k))]) (fun _ => []) (fun k => k ≤ m.length ∧ ∀ j, j < k → m.getD j 0 = 0) (fun k => m.length - k) 0 ?_
  ((conv=>whnf);repeat(refine And.intro rfl ?_;(conv=>whnf)))
  refine ⟨⟨by omega, fun j hj => by omega⟩, by (repeat' (first | exact trivial | refine And.intro rfl ?_)), rfl, ?_⟩
  rintro k ⟨hk, hno⟩
  ((conv=>whnf);repeat(refine And.intro rfl ?_;(conv=>whnf)))
  (apply rd_sound; focus (repeat' constructor))
  ((conv=>whnf);repeat(refine And.intro rfl ?_;(conv=>whnf)))
  rw [List.length_map]
  (refine ifK_split (fun h1 => ?_) (fun h1 => ?_) <;> (rw [h1]; ((conv=>whnf);repeat(refine And.intro rfl ?_;(conv=>whnf)))))
  · have hk' : k < m.length := by ((try simp only [oo, reduceCtorEq] at *) <;> omega)
    refine ⟨by omega, _, intsD_at (k := k) (by omega) hk', ?_⟩
    ((conv=>whnf);repeat(refine And.intro rfl ?_;(conv=>whnf)))
    (refine ifK_split (fun h2 => ?_) (fun h2 => ?_) <;> (rw [h2]; ((conv=>whnf);repeat(refine And.intro rfl ?_;(conv=>whnf)))))
    · have h2 : m.getD k 0 ≠ 0 := by ((try simp only [oo, reduceCtorEq] at *) <;> omega)
      refine deep_eq ?_
      have : (m.all fun x => x == 0) = false := by
        rw [List.all_eq_false]
        exact ⟨_, mem_getD hk', by simpa using h2⟩
      rw [this]
    · have h2 : m.getD k 0 = 0 := by ((try simp only [oo, reduceCtorEq] at *) <;> omega)
      (refine .inl ⟨by (unfold InR; rw [IntKind.wrap_i64]; omega), ?_⟩; ((conv=>whnf);repeat(refine And.intro rfl ?_;(conv=>whnf))))
      refine ⟨k + 1, ⟨by omega, fun j hj => ?_⟩, by dsimp only; omega, leB_envH (by (repeat' (first | exact trivial | refine And.intro rfl ?_))) rfl⟩
      by_cases e : j = k
      · subst e; exact h2
      · exact hno j (by omega)
  · have hk' : k = m.length := by have : ¬ k < m.length := by ((try simp only [oo, reduceCtorEq] at *) <;> omega)
                                  omega
    subst hk'
    refine deep_eq ?_
    have : (m.all fun x => x == 0) = true := by
      rw [List.all_eq_true]
      intro x hx
      obtain ⟨j, hj, rfl⟩ := getD_mem hx
      rw [hno j hj]
      rfl
    rw [this]
def c31_1 : PC := .seq (.seq (.ops [⟨(some 13), .move (.tmp 6), none, 0⟩,
    ⟨(some 14), .move (.tmp 1), none, 0⟩,
    ⟨(some 15), .len (.tmp 14), none, 0⟩,
    ⟨(some 16), .bin .lss (.tmp 13) (.tmp 15), none, 0⟩] false) (.cond (.tmp 16) (.skip) (.exit 0))) (.seq (.block 1 (.ops [⟨(some 19), .move (.tmp 5), none, 0⟩,
    ⟨(some 20), .move (.tmp 1), none, 0⟩,
    ⟨(some 21), .move (.tmp 6), none, 0⟩,
    ⟨(some 22), .iaddr 1 (.tmp 20) (.tmp 21), none, 0⟩,
    ⟨(some 23), .load1 (.tmp 22), none, 0⟩,
    ⟨(some 24), .iaddr 1 (.tmp 19) (.tmp 23), none, 0⟩,
    ⟨none, .store 1 (.tmp 24) (.const (.bool true)), none, 0⟩] false)) (.ops [⟨(some 17), .move (.tmp 6), none, 0⟩,
    ⟨(some 18), .bin .add (.tmp 17) (.const (.int .i64 1)), none, 0⟩,
    ⟨(some 6), .move (.tmp 18), none, 0⟩] false))
def c31_4 : PC := .seq (.seq (.ops [⟨(some 32), .move (.tmp 5), none, 0⟩,
    ⟨(some 33), .move (.tmp 8), none, 0⟩,
    ⟨(some 34), .iaddr 1 (.tmp 32) (.tmp 33), none, 0⟩,
    ⟨(some 35), .load1 (.tmp 34), none, 0⟩,
    ⟨(some 36), .move (.tmp 35), none, 0⟩,
    ⟨(some 37), .move (.tmp 9), (some (36, true)), 0⟩,
    ⟨(some 38), .move (.tmp 0), (some (36, true)), 0⟩,
    ⟨(some 39), .move (.tmp 8), (some (36, true)), 0⟩,
    ⟨(some 40), .iaddr 1 (.tmp 38) (.tmp 39), (some (36, true)), 0⟩,
    ⟨(some 41), .load1 (.tmp 40), (some (36, true)), 0⟩,
    ⟨(some 42), .len (.tmp 41), (some (36, true)), 0⟩,
    ⟨(some 43), .bin .lss (.tmp 37) (.tmp 42), (some (36, true)), 0⟩,
    ⟨(some 44), .pick (.tmp 36) (.tmp 43) (.const (.bool false)), none, 0⟩] false) (.cond (.tmp 44) (.skip) (.exit 6))) (.seq (.block 7 (.seq (.ops [⟨(some 47), .move (.tmp 7), none, 0⟩,
    ⟨(some 48), .move (.tmp 47), none, 0⟩,
    ⟨(some 49), .move (.tmp 5), (some (48, false)), 0⟩,
    ⟨(some 50), .move (.tmp 0), (some (48, false)), 0⟩,
    ⟨(some 51), .move (.tmp 8), (some (48, false)), 0⟩,
    ⟨(some 52), .iaddr 1 (.tmp 50) (.tmp 51), (some (48, false)), 0⟩,
    ⟨(some 53), .load1 (.tmp 52), (some (48, false)), 0⟩,
    ⟨(some 54), .move (.tmp 9), (some (48, false)), 0⟩,
    ⟨(some 55), .iaddr 1 (.tmp 53) (.tmp 54), (some (48, false)), 0⟩,
    ⟨(some 56), .load1 (.tmp 55), (some (48, false)), 0⟩,
    ⟨(some 57), .iaddr 1 (.tmp 49) (.tmp 56), (some (48, false)), 0⟩,
    ⟨(some 58), .load1 (.tmp 57), (some (48, false)), 0⟩,
    ⟨(some 59), .un .not (.tmp 58), (some (48, false)), 0⟩,
    ⟨(some 60), .pick (.tmp 48) (.const (.bool true)) (.tmp 59), none, 0⟩,
    ⟨(some 7), .move (.tmp 60), none, 0⟩] false) (.ops [⟨(some 61), .move (.tmp 5), none, 0⟩,
    ⟨(some 62), .move (.tmp 0), none, 0⟩,
    ⟨(some 63), .move (.tmp 8), none, 0⟩,
    ⟨(some 64), .iaddr 1 (.tmp 62) (.tmp 63), none, 0⟩,
    ⟨(some 65), .load1 (.tmp 64), none, 0⟩,
    ⟨(some 66), .move (.tmp 9), none, 0⟩,
    ⟨(some 67), .iaddr 1 (.tmp 65) (.tmp 66), none, 0⟩,
    ⟨(some 68), .load1 (.tmp 67), none, 0⟩,
    ⟨(some 69), .iaddr 1 (.tmp 61) (.tmp 68), none, 0⟩,
    ⟨none, .store 1 (.tmp 69) (.const (.bool true)), none, 0⟩] false))) (.ops [⟨(some 45), .move (.tmp 9), none, 0⟩,
    ⟨(some 46), .bin .add (.tmp 45) (.const (.int .i64 1)), none, 0⟩,
    ⟨(some 9), .move (.tmp 46), none, 0⟩] false))
def c31_3 : PC := .seq (.seq (.ops [⟨(some 26), .move (.tmp 8), none, 0⟩,
    ⟨(some 27), .move (.tmp 0), none, 0⟩,
    ⟨(some 28), .len (.tmp 27), none, 0⟩,
    ⟨(some 29), .bin .lss (.tmp 26) (.tmp 28), none, 0⟩] false) (.cond (.tmp 29) (.skip) (.exit 4))) (.seq (.block 5 (.seq (.ops [⟨(some 9), .move (.const (.int .i64 0)), none, 0⟩] false) (.block 6 (.loop c31_4)))) (.ops [⟨(some 30), .move (.tmp 8), none, 0⟩,
    ⟨(some 31), .bin .add (.tmp 30) (.const (.int .i64 1)), none, 0⟩,
    ⟨(some 8), .move (.tmp 31), none, 0⟩] false))
def c31_2 : PC := .seq (.seq (.ops [⟨(some 25), .move (.tmp 7), none, 0⟩] false) (.cond (.tmp 25) (.skip) (.exit 2))) (.block 3 (.seq (.ops [⟨(some 7), .move (.const (.bool false)), none, 0⟩] false) (.seq (.ops [⟨(some 8), .move (.const (.int .i64 0)), none, 0⟩] false) (.block 4 (.loop c31_3)))))
def c31 : PC := .seq (.ops [⟨(some 4), .move (.const (.slice none 0 0)), none, 0⟩] false) (.seq (.ops [⟨(some 10), .move (.tmp 0), none, 0⟩,
    ⟨(some 11), .len (.tmp 10), none, 0⟩,
    ⟨(some 12), .mslice 1 1 [(.bool false)] (.tmp 11) (.tmp 11), none, 0⟩,
    ⟨(some 5), .move (.tmp 12), none, 0⟩] false) (.seq (.seq (.ops [⟨(some 6), .move (.const (.int .i64 0)), none, 0⟩] false) (.block 0 (.loop c31_1))) (.seq (.seq (.ops [⟨(some 7), .move (.const (.bool true)), none, 0⟩] false) (.block 2 (.loop c31_2))) (.seq (.ops [⟨(some 70), .move (.tmp 5), none, 0⟩,
    ⟨(some 4), .move (.tmp 70), none, 0⟩] false) (.ret)))))
set_option maxRecDepth 100000 in
theorem c31_ok : FunOK Try.prog 31 71 [.tmp 4] c31 := ⟨⟨Try.f31, Try.func31, rfl, by kernel_rfl, rfl, by kernel_rfl⟩⟩
set_option maxRecDepth 100000 in
theorem ref_Comes (g : List (List Int)) (hg : chkG g = 0) (hF : FitsG g) (from_ : List Int) (hf : inB from_ g.length = true) (hfl : from_.length ≤ 100000) : PCall Try.prog 31 [dgrid g, dints from_] (dbl g.length (rchB g from_)) := by
  obtain ⟨hn, hin⟩ := chkG_zero.1 hg
  refine pcall_intro c31_ok (by simp) (by simp [PureL, Pure, pure_dgrid, pure_dints]) ?_ (pure_dbl _ _)
  (apply rd_sound; focus (repeat' constructor))
  ((conv=>whnf);repeat(refine And.intro rfl ?_;(conv=>whnf)))
  rw [List.length_map]
  refine ⟨by omega, by omega, by omega, ?_⟩
  rw [Int.toNat_natCast, show List.map D.sc [Value.bool false] = [D.sc (.bool false)] from rfl, rbl_rep]
  ((conv=>whnf);repeat(refine And.intro rfl ?_;(conv=>whnf)))
  refine pwp_for [0, 1, 5] (fun ((k, s) : Nat × (Nat → Bool)) => [(6, .sc (.int .i64 k))]) (fun (k, s) => [(0, .vec true 0 1 (rbl g.length s))]) (fun (k, s) => k ≤ from_.length ∧ (∀ j, j < k → s (from_.getD j 0).toNat = true) ∧ ∀ v, s v = true → Rch g from_ v) (fun (k, s) => from_.length - k) (0, fun _ => false) ?_
  ((conv=>whnf);repeat(refine And.intro rfl ?_;(conv=>whnf)))
  refine ⟨⟨by omega, fun j hj => by omega, fun v hv => by cases hv⟩, by (repeat' (first | exact trivial | refine And.intro rfl ?_)), rfl, ?_⟩
  rintro ⟨k, s⟩ ⟨hk, h1, h2⟩
  ((conv=>whnf);repeat(refine And.intro rfl ?_;(conv=>whnf)))
  (apply rd_sound; focus (repeat' constructor))
  ((conv=>whnf);repeat(refine And.intro rfl ?_;(conv=>whnf)))
  rw [List.length_map]
  (refine ifK_split (fun q1 => ?_) (fun q1 => ?_) <;> (rw [q1]; ((conv=>whnf);repeat(refine And.intro rfl ?_;(conv=>whnf)))))
  · have hk' : k < from_.length := by ((try simp only [oo, reduceCtorEq] at *) <;> omega)
    have hx := inB_getD hf hk'
    have hmx := mem_getD hk'
    refine ⟨by omega, _, intsD_at (k := k) (by omega) hk', ?_⟩
    ((conv=>whnf);repeat(refine And.intro rfl ?_;(conv=>whnf)))
    generalize hxx : from_.getD k 0 = x at hx hmx
    (refine ⟨by omega, (by first | omega | (simp; done) | (simp; omega) | (simp only [ll]; omega)), ?_⟩; ((conv=>whnf);repeat(refine And.intro rfl ?_;(conv=>whnf))))
    refine ⟨_, rbl_atN x.toNat (by omega) (by omega), ?_⟩
    ((conv=>whnf);repeat(refine And.intro rfl ?_;(conv=>whnf)))
    (refine .inl ⟨by (unfold InR; rw [IntKind.wrap_i64]; omega), ?_⟩; ((conv=>whnf);repeat(refine And.intro rfl ?_;(conv=>whnf))))
    refine ⟨(k + 1, mark s x.toNat), ⟨by omega, fun j hj => ?_, fun v hv => ?_⟩, by dsimp only; omega, leB_envH (by (repeat' (first | exact trivial | refine And.intro rfl ?_))) (by rw [rbl_mark (v := x.toNat) (by omega)]; rfl)⟩
    · by_cases e : j = k
      · subst e; rw [hxx]; exact mark_self _ _
      · exact mark_of (h1 j (by omega))
    · rcases mark_iff.1 hv with rfl | hv
      · exact .base hmx
      · exact h2 v hv
  have hk' : k = from_.length := by have : ¬ k < from_.length := by ((try simp only [oo, reduceCtorEq] at *) <;> omega)
                                    omega
  subst hk'
  have hC0 : ComI g from_ s := ⟨fun x hx => by obtain ⟨j, hj, rfl⟩ := getD_mem hx; exact h1 j hj, h2⟩
  clear h1 h2 q1 hk
  refine pwp_for [0, 5] (fun ((m, s) : Bool × (Nat → Bool)) => [(7, .sc (.bool m))]) (fun (m, s) => [(0, .vec true 0 1 (rbl g.length s))]) (fun (m, s) => ComI g from_ s ∧ (m = false → ∀ a, a < g.length → s a = true → ∀ x ∈ g.getD a [], s x.toNat = true)) (fun (m, s) => if m = true then 1 + unseen s g.length else 0) (true, s) ?_
  ((conv=>whnf);repeat(refine And.intro rfl ?_;(conv=>whnf)))
  refine ⟨⟨hC0, fun h => by cases h⟩, by (repeat' (first | exact trivial | refine And.intro rfl ?_)), rfl, ?_⟩
  clear hC0
  rintro ⟨m, s0⟩ ⟨hC, hcl⟩
  ((conv=>whnf);repeat(refine And.intro rfl ?_;(conv=>whnf)))
  (apply rd_sound; focus (repeat' constructor))
  ((conv=>whnf);repeat(refine And.intro rfl ?_;(conv=>whnf)))
  cases m
  · ((conv=>whnf);repeat(refine And.intro rfl ?_;(conv=>whnf)))
    have := hC.done (hcl rfl)
    rw [rbl_congr (g' := rchB g from_) fun i _ => this i]
    exact deep_vec rfl
  ((conv=>whnf);repeat(refine And.intro rfl ?_;(conv=>whnf)))
  refine pwp_for [0, 5] (fun ((m, a, s) : Bool × Nat × (Nat → Bool)) => [(7, .sc (.bool m)), (8, .sc (.int .i64 a))]) (fun (m, a, s) => [(0, .vec true 0 1 (rbl g.length s))])
    (fun (m, a, s) => a ≤ g.length ∧ ComI g from_ s ∧ (∀ v, s0 v = true → s v = true) ∧ (m = true → unseen s g.length < unseen s0 g.length) ∧ (m = false → ∀ b, b < a → s b = true → ∀ x ∈ g.getD b [], s x.toNat = true)) (fun (m, a, s) => g.length - a) (false, 0, s0) ?_
  ((conv=>whnf);repeat(refine And.intro rfl ?_;(conv=>whnf)))
  refine ⟨⟨by omega, hC, (fun v h => h), (fun h => by cases h), (fun _ b hb => by omega)⟩, by (repeat' (first | exact trivial | refine And.intro rfl ?_)), rfl, ?_⟩
  clear hC hcl
  rintro ⟨m, a, s⟩ ⟨ha, hC, hmo, hmt, hmf⟩
  ((conv=>whnf);repeat(refine And.intro rfl ?_;(conv=>whnf)))
  (apply rd_sound; focus (repeat' constructor))
  ((conv=>whnf);repeat(refine And.intro rfl ?_;(conv=>whnf)))
  rw [List.length_map]
  (refine ifK_split (fun q1 => ?_) (fun q1 => ?_) <;> (rw [q1]; ((conv=>whnf);repeat(refine And.intro rfl ?_;(conv=>whnf)))))
  · have ha' : a < g.length := by ((try simp only [oo, reduceCtorEq] at *) <;> omega)
    refine pwp_for [0, 5, 8] (fun ((m, i, s) : Bool × Nat × (Nat → Bool)) => [(7, .sc (.bool m)), (9, .sc (.int .i64 i))]) (fun (m, i, s) => [(0, .vec true 0 1 (rbl g.length s))])
      (fun (m, i, s) => i ≤ (g.getD a []).length ∧ ComI g from_ s ∧ (∀ v, s0 v = true → s v = true) ∧ (m = true → unseen s g.length < unseen s0 g.length) ∧ (m = false → (∀ b, b < a → s b = true → ∀ x ∈ g.getD b [], s x.toNat = true) ∧ ∀ j, j < i → s ((g.getD a []).getD j 0).toNat = true)) (fun (m, i, s) => (g.getD a []).length - i) (m, 0, s) ?_
    ((conv=>whnf);repeat(refine And.intro rfl ?_;(conv=>whnf)))
    refine ⟨⟨by omega, hC, hmo, hmt, fun h => ⟨hmf h, fun j hj => by omega⟩⟩, by (repeat' (first | exact trivial | refine And.intro rfl ?_)), rfl, ?_⟩
    clear hC hmo hmt hmf q1
    rintro ⟨m, i, s⟩ ⟨hi, hC, hmo, hmt, hmf⟩
    ((conv=>whnf);repeat(refine And.intro rfl ?_;(conv=>whnf)))
    (apply rd_sound; focus (repeat' constructor))
    ((conv=>whnf);repeat(refine And.intro rfl ?_;(conv=>whnf)))
    (refine ⟨by omega, (by first | omega | (simp; done) | (simp; omega) | (simp only [ll]; omega)), ?_⟩; ((conv=>whnf);repeat(refine And.intro rfl ?_;(conv=>whnf))))
    refine ⟨_, rbl_atN a (by omega) ha', ?_⟩
    ((conv=>whnf);repeat(refine And.intro rfl ?_;(conv=>whnf)))
    cases hsa : s a
    · ((conv=>whnf);repeat(refine And.intro rfl ?_;(conv=>whnf)))
      have hrow : m = false → s a = true → ∀ x ∈ g.getD a [], s x.toNat = true := fun _ h => by rw [hsa] at h; cases h
      (refine .inl ⟨by (unfold InR; rw [IntKind.wrap_i64]; omega), ?_⟩; ((conv=>whnf);repeat(refine And.intro rfl ?_;(conv=>whnf))))
      refine ⟨(m, a + 1, s), ⟨by omega, hC, hmo, hmt, fun h b hb hsb x hx => ?_⟩, by dsimp only; omega, leB_envH (by (repeat' (first | exact trivial | refine And.intro rfl ?_))) rfl⟩
      by_cases e : b = a
      · subst e; exact hrow h hsb x hx
      · exact (hmf h).1 b (by omega) hsb x hx
    · ((conv=>whnf);repeat(refine And.intro rfl ?_;(conv=>whnf)))
      refine ⟨by omega, _, gridD_at (k := a) (by omega) ha', ?_⟩
      ((conv=>whnf);repeat(refine And.intro rfl ?_;(conv=>whnf)))
      rw [List.length_map]
      (refine ifK_split (fun q1 => ?_) (fun q1 => ?_) <;> (rw [q1]; ((conv=>whnf);repeat(refine And.intro rfl ?_;(conv=>whnf)))))
      · have hi' : i < (g.getD a []).length := by ((try simp only [oo, reduceCtorEq] at *) <;> omega)
        have hx := inB_getD (inB_row hin a) hi'
        have hmx := mem_getD hi'
        have hrd := intsD_at (l := g.getD a []) (z := (i : Int).toNat) (k := i) (by omega) hi'
        generalize hxx : (g.getD a []).getD i 0 = x at hx hmx hrd
        have hR : Rch g from_ x.toNat := .step (hC.seen a hsa) hmx
        have hC' : ComI g from_ (mark s x.toNat) := ⟨fun y hy => mark_of (hC.start y hy), fun v hv => by
          rcases mark_iff.1 hv with rfl | hv
          · exact hR
          · exact hC.seen v hv⟩
        have hmo' : ∀ v, s0 v = true → mark s x.toNat v = true := fun v hv => mark_of (hmo v hv)
        have hrl := hF.at a
        have hle : unseen (mark s x.toNat) g.length ≤ unseen s g.length := unseen_mono fun v _ hv => mark_of hv
        cases m
        · ((conv=>whnf);repeat(refine And.intro rfl ?_;(conv=>whnf)))
          refine ⟨by omega, _, gridD_at (k := a) (by omega) ha', ?_⟩
          ((conv=>whnf);repeat(refine And.intro rfl ?_;(conv=>whnf)))
          refine ⟨by omega, _, hrd, ?_⟩
          ((conv=>whnf);repeat(refine And.intro rfl ?_;(conv=>whnf)))
          (refine ⟨by omega, (by first | omega | (simp; done) | (simp; omega) | (simp only [ll]; omega)), ?_⟩; ((conv=>whnf);repeat(refine And.intro rfl ?_;(conv=>whnf))))
          refine ⟨_, rbl_atN x.toNat (by omega) (by omega), ?_⟩
          ((conv=>whnf);repeat(refine And.intro rfl ?_;(conv=>whnf)))
          cases hsx : s x.toNat
          · ((conv=>whnf);repeat(refine And.intro rfl ?_;(conv=>whnf)))
            refine ⟨by omega, _, gridD_at (k := a) (by omega) ha', ?_⟩
            ((conv=>whnf);repeat(refine And.intro rfl ?_;(conv=>whnf)))
            refine ⟨by omega, _, hrd, ?_⟩
            ((conv=>whnf);repeat(refine And.intro rfl ?_;(conv=>whnf)))
            (refine ⟨by omega, (by first | omega | (simp; done) | (simp; omega) | (simp only [ll]; omega)), ?_⟩; ((conv=>whnf);repeat(refine And.intro rfl ?_;(conv=>whnf))))
            refine ⟨_, rbl_atN x.toNat (by omega) (by omega), ?_⟩
            ((conv=>whnf);repeat(refine And.intro rfl ?_;(conv=>whnf)))
            rw [rbl_mark (v := x.toNat) (by omega)]
            (refine .inl ⟨by (unfold InR; rw [IntKind.wrap_i64]; omega), ?_⟩; ((conv=>whnf);repeat(refine And.intro rfl ?_;(conv=>whnf))))
            have hlt := unseen_lt (s := s) (s' := mark s x.toNat) (n := g.length) (i := x.toNat) (by omega) (fun v _ hv => mark_of hv) hsx (mark_self _ _)
            have hle0 := unseen_mono (s := s0) (s' := s) (n := g.length) fun v _ hv => hmo v hv
            exact ⟨(true, i + 1, mark s x.toNat), ⟨by omega, hC', hmo', (fun _ => by omega), (fun h => by cases h)⟩, by dsimp only; omega, leB_envH (by (repeat' (first | exact trivial | refine And.intro rfl ?_))) rfl⟩
          · ((conv=>whnf);repeat(refine And.intro rfl ?_;(conv=>whnf)))
            refine ⟨by omega, _, gridD_at (k := a) (by omega) ha', ?_⟩
            ((conv=>whnf);repeat(refine And.intro rfl ?_;(conv=>whnf)))
            refine ⟨by omega, _, hrd, ?_⟩
            ((conv=>whnf);repeat(refine And.intro rfl ?_;(conv=>whnf)))
            (refine ⟨by omega, (by first | omega | (simp; done) | (simp; omega) | (simp only [ll]; omega)), ?_⟩; ((conv=>whnf);repeat(refine And.intro rfl ?_;(conv=>whnf))))
            refine ⟨_, rbl_atN x.toNat (by omega) (by omega), ?_⟩
            ((conv=>whnf);repeat(refine And.intro rfl ?_;(conv=>whnf)))
            rw [rbl_mark (v := x.toNat) (by omega)]
            (refine .inl ⟨by (unfold InR; rw [IntKind.wrap_i64]; omega), ?_⟩; ((conv=>whnf);repeat(refine And.intro rfl ?_;(conv=>whnf))))
            have hms := mark_same hsx
            rw [hms]
            obtain ⟨f1, f2⟩ := hmf rfl
            refine ⟨(false, i + 1, s), ⟨by omega, hC, hmo, (fun h => by cases h), (fun _ => ⟨f1, fun j hj => ?_⟩)⟩, by dsimp only; omega, leB_envH (by (repeat' (first | exact trivial | refine And.intro rfl ?_))) rfl⟩
            by_cases e : j = i
            · subst e; rw [hxx]; exact hsx
            · exact f2 j (by omega)
        · ((conv=>whnf);repeat(refine And.intro rfl ?_;(conv=>whnf)))
          refine ⟨by omega, _, gridD_at (k := a) (by omega) ha', ?_⟩
          ((conv=>whnf);repeat(refine And.intro rfl ?_;(conv=>whnf)))
          refine ⟨by omega, _, hrd, ?_⟩
          ((conv=>whnf);repeat(refine And.intro rfl ?_;(conv=>whnf)))
          (refine ⟨by omega, (by first | omega | (simp; done) | (simp; omega) | (simp only [ll]; omega)), ?_⟩; ((conv=>whnf);repeat(refine And.intro rfl ?_;(conv=>whnf))))
          refine ⟨_, rbl_atN x.toNat (by omega) (by omega), ?_⟩
          ((conv=>whnf);repeat(refine And.intro rfl ?_;(conv=>whnf)))
          rw [rbl_mark (v := x.toNat) (by omega)]
          (refine .inl ⟨by (unfold InR; rw [IntKind.wrap_i64]; omega), ?_⟩; ((conv=>whnf);repeat(refine And.intro rfl ?_;(conv=>whnf))))
          have := hmt rfl
          exact ⟨(true, i + 1, mark s x.toNat), ⟨by omega, hC', hmo', (fun _ => by omega), (fun h => by cases h)⟩, by dsimp only; omega, leB_envH (by (repeat' (first | exact trivial | refine And.intro rfl ?_))) rfl⟩
      · have hi' : i = (g.getD a []).length := by have : ¬ i < (g.getD a []).length := by ((try simp only [oo, reduceCtorEq] at *) <;> omega)
                                                  omega
        have hrow : m = false → s a = true → ∀ x ∈ g.getD a [], s x.toNat = true := fun h _ x hx => by
          obtain ⟨j, hj, rfl⟩ := getD_mem hx
          exact (hmf h).2 j (by omega)
        (refine .inl ⟨by (unfold InR; rw [IntKind.wrap_i64]; omega), ?_⟩; ((conv=>whnf);repeat(refine And.intro rfl ?_;(conv=>whnf))))
        refine ⟨(m, a + 1, s), ⟨by omega, hC, hmo, hmt, fun h b hb hsb x hx => ?_⟩, by dsimp only; omega, leB_envH (by (repeat' (first | exact trivial | refine And.intro rfl ?_))) rfl⟩
        by_cases e : b = a
        · subst e; exact hrow h hsb x hx
        · exact (hmf h).1 b (by omega) hsb x hx
  · have ha' : a = g.length := by have : ¬ a < g.length := by ((try simp only [oo, reduceCtorEq] at *) <;> omega)
                                  omega
    subst ha'
    refine ⟨(m, s), ⟨hC, hmf⟩, ?_, leB_envH (by (repeat' (first | exact trivial | refine And.intro rfl ?_))) rfl⟩
    cases m
    · simp only [if_true, Bool.false_eq_true, if_false]
      omega
    · have := hmt rfl
      simp only [if_true]
      omega
def c32_2 : PC := .seq (.seq (.ops [⟨(some 32), .faddr 1 (.tmp 3), none, 0⟩,
    ⟨(some 33), .load1 (.tmp 32), none, 1⟩,
    ⟨(some 34), .move (.tmp 7), none, 0⟩,
    ⟨(some 35), .move (.tmp 10), none, 0⟩,
    ⟨(some 36), .bin .sub (.tmp 35) (.const (.int .i64 1)), none, 8⟩,
    ⟨(some 37), .iaddr 1 (.tmp 34) (.tmp 36), none, 28⟩,
    ⟨(some 38), .load1 (.tmp 37), none, 60⟩,
    ⟨(some 39), .iaddr 1 (.tmp 33) (.tmp 38), none, 127⟩,
    ⟨(some 40), .load1 (.tmp 39), none, 255⟩,
    ⟨(some 41), .move (.tmp 11), none, 0⟩,
    ⟨(some 42), .iaddr 2 (.tmp 40) (.tmp 41), none, 1023⟩,
    ⟨(some 43), .faddr 1 (.tmp 42), none, 2047⟩,
    ⟨(some 44), .load1 (.tmp 43), none, 4095⟩,
    ⟨(some 45), .move (.tmp 7), none, 0⟩,
    ⟨(some 46), .move (.tmp 10), none, 0⟩,
    ⟨(some 47), .iaddr 1 (.tmp 45) (.tmp 46), none, 24576⟩,
    ⟨(some 48), .load1 (.tmp 47), none, 57344⟩,
    ⟨(some 49), .bin .neq (.tmp 44) (.tmp 48), none, 131071⟩] true) (.cond (.tmp 49) (.skip) (.exit 2))) (.block 3 (.ops [⟨(some 50), .move (.tmp 11), none, 0⟩,
    ⟨(some 51), .bin .add (.tmp 50) (.const (.int .i64 1)), none, 0⟩,
    ⟨(some 11), .move (.tmp 51), none, 0⟩] false))
def c32_1 : PC := .seq (.seq (.ops [⟨(some 26), .move (.tmp 10), none, 0⟩,
    ⟨(some 27), .move (.tmp 7), none, 0⟩,
    ⟨(some 28), .len (.tmp 27), none, 0⟩,
    ⟨(some 29), .bin .lss (.tmp 26) (.tmp 28), none, 0⟩] false) (.cond (.tmp 29) (.skip) (.exit 0))) (.seq (.block 1 (.seq (.ops [⟨(some 11), .move (.const (.int .i64 0)), none, 0⟩] false) (.seq (.block 2 (.loop c32_2)) (.ops [⟨(some 52), .move (.tmp 9), none, 0⟩,
    ⟨(some 53), .faddr 1 (.tmp 3), none, 0⟩,
    ⟨(some 54), .load1 (.tmp 53), none, 2⟩,
    ⟨(some 55), .move (.tmp 7), none, 0⟩,
    ⟨(some 56), .move (.tmp 10), none, 0⟩,
    ⟨(some 57), .bin .sub (.tmp 56) (.const (.int .i64 1)), none, 16⟩,
    ⟨(some 58), .iaddr 1 (.tmp 55) (.tmp 57), none, 56⟩,
    ⟨(some 59), .load1 (.tmp 58), none, 120⟩,
    ⟨(some 60), .iaddr 1 (.tmp 54) (.tmp 59), none, 254⟩,
    ⟨(some 61), .load1 (.tmp 60), none, 510⟩,
    ⟨(some 62), .move (.tmp 11), none, 0⟩,
    ⟨(some 63), .iaddr 2 (.tmp 61) (.tmp 62), none, 2046⟩,
    ⟨(some 64), .faddr 0 (.tmp 63), none, 4094⟩,
    ⟨(some 65), .load1 (.tmp 64), none, 8190⟩,
    ⟨(some 66), .bslice 1 1 [(.tmp 65)], none, 16382⟩,
    ⟨(some 67), .append 1 8 (.tmp 52) (.tmp 66), none, 32767⟩,
    ⟨(some 9), .move (.tmp 67), none, 65535⟩] true)))) (.ops [⟨(some 30), .move (.tmp 10), none, 0⟩,
    ⟨(some 31), .bin .add (.tmp 30) (.const (.int .i64 1)), none, 0⟩,
    ⟨(some 10), .move (.tmp 31), none, 0⟩] false))
def c32 : PC := .seq (.ops [⟨(some 5), .move (.const (.slice none 0 0)), none, 0⟩] false) (.seq (.seq (.ops [⟨(some 12), .move (.tmp 0), none, 0⟩,
    ⟨(some 13), .bin .lss (.tmp 12) (.const (.int .i64 0)), none, 0⟩] false) (.cond (.tmp 13) (.seq (.ops [⟨(some 5), .move (.const (.slice none 0 0)), none, 0⟩] false) (.ret)) (.skip))) (.seq (.ops [⟨(some 14), .load1 (.tmp 1), none, 0⟩,
    ⟨(some 15), .mslice 1 1 [(.bool false)] (.tmp 14) (.tmp 14), none, 0⟩,
    ⟨(some 6), .move (.tmp 15), none, 0⟩] false) (.seq (.ops [⟨(some 16), .move (.tmp 6), none, 0⟩,
    ⟨(some 17), .move (.tmp 0), none, 0⟩,
    ⟨(some 18), .iaddr 1 (.tmp 16) (.tmp 17), none, 0⟩,
    ⟨none, .store 1 (.tmp 18) (.const (.bool true)), none, 0⟩] false) (.seq (.ops [⟨(some 20), .load1 (.tmp 2), none, 0⟩,
    ⟨(some 21), .bslice 1 1 [(.const (.int .i64 0))], none, 0⟩,
    ⟨(some 22), .move (.tmp 6), none, 0⟩,
    ⟨(some 23), .call 33 [(.tmp 20), (.tmp 21), (.tmp 22)], none, 0⟩,
    ⟨(some 19), .move (.tmp 23), none, 0⟩,
    ⟨(some 24), .ext 0 (.tmp 19), none, 0⟩,
    ⟨(some 25), .ext 1 (.tmp 19), none, 0⟩,
    ⟨(some 7), .move (.tmp 24), none, 0⟩,
    ⟨(some 8), .move (.tmp 25), none, 0⟩] false) (.seq (.ops [⟨(some 9), .move (.const (.slice none 0 0)), none, 0⟩] false) (.seq (.seq (.ops [⟨(some 10), .move (.const (.int .i64 1)), none, 0⟩] false) (.block 0 (.loop c32_1))) (.seq (.ops [⟨(some 68), .move (.tmp 9), none, 0⟩,
    ⟨(some 5), .move (.tmp 68), none, 0⟩] false) (.ret))))))))
set_option maxRecDepth 100000 in
theorem c32_ok : FunOK Try.prog 32 69 [.tmp 5] c32 := ⟨⟨Try.f32, Try.func32, rfl, by kernel_rfl, rfl, by kernel_rfl⟩⟩
set_option maxRecDepth 100000 in
theorem ref_lead (M : List (List Int)) (N : List (List EdgeD)) (sn : Nat) (hS : SpN M N sn) (to : Int) (hto : to < (M.length : Int)) : PCall Try.prog 32 [.sc (.int .i64 to), .ipt [.sc (.int .i64 M.length)], .ipt [dgrid (gN N)], .ipt (scells M N)] (dints (leadL N to)) := by
  have hf := hS.few
  have hp := hS.pos
  have hl := hS.len
  obtain ⟨g1, g2⟩ := hS.graph
  refine pcall_intro c32_ok (by simp) (by simp [PureL, Pure, pure_dgrid, scells, pure_erows]) ?_ (pure_dints _)
  unfold scells
  (apply rd_sound; focus (repeat' constructor))
  ((conv=>whnf);repeat(refine And.intro rfl ?_;(conv=>whnf)))
  (refine ifK_split (fun h1 => ?_) (fun h1 => ?_) <;> (rw [h1]; ((conv=>whnf);repeat(refine And.intro rfl ?_;(conv=>whnf)))))
  · have h1 : to < 0 := by ((try simp only [oo, reduceCtorEq] at *) <;> omega)
    unfold leadL
    rw [if_pos h1]
    exact .none _
  have h1 : ¬ to < 0 := by ((try simp only [oo, reduceCtorEq] at *) <;> omega)
  refine ⟨by omega, by omega, by omega, ?_⟩
  rw [Int.toNat_natCast, show List.map D.sc [Value.bool false] = [D.sc (.bool false)] from rfl, rbl_rep]
  ((conv=>whnf);repeat(refine And.intro rfl ?_;(conv=>whnf)))
  (refine ⟨by omega, (by first | omega | (simp; done) | (simp; omega) | (simp only [ll]; omega)), ?_⟩; ((conv=>whnf);repeat(refine And.intro rfl ?_;(conv=>whnf))))
  refine ⟨_, rbl_atN to.toNat (by omega) (by omega), ?_⟩
  ((conv=>whnf);repeat(refine And.intro rfl ?_;(conv=>whnf)))
  rw [rbl_one (z := to.toNat) (by omega)]
  have hto' : ∀ i, (gN N).length ≤ i → (fun i : Nat => decide ((i : Int) = to)) i = false := fun i hi => decide_eq_false (by rw [gN_len] at hi; omega)
  have h0 : inB [0] (gN N).length = true := inB_of fun x hx => by rw [List.mem_singleton] at hx; subst hx; rw [gN_len]; omega
  have hW := ref_Way (gN N) g1 g2 [0] h0 (by simp) _ hto'
  have hin := (chkG_zero.1 g1).2
  obtain ⟨w1, w2, w3⟩ := way_ok hin h0 (to := fun i : Nat => decide ((i : Int) = to))
  have eL : leadL N to = alongL N (wayL (gN N) [0] fun i => decide ((i : Int) = to)) := by unfold leadL; rw [if_neg h1]
  rw [eL]
  rw [show (gN N).length = M.length by rw [gN_len, hl]] at hW w2 w3
  generalize (wayL (gN N) [0] fun i => decide ((i : Int) = to)) = way at hW w1 w2 w3
  refine .inr (.inr (.inr (.inr (.inr ⟨rfl, _, _, .cons _ _ _ _ (.refl _) (.cons _ _ _ _ (.own _ _ _ _ _ _ _ _ rfl (deepLL_refl _)) (.cons _ _ _ _ (deep_vec rfl) .nil)), hW, ?_⟩))))
  ((conv=>whnf);repeat(refine And.intro rfl ?_;(conv=>whnf)))
  refine pwp_ghostB (leB_nil 9 1 (by simp) rfl) ?_
  have hn := fun k (hk : k < way.length) => w2 _ (mem_getD hk)
  refine pwp_for [3, 7] (fun ((k, c, l) : Nat × Nat × List Int) => [(9, .own 2 c 0 c), (10, .sc (.int .i64 ((k : Int) + 1)))]) (fun (k, c, l) => [(2, .vec true c 1 (i64s l))]) (fun (k, c, l) => k ≤ way.length - 1 ∧ c = l.length ∧ c = k ∧ l = alongTo N way k) (fun (k, c, l) => way.length - k) (0, 0, []) ?_
  ((conv=>whnf);repeat(refine And.intro rfl ?_;(conv=>whnf)))
  refine ⟨⟨by omega, rfl, by omega, rfl⟩, by (repeat' (first | exact trivial | refine And.intro rfl ?_)), rfl, ?_⟩
  rintro ⟨k, c, l⟩ ⟨hk, hc, hck, hl'⟩
  ((conv=>whnf);repeat(refine And.intro rfl ?_;(conv=>whnf)))
  (apply rd_sound; focus (repeat' constructor))
  ((conv=>whnf);repeat(refine And.intro rfl ?_;(conv=>whnf)))
  rw [List.length_map]
  (refine ifK_split (fun q1 => ?_) (fun q1 => ?_) <;> (rw [q1]; ((conv=>whnf);repeat(refine And.intro rfl ?_;(conv=>whnf)))))
  · have hk' : k + 1 < way.length := by ((try simp only [oo, reduceCtorEq] at *) <;> omega)
    have hn1 := hn k (by omega)
    have hn2 := hn (k + 1) hk'
    have hmem := w1 k hk'
    have eA : alongTo N way (k + 1) = alongTo N way k ++ [stepTo (N.getD (way.getD k 0).toNat []) (way.getD (k + 1) 0)] := rfl
    have hA1 := intsD_at (l := way) (z := k) (k := k) rfl (by omega)
    have hA2 := intsD_at (l := way) (z := k + 1) (k := k + 1) rfl hk'
    generalize way.getD k 0 = a at hn1 hmem eA hA1
    generalize way.getD (k + 1) 0 = b at hn2 hmem eA hA2
    rw [gN_at] at hmem
    have lx := hS.rowAt a.toNat
    have hrow := erowD_at (L := N) (z := a.toNat) (k := a.toNat) rfl (by omega)
    generalize N.getD a.toNat [] = es at hmem eA lx hrow
    have hsome : ∀ j, (∀ q, q < j → (es.getD q (0, 0)).2 ≠ b) → j < es.length := fun j hno => by
      obtain ⟨x, hx, hxb⟩ := List.mem_map.1 hmem
      obtain ⟨q, hq, rfl⟩ := List.mem_iff_getElem.1 hx
      rcases Nat.lt_or_ge j es.length with w | w
      · exact w
      · exact absurd (show (es.getD q (0, 0)).2 = b by rw [List.getD_eq_getElem?_getD, List.getElem?_eq_getElem hq]; exact hxb) (hno q (by omega))
    have z1 : ((k : Int) + 1 - 1).toNat = k := by omega
    have z2 : ((k : Int) + 1).toNat = k + 1 := by omega
    refine pwp_for [3, 7, 9, 10] (fun j : Nat => [(11, .sc (.int .i64 j))]) (fun _ => []) (fun j => j ≤ es.length ∧ ∀ q, q < j → (es.getD q (0, 0)).2 ≠ b) (fun j => es.length - j) 0 ?_
    ((conv=>whnf);repeat(refine And.intro rfl ?_;(conv=>whnf)))
    refine ⟨⟨by omega, fun q hq => by omega⟩, by (repeat' (first | exact trivial | refine And.intro rfl ?_)), rfl, ?_⟩
    rintro j ⟨hj, hno⟩
    have hj' := hsome j hno
    have hhit := fun h => stepTo_hit (l := es) (t := b) hj' h hno
    have hno' : (es.getD j (0, 0)).2 ≠ b → ∀ q, q < j + 1 → (es.getD q (0, 0)).2 ≠ b := fun h q hq => by
      by_cases e : q = j
      · subst e; exact h
      · exact hno q (by omega)
    have hej := prows_at (l := es) (z := (j : Int).toNat) (k := j) (by omega) hj'
    generalize es.getD j (0, 0) = e at hhit hno' hej
    ((conv=>whnf);repeat(refine And.intro rfl ?_;(conv=>whnf)))
    (apply rd_sound; focus (repeat' constructor))
    ((conv=>whnf);repeat(refine And.intro rfl ?_;(conv=>whnf)))
    (refine .inl ⟨by (unfold InR; rw [IntKind.wrap_i64]; omega), ?_⟩; ((conv=>whnf);repeat(refine And.intro rfl ?_;(conv=>whnf))))
    refine ⟨by omega, _, (by rw [z1]; exact hA1), ?_⟩
    ((conv=>whnf);repeat(refine And.intro rfl ?_;(conv=>whnf)))
    refine ⟨by omega, _, hrow, ?_⟩
    ((conv=>whnf);repeat(refine And.intro rfl ?_;(conv=>whnf)))
    refine ⟨by omega, _, hej, ?_⟩
    ((conv=>whnf);repeat(refine And.intro rfl ?_;(conv=>whnf)))
    refine ⟨by omega, _, (by rw [z2]; exact hA2), ?_⟩
    ((conv=>whnf);repeat(refine And.intro rfl ?_;(conv=>whnf)))
    (refine ifK_split (fun h3 => ?_) (fun h3 => ?_) <;> (rw [h3]; ((conv=>whnf);repeat(refine And.intro rfl ?_;(conv=>whnf)))))
    · have h3 : e.2 ≠ b := by ((try simp only [oo, reduceCtorEq] at *) <;> omega)
      (refine .inl ⟨by (unfold InR; rw [IntKind.wrap_i64]; omega), ?_⟩; ((conv=>whnf);repeat(refine And.intro rfl ?_;(conv=>whnf))))
      exact ⟨j + 1, ⟨by omega, hno' h3⟩, by dsimp only; omega, leB_envH (by (repeat' (first | exact trivial | refine And.intro rfl ?_))) rfl⟩
    · have h3 : e.2 = b := by ((try simp only [oo, reduceCtorEq] at *) <;> omega)
      (refine .inl ⟨by (unfold InR; rw [IntKind.wrap_i64]; omega), ?_⟩; ((conv=>whnf);repeat(refine And.intro rfl ?_;(conv=>whnf))))
      refine ⟨by omega, _, (by rw [z1]; exact hA1), ?_⟩
      ((conv=>whnf);repeat(refine And.intro rfl ?_;(conv=>whnf)))
      refine ⟨by omega, _, hrow, ?_⟩
      ((conv=>whnf);repeat(refine And.intro rfl ?_;(conv=>whnf)))
      refine ⟨by omega, _, hej, ?_⟩
      ((conv=>whnf);repeat(refine And.intro rfl ?_;(conv=>whnf)))
      rw [hhit h3] at eA
      refine ⟨(by unfold sliceAppend; simp only [ll]; omega), ?_⟩
      ((conv=>whnf);repeat(refine And.intro rfl ?_;(conv=>whnf)))
      (refine .inl ⟨by (unfold InR; rw [IntKind.wrap_i64]; omega), ?_⟩; ((conv=>whnf);repeat(refine And.intro rfl ?_;(conv=>whnf))))
      refine ⟨(k + 1, c + 1, l ++ [e.1]), ⟨by omega, by simp [hc], by omega, by rw [eA, hl']⟩, by dsimp only; omega, ?_⟩
      refine leB_close 3 (Nat.le_refl 3) rfl ?_ ?_ <;> (repeat' (first | exact trivial | exact rfl | exact DeepM.refl _ | exact DeepML.refl _ | exact DeepMLL.refl _ | refine And.intro ?_ ?_ | (simp [Under, UnderL, UnderLL, -List.map_take, -List.map_drop]; done)))
      exact deepMLL_eq (i64s_snoc hc)
  · have hk' : k = way.length - 1 := by have : ¬ k + 1 < way.length := by ((try simp only [oo, reduceCtorEq] at *) <;> omega)
                                        omega
    subst hk'
    unfold alongL
    rw [← hl']
    exact .own _ _ _ _ _ _ _ _ rfl (by rw [List.drop_zero, List.take_of_length_le (by simp; omega)]; exact deepLL_refl _)
end Go.Proofs.Ytjnfahdolkgnoaa
