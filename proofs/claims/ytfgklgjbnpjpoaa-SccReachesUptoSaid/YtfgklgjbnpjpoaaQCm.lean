/-
  What comes from some nodes: the reference, over deep values. No statement is proved here.
-/
import Derived.Test.YtfgklgjbnpjpoaaQSc2
import Derived.Test.YtfgklgjbnpjpoaaQDl
namespace Go.Proofs.Ytfgklgjbnpjpoaa
open Go.RowKit
set_option linter.unusedSimpArgs false
set_option linter.unusedVariables false
/-- What is known of the marks while one looks for what comes. -/
structure ComI (g : List (List Int)) (from_ : List Int) (s : Nat → Bool) : Prop where
  start : ∀ x ∈ from_, s x.toNat = true
  seen : ∀ v, s v = true → Rch g from_ v
theorem ComI.done {g : List (List Int)} {from_ : List Int} {s : Nat → Bool} (h : ComI g from_ s) (hc : ∀ a, a < g.length → s a = true → ∀ x ∈ g.getD a [], s x.toNat = true) (v : Nat) : s v = rchB g from_ v :=
  rchB_eq ⟨h.seen v, rch_closed h.start (fun v hv x hx => by
    by_cases q : v < g.length
    · exact hc v q hv x hx
    · rw [List.getD_eq_getElem?_getD, List.getElem?_eq_none (by omega)] at hx; simp at hx) v⟩
theorem mark_kept {s : Nat → Bool} {v : Nat} (h : s v = true) : mark s v = s := by
  funext i
  unfold mark
  split
  · rename_i e; subst e; exact h.symm
  · rfl
def c26_1 : PC := .seq (.seq (.ops [⟨(some 13), .move (.tmp 6), none, 0⟩,
    ⟨(some 14), .move (.tmp 1), none, 0⟩,
    ⟨(some 15), .len (.tmp 14), none, 0⟩,
    ⟨(some 16), .bin .lss (.tmp 13) (.tmp 15), none, 0⟩] false) (.cond (.tmp 16) (.skip) (.exit 0))) (.seq (.block 1 (.ops [⟨(some 19), .move (.tmp 5), none, 0⟩,
    ⟨(some 20), .move (.tmp 1), none, 0⟩,
    ⟨(some 21), .move (.tmp 6), none, 0⟩,
    ⟨(some 22), .iaddr 1 (.tmp 20) (.tmp 21), none, 0⟩,
    ⟨(some 23), .load1 (.tmp 22), none, 0⟩,
    ⟨(some 24), .iaddr 1 (.tmp 19) (.tmp 23), none, 0⟩,
    ⟨none, .store 1 (.tmp 24) (.const (.bool true)), none, 0⟩] false)) (.ops [⟨(some 17), .move (.tmp 6), none, 0⟩,
    ⟨(some 18), .bin .add (.tmp 17) (.const (.int .i64 1)), none, 0⟩,
    ⟨(some 6), .move (.tmp 18), none, 0⟩] false))
def c26_4 : PC := .seq (.seq (.ops [⟨(some 32), .move (.tmp 5), none, 0⟩,
    ⟨(some 33), .move (.tmp 8), none, 0⟩,
    ⟨(some 34), .iaddr 1 (.tmp 32) (.tmp 33), none, 0⟩,
    ⟨(some 35), .load1 (.tmp 34), none, 0⟩,
    ⟨(some 36), .move (.tmp 35), none, 0⟩,
    ⟨(some 37), .move (.tmp 9), (some (36, true)), 0⟩,
    ⟨(some 38), .move (.tmp 0), (some (36, true)), 0⟩,
    ⟨(some 39), .move (.tmp 8), (some (36, true)), 0⟩,
    ⟨(some 40), .iaddr 1 (.tmp 38) (.tmp 39), (some (36, true)), 0⟩,
    ⟨(some 41), .load1 (.tmp 40), (some (36, true)), 0⟩,
    ⟨(some 42), .len (.tmp 41), (some (36, true)), 0⟩,
    ⟨(some 43), .bin .lss (.tmp 37) (.tmp 42), (some (36, true)), 0⟩,
    ⟨(some 44), .pick (.tmp 36) (.tmp 43) (.const (.bool false)), none, 0⟩] false) (.cond (.tmp 44) (.skip) (.exit 6))) (.seq (.block 7 (.seq (.ops [⟨(some 47), .move (.tmp 7), none, 0⟩,
    ⟨(some 48), .move (.tmp 47), none, 0⟩,
    ⟨(some 49), .move (.tmp 5), (some (48, false)), 0⟩,
    ⟨(some 50), .move (.tmp 0), (some (48, false)), 0⟩,
    ⟨(some 51), .move (.tmp 8), (some (48, false)), 0⟩,
    ⟨(some 52), .iaddr 1 (.tmp 50) (.tmp 51), (some (48, false)), 0⟩,
    ⟨(some 53), .load1 (.tmp 52), (some (48, false)), 0⟩,
    ⟨(some 54), .move (.tmp 9), (some (48, false)), 0⟩,
    ⟨(some 55), .iaddr 1 (.tmp 53) (.tmp 54), (some (48, false)), 0⟩,
    ⟨(some 56), .load1 (.tmp 55), (some (48, false)), 0⟩,
    ⟨(some 57), .iaddr 1 (.tmp 49) (.tmp 56), (some (48, false)), 0⟩,
    ⟨(some 58), .load1 (.tmp 57), (some (48, false)), 0⟩,
    ⟨(some 59), .un .not (.tmp 58), (some (48, false)), 0⟩,
    ⟨(some 60), .pick (.tmp 48) (.const (.bool true)) (.tmp 59), none, 0⟩,
    ⟨(some 7), .move (.tmp 60), none, 0⟩] false) (.ops [⟨(some 61), .move (.tmp 5), none, 0⟩,
    ⟨(some 62), .move (.tmp 0), none, 0⟩,
    ⟨(some 63), .move (.tmp 8), none, 0⟩,
    ⟨(some 64), .iaddr 1 (.tmp 62) (.tmp 63), none, 0⟩,
    ⟨(some 65), .load1 (.tmp 64), none, 0⟩,
    ⟨(some 66), .move (.tmp 9), none, 0⟩,
    ⟨(some 67), .iaddr 1 (.tmp 65) (.tmp 66), none, 0⟩,
    ⟨(some 68), .load1 (.tmp 67), none, 0⟩,
    ⟨(some 69), .iaddr 1 (.tmp 61) (.tmp 68), none, 0⟩,
    ⟨none, .store 1 (.tmp 69) (.const (.bool true)), none, 0⟩] false))) (.ops [⟨(some 45), .move (.tmp 9), none, 0⟩,
    ⟨(some 46), .bin .add (.tmp 45) (.const (.int .i64 1)), none, 0⟩,
    ⟨(some 9), .move (.tmp 46), none, 0⟩] false))
def c26_3 : PC := .seq (.seq (.ops [⟨(some 26), .move (.tmp 8), none, 0⟩,
    ⟨(some 27), .move (.tmp 0), none, 0⟩,
    ⟨(some 28), .len (.tmp 27), none, 0⟩,
    ⟨(some 29), .bin .lss (.tmp 26) (.tmp 28), none, 0⟩] false) (.cond (.tmp 29) (.skip) (.exit 4))) (.seq (.block 5 (.seq (.ops [⟨(some 9), .move (.const (.int .i64 0)), none, 0⟩] false) (.block 6 (.loop c26_4)))) (.ops [⟨(some 30), .move (.tmp 8), none, 0⟩,
    ⟨(some 31), .bin .add (.tmp 30) (.const (.int .i64 1)), none, 0⟩,
    ⟨(some 8), .move (.tmp 31), none, 0⟩] false))
def c26_2 : PC := .seq (.seq (.ops [⟨(some 25), .move (.tmp 7), none, 0⟩] false) (.cond (.tmp 25) (.skip) (.exit 2))) (.block 3 (.seq (.ops [⟨(some 7), .move (.const (.bool false)), none, 0⟩] false) (.seq (.ops [⟨(some 8), .move (.const (.int .i64 0)), none, 0⟩] false) (.block 4 (.loop c26_3)))))
def c26 : PC := .seq (.ops [⟨(some 4), .move (.const (.slice none 0 0)), none, 0⟩] false) (.seq (.ops [⟨(some 10), .move (.tmp 0), none, 0⟩,
    ⟨(some 11), .len (.tmp 10), none, 0⟩,
    ⟨(some 12), .mslice 1 1 [(.bool false)] (.tmp 11) (.tmp 11), none, 0⟩,
    ⟨(some 5), .move (.tmp 12), none, 0⟩] false) (.seq (.seq (.ops [⟨(some 6), .move (.const (.int .i64 0)), none, 0⟩] false) (.block 0 (.loop c26_1))) (.seq (.seq (.ops [⟨(some 7), .move (.const (.bool true)), none, 0⟩] false) (.block 2 (.loop c26_2))) (.seq (.ops [⟨(some 70), .move (.tmp 5), none, 0⟩,
    ⟨(some 4), .move (.tmp 70), none, 0⟩] false) (.ret)))))
set_option maxRecDepth 100000 in
theorem c26_ok : FunOK Try.prog 26 71 [.tmp 4] c26 := ⟨⟨Try.f26, Try.func26, rfl, by kernel_rfl, rfl, by kernel_rfl⟩⟩
set_option maxRecDepth 100000 in
theorem ref_Comes (g : List (List Int)) (hg : chkG g = 0) (hF : FitsG g) (from_ : List Int) (hf : inB from_ g.length = true) (hfl : from_.length ≤ 100000000) : PCall Try.prog 26 [dgrid g, dints from_] (dbl g.length (rchB g from_)) := by
  obtain ⟨hn, hin⟩ := chkG_zero.1 hg
  refine pcall_intro c26_ok (by simp) (by simp [PureL, Pure, pure_dgrid, pure_dints]) ?_ (pure_dbl _ _)
  (apply rd_sound; focus (repeat' constructor))
  ((conv=>whnf);repeat(refine And.intro rfl ?_;(conv=>whnf)))
  rw [List.length_map]
  refine ⟨by omega, by omega, by omega, ?_⟩
  rw [Int.toNat_natCast, show List.map D.sc [Value.bool false] = [D.sc (.bool false)] from rfl, rbl_rep]
  ((conv=>whnf);repeat(refine And.intro rfl ?_;(conv=>whnf)))
  refine pwp_for [0, 1, 5] (fun ((k, s) : Nat × (Nat → Bool)) => [(6, .sc (.int .i64 k))]) (fun (k, s) => [(0, .vec true 0 1 (rbl g.length s))]) (fun (k, s) => k ≤ from_.length ∧ (∀ j, j < k → s (from_.getD j 0).toNat = true) ∧ ∀ v, s v = true → Rch g from_ v) (fun (k, s) => from_.length - k) (0, fun _ => false) ?_
  ((conv=>whnf);repeat(refine And.intro rfl ?_;(conv=>whnf)))
  refine ⟨⟨by omega, fun j hj => by omega, fun v hv => by cases hv⟩, by (repeat' (first | exact trivial | refine And.intro rfl ?_)), rfl, ?_⟩
  rintro ⟨k, s⟩ ⟨hk, h1, h2⟩
  ((conv=>whnf);repeat(refine And.intro rfl ?_;(conv=>whnf)))
  (apply rd_sound; focus (repeat' constructor))
  ((conv=>whnf);repeat(refine And.intro rfl ?_;(conv=>whnf)))
  rw [List.length_map]
  (refine ifK_split (fun q1 => ?_) (fun q1 => ?_) <;> (rw [q1]; ((conv=>whnf);repeat(refine And.intro rfl ?_;(conv=>whnf)))))
  · have hk' : k < from_.length := by ((try simp only [oo, reduceCtorEq] at *) <;> omega)
    have hx := inB_getD hf hk'
    have hmx := mem_getD hk'
    refine ⟨by omega, _, intsD_at (k := k) (by omega) hk', ?_⟩
    ((conv=>whnf);repeat(refine And.intro rfl ?_;(conv=>whnf)))
    generalize hxx : from_.getD k 0 = x at hx hmx
    (refine ⟨by omega, (by first | omega | (simp; done) | (simp; omega) | (simp only [ll]; omega)), ?_⟩; ((conv=>whnf);repeat(refine And.intro rfl ?_;(conv=>whnf))))
    refine ⟨_, rbl_atN x.toNat (by omega) (by omega), ?_⟩
    ((conv=>whnf);repeat(refine And.intro rfl ?_;(conv=>whnf)))
    (refine .inl ⟨by (unfold InR; rw [IntKind.wrap_i64]; omega), ?_⟩; ((conv=>whnf);repeat(refine And.intro rfl ?_;(conv=>whnf))))
    refine ⟨(k + 1, mark s x.toNat), ⟨by omega, fun j hj => ?_, fun v hv => ?_⟩, by dsimp only; omega, leB_envH (by (repeat' (first | exact trivial | refine And.intro rfl ?_))) (by rw [rbl_mark (v := x.toNat) (by omega)]; rfl)⟩
    · by_cases e : j = k
      · subst e; rw [hxx]; exact mark_self _ _
      · exact mark_of (h1 j (by omega))
    · rcases mark_iff.1 hv with rfl | hv
      · exact .base hmx
      · exact h2 v hv
  have hk' : k = from_.length := by have : ¬ k < from_.length := by ((try simp only [oo, reduceCtorEq] at *) <;> omega)
                                    omega
  subst hk'
  have hC0 : ComI g from_ s := ⟨fun x hx => by obtain ⟨j, hj, rfl⟩ := getD_mem hx; exact h1 j hj, h2⟩
  clear h1 h2 q1 hk
  refine pwp_for [0, 5] (fun ((m, s) : Bool × (Nat → Bool)) => [(7, .sc (.bool m))]) (fun (m, s) => [(0, .vec true 0 1 (rbl g.length s))]) (fun (m, s) => ComI g from_ s ∧ (m = false → ∀ a, a < g.length → s a = true → ∀ x ∈ g.getD a [], s x.toNat = true)) (fun (m, s) => if m = true then 1 + unseen s g.length else 0) (true, s) ?_
  ((conv=>whnf);repeat(refine And.intro rfl ?_;(conv=>whnf)))
  refine ⟨⟨hC0, fun h => by cases h⟩, by (repeat' (first | exact trivial | refine And.intro rfl ?_)), rfl, ?_⟩
  clear hC0
  rintro ⟨m, s0⟩ ⟨hC, hcl⟩
  ((conv=>whnf);repeat(refine And.intro rfl ?_;(conv=>whnf)))
  (apply rd_sound; focus (repeat' constructor))
  ((conv=>whnf);repeat(refine And.intro rfl ?_;(conv=>whnf)))
  cases m
  · ((conv=>whnf);repeat(refine And.intro rfl ?_;(conv=>whnf)))
    have := hC.done (hcl rfl)
    rw [rbl_congr (g' := rchB g from_) fun i _ => this i]
    exact deep_vec rfl
  ((conv=>whnf);repeat(refine And.intro rfl ?_;(conv=>whnf)))
  refine pwp_for [0, 5] (fun ((m, a, s) : Bool × Nat × (Nat → Bool)) => [(7, .sc (.bool m)), (8, .sc (.int .i64 a))]) (fun (m, a, s) => [(0, .vec true 0 1 (rbl g.length s))])
    (fun (m, a, s) => a ≤ g.length ∧ ComI g from_ s ∧ (∀ v, s0 v = true → s v = true) ∧ (m = true → unseen s g.length < unseen s0 g.length) ∧ (m = false → ∀ b, b < a → s b = true → ∀ x ∈ g.getD b [], s x.toNat = true)) (fun (m, a, s) => g.length - a) (false, 0, s0) ?_
  ((conv=>whnf);repeat(refine And.intro rfl ?_;(conv=>whnf)))
  refine ⟨⟨by omega, hC, (fun v h => h), (fun h => by cases h), (fun _ b hb => by omega)⟩, by (repeat' (first | exact trivial | refine And.intro rfl ?_)), rfl, ?_⟩
  clear hC hcl
  rintro ⟨m, a, s⟩ ⟨ha, hC, hmo, hmt, hmf⟩
  ((conv=>whnf);repeat(refine And.intro rfl ?_;(conv=>whnf)))
  (apply rd_sound; focus (repeat' constructor))
  ((conv=>whnf);repeat(refine And.intro rfl ?_;(conv=>whnf)))
  rw [List.length_map]
  (refine ifK_split (fun q1 => ?_) (fun q1 => ?_) <;> (rw [q1]; ((conv=>whnf);repeat(refine And.intro rfl ?_;(conv=>whnf)))))
  · have ha' : a < g.length := by ((try simp only [oo, reduceCtorEq] at *) <;> omega)
    refine pwp_for [0, 5, 8] (fun ((m, i, s) : Bool × Nat × (Nat → Bool)) => [(7, .sc (.bool m)), (9, .sc (.int .i64 i))]) (fun (m, i, s) => [(0, .vec true 0 1 (rbl g.length s))])
      (fun (m, i, s) => i ≤ (g.getD a []).length ∧ ComI g from_ s ∧ (∀ v, s0 v = true → s v = true) ∧ (m = true → unseen s g.length < unseen s0 g.length) ∧ (m = false → (∀ b, b < a → s b = true → ∀ x ∈ g.getD b [], s x.toNat = true) ∧ ∀ j, j < i → s ((g.getD a []).getD j 0).toNat = true)) (fun (m, i, s) => (g.getD a []).length - i) (m, 0, s) ?_
    ((conv=>whnf);repeat(refine And.intro rfl ?_;(conv=>whnf)))
    refine ⟨⟨by omega, hC, hmo, hmt, fun h => ⟨hmf h, fun j hj => by omega⟩⟩, by (repeat' (first | exact trivial | refine And.intro rfl ?_)), rfl, ?_⟩
    clear hC hmo hmt hmf q1
    rintro ⟨m, i, s⟩ ⟨hi, hC, hmo, hmt, hmf⟩
    ((conv=>whnf);repeat(refine And.intro rfl ?_;(conv=>whnf)))
    (apply rd_sound; focus (repeat' constructor))
    ((conv=>whnf);repeat(refine And.intro rfl ?_;(conv=>whnf)))
    (refine ⟨by omega, (by first | omega | (simp; done) | (simp; omega) | (simp only [ll]; omega)), ?_⟩; ((conv=>whnf);repeat(refine And.intro rfl ?_;(conv=>whnf))))
    refine ⟨_, rbl_atN a (by omega) ha', ?_⟩
    ((conv=>whnf);repeat(refine And.intro rfl ?_;(conv=>whnf)))
    cases hsa : s a
    · ((conv=>whnf);repeat(refine And.intro rfl ?_;(conv=>whnf)))
      have hrow : m = false → s a = true → ∀ x ∈ g.getD a [], s x.toNat = true := fun _ h => by rw [hsa] at h; cases h
      (refine .inl ⟨by (unfold InR; rw [IntKind.wrap_i64]; omega), ?_⟩; ((conv=>whnf);repeat(refine And.intro rfl ?_;(conv=>whnf))))
      refine ⟨(m, a + 1, s), ⟨by omega, hC, hmo, hmt, fun h b hb hsb x hx => ?_⟩, by dsimp only; omega, leB_envH (by (repeat' (first | exact trivial | refine And.intro rfl ?_))) rfl⟩
      by_cases e : b = a
      · subst e; exact hrow h hsb x hx
      · exact (hmf h).1 b (by omega) hsb x hx
    · ((conv=>whnf);repeat(refine And.intro rfl ?_;(conv=>whnf)))
      refine ⟨by omega, _, gridD_at (k := a) (by omega) ha', ?_⟩
      ((conv=>whnf);repeat(refine And.intro rfl ?_;(conv=>whnf)))
      rw [List.length_map]
      (refine ifK_split (fun q1 => ?_) (fun q1 => ?_) <;> (rw [q1]; ((conv=>whnf);repeat(refine And.intro rfl ?_;(conv=>whnf)))))
      · have hi' : i < (g.getD a []).length := by ((try simp only [oo, reduceCtorEq] at *) <;> omega)
        have hx := inB_getD (inB_row hin a) hi'
        have hmx := mem_getD hi'
        have hrd := intsD_at (l := g.getD a []) (z := (i : Int).toNat) (k := i) (by omega) hi'
        generalize hxx : (g.getD a []).getD i 0 = x at hx hmx hrd
        have hR : Rch g from_ x.toNat := .step (hC.seen a hsa) hmx
        have hC' : ComI g from_ (mark s x.toNat) := ⟨fun y hy => mark_of (hC.start y hy), fun v hv => by
          rcases mark_iff.1 hv with rfl | hv
          · exact hR
          · exact hC.seen v hv⟩
        have hmo' : ∀ v, s0 v = true → mark s x.toNat v = true := fun v hv => mark_of (hmo v hv)
        have hrl := hF.at a
        have hle : unseen (mark s x.toNat) g.length ≤ unseen s g.length := unseen_mono fun v _ hv => mark_of hv
        cases m
        · ((conv=>whnf);repeat(refine And.intro rfl ?_;(conv=>whnf)))
          refine ⟨by omega, _, gridD_at (k := a) (by omega) ha', ?_⟩
          ((conv=>whnf);repeat(refine And.intro rfl ?_;(conv=>whnf)))
          refine ⟨by omega, _, hrd, ?_⟩
          ((conv=>whnf);repeat(refine And.intro rfl ?_;(conv=>whnf)))
          (refine ⟨by omega, (by first | omega | (simp; done) | (simp; omega) | (simp only [ll]; omega)), ?_⟩; ((conv=>whnf);repeat(refine And.intro rfl ?_;(conv=>whnf))))
          refine ⟨_, rbl_atN x.toNat (by omega) (by omega), ?_⟩
          ((conv=>whnf);repeat(refine And.intro rfl ?_;(conv=>whnf)))
          cases hsx : s x.toNat
          · ((conv=>whnf);repeat(refine And.intro rfl ?_;(conv=>whnf)))
            refine ⟨by omega, _, gridD_at (k := a) (by omega) ha', ?_⟩
            ((conv=>whnf);repeat(refine And.intro rfl ?_;(conv=>whnf)))
            refine ⟨by omega, _, hrd, ?_⟩
            ((conv=>whnf);repeat(refine And.intro rfl ?_;(conv=>whnf)))
            (refine ⟨by omega, (by first | omega | (simp; done) | (simp; omega) | (simp only [ll]; omega)), ?_⟩; ((conv=>whnf);repeat(refine And.intro rfl ?_;(conv=>whnf))))
            refine ⟨_, rbl_atN x.toNat (by omega) (by omega), ?_⟩
            ((conv=>whnf);repeat(refine And.intro rfl ?_;(conv=>whnf)))
            rw [rbl_mark (v := x.toNat) (by omega)]
            (refine .inl ⟨by (unfold InR; rw [IntKind.wrap_i64]; omega), ?_⟩; ((conv=>whnf);repeat(refine And.intro rfl ?_;(conv=>whnf))))
            have hlt := unseen_lt (s := s) (s' := mark s x.toNat) (n := g.length) (i := x.toNat) (by omega) (fun v _ hv => mark_of hv) hsx (mark_self _ _)
            have hle0 := unseen_mono (s := s0) (s' := s) (n := g.length) fun v _ hv => hmo v hv
            exact ⟨(true, i + 1, mark s x.toNat), ⟨by omega, hC', hmo', (fun _ => by omega), (fun h => by cases h)⟩, by dsimp only; omega, leB_envH (by (repeat' (first | exact trivial | refine And.intro rfl ?_))) rfl⟩
          · ((conv=>whnf);repeat(refine And.intro rfl ?_;(conv=>whnf)))
            refine ⟨by omega, _, gridD_at (k := a) (by omega) ha', ?_⟩
            ((conv=>whnf);repeat(refine And.intro rfl ?_;(conv=>whnf)))
            refine ⟨by omega, _, hrd, ?_⟩
            ((conv=>whnf);repeat(refine And.intro rfl ?_;(conv=>whnf)))
            (refine ⟨by omega, (by first | omega | (simp; done) | (simp; omega) | (simp only [ll]; omega)), ?_⟩; ((conv=>whnf);repeat(refine And.intro rfl ?_;(conv=>whnf))))
            refine ⟨_, rbl_atN x.toNat (by omega) (by omega), ?_⟩
            ((conv=>whnf);repeat(refine And.intro rfl ?_;(conv=>whnf)))
            rw [rbl_mark (v := x.toNat) (by omega)]
            (refine .inl ⟨by (unfold InR; rw [IntKind.wrap_i64]; omega), ?_⟩; ((conv=>whnf);repeat(refine And.intro rfl ?_;(conv=>whnf))))
            have hms := mark_kept hsx
            rw [hms]
            obtain ⟨f1, f2⟩ := hmf rfl
            refine ⟨(false, i + 1, s), ⟨by omega, hC, hmo, (fun h => by cases h), (fun _ => ⟨f1, fun j hj => ?_⟩)⟩, by dsimp only; omega, leB_envH (by (repeat' (first | exact trivial | refine And.intro rfl ?_))) rfl⟩
            by_cases e : j = i
            · subst e; rw [hxx]; exact hsx
            · exact f2 j (by omega)
        · ((conv=>whnf);repeat(refine And.intro rfl ?_;(conv=>whnf)))
          refine ⟨by omega, _, gridD_at (k := a) (by omega) ha', ?_⟩
          ((conv=>whnf);repeat(refine And.intro rfl ?_;(conv=>whnf)))
          refine ⟨by omega, _, hrd, ?_⟩
          ((conv=>whnf);repeat(refine And.intro rfl ?_;(conv=>whnf)))
          (refine ⟨by omega, (by first | omega | (simp; done) | (simp; omega) | (simp only [ll]; omega)), ?_⟩; ((conv=>whnf);repeat(refine And.intro rfl ?_;(conv=>whnf))))
          refine ⟨_, rbl_atN x.toNat (by omega) (by omega), ?_⟩
          ((conv=>whnf);repeat(refine And.intro rfl ?_;(conv=>whnf)))
          rw [rbl_mark (v := x.toNat) (by omega)]
          (refine .inl ⟨by (unfold InR; rw [IntKind.wrap_i64]; omega), ?_⟩; ((conv=>whnf);repeat(refine And.intro rfl ?_;(conv=>whnf))))
          have := hmt rfl
          exact ⟨(true, i + 1, mark s x.toNat), ⟨by omega, hC', hmo', (fun _ => by omega), (fun h => by cases h)⟩, by dsimp only; omega, leB_envH (by (repeat' (first | exact trivial | refine And.intro rfl ?_))) rfl⟩
      · have hi' : i = (g.getD a []).length := by have : ¬ i < (g.getD a []).length := by ((try simp only [oo, reduceCtorEq] at *) <;> omega)
                                                  omega
        have hrow : m = false → s a = true → ∀ x ∈ g.getD a [], s x.toNat = true := fun h _ x hx => by
          obtain ⟨j, hj, rfl⟩ := getD_mem hx
          exact (hmf h).2 j (by omega)
        (refine .inl ⟨by (unfold InR; rw [IntKind.wrap_i64]; omega), ?_⟩; ((conv=>whnf);repeat(refine And.intro rfl ?_;(conv=>whnf))))
        refine ⟨(m, a + 1, s), ⟨by omega, hC, hmo, hmt, fun h b hb hsb x hx => ?_⟩, by dsimp only; omega, leB_envH (by (repeat' (first | exact trivial | refine And.intro rfl ?_))) rfl⟩
        by_cases e : b = a
        · subst e; exact hrow h hsb x hx
        · exact (hmf h).1 b (by omega) hsb x hx
  · have ha' : a = g.length := by have : ¬ a < g.length := by ((try simp only [oo, reduceCtorEq] at *) <;> omega)
                                  omega
    subst ha'
    refine ⟨(m, s), ⟨hC, hmf⟩, ?_, leB_envH (by (repeat' (first | exact trivial | refine And.intro rfl ?_))) rfl⟩
    cases m
    · simp only [if_true, Bool.false_eq_true, if_false]
      omega
    · have := hmt rfl
      simp only [if_true]
      omega

end Go.Proofs.Ytfgklgjbnpjpoaa
