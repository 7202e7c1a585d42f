/-
  A shortest way: the reference's walk, over deep values. No statement is proved here.
-/
import Derived.Test.YtjnfahdolkgnoaaQWxA
namespace Go.Proofs.Ytjnfahdolkgnoaa
open Go.RowKit
set_option linter.unusedSimpArgs false
set_option linter.unusedVariables false
/-- While the edges of a node are looked at: none hits yet, or one has hit. -/
def EdgI (g : List (List Int)) (to : Nat → Bool) (o : Nat → Int) (r k i : Nat) (o' : Nat → Int) : Prop :=
  (o' = o ∧ ∀ j, j < i → o ((g.getD k []).getD j 0).toNat ≠ (r : Int) + 1) ∨ (RndJ g to o' r (k + 1) ∧ o' k ≠ 0)
theorem EdgI.out {g : List (List Int)} {to : Nat → Bool} {o o' : Nat → Int} {r k i : Nat} (h : EdgI g to o r k i o') (hJ : RndJ g to o r k) (hi : i = (g.getD k []).length ∨ o' k ≠ 0) : RndJ g to o' r (k + 1) := by
  rcases h with ⟨rfl, h⟩ | ⟨h, _⟩
  · rcases hi with rfl | hi
    · refine hJ.keep (.inr fun x hx => ?_)
      obtain ⟨j, hj, rfl⟩ := getD_mem hx
      exact h j hj
    · exact hJ.keep (.inl hi)
  · exact h
theorem rnd_dis {g : List (List Int)} (hin : ∀ l ∈ g, inB l g.length = true) {to : Nat → Bool} {o : Nat → Int} (h : RndJ g to o g.length 0) {n : Nat} (hn : n < g.length) : o n = dis g to n + 1 := by
  rcases Int.lt_or_le (dis g to n) 0 with q | q
  · rw [dis_none q]
    by_cases e : o n = 0
    · omega
    · obtain ⟨d, h1, h2⟩ := h.rng n e
      by_cases w : d ≤ g.length
      · have := dis_far.1 ((h.old n d w).1 h2); omega
      · exact absurd (by omega) (h.rest n (Nat.zero_le _))
  · have hf := dis_far.2 (show dis g to n = ((dis g to n).toNat : Int) by omega)
    have hb := far_bound hin hn hf
    have := (h.old n _ (by omega)).2 hf
    omega
theorem no_far {g : List (List Int)} {to : Nat → Bool} (hto : ∀ i, g.length ≤ i → to i = false) : ∀ m, g.length ≤ m → ∀ d, ¬ Far g to m d := by
  rintro m hm d ⟨h, _⟩
  cases d with
  | zero => rw [Wlk, hto m hm] at h; cases h
  | succ d =>
    obtain ⟨x, hx, _⟩ := h
    rw [List.getD_eq_getElem?_getD, List.getElem?_eq_none hm] at hx
    cases hx
theorem bestTo_congr {p q : Nat → Bool} {l : List Int} : ∀ k, (∀ j, j < k → p (l.getD j 0).toNat = q (l.getD j 0).toNat) → bestTo p l k = bestTo q l k
  | 0, _ => rfl
  | k + 1, h => by simp only [bestTo]; rw [h k (by omega), bestTo_congr k fun j hj => h j (by omega)]
/-- The reference's numbers are one greater. -/
theorem best_dis {g : List (List Int)} {to : Nat → Bool} {F : Nat → Int} (hF : ∀ n, n < g.length → F n = dis g to n + 1) {l : List Int} (hl : inB l g.length = true) {d : Nat} : bestTo (fun n => decide (F n = (d : Int) + 1)) l l.length = bestTo (fun n => decide (dis g to n = (d : Int))) l l.length :=
  bestTo_congr _ fun j hj => by
    have := inB_getD hl hj
    show decide (F (l.getD j 0).toNat = (d : Int) + 1) = decide (dis g to (l.getD j 0).toNat = (d : Int))
    rw [hF _ (by omega)]
    congr 1
    simp
/-- The first distance at which there is a beginning is that of the nearest. -/
theorem first_best {g : List (List Int)} {from_ : List Int} (hf : inB from_ g.length = true) {to : Nat → Bool} {d : Nat} (h1 : ∀ e, e < d → bestTo (fun n => decide (dis g to n = (e : Int))) from_ from_.length < 0) :
    (0 ≤ bestTo (fun n => decide (dis g to n = (d : Int))) from_ from_.length → wayS g from_ to = bestTo (fun n => decide (dis g to n = (d : Int))) from_ from_.length ∧ dis g to (wayS g from_ to).toNat = d) := by
  intro h2
  have h0 : ∀ k, k < from_.length → 0 ≤ from_.getD k 0 := fun k hk => (inB_getD hf hk).1
  rcases Int.lt_or_le (wayS g from_ to) 0 with q | q
  · have := start_none h0 q (d : Int) (by omega); omega
  · obtain ⟨b1, b2⟩ := start_best h0 q
    have hd0 := (start_ok hf q).2
    unfold wayS at q hd0 ⊢
    rcases Int.lt_or_le (d : Int) (dis g to (startTo (dis g to) from_ from_.length).toNat) with w | w
    · have := b2 d (by omega) w; omega
    · rcases Int.lt_or_le (dis g to (startTo (dis g to) from_ from_.length).toNat) (d : Int) with z | z
      · have := h1 (dis g to (startTo (dis g to) from_ from_.length).toNat).toNat (by omega)
        rw [Int.toNat_of_nonneg hd0, b1] at this
        omega
      · have e : dis g to (startTo (dis g to) from_ from_.length).toNat = (d : Int) := by omega
        rw [e] at b1
        exact ⟨b1.symm, e⟩
theorem none_best {g : List (List Int)} (hin : ∀ l ∈ g, inB l g.length = true) {from_ : List Int} (hf : inB from_ g.length = true) {to : Nat → Bool} (h1 : ∀ e, e < g.length → bestTo (fun n => decide (dis g to n = (e : Int))) from_ from_.length < 0) : wayS g from_ to < 0 := by
  rcases Int.lt_or_le (wayS g from_ to) 0 with q | q
  · exact q
  · obtain ⟨s1, s2⟩ := start_ok hf q
    have h0 : ∀ k, k < from_.length → 0 ≤ from_.getD k 0 := fun k hk => (inB_getD hf hk).1
    obtain ⟨b1, _⟩ := start_best h0 q
    have hl := dis_lt hin (to := to) (n := (wayS g from_ to).toNat) (by omega)
    have := h1 (dis g to (wayS g from_ to).toNat).toNat (by omega)
    rw [Int.toNat_of_nonneg s2] at this
    unfold wayS at this q
    rw [b1] at this
    omega
def c69_1 : PC := .seq (.seq (.ops [⟨(some 8), .move (.tmp 7), none, 0⟩,
    ⟨(some 9), .move (.tmp 0), none, 0⟩,
    ⟨(some 10), .len (.tmp 9), none, 0⟩,
    ⟨(some 11), .bin .lss (.tmp 8) (.tmp 10), none, 0⟩] false) (.cond (.tmp 11) (.skip) (.exit 0))) (.seq (.block 1 (.seq (.ops [⟨(some 14), .load1 (.tmp 2), none, 0⟩,
    ⟨(some 15), .move (.tmp 0), none, 0⟩,
    ⟨(some 16), .move (.tmp 7), none, 0⟩,
    ⟨(some 17), .iaddr 1 (.tmp 15) (.tmp 16), none, 6⟩,
    ⟨(some 18), .load1 (.tmp 17), none, 14⟩,
    ⟨(some 19), .iaddr 1 (.tmp 14) (.tmp 18), none, 31⟩,
    ⟨(some 20), .load1 (.tmp 19), none, 63⟩,
    ⟨(some 21), .move (.tmp 1), none, 0⟩,
    ⟨(some 22), .bin .eql (.tmp 20) (.tmp 21), none, 255⟩,
    ⟨(some 23), .move (.tmp 22), none, 511⟩,
    ⟨(some 24), .move (.tmp 6), (some (23, true)), 1023⟩,
    ⟨(some 25), .bin .lss (.tmp 24) (.const (.int .i64 0)), (some (23, true)), 2047⟩,
    ⟨(some 26), .move (.tmp 25), (some (23, true)), 4095⟩,
    ⟨(some 27), .move (.tmp 0), (some (26, false)), 8191⟩,
    ⟨(some 28), .move (.tmp 7), (some (26, false)), 8191⟩,
    ⟨(some 29), .iaddr 1 (.tmp 27) (.tmp 28), (some (26, false)), 32767⟩,
    ⟨(some 30), .load1 (.tmp 29), (some (26, false)), 65535⟩,
    ⟨(some 31), .move (.tmp 6), (some (26, false)), 8191⟩,
    ⟨(some 32), .bin .lss (.tmp 30) (.tmp 31), (some (26, false)), 262143⟩,
    ⟨(some 33), .pick (.tmp 26) (.const (.bool true)) (.tmp 32), (some (23, true)), 524287⟩,
    ⟨(some 34), .pick (.tmp 23) (.tmp 33) (.const (.bool false)), none, 1048575⟩] true) (.cond (.tmp 34) (.ops [⟨(some 35), .move (.tmp 0), none, 0⟩,
    ⟨(some 36), .move (.tmp 7), none, 0⟩,
    ⟨(some 37), .iaddr 1 (.tmp 35) (.tmp 36), none, 0⟩,
    ⟨(some 38), .load1 (.tmp 37), none, 0⟩,
    ⟨(some 6), .move (.tmp 38), none, 0⟩] false) (.skip)))) (.ops [⟨(some 12), .move (.tmp 7), none, 0⟩,
    ⟨(some 13), .bin .add (.tmp 12) (.const (.int .i64 1)), none, 0⟩,
    ⟨(some 7), .move (.tmp 13), none, 0⟩] false))
def c69 : PC := .seq (.ops [⟨(some 5), .move (.const (.int .i64 0)), none, 0⟩] false) (.seq (.ops [⟨(some 6), .move (.const (.int .i64 (-1))), none, 0⟩] false) (.seq (.seq (.ops [⟨(some 7), .move (.const (.int .i64 0)), none, 0⟩] false) (.block 0 (.loop c69_1))) (.seq (.ops [⟨(some 39), .move (.tmp 6), none, 0⟩,
    ⟨(some 5), .move (.tmp 39), none, 0⟩] false) (.ret))))
set_option maxRecDepth 100000 in
theorem c69_ok : FunOK Try.prog 69 40 [.tmp 5] c69 := ⟨⟨Try.f69, Try.func69, rfl, by kernel_rfl, rfl, by kernel_rfl⟩⟩
def c33_1 : PC := .seq (.seq (.ops [⟨(some 21), .move (.tmp 9), none, 0⟩,
    ⟨(some 22), .move (.tmp 0), none, 0⟩,
    ⟨(some 23), .len (.tmp 22), none, 0⟩,
    ⟨(some 24), .bin .lss (.tmp 21) (.tmp 23), none, 0⟩] false) (.cond (.tmp 24) (.skip) (.exit 0))) (.seq (.block 1 (.seq (.ops [⟨(some 27), .move (.tmp 2), none, 0⟩,
    ⟨(some 28), .move (.tmp 9), none, 0⟩,
    ⟨(some 29), .iaddr 1 (.tmp 27) (.tmp 28), none, 0⟩,
    ⟨(some 30), .load1 (.tmp 29), none, 0⟩] false) (.cond (.tmp 30) (.ops [⟨(some 31), .load1 (.tmp 8), none, 0⟩,
    ⟨(some 32), .move (.tmp 9), none, 0⟩,
    ⟨(some 33), .iaddr 1 (.tmp 31) (.tmp 32), none, 0⟩,
    ⟨none, .store 1 (.tmp 33) (.const (.int .i64 1)), none, 0⟩] false) (.skip)))) (.ops [⟨(some 25), .move (.tmp 9), none, 0⟩,
    ⟨(some 26), .bin .add (.tmp 25) (.const (.int .i64 1)), none, 0⟩,
    ⟨(some 9), .move (.tmp 26), none, 0⟩] false))
def c33_4 : PC := .seq (.seq (.ops [⟨(some 46), .move (.tmp 12), none, 0⟩,
    ⟨(some 47), .move (.tmp 0), none, 0⟩,
    ⟨(some 48), .move (.tmp 11), none, 0⟩,
    ⟨(some 49), .iaddr 1 (.tmp 47) (.tmp 48), none, 0⟩,
    ⟨(some 50), .load1 (.tmp 49), none, 0⟩,
    ⟨(some 51), .len (.tmp 50), none, 0⟩,
    ⟨(some 52), .bin .lss (.tmp 46) (.tmp 51), none, 0⟩,
    ⟨(some 53), .move (.tmp 52), none, 0⟩,
    ⟨(some 54), .load1 (.tmp 8), (some (53, true)), 0⟩,
    ⟨(some 55), .move (.tmp 11), (some (53, true)), 0⟩,
    ⟨(some 56), .iaddr 1 (.tmp 54) (.tmp 55), (some (53, true)), 0⟩,
    ⟨(some 57), .load1 (.tmp 56), (some (53, true)), 0⟩,
    ⟨(some 58), .bin .eql (.tmp 57) (.const (.int .i64 0)), (some (53, true)), 0⟩,
    ⟨(some 59), .pick (.tmp 53) (.tmp 58) (.const (.bool false)), none, 0⟩] false) (.cond (.tmp 59) (.skip) (.exit 6))) (.seq (.block 7 (.seq (.ops [⟨(some 62), .load1 (.tmp 8), none, 0⟩,
    ⟨(some 63), .move (.tmp 0), none, 0⟩,
    ⟨(some 64), .move (.tmp 11), none, 0⟩,
    ⟨(some 65), .iaddr 1 (.tmp 63) (.tmp 64), none, 6⟩,
    ⟨(some 66), .load1 (.tmp 65), none, 14⟩,
    ⟨(some 67), .move (.tmp 12), none, 0⟩,
    ⟨(some 68), .iaddr 1 (.tmp 66) (.tmp 67), none, 62⟩,
    ⟨(some 69), .load1 (.tmp 68), none, 126⟩,
    ⟨(some 70), .iaddr 1 (.tmp 62) (.tmp 69), none, 255⟩,
    ⟨(some 71), .load1 (.tmp 70), none, 511⟩,
    ⟨(some 72), .move (.tmp 10), none, 0⟩,
    ⟨(some 73), .bin .eql (.tmp 71) (.tmp 72), none, 2047⟩] true) (.cond (.tmp 73) (.ops [⟨(some 74), .load1 (.tmp 8), none, 0⟩,
    ⟨(some 75), .move (.tmp 11), none, 0⟩,
    ⟨(some 76), .move (.tmp 10), none, 0⟩,
    ⟨(some 77), .bin .add (.tmp 76) (.const (.int .i64 1)), none, 0⟩,
    ⟨(some 78), .iaddr 1 (.tmp 74) (.tmp 75), none, 0⟩,
    ⟨none, .store 1 (.tmp 78) (.tmp 77), none, 0⟩] false) (.skip)))) (.ops [⟨(some 60), .move (.tmp 12), none, 0⟩,
    ⟨(some 61), .bin .add (.tmp 60) (.const (.int .i64 1)), none, 0⟩,
    ⟨(some 12), .move (.tmp 61), none, 0⟩] false))
def c33_3 : PC := .seq (.seq (.ops [⟨(some 40), .move (.tmp 11), none, 0⟩,
    ⟨(some 41), .move (.tmp 0), none, 0⟩,
    ⟨(some 42), .len (.tmp 41), none, 0⟩,
    ⟨(some 43), .bin .lss (.tmp 40) (.tmp 42), none, 0⟩] false) (.cond (.tmp 43) (.skip) (.exit 4))) (.seq (.block 5 (.seq (.ops [⟨(some 12), .move (.const (.int .i64 0)), none, 0⟩] false) (.block 6 (.loop c33_4)))) (.ops [⟨(some 44), .move (.tmp 11), none, 0⟩,
    ⟨(some 45), .bin .add (.tmp 44) (.const (.int .i64 1)), none, 0⟩,
    ⟨(some 11), .move (.tmp 45), none, 0⟩] false))
def c33_2 : PC := .seq (.seq (.ops [⟨(some 34), .move (.tmp 10), none, 0⟩,
    ⟨(some 35), .move (.tmp 0), none, 0⟩,
    ⟨(some 36), .len (.tmp 35), none, 0⟩,
    ⟨(some 37), .bin .leq (.tmp 34) (.tmp 36), none, 0⟩] false) (.cond (.tmp 37) (.skip) (.exit 2))) (.seq (.block 3 (.seq (.ops [⟨(some 11), .move (.const (.int .i64 0)), none, 0⟩] false) (.block 4 (.loop c33_3)))) (.ops [⟨(some 38), .move (.tmp 10), none, 0⟩,
    ⟨(some 39), .bin .add (.tmp 38) (.const (.int .i64 1)), none, 0⟩,
    ⟨(some 10), .move (.tmp 39), none, 0⟩] false))
def c33_6 : PC := .seq (.seq (.ops [⟨(some 96), .move (.tmp 17), none, 0⟩,
    ⟨(some 97), .bin .gtr (.tmp 96) (.const (.int .i64 0)), none, 0⟩] false) (.cond (.tmp 97) (.skip) (.exit 10))) (.seq (.block 11 (.seq (.ops [⟨(some 100), .move (.tmp 13), none, 0⟩,
    ⟨(some 101), .move (.tmp 0), none, 0⟩,
    ⟨(some 102), .move (.tmp 15), none, 0⟩,
    ⟨(some 103), .iaddr 1 (.tmp 101) (.tmp 102), none, 0⟩,
    ⟨(some 104), .load1 (.tmp 103), none, 0⟩,
    ⟨(some 105), .move (.tmp 17), none, 0⟩,
    ⟨(some 106), .callv (.tmp 100) [(.tmp 104), (.tmp 105)], none, 0⟩,
    ⟨(some 15), .move (.tmp 106), none, 0⟩] false) (.ops [⟨(some 107), .move (.tmp 16), none, 0⟩,
    ⟨(some 108), .move (.tmp 15), none, 0⟩,
    ⟨(some 109), .bslice 1 1 [(.tmp 108)], none, 0⟩,
    ⟨(some 110), .append 1 8 (.tmp 107) (.tmp 109), none, 0⟩,
    ⟨(some 16), .move (.tmp 110), none, 0⟩] false))) (.ops [⟨(some 98), .move (.tmp 17), none, 0⟩,
    ⟨(some 99), .bin .sub (.tmp 98) (.const (.int .i64 1)), none, 0⟩,
    ⟨(some 17), .move (.tmp 99), none, 0⟩] false))
def c33_5 : PC := .seq (.seq (.ops [⟨(some 80), .move (.tmp 14), none, 0⟩,
    ⟨(some 81), .move (.tmp 0), none, 0⟩,
    ⟨(some 82), .len (.tmp 81), none, 0⟩,
    ⟨(some 83), .bin .leq (.tmp 80) (.tmp 82), none, 0⟩] false) (.cond (.tmp 83) (.skip) (.exit 8))) (.seq (.block 9 (.seq (.ops [⟨(some 86), .move (.tmp 13), none, 0⟩,
    ⟨(some 87), .move (.tmp 1), none, 0⟩,
    ⟨(some 88), .move (.tmp 14), none, 0⟩,
    ⟨(some 89), .callv (.tmp 86) [(.tmp 87), (.tmp 88)], none, 0⟩,
    ⟨(some 15), .move (.tmp 89), none, 0⟩] false) (.seq (.seq (.ops [⟨(some 90), .move (.tmp 15), none, 0⟩,
    ⟨(some 91), .bin .lss (.tmp 90) (.const (.int .i64 0)), none, 0⟩] false) (.cond (.tmp 91) (.exit 9) (.skip))) (.seq (.ops [⟨(some 92), .move (.tmp 15), none, 0⟩,
    ⟨(some 93), .bslice 1 1 [(.tmp 92)], none, 0⟩,
    ⟨(some 16), .move (.tmp 93), none, 0⟩] false) (.seq (.seq (.ops [⟨(some 94), .move (.tmp 14), none, 0⟩,
    ⟨(some 95), .bin .sub (.tmp 94) (.const (.int .i64 1)), none, 0⟩,
    ⟨(some 17), .move (.tmp 95), none, 0⟩] false) (.block 10 (.loop c33_6))) (.seq (.ops [⟨(some 111), .move (.tmp 16), none, 0⟩,
    ⟨(some 6), .move (.tmp 111), none, 0⟩,
    ⟨(some 7), .move (.const (.bool true)), none, 0⟩] false) (.ret))))))) (.ops [⟨(some 84), .move (.tmp 14), none, 0⟩,
    ⟨(some 85), .bin .add (.tmp 84) (.const (.int .i64 1)), none, 0⟩,
    ⟨(some 14), .move (.tmp 85), none, 0⟩] false))
def c33 : PC := .seq (.ops [⟨(some 6), .move (.const (.slice none 0 0)), none, 0⟩,
    ⟨(some 7), .move (.const (.bool false)), none, 0⟩] false) (.seq (.ops [⟨(some 18), .move (.tmp 0), none, 0⟩,
    ⟨(some 19), .len (.tmp 18), none, 0⟩,
    ⟨(some 20), .mslice 1 8 [(.int .i64 0)] (.tmp 19) (.tmp 19), none, 0⟩,
    ⟨(some 8), .alloc [(.slice none 0 0)], none, 0⟩,
    ⟨none, .store 1 (.tmp 8) (.tmp 20), none, 0⟩] false) (.seq (.seq (.ops [⟨(some 9), .move (.const (.int .i64 0)), none, 0⟩] false) (.block 0 (.loop c33_1))) (.seq (.seq (.ops [⟨(some 10), .move (.const (.int .i64 1)), none, 0⟩] false) (.block 2 (.loop c33_2))) (.seq (.ops [⟨(some 79), .mkfn (.func 69) [] [(.tmp 8)], none, 0⟩,
    ⟨(some 13), .move (.tmp 79), none, 0⟩] false) (.seq (.seq (.ops [⟨(some 14), .move (.const (.int .i64 1)), none, 0⟩] false) (.block 8 (.loop c33_5))) (.seq (.ops [⟨(some 6), .move (.const (.slice none 0 0)), none, 0⟩,
    ⟨(some 7), .move (.const (.bool false)), none, 0⟩] false) (.ret)))))))
set_option maxRecDepth 100000 in
theorem c33_ok : FunOK Try.prog 33 112 [.tmp 6, .tmp 7] c33 := ⟨⟨Try.f33, Try.func33, rfl, by kernel_rfl, rfl, by kernel_rfl⟩⟩
set_option maxRecDepth 100000 in
theorem ref_Way1 (n : Nat) (F : Nat → Int) (l : List Int) (hl : inB l n = true) (hll : l.length ≤ 9223372036854775807) (d : Int) :
    PCall Try.prog 69 [dints l, .sc (.int .i64 d), .ipt [dints (gl n F)]] (.sc (.int .i64 (bestTo (fun i => decide (F i = d)) l l.length))) := by
  refine pcall_intro c69_ok (by simp) (by simp [PureL, Pure, pure_dints]) ?_ (by simp [Pure])
  (apply rd_sound; focus (repeat' constructor))
  ((conv=>whnf);repeat(refine And.intro rfl ?_;(conv=>whnf)))
  refine pwp_for [0, 1, 2] (fun k : Nat => [(6, .sc (.int .i64 (bestTo (fun i => decide (F i = d)) l k))), (7, .sc (.int .i64 k))]) (fun _ => []) (fun k => k ≤ l.length) (fun k => l.length - k) 0 ?_
  ((conv=>whnf);repeat(refine And.intro rfl ?_;(conv=>whnf)))
  refine ⟨by omega, by (repeat' (first | exact trivial | refine And.intro rfl ?_)), rfl, ?_⟩
  rintro k hk
  ((conv=>whnf);repeat(refine And.intro rfl ?_;(conv=>whnf)))
  (apply rd_sound; focus (repeat' constructor))
  ((conv=>whnf);repeat(refine And.intro rfl ?_;(conv=>whnf)))
  rw [List.length_map]
  (refine ifK_split (fun h7 => ?_) (fun h7 => ?_) <;> (rw [h7]; ((conv=>whnf);repeat(refine And.intro rfl ?_;(conv=>whnf)))))
  · have hk' : k < l.length := by ((try simp only [oo, reduceCtorEq] at *) <;> omega)
    have hx := inB_getD hl hk'
    refine ⟨by omega, _, intsD_at (l := l) (k := k) (by omega) hk', ?_⟩
    ((conv=>whnf);repeat(refine And.intro rfl ?_;(conv=>whnf)))
    have eS : bestTo (fun i => decide (F i = d)) l (k + 1) = if decide (F (l.getD k 0).toNat = d) = true ∧ (bestTo (fun i => decide (F i = d)) l k < 0 ∨ l.getD k 0 < bestTo (fun i => decide (F i = d)) l k) then l.getD k 0 else bestTo (fun i => decide (F i = d)) l k := rfl
    simp only [decide_eq_true_eq] at eS
    generalize bestTo (fun i => decide (F i = d)) l k = y at eS
    refine ⟨by omega, _, gl_atN (l.getD k 0).toNat (by omega) (by omega), ?_⟩
    ((conv=>whnf);repeat(refine And.intro rfl ?_;(conv=>whnf)))
    (refine ifK_split (fun c1 => ?_) (fun c1 => ?_) <;> (rw [c1]; ((conv=>whnf);repeat(refine And.intro rfl ?_;(conv=>whnf)))))
    · have c1 : F (l.getD k 0).toNat = d := by ((try simp only [oo, reduceCtorEq] at *) <;> omega)
      (refine ifK_split (fun c2 => ?_) (fun c2 => ?_) <;> (rw [c2]; ((conv=>whnf);repeat(refine And.intro rfl ?_;(conv=>whnf)))))
      · have hc : F (l.getD k 0).toNat = d ∧ (y < 0 ∨ l.getD k 0 < y) := ⟨c1, .inl (by ((try simp only [oo, reduceCtorEq] at *) <;> omega))⟩
        ((conv=>whnf);repeat(refine And.intro rfl ?_;(conv=>whnf)))
        refine ⟨by omega, _, intsD_at (l := l) (k := k) (by omega) hk', ?_⟩
        ((conv=>whnf);repeat(refine And.intro rfl ?_;(conv=>whnf)))
        (refine .inl ⟨by (unfold InR; rw [IntKind.wrap_i64]; omega), ?_⟩; ((conv=>whnf);repeat(refine And.intro rfl ?_;(conv=>whnf))))
        refine ⟨k + 1, by omega, by dsimp only; omega, ?_⟩
        dsimp only
        rw [eS, if_pos hc]
        exact leB_envH (by (repeat' (first | exact trivial | refine And.intro rfl ?_))) rfl
      · have c2 : ¬ y < 0 := by ((try simp only [oo, reduceCtorEq] at *) <;> omega)
        refine ⟨by omega, _, intsD_at (l := l) (k := k) (by omega) hk', ?_⟩
        ((conv=>whnf);repeat(refine And.intro rfl ?_;(conv=>whnf)))
        (refine ifK_split (fun c3 => ?_) (fun c3 => ?_) <;> (rw [c3]; ((conv=>whnf);repeat(refine And.intro rfl ?_;(conv=>whnf)))))
        · have hc : F (l.getD k 0).toNat = d ∧ (y < 0 ∨ l.getD k 0 < y) := ⟨c1, .inr (by ((try simp only [oo, reduceCtorEq] at *) <;> omega))⟩
          ((conv=>whnf);repeat(refine And.intro rfl ?_;(conv=>whnf)))
          refine ⟨by omega, _, intsD_at (l := l) (k := k) (by omega) hk', ?_⟩
          ((conv=>whnf);repeat(refine And.intro rfl ?_;(conv=>whnf)))
          (refine .inl ⟨by (unfold InR; rw [IntKind.wrap_i64]; omega), ?_⟩; ((conv=>whnf);repeat(refine And.intro rfl ?_;(conv=>whnf))))
          refine ⟨k + 1, by omega, by dsimp only; omega, ?_⟩
          dsimp only
          rw [eS, if_pos hc]
          exact leB_envH (by (repeat' (first | exact trivial | refine And.intro rfl ?_))) rfl
        · have hc : ¬ (F (l.getD k 0).toNat = d ∧ (y < 0 ∨ l.getD k 0 < y)) := fun h => by ((try simp only [oo, reduceCtorEq] at *) <;> omega)
          ((conv=>whnf);repeat(refine And.intro rfl ?_;(conv=>whnf)))
          (refine .inl ⟨by (unfold InR; rw [IntKind.wrap_i64]; omega), ?_⟩; ((conv=>whnf);repeat(refine And.intro rfl ?_;(conv=>whnf))))
          refine ⟨k + 1, by omega, by dsimp only; omega, ?_⟩
          dsimp only
          rw [eS, if_neg hc]
          exact leB_envH (by (repeat' (first | exact trivial | refine And.intro rfl ?_))) rfl
    · have hc : ¬ (F (l.getD k 0).toNat = d ∧ (y < 0 ∨ l.getD k 0 < y)) := fun h => by ((try simp only [oo, reduceCtorEq] at *) <;> omega)
      ((conv=>whnf);repeat(refine And.intro rfl ?_;(conv=>whnf)))
      (refine .inl ⟨by (unfold InR; rw [IntKind.wrap_i64]; omega), ?_⟩; ((conv=>whnf);repeat(refine And.intro rfl ?_;(conv=>whnf))))
      refine ⟨k + 1, by omega, by dsimp only; omega, ?_⟩
      dsimp only
      rw [eS, if_neg hc]
      exact leB_envH (by (repeat' (first | exact trivial | refine And.intro rfl ?_))) rfl
  · have hk' : k = l.length := by have : ¬ k < l.length := by ((try simp only [oo, reduceCtorEq] at *) <;> omega)
                                  omega
    subst hk'
    exact .refl _
set_option maxRecDepth 100000 in
theorem ref_Way (g : List (List Int)) (hg : chkG g = 0) (hF : FitsG g) (from_ : List Int) (hf : inB from_ g.length = true) (hfl : from_.length ≤ 9223372036854775807) (to : Nat → Bool) (hto : ∀ i, g.length ≤ i → to i = false) :
    PCall Try.prog 33 [dgrid g, dints from_, dbl g.length to] (.tup [dints (wayL g from_ to), .sc (.bool (decide (0 ≤ wayS g from_ to)))]) := by
  obtain ⟨hn, hin⟩ := chkG_zero.1 hg
  refine pcall_intro c33_ok (by simp) (by simp [PureL, Pure, pure_dgrid, pure_dints, pure_dbl]) ?_ (by simp [Pure, PureL, pure_dints])
  (apply rd_sound; focus (repeat' constructor))
  ((conv=>whnf);repeat(refine And.intro rfl ?_;(conv=>whnf)))
  rw [List.length_map]
  refine ⟨by omega, by omega, by omega, ?_⟩
  rw [Int.toNat_natCast, show List.map D.sc [Value.int .i64 0] = [D.sc (.int .i64 0)] from rfl, gl_rep]
  ((conv=>whnf);repeat(refine And.intro rfl ?_;(conv=>whnf)))
  refine pwp_for [0, 1, 2, 8] (fun k : Nat => [(9, .sc (.int .i64 k))]) (fun k => [(0, .vec true 0 1 (i64s (gl g.length (fun i => if i < k ∧ to i = true then 1 else 0))))]) (fun k => k ≤ g.length) (fun k => g.length - k) 0 ?_
  ((conv=>whnf);repeat(refine And.intro rfl ?_;(conv=>whnf)))
  refine ⟨by omega, by (repeat' (first | exact trivial | refine And.intro rfl ?_)), by rw [gl_congr (g' := fun i => if i < 0 ∧ to i = true then 1 else 0) fun i _ => by simp]; rfl, ?_⟩
  rintro k hk
  ((conv=>whnf);repeat(refine And.intro rfl ?_;(conv=>whnf)))
  (apply rd_sound; focus (repeat' constructor))
  ((conv=>whnf);repeat(refine And.intro rfl ?_;(conv=>whnf)))
  rw [List.length_map]
  (refine ifK_split (fun h1 => ?_) (fun h1 => ?_) <;> (rw [h1]; ((conv=>whnf);repeat(refine And.intro rfl ?_;(conv=>whnf)))))
  · have hk' : k < g.length := by ((try simp only [oo, reduceCtorEq] at *) <;> omega)
    refine ⟨by omega, _, rbl_atN k (by omega) hk', ?_⟩
    ((conv=>whnf);repeat(refine And.intro rfl ?_;(conv=>whnf)))
    cases ht : to k
    · ((conv=>whnf);repeat(refine And.intro rfl ?_;(conv=>whnf)))
      (refine .inl ⟨by (unfold InR; rw [IntKind.wrap_i64]; omega), ?_⟩; ((conv=>whnf);repeat(refine And.intro rfl ?_;(conv=>whnf))))
      refine ⟨k + 1, by omega, by dsimp only; omega, ?_⟩
      refine leB_envH (by (repeat' (first | exact trivial | refine And.intro rfl ?_))) ?_
      rw [gl_congr (g' := fun i => if i < k + 1 ∧ to i = true then 1 else 0) fun i _ => by
        by_cases e : i = k
        · subst e; simp [ht]
        · have : i < k + 1 ↔ i < k := by omega
          simp [this]]
      rfl
    · ((conv=>whnf);repeat(refine And.intro rfl ?_;(conv=>whnf)))
      (refine ⟨by omega, (by first | omega | (simp; done) | (simp; omega) | (simp only [ll]; omega)), ?_⟩; ((conv=>whnf);repeat(refine And.intro rfl ?_;(conv=>whnf))))
      refine ⟨_, gl_atN k (by omega) hk', ?_⟩
      ((conv=>whnf);repeat(refine And.intro rfl ?_;(conv=>whnf)))
      (refine .inl ⟨by (unfold InR; rw [IntKind.wrap_i64]; omega), ?_⟩; ((conv=>whnf);repeat(refine And.intro rfl ?_;(conv=>whnf))))
      refine ⟨k + 1, by omega, by dsimp only; omega, ?_⟩
      refine leB_envH (by (repeat' (first | exact trivial | refine And.intro rfl ?_))) ?_
      rw [gl_put (k := k) (by omega), gl_congr (g' := fun i => if i < k + 1 ∧ to i = true then 1 else 0) fun i _ => by
        by_cases e : i = k
        · subst e; simp [ht]
        · have : i < k + 1 ↔ i < k := by omega
          rw [setO_ne e]; simp [this]]
      rfl
  · have hk' : k = g.length := by have : ¬ k < g.length := by ((try simp only [oo, reduceCtorEq] at *) <;> omega)
                                  omega
    subst hk'
    refine pwp_for [0, 1, 8] (fun ((o, r) : (Nat → Int) × Nat) => [(10, .sc (.int .i64 ((r : Int) + 1)))]) (fun (o, r) => [(0, .vec true 0 1 (i64s (gl g.length o)))]) (fun (o, r) => r ≤ g.length ∧ RndJ g to o r 0) (fun (o, r) => g.length - r) (fun i => if to i = true then 1 else 0, 0) ?_
    ((conv=>whnf);repeat(refine And.intro rfl ?_;(conv=>whnf)))
    refine ⟨⟨by omega, RndJ.begin fun n => rfl⟩, by (repeat' (first | exact trivial | refine And.intro rfl ?_)), by rw [gl_congr (g' := fun i => if to i = true then 1 else 0) fun i hi => by simp [hi]]; rfl, ?_⟩
    rintro ⟨o, r⟩ ⟨hr, hJ⟩
    ((conv=>whnf);repeat(refine And.intro rfl ?_;(conv=>whnf)))
    (apply rd_sound; focus (repeat' constructor))
    ((conv=>whnf);repeat(refine And.intro rfl ?_;(conv=>whnf)))
    rw [List.length_map]
    (refine ifK_split (fun h2 => ?_) (fun h2 => ?_) <;> (rw [h2]; ((conv=>whnf);repeat(refine And.intro rfl ?_;(conv=>whnf)))))
    · have hr' : r < g.length := by ((try simp only [oo, reduceCtorEq] at *) <;> omega)
      refine pwp_for [0, 1, 8, 10] (fun ((o, k) : (Nat → Int) × Nat) => [(11, .sc (.int .i64 k))]) (fun (o, k) => [(0, .vec true 0 1 (i64s (gl g.length o)))]) (fun (o, k) => k ≤ g.length ∧ RndJ g to o r k) (fun (o, k) => g.length - k) (o, 0) ?_
      ((conv=>whnf);repeat(refine And.intro rfl ?_;(conv=>whnf)))
      refine ⟨⟨by omega, hJ⟩, by (repeat' (first | exact trivial | refine And.intro rfl ?_)), rfl, ?_⟩
      clear hJ
      rintro ⟨o, k⟩ ⟨hk, hJ⟩
      ((conv=>whnf);repeat(refine And.intro rfl ?_;(conv=>whnf)))
      (apply rd_sound; focus (repeat' constructor))
      ((conv=>whnf);repeat(refine And.intro rfl ?_;(conv=>whnf)))
      rw [List.length_map]
      (refine ifK_split (fun h3 => ?_) (fun h3 => ?_) <;> (rw [h3]; ((conv=>whnf);repeat(refine And.intro rfl ?_;(conv=>whnf)))))
      · have hk' : k < g.length := by ((try simp only [oo, reduceCtorEq] at *) <;> omega)
        have hLi := inB_row hin k
        have hLl := hF.at k
        refine pwp_for [0, 1, 8, 10, 11] (fun ((o', i) : (Nat → Int) × Nat) => [(12, .sc (.int .i64 i))]) (fun (o', i) => [(0, .vec true 0 1 (i64s (gl g.length o')))]) (fun (o', i) => i ≤ (g.getD k []).length ∧ EdgI g to o r k i o') (fun (o', i) => (g.getD k []).length - i) (o, 0) ?_
        ((conv=>whnf);repeat(refine And.intro rfl ?_;(conv=>whnf)))
        refine ⟨⟨by omega, .inl ⟨rfl, fun j hj => by omega⟩⟩, by (repeat' (first | exact trivial | refine And.intro rfl ?_)), rfl, ?_⟩
        rintro ⟨o', i⟩ ⟨hi, hE⟩
        ((conv=>whnf);repeat(refine And.intro rfl ?_;(conv=>whnf)))
        (apply rd_sound; focus (repeat' constructor))
        ((conv=>whnf);repeat(refine And.intro rfl ?_;(conv=>whnf)))
        refine ⟨by omega, _, gridD_at (g := g) (k := k) (by omega) hk', ?_⟩
        ((conv=>whnf);repeat(refine And.intro rfl ?_;(conv=>whnf)))
        rw [List.length_map]
        have done : (i = (g.getD k []).length ∨ o' k ≠ 0) → RndJ g to o' r (k + 1) := hE.out hJ
        (refine ifK_split (fun h4 => ?_) (fun h4 => ?_) <;> (rw [h4]; ((conv=>whnf);repeat(refine And.intro rfl ?_;(conv=>whnf)))))
        · have hi' : i < (g.getD k []).length := by ((try simp only [oo, reduceCtorEq] at *) <;> omega)
          have hx := inB_getD hLi hi'
          have hxm := mem_getD hi'
          (refine ⟨by omega, (by first | omega | (simp; done) | (simp; omega) | (simp only [ll]; omega)), ?_⟩; ((conv=>whnf);repeat(refine And.intro rfl ?_;(conv=>whnf))))
          refine ⟨_, gl_atN k (by omega) hk', ?_⟩
          ((conv=>whnf);repeat(refine And.intro rfl ?_;(conv=>whnf)))
          (refine ifK_split (fun h5 => ?_) (fun h5 => ?_) <;> (rw [h5]; ((conv=>whnf);repeat(refine And.intro rfl ?_;(conv=>whnf)))))
          · have h5 : o' k = 0 := by ((try simp only [oo, reduceCtorEq] at *) <;> omega)
            have hE' : o' = o ∧ ∀ j, j < i → o ((g.getD k []).getD j 0).toNat ≠ (r : Int) + 1 := by
              rcases hE with h | h
              · exact h
              · exact absurd h5 h.2
            obtain ⟨rfl, hE'⟩ := hE'
            ((conv=>whnf);repeat(refine And.intro rfl ?_;(conv=>whnf)))
            refine ⟨by omega, _, gridD_at (g := g) (k := k) (by omega) hk', ?_⟩
            ((conv=>whnf);repeat(refine And.intro rfl ?_;(conv=>whnf)))
            refine ⟨by omega, _, intsD_at (l := g.getD k []) (k := i) (by omega) hi', ?_⟩
            ((conv=>whnf);repeat(refine And.intro rfl ?_;(conv=>whnf)))
            generalize hX : (g.getD k []).getD i 0 = x at hx hxm
            (refine ⟨by omega, (by first | omega | (simp; done) | (simp; omega) | (simp only [ll]; omega)), ?_⟩; ((conv=>whnf);repeat(refine And.intro rfl ?_;(conv=>whnf))))
            refine ⟨_, gl_atN x.toNat (by omega) (by omega), ?_⟩
            ((conv=>whnf);repeat(refine And.intro rfl ?_;(conv=>whnf)))
            (refine ifK_split (fun h6 => ?_) (fun h6 => ?_) <;> (rw [h6]; ((conv=>whnf);repeat(refine And.intro rfl ?_;(conv=>whnf)))))
            · have h6 : o' x.toNat = (r : Int) + 1 := by ((try simp only [oo, reduceCtorEq] at *) <;> omega)
              (refine .inl ⟨by (unfold InR; rw [IntKind.wrap_i64]; omega), ?_⟩; ((conv=>whnf);repeat(refine And.intro rfl ?_;(conv=>whnf))))
              (refine ⟨by omega, (by first | omega | (simp; done) | (simp; omega) | (simp only [ll]; omega)), ?_⟩; ((conv=>whnf);repeat(refine And.intro rfl ?_;(conv=>whnf))))
              refine ⟨_, gl_atN k (by omega) hk', ?_⟩
              ((conv=>whnf);repeat(refine And.intro rfl ?_;(conv=>whnf)))
              (refine .inl ⟨by (unfold InR; rw [IntKind.wrap_i64]; omega), ?_⟩; ((conv=>whnf);repeat(refine And.intro rfl ?_;(conv=>whnf))))
              have hh := hJ.hit h5 hxm h6
              refine ⟨(setO o' k ((r : Int) + 2), i + 1), ⟨by omega, .inr ⟨hh, by rw [setO_self]; omega⟩⟩, by dsimp only; omega, ?_⟩
              refine leB_envH (by (repeat' (first | exact trivial | refine And.intro rfl ?_))) ?_
              dsimp only
              rw [gl_put (k := k) (by omega), show (r : Int) + 1 + 1 = (r : Int) + 2 by omega]
              rfl
            · have h6 : o' x.toNat ≠ (r : Int) + 1 := by ((try simp only [oo, reduceCtorEq] at *) <;> omega)
              (refine .inl ⟨by (unfold InR; rw [IntKind.wrap_i64]; omega), ?_⟩; ((conv=>whnf);repeat(refine And.intro rfl ?_;(conv=>whnf))))
              refine ⟨(o', i + 1), ⟨by omega, .inl ⟨rfl, fun j hj => ?_⟩⟩, by dsimp only; omega, leB_envH (by (repeat' (first | exact trivial | refine And.intro rfl ?_))) rfl⟩
              by_cases e : j = i
              · subst e; rw [hX]; exact h6
              · exact hE' j (by omega)
          · have h5 : o' k ≠ 0 := by ((try simp only [oo, reduceCtorEq] at *) <;> omega)
            ((conv=>whnf);repeat(refine And.intro rfl ?_;(conv=>whnf)))
            (refine .inl ⟨by (unfold InR; rw [IntKind.wrap_i64]; omega), ?_⟩; ((conv=>whnf);repeat(refine And.intro rfl ?_;(conv=>whnf))))
            refine ⟨(o', k + 1), ⟨by omega, done (.inr h5)⟩, by dsimp only; omega, leB_envH (by (repeat' (first | exact trivial | refine And.intro rfl ?_))) rfl⟩
        · have hi' : i = (g.getD k []).length := by have : ¬ i < (g.getD k []).length := by ((try simp only [oo, reduceCtorEq] at *) <;> omega)
                                                    omega
          ((conv=>whnf);repeat(refine And.intro rfl ?_;(conv=>whnf)))
          (refine .inl ⟨by (unfold InR; rw [IntKind.wrap_i64]; omega), ?_⟩; ((conv=>whnf);repeat(refine And.intro rfl ?_;(conv=>whnf))))
          refine ⟨(o', k + 1), ⟨by omega, done (.inl hi')⟩, by dsimp only; omega, leB_envH (by (repeat' (first | exact trivial | refine And.intro rfl ?_))) rfl⟩
      · have hk' : k = g.length := by have : ¬ k < g.length := by ((try simp only [oo, reduceCtorEq] at *) <;> omega)
                                      omega
        subst hk'
        (refine .inl ⟨by (unfold InR; rw [IntKind.wrap_i64]; omega), ?_⟩; ((conv=>whnf);repeat(refine And.intro rfl ?_;(conv=>whnf))))
        refine ⟨(o, r + 1), ⟨by omega, hJ.next (no_far hto)⟩, by dsimp only; omega, leB_envH ⟨by show D.sc _ = D.sc _; simp, by (repeat' (first | exact trivial | refine And.intro rfl ?_))⟩ rfl⟩
    · have hr' : r = g.length := by have : ¬ r < g.length := by ((try simp only [oo, reduceCtorEq] at *) <;> omega)
                                    omega
      subst hr'
      have hD := fun n (h : n < g.length) => rnd_dis hin hJ h
      have hbest := fun (l : List Int) (hl : inB l g.length = true) (d : Nat) => best_dis hD hl (d := d)
      refine pwp_for [0, 1, 13] (fun d : Nat => [(14, .sc (.int .i64 ((d : Int) + 1)))]) (fun _ => []) (fun d => d ≤ g.length ∧ ∀ e, e < d → bestTo (fun n => decide (dis g to n = (e : Int))) from_ from_.length < 0) (fun d => g.length - d) 0 ?_
      ((conv=>whnf);repeat(refine And.intro rfl ?_;(conv=>whnf)))
      refine ⟨⟨by omega, fun e he => by omega⟩, by (repeat' (first | exact trivial | refine And.intro rfl ?_)), rfl, ?_⟩
      rintro d ⟨hd, hno⟩
      ((conv=>whnf);repeat(refine And.intro rfl ?_;(conv=>whnf)))
      (apply rd_sound; focus (repeat' constructor))
      ((conv=>whnf);repeat(refine And.intro rfl ?_;(conv=>whnf)))
      rw [List.length_map]
      (refine ifK_split (fun h3 => ?_) (fun h3 => ?_) <;> (rw [h3]; ((conv=>whnf);repeat(refine And.intro rfl ?_;(conv=>whnf)))))
      · have hd' : d < g.length := by ((try simp only [oo, reduceCtorEq] at *) <;> omega)
        refine .inr (.inl ⟨_, _, (.cons _ _ _ _ (.refl _) (.cons _ _ _ _ (.refl _) (.cons _ _ _ _ (.loc _ _ _ _ _ rfl (.cons _ _ _ _ (deep_gl rfl) .nil)) .nil))), ref_Way1 g.length o from_ hf hfl ((d : Int) + 1), rfl, ?_⟩)
        ((conv=>whnf);repeat(refine And.intro rfl ?_;(conv=>whnf)))
        rw [hbest from_ hf d]
        have hfb := first_best hf hno
        have hrg := bestTo_rng (p := fun n => decide (dis g to n = (d : Int))) hf from_.length (Nat.le_refl _)
        have hnb : bestTo (fun n => decide (dis g to n = (d : Int))) from_ from_.length < 0 → ∀ e, e < d + 1 → bestTo (fun n => decide (dis g to n = (e : Int))) from_ from_.length < 0 := fun h e he => by
          by_cases q : e = d
          · subst q; exact h
          · exact hno e (by omega)
        generalize bestTo (fun n => decide (dis g to n = (d : Int))) from_ from_.length = a at hfb hrg hnb
        (refine ifK_split (fun h4 => ?_) (fun h4 => ?_) <;> (rw [h4]; ((conv=>whnf);repeat(refine And.intro rfl ?_;(conv=>whnf)))))
        · have h4 : a < 0 := by ((try simp only [oo, reduceCtorEq] at *) <;> omega)
          (refine .inl ⟨by (unfold InR; rw [IntKind.wrap_i64]; omega), ?_⟩; ((conv=>whnf);repeat(refine And.intro rfl ?_;(conv=>whnf))))
          refine ⟨d + 1, ⟨by omega, hnb h4⟩, by dsimp only; omega, leB_envH ⟨by show D.sc _ = D.sc _; simp, by (repeat' (first | exact trivial | refine And.intro rfl ?_))⟩ rfl⟩
        · have h4 : 0 ≤ a := by ((try simp only [oo, reduceCtorEq] at *) <;> omega)
          obtain ⟨e1, e2⟩ := hfb h4
          rw [e1] at e2
          unfold wayL
          rw [e1, if_pos h4, decide_eq_true h4, e2, Int.toNat_natCast]
          generalize hW : walkW g (dis g to) d a = W
          (refine .inl ⟨by (unfold InR; rw [IntKind.wrap_i64]; omega), ?_⟩; ((conv=>whnf);repeat(refine And.intro rfl ?_;(conv=>whnf))))
          refine pwp_for [0, 13] (fun ((b, pre, k) : Int × List Int × Nat) => [(15, .sc (.int .i64 b)), (16, .own 2 pre.length 0 (pre.length + 1)), (17, .sc (.int .i64 k))]) (fun (b, pre, k) => [(2, .vec true pre.length 1 (i64s (pre ++ [b])))])
            (fun (b, pre, k) => 0 ≤ b ∧ b < (g.length : Int) ∧ dis g to b.toNat = (k : Int) ∧ pre.length + k ≤ 20000 ∧ pre ++ walkW g (dis g to) k b = W) (fun (b, pre, k) => k) (a, [], d) ?_
          ((conv=>whnf);repeat(refine And.intro rfl ?_;(conv=>whnf)))
          refine ⟨⟨h4, hrg.1, e2, by simp; omega, hW⟩, ⟨rfl, rfl, by show D.sc _ = D.sc _; simp, by (repeat' (first | exact trivial | refine And.intro rfl ?_))⟩, rfl, ?_⟩
          rintro ⟨b, pre, k⟩ ⟨hb1, hb2, hb3, hb4, hb5⟩
          ((conv=>whnf);repeat(refine And.intro rfl ?_;(conv=>whnf)))
          (apply rd_sound; focus (repeat' constructor))
          ((conv=>whnf);repeat(refine And.intro rfl ?_;(conv=>whnf)))
          (refine ifK_split (fun h6 => ?_) (fun h6 => ?_) <;> (rw [h6]; ((conv=>whnf);repeat(refine And.intro rfl ?_;(conv=>whnf)))))
          · have h6 : (0 : Int) < k := by ((try simp only [oo, reduceCtorEq] at *) <;> omega)
            obtain ⟨k, rfl⟩ : ∃ j, k = j + 1 := ⟨k - 1, by omega⟩
            obtain ⟨n1, n2, n3⟩ := next_ok hin (to := to) (a := b.toNat) (d := k) (by omega)
            rw [walkW_succ] at hb5
            refine ⟨by omega, _, gridD_at (g := g) (k := b.toNat) (by omega) (by omega), ?_⟩
            ((conv=>whnf);repeat(refine And.intro rfl ?_;(conv=>whnf)))
            have hB := inB_row hin b.toNat
            have hBl := hF.at b.toNat
            refine .inr (.inl ⟨_, _, (.cons _ _ _ _ (.refl _) (.cons _ _ _ _ (.refl _) (.cons _ _ _ _ (.loc _ _ _ _ _ rfl (.cons _ _ _ _ (deep_gl rfl) .nil)) .nil))), ref_Way1 g.length o (g.getD b.toNat []) hB (by omega) ((k + 1 : Nat) : Int), rfl, ?_⟩)
            ((conv=>whnf);repeat(refine And.intro rfl ?_;(conv=>whnf)))
            rw [show ((k + 1 : Nat) : Int) = (k : Int) + 1 by omega, hbest _ hB k]
            generalize bestTo (fun n => decide (dis g to n = (k : Int))) (g.getD b.toNat []) (g.getD b.toNat []).length = y at n1 n2 n3 hb5
            refine ⟨(by unfold sliceAppend; simp only [ll]; omega), ?_⟩
            ((conv=>whnf);repeat(refine And.intro rfl ?_;(conv=>whnf)))
            (refine .inl ⟨by (unfold InR; rw [IntKind.wrap_i64]; omega), ?_⟩; ((conv=>whnf);repeat(refine And.intro rfl ?_;(conv=>whnf))))
            refine ⟨(y, pre ++ [b], k), ⟨n1, n2, n3, by simp; omega, by rw [← hb5]; simp⟩, by dsimp only; omega, ?_⟩
            dsimp only
            rw [show (pre ++ [b]).length = pre.length + 1 by simp, show (k : Int) + 1 - 1 = (k : Int) by omega]
            (refine leB_close 3 (by simp) rfl ?_ ?_ <;> (repeat' (first | exact trivial | exact rfl | exact DeepM.refl _ | exact DeepML.refl _ | exact DeepMLL.refl _ | refine And.intro ?_ ?_ | (simp [Under, UnderL, UnderLL, -List.map_take, -List.map_drop]; done))))
            exact deepMLL_eq (by rw [List.take_of_length_le (by simp), List.drop_zero]; simp [i64s])
          · have h6' : ¬ (0 : Int) < k := by ((try simp only [oo, reduceCtorEq] at *) <;> omega)
            have h6 : k = 0 := by omega
            subst h6
            refine .tup _ _ (.cons _ _ _ _ ?_ (deepL_refl _))
            rw [← hb5]
            exact .own _ _ _ _ _ _ _ _ rfl (by rw [List.drop_zero, List.take_of_length_le (by simp)]; exact deepLL_refl _)
      · have hd' : d = g.length := by have : ¬ d < g.length := by ((try simp only [oo, reduceCtorEq] at *) <;> omega)
                                      omega
        subst hd'
        have hnone : ¬ 0 ≤ wayS g from_ to := by have := none_best hin hf hno; omega
        unfold wayL
        rw [if_neg hnone, decide_eq_false hnone]
        exact .tup _ _ (.cons _ _ _ _ (.none _) (deepL_refl _))
end Go.Proofs.Ytjnfahdolkgnoaa
