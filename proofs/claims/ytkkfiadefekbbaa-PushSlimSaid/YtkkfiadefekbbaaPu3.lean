/-
  Package push over deep values: slim. No statement is proved here.
-/
import Derived.Test.YtkkfiadefekbbaaPu2
namespace Go.Proofs.Ytkkfiadefekbbaa
open Go.RowKit
set_option linter.unusedSimpArgs false
def c89_1 : PC := .seq (.ops [⟨(some 10), .bin .lss (.tmp 9) (.tmp 8), none, 0⟩] false) (.seq (.cond (.tmp 10) (.skip) (.exit 0)) (.seq (.block 1 (.seq (.ops [⟨(some 11), .iaddr 3 (.tmp 7) (.tmp 9), none, 0⟩,
    ⟨(some 12), .loadA 3 (.tmp 11), none, 0⟩,
    ⟨(some 5), .alloc [(.int .i64 0), (.int .i64 0), (.slice none 0 0)], none, 0⟩,
    ⟨none, .store 3 (.tmp 5) (.tmp 12), none, 0⟩] false) (.ops [⟨(some 13), .move (.tmp 3), none, 0⟩,
    ⟨(some 14), .loadA 3 (.tmp 5), none, 0⟩,
    ⟨(some 15), .call 89 [(.tmp 14)], none, 0⟩,
    ⟨(some 16), .bslice 3 1 [(.tmp 15)], none, 0⟩,
    ⟨(some 17), .append 3 40 (.tmp 13) (.tmp 16), none, 0⟩,
    ⟨(some 3), .move (.tmp 17), none, 0⟩] false))) (.ops [⟨(some 18), .bin .add (.tmp 9) (.const (.int .i64 1)), none, 0⟩,
    ⟨(some 9), .move (.tmp 18), none, 0⟩] false)))
def c89 : PC := .seq (.ops [⟨(some 1), .box (.tmp 0), none, 0⟩,
    ⟨(some 2), .alloc [(.int .i64 0), (.int .i64 0), (.slice none 0 0)], none, 0⟩] false) (.seq (.ops [⟨(some 3), .move (.const (.slice none 0 0)), none, 0⟩] false) (.seq (.seq (.ops [⟨(some 6), .faddr 2 (.tmp 1), none, 0⟩,
    ⟨(some 7), .load1 (.tmp 6), none, 0⟩,
    ⟨(some 8), .len (.tmp 7), none, 0⟩,
    ⟨(some 9), .move (.const (.int .i64 0)), none, 0⟩] false) (.block 0 (.loop c89_1))) (.seq (.seq (.ops [⟨(some 19), .faddr 0 (.tmp 1), none, 0⟩,
    ⟨(some 20), .load1 (.tmp 19), none, 0⟩] false) (.block 2 (.seq (.ops [⟨(some 22), .bin .eql (.tmp 20) (.const (.int .i64 5)), none, 0⟩,
    ⟨(some 21), .move (.tmp 22), none, 0⟩] false) (.cond (.tmp 21) (.seq (.ops [⟨(some 23), .faddr 0 (.tmp 1), none, 0⟩,
    ⟨(some 24), .load1 (.tmp 23), none, 1⟩,
    ⟨(some 25), .move (.tmp 3), none, 0⟩,
    ⟨(some 26), .iaddr 3 (.tmp 25) (.const (.int .i64 0)), none, 4⟩,
    ⟨(some 27), .loadA 3 (.tmp 26), none, 12⟩,
    ⟨(some 28), .move (.tmp 3), none, 0⟩,
    ⟨(some 29), .iaddr 3 (.tmp 28) (.const (.int .i64 1)), none, 32⟩,
    ⟨(some 30), .loadA 3 (.tmp 29), none, 96⟩,
    ⟨(some 31), .call 145 [(.tmp 24), (.const (.int .i64 2)), (.tmp 27), (.tmp 30)], none, 255⟩,
    ⟨none, .store 3 (.tmp 2) (.tmp 31), none, 511⟩] true) (.ret)) (.seq (.ops [⟨(some 33), .bin .eql (.tmp 20) (.const (.int .i64 6)), none, 0⟩,
    ⟨(some 32), .move (.tmp 33), none, 0⟩] false) (.cond (.tmp 32) (.seq (.ops [⟨(some 34), .faddr 0 (.tmp 1), none, 0⟩,
    ⟨(some 35), .load1 (.tmp 34), none, 1⟩,
    ⟨(some 36), .move (.tmp 3), none, 0⟩,
    ⟨(some 37), .iaddr 3 (.tmp 36) (.const (.int .i64 0)), none, 4⟩,
    ⟨(some 38), .loadA 3 (.tmp 37), none, 12⟩,
    ⟨(some 39), .move (.tmp 3), none, 0⟩,
    ⟨(some 40), .iaddr 3 (.tmp 39) (.const (.int .i64 1)), none, 32⟩,
    ⟨(some 41), .loadA 3 (.tmp 40), none, 96⟩,
    ⟨(some 42), .call 145 [(.tmp 35), (.const (.int .i64 1)), (.tmp 38), (.tmp 41)], none, 255⟩,
    ⟨none, .store 3 (.tmp 2) (.tmp 42), none, 511⟩] true) (.ret)) (.seq (.ops [⟨(some 44), .bin .eql (.tmp 20) (.const (.int .i64 8)), none, 0⟩,
    ⟨(some 43), .move (.tmp 44), none, 0⟩] false) (.cond (.tmp 43) (.seq (.ops [⟨(some 45), .faddr 0 (.tmp 1), none, 0⟩,
    ⟨(some 46), .load1 (.tmp 45), none, 1⟩,
    ⟨(some 47), .move (.tmp 3), none, 0⟩,
    ⟨(some 48), .iaddr 3 (.tmp 47) (.const (.int .i64 0)), none, 4⟩,
    ⟨(some 49), .loadA 3 (.tmp 48), none, 12⟩,
    ⟨(some 50), .move (.tmp 3), none, 0⟩,
    ⟨(some 51), .iaddr 3 (.tmp 50) (.const (.int .i64 1)), none, 32⟩,
    ⟨(some 52), .loadA 3 (.tmp 51), none, 96⟩,
    ⟨(some 53), .call 146 [(.tmp 46), (.const (.int .i64 2)), (.tmp 49), (.tmp 52)], none, 255⟩,
    ⟨none, .store 3 (.tmp 2) (.tmp 53), none, 511⟩] true) (.ret)) (.seq (.ops [⟨(some 55), .bin .eql (.tmp 20) (.const (.int .i64 9)), none, 0⟩,
    ⟨(some 54), .move (.tmp 55), none, 0⟩] false) (.cond (.tmp 54) (.seq (.ops [⟨(some 56), .faddr 0 (.tmp 1), none, 0⟩,
    ⟨(some 57), .load1 (.tmp 56), none, 1⟩,
    ⟨(some 58), .move (.tmp 3), none, 0⟩,
    ⟨(some 59), .iaddr 3 (.tmp 58) (.const (.int .i64 0)), none, 4⟩,
    ⟨(some 60), .loadA 3 (.tmp 59), none, 12⟩,
    ⟨(some 61), .move (.tmp 3), none, 0⟩,
    ⟨(some 62), .iaddr 3 (.tmp 61) (.const (.int .i64 1)), none, 32⟩,
    ⟨(some 63), .loadA 3 (.tmp 62), none, 96⟩,
    ⟨(some 64), .call 146 [(.tmp 57), (.const (.int .i64 1)), (.tmp 60), (.tmp 63)], none, 255⟩,
    ⟨none, .store 3 (.tmp 2) (.tmp 64), none, 511⟩] true) (.ret)) (.seq (.seq (.ops [⟨(some 66), .bin .eql (.tmp 20) (.const (.int .i64 4)), none, 0⟩,
    ⟨(some 65), .move (.tmp 66), none, 0⟩] false) (.cond (.tmp 65) (.skip) (.seq (.ops [⟨(some 67), .bin .eql (.tmp 20) (.const (.int .i64 7)), none, 0⟩,
    ⟨(some 65), .move (.tmp 67), none, 0⟩] false) (.cond (.tmp 65) (.skip) (.seq (.ops [⟨(some 68), .bin .eql (.tmp 20) (.const (.int .i64 10)), none, 0⟩,
    ⟨(some 65), .move (.tmp 68), none, 0⟩] false) (.cond (.tmp 65) (.skip) (.ops [⟨(some 69), .bin .eql (.tmp 20) (.const (.int .i64 11)), none, 0⟩,
    ⟨(some 65), .move (.tmp 69), none, 0⟩] false))))))) (.cond (.tmp 65) (.seq (.ops [⟨(some 70), .faddr 0 (.tmp 1), none, 0⟩,
    ⟨(some 71), .load1 (.tmp 70), none, 1⟩,
    ⟨(some 72), .move (.tmp 3), none, 0⟩,
    ⟨(some 73), .iaddr 3 (.tmp 72) (.const (.int .i64 0)), none, 4⟩,
    ⟨(some 74), .loadA 3 (.tmp 73), none, 12⟩,
    ⟨(some 75), .call 147 [(.tmp 71), (.tmp 74)], none, 31⟩,
    ⟨none, .store 3 (.tmp 2) (.tmp 75), none, 63⟩] true) (.ret)) (.skip))))))))))))) (.seq (.ops [⟨(some 76), .faddr 0 (.tmp 1), none, 0⟩,
    ⟨(some 77), .load1 (.tmp 76), none, 0⟩,
    ⟨(some 78), .faddr 1 (.tmp 1), none, 0⟩,
    ⟨(some 79), .load1 (.tmp 78), none, 0⟩,
    ⟨(some 80), .build [(.int .i64 0), (.int .i64 0), (.slice none 0 0)] [(0, 1, (.tmp 77)), (1, 1, (.tmp 79))], none, 0⟩,
    ⟨none, .store 3 (.tmp 2) (.tmp 80), none, 0⟩] false) (.ret)))))
set_option maxRecDepth 100000 in
theorem c89_ok : FunOK Try.prog 89 81 [.agg 2 3] c89 := ⟨⟨Try.f89, Try.func89, rfl, by kernel_rfl, rfl, by kernel_rfl⟩⟩

theorem slim_small {t : Tree} (h : t.wf lKids) : Small (slimT t) := wf_small _ (slim_fits t h).1
theorem wf_four {t : Tree} (h : t.wf lKids) (hk : t.kind = 4) : 0 < t.width := by
  have := node_arity ((wf_iff _ _).1 h).1
  omega
theorem push_slim : ∀ t : Tree, t.wf lKids → PCall Try.prog 89 [dtree t] (dtree (slimT t)) := by
  intro t
  induction t using Tree.ind with
  | h t ih =>
    intro hwf
    have hs := wf_small t hwf
    have hsz := hs.width
    have har := node_arity ((wf_iff _ _).1 hwf).1
    refine pcall_intro c89_ok (by simp) (by simp [PureL, pure_dtree]) ?_ (pure_dtree _)
    (apply red_sound; focus (repeat' (first | exact Red.skip | exact Red.ret | exact RedO.nil | exact RedD.nil | exact Red.exit _ | exact Red.loop _ | exact Red.stop _ | apply Red.ops | apply Red.draw | apply Red.seq | apply Red.cond | apply Red.block | apply RedO.cons | apply RedD.cons | exact (0 : Nat))))
    ((conv => whnf); repeat (refine And.intro rfl ?_; (conv => whnf)))
    refine pwp_loopB (fun k : Nat => [(1, .loc 0 0), (2, .loc 1 0), (3, .own 2 k 0 k), (7, .lst 3 (t.kids.map dcells)), (8, .sc (.int .i64 (t.kids.map dcells).length)), (9, .sc (.int .i64 k))])
      (fun k => [.row true (drow t), .row true [.sc (.int .i64 0), .sc (.int .i64 0), .sc (.slice none 0 0)], .vec true k 3 ((t.kids.take k).map fun u => drow (slimT u))])
      (fun k => k ≤ t.width) (fun k => t.width - k) 0 (by omega) (leB_trans (leB_nil 3 3 (by simp) rfl) (leB_env ⟨rfl, rfl, rfl, rfl, rfl, rfl, trivial⟩)) ?_
    rintro k hk
    (apply red_sound; focus (repeat' (first | exact Red.skip | exact Red.ret | exact RedO.nil | exact RedD.nil | exact Red.exit _ | exact Red.loop _ | exact Red.stop _ | apply Red.ops | apply Red.draw | apply Red.seq | apply Red.cond | apply Red.block | apply RedO.cons | apply RedD.cons | exact (0 : Nat))))
    ((conv => whnf); repeat (refine And.intro rfl ?_; (conv => whnf)))
    (refine ifK_split (fun h1 => ?_) (fun h1 => ?_) <;> (rw [h1]; ((conv => whnf); repeat (refine And.intro rfl ?_; (conv => whnf)))))
    · have hk' : k < t.width := by simpa [Tree.width] using h1
      refine ⟨by omega, _, kid_at hk', ?_⟩
      ((conv => whnf); repeat (refine And.intro rfl ?_; (conv => whnf)))
      (refine .inl ⟨_, (ih k hk' (wf_kid hwf hk')), ?_⟩; ((conv => whnf); repeat (refine And.intro rfl ?_; (conv => whnf))))
      refine ⟨by unfold sliceAppend; simp only [List.drop_zero, List.take_succ_cons, List.take_zero, List.length_cons, List.length_nil]; omega, ?_⟩
      ((conv => whnf); repeat (refine And.intro rfl ?_; (conv => whnf)))
      refine .inl ⟨by unfold InR; rw [IntKind.wrap_i64]; unfold Tree.width at *; omega, ?_⟩
      ((conv => whnf); repeat (refine And.intro rfl ?_; (conv => whnf)))
      refine ⟨k + 1, by omega, by dsimp only; omega, leB_close 3 (by simp) rfl ⟨.refl _, by simp [Under], .refl _, by simp [Under], .refl _, by simp [Under], .refl _, by simp only [Under]; exact underLL_pure _ (pure_kids t), .refl _, by simp [Under], .refl _, by simp [Under], trivial⟩
        ⟨⟨rfl, .refl _, underL_pure _ (pure_drow t)⟩, ⟨rfl, .refl _, by simp [UnderL, Under]⟩, ⟨rfl, rfl, rfl, deepMLL_eq (take_snoc _ (kid_get? hk')), underLL_pure _ (pureLL_map _ (fun u => pure_drow _) _)⟩, trivial⟩⟩
    · have hk' : k = t.width := by have : ¬ k < t.width := by simpa [Tree.width] using h1
                                   omega
      subst hk'
      have s0 : 0 < t.width → Small (slimT (t.kid 0)) := fun h => slim_small (wf_kid hwf h)
      have s1 : 1 < t.width → (slimT (t.kid 1)).kind = 4 → 0 < (slimT (t.kid 1)).width := fun h => wf_four (slim_fits _ (wf_kid hwf h)).1
      have s2 : 0 < t.width → (slimT (t.kid 0)).kind = 4 → 0 < (slimT (t.kid 0)).width := fun h => wf_four (slim_fits _ (wf_kid hwf h)).1
      (refine ifK_split (fun k5 => ?_) (fun k5 => ?_) <;> (rw [k5]; ((conv => whnf); repeat (refine And.intro rfl ?_; (conv => whnf)))))
      · simp at k5
        have hw : t.width = 2 := by omega
        refine ⟨by omega, by omega, ?_⟩; ((conv => whnf); repeat (refine And.intro rfl ?_; (conv => whnf)))
        refine ⟨_, take_at _ (by omega), ?_⟩; ((conv => whnf); repeat (refine And.intro rfl ?_; (conv => whnf)))
        refine ⟨by omega, by omega, ?_⟩; ((conv => whnf); repeat (refine And.intro rfl ?_; (conv => whnf)))
        refine ⟨_, take_at _ (by omega), ?_⟩; ((conv => whnf); repeat (refine And.intro rfl ?_; (conv => whnf)))
        (refine .inl ⟨_, (push_both t.kind 2 (slimT (t.kid 0)) (slimT (t.kid 1)) (s0 (by omega))), ?_⟩; ((conv => whnf); repeat (refine And.intro rfl ?_; (conv => whnf))))
        exact deep_as (by rw [slimT_eq]; simp [slimN, k5, kid_get? (show 0 < t.width by omega), kid_get? (show 1 < t.width by omega)]) (.refl _)
      (refine ifK_split (fun k6 => ?_) (fun k6 => ?_) <;> (rw [k6]; ((conv => whnf); repeat (refine And.intro rfl ?_; (conv => whnf)))))
      · simp at k6
        have hw : t.width = 2 := by omega
        refine ⟨by omega, by omega, ?_⟩; ((conv => whnf); repeat (refine And.intro rfl ?_; (conv => whnf)))
        refine ⟨_, take_at _ (by omega), ?_⟩; ((conv => whnf); repeat (refine And.intro rfl ?_; (conv => whnf)))
        refine ⟨by omega, by omega, ?_⟩; ((conv => whnf); repeat (refine And.intro rfl ?_; (conv => whnf)))
        refine ⟨_, take_at _ (by omega), ?_⟩; ((conv => whnf); repeat (refine And.intro rfl ?_; (conv => whnf)))
        (refine .inl ⟨_, (push_both t.kind 1 (slimT (t.kid 0)) (slimT (t.kid 1)) (s0 (by omega))), ?_⟩; ((conv => whnf); repeat (refine And.intro rfl ?_; (conv => whnf))))
        exact deep_as (by rw [slimT_eq]; simp [slimN, k6, kid_get? (show 0 < t.width by omega), kid_get? (show 1 < t.width by omega)]) (.refl _)
      (refine ifK_split (fun k8 => ?_) (fun k8 => ?_) <;> (rw [k8]; ((conv => whnf); repeat (refine And.intro rfl ?_; (conv => whnf)))))
      · simp at k8
        have hw : t.width = 2 := by omega
        refine ⟨by omega, by omega, ?_⟩; ((conv => whnf); repeat (refine And.intro rfl ?_; (conv => whnf)))
        refine ⟨_, take_at _ (by omega), ?_⟩; ((conv => whnf); repeat (refine And.intro rfl ?_; (conv => whnf)))
        refine ⟨by omega, by omega, ?_⟩; ((conv => whnf); repeat (refine And.intro rfl ?_; (conv => whnf)))
        refine ⟨_, take_at _ (by omega), ?_⟩; ((conv => whnf); repeat (refine And.intro rfl ?_; (conv => whnf)))
        (refine .inl ⟨_, (push_way t.kind 2 (slimT (t.kid 0)) (slimT (t.kid 1)) (s0 (by omega)) (s1 (by omega))), ?_⟩; ((conv => whnf); repeat (refine And.intro rfl ?_; (conv => whnf))))
        exact deep_as (by rw [slimT_eq]; simp [slimN, k8, kid_get? (show 0 < t.width by omega), kid_get? (show 1 < t.width by omega)]) (.refl _)
      (refine ifK_split (fun k9 => ?_) (fun k9 => ?_) <;> (rw [k9]; ((conv => whnf); repeat (refine And.intro rfl ?_; (conv => whnf)))))
      · simp at k9
        have hw : t.width = 2 := by omega
        refine ⟨by omega, by omega, ?_⟩; ((conv => whnf); repeat (refine And.intro rfl ?_; (conv => whnf)))
        refine ⟨_, take_at _ (by omega), ?_⟩; ((conv => whnf); repeat (refine And.intro rfl ?_; (conv => whnf)))
        refine ⟨by omega, by omega, ?_⟩; ((conv => whnf); repeat (refine And.intro rfl ?_; (conv => whnf)))
        refine ⟨_, take_at _ (by omega), ?_⟩; ((conv => whnf); repeat (refine And.intro rfl ?_; (conv => whnf)))
        (refine .inl ⟨_, (push_way t.kind 1 (slimT (t.kid 0)) (slimT (t.kid 1)) (s0 (by omega)) (s1 (by omega))), ?_⟩; ((conv => whnf); repeat (refine And.intro rfl ?_; (conv => whnf))))
        exact deep_as (by rw [slimT_eq]; simp [slimN, k9, kid_get? (show 0 < t.width by omega), kid_get? (show 1 < t.width by omega)]) (.refl _)
      simp at k5 k6 k8 k9
      have sing : (t.kind = 4 ∨ t.kind = 7 ∨ t.kind = 10 ∨ t.kind = 11) → slimT t = singleT t.kind (slimT (t.kid 0)) := fun h => by
        rw [slimT_eq]
        have hw : t.width = 1 := by omega
        rcases h with h | h | h | h <;> simp [slimN, h, kid_get? (show 0 < t.width by omega)]
      have leaf : ¬ (t.kind = 4 ∨ t.kind = 7 ∨ t.kind = 10 ∨ t.kind = 11) → slimT t = mk0 t.kind t.num := fun h => by
        rw [slimT_eq]
        simp [slimN, k5, k6, k8, k9, h]
      repeat' (first
        | (refine ifK_split (fun h => ?_) (fun h => ?_) <;> (rw [h]; ((conv => whnf); repeat (refine And.intro rfl ?_; (conv => whnf)))))
        | (have hh : t.kind = 4 ∨ t.kind = 7 ∨ t.kind = 10 ∨ t.kind = 11 := by simp only [beq_iff_eq] at *; omega
           have hw : t.width = 1 := by omega
           refine ⟨by omega, by omega, ?_⟩; ((conv => whnf); repeat (refine And.intro rfl ?_; (conv => whnf))); refine ⟨_, take_at _ (by omega), ?_⟩; ((conv => whnf); repeat (refine And.intro rfl ?_; (conv => whnf))); (refine .inl ⟨_, (push_single t.kind (slimT (t.kid 0)) (s2 (by omega))), ?_⟩; ((conv => whnf); repeat (refine And.intro rfl ?_; (conv => whnf)))); exact deep_as (sing hh) (.refl _))
        | exact deep_as (leaf (by simp_all)) (by (repeat' (first | exact Deep.refl _ | exact Deep.none _ | exact deep_row _ | exact DeepL.nil | exact DeepLL.nil | refine Deep.agg _ _ ?_ | refine Deep.tup _ _ ?_ | refine Deep.own _ _ _ _ _ _ _ _ rfl ?_ | refine Deep.loc _ _ _ _ _ rfl ?_ | refine Deep.ifc _ _ _ ?_ | refine DeepL.cons _ _ _ _ ?_ ?_ | refine DeepLL.cons _ _ _ _ ?_ ?_))))
end Go.Proofs.Ytkkfiadefekbbaa
