/-
  The shortest way to write a word, over deep values. No statement is proved here.
-/
import Derived.Test.YtfaekhadjlgbbaaQLas
namespace Go.Proofs.Ytfaekhadjlgbbaa
open Go.RowKit
set_option linter.unusedSimpArgs false
def c86_1 : PC := .seq (.seq (.ops [⟨some 12,.move (.tmp 5),none,0⟩,
 ⟨some 13,.move (.tmp 4),none,0⟩,
 ⟨some 14,.len (.tmp 13),none,0⟩,
 ⟨some 15,.bin .leq (.tmp 12) (.tmp 14),none,0⟩] false) (.cond (.tmp 15) (.skip) (.exit 0))) (.seq (.block 1 (.seq (.ops [⟨some 18,.move (.tmp 4),none,0⟩,
 ⟨some 19,.len (.tmp 18),none,0⟩,
 ⟨some 20,.move (.tmp 5),none,0⟩,
 ⟨some 21,.bin .rem (.tmp 19) (.tmp 20),none,0⟩,
 ⟨some 22,.bin .eql (.tmp 21) (.const (.int .i64 0)),none,0⟩,
 ⟨some 23,.move (.tmp 22),none,0⟩,
 ⟨some 24,.move (.tmp 4),some (23,true),0⟩,
 ⟨some 25,.move (.tmp 5),some (23,true),0⟩,
 ⟨some 26,.call 126 [(.tmp 24), (.tmp 25)],some (23,true),0⟩,
 ⟨some 27,.pick (.tmp 23) (.tmp 26) (.const (.bool false)),none,0⟩] false) (.cond (.tmp 27) (.seq (.ops [⟨some 28,.move (.tmp 4),none,0⟩,
 ⟨some 29,.move (.tmp 5),none,0⟩,
 ⟨some 30,.move (.tmp 5),none,0⟩,
 ⟨some 31,.slc 1 (.tmp 28) none (some (.tmp 29)) (some (.tmp 30)),none,0⟩,
 ⟨some 4,.move (.tmp 31),none,0⟩] false) (.exit 0)) (.skip)))) (.ops [⟨some 16,.move (.tmp 5),none,0⟩,
 ⟨some 17,.bin .add (.tmp 16) (.const (.int .i64 1)),none,0⟩,
 ⟨some 5,.move (.tmp 17),none,0⟩] false))
def c86_2 : PC := .seq (.seq (.ops [⟨some 32,.move (.tmp 3),none,0⟩,
 ⟨some 33,.len (.tmp 32),none,1⟩,
 ⟨some 34,.bin .gtr (.tmp 33) (.const (.int .i64 0)),none,3⟩,
 ⟨some 35,.move (.tmp 34),none,7⟩,
 ⟨some 36,.move (.tmp 3),some (35,true),15⟩,
 ⟨some 37,.move (.tmp 3),some (35,true),15⟩,
 ⟨some 38,.len (.tmp 37),some (35,true),47⟩,
 ⟨some 39,.bin .sub (.tmp 38) (.const (.int .i64 1)),some (35,true),111⟩,
 ⟨some 40,.iaddr 1 (.tmp 36) (.tmp 39),some (35,true),255⟩,
 ⟨some 41,.load1 (.tmp 40),some (35,true),511⟩,
 ⟨some 42,.move (.tmp 4),some (35,true),15⟩,
 ⟨some 43,.move (.tmp 4),some (35,true),15⟩,
 ⟨some 44,.len (.tmp 43),some (35,true),2063⟩,
 ⟨some 45,.bin .sub (.tmp 44) (.const (.int .i64 1)),some (35,true),6159⟩,
 ⟨some 46,.iaddr 1 (.tmp 42) (.tmp 45),some (35,true),15375⟩,
 ⟨some 47,.load1 (.tmp 46),some (35,true),31759⟩,
 ⟨some 48,.bin .eql (.tmp 41) (.tmp 47),some (35,true),65535⟩,
 ⟨some 49,.pick (.tmp 35) (.tmp 48) (.const (.bool false)),none,131071⟩] true) (.cond (.tmp 49) (.skip) (.exit 2))) (.block 3 (.seq (.ops [⟨some 50,.move (.tmp 3),none,0⟩,
 ⟨some 51,.move (.tmp 3),none,0⟩,
 ⟨some 52,.len (.tmp 51),none,0⟩,
 ⟨some 53,.bin .sub (.tmp 52) (.const (.int .i64 1)),none,0⟩,
 ⟨some 54,.slc 1 (.tmp 50) none (some (.tmp 53)) none,none,0⟩,
 ⟨some 3,.move (.tmp 54),none,0⟩] false) (.ops [⟨some 55,.move (.tmp 4),none,0⟩,
 ⟨some 56,.move (.tmp 4),none,0⟩,
 ⟨some 57,.len (.tmp 56),none,2⟩,
 ⟨some 58,.bin .sub (.tmp 57) (.const (.int .i64 1)),none,6⟩,
 ⟨some 59,.iaddr 1 (.tmp 55) (.tmp 58),none,15⟩,
 ⟨some 60,.load1 (.tmp 59),none,31⟩,
 ⟨some 61,.bslice 1 1 [(.tmp 60)],none,63⟩,
 ⟨some 62,.move (.tmp 4),none,0⟩,
 ⟨some 63,.move (.tmp 4),none,0⟩,
 ⟨some 64,.len (.tmp 63),none,256⟩,
 ⟨some 65,.bin .sub (.tmp 64) (.const (.int .i64 1)),none,768⟩,
 ⟨some 66,.slc 1 (.tmp 62) none (some (.tmp 65)) none,none,1920⟩,
 ⟨some 67,.append 1 8 (.tmp 61) (.tmp 66),none,4095⟩,
 ⟨some 4,.move (.tmp 67),none,8191⟩] true)))
def c86 : PC := .seq (.ops [⟨some 1,.box (.tmp 0),none,0⟩,
 ⟨some 2,.alloc [(.slice none 0 0), (.slice none 0 0)],none,0⟩] false) (.seq (.ops [⟨some 6,.faddr 0 (.tmp 1),none,0⟩,
 ⟨some 7,.load1 (.tmp 6),none,1⟩,
 ⟨some 8,.call 88 [(.tmp 7)],none,3⟩,
 ⟨some 9,.faddr 1 (.tmp 1),none,0⟩,
 ⟨some 10,.load1 (.tmp 9),none,8⟩,
 ⟨some 11,.call 88 [(.tmp 10)],none,31⟩,
 ⟨some 3,.move (.tmp 8),none,63⟩,
 ⟨some 4,.move (.tmp 11),none,127⟩] true) (.seq (.seq (.ops [⟨some 5,.move (.const (.int .i64 1)),none,0⟩] false) (.block 0 (.loop c86_1))) (.seq (.block 2 (.loop c86_2)) (.seq (.ops [⟨some 68,.move (.tmp 3),none,0⟩,
 ⟨some 69,.call 88 [(.tmp 68)],none,0⟩,
 ⟨some 70,.move (.tmp 4),none,0⟩,
 ⟨some 71,.build [(.slice none 0 0), (.slice none 0 0)] [(0, 1, (.tmp 69)), (1, 1, (.tmp 70))],none,0⟩,
 ⟨none,.store 2 (.tmp 2) (.tmp 71),none,0⟩] false) (.ret)))))
set_option maxRecDepth 100000 in
theorem c86_ok : FunOK Try.prog 86 72 [.agg 2 2] c86 := ⟨⟨Try.f86, Try.func86, rfl, by kernel_rfl, rfl, by kernel_rfl⟩⟩
theorem map_take {α β : Type} (f : α → β) (l : List α) (a b : Nat) : ((l.map f).take a).drop b = ((l.take a).drop b).map f := by rw [← List.map_take, ← List.map_drop]
theorem dlet_take (l : List Int) (a b : Nat) : D.lst 1 (((l.map fun n => [D.sc (.int .u64 n)]).take a).drop b) = dlet ((l.take a).drop b) := by rw [map_take]; rfl
theorem seg_prev {f : Nat → Int} {k p : Nat} (hk : 1 ≤ k) (hp : 1 ≤ p) (h : f (k - 1 + p) = f (k - 1)) : f (k + p - 1) :: (seg f k p).take (p - 1) = seg f (k - 1) p := by
  obtain ⟨q, rfl⟩ : ∃ q, p = q + 1 := ⟨p - 1, by omega⟩
  rw [seg_take (by omega), seg_cons, show k - 1 + 1 = k by omega, show q + 1 - 1 = q by omega, show k + (q + 1) - 1 = k - 1 + (q + 1) by omega, h]
theorem las_least (s l : List Int) (a p : Nat) (hN : Norm (atW s l) s.length l.length a p) (hs : s.length + l.length ≤ 60) :
    PCall Try.prog 86 [dword s l] (dword (seg (atW s l) 0 a) (seg (atW s l) a p)) := by
  have h1 := hN.p1
  have h2 := hN.pm
  have h3 := hN.as
  refine pcall_intro c86_ok (by simp) (by simp [PureL, pure_dword]) ?_ (pure_dword _ _)
  unfold dword wcells
  (apply rd_sound; focus (repeat' constructor))
  ((conv=>whnf);repeat(refine .intro rfl ?_;conv=>whnf))
  (refine .inl ⟨_, (clone_u64 s (by omega)), ?_⟩; ((conv=>whnf);repeat(refine .intro rfl ?_;conv=>whnf)))
  (refine .inl ⟨_, (clone_u64 l (by omega)), ?_⟩; ((conv=>whnf);repeat(refine .intro rfl ?_;conv=>whnf)))
  refine pwp_loop (fun n : Nat => [(1, .loc 0 0), (2, .loc 1 0), (3, dlet s), (4, dlet l), (5, .sc (.int .i64 n))]) (fun _ => [.row true [dlet s, dlet l], .row true [.sc (.slice none 0 0), .sc (.slice none 0 0)]])
    (fun n => 1 ≤ n ∧ n ≤ p) (fun n => p - n) 1 ⟨by omega, by omega⟩ (le_env ⟨rfl, rfl, rfl, rfl, rfl, trivial⟩) ?_
  rintro n ⟨hn1, hn2⟩
  unfold dlet
  (apply rd_sound; focus (repeat' constructor))
  ((conv=>whnf);repeat(refine .intro rfl ?_;conv=>whnf))
  rw [List.length_map]
  (refine ifK_split (fun g1 => ?_) (fun g1 => ?_) <;> (rw [g1]; ((conv=>whnf);repeat(refine .intro rfl ?_;conv=>whnf))))
  rotate_left
  · exfalso; ((try simp only[oo,reduceCtorEq]at*)<;>omega)
  rw [List.length_map]
  refine ⟨by omega, ?_⟩
  ((conv=>whnf);repeat(refine .intro rfl ?_;conv=>whnf))
  have hT := las_turns l n (by omega) (by omega)
  have em : ((l.length : Int).tmod n == 0) = decide (l.length % n = 0) := by
    rw [Bool.eq_iff_iff, beq_iff_eq, decide_eq_true_eq, ← Int.ofNat_tmod]
    omega
  rw [em]
  have next : n < p → InR .i64 ((n : Int) + 1) := fun _ => by unfold InR; rw [IntKind.wrap_i64]; omega
  by_cases hq : l.length % n = 0 ∧ Turns l n
  · have hnp : n = p := by
      have hper := per_of_turns (s := s) (n := n) hn1 hN.m1 hq.1 hq.2
      rcases Nat.lt_or_ge n p with q | q
      · exact absurd hper (hN.noP n hn1 q)
      · omega
    subst hnp
    rw [turnsB_iff.2 hq.2] at hT
    rw [decide_eq_true hq.1]
    ((conv=>whnf);repeat(refine .intro rfl ?_;conv=>whnf))
    (refine .inl ⟨_, hT, ?_⟩; ((conv=>whnf);repeat(refine .intro rfl ?_;conv=>whnf)))
    refine ⟨by omega, by omega, by omega, by omega, by simp only [List.length_map]; omega, ?_⟩
    rw [dlet_take]
    have e1 : List.drop 0 (l.take (n : Int).toNat) = seg (atW s l) s.length n := by
      rw [List.drop_zero, Int.toNat_natCast]
      conv => lhs; rw [← seg_loop s l]
      exact seg_take hN.pm
    rw [e1]
    have e2 : D.lst 1 (s.map fun n => [.sc (.int .u64 n)]) = dlet (seg (atW s l) 0 s.length) := by rw [seg_stem]; rfl
    rw [e2]
    have hok := hN.ok.mono (b := s.length) hN.as
    have noA := hN.noA
    have oka := hN.ok
    generalize hf : atW s l = f at hok noA oka ⊢
    generalize hz : s.length = z at hok h3 ⊢
    refine pwp_loopB (fun k : Nat => [(1, .loc 0 0), (2, .loc 1 0), (3, dlet (seg f 0 k)), (4, dlet (seg f k n))]) (fun _ => [.row true [dlet (seg f 0 z), dlet l], .row true [.sc (.slice none 0 0), .sc (.slice none 0 0)]])
      (fun k => a ≤ k ∧ k ≤ z) (fun k => k) z ⟨h3, by omega⟩ ?_ ?_
    · refine leB_env ?_
      exact ⟨rfl, rfl, rfl, rfl, trivial⟩
    clear e1 e2 em hT g1 hq next
    rintro k ⟨hk1, hk2⟩
    have hper := oka.mono hk1
    have l1 := seg_len f 0 k
    have l2 := seg_len f k n
    have done : (k = 0 ∨ f (k - 1) ≠ f (k + n - 1)) → k = a := fun h => by
      rcases Nat.lt_or_ge a k with q | q
      · rcases h with h | h
        · omega
        · have := oka (k - 1) (by omega)
          rw [show k - 1 + n = k + n - 1 by omega] at this
          exact absurd this.symm h
      · omega
    unfold dlet
    (apply rd_sound; focus (repeat' constructor))
    ((conv=>whnf);repeat(refine .intro rfl ?_;conv=>whnf))
    rw [List.length_map, l1]
    have fin : ∀ {H : List AObj}, k = a → Deep H (D.agg [dlet (seg f 0 k), dlet (seg f k n)]) (D.agg [dlet (seg f 0 a), dlet (seg f a n)]) := fun h => h ▸ .refl _
    (refine ifK_split (fun g2 => ?_) (fun g2 => ?_) <;> (rw [g2]; ((conv=>whnf);repeat(refine .intro rfl ?_;conv=>whnf))))
    · have hk : 1 ≤ k := by ((try simp only[oo,reduceCtorEq]at*)<;>omega)
      rw [List.length_map, l1]
      refine .inl ⟨by unfold InR; rw [IntKind.wrap_i64]; omega, ?_⟩
      ((conv=>whnf);repeat(refine .intro rfl ?_;conv=>whnf))
      obtain ⟨q1, q2⟩ := let_atZ (l := seg f 0 k) (z := (k : Int) - 1) (k - 1) (by omega) (by omega)
      refine ⟨q1, _, q2, ?_⟩
      ((conv=>whnf);repeat(refine .intro rfl ?_;conv=>whnf))
      rw [List.length_map, l2]
      refine .inl ⟨by unfold InR; rw [IntKind.wrap_i64]; omega, ?_⟩
      ((conv=>whnf);repeat(refine .intro rfl ?_;conv=>whnf))
      obtain ⟨q3, q4⟩ := let_atZ (l := seg f k n) (z := (n : Int) - 1) (n - 1) (by omega) (by omega)
      refine ⟨q3, _, q4, ?_⟩
      ((conv=>whnf);repeat(refine .intro rfl ?_;conv=>whnf))
      rw [seg_getD (by omega), seg_getD (by omega), Nat.zero_add, show k + (n - 1) = k + n - 1 by omega]
      (refine ifK_split (fun g3 => ?_) (fun g3 => ?_) <;> (rw [g3]; ((conv=>whnf);repeat(refine .intro rfl ?_;conv=>whnf))))
      · have g3 : f (k - 1) = f (k + n - 1) := by simpa using g3
        rw [List.length_map, l1]
        refine .inl ⟨by unfold InR; rw [IntKind.wrap_i64]; omega, ?_⟩
        ((conv=>whnf);repeat(refine .intro rfl ?_;conv=>whnf))
        refine ⟨by omega, by omega, by simp only [List.length_map]; omega, ?_⟩
        ((conv=>whnf);repeat(refine .intro rfl ?_;conv=>whnf))
        rw [List.length_map, l2]
        refine .inl ⟨by unfold InR; rw [IntKind.wrap_i64]; omega, ?_⟩
        ((conv=>whnf);repeat(refine .intro rfl ?_;conv=>whnf))
        refine ⟨q3, _, q4, ?_⟩
        ((conv=>whnf);repeat(refine .intro rfl ?_;conv=>whnf))
        rw [List.length_map, l2]
        refine .inl ⟨by unfold InR; rw [IntKind.wrap_i64]; omega, ?_⟩
        ((conv=>whnf);repeat(refine .intro rfl ?_;conv=>whnf))
        refine ⟨by omega, by omega, by simp only [List.length_map]; omega, ?_⟩
        ((conv=>whnf);repeat(refine .intro rfl ?_;conv=>whnf))
        refine ⟨by unfold sliceAppend; simp only [List.length_map, List.length_drop, List.length_take]; omega, ?_⟩
        ((conv=>whnf);repeat(refine .intro rfl ?_;conv=>whnf))
        have w1 : List.drop 0 (List.take ((k : Int) - 1).toNat ((seg f 0 k).map fun n => [D.sc (.int .u64 n)])) = (seg f 0 (k - 1)).map fun n => [D.sc (.int .u64 n)] := by
          rw [map_take, List.drop_zero, seg_take (by omega)]
          congr 2
          omega
        refine ⟨k - 1, ⟨?_, by omega⟩, by dsimp only; omega, leB_close 2 (by simp) rfl ⟨.refl _, by simp [Under], .refl _, by simp [Under], ?_, under_pure _ (pure_dlet _), ?_, under_pure _ (pure_dlet _), trivial⟩
          ⟨⟨rfl, .refl _, underL_pure _ (pure_wcells (seg f 0 z) l)⟩, ⟨rfl, .refl _, by simp [UnderL, Under]⟩, trivial⟩⟩
        · rcases Nat.lt_or_ge a k with q | q
          · omega
          · exfalso
            have hka : k = a := by omega
            subst hka
            exact noA (k - 1) (by omega) (fun i hi => by
              by_cases e : i = k - 1
              · rw [e, show k - 1 + n = k + n - 1 by omega]; exact g3.symm
              · exact oka i (by omega))
        · show DeepM _ _ (D.lst 1 (List.drop 0 (List.take ((k : Int) - 1).toNat ((seg f 0 k).map fun n => [D.sc (.int .u64 n)])))) _
          rw [w1]
          exact .refl _
        · refine DeepM.own _ _ _ _ _ _ _ _ rfl rfl ?_
          refine deepMLL_eq ?_
          have e3 := seg_prev (f := f) (k := k) (p := n) hk hn1 (by rw [show k - 1 + n = k + n - 1 by omega]; exact g3.symm)
          have e4 : ∀ (x : Int) (xs : List (List D)), List.drop 0 (List.take (1 + xs.length) (List.drop 0 (List.take 1 [[D.sc (.int .u64 x)]]) ++ xs)) = [D.sc (.int .u64 x)] :: xs := fun x xs => by
            simp [Nat.add_comm 1]
          have e5 : (List.drop 0 (List.take ((n : Int) - 1).toNat ((seg f k n).map fun n => [D.sc (.int .u64 n)]))) = ((seg f k n).take (n - 1)).map fun n => [D.sc (.int .u64 n)] := by
            rw [map_take, List.drop_zero]
            congr 2
            omega
          refine (e4 _ _).trans ?_
          rw [e5, ← e3, seg_getD (by omega), show k + (n - 1) = k + n - 1 by omega]
          rfl
      · have hka := done (.inr (by simpa using g3))
        (refine .inl ⟨_, (clone_u64 (seg f 0 k) (by omega)), ?_⟩; ((conv=>whnf);repeat(refine .intro rfl ?_;conv=>whnf)))
        exact fin hka
    · have hka := done (.inl (by ((try simp only[oo,reduceCtorEq]at*)<;>omega)))
      (refine .inl ⟨_, (clone_u64 (seg f 0 k) (by omega)), ?_⟩; ((conv=>whnf);repeat(refine .intro rfl ?_;conv=>whnf)))
      exact fin hka
  · by_cases hd : l.length % n = 0
    · have : turnsB l n = false := by rw [← Bool.not_eq_true, turnsB_iff]; exact fun h => hq ⟨hd, h⟩
      rw [this] at hT
      rw [decide_eq_true hd]
      ((conv=>whnf);repeat(refine .intro rfl ?_;conv=>whnf))
      (refine .inl ⟨_, hT, ?_⟩; ((conv=>whnf);repeat(refine .intro rfl ?_;conv=>whnf)))
      have hnp : n < p := by
        rcases Nat.lt_or_ge n p with q | q
        · exact q
        · have : n = p := by omega
          subst this
          exact absurd (turns_of_norm hN) hq
      refine .inl ⟨next hnp, ?_⟩
      ((conv=>whnf);repeat(refine .intro rfl ?_;conv=>whnf))
      exact ⟨n + 1, ⟨by omega, by omega⟩, by dsimp only; omega, le_env ⟨rfl, rfl, rfl, rfl, rfl, trivial⟩⟩
    · rw [decide_eq_false hd]
      ((conv=>whnf);repeat(refine .intro rfl ?_;conv=>whnf))
      have hnp : n < p := by
        rcases Nat.lt_or_ge n p with q | q
        · exact q
        · have : n = p := by omega
          subst this
          exact absurd (turns_of_norm hN).1 hd
      refine .inl ⟨next hnp, ?_⟩
      ((conv=>whnf);repeat(refine .intro rfl ?_;conv=>whnf))
      exact ⟨n + 1, ⟨by omega, by omega⟩, by dsimp only; omega, le_env ⟨rfl, rfl, rfl, rfl, rfl, trivial⟩⟩
end Go.Proofs.Ytfaekhadjlgbbaa
