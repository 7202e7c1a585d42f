/-
  The reader of formulas of all ways, over deep values: what stands behind a sign; all together. No statement is proved here.
-/
import Derived.Test.YtijeijfccgegaaaDoorCr2
namespace Go.Proofs.YtijeijfccgegaaaDoor
open Go.RowKit
set_option linter.unusedSimpArgs false
set_option linter.unusedVariables false
theorem eqS_as {x a : ByteArray} (h : eqS x a = true) (b : ByteArray) : eqS x b = eqS a b := by
  unfold eqS at *
  rw [beq_iff_eq.1 h]
theorem eqS_one {a b : UInt8} (h : (a == b) = false) : eqS (one a) (one b) = false := by
  unfold eqS one
  rw [ByteArray.toList_eq, ByteArray.toList_eq]
  show ([a] == [b]) = false
  simp [h]
def kE (e : Bool) (k : Int) : Int := if e then k else k + 4
def c125 : PC := .seq (.ops [q 4 (.alloc [(.int .i64 0), (.int .i64 0), (.slice none 0 0)]),q 5 (.move (.const (.nilIface)))] false) (.seq (.ops [qm 9 0,q 10 (.call 18 [(.tmp 9)])] false) (.seq (.ops [qm 12 0,q 13 (.call 19 [(.tmp 12)]),qm 11 13,q 14 (.ext 0 (.tmp 11)),q 15 (.ext 1 (.tmp 11)),q 6 (.alloc [(.int .i64 0), (.int .i64 0), (.slice none 0 0)]),qn (.store 3 (.tmp 6) (.tmp 14)),qm 7 15] false) (.seq (.seq (.ops [qm 16 7,q 17 (.isnil 1 false (.tmp 16)),qm 18 17,⟨some 19,.move (.tmp 0),some (18,true),0⟩,⟨some 20,.call 52 [(.tmp 19), (.const (.string ⟨#[85]⟩))],some (18,true),0⟩,⟨some 21,.un .not (.tmp 20),some (18,true),0⟩,q 22 (.pick (.tmp 18) (.tmp 21) (.const (.bool false)))] false) (.cond (.tmp 22) (.ops [qm 23 0,q 24 (.call 20 [(.tmp 23), (.const (.int .i64 3))]),qm 7 24] false) (.skip))) (.seq (.seq (.ops [qm 25 7,q 26 (.isnil 1 true (.tmp 25))] false) (.cond (.tmp 26) (.seq (.ops [q 27 (.loadA 3 (.tmp 6)),qm 28 7,qn (.store 3 (.tmp 4) (.tmp 27)),qm 5 28] false) (.ret)) (.skip))) (.seq (.ops [qm 30 0,q 31 (.call 19 [(.tmp 30)]),qm 29 31,q 32 (.ext 0 (.tmp 29)),q 33 (.ext 1 (.tmp 29)),q 8 (.alloc [(.int .i64 0), (.int .i64 0), (.slice none 0 0)]),qn (.store 3 (.tmp 8) (.tmp 32)),qm 7 33] false) (.seq (.seq (.ops [qm 34 7,q 35 (.isnil 1 false (.tmp 34)),qm 36 35,⟨some 37,.move (.tmp 0),some (36,true),0⟩,⟨some 38,.call 52 [(.tmp 37), (.const (.string ⟨#[93]⟩))],some (36,true),0⟩,⟨some 39,.un .not (.tmp 38),some (36,true),0⟩,q 40 (.pick (.tmp 36) (.tmp 39) (.const (.bool false)))] false) (.cond (.tmp 40) (.ops [qm 41 0,q 42 (.call 20 [(.tmp 41), (.const (.int .i64 3))]),qm 7 42] false) (.skip))) (.seq (.ops [qm 43 1,q 44 (.loadA 3 (.tmp 6)),q 45 (.loadA 3 (.tmp 8)),q 46 (.call 53 [(.tmp 43), (.tmp 44), (.tmp 45)]),qm 47 7,qn (.store 3 (.tmp 4) (.tmp 46)),qm 5 47] false) (.ret))))))))
set_option maxRecDepth 100000 in
theorem c125_ok : FunOK Tryd.prog 125 48 [.agg 4 3, .tmp 5] c125 := ⟨⟨Tryd.f125, Tryd.func125, rfl, by kernel_rfl, rfl, by kernel_rfl⟩⟩
theorem ctl_until (s : ByteArray) (hs : s.size ≤ 1000000000) (names : List ByteArray) (o : Nat) (f : Nat) (hp : ∀ f' n r, f' < f → runR (tokT s) names true f' .formula o n = some r → CAns s names 19 [.loc 0 0] n o r)
    (e : Bool) (n : Nat) (ht : eqS (tokT s n) (one 91) = true) (r : Res) (hr : runR (tokT s) names true f (.ways e) o n = some r) : CAns s names 125 [.loc 0 0, .sc (.int .i64 (if e then 10 else 14))] n o r := by
  cases f with
  | zero => simp [runR] at hr
  | succ f =>
    simp only [runR, if_pos ht] at hr
    generalize (if e then 10 else 14 : Int) = kd at hr ⊢
    have hN := ctl_nextT s hs names n o
    rcases bindR_some hr with ⟨a, m, h1, h2⟩ | ⟨c, m, t, y, h1, rfl⟩
    · have hA : ACall Tryd.prog 19 _ _ _ _ := hp f _ _ (by omega) h1
      have hT := ctl_take s hs names m o (one 85)
      by_cases hu : eqS (tokT s m) (one 85) = true
      · rw [if_pos hu] at h2 hT
        rw [hu] at hT
        rcases bindR_some h2 with ⟨b, k, h3, h4⟩ | ⟨c, k, t, y, h3, rfl⟩
        · have hB : ACall Tryd.prog 19 _ _ _ _ := hp f _ _ (by omega) h3
          have hT2 := ctl_take s hs names k o (one 93)
          by_cases hv : eqS (tokT s k) (one 93) = true
          · rw [if_pos hv] at h4 hT2
            rw [hv] at hT2
            cases h4
            refine acall_introD c125_ok (by simp) (by simp) ?_ (under_pure _ (pure_ans _ _ _))
            (apply rd_sound; focus (repeat' constructor))
            ((conv=>whnf);repeat(refine⟨rfl,?_⟩;conv=>whnf))
            (refine .inr (.inr (.inl ⟨rfl, _, _, (rdrP hN (by simp [UnderL, Under]) _), ?_⟩)); ((conv=>whnf);repeat(refine⟨rfl,?_⟩;conv=>whnf)))
            (refine .inr (.inr (.inl ⟨rfl, _, _, (rdrP hA (by simp [UnderL, Under]) _), ?_⟩)); ((conv=>whnf);repeat(refine⟨rfl,?_⟩;conv=>whnf)))
            (refine .inr (.inr (.inl ⟨rfl, _, _, (rdrP hT (by simp [UnderL, Under]) _), ?_⟩)); ((conv=>whnf);repeat(refine⟨rfl,?_⟩;conv=>whnf)))
            (refine .inr (.inr (.inl ⟨rfl, _, _, (rdrP hB (by simp [UnderL, Under]) _), ?_⟩)); ((conv=>whnf);repeat(refine⟨rfl,?_⟩;conv=>whnf)))
            (refine .inr (.inr (.inl ⟨rfl, _, _, (rdrP hT2 (by simp [UnderL, Under]) _), ?_⟩)); ((conv=>whnf);repeat(refine⟨rfl,?_⟩;conv=>whnf)))
            (refine .inl ⟨_, (ctl_twoT kd a b), ?_⟩; ((conv=>whnf);repeat(refine⟨rfl,?_⟩;conv=>whnf)))
            exact ⟨by (repeat' (first | exact trivial | exact DeepM.none _ | refine And.intro ?_ ?_ | exact Or.inl rfl | exact Or.inr ⟨rfl, rfl⟩ | exact fun _ => rfl | exact (fun h => by cases h) | refine DeepM.loc _ _ _ _ _ rfl rfl ?_ | refine DeepM.own _ _ _ _ _ _ _ _ rfl rfl ?_ | refine DeepM.fn _ _ _ _ _ ?_ ?_ | refine DeepM.agg _ _ ?_ | refine DeepM.tup _ _ ?_ | refine DeepM.ifc _ _ _ ?_ | exact DeepM.refl _ | refine DeepML.cons _ _ _ _ ?_ ?_ | exact DeepML.refl _ | refine DeepMLL.cons _ _ _ _ ?_ ?_ | exact DeepMLL.refl _ | exact rfl)), close_one (pure_rdr _ _ _ _)⟩
          · rw [if_neg hv] at h4 hT2
            rw [show eqS (tokT s k) (one 93) = false by simpa using hv] at hT2
            have hW := ctl_wrong s names k o 3
            cases h4
            refine acall_introD c125_ok (by simp) (by simp) ?_ (under_pure _ (pure_ans _ _ _))
            (apply rd_sound; focus (repeat' constructor))
            ((conv=>whnf);repeat(refine⟨rfl,?_⟩;conv=>whnf))
            (refine .inr (.inr (.inl ⟨rfl, _, _, (rdrP hN (by simp [UnderL, Under]) _), ?_⟩)); ((conv=>whnf);repeat(refine⟨rfl,?_⟩;conv=>whnf)))
            (refine .inr (.inr (.inl ⟨rfl, _, _, (rdrP hA (by simp [UnderL, Under]) _), ?_⟩)); ((conv=>whnf);repeat(refine⟨rfl,?_⟩;conv=>whnf)))
            (refine .inr (.inr (.inl ⟨rfl, _, _, (rdrP hT (by simp [UnderL, Under]) _), ?_⟩)); ((conv=>whnf);repeat(refine⟨rfl,?_⟩;conv=>whnf)))
            (refine .inr (.inr (.inl ⟨rfl, _, _, (rdrP hB (by simp [UnderL, Under]) _), ?_⟩)); ((conv=>whnf);repeat(refine⟨rfl,?_⟩;conv=>whnf)))
            (refine .inr (.inr (.inl ⟨rfl, _, _, (rdrP hT2 (by simp [UnderL, Under]) _), ?_⟩)); ((conv=>whnf);repeat(refine⟨rfl,?_⟩;conv=>whnf)))
            (refine .inr (.inr (.inl ⟨rfl, _, _, (rdrP hW (by simp [UnderL, Under]) _), ?_⟩)); ((conv=>whnf);repeat(refine⟨rfl,?_⟩;conv=>whnf)))
            (refine .inl ⟨_, (ctl_twoT kd a b), ?_⟩; ((conv=>whnf);repeat(refine⟨rfl,?_⟩;conv=>whnf)))
            exact ⟨by (repeat' (first | exact trivial | exact DeepM.none _ | refine And.intro ?_ ?_ | exact Or.inl rfl | exact Or.inr ⟨rfl, rfl⟩ | exact fun _ => rfl | exact (fun h => by cases h) | refine DeepM.loc _ _ _ _ _ rfl rfl ?_ | refine DeepM.own _ _ _ _ _ _ _ _ rfl rfl ?_ | refine DeepM.fn _ _ _ _ _ ?_ ?_ | refine DeepM.agg _ _ ?_ | refine DeepM.tup _ _ ?_ | refine DeepM.ifc _ _ _ ?_ | exact DeepM.refl _ | refine DeepML.cons _ _ _ _ ?_ ?_ | exact DeepML.refl _ | refine DeepMLL.cons _ _ _ _ ?_ ?_ | exact DeepMLL.refl _ | exact rfl)), close_one (pure_rdr _ _ _ _)⟩
        · have hB : ACall Tryd.prog 19 _ _ _ _ := hp f _ _ (by omega) h3
          refine acall_introD c125_ok (by simp) (by simp) ?_ (under_pure _ (pure_ans _ _ _))
          (apply rd_sound; focus (repeat' constructor))
          ((conv=>whnf);repeat(refine⟨rfl,?_⟩;conv=>whnf))
          (refine .inr (.inr (.inl ⟨rfl, _, _, (rdrP hN (by simp [UnderL, Under]) _), ?_⟩)); ((conv=>whnf);repeat(refine⟨rfl,?_⟩;conv=>whnf)))
          (refine .inr (.inr (.inl ⟨rfl, _, _, (rdrP hA (by simp [UnderL, Under]) _), ?_⟩)); ((conv=>whnf);repeat(refine⟨rfl,?_⟩;conv=>whnf)))
          (refine .inr (.inr (.inl ⟨rfl, _, _, (rdrP hT (by simp [UnderL, Under]) _), ?_⟩)); ((conv=>whnf);repeat(refine⟨rfl,?_⟩;conv=>whnf)))
          (refine .inr (.inr (.inl ⟨rfl, _, _, (rdrP hB (by simp [UnderL, Under]) _), ?_⟩)); ((conv=>whnf);repeat(refine⟨rfl,?_⟩;conv=>whnf)))
          (refine .inl ⟨_, (ctl_twoT kd a t), ?_⟩; ((conv=>whnf);repeat(refine⟨rfl,?_⟩;conv=>whnf)))
          exact ⟨by (repeat' (first | exact trivial | exact DeepM.none _ | refine And.intro ?_ ?_ | exact Or.inl rfl | exact Or.inr ⟨rfl, rfl⟩ | exact fun _ => rfl | exact (fun h => by cases h) | refine DeepM.loc _ _ _ _ _ rfl rfl ?_ | refine DeepM.own _ _ _ _ _ _ _ _ rfl rfl ?_ | refine DeepM.fn _ _ _ _ _ ?_ ?_ | refine DeepM.agg _ _ ?_ | refine DeepM.tup _ _ ?_ | refine DeepM.ifc _ _ _ ?_ | exact DeepM.refl _ | refine DeepML.cons _ _ _ _ ?_ ?_ | exact DeepML.refl _ | refine DeepMLL.cons _ _ _ _ ?_ ?_ | exact DeepMLL.refl _ | exact rfl)), close_one (pure_rdr _ _ _ _)⟩
      · rw [if_neg hu] at h2 hT
        rw [show eqS (tokT s m) (one 85) = false by simpa using hu] at hT
        have hW := ctl_wrong s names m o 3
        cases h2
        refine acall_introD c125_ok (by simp) (by simp) ?_ (under_pure _ (pure_ans _ _ _))
        (apply rd_sound; focus (repeat' constructor))
        ((conv=>whnf);repeat(refine⟨rfl,?_⟩;conv=>whnf))
        (refine .inr (.inr (.inl ⟨rfl, _, _, (rdrP hN (by simp [UnderL, Under]) _), ?_⟩)); ((conv=>whnf);repeat(refine⟨rfl,?_⟩;conv=>whnf)))
        (refine .inr (.inr (.inl ⟨rfl, _, _, (rdrP hA (by simp [UnderL, Under]) _), ?_⟩)); ((conv=>whnf);repeat(refine⟨rfl,?_⟩;conv=>whnf)))
        (refine .inr (.inr (.inl ⟨rfl, _, _, (rdrP hT (by simp [UnderL, Under]) _), ?_⟩)); ((conv=>whnf);repeat(refine⟨rfl,?_⟩;conv=>whnf)))
        (refine .inr (.inr (.inl ⟨rfl, _, _, (rdrP hW (by simp [UnderL, Under]) _), ?_⟩)); ((conv=>whnf);repeat(refine⟨rfl,?_⟩;conv=>whnf)))
        exact ⟨by (repeat' (first | exact trivial | exact DeepM.none _ | refine And.intro ?_ ?_ | exact Or.inl rfl | exact Or.inr ⟨rfl, rfl⟩ | exact fun _ => rfl | exact (fun h => by cases h) | refine DeepM.loc _ _ _ _ _ rfl rfl ?_ | refine DeepM.own _ _ _ _ _ _ _ _ rfl rfl ?_ | refine DeepM.fn _ _ _ _ _ ?_ ?_ | refine DeepM.agg _ _ ?_ | refine DeepM.tup _ _ ?_ | refine DeepM.ifc _ _ _ ?_ | exact DeepM.refl _ | refine DeepML.cons _ _ _ _ ?_ ?_ | exact DeepML.refl _ | refine DeepMLL.cons _ _ _ _ ?_ ?_ | exact DeepMLL.refl _ | exact rfl)), close_one (pure_rdr _ _ _ _)⟩
    · have hA : ACall Tryd.prog 19 _ _ _ _ := hp f _ _ (by omega) h1
      refine acall_introD c125_ok (by simp) (by simp) ?_ (under_pure _ (pure_ans _ _ _))
      (apply rd_sound; focus (repeat' constructor))
      ((conv=>whnf);repeat(refine⟨rfl,?_⟩;conv=>whnf))
      (refine .inr (.inr (.inl ⟨rfl, _, _, (rdrP hN (by simp [UnderL, Under]) _), ?_⟩)); ((conv=>whnf);repeat(refine⟨rfl,?_⟩;conv=>whnf)))
      (refine .inr (.inr (.inl ⟨rfl, _, _, (rdrP hA (by simp [UnderL, Under]) _), ?_⟩)); ((conv=>whnf);repeat(refine⟨rfl,?_⟩;conv=>whnf)))
      exact ⟨by (repeat' (first | exact trivial | exact DeepM.none _ | refine And.intro ?_ ?_ | exact Or.inl rfl | exact Or.inr ⟨rfl, rfl⟩ | exact fun _ => rfl | exact (fun h => by cases h) | refine DeepM.loc _ _ _ _ _ rfl rfl ?_ | refine DeepM.own _ _ _ _ _ _ _ _ rfl rfl ?_ | refine DeepM.fn _ _ _ _ _ ?_ ?_ | refine DeepM.agg _ _ ?_ | refine DeepM.tup _ _ ?_ | refine DeepM.ifc _ _ _ ?_ | exact DeepM.refl _ | refine DeepML.cons _ _ _ _ ?_ ?_ | exact DeepML.refl _ | refine DeepMLL.cons _ _ _ _ ?_ ?_ | exact DeepMLL.refl _ | exact rfl)), close_one (pure_rdr _ _ _ _)⟩
def c108 : PC := .seq (.ops [q 10 (.alloc [(.int .i64 0), (.int .i64 0), (.slice none 0 0)]),q 11 (.move (.const (.nilIface)))] false) (.seq (.ops [q 12 (.move (.const (.int .i64 0)))] false) (.seq (.seq (.ops [qm 15 0,q 16 (.nilchk (.tmp 15)),q 17 (.faddr 2 (.tmp 16)),q 18 (.load1 (.tmp 17))] false) (.block 0 (.seq (.ops [q 23 (.bin .eql (.tmp 18) (.const (.string ⟨#[88]⟩))),qm 22 23] false) (.cond (.tmp 22) (.ops [qm 24 1,qm 12 24] false) (.seq (.ops [q 26 (.bin .eql (.tmp 18) (.const (.string ⟨#[70]⟩))),qm 25 26] false) (.cond (.tmp 25) (.ops [qm 27 2,qm 12 27] false) (.seq (.ops [q 29 (.bin .eql (.tmp 18) (.const (.string ⟨#[71]⟩))),qm 28 29] false) (.cond (.tmp 28) (.ops [qm 30 3,qm 12 30] false) (.seq (.ops [q 32 (.bin .eql (.tmp 18) (.const (.string ⟨#[91]⟩))),qm 31 32] false) (.cond (.tmp 31) (.seq (.ops [qm 33 0,qm 34 4,q 35 (.call 125 [(.tmp 33), (.tmp 34)]),q 36 (.ext 0 (.tmp 35)),q 37 (.ext 1 (.tmp 35)),qn (.store 3 (.tmp 10) (.tmp 36)),qm 11 37] false) (.ret)) (.seq (.ops [q 19 (.build [(.int .i64 0), (.int .i64 0), (.slice none 0 0)] []),qm 20 0,q 21 (.call 20 [(.tmp 20), (.const (.int .i64 3))]),qn (.store 3 (.tmp 10) (.tmp 19)),qm 11 21] false) (.ret)))))))))))) (.seq (.ops [qm 38 0,q 39 (.call 18 [(.tmp 38)])] false) (.seq (.ops [qm 41 0,q 42 (.call 88 [(.tmp 41)]),qm 40 42,q 43 (.ext 0 (.tmp 40)),q 44 (.ext 1 (.tmp 40)),q 13 (.alloc [(.int .i64 0), (.int .i64 0), (.slice none 0 0)]),qn (.store 3 (.tmp 13) (.tmp 43)),qm 14 44] false) (.seq (.ops [qm 45 12,q 46 (.loadA 3 (.tmp 13)),q 47 (.call 54 [(.tmp 45), (.tmp 46)]),qm 48 14,qn (.store 3 (.tmp 10) (.tmp 47)),qm 11 48] false) (.ret))))))
set_option maxRecDepth 100000 in
theorem c108_ok : FunOK Tryd.prog 108 49 [.agg 10 3, .tmp 11] c108 := ⟨⟨Tryd.f108, Tryd.func108, rfl, by kernel_rfl, rfl, by kernel_rfl⟩⟩
theorem ctl_ways (s : ByteArray) (hs : s.size ≤ 1000000000) (names : List ByteArray) (o : Nat) (f : Nat) (hp : ∀ f' n r, f' < f → runR (tokT s) names true f' .formula o n = some r → CAns s names 19 [.loc 0 0] n o r)
    (hq : ∀ f' n r, f' < f → runR (tokT s) names true f' .single o n = some r → CAns s names 88 [.loc 0 0] n o r)
    (e : Bool) (n : Nat) (r : Res) (hr : runR (tokT s) names true f (.ways e) o n = some r) : CAns s names 108 [.loc 0 0, .sc (.int .i64 (kE e 7)), .sc (.int .i64 (kE e 8)), .sc (.int .i64 (kE e 9)), .sc (.int .i64 (kE e 10))] n o r := by
  by_cases hB : eqS (tokT s n) (one 91) = true
  · have hU : ACall Tryd.prog 125 _ _ _ _ := ctl_until s hs names o f hp e n hB r hr
    have k1 : eqS (tokT s n) (one 88) = false := (eqS_as hB _).trans (eqS_one rfl)
    have k2 : eqS (tokT s n) (one 70) = false := (eqS_as hB _).trans (eqS_one rfl)
    have k3 : eqS (tokT s n) (one 71) = false := (eqS_as hB _).trans (eqS_one rfl)
    rw [show (if e then 10 else 14 : Int) = kE e 10 by cases e <;> rfl] at hU
    refine acall_introD c108_ok (by simp) (by simp) ?_ (under_pure _ (pure_ans _ _ _))
    (apply rd_sound; focus (repeat' constructor))
    ((conv=>whnf);repeat(refine⟨rfl,?_⟩;conv=>whnf))
    (repeat (first | (refine ifK_t ‹_› ?_; ((conv=>whnf);repeat(refine⟨rfl,?_⟩;conv=>whnf))) | (refine ifK_f ‹_› ?_; ((conv=>whnf);repeat(refine⟨rfl,?_⟩;conv=>whnf)))))
    (refine .inr (.inr (.inl ⟨rfl, _, _, (rdrP hU (by simp [UnderL, Under]) _), ?_⟩)); ((conv=>whnf);repeat(refine⟨rfl,?_⟩;conv=>whnf)))
    exact ⟨by (repeat' (first | exact trivial | exact DeepM.none _ | refine And.intro ?_ ?_ | exact Or.inl rfl | exact Or.inr ⟨rfl, rfl⟩ | exact fun _ => rfl | exact (fun h => by cases h) | refine DeepM.loc _ _ _ _ _ rfl rfl ?_ | refine DeepM.own _ _ _ _ _ _ _ _ rfl rfl ?_ | refine DeepM.fn _ _ _ _ _ ?_ ?_ | refine DeepM.agg _ _ ?_ | refine DeepM.tup _ _ ?_ | refine DeepM.ifc _ _ _ ?_ | exact DeepM.refl _ | refine DeepML.cons _ _ _ _ ?_ ?_ | exact DeepML.refl _ | refine DeepMLL.cons _ _ _ _ ?_ ?_ | exact DeepMLL.refl _ | exact rfl)), close_one (pure_rdr _ _ _ _)⟩
  cases f with
  | zero => simp [runR] at hr
  | succ f =>
    simp only [runR, if_neg hB] at hr
    have hB : eqS (tokT s n) (one 91) = false := by simpa using hB
    have hN := ctl_nextT s hs names n o
    by_cases hk : wayK (tokT s n) = 0
    · rw [if_neg (by simpa using hk)] at hr
      have k1 : eqS (tokT s n) (one 88) = false := by
        cases h : eqS (tokT s n) (one 88) with
        | false => rfl
        | true => simp [wayK, h] at hk
      have k2 : eqS (tokT s n) (one 70) = false := by
        cases h : eqS (tokT s n) (one 70) with
        | false => rfl
        | true => simp [wayK, k1, h] at hk
      have k3 : eqS (tokT s n) (one 71) = false := by
        cases h : eqS (tokT s n) (one 71) with
        | false => rfl
        | true => simp [wayK, k1, k2, h] at hk
      cases hr
      have hW := ctl_wrong s names n o 3
      refine acall_introD c108_ok (by simp) (by simp) ?_ (under_pure _ (pure_ans _ _ _))
      (apply rd_sound; focus (repeat' constructor))
      ((conv=>whnf);repeat(refine⟨rfl,?_⟩;conv=>whnf))
      (repeat (first | (refine ifK_t ‹_› ?_; ((conv=>whnf);repeat(refine⟨rfl,?_⟩;conv=>whnf))) | (refine ifK_f ‹_› ?_; ((conv=>whnf);repeat(refine⟨rfl,?_⟩;conv=>whnf)))))
      (refine .inr (.inr (.inl ⟨rfl, _, _, (rdrP hW (by simp [UnderL, Under]) _), ?_⟩)); ((conv=>whnf);repeat(refine⟨rfl,?_⟩;conv=>whnf)))
      exact ⟨by (repeat' (first | exact trivial | exact DeepM.none _ | refine And.intro ?_ ?_ | exact Or.inl rfl | exact Or.inr ⟨rfl, rfl⟩ | exact fun _ => rfl | exact (fun h => by cases h) | refine DeepM.loc _ _ _ _ _ rfl rfl ?_ | refine DeepM.own _ _ _ _ _ _ _ _ rfl rfl ?_ | refine DeepM.fn _ _ _ _ _ ?_ ?_ | refine DeepM.agg _ _ ?_ | refine DeepM.tup _ _ ?_ | refine DeepM.ifc _ _ _ ?_ | exact DeepM.refl _ | refine DeepML.cons _ _ _ _ ?_ ?_ | exact DeepML.refl _ | refine DeepMLL.cons _ _ _ _ ?_ ?_ | exact DeepMLL.refl _ | exact rfl)), close_one (pure_rdr _ _ _ _)⟩
    · rw [if_pos hk] at hr
      obtain ⟨q, h1, e1, e2, e3⟩ : ∃ q, runR (tokT s) names true f .single o (n + 1) = some q ∧ r.tree = mk1 (kE e (wayK (tokT s n))) q.tree ∧ r.pos = q.pos ∧ r.err s = q.err s := by
        rcases bindR_some hr with ⟨a, m, h1, h2⟩ | ⟨c, m, t, y, h1, rfl⟩
        · cases h2; exact ⟨_, h1, rfl, rfl, rfl⟩
        · exact ⟨_, h1, rfl, rfl, rfl⟩
      have hA : ACall Tryd.prog 88 _ _ _ _ := hq f _ _ (by omega) h1
      unfold CAns
      rw [e1, e2, e3]
      refine acall_introD c108_ok (by simp) (by simp) ?_ (under_pure _ (pure_ans _ _ _))
      by_cases gX : eqS (tokT s n) (one 88) = true
      · rw [show wayK (tokT s n) = 7 by simp_all [wayK]]
        (apply rd_sound; focus (repeat' constructor))
        ((conv=>whnf);repeat(refine⟨rfl,?_⟩;conv=>whnf))
        (repeat (first | (refine ifK_t ‹_› ?_; ((conv=>whnf);repeat(refine⟨rfl,?_⟩;conv=>whnf))) | (refine ifK_f ‹_› ?_; ((conv=>whnf);repeat(refine⟨rfl,?_⟩;conv=>whnf)))))
        (refine .inr (.inr (.inl ⟨rfl, _, _, (rdrP hN (by simp [UnderL, Under]) _), ?_⟩)); ((conv=>whnf);repeat(refine⟨rfl,?_⟩;conv=>whnf)))
        (refine .inr (.inr (.inl ⟨rfl, _, _, (rdrP hA (by simp [UnderL, Under]) _), ?_⟩)); ((conv=>whnf);repeat(refine⟨rfl,?_⟩;conv=>whnf)))
        (refine .inl ⟨_, (ctl_oneT (kE e 7) q.tree), ?_⟩; ((conv=>whnf);repeat(refine⟨rfl,?_⟩;conv=>whnf)))
        exact ⟨by (repeat' (first | exact trivial | exact DeepM.none _ | refine And.intro ?_ ?_ | exact Or.inl rfl | exact Or.inr ⟨rfl, rfl⟩ | exact fun _ => rfl | exact (fun h => by cases h) | refine DeepM.loc _ _ _ _ _ rfl rfl ?_ | refine DeepM.own _ _ _ _ _ _ _ _ rfl rfl ?_ | refine DeepM.fn _ _ _ _ _ ?_ ?_ | refine DeepM.agg _ _ ?_ | refine DeepM.tup _ _ ?_ | refine DeepM.ifc _ _ _ ?_ | exact DeepM.refl _ | refine DeepML.cons _ _ _ _ ?_ ?_ | exact DeepML.refl _ | refine DeepMLL.cons _ _ _ _ ?_ ?_ | exact DeepMLL.refl _ | exact rfl)), close_one (pure_rdr _ _ _ _)⟩
      have gX : eqS (tokT s n) (one 88) = false := by simpa using gX
      by_cases gF : eqS (tokT s n) (one 70) = true
      · rw [show wayK (tokT s n) = 8 by simp_all [wayK]]
        (apply rd_sound; focus (repeat' constructor))
        ((conv=>whnf);repeat(refine⟨rfl,?_⟩;conv=>whnf))
        (repeat (first | (refine ifK_t ‹_› ?_; ((conv=>whnf);repeat(refine⟨rfl,?_⟩;conv=>whnf))) | (refine ifK_f ‹_› ?_; ((conv=>whnf);repeat(refine⟨rfl,?_⟩;conv=>whnf)))))
        (refine .inr (.inr (.inl ⟨rfl, _, _, (rdrP hN (by simp [UnderL, Under]) _), ?_⟩)); ((conv=>whnf);repeat(refine⟨rfl,?_⟩;conv=>whnf)))
        (refine .inr (.inr (.inl ⟨rfl, _, _, (rdrP hA (by simp [UnderL, Under]) _), ?_⟩)); ((conv=>whnf);repeat(refine⟨rfl,?_⟩;conv=>whnf)))
        (refine .inl ⟨_, (ctl_oneT (kE e 8) q.tree), ?_⟩; ((conv=>whnf);repeat(refine⟨rfl,?_⟩;conv=>whnf)))
        exact ⟨by (repeat' (first | exact trivial | exact DeepM.none _ | refine And.intro ?_ ?_ | exact Or.inl rfl | exact Or.inr ⟨rfl, rfl⟩ | exact fun _ => rfl | exact (fun h => by cases h) | refine DeepM.loc _ _ _ _ _ rfl rfl ?_ | refine DeepM.own _ _ _ _ _ _ _ _ rfl rfl ?_ | refine DeepM.fn _ _ _ _ _ ?_ ?_ | refine DeepM.agg _ _ ?_ | refine DeepM.tup _ _ ?_ | refine DeepM.ifc _ _ _ ?_ | exact DeepM.refl _ | refine DeepML.cons _ _ _ _ ?_ ?_ | exact DeepML.refl _ | refine DeepMLL.cons _ _ _ _ ?_ ?_ | exact DeepMLL.refl _ | exact rfl)), close_one (pure_rdr _ _ _ _)⟩
      have gF : eqS (tokT s n) (one 70) = false := by simpa using gF
      by_cases gG : eqS (tokT s n) (one 71) = true
      · rw [show wayK (tokT s n) = 9 by simp_all [wayK]]
        (apply rd_sound; focus (repeat' constructor))
        ((conv=>whnf);repeat(refine⟨rfl,?_⟩;conv=>whnf))
        (repeat (first | (refine ifK_t ‹_› ?_; ((conv=>whnf);repeat(refine⟨rfl,?_⟩;conv=>whnf))) | (refine ifK_f ‹_› ?_; ((conv=>whnf);repeat(refine⟨rfl,?_⟩;conv=>whnf)))))
        (refine .inr (.inr (.inl ⟨rfl, _, _, (rdrP hN (by simp [UnderL, Under]) _), ?_⟩)); ((conv=>whnf);repeat(refine⟨rfl,?_⟩;conv=>whnf)))
        (refine .inr (.inr (.inl ⟨rfl, _, _, (rdrP hA (by simp [UnderL, Under]) _), ?_⟩)); ((conv=>whnf);repeat(refine⟨rfl,?_⟩;conv=>whnf)))
        (refine .inl ⟨_, (ctl_oneT (kE e 9) q.tree), ?_⟩; ((conv=>whnf);repeat(refine⟨rfl,?_⟩;conv=>whnf)))
        exact ⟨by (repeat' (first | exact trivial | exact DeepM.none _ | refine And.intro ?_ ?_ | exact Or.inl rfl | exact Or.inr ⟨rfl, rfl⟩ | exact fun _ => rfl | exact (fun h => by cases h) | refine DeepM.loc _ _ _ _ _ rfl rfl ?_ | refine DeepM.own _ _ _ _ _ _ _ _ rfl rfl ?_ | refine DeepM.fn _ _ _ _ _ ?_ ?_ | refine DeepM.agg _ _ ?_ | refine DeepM.tup _ _ ?_ | refine DeepM.ifc _ _ _ ?_ | exact DeepM.refl _ | refine DeepML.cons _ _ _ _ ?_ ?_ | exact DeepML.refl _ | refine DeepMLL.cons _ _ _ _ ?_ ?_ | exact DeepMLL.refl _ | exact rfl)), close_one (pure_rdr _ _ _ _)⟩
      have gG : eqS (tokT s n) (one 71) = false := by simpa using gG
      exact absurd (by simp [wayK, gX, gF, gG]) hk
def c107 : PC := .seq (.ops [q 1 (.alloc [(.int .i64 0), (.int .i64 0), (.slice none 0 0)]),q 2 (.move (.const (.nilIface)))] false) (.seq (.ops [q 3 (.load1 (.tmp 0)),q 4 (.call 108 [(.tmp 3), (.const (.int .i64 7)), (.const (.int .i64 8)), (.const (.int .i64 9)), (.const (.int .i64 10))]),q 5 (.ext 0 (.tmp 4)),q 6 (.ext 1 (.tmp 4)),qn (.store 3 (.tmp 1) (.tmp 5)),qm 2 6] false) (.ret))
set_option maxRecDepth 100000 in
theorem c107_ok : FunOK Tryd.prog 107 7 [.agg 1 3, .tmp 2] c107 := ⟨⟨Tryd.f107, Tryd.func107, rfl, by kernel_rfl, rfl, by kernel_rfl⟩⟩
theorem ctl_single1 (s : ByteArray) (names : List ByteArray) (n o : Nat) (r : Res) (h : CAns s names 108 [.loc 0 0, .sc (.int .i64 (kE true 7)), .sc (.int .i64 (kE true 8)), .sc (.int .i64 (kE true 9)), .sc (.int .i64 (kE true 10))] n o r) : CAns2 s names 107 [.loc 1 0] n o r := by
  have hA : ACall Tryd.prog 108 _ _ _ _ := h
  refine acall_introD c107_ok (by simp) (by simp) ?_ (under_pure _ (pure_ans _ _ _))
  (apply rd_sound; focus (repeat' constructor))
  ((conv=>whnf);repeat(refine⟨rfl,?_⟩;conv=>whnf))
  (refine .inr (.inr (.inl ⟨rfl, _, _, (rdrP hA (by simp [UnderL, Under]) _), ?_⟩)); ((conv=>whnf);repeat(refine⟨rfl,?_⟩;conv=>whnf)))
  exact ⟨by (repeat' (first | exact trivial | exact DeepM.none _ | refine And.intro ?_ ?_ | exact Or.inl rfl | exact Or.inr ⟨rfl, rfl⟩ | exact fun _ => rfl | exact (fun h => by cases h) | refine DeepM.loc _ _ _ _ _ rfl rfl ?_ | refine DeepM.own _ _ _ _ _ _ _ _ rfl rfl ?_ | refine DeepM.fn _ _ _ _ _ ?_ ?_ | refine DeepM.agg _ _ ?_ | refine DeepM.tup _ _ ?_ | refine DeepM.ifc _ _ _ ?_ | exact DeepM.refl _ | refine DeepML.cons _ _ _ _ ?_ ?_ | exact DeepML.refl _ | refine DeepMLL.cons _ _ _ _ ?_ ?_ | exact DeepMLL.refl _ | exact rfl)), close_two (pure_rdr _ _ _ _)⟩
def c109 : PC := .seq (.ops [q 1 (.alloc [(.int .i64 0), (.int .i64 0), (.slice none 0 0)]),q 2 (.move (.const (.nilIface)))] false) (.seq (.ops [q 3 (.load1 (.tmp 0)),q 4 (.call 108 [(.tmp 3), (.const (.int .i64 11)), (.const (.int .i64 12)), (.const (.int .i64 13)), (.const (.int .i64 14))]),q 5 (.ext 0 (.tmp 4)),q 6 (.ext 1 (.tmp 4)),qn (.store 3 (.tmp 1) (.tmp 5)),qm 2 6] false) (.ret))
set_option maxRecDepth 100000 in
theorem c109_ok : FunOK Tryd.prog 109 7 [.agg 1 3, .tmp 2] c109 := ⟨⟨Tryd.f109, Tryd.func109, rfl, by kernel_rfl, rfl, by kernel_rfl⟩⟩
theorem ctl_single2 (s : ByteArray) (names : List ByteArray) (n o : Nat) (r : Res) (h : CAns s names 108 [.loc 0 0, .sc (.int .i64 (kE false 7)), .sc (.int .i64 (kE false 8)), .sc (.int .i64 (kE false 9)), .sc (.int .i64 (kE false 10))] n o r) : CAns2 s names 109 [.loc 1 0] n o r := by
  have hA : ACall Tryd.prog 108 _ _ _ _ := h
  refine acall_introD c109_ok (by simp) (by simp) ?_ (under_pure _ (pure_ans _ _ _))
  (apply rd_sound; focus (repeat' constructor))
  ((conv=>whnf);repeat(refine⟨rfl,?_⟩;conv=>whnf))
  (refine .inr (.inr (.inl ⟨rfl, _, _, (rdrP hA (by simp [UnderL, Under]) _), ?_⟩)); ((conv=>whnf);repeat(refine⟨rfl,?_⟩;conv=>whnf)))
  exact ⟨by (repeat' (first | exact trivial | exact DeepM.none _ | refine And.intro ?_ ?_ | exact Or.inl rfl | exact Or.inr ⟨rfl, rfl⟩ | exact fun _ => rfl | exact (fun h => by cases h) | refine DeepM.loc _ _ _ _ _ rfl rfl ?_ | refine DeepM.own _ _ _ _ _ _ _ _ rfl rfl ?_ | refine DeepM.fn _ _ _ _ _ ?_ ?_ | refine DeepM.agg _ _ ?_ | refine DeepM.tup _ _ ?_ | refine DeepM.ifc _ _ _ ?_ | exact DeepM.refl _ | refine DeepML.cons _ _ _ _ ?_ ?_ | exact DeepML.refl _ | refine DeepMLL.cons _ _ _ _ ?_ ?_ | exact DeepMLL.refl _ | exact rfl)), close_two (pure_rdr _ _ _ _)⟩
def c88 : PC := .seq (.ops [q 1 (.box (.tmp 0)),q 2 (.alloc [(.int .i64 0), (.int .i64 0), (.slice none 0 0)]),q 3 (.move (.const (.nilIface)))] false) (.seq (.seq (.ops [q 8 (.load1 (.tmp 1)),q 9 (.nilchk (.tmp 8)),q 10 (.faddr 2 (.tmp 9)),q 11 (.load1 (.tmp 10))] false) (.block 0 (.seq (.ops [q 13 (.bin .eql (.tmp 11) (.const (.string ⟨#[33]⟩))),qm 12 13] false) (.cond (.tmp 12) (.seq (.ops [q 15 (.load1 (.tmp 1)),q 16 (.load1 (.tmp 1)),q 17 (.mkfn (.func 88) [(.tmp 16)] []),q 18 (.call 106 [(.tmp 15), (.tmp 17)]),qm 14 18,q 19 (.ext 0 (.tmp 14)),q 20 (.ext 1 (.tmp 14)),q 4 (.alloc [(.int .i64 0), (.int .i64 0), (.slice none 0 0)]),qn (.store 3 (.tmp 4) (.tmp 19)),qm 5 20] false) (.seq (.ops [q 21 (.loadA 3 (.tmp 4)),q 22 (.call 54 [(.const (.int .i64 4)), (.tmp 21)]),qm 23 5,qn (.store 3 (.tmp 2) (.tmp 22)),qm 3 23] false) (.ret))) (.seq (.ops [q 25 (.bin .eql (.tmp 11) (.const (.string ⟨#[69]⟩))),qm 24 25] false) (.cond (.tmp 24) (.seq (.ops [q 26 (.load1 (.tmp 1)),q 27 (.mkfn (.func 107) [] [(.tmp 1)]),q 28 (.call 106 [(.tmp 26), (.tmp 27)]),q 29 (.ext 0 (.tmp 28)),q 30 (.ext 1 (.tmp 28)),qn (.store 3 (.tmp 2) (.tmp 29)),qm 3 30] false) (.ret)) (.seq (.ops [q 32 (.bin .eql (.tmp 11) (.const (.string ⟨#[65]⟩))),qm 31 32] false) (.cond (.tmp 31) (.seq (.ops [q 33 (.load1 (.tmp 1)),q 34 (.mkfn (.func 109) [] [(.tmp 1)]),q 35 (.call 106 [(.tmp 33), (.tmp 34)]),q 36 (.ext 0 (.tmp 35)),q 37 (.ext 1 (.tmp 35)),qn (.store 3 (.tmp 2) (.tmp 36)),qm 3 37] false) (.ret)) (.seq (.ops [q 39 (.bin .eql (.tmp 11) (.const (.string ⟨#[40]⟩))),qm 38 39] false) (.cond (.tmp 38) (.seq (.ops [q 41 (.load1 (.tmp 1)),q 42 (.load1 (.tmp 1)),q 43 (.mkfn (.func 19) [(.tmp 42)] []),q 44 (.call 106 [(.tmp 41), (.tmp 43)]),qm 40 44,q 45 (.ext 0 (.tmp 40)),q 46 (.ext 1 (.tmp 40)),q 6 (.alloc [(.int .i64 0), (.int .i64 0), (.slice none 0 0)]),qn (.store 3 (.tmp 6) (.tmp 45)),qm 7 46] false) (.seq (.seq (.ops [qm 47 7,q 48 (.isnil 1 false (.tmp 47)),qm 49 48,⟨some 50,.load1 (.tmp 1),some (49,true),0⟩,⟨some 51,.call 52 [(.tmp 50), (.const (.string ⟨#[41]⟩))],some (49,true),0⟩,⟨some 52,.un .not (.tmp 51),some (49,true),0⟩,q 53 (.pick (.tmp 49) (.tmp 52) (.const (.bool false)))] false) (.cond (.tmp 53) (.ops [q 54 (.load1 (.tmp 1)),q 55 (.call 20 [(.tmp 54), (.const (.int .i64 3))]),qm 7 55] false) (.skip))) (.seq (.ops [q 56 (.loadA 3 (.tmp 6)),qm 57 7,qn (.store 3 (.tmp 2) (.tmp 56)),qm 3 57] false) (.ret)))) (.skip))))))))))) (.seq (.seq (.ops [q 58 (.load1 (.tmp 1)),q 59 (.nilchk (.tmp 58)),q 60 (.faddr 2 (.tmp 59)),q 61 (.load1 (.tmp 60)),q 62 (.bin .eql (.tmp 61) (.const (.string ⟨#[]⟩))),qm 63 62,⟨some 64,.load1 (.tmp 1),some (63,false),0⟩,⟨some 65,.nilchk (.tmp 64),some (63,false),0⟩,⟨some 66,.faddr 2 (.tmp 65),some (63,false),0⟩,⟨some 67,.load1 (.tmp 66),some (63,false),0⟩,⟨some 68,.sidx (.tmp 67) (.const (.int .i64 0)),some (63,false),0⟩,⟨some 69,.call 49 [(.tmp 68)],some (63,false),0⟩,⟨some 70,.un .not (.tmp 69),some (63,false),0⟩,q 71 (.pick (.tmp 63) (.const (.bool true)) (.tmp 70))] false) (.cond (.tmp 71) (.seq (.ops [q 72 (.build [(.int .i64 0), (.int .i64 0), (.slice none 0 0)] []),q 73 (.load1 (.tmp 1)),q 74 (.call 20 [(.tmp 73), (.const (.int .i64 3))]),qn (.store 3 (.tmp 2) (.tmp 72)),qm 3 74] false) (.ret)) (.skip))) (.seq (.ops [q 75 (.load1 (.tmp 1)),q 76 (.call 110 [(.tmp 75)]),q 77 (.ext 0 (.tmp 76)),q 78 (.ext 1 (.tmp 76)),qn (.store 3 (.tmp 2) (.tmp 77)),qm 3 78] false) (.ret))))
set_option maxRecDepth 100000 in
theorem c88_ok : FunOK Tryd.prog 88 79 [.agg 2 3, .tmp 3] c88 := ⟨⟨Tryd.f88, Tryd.func88, rfl, by kernel_rfl, rfl, by kernel_rfl⟩⟩
set_option maxHeartbeats 2000000 in
theorem ctl_single (s : ByteArray) (hs : s.size ≤ 1000000000) (names : List ByteArray) (hn : names.length ≤ 9223372036854775807) (o : Nat) (ho : o ≤ 20) (f : Nat)
    (hp : ∀ f' n r, f' < f → o < 20 → runR (tokT s) names true f' .formula (o + 1) n = some r → CAns s names 19 [.loc 0 0] n (o + 1) r)
    (hq : ∀ f' n r, f' < f → o < 20 → runR (tokT s) names true f' .single (o + 1) n = some r → CAns s names 88 [.loc 0 0] n (o + 1) r)
    (hw : ∀ f' e n r, f' < f → o < 20 → runR (tokT s) names true f' (.ways e) (o + 1) n = some r → CAns s names 108 [.loc 0 0, .sc (.int .i64 (kE e 7)), .sc (.int .i64 (kE e 8)), .sc (.int .i64 (kE e 9)), .sc (.int .i64 (kE e 10))] n (o + 1) r)
    (n : Nat) (r : Res) (hr : runR (tokT s) names true f .single o n = some r) : CAns s names 88 [.loc 0 0] n o r := by
  cases f with
  | zero => simp [runR] at hr
  | succ f =>
    simp only [runR] at hr
    by_cases g1 : eqS (tokT s n) (one 40) = true
    · rw [if_pos g1] at hr
      have k1 : eqS (tokT s n) (one 33) = false := (eqS_as g1 _).trans (eqS_one rfl)
      have k2 : eqS (tokT s n) (one 69) = false := (eqS_as g1 _).trans (eqS_one rfl)
      have k3 : eqS (tokT s n) (one 65) = false := (eqS_as g1 _).trans (eqS_one rfl)
      obtain ⟨q, h1, h2⟩ : ∃ q, (o < 20 → CAns s names 19 [.loc 0 0] (n + 1) (o + 1) q) ∧ ((∃ a m, inR o n q = .ok a m ∧ r = if eqS (tokT s m) (one 41) then .ok a (m + 1) else .bad 3 m a (mk0 3 0)) ∨ ((∃ c m x y, inR o n q = .bad c m x y) ∧ r.tree = (inR o n q).tree ∧ r.pos = (inR o n q).pos ∧ r.err s = (inR o n q).err s)) := by
        by_cases h : o = 20
        · rw [if_pos h] at hr
          cases hr
          refine ⟨noR 5 n, fun q => by omega, .inr ?_⟩
          rw [show inR o n (noR 5 n) = noR 5 n from if_pos h]
          exact ⟨⟨_, _, _, _, rfl⟩, rfl, rfl, rfl⟩
        · rw [if_neg h] at hr
          rcases bindR_some hr with ⟨a, m, h1, h2⟩ | ⟨c, m, t, y, h1, rfl⟩
          · refine ⟨_, fun h => hp f _ _ (by omega) h h1, .inl ⟨a, m, if_neg h, ?_⟩⟩
            split at h2 <;> rename_i g
            · rw [if_pos g]; exact (Option.some.inj h2).symm
            · rw [if_neg g]; exact (Option.some.inj h2).symm
          · refine ⟨_, fun h => hp f _ _ (by omega) h h1, .inr ?_⟩
            rw [show inR o n (.bad c m t y) = .bad c m t y from if_neg h]
            exact ⟨⟨_, _, _, _, rfl⟩, rfl, rfl, rfl⟩
      have hI : ACall Tryd.prog 106 _ _ _ _ := ctl_within s hs names n o ho 19 [.loc 0 0] [] (by simp [UnderL, Under]) q fun h => (h1 h).two (by simp [UnderL, Under])
      generalize inR o n q = w at hI h2
      rcases h2 with ⟨a, m, rfl, h2⟩ | ⟨⟨c, m, x, y, rfl⟩, e1, e2, e3⟩
      · have hT := ctl_take s hs names m o (one 41)
        by_cases hu : eqS (tokT s m) (one 41) = true
        · rw [if_pos hu] at h2 hT
          rw [hu] at hT
          subst h2
          refine acall_introD c88_ok (by simp) (by simp) ?_ (under_pure _ (pure_ans _ _ _))
          (apply rd_sound; focus (repeat' constructor))
          ((conv=>whnf);repeat(refine⟨rfl,?_⟩;conv=>whnf))
          (repeat (first | (refine ifK_t ‹_› ?_; ((conv=>whnf);repeat(refine⟨rfl,?_⟩;conv=>whnf))) | (refine ifK_f ‹_› ?_; ((conv=>whnf);repeat(refine⟨rfl,?_⟩;conv=>whnf)))))
          (refine .inr (.inr (.inl ⟨rfl, _, _, (two_pre hI (by simp [UnderL, Under]) _), ?_⟩)); ((conv=>whnf);repeat(refine⟨rfl,?_⟩;conv=>whnf)))
          (refine .inr (.inr (.inl ⟨rfl, _, _, (rdrP hT (by simp [UnderL, Under]) _), ?_⟩)); ((conv=>whnf);repeat(refine⟨rfl,?_⟩;conv=>whnf)))
          exact ⟨by (repeat' (first | exact trivial | exact DeepM.none _ | refine And.intro ?_ ?_ | exact Or.inl rfl | exact Or.inr ⟨rfl, rfl⟩ | exact fun _ => rfl | exact (fun h => by cases h) | refine DeepM.loc _ _ _ _ _ rfl rfl ?_ | refine DeepM.own _ _ _ _ _ _ _ _ rfl rfl ?_ | refine DeepM.fn _ _ _ _ _ ?_ ?_ | refine DeepM.agg _ _ ?_ | refine DeepM.tup _ _ ?_ | refine DeepM.ifc _ _ _ ?_ | exact DeepM.refl _ | refine DeepML.cons _ _ _ _ ?_ ?_ | exact DeepML.refl _ | refine DeepMLL.cons _ _ _ _ ?_ ?_ | exact DeepMLL.refl _ | exact rfl)), close_one (pure_rdr _ _ _ _)⟩
        · rw [if_neg hu] at h2 hT
          rw [show eqS (tokT s m) (one 41) = false by simpa using hu] at hT
          have hW := ctl_wrong s names m o 3
          subst h2
          refine acall_introD c88_ok (by simp) (by simp) ?_ (under_pure _ (pure_ans _ _ _))
          (apply rd_sound; focus (repeat' constructor))
          ((conv=>whnf);repeat(refine⟨rfl,?_⟩;conv=>whnf))
          (repeat (first | (refine ifK_t ‹_› ?_; ((conv=>whnf);repeat(refine⟨rfl,?_⟩;conv=>whnf))) | (refine ifK_f ‹_› ?_; ((conv=>whnf);repeat(refine⟨rfl,?_⟩;conv=>whnf)))))
          (refine .inr (.inr (.inl ⟨rfl, _, _, (two_pre hI (by simp [UnderL, Under]) _), ?_⟩)); ((conv=>whnf);repeat(refine⟨rfl,?_⟩;conv=>whnf)))
          (refine .inr (.inr (.inl ⟨rfl, _, _, (rdrP hT (by simp [UnderL, Under]) _), ?_⟩)); ((conv=>whnf);repeat(refine⟨rfl,?_⟩;conv=>whnf)))
          (refine .inr (.inr (.inl ⟨rfl, _, _, (rdrP hW (by simp [UnderL, Under]) _), ?_⟩)); ((conv=>whnf);repeat(refine⟨rfl,?_⟩;conv=>whnf)))
          exact ⟨by (repeat' (first | exact trivial | exact DeepM.none _ | refine And.intro ?_ ?_ | exact Or.inl rfl | exact Or.inr ⟨rfl, rfl⟩ | exact fun _ => rfl | exact (fun h => by cases h) | refine DeepM.loc _ _ _ _ _ rfl rfl ?_ | refine DeepM.own _ _ _ _ _ _ _ _ rfl rfl ?_ | refine DeepM.fn _ _ _ _ _ ?_ ?_ | refine DeepM.agg _ _ ?_ | refine DeepM.tup _ _ ?_ | refine DeepM.ifc _ _ _ ?_ | exact DeepM.refl _ | refine DeepML.cons _ _ _ _ ?_ ?_ | exact DeepML.refl _ | refine DeepMLL.cons _ _ _ _ ?_ ?_ | exact DeepMLL.refl _ | exact rfl)), close_one (pure_rdr _ _ _ _)⟩
      · unfold CAns
        rw [e1, e2, e3]
        refine acall_introD c88_ok (by simp) (by simp) ?_ (under_pure _ (pure_ans _ _ _))
        (apply rd_sound; focus (repeat' constructor))
        ((conv=>whnf);repeat(refine⟨rfl,?_⟩;conv=>whnf))
        (repeat (first | (refine ifK_t ‹_› ?_; ((conv=>whnf);repeat(refine⟨rfl,?_⟩;conv=>whnf))) | (refine ifK_f ‹_› ?_; ((conv=>whnf);repeat(refine⟨rfl,?_⟩;conv=>whnf)))))
        (refine .inr (.inr (.inl ⟨rfl, _, _, (two_pre hI (by simp [UnderL, Under]) _), ?_⟩)); ((conv=>whnf);repeat(refine⟨rfl,?_⟩;conv=>whnf)))
        exact ⟨by (repeat' (first | exact trivial | exact DeepM.none _ | refine And.intro ?_ ?_ | exact Or.inl rfl | exact Or.inr ⟨rfl, rfl⟩ | exact fun _ => rfl | exact (fun h => by cases h) | refine DeepM.loc _ _ _ _ _ rfl rfl ?_ | refine DeepM.own _ _ _ _ _ _ _ _ rfl rfl ?_ | refine DeepM.fn _ _ _ _ _ ?_ ?_ | refine DeepM.agg _ _ ?_ | refine DeepM.tup _ _ ?_ | refine DeepM.ifc _ _ _ ?_ | exact DeepM.refl _ | refine DeepML.cons _ _ _ _ ?_ ?_ | exact DeepML.refl _ | refine DeepMLL.cons _ _ _ _ ?_ ?_ | exact DeepMLL.refl _ | exact rfl)), close_one (pure_rdr _ _ _ _)⟩
    rw [if_neg g1] at hr
    have g1 : eqS (tokT s n) (one 40) = false := by simpa using g1
    by_cases g2 : eqS (tokT s n) (one 33) = true
    · have e0 : preK true (tokT s n) = 4 := if_pos g2
      rw [e0, if_pos (by decide)] at hr
      obtain ⟨q, h1, e1, e2, e3⟩ : ∃ q, (o < 20 → CAns s names 88 [.loc 0 0] (n + 1) (o + 1) q) ∧ r.tree = mk1 4 (inR o n q).tree ∧ r.pos = (inR o n q).pos ∧ r.err s = (inR o n q).err s := by
        by_cases h : o = 20
        · rw [if_pos h] at hr
          cases hr
          refine ⟨noR 5 n, fun q => by omega, ?_⟩
          rw [show inR o n (noR 5 n) = noR 5 n from if_pos h]
          exact ⟨rfl, rfl, rfl⟩
        · rw [if_neg h] at hr
          rcases bindR_some hr with ⟨a, m, h1, h2⟩ | ⟨c, m, t, y, h1, rfl⟩
          · refine ⟨_, fun h => hq f _ _ (by omega) h h1, ?_⟩
            rw [show inR o n (.ok a m) = .ok a m from if_neg h]
            cases h2
            exact ⟨rfl, rfl, rfl⟩
          · refine ⟨_, fun h => hq f _ _ (by omega) h h1, ?_⟩
            rw [show inR o n (.bad c m t y) = .bad c m t y from if_neg h]
            exact ⟨rfl, rfl, rfl⟩
      have hI : ACall Tryd.prog 106 _ _ _ _ := ctl_within s hs names n o ho 88 [.loc 0 0] [] (by simp [UnderL, Under]) q fun h => (h1 h).two (by simp [UnderL, Under])
      generalize inR o n q = w at hI e1 e2 e3
      unfold CAns
      rw [e1, e2, e3]
      refine acall_introD c88_ok (by simp) (by simp) ?_ (under_pure _ (pure_ans _ _ _))
      (apply rd_sound; focus (repeat' constructor))
      ((conv=>whnf);repeat(refine⟨rfl,?_⟩;conv=>whnf))
      (repeat (first | (refine ifK_t ‹_› ?_; ((conv=>whnf);repeat(refine⟨rfl,?_⟩;conv=>whnf))) | (refine ifK_f ‹_› ?_; ((conv=>whnf);repeat(refine⟨rfl,?_⟩;conv=>whnf)))))
      (refine .inr (.inr (.inl ⟨rfl, _, _, (two_pre hI (by simp [UnderL, Under]) _), ?_⟩)); ((conv=>whnf);repeat(refine⟨rfl,?_⟩;conv=>whnf)))
      (refine .inl ⟨_, (ctl_oneT 4 w.tree), ?_⟩; ((conv=>whnf);repeat(refine⟨rfl,?_⟩;conv=>whnf)))
      exact ⟨by (repeat' (first | exact trivial | exact DeepM.none _ | refine And.intro ?_ ?_ | exact Or.inl rfl | exact Or.inr ⟨rfl, rfl⟩ | exact fun _ => rfl | exact (fun h => by cases h) | refine DeepM.loc _ _ _ _ _ rfl rfl ?_ | refine DeepM.own _ _ _ _ _ _ _ _ rfl rfl ?_ | refine DeepM.fn _ _ _ _ _ ?_ ?_ | refine DeepM.agg _ _ ?_ | refine DeepM.tup _ _ ?_ | refine DeepM.ifc _ _ _ ?_ | exact DeepM.refl _ | refine DeepML.cons _ _ _ _ ?_ ?_ | exact DeepML.refl _ | refine DeepMLL.cons _ _ _ _ ?_ ?_ | exact DeepMLL.refl _ | exact rfl)), close_one (pure_rdr _ _ _ _)⟩
    have g2 : eqS (tokT s n) (one 33) = false := by simpa using g2
    have e0 : preK true (tokT s n) = 0 := by simp [preK, g2]
    rw [e0, if_neg (by decide)] at hr
    by_cases g3 : eqS (tokT s n) (one 69) = true
    · rw [if_pos (by simp [g3])] at hr
      obtain ⟨q, h1, h2⟩ : ∃ q, (o < 20 → CAns s names 108 [.loc 0 0, .sc (.int .i64 (kE true 7)), .sc (.int .i64 (kE true 8)), .sc (.int .i64 (kE true 9)), .sc (.int .i64 (kE true 10))] (n + 1) (o + 1) q) ∧ r = inR o n q := by
        by_cases h : o = 20
        · rw [if_pos h] at hr
          cases hr
          exact ⟨noR 5 n, fun q => by omega, (if_pos h).symm⟩
        · rw [if_neg h] at hr
          have hb : eqS (tokT s n) (one 69) = true := by assumption
          rw [hb] at hr
          exact ⟨r, fun h => hw f _ _ _ (by omega) h hr, (if_neg h).symm⟩
      have hI : ACall Tryd.prog 106 _ _ _ _ := ctl_within s hs names n o ho 107 [] [.loc 1 0] (by simp [UnderL, Under]) q fun h => ctl_single1 s names _ _ q (h1 h)
      rw [← h2] at hI
      refine acall_introD c88_ok (by simp) (by simp) ?_ (under_pure _ (pure_ans _ _ _))
      (apply rd_sound; focus (repeat' constructor))
      ((conv=>whnf);repeat(refine⟨rfl,?_⟩;conv=>whnf))
      (repeat (first | (refine ifK_t ‹_› ?_; ((conv=>whnf);repeat(refine⟨rfl,?_⟩;conv=>whnf))) | (refine ifK_f ‹_› ?_; ((conv=>whnf);repeat(refine⟨rfl,?_⟩;conv=>whnf)))))
      (refine .inr (.inr (.inl ⟨rfl, _, _, (two_pre hI (by simp [UnderL, Under]) _), ?_⟩)); ((conv=>whnf);repeat(refine⟨rfl,?_⟩;conv=>whnf)))
      exact ⟨by (repeat' (first | exact trivial | exact DeepM.none _ | refine And.intro ?_ ?_ | exact Or.inl rfl | exact Or.inr ⟨rfl, rfl⟩ | exact fun _ => rfl | exact (fun h => by cases h) | refine DeepM.loc _ _ _ _ _ rfl rfl ?_ | refine DeepM.own _ _ _ _ _ _ _ _ rfl rfl ?_ | refine DeepM.fn _ _ _ _ _ ?_ ?_ | refine DeepM.agg _ _ ?_ | refine DeepM.tup _ _ ?_ | refine DeepM.ifc _ _ _ ?_ | exact DeepM.refl _ | refine DeepML.cons _ _ _ _ ?_ ?_ | exact DeepML.refl _ | refine DeepMLL.cons _ _ _ _ ?_ ?_ | exact DeepMLL.refl _ | exact rfl)), close_one (pure_rdr _ _ _ _)⟩
    have g3 : eqS (tokT s n) (one 69) = false := by simpa using g3
    by_cases g4 : eqS (tokT s n) (one 65) = true
    · rw [if_pos (by simp [g4])] at hr
      obtain ⟨q, h1, h2⟩ : ∃ q, (o < 20 → CAns s names 108 [.loc 0 0, .sc (.int .i64 (kE false 7)), .sc (.int .i64 (kE false 8)), .sc (.int .i64 (kE false 9)), .sc (.int .i64 (kE false 10))] (n + 1) (o + 1) q) ∧ r = inR o n q := by
        by_cases h : o = 20
        · rw [if_pos h] at hr
          cases hr
          exact ⟨noR 5 n, fun q => by omega, (if_pos h).symm⟩
        · rw [if_neg h] at hr
          have hb : eqS (tokT s n) (one 69) = false := by assumption
          rw [hb] at hr
          exact ⟨r, fun h => hw f _ _ _ (by omega) h hr, (if_neg h).symm⟩
      have hI : ACall Tryd.prog 106 _ _ _ _ := ctl_within s hs names n o ho 109 [] [.loc 1 0] (by simp [UnderL, Under]) q fun h => ctl_single2 s names _ _ q (h1 h)
      rw [← h2] at hI
      refine acall_introD c88_ok (by simp) (by simp) ?_ (under_pure _ (pure_ans _ _ _))
      (apply rd_sound; focus (repeat' constructor))
      ((conv=>whnf);repeat(refine⟨rfl,?_⟩;conv=>whnf))
      (repeat (first | (refine ifK_t ‹_› ?_; ((conv=>whnf);repeat(refine⟨rfl,?_⟩;conv=>whnf))) | (refine ifK_f ‹_› ?_; ((conv=>whnf);repeat(refine⟨rfl,?_⟩;conv=>whnf)))))
      (refine .inr (.inr (.inl ⟨rfl, _, _, (two_pre hI (by simp [UnderL, Under]) _), ?_⟩)); ((conv=>whnf);repeat(refine⟨rfl,?_⟩;conv=>whnf)))
      exact ⟨by (repeat' (first | exact trivial | exact DeepM.none _ | refine And.intro ?_ ?_ | exact Or.inl rfl | exact Or.inr ⟨rfl, rfl⟩ | exact fun _ => rfl | exact (fun h => by cases h) | refine DeepM.loc _ _ _ _ _ rfl rfl ?_ | refine DeepM.own _ _ _ _ _ _ _ _ rfl rfl ?_ | refine DeepM.fn _ _ _ _ _ ?_ ?_ | refine DeepM.agg _ _ ?_ | refine DeepM.tup _ _ ?_ | refine DeepM.ifc _ _ _ ?_ | exact DeepM.refl _ | refine DeepML.cons _ _ _ _ ?_ ?_ | exact DeepML.refl _ | refine DeepMLL.cons _ _ _ _ ?_ ?_ | exact DeepMLL.refl _ | exact rfl)), close_one (pure_rdr _ _ _ _)⟩
    have g4 : eqS (tokT s n) (one 65) = false := by simpa using g4
    rw [if_neg (by simp [g3, g4])] at hr
    by_cases hl : lowT (tokT s n) = true
    · have hW := ctl_word s hs names hn n o hl
      have hW2 : CAns s names 110 [.loc 0 0] n o r := by
        cases hr
        cases h : wordR (tokT s) names n with
        | ok a m => rw [h] at hW; exact hW.2
        | bad c m x y =>
          rw [h] at hW
          obtain ⟨hm, hA⟩ := hW
          subst hm
          exact hA
      have hA : ACall Tryd.prog 110 _ _ _ _ := hW2
      have h0 : 0 < (tokT s n).size := by simp [lowT] at hl; omega
      obtain ⟨b, hb⟩ := byte_at h0
      have hc := chr_at hb
      have hlt : (decide (97 ≤ b.toNat) && decide (b.toNat ≤ 122)) = true := by
        rw [← hc]
        unfold lowT at hl
        simp only [Bool.and_eq_true] at hl ⊢
        exact ⟨hl.1.2, hl.2⟩
      have hz : eqS (tokT s n) ⟨#[]⟩ = false := by
        cases h : eqS (tokT s n) ⟨#[]⟩ with
        | false => rfl
        | true => rw [(eqS_empty _).1 h] at h0; omega
      refine acall_introD c88_ok (by simp) (by simp) ?_ (under_pure _ (pure_ans _ _ _))
      (apply rd_sound; focus (repeat' constructor))
      ((conv=>whnf);repeat(refine⟨rfl,?_⟩;conv=>whnf))
      (repeat (first | (refine ifK_t ‹_› ?_; ((conv=>whnf);repeat(refine⟨rfl,?_⟩;conv=>whnf))) | (refine ifK_f ‹_› ?_; ((conv=>whnf);repeat(refine⟨rfl,?_⟩;conv=>whnf)))))
      refine ⟨by omega, b, hb, ?_⟩
      ((conv=>whnf);repeat(refine⟨rfl,?_⟩;conv=>whnf))
      (repeat (first | (refine ifK_t ‹_› ?_; ((conv=>whnf);repeat(refine⟨rfl,?_⟩;conv=>whnf))) | (refine ifK_f ‹_› ?_; ((conv=>whnf);repeat(refine⟨rfl,?_⟩;conv=>whnf)))))
      (refine .inl ⟨_, (ctl_letter b.toNat), ?_⟩; ((conv=>whnf);repeat(refine⟨rfl,?_⟩;conv=>whnf)))
      rw [hlt]
      ((conv=>whnf);repeat(refine⟨rfl,?_⟩;conv=>whnf))
      (repeat (first | (refine ifK_t ‹_› ?_; ((conv=>whnf);repeat(refine⟨rfl,?_⟩;conv=>whnf))) | (refine ifK_f ‹_› ?_; ((conv=>whnf);repeat(refine⟨rfl,?_⟩;conv=>whnf)))))
      (refine .inr (.inr (.inl ⟨rfl, _, _, (rdrP hA (by simp [UnderL, Under]) _), ?_⟩)); ((conv=>whnf);repeat(refine⟨rfl,?_⟩;conv=>whnf)))
      exact ⟨by (repeat' (first | exact trivial | exact DeepM.none _ | refine And.intro ?_ ?_ | exact Or.inl rfl | exact Or.inr ⟨rfl, rfl⟩ | exact fun _ => rfl | exact (fun h => by cases h) | refine DeepM.loc _ _ _ _ _ rfl rfl ?_ | refine DeepM.own _ _ _ _ _ _ _ _ rfl rfl ?_ | refine DeepM.fn _ _ _ _ _ ?_ ?_ | refine DeepM.agg _ _ ?_ | refine DeepM.tup _ _ ?_ | refine DeepM.ifc _ _ _ ?_ | exact DeepM.refl _ | refine DeepML.cons _ _ _ _ ?_ ?_ | exact DeepML.refl _ | refine DeepMLL.cons _ _ _ _ ?_ ?_ | exact DeepMLL.refl _ | exact rfl)), close_one (pure_rdr _ _ _ _)⟩
    · have hl : lowT (tokT s n) = false := by simpa using hl
      cases hr
      have e : wordR (tokT s) names n = noR 3 n := if_pos hl
      rw [e]
      have hW := ctl_wrong s names n o 3
      refine acall_introD c88_ok (by simp) (by simp) ?_ (under_pure _ (pure_ans _ _ _))
      (apply rd_sound; focus (repeat' constructor))
      ((conv=>whnf);repeat(refine⟨rfl,?_⟩;conv=>whnf))
      (repeat (first | (refine ifK_t ‹_› ?_; ((conv=>whnf);repeat(refine⟨rfl,?_⟩;conv=>whnf))) | (refine ifK_f ‹_› ?_; ((conv=>whnf);repeat(refine⟨rfl,?_⟩;conv=>whnf)))))
      cases hz : eqS (tokT s n) ⟨#[]⟩ with
      | true =>
        (repeat (first | (refine ifK_t ‹_› ?_; ((conv=>whnf);repeat(refine⟨rfl,?_⟩;conv=>whnf))) | (refine ifK_f ‹_› ?_; ((conv=>whnf);repeat(refine⟨rfl,?_⟩;conv=>whnf)))))
        (refine .inr (.inr (.inl ⟨rfl, _, _, (rdrP hW (by simp [UnderL, Under]) _), ?_⟩)); ((conv=>whnf);repeat(refine⟨rfl,?_⟩;conv=>whnf)))
        exact ⟨by (repeat' (first | exact trivial | exact DeepM.none _ | refine And.intro ?_ ?_ | exact Or.inl rfl | exact Or.inr ⟨rfl, rfl⟩ | exact fun _ => rfl | exact (fun h => by cases h) | refine DeepM.loc _ _ _ _ _ rfl rfl ?_ | refine DeepM.own _ _ _ _ _ _ _ _ rfl rfl ?_ | refine DeepM.fn _ _ _ _ _ ?_ ?_ | refine DeepM.agg _ _ ?_ | refine DeepM.tup _ _ ?_ | refine DeepM.ifc _ _ _ ?_ | exact DeepM.refl _ | refine DeepML.cons _ _ _ _ ?_ ?_ | exact DeepML.refl _ | refine DeepMLL.cons _ _ _ _ ?_ ?_ | exact DeepMLL.refl _ | exact rfl)), close_one (pure_rdr _ _ _ _)⟩
      | false =>
        have h0 : 0 < (tokT s n).size := by
          rcases Nat.eq_zero_or_pos (tokT s n).size with h | h
          · rw [(eqS_empty _).2 h] at hz; cases hz
          · exact h
        obtain ⟨b, hb⟩ := byte_at h0
        have hc := chr_at hb
        have hlt : (decide (97 ≤ b.toNat) && decide (b.toNat ≤ 122)) = false := by
          rw [← hc]
          unfold lowT at hl
          rwa [decide_eq_true h0, Bool.true_and] at hl
        (repeat (first | (refine ifK_t ‹_› ?_; ((conv=>whnf);repeat(refine⟨rfl,?_⟩;conv=>whnf))) | (refine ifK_f ‹_› ?_; ((conv=>whnf);repeat(refine⟨rfl,?_⟩;conv=>whnf)))))
        refine ⟨by omega, b, hb, ?_⟩
        ((conv=>whnf);repeat(refine⟨rfl,?_⟩;conv=>whnf))
        (repeat (first | (refine ifK_t ‹_› ?_; ((conv=>whnf);repeat(refine⟨rfl,?_⟩;conv=>whnf))) | (refine ifK_f ‹_› ?_; ((conv=>whnf);repeat(refine⟨rfl,?_⟩;conv=>whnf)))))
        (refine .inl ⟨_, (ctl_letter b.toNat), ?_⟩; ((conv=>whnf);repeat(refine⟨rfl,?_⟩;conv=>whnf)))
        rw [hlt]
        ((conv=>whnf);repeat(refine⟨rfl,?_⟩;conv=>whnf))
        (repeat (first | (refine ifK_t ‹_› ?_; ((conv=>whnf);repeat(refine⟨rfl,?_⟩;conv=>whnf))) | (refine ifK_f ‹_› ?_; ((conv=>whnf);repeat(refine⟨rfl,?_⟩;conv=>whnf)))))
        (refine .inr (.inr (.inl ⟨rfl, _, _, (rdrP hW (by simp [UnderL, Under]) _), ?_⟩)); ((conv=>whnf);repeat(refine⟨rfl,?_⟩;conv=>whnf)))
        exact ⟨by (repeat' (first | exact trivial | exact DeepM.none _ | refine And.intro ?_ ?_ | exact Or.inl rfl | exact Or.inr ⟨rfl, rfl⟩ | exact fun _ => rfl | exact (fun h => by cases h) | refine DeepM.loc _ _ _ _ _ rfl rfl ?_ | refine DeepM.own _ _ _ _ _ _ _ _ rfl rfl ?_ | refine DeepM.fn _ _ _ _ _ ?_ ?_ | refine DeepM.agg _ _ ?_ | refine DeepM.tup _ _ ?_ | refine DeepM.ifc _ _ _ ?_ | exact DeepM.refl _ | refine DeepML.cons _ _ _ _ ?_ ?_ | exact DeepML.refl _ | refine DeepMLL.cons _ _ _ _ ?_ ?_ | exact DeepMLL.refl _ | exact rfl)), close_one (pure_rdr _ _ _ _)⟩
/-- All of the reader. -/
theorem ctl_reads (s : ByteArray) (hs : s.size ≤ 1000000000) (names : List ByteArray) (hn : names.length ≤ 9223372036854775807) : ∀ (f : Nat), f ≤ 1000000000 → ∀ (o n : Nat) (r : Res), o ≤ 20 →
    (runR (tokT s) names true f .formula o n = some r → CAns s names 19 [.loc 0 0] n o r) ∧
    (runR (tokT s) names true f (.row false) o n = some r → CAns s names 51 [.loc 0 0] n o r) ∧
    (runR (tokT s) names true f .way o n = some r → CAns s names 88 [.loc 0 0] n o r) ∧
    (runR (tokT s) names true f .single o n = some r → CAns s names 88 [.loc 0 0] n o r) ∧
    ∀ e, (runR (tokT s) names true f (.ways e) o n = some r → CAns s names 108 [.loc 0 0, .sc (.int .i64 (kE e 7)), .sc (.int .i64 (kE e 8)), .sc (.int .i64 (kE e 9)), .sc (.int .i64 (kE e 10))] n o r) := by
  intro f
  induction f using Nat.strongRecOn with
  | ind f ih =>
    intro hf o n r ho
    refine ⟨fun h => ctl_formula s hs names o f (fun f' n r h1 h2 => (ih f' h1 (by omega) o n r ho).2.1 h2) hf n r h, fun h => ctl_and s hs names o f (fun f' n r h1 h2 => (ih f' h1 (by omega) o n r ho).2.2.1 h2) n r h, fun h => ?_,
      fun h => ctl_single s hs names hn o ho f (fun f' n r h1 h2 h3 => (ih f' h1 (by omega) (o + 1) n r (by omega)).1 h3) (fun f' n r h1 h2 h3 => (ih f' h1 (by omega) (o + 1) n r (by omega)).2.2.2.1 h3) (fun f' e n r h1 h2 h3 => (ih f' h1 (by omega) (o + 1) n r (by omega)).2.2.2.2 e h3) n r h,
      fun e h => ctl_ways s hs names o f (fun f' n r h1 h2 => (ih f' h1 (by omega) o n r ho).1 h2) (fun f' n r h1 h2 => (ih f' h1 (by omega) o n r ho).2.2.2.1 h2) e n r h⟩
    cases f with
    | zero => simp [runR] at h
    | succ f =>
      simp only [runR] at h
      have h' : runR (tokT s) names true f .single o n = some r := by
        rcases bindR_some h with ⟨a, m, h1, h2⟩ | ⟨c, m, t, y, h1, rfl⟩
        · have h2 : some (Res.ok a m) = some r := h2
          rw [h1, h2]
        · exact h1
      exact (ih f (by omega) (by omega) o n r ho).2.2.2.1 h'
end Go.Proofs.YtijeijfccgegaaaDoor
