/-
  The reader of formulas of one way, over deep values: what stands behind a sign; all together. No statement is proved here.
-/
import Derived.Test.YtjbkbjedlgkibaaDoorLr3
namespace Go.Proofs.YtjbkbjedlgkibaaDoor
open Go.RowKit
set_option linter.unusedSimpArgs false
set_option linter.unusedVariables false
theorem eqS_as {x a : ByteArray} (h : eqS x a = true) (b : ByteArray) : eqS x b = eqS a b := by
  unfold eqS at *
  rw [beq_iff_eq.1 h]
theorem eqS_one {a b : UInt8} (h : (a == b) = false) : eqS (one a) (one b) = false := by
  unfold eqS one
  rw [ByteArray.toList_eq, ByteArray.toList_eq]
  show ([a] == [b]) = false
  simp [h]
def c33 : PC := .seq (.ops [q 2 (.alloc [(.int .i64 0), (.int .i64 0), (.slice none 0 0)]),q 3 (.move (.const (.nilIface)))] false) (.seq (.ops [qm 10 0,q 11 (.call 41 [(.tmp 10)]),qm 9 11,q 12 (.ext 0 (.tmp 9)),q 13 (.ext 1 (.tmp 9)),q 4 (.alloc [(.int .i64 0), (.int .i64 0), (.slice none 0 0)]),qn (.store 3 (.tmp 4) (.tmp 12)),qm 5 13] false) (.seq (.seq (.ops [qm 14 5,q 15 (.isnil 1 true (.tmp 14))] false) (.cond (.tmp 15) (.seq (.ops [q 16 (.loadA 3 (.tmp 4)),qm 17 5,qn (.store 3 (.tmp 2) (.tmp 16)),qm 3 17] false) (.ret)) (.skip))) (.seq (.ops [qm 18 0,q 19 (.nilchk (.tmp 18)),q 20 (.faddr 2 (.tmp 19)),q 21 (.load1 (.tmp 20)),qm 6 21] false) (.seq (.seq (.ops [qm 22 6,q 23 (.bin .neq (.tmp 22) (.const (.string ⟨#[85]⟩))),qm 24 23,⟨some 25,.move (.tmp 6),some (24,true),0⟩,⟨some 26,.bin .neq (.tmp 25) (.const (.string ⟨#[82]⟩)),some (24,true),0⟩,q 27 (.pick (.tmp 24) (.tmp 26) (.const (.bool false))),qm 28 27,⟨some 29,.move (.tmp 6),some (28,true),0⟩,⟨some 30,.bin .neq (.tmp 29) (.const (.string ⟨#[87]⟩)),some (28,true),0⟩,q 31 (.pick (.tmp 28) (.tmp 30) (.const (.bool false)))] false) (.cond (.tmp 31) (.seq (.ops [q 32 (.loadA 3 (.tmp 4)),qn (.store 3 (.tmp 2) (.tmp 32)),q 3 (.move (.const (.nilIface)))] false) (.ret)) (.skip))) (.seq (.ops [qm 33 0,q 34 (.call 7 [(.tmp 33)])] false) (.seq (.ops [qm 36 0,q 37 (.call 33 [(.tmp 36)]),qm 35 37,q 38 (.ext 0 (.tmp 35)),q 39 (.ext 1 (.tmp 35)),q 7 (.alloc [(.int .i64 0), (.int .i64 0), (.slice none 0 0)]),qn (.store 3 (.tmp 7) (.tmp 38)),qm 5 39] false) (.seq (.seq (.ops [qm 40 5,q 41 (.isnil 1 true (.tmp 40))] false) (.cond (.tmp 41) (.seq (.ops [q 42 (.loadA 3 (.tmp 4)),qm 43 5,qn (.store 3 (.tmp 2) (.tmp 42)),qm 3 43] false) (.ret)) (.skip))) (.seq (.seq (.ops [qm 44 6] false) (.block 0 (.seq (.ops [q 46 (.bin .eql (.tmp 44) (.const (.string ⟨#[85]⟩))),qm 45 46] false) (.cond (.tmp 45) (.seq (.ops [q 47 (.loadA 3 (.tmp 4)),q 48 (.loadA 3 (.tmp 7)),q 49 (.call 19 [(.const (.int .i64 8)), (.tmp 47), (.tmp 48)]),qn (.store 3 (.tmp 2) (.tmp 49)),q 3 (.move (.const (.nilIface)))] false) (.ret)) (.seq (.ops [q 51 (.bin .eql (.tmp 44) (.const (.string ⟨#[82]⟩))),qm 50 51] false) (.cond (.tmp 50) (.seq (.ops [q 52 (.loadA 3 (.tmp 4)),q 53 (.loadA 3 (.tmp 7)),q 54 (.call 19 [(.const (.int .i64 9)), (.tmp 52), (.tmp 53)]),qn (.store 3 (.tmp 2) (.tmp 54)),q 3 (.move (.const (.nilIface)))] false) (.ret)) (.skip))))))) (.seq (.ops [q 55 (.build [(.int .i64 0), (.int .i64 0), (.slice none 0 0)] [(0, 1, (.const (.int .i64 1)))]),q 8 (.alloc [(.int .i64 0), (.int .i64 0), (.slice none 0 0)]),qn (.store 3 (.tmp 8) (.tmp 55))] false) (.seq (.stop (.seq (.ops [q 56 (.loadA 3 (.tmp 7)),q 57 (.call 42 [(.tmp 56), (.const (.int .i64 0))]),q 58 (.bin .leq (.tmp 57) (.const (.int .i64 60)))] false) (.cond (.tmp 58) (.ops [q 59 (.loadA 3 (.tmp 7)),q 60 (.call 43 [(.tmp 59)]),qn (.store 3 (.tmp 8) (.tmp 60))] false) (.skip)))) (.seq (.ops [q 61 (.loadA 3 (.tmp 7)),q 62 (.loadA 3 (.tmp 4)),q 63 (.loadA 3 (.tmp 8)),qd 64 (.call 19 [(.const (.int .i64 6)), (.tmp 62), (.tmp 63)]) 6,qd 65 (.call 19 [(.const (.int .i64 9)), (.tmp 61), (.tmp 64)]) 15,qk (.store 3 (.tmp 2) (.tmp 65)) 31,qd 3 (.move (.const (.nilIface))) 63] true) (.ret))))))))))))
set_option maxRecDepth 100000 in
theorem c33_ok : FunOK Tryd.prog 33 66 [.agg 2 3, .tmp 3] c33 := ⟨⟨Tryd.f33, Tryd.func33, rfl, by kernel_rfl, rfl, by kernel_rfl⟩⟩
theorem ltl_way (s : ByteArray) (hs : s.size ≤ 1000000000) (names : List ByteArray) (o : Nat) (f : Nat)
    (hp : ∀ f' n r, f' < f → runR (tokT s) names false f' .single o n = some r → CAns s names 41 [.loc 0 0] n o r)
    (hq : ∀ f' n r, f' < f → runR (tokT s) names false f' .way o n = some r → CAns s names 33 [.loc 0 0] n o r)
    (n : Nat) (r : Res) (hr : runR (tokT s) names false f .way o n = some r) : CAns s names 33 [.loc 0 0] n o r := by
  cases f with
  | zero => simp [runR] at hr
  | succ f =>
    simp only [runR] at hr
    rcases bindR_some hr with ⟨a, m, h1, h2⟩ | ⟨c, m, t, y, h1, rfl⟩
    · have hA : ACall Tryd.prog 41 _ _ _ _ := hp f _ _ (by omega) h1
      rw [if_neg (by simp)] at h2
      have hN : ACall Tryd.prog 7 [.loc 0 0] [.row true (rdr s names (Res.ok a m).pos o)] _ _ := ltl_nextT s hs names m o
      by_cases e1 : eqS (tokT s m) (one 85) = true
      · rw [if_pos e1] at h2
        rcases bindR_some h2 with ⟨b, k, h3, h4⟩ | ⟨c, k, t, y, h3, rfl⟩
        · have hB : ACall Tryd.prog 33 _ _ _ _ := hq f _ _ (by omega) h3
          have hkt : KT false b := runR_kt f .way o (m + 1) b k (fun _ _ h => by cases h) (fun _ h => by cases h) h3
          cases h4
          refine acall_introD c33_ok (by simp) (by simp) ?_ (under_pure _ (pure_ans _ _ _))
          (apply rd_sound; focus (repeat' constructor))
          ((conv=>whnf);repeat(refine⟨rfl,?_⟩;conv=>whnf))
          (refine .inr (.inr (.inl ⟨rfl, _, _, (rdrP hA (by simp [UnderL, Under]) _), ?_⟩)); ((conv=>whnf);repeat(refine⟨rfl,?_⟩;conv=>whnf)))
          rw [show ((tokT s (Res.ok a m).pos).toList == (⟨#[85]⟩ : ByteArray).toList) = true from e1]
          ((conv=>whnf);repeat(refine⟨rfl,?_⟩;conv=>whnf))
          (refine .inr (.inr (.inl ⟨rfl, _, _, (rdrP hN (by simp [UnderL, Under]) _), ?_⟩)); ((conv=>whnf);repeat(refine⟨rfl,?_⟩;conv=>whnf)))
          (refine .inr (.inr (.inl ⟨rfl, _, _, (rdrP hB (by simp [UnderL, Under]) _), ?_⟩)); ((conv=>whnf);repeat(refine⟨rfl,?_⟩;conv=>whnf)))
          (repeat (first | (refine ifK_t ‹_› ?_; ((conv=>whnf);repeat(refine⟨rfl,?_⟩;conv=>whnf))) | (refine ifK_f ‹_› ?_; ((conv=>whnf);repeat(refine⟨rfl,?_⟩;conv=>whnf)))))
          (refine .inl ⟨_, (ltl_twoT 8 a b), ?_⟩; ((conv=>whnf);repeat(refine⟨rfl,?_⟩;conv=>whnf)))
          exact ⟨by (repeat' (first | exact trivial | exact DeepM.none _ | refine And.intro ?_ ?_ | exact Or.inl rfl | exact Or.inr ⟨rfl, rfl⟩ | exact fun _ => rfl | exact (fun h => by cases h) | refine DeepM.loc _ _ _ _ _ rfl rfl ?_ | refine DeepM.own _ _ _ _ _ _ _ _ rfl rfl ?_ | refine DeepM.fn _ _ _ _ _ ?_ ?_ | refine DeepM.agg _ _ ?_ | refine DeepM.tup _ _ ?_ | refine DeepM.ifc _ _ _ ?_ | exact DeepM.refl _ | refine DeepML.cons _ _ _ _ ?_ ?_ | exact DeepML.refl _ | refine DeepMLL.cons _ _ _ _ ?_ ?_ | exact DeepMLL.refl _ | exact rfl)), close_one (pure_rdr _ _ _ _)⟩
        · have hB : ACall Tryd.prog 33 _ _ _ _ := hq f _ _ (by omega) h3
          refine acall_introD c33_ok (by simp) (by simp) ?_ (under_pure _ (pure_ans _ _ _))
          (apply rd_sound; focus (repeat' constructor))
          ((conv=>whnf);repeat(refine⟨rfl,?_⟩;conv=>whnf))
          (refine .inr (.inr (.inl ⟨rfl, _, _, (rdrP hA (by simp [UnderL, Under]) _), ?_⟩)); ((conv=>whnf);repeat(refine⟨rfl,?_⟩;conv=>whnf)))
          rw [show ((tokT s (Res.ok a m).pos).toList == (⟨#[85]⟩ : ByteArray).toList) = true from e1]
          ((conv=>whnf);repeat(refine⟨rfl,?_⟩;conv=>whnf))
          (refine .inr (.inr (.inl ⟨rfl, _, _, (rdrP hN (by simp [UnderL, Under]) _), ?_⟩)); ((conv=>whnf);repeat(refine⟨rfl,?_⟩;conv=>whnf)))
          (refine .inr (.inr (.inl ⟨rfl, _, _, (rdrP hB (by simp [UnderL, Under]) _), ?_⟩)); ((conv=>whnf);repeat(refine⟨rfl,?_⟩;conv=>whnf)))
          exact ⟨by (repeat' (first | exact trivial | exact DeepM.none _ | refine And.intro ?_ ?_ | exact Or.inl rfl | exact Or.inr ⟨rfl, rfl⟩ | exact fun _ => rfl | exact (fun h => by cases h) | refine DeepM.loc _ _ _ _ _ rfl rfl ?_ | refine DeepM.own _ _ _ _ _ _ _ _ rfl rfl ?_ | refine DeepM.fn _ _ _ _ _ ?_ ?_ | refine DeepM.agg _ _ ?_ | refine DeepM.tup _ _ ?_ | refine DeepM.ifc _ _ _ ?_ | exact DeepM.refl _ | refine DeepML.cons _ _ _ _ ?_ ?_ | exact DeepML.refl _ | refine DeepMLL.cons _ _ _ _ ?_ ?_ | exact DeepMLL.refl _ | exact rfl)), close_one (pure_rdr _ _ _ _)⟩
      rw [if_neg e1] at h2
      have e1 : eqS (tokT s m) (one 85) = false := by simpa using e1
      by_cases e2 : eqS (tokT s m) (one 82) = true
      · rw [if_pos e2] at h2
        rcases bindR_some h2 with ⟨b, k, h3, h4⟩ | ⟨c, k, t, y, h3, rfl⟩
        · have hB : ACall Tryd.prog 33 _ _ _ _ := hq f _ _ (by omega) h3
          have hkt : KT false b := runR_kt f .way o (m + 1) b k (fun _ _ h => by cases h) (fun _ h => by cases h) h3
          cases h4
          refine acall_introD c33_ok (by simp) (by simp) ?_ (under_pure _ (pure_ans _ _ _))
          (apply rd_sound; focus (repeat' constructor))
          ((conv=>whnf);repeat(refine⟨rfl,?_⟩;conv=>whnf))
          (refine .inr (.inr (.inl ⟨rfl, _, _, (rdrP hA (by simp [UnderL, Under]) _), ?_⟩)); ((conv=>whnf);repeat(refine⟨rfl,?_⟩;conv=>whnf)))
          rw [show ((tokT s (Res.ok a m).pos).toList == (⟨#[85]⟩ : ByteArray).toList) = false from e1]
          ((conv=>whnf);repeat(refine⟨rfl,?_⟩;conv=>whnf))
          rw [show ((tokT s (Res.ok a m).pos).toList == (⟨#[82]⟩ : ByteArray).toList) = true from e2]
          ((conv=>whnf);repeat(refine⟨rfl,?_⟩;conv=>whnf))
          (refine .inr (.inr (.inl ⟨rfl, _, _, (rdrP hN (by simp [UnderL, Under]) _), ?_⟩)); ((conv=>whnf);repeat(refine⟨rfl,?_⟩;conv=>whnf)))
          (refine .inr (.inr (.inl ⟨rfl, _, _, (rdrP hB (by simp [UnderL, Under]) _), ?_⟩)); ((conv=>whnf);repeat(refine⟨rfl,?_⟩;conv=>whnf)))
          (repeat (first | (refine ifK_t ‹_› ?_; ((conv=>whnf);repeat(refine⟨rfl,?_⟩;conv=>whnf))) | (refine ifK_f ‹_› ?_; ((conv=>whnf);repeat(refine⟨rfl,?_⟩;conv=>whnf)))))
          (refine .inl ⟨_, (ltl_twoT 9 a b), ?_⟩; ((conv=>whnf);repeat(refine⟨rfl,?_⟩;conv=>whnf)))
          exact ⟨by (repeat' (first | exact trivial | exact DeepM.none _ | refine And.intro ?_ ?_ | exact Or.inl rfl | exact Or.inr ⟨rfl, rfl⟩ | exact fun _ => rfl | exact (fun h => by cases h) | refine DeepM.loc _ _ _ _ _ rfl rfl ?_ | refine DeepM.own _ _ _ _ _ _ _ _ rfl rfl ?_ | refine DeepM.fn _ _ _ _ _ ?_ ?_ | refine DeepM.agg _ _ ?_ | refine DeepM.tup _ _ ?_ | refine DeepM.ifc _ _ _ ?_ | exact DeepM.refl _ | refine DeepML.cons _ _ _ _ ?_ ?_ | exact DeepML.refl _ | refine DeepMLL.cons _ _ _ _ ?_ ?_ | exact DeepMLL.refl _ | exact rfl)), close_one (pure_rdr _ _ _ _)⟩
        · have hB : ACall Tryd.prog 33 _ _ _ _ := hq f _ _ (by omega) h3
          refine acall_introD c33_ok (by simp) (by simp) ?_ (under_pure _ (pure_ans _ _ _))
          (apply rd_sound; focus (repeat' constructor))
          ((conv=>whnf);repeat(refine⟨rfl,?_⟩;conv=>whnf))
          (refine .inr (.inr (.inl ⟨rfl, _, _, (rdrP hA (by simp [UnderL, Under]) _), ?_⟩)); ((conv=>whnf);repeat(refine⟨rfl,?_⟩;conv=>whnf)))
          rw [show ((tokT s (Res.ok a m).pos).toList == (⟨#[85]⟩ : ByteArray).toList) = false from e1]
          ((conv=>whnf);repeat(refine⟨rfl,?_⟩;conv=>whnf))
          rw [show ((tokT s (Res.ok a m).pos).toList == (⟨#[82]⟩ : ByteArray).toList) = true from e2]
          ((conv=>whnf);repeat(refine⟨rfl,?_⟩;conv=>whnf))
          (refine .inr (.inr (.inl ⟨rfl, _, _, (rdrP hN (by simp [UnderL, Under]) _), ?_⟩)); ((conv=>whnf);repeat(refine⟨rfl,?_⟩;conv=>whnf)))
          (refine .inr (.inr (.inl ⟨rfl, _, _, (rdrP hB (by simp [UnderL, Under]) _), ?_⟩)); ((conv=>whnf);repeat(refine⟨rfl,?_⟩;conv=>whnf)))
          exact ⟨by (repeat' (first | exact trivial | exact DeepM.none _ | refine And.intro ?_ ?_ | exact Or.inl rfl | exact Or.inr ⟨rfl, rfl⟩ | exact fun _ => rfl | exact (fun h => by cases h) | refine DeepM.loc _ _ _ _ _ rfl rfl ?_ | refine DeepM.own _ _ _ _ _ _ _ _ rfl rfl ?_ | refine DeepM.fn _ _ _ _ _ ?_ ?_ | refine DeepM.agg _ _ ?_ | refine DeepM.tup _ _ ?_ | refine DeepM.ifc _ _ _ ?_ | exact DeepM.refl _ | refine DeepML.cons _ _ _ _ ?_ ?_ | exact DeepML.refl _ | refine DeepMLL.cons _ _ _ _ ?_ ?_ | exact DeepMLL.refl _ | exact rfl)), close_one (pure_rdr _ _ _ _)⟩
      rw [if_neg e2] at h2
      have e2 : eqS (tokT s m) (one 82) = false := by simpa using e2
      by_cases e3 : eqS (tokT s m) (one 87) = true
      · rw [if_pos e3] at h2
        rcases bindR_some h2 with ⟨b, k, h3, h4⟩ | ⟨c, k, t, y, h3, rfl⟩
        · have hB : ACall Tryd.prog 33 _ _ _ _ := hq f _ _ (by omega) h3
          have hkt : KT false b := runR_kt f .way o (m + 1) b k (fun _ _ h => by cases h) (fun _ h => by cases h) h3
          cases h4
          refine acall_introD c33_ok (by simp) (by simp) ?_ (under_pure _ (pure_ans _ _ _))
          (apply rd_sound; focus (repeat' constructor))
          ((conv=>whnf);repeat(refine⟨rfl,?_⟩;conv=>whnf))
          (refine .inr (.inr (.inl ⟨rfl, _, _, (rdrP hA (by simp [UnderL, Under]) _), ?_⟩)); ((conv=>whnf);repeat(refine⟨rfl,?_⟩;conv=>whnf)))
          rw [show ((tokT s (Res.ok a m).pos).toList == (⟨#[85]⟩ : ByteArray).toList) = false from e1]
          ((conv=>whnf);repeat(refine⟨rfl,?_⟩;conv=>whnf))
          rw [show ((tokT s (Res.ok a m).pos).toList == (⟨#[82]⟩ : ByteArray).toList) = false from e2]
          ((conv=>whnf);repeat(refine⟨rfl,?_⟩;conv=>whnf))
          rw [show ((tokT s (Res.ok a m).pos).toList == (⟨#[87]⟩ : ByteArray).toList) = true from e3]
          ((conv=>whnf);repeat(refine⟨rfl,?_⟩;conv=>whnf))
          (refine .inr (.inr (.inl ⟨rfl, _, _, (rdrP hN (by simp [UnderL, Under]) _), ?_⟩)); ((conv=>whnf);repeat(refine⟨rfl,?_⟩;conv=>whnf)))
          (refine .inr (.inr (.inl ⟨rfl, _, _, (rdrP hB (by simp [UnderL, Under]) _), ?_⟩)); ((conv=>whnf);repeat(refine⟨rfl,?_⟩;conv=>whnf)))
          (repeat (first | (refine ifK_t ‹_› ?_; ((conv=>whnf);repeat(refine⟨rfl,?_⟩;conv=>whnf))) | (refine ifK_f ‹_› ?_; ((conv=>whnf);repeat(refine⟨rfl,?_⟩;conv=>whnf)))))
          have hZ := ltl_size b 0 hkt.small (by omega)
          have key : orTrue b = if 60 < b.size then mk0 1 0 else b := rfl
          refine pwp_cut (fun _ : Unit => [(2, .loc 1 0), (4, .loc 2 0), (7, .loc 3 0), (8, .loc 4 0)]) (fun _ => [.row true (rdr s names k o), .row true [.sc (.int .i64 0), .sc (.int .i64 0), .sc (.slice none 0 0)], .row true (drow a), .row true (drow b), .row true (drow (orTrue b))]) (fun _ => True) ?_ ?_
          · (apply rd_sound; focus (repeat' constructor))
            ((conv=>whnf);repeat(refine⟨rfl,?_⟩;conv=>whnf))
            (refine .inl ⟨_, hZ, ?_⟩; ((conv=>whnf);repeat(refine⟨rfl,?_⟩;conv=>whnf)))
            by_cases hz : 60 < b.size
            · rw [show szU 60 b 0 = 61 by unfold szU; omega]
              rw [show orTrue b = mk0 1 0 from key.trans (if_pos hz)]
              ((conv=>whnf);repeat(refine⟨rfl,?_⟩;conv=>whnf))
              refine ⟨(), trivial, ?_⟩
              (refine leB_close 5 (by simp) rfl ?_ ?_ <;> (repeat' (first | exact trivial | exact rfl | exact DeepM.refl _ | exact DeepML.refl _ | exact DeepMLL.refl _ | refine And.intro ?_ ?_ | (simp [Under, UnderL, UnderLL, -List.map_take, -List.map_drop]; done))))
              exact .cons _ _ _ _ (.refl _) (.cons _ _ _ _ (.refl _) (.cons _ _ _ _ (.none _) (.refl _)))
            · rw [show orTrue b = b from key.trans (if_neg hz)]
              refine ifK_t (by unfold szU; simp; omega) ?_
              ((conv=>whnf);repeat(refine⟨rfl,?_⟩;conv=>whnf))
              (refine .inl ⟨_, (ltl_copyOf b hkt), ?_⟩; ((conv=>whnf);repeat(refine⟨rfl,?_⟩;conv=>whnf)))
              refine ⟨(), trivial, ?_⟩
              (refine leB_close 5 (by simp) rfl ?_ ?_ <;> (repeat' (first | exact trivial | exact rfl | exact DeepM.refl _ | exact DeepML.refl _ | exact DeepMLL.refl _ | refine And.intro ?_ ?_ | (simp [Under, UnderL, UnderLL, -List.map_take, -List.map_drop]; done))))
          rintro - -
          ((conv=>whnf);repeat(refine⟨rfl,?_⟩;conv=>whnf))
          (refine .inl ⟨_, (ltl_twoT 6 a (orTrue b)), ?_⟩; ((conv=>whnf);repeat(refine⟨rfl,?_⟩;conv=>whnf)))
          (refine .inl ⟨_, (ltl_twoT 9 b (mk2 6 a (orTrue b))), ?_⟩; ((conv=>whnf);repeat(refine⟨rfl,?_⟩;conv=>whnf)))
          exact ⟨by (repeat' (first | exact trivial | exact DeepM.none _ | refine And.intro ?_ ?_ | exact Or.inl rfl | exact Or.inr ⟨rfl, rfl⟩ | exact fun _ => rfl | exact (fun h => by cases h) | refine DeepM.loc _ _ _ _ _ rfl rfl ?_ | refine DeepM.own _ _ _ _ _ _ _ _ rfl rfl ?_ | refine DeepM.fn _ _ _ _ _ ?_ ?_ | refine DeepM.agg _ _ ?_ | refine DeepM.tup _ _ ?_ | refine DeepM.ifc _ _ _ ?_ | exact DeepM.refl _ | refine DeepML.cons _ _ _ _ ?_ ?_ | exact DeepML.refl _ | refine DeepMLL.cons _ _ _ _ ?_ ?_ | exact DeepMLL.refl _ | exact rfl)), close_one (pure_rdr s names k o)⟩
        · have hB : ACall Tryd.prog 33 _ _ _ _ := hq f _ _ (by omega) h3
          refine acall_introD c33_ok (by simp) (by simp) ?_ (under_pure _ (pure_ans _ _ _))
          (apply rd_sound; focus (repeat' constructor))
          ((conv=>whnf);repeat(refine⟨rfl,?_⟩;conv=>whnf))
          (refine .inr (.inr (.inl ⟨rfl, _, _, (rdrP hA (by simp [UnderL, Under]) _), ?_⟩)); ((conv=>whnf);repeat(refine⟨rfl,?_⟩;conv=>whnf)))
          rw [show ((tokT s (Res.ok a m).pos).toList == (⟨#[85]⟩ : ByteArray).toList) = false from e1]
          ((conv=>whnf);repeat(refine⟨rfl,?_⟩;conv=>whnf))
          rw [show ((tokT s (Res.ok a m).pos).toList == (⟨#[82]⟩ : ByteArray).toList) = false from e2]
          ((conv=>whnf);repeat(refine⟨rfl,?_⟩;conv=>whnf))
          rw [show ((tokT s (Res.ok a m).pos).toList == (⟨#[87]⟩ : ByteArray).toList) = true from e3]
          ((conv=>whnf);repeat(refine⟨rfl,?_⟩;conv=>whnf))
          (refine .inr (.inr (.inl ⟨rfl, _, _, (rdrP hN (by simp [UnderL, Under]) _), ?_⟩)); ((conv=>whnf);repeat(refine⟨rfl,?_⟩;conv=>whnf)))
          (refine .inr (.inr (.inl ⟨rfl, _, _, (rdrP hB (by simp [UnderL, Under]) _), ?_⟩)); ((conv=>whnf);repeat(refine⟨rfl,?_⟩;conv=>whnf)))
          exact ⟨by (repeat' (first | exact trivial | exact DeepM.none _ | refine And.intro ?_ ?_ | exact Or.inl rfl | exact Or.inr ⟨rfl, rfl⟩ | exact fun _ => rfl | exact (fun h => by cases h) | refine DeepM.loc _ _ _ _ _ rfl rfl ?_ | refine DeepM.own _ _ _ _ _ _ _ _ rfl rfl ?_ | refine DeepM.fn _ _ _ _ _ ?_ ?_ | refine DeepM.agg _ _ ?_ | refine DeepM.tup _ _ ?_ | refine DeepM.ifc _ _ _ ?_ | exact DeepM.refl _ | refine DeepML.cons _ _ _ _ ?_ ?_ | exact DeepML.refl _ | refine DeepMLL.cons _ _ _ _ ?_ ?_ | exact DeepMLL.refl _ | exact rfl)), close_one (pure_rdr _ _ _ _)⟩
      rw [if_neg e3] at h2
      have e3 : eqS (tokT s m) (one 87) = false := by simpa using e3
      cases h2
      refine acall_introD c33_ok (by simp) (by simp) ?_ (under_pure _ (pure_ans _ _ _))
      (apply rd_sound; focus (repeat' constructor))
      ((conv=>whnf);repeat(refine⟨rfl,?_⟩;conv=>whnf))
      (refine .inr (.inr (.inl ⟨rfl, _, _, (rdrP hA (by simp [UnderL, Under]) _), ?_⟩)); ((conv=>whnf);repeat(refine⟨rfl,?_⟩;conv=>whnf)))
      rw [show ((tokT s (Res.ok a m).pos).toList == (⟨#[85]⟩ : ByteArray).toList) = false from e1]
      ((conv=>whnf);repeat(refine⟨rfl,?_⟩;conv=>whnf))
      rw [show ((tokT s (Res.ok a m).pos).toList == (⟨#[82]⟩ : ByteArray).toList) = false from e2]
      ((conv=>whnf);repeat(refine⟨rfl,?_⟩;conv=>whnf))
      rw [show ((tokT s (Res.ok a m).pos).toList == (⟨#[87]⟩ : ByteArray).toList) = false from e3]
      ((conv=>whnf);repeat(refine⟨rfl,?_⟩;conv=>whnf))
      exact ⟨by (repeat' (first | exact trivial | exact DeepM.none _ | refine And.intro ?_ ?_ | exact Or.inl rfl | exact Or.inr ⟨rfl, rfl⟩ | exact fun _ => rfl | exact (fun h => by cases h) | refine DeepM.loc _ _ _ _ _ rfl rfl ?_ | refine DeepM.own _ _ _ _ _ _ _ _ rfl rfl ?_ | refine DeepM.fn _ _ _ _ _ ?_ ?_ | refine DeepM.agg _ _ ?_ | refine DeepM.tup _ _ ?_ | refine DeepM.ifc _ _ _ ?_ | exact DeepM.refl _ | refine DeepML.cons _ _ _ _ ?_ ?_ | exact DeepML.refl _ | refine DeepMLL.cons _ _ _ _ ?_ ?_ | exact DeepMLL.refl _ | exact rfl)), close_one (pure_rdr _ _ _ _)⟩
    · have hA : ACall Tryd.prog 41 _ _ _ _ := hp f _ _ (by omega) h1
      refine acall_introD c33_ok (by simp) (by simp) ?_ (under_pure _ (pure_ans _ _ _))
      (apply rd_sound; focus (repeat' constructor))
      ((conv=>whnf);repeat(refine⟨rfl,?_⟩;conv=>whnf))
      (refine .inr (.inr (.inl ⟨rfl, _, _, (rdrP hA (by simp [UnderL, Under]) _), ?_⟩)); ((conv=>whnf);repeat(refine⟨rfl,?_⟩;conv=>whnf)))
      exact ⟨by (repeat' (first | exact trivial | exact DeepM.none _ | refine And.intro ?_ ?_ | exact Or.inl rfl | exact Or.inr ⟨rfl, rfl⟩ | exact fun _ => rfl | exact (fun h => by cases h) | refine DeepM.loc _ _ _ _ _ rfl rfl ?_ | refine DeepM.own _ _ _ _ _ _ _ _ rfl rfl ?_ | refine DeepM.fn _ _ _ _ _ ?_ ?_ | refine DeepM.agg _ _ ?_ | refine DeepM.tup _ _ ?_ | refine DeepM.ifc _ _ _ ?_ | exact DeepM.refl _ | refine DeepML.cons _ _ _ _ ?_ ?_ | exact DeepML.refl _ | refine DeepMLL.cons _ _ _ _ ?_ ?_ | exact DeepMLL.refl _ | exact rfl)), close_one (pure_rdr _ _ _ _)⟩
def c41 : PC := .seq (.ops [q 2 (.alloc [(.int .i64 0), (.int .i64 0), (.slice none 0 0)]),q 3 (.move (.const (.nilIface)))] false) (.seq (.seq (.ops [qm 9 0,q 10 (.nilchk (.tmp 9)),q 11 (.faddr 2 (.tmp 10)),q 12 (.load1 (.tmp 11)),q 13 (.call 45 [(.tmp 12)]),qm 4 13] false) (.seq (.ops [qm 14 4,q 15 (.bin .gtr (.tmp 14) (.const (.int .i64 0)))] false) (.cond (.tmp 15) (.seq (.ops [qm 17 0,qm 18 0,q 19 (.mkfn (.func 41) [(.tmp 18)] []),q 20 (.call 46 [(.tmp 17), (.tmp 19)]),qm 16 20,q 21 (.ext 0 (.tmp 16)),q 22 (.ext 1 (.tmp 16)),q 5 (.alloc [(.int .i64 0), (.int .i64 0), (.slice none 0 0)]),qn (.store 3 (.tmp 5) (.tmp 21)),qm 6 22] false) (.seq (.ops [qm 23 4,q 24 (.loadA 3 (.tmp 5)),q 25 (.call 20 [(.tmp 23), (.tmp 24)]),qm 26 6,qn (.store 3 (.tmp 2) (.tmp 25)),qm 3 26] false) (.ret))) (.skip)))) (.seq (.seq (.ops [qm 27 0,q 28 (.nilchk (.tmp 27)),q 29 (.faddr 2 (.tmp 28)),q 30 (.load1 (.tmp 29)),q 31 (.bin .eql (.tmp 30) (.const (.string ⟨#[40]⟩)))] false) (.cond (.tmp 31) (.seq (.ops [qm 33 0,qm 34 0,q 35 (.mkfn (.func 8) [(.tmp 34)] []),q 36 (.call 46 [(.tmp 33), (.tmp 35)]),qm 32 36,q 37 (.ext 0 (.tmp 32)),q 38 (.ext 1 (.tmp 32)),q 7 (.alloc [(.int .i64 0), (.int .i64 0), (.slice none 0 0)]),qn (.store 3 (.tmp 7) (.tmp 37)),qm 8 38] false) (.seq (.seq (.ops [qm 39 8,q 40 (.isnil 1 false (.tmp 39)),qm 41 40,⟨some 42,.move (.tmp 0),some (41,true),0⟩,⟨some 43,.call 18 [(.tmp 42), (.const (.string ⟨#[41]⟩))],some (41,true),0⟩,⟨some 44,.un .not (.tmp 43),some (41,true),0⟩,q 45 (.pick (.tmp 41) (.tmp 44) (.const (.bool false)))] false) (.cond (.tmp 45) (.ops [q 46 (.load1 (.global 0)),qm 47 0,qd 48 (.nilchk (.tmp 47)) 2,qd 49 (.faddr 3 (.tmp 48)) 6,qd 50 (.load1 (.tmp 49)) 14,qd 51 (.call 9 [(.tmp 46), (.tmp 50)]) 31,qw 8 51 63] true) (.skip))) (.seq (.ops [q 52 (.loadA 3 (.tmp 7)),qm 53 8,qn (.store 3 (.tmp 2) (.tmp 52)),qm 3 53] false) (.ret)))) (.skip))) (.seq (.seq (.ops [qm 54 0,q 55 (.nilchk (.tmp 54)),q 56 (.faddr 2 (.tmp 55)),q 57 (.load1 (.tmp 56)),q 58 (.bin .eql (.tmp 57) (.const (.string ⟨#[]⟩))),qm 59 58,⟨some 60,.move (.tmp 0),some (59,false),0⟩,⟨some 61,.nilchk (.tmp 60),some (59,false),0⟩,⟨some 62,.faddr 2 (.tmp 61),some (59,false),0⟩,⟨some 63,.load1 (.tmp 62),some (59,false),0⟩,⟨some 64,.sidx (.tmp 63) (.const (.int .i64 0)),some (59,false),0⟩,⟨some 65,.call 15 [(.tmp 64)],some (59,false),0⟩,⟨some 66,.un .not (.tmp 65),some (59,false),0⟩,q 67 (.pick (.tmp 59) (.const (.bool true)) (.tmp 66))] false) (.cond (.tmp 67) (.seq (.ops [q 68 (.build [(.int .i64 0), (.int .i64 0), (.slice none 0 0)] []),q 69 (.load1 (.global 0)),qm 70 0,qd 71 (.nilchk (.tmp 70)) 4,qd 72 (.faddr 3 (.tmp 71)) 12,qd 73 (.load1 (.tmp 72)) 28,qd 74 (.call 9 [(.tmp 69), (.tmp 73)]) 62,qk (.store 3 (.tmp 2) (.tmp 68)) 127,qw 3 74 255] true) (.ret)) (.skip))) (.seq (.ops [qm 75 0,q 76 (.call 47 [(.tmp 75)]),q 77 (.ext 0 (.tmp 76)),q 78 (.ext 1 (.tmp 76)),qn (.store 3 (.tmp 2) (.tmp 77)),qm 3 78] false) (.ret)))))
set_option maxRecDepth 100000 in
theorem c41_ok : FunOK Tryd.prog 41 79 [.agg 2 3, .tmp 3] c41 := ⟨⟨Tryd.f41, Tryd.func41, rfl, by kernel_rfl, rfl, by kernel_rfl⟩⟩
set_option maxHeartbeats 2000000 in
theorem ltl_single (s : ByteArray) (hs : s.size ≤ 1000000000) (names : List ByteArray) (hn : names.length ≤ 9223372036854775807) (o : Nat) (ho : o ≤ 20) (f : Nat)
    (hp : ∀ f' n r, f' < f → o < 20 → runR (tokT s) names false f' .formula (o + 1) n = some r → CAns s names 8 [.loc 0 0] n (o + 1) r)
    (hq : ∀ f' n r, f' < f → o < 20 → runR (tokT s) names false f' .single (o + 1) n = some r → CAns s names 41 [.loc 0 0] n (o + 1) r)
    (n : Nat) (r : Res) (hr : runR (tokT s) names false f .single o n = some r) : CAns s names 41 [.loc 0 0] n o r := by
  cases f with
  | zero => simp [runR] at hr
  | succ f =>
    have hPre := ltl_prefix (tokT s n)
    simp only [runR] at hr
    by_cases g1 : eqS (tokT s n) (one 40) = true
    · rw [if_pos g1] at hr
      have k0 : preK false (tokT s n) = 0 := by
        unfold preK
        rw [show eqS (tokT s n) (one 33) = false from (eqS_as g1 _).trans (eqS_one rfl), show eqS (tokT s n) (one 88) = false from (eqS_as g1 _).trans (eqS_one rfl), show eqS (tokT s n) (one 70) = false from (eqS_as g1 _).trans (eqS_one rfl), show eqS (tokT s n) (one 71) = false from (eqS_as g1 _).trans (eqS_one rfl)]
        rfl
      rw [k0] at hPre
      obtain ⟨q, h1, h2⟩ : ∃ q, (o < 20 → CAns s names 8 [.loc 0 0] (n + 1) (o + 1) q) ∧ ((∃ a m, inR o n q = .ok a m ∧ r = if eqS (tokT s m) (one 41) then .ok a (m + 1) else .bad 3 m a (mk0 3 0)) ∨ ((∃ c m x y, inR o n q = .bad c m x y) ∧ r.tree = (inR o n q).tree ∧ r.pos = (inR o n q).pos ∧ r.err s = (inR o n q).err s)) := by
        by_cases h : o = 20
        · rw [if_pos h] at hr
          cases hr
          refine ⟨noR 5 n, fun q => by omega, .inr ?_⟩
          rw [show inR o n (noR 5 n) = noR 5 n from if_pos h]
          exact ⟨⟨_, _, _, _, rfl⟩, rfl, rfl, rfl⟩
        · rw [if_neg h] at hr
          rcases bindR_some hr with ⟨a, m, h1, h2⟩ | ⟨c, m, t, y, h1, rfl⟩
          · refine ⟨_, fun h => hp f _ _ (by omega) h h1, .inl ⟨a, m, if_neg h, ?_⟩⟩
            split at h2 <;> rename_i g
            · rw [if_pos g]; exact (Option.some.inj h2).symm
            · rw [if_neg g]; exact (Option.some.inj h2).symm
          · refine ⟨_, fun h => hp f _ _ (by omega) h h1, .inr ?_⟩
            rw [show inR o n (.bad c m t y) = .bad c m t y from if_neg h]
            exact ⟨⟨_, _, _, _, rfl⟩, rfl, rfl, rfl⟩
      have hI : ACall Tryd.prog 46 _ _ _ _ := ltl_within s hs names n o ho 8 [.loc 0 0] [] (by simp [UnderL, Under]) q h1
      generalize inR o n q = w at hI h2
      rcases h2 with ⟨a, m, rfl, h2⟩ | ⟨⟨c, m, x, y, rfl⟩, e1, e2, e3⟩
      · have hT := ltl_take s hs names m o (one 41)
        by_cases hu : eqS (tokT s m) (one 41) = true
        · rw [if_pos hu] at h2 hT
          rw [hu] at hT
          subst h2
          refine acall_introD c41_ok (by simp) (by simp) ?_ (under_pure _ (pure_ans _ _ _))
          (apply rd_sound; focus (repeat' constructor))
          ((conv=>whnf);repeat(refine⟨rfl,?_⟩;conv=>whnf))
          (refine .inl ⟨_, hPre, ?_⟩; ((conv=>whnf);repeat(refine⟨rfl,?_⟩;conv=>whnf)))
          (repeat (first | (refine ifK_t ‹_› ?_; ((conv=>whnf);repeat(refine⟨rfl,?_⟩;conv=>whnf))) | (refine ifK_f ‹_› ?_; ((conv=>whnf);repeat(refine⟨rfl,?_⟩;conv=>whnf)))))
          (refine .inr (.inr (.inl ⟨rfl, _, _, (rdrP hI (by simp [UnderL, Under]) _), ?_⟩)); ((conv=>whnf);repeat(refine⟨rfl,?_⟩;conv=>whnf)))
          (refine .inr (.inr (.inl ⟨rfl, _, _, (rdrP hT (by simp [UnderL, Under]) _), ?_⟩)); ((conv=>whnf);repeat(refine⟨rfl,?_⟩;conv=>whnf)))
          exact ⟨by (repeat' (first | exact trivial | exact DeepM.none _ | refine And.intro ?_ ?_ | exact Or.inl rfl | exact Or.inr ⟨rfl, rfl⟩ | exact fun _ => rfl | exact (fun h => by cases h) | refine DeepM.loc _ _ _ _ _ rfl rfl ?_ | refine DeepM.own _ _ _ _ _ _ _ _ rfl rfl ?_ | refine DeepM.fn _ _ _ _ _ ?_ ?_ | refine DeepM.agg _ _ ?_ | refine DeepM.tup _ _ ?_ | refine DeepM.ifc _ _ _ ?_ | exact DeepM.refl _ | refine DeepML.cons _ _ _ _ ?_ ?_ | exact DeepML.refl _ | refine DeepMLL.cons _ _ _ _ ?_ ?_ | exact DeepMLL.refl _ | exact rfl)), close_one (pure_rdr _ _ _ _)⟩
        · rw [if_neg hu] at h2 hT
          rw [show eqS (tokT s m) (one 41) = false by simpa using hu] at hT
          have hW := ltl_errStand (atT s m)
          subst h2
          refine acall_introD c41_ok (by simp) (by simp) ?_ (under_pure _ (pure_ans _ _ _))
          (apply rd_sound; focus (repeat' constructor))
          ((conv=>whnf);repeat(refine⟨rfl,?_⟩;conv=>whnf))
          (refine .inl ⟨_, hPre, ?_⟩; ((conv=>whnf);repeat(refine⟨rfl,?_⟩;conv=>whnf)))
          (repeat (first | (refine ifK_t ‹_› ?_; ((conv=>whnf);repeat(refine⟨rfl,?_⟩;conv=>whnf))) | (refine ifK_f ‹_› ?_; ((conv=>whnf);repeat(refine⟨rfl,?_⟩;conv=>whnf)))))
          (refine .inr (.inr (.inl ⟨rfl, _, _, (rdrP hI (by simp [UnderL, Under]) _), ?_⟩)); ((conv=>whnf);repeat(refine⟨rfl,?_⟩;conv=>whnf)))
          (refine .inr (.inr (.inl ⟨rfl, _, _, (rdrP hT (by simp [UnderL, Under]) _), ?_⟩)); ((conv=>whnf);repeat(refine⟨rfl,?_⟩;conv=>whnf)))
          (refine .inl ⟨_, hW, ?_⟩; ((conv=>whnf);repeat(refine⟨rfl,?_⟩;conv=>whnf)))
          exact ⟨by (repeat' (first | exact trivial | exact DeepM.none _ | refine And.intro ?_ ?_ | exact Or.inl rfl | exact Or.inr ⟨rfl, rfl⟩ | exact fun _ => rfl | exact (fun h => by cases h) | refine DeepM.loc _ _ _ _ _ rfl rfl ?_ | refine DeepM.own _ _ _ _ _ _ _ _ rfl rfl ?_ | refine DeepM.fn _ _ _ _ _ ?_ ?_ | refine DeepM.agg _ _ ?_ | refine DeepM.tup _ _ ?_ | refine DeepM.ifc _ _ _ ?_ | exact DeepM.refl _ | refine DeepML.cons _ _ _ _ ?_ ?_ | exact DeepML.refl _ | refine DeepMLL.cons _ _ _ _ ?_ ?_ | exact DeepMLL.refl _ | exact rfl)), close_one (pure_rdr _ _ _ _)⟩
      · unfold CAns
        rw [e1, e2, e3]
        refine acall_introD c41_ok (by simp) (by simp) ?_ (under_pure _ (pure_ans _ _ _))
        (apply rd_sound; focus (repeat' constructor))
        ((conv=>whnf);repeat(refine⟨rfl,?_⟩;conv=>whnf))
        (refine .inl ⟨_, hPre, ?_⟩; ((conv=>whnf);repeat(refine⟨rfl,?_⟩;conv=>whnf)))
        (repeat (first | (refine ifK_t ‹_› ?_; ((conv=>whnf);repeat(refine⟨rfl,?_⟩;conv=>whnf))) | (refine ifK_f ‹_› ?_; ((conv=>whnf);repeat(refine⟨rfl,?_⟩;conv=>whnf)))))
        (refine .inr (.inr (.inl ⟨rfl, _, _, (rdrP hI (by simp [UnderL, Under]) _), ?_⟩)); ((conv=>whnf);repeat(refine⟨rfl,?_⟩;conv=>whnf)))
        exact ⟨by (repeat' (first | exact trivial | exact DeepM.none _ | refine And.intro ?_ ?_ | exact Or.inl rfl | exact Or.inr ⟨rfl, rfl⟩ | exact fun _ => rfl | exact (fun h => by cases h) | refine DeepM.loc _ _ _ _ _ rfl rfl ?_ | refine DeepM.own _ _ _ _ _ _ _ _ rfl rfl ?_ | refine DeepM.fn _ _ _ _ _ ?_ ?_ | refine DeepM.agg _ _ ?_ | refine DeepM.tup _ _ ?_ | refine DeepM.ifc _ _ _ ?_ | exact DeepM.refl _ | refine DeepML.cons _ _ _ _ ?_ ?_ | exact DeepML.refl _ | refine DeepMLL.cons _ _ _ _ ?_ ?_ | exact DeepMLL.refl _ | exact rfl)), close_one (pure_rdr _ _ _ _)⟩
    rw [if_neg g1] at hr
    have g1 : eqS (tokT s n) (one 40) = false := by simpa using g1
    have hkp : preK false (tokT s n) = 0 ∨ 0 < preK false (tokT s n) := by unfold preK; (repeat' split) <;> omega
    by_cases hk : preK false (tokT s n) ≠ 0
    · rw [if_pos hk] at hr
      have hk0 : 0 < preK false (tokT s n) := by omega
      generalize preK false (tokT s n) = kd at hr hPre hk0
      obtain ⟨q, h1, e1, e2, e3⟩ : ∃ q, (o < 20 → CAns s names 41 [.loc 0 0] (n + 1) (o + 1) q) ∧ r.tree = mk1 kd (inR o n q).tree ∧ r.pos = (inR o n q).pos ∧ r.err s = (inR o n q).err s := by
        by_cases h : o = 20
        · rw [if_pos h] at hr
          cases hr
          refine ⟨noR 5 n, fun q => by omega, ?_⟩
          rw [show inR o n (noR 5 n) = noR 5 n from if_pos h]
          exact ⟨rfl, rfl, rfl⟩
        · rw [if_neg h] at hr
          rcases bindR_some hr with ⟨a, m, h1, h2⟩ | ⟨c, m, t, y, h1, rfl⟩
          · refine ⟨_, fun h => hq f _ _ (by omega) h h1, ?_⟩
            rw [show inR o n (.ok a m) = .ok a m from if_neg h]
            cases h2
            exact ⟨rfl, rfl, rfl⟩
          · refine ⟨_, fun h => hq f _ _ (by omega) h h1, ?_⟩
            rw [show inR o n (.bad c m t y) = .bad c m t y from if_neg h]
            exact ⟨rfl, rfl, rfl⟩
      have hI : ACall Tryd.prog 46 _ _ _ _ := ltl_within s hs names n o ho 41 [.loc 0 0] [] (by simp [UnderL, Under]) q h1
      generalize inR o n q = w at hI e1 e2 e3
      unfold CAns
      rw [e1, e2, e3]
      refine acall_introD c41_ok (by simp) (by simp) ?_ (under_pure _ (pure_ans _ _ _))
      (apply rd_sound; focus (repeat' constructor))
      ((conv=>whnf);repeat(refine⟨rfl,?_⟩;conv=>whnf))
      (refine .inl ⟨_, hPre, ?_⟩; ((conv=>whnf);repeat(refine⟨rfl,?_⟩;conv=>whnf)))
      refine ifK_t (by simpa using hk0) ?_
      ((conv=>whnf);repeat(refine⟨rfl,?_⟩;conv=>whnf))
      (refine .inr (.inr (.inl ⟨rfl, _, _, (rdrP hI (by simp [UnderL, Under]) _), ?_⟩)); ((conv=>whnf);repeat(refine⟨rfl,?_⟩;conv=>whnf)))
      (refine .inl ⟨_, (ltl_oneT kd w.tree), ?_⟩; ((conv=>whnf);repeat(refine⟨rfl,?_⟩;conv=>whnf)))
      exact ⟨by (repeat' (first | exact trivial | exact DeepM.none _ | refine And.intro ?_ ?_ | exact Or.inl rfl | exact Or.inr ⟨rfl, rfl⟩ | exact fun _ => rfl | exact (fun h => by cases h) | refine DeepM.loc _ _ _ _ _ rfl rfl ?_ | refine DeepM.own _ _ _ _ _ _ _ _ rfl rfl ?_ | refine DeepM.fn _ _ _ _ _ ?_ ?_ | refine DeepM.agg _ _ ?_ | refine DeepM.tup _ _ ?_ | refine DeepM.ifc _ _ _ ?_ | exact DeepM.refl _ | refine DeepML.cons _ _ _ _ ?_ ?_ | exact DeepML.refl _ | refine DeepMLL.cons _ _ _ _ ?_ ?_ | exact DeepMLL.refl _ | exact rfl)), close_one (pure_rdr _ _ _ _)⟩
    rw [if_neg hk, if_neg (by simp)] at hr
    have k0 : preK false (tokT s n) = 0 := by omega
    rw [k0] at hPre
    by_cases hl : lowT (tokT s n) = true
    · have hA : ACall Tryd.prog 47 _ _ _ _ := ltl_word s hs names hn n o hl
      cases hr
      have h0 : 0 < (tokT s n).size := by simp [lowT] at hl; omega
      obtain ⟨b, hb⟩ := byte_at h0
      have hc := chr_at hb
      have hlt : (decide (97 ≤ b.toNat) && decide (b.toNat ≤ 122)) = true := by
        rw [← hc]
        unfold lowT at hl
        simp only [Bool.and_eq_true] at hl ⊢
        exact ⟨hl.1.2, hl.2⟩
      have hz : eqS (tokT s n) ⟨#[]⟩ = false := by
        cases h : eqS (tokT s n) ⟨#[]⟩ with
        | false => rfl
        | true => rw [(eqS_empty _).1 h] at h0; omega
      refine acall_introD c41_ok (by simp) (by simp) ?_ (under_pure _ (pure_ans _ _ _))
      (apply rd_sound; focus (repeat' constructor))
      ((conv=>whnf);repeat(refine⟨rfl,?_⟩;conv=>whnf))
      (refine .inl ⟨_, hPre, ?_⟩; ((conv=>whnf);repeat(refine⟨rfl,?_⟩;conv=>whnf)))
      (repeat (first | (refine ifK_t ‹_› ?_; ((conv=>whnf);repeat(refine⟨rfl,?_⟩;conv=>whnf))) | (refine ifK_f ‹_› ?_; ((conv=>whnf);repeat(refine⟨rfl,?_⟩;conv=>whnf)))))
      refine ⟨by omega, b, hb, ?_⟩
      ((conv=>whnf);repeat(refine⟨rfl,?_⟩;conv=>whnf))
      (repeat (first | (refine ifK_t ‹_› ?_; ((conv=>whnf);repeat(refine⟨rfl,?_⟩;conv=>whnf))) | (refine ifK_f ‹_› ?_; ((conv=>whnf);repeat(refine⟨rfl,?_⟩;conv=>whnf)))))
      (refine .inl ⟨_, (ltl_letter b.toNat), ?_⟩; ((conv=>whnf);repeat(refine⟨rfl,?_⟩;conv=>whnf)))
      rw [hlt]
      ((conv=>whnf);repeat(refine⟨rfl,?_⟩;conv=>whnf))
      (repeat (first | (refine ifK_t ‹_› ?_; ((conv=>whnf);repeat(refine⟨rfl,?_⟩;conv=>whnf))) | (refine ifK_f ‹_› ?_; ((conv=>whnf);repeat(refine⟨rfl,?_⟩;conv=>whnf)))))
      (refine .inr (.inr (.inl ⟨rfl, _, _, (rdrP hA (by simp [UnderL, Under]) _), ?_⟩)); ((conv=>whnf);repeat(refine⟨rfl,?_⟩;conv=>whnf)))
      exact ⟨by (repeat' (first | exact trivial | exact DeepM.none _ | refine And.intro ?_ ?_ | exact Or.inl rfl | exact Or.inr ⟨rfl, rfl⟩ | exact fun _ => rfl | exact (fun h => by cases h) | refine DeepM.loc _ _ _ _ _ rfl rfl ?_ | refine DeepM.own _ _ _ _ _ _ _ _ rfl rfl ?_ | refine DeepM.fn _ _ _ _ _ ?_ ?_ | refine DeepM.agg _ _ ?_ | refine DeepM.tup _ _ ?_ | refine DeepM.ifc _ _ _ ?_ | exact DeepM.refl _ | refine DeepML.cons _ _ _ _ ?_ ?_ | exact DeepML.refl _ | refine DeepMLL.cons _ _ _ _ ?_ ?_ | exact DeepMLL.refl _ | exact rfl)), close_one (pure_rdr _ _ _ _)⟩
    · have hl : lowT (tokT s n) = false := by simpa using hl
      cases hr
      have e : wordR (tokT s) names n = noR 3 n := if_pos hl
      rw [e]
      have hW := ltl_errStand (atT s n)
      refine acall_introD c41_ok (by simp) (by simp) ?_ (under_pure _ (pure_ans _ _ _))
      (apply rd_sound; focus (repeat' constructor))
      ((conv=>whnf);repeat(refine⟨rfl,?_⟩;conv=>whnf))
      (refine .inl ⟨_, hPre, ?_⟩; ((conv=>whnf);repeat(refine⟨rfl,?_⟩;conv=>whnf)))
      (repeat (first | (refine ifK_t ‹_› ?_; ((conv=>whnf);repeat(refine⟨rfl,?_⟩;conv=>whnf))) | (refine ifK_f ‹_› ?_; ((conv=>whnf);repeat(refine⟨rfl,?_⟩;conv=>whnf)))))
      cases hz : eqS (tokT s n) ⟨#[]⟩ with
      | true =>
        (repeat (first | (refine ifK_t ‹_› ?_; ((conv=>whnf);repeat(refine⟨rfl,?_⟩;conv=>whnf))) | (refine ifK_f ‹_› ?_; ((conv=>whnf);repeat(refine⟨rfl,?_⟩;conv=>whnf)))))
        (refine .inl ⟨_, hW, ?_⟩; ((conv=>whnf);repeat(refine⟨rfl,?_⟩;conv=>whnf)))
        exact ⟨by (repeat' (first | exact trivial | exact DeepM.none _ | refine And.intro ?_ ?_ | exact Or.inl rfl | exact Or.inr ⟨rfl, rfl⟩ | exact fun _ => rfl | exact (fun h => by cases h) | refine DeepM.loc _ _ _ _ _ rfl rfl ?_ | refine DeepM.own _ _ _ _ _ _ _ _ rfl rfl ?_ | refine DeepM.fn _ _ _ _ _ ?_ ?_ | refine DeepM.agg _ _ ?_ | refine DeepM.tup _ _ ?_ | refine DeepM.ifc _ _ _ ?_ | exact DeepM.refl _ | refine DeepML.cons _ _ _ _ ?_ ?_ | exact DeepML.refl _ | refine DeepMLL.cons _ _ _ _ ?_ ?_ | exact DeepMLL.refl _ | exact rfl)), close_one (pure_rdr _ _ _ _)⟩
      | false =>
        have h0 : 0 < (tokT s n).size := by
          rcases Nat.eq_zero_or_pos (tokT s n).size with h | h
          · rw [(eqS_empty _).2 h] at hz; cases hz
          · exact h
        obtain ⟨b, hb⟩ := byte_at h0
        have hc := chr_at hb
        have hlt : (decide (97 ≤ b.toNat) && decide (b.toNat ≤ 122)) = false := by
          rw [← hc]
          unfold lowT at hl
          rwa [decide_eq_true h0, Bool.true_and] at hl
        (repeat (first | (refine ifK_t ‹_› ?_; ((conv=>whnf);repeat(refine⟨rfl,?_⟩;conv=>whnf))) | (refine ifK_f ‹_› ?_; ((conv=>whnf);repeat(refine⟨rfl,?_⟩;conv=>whnf)))))
        refine ⟨by omega, b, hb, ?_⟩
        ((conv=>whnf);repeat(refine⟨rfl,?_⟩;conv=>whnf))
        (repeat (first | (refine ifK_t ‹_› ?_; ((conv=>whnf);repeat(refine⟨rfl,?_⟩;conv=>whnf))) | (refine ifK_f ‹_› ?_; ((conv=>whnf);repeat(refine⟨rfl,?_⟩;conv=>whnf)))))
        (refine .inl ⟨_, (ltl_letter b.toNat), ?_⟩; ((conv=>whnf);repeat(refine⟨rfl,?_⟩;conv=>whnf)))
        rw [hlt]
        ((conv=>whnf);repeat(refine⟨rfl,?_⟩;conv=>whnf))
        (repeat (first | (refine ifK_t ‹_› ?_; ((conv=>whnf);repeat(refine⟨rfl,?_⟩;conv=>whnf))) | (refine ifK_f ‹_› ?_; ((conv=>whnf);repeat(refine⟨rfl,?_⟩;conv=>whnf)))))
        (refine .inl ⟨_, hW, ?_⟩; ((conv=>whnf);repeat(refine⟨rfl,?_⟩;conv=>whnf)))
        exact ⟨by (repeat' (first | exact trivial | exact DeepM.none _ | refine And.intro ?_ ?_ | exact Or.inl rfl | exact Or.inr ⟨rfl, rfl⟩ | exact fun _ => rfl | exact (fun h => by cases h) | refine DeepM.loc _ _ _ _ _ rfl rfl ?_ | refine DeepM.own _ _ _ _ _ _ _ _ rfl rfl ?_ | refine DeepM.fn _ _ _ _ _ ?_ ?_ | refine DeepM.agg _ _ ?_ | refine DeepM.tup _ _ ?_ | refine DeepM.ifc _ _ _ ?_ | exact DeepM.refl _ | refine DeepML.cons _ _ _ _ ?_ ?_ | exact DeepML.refl _ | refine DeepMLL.cons _ _ _ _ ?_ ?_ | exact DeepMLL.refl _ | exact rfl)), close_one (pure_rdr _ _ _ _)⟩
/-- All of the reader. -/
theorem ltl_reads (s : ByteArray) (hs : s.size ≤ 1000000000) (names : List ByteArray) (hn : names.length ≤ 9223372036854775807) : ∀ (f : Nat), f ≤ 1000000000 → ∀ (o n : Nat) (r : Res), o ≤ 20 →
    (runR (tokT s) names false f .formula o n = some r → CAns s names 8 [.loc 0 0] n o r) ∧
    (runR (tokT s) names false f (.row false) o n = some r → CAns s names 17 [.loc 0 0] n o r) ∧
    (runR (tokT s) names false f .way o n = some r → CAns s names 33 [.loc 0 0] n o r) ∧
    (runR (tokT s) names false f .single o n = some r → CAns s names 41 [.loc 0 0] n o r) := by
  intro f
  induction f using Nat.strongRecOn with
  | ind f ih =>
    intro hf o n r ho
    exact ⟨fun h => ltl_formula s hs names o f (fun f' n r h1 h2 => (ih f' h1 (by omega) o n r ho).2.1 h2) hf n r h, fun h => ltl_and s hs names o f (fun f' n r h1 h2 => (ih f' h1 (by omega) o n r ho).2.2.1 h2) n r h,
      fun h => ltl_way s hs names o f (fun f' n r h1 h2 => (ih f' h1 (by omega) o n r ho).2.2.2 h2) (fun f' n r h1 h2 => (ih f' h1 (by omega) o n r ho).2.2.1 h2) n r h,
      fun h => ltl_single s hs names hn o ho f (fun f' n r h1 h2 h3 => (ih f' h1 (by omega) (o + 1) n r (by omega)).1 h3) (fun f' n r h1 h2 h3 => (ih f' h1 (by omega) (o + 1) n r (by omega)).2.2.2 h3) n r h⟩
end Go.Proofs.YtjbkbjedlgkibaaDoor
