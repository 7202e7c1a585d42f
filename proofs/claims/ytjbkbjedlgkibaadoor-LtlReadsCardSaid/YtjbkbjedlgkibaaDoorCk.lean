/-
  What a check of a formula answers, over deep values. No statement is proved here.
-/
import Derived.Test.YtjbkbjedlgkibaaDoorDk
import Derived.Test.YtjbkbjedlgkibaaDoorProg
namespace Go.Proofs.YtjbkbjedlgkibaaDoor
open Go.RowKit
set_option linter.unusedSimpArgs false
def c38 : PC := .seq (.ops [q 2 (.move (.const (.int .i64 0)))] false) (.seq (.seq (.ops [qm 3 0] false) (.block 0 (.seq (.seq (.ops [q 5 (.bin .eql (.tmp 3) (.const (.int .i64 1))),qm 4 5] false) (.cond (.tmp 4) (.skip) (.seq (.ops [q 6 (.bin .eql (.tmp 3) (.const (.int .i64 2))),qm 4 6] false) (.cond (.tmp 4) (.skip) (.ops [q 7 (.bin .eql (.tmp 3) (.const (.int .i64 3))),qm 4 7] false))))) (.cond (.tmp 4) (.seq (.ops [q 2 (.move (.const (.int .i64 0)))] false) (.ret)) (.seq (.seq (.ops [q 9 (.bin .eql (.tmp 3) (.const (.int .i64 4))),qm 8 9] false) (.cond (.tmp 8) (.skip) (.seq (.ops [q 10 (.bin .eql (.tmp 3) (.const (.int .i64 7))),qm 8 10] false) (.cond (.tmp 8) (.skip) (.seq (.ops [q 11 (.bin .eql (.tmp 3) (.const (.int .i64 10))),qm 8 11] false) (.cond (.tmp 8) (.skip) (.ops [q 12 (.bin .eql (.tmp 3) (.const (.int .i64 11))),qm 8 12] false))))))) (.cond (.tmp 8) (.seq (.ops [q 2 (.move (.const (.int .i64 1)))] false) (.ret)) (.seq (.seq (.ops [q 14 (.bin .eql (.tmp 3) (.const (.int .i64 5))),qm 13 14] false) (.cond (.tmp 13) (.skip) (.seq (.ops [q 15 (.bin .eql (.tmp 3) (.const (.int .i64 6))),qm 13 15] false) (.cond (.tmp 13) (.skip) (.seq (.ops [q 16 (.bin .eql (.tmp 3) (.const (.int .i64 8))),qm 13 16] false) (.cond (.tmp 13) (.skip) (.ops [q 17 (.bin .eql (.tmp 3) (.const (.int .i64 9))),qm 13 17] false))))))) (.cond (.tmp 13) (.seq (.ops [q 2 (.move (.const (.int .i64 2)))] false) (.ret)) (.skip))))))))) (.seq (.ops [q 2 (.move (.const (.int .i64 (-1))))] false) (.ret)))
set_option maxRecDepth 100000 in
theorem c38_ok : FunOK Tryd.prog 38 18 [.tmp 2] c38 := ⟨⟨Tryd.f38, Tryd.func38, rfl, by kernel_rfl, rfl, by kernel_rfl⟩⟩
def c26_1 : PC := .seq (.ops [q 51 (.bin .lss (.tmp 50) (.tmp 49))] false) (.seq (.cond (.tmp 51) (.skip) (.exit 1)) (.seq (.block 2 (.seq (.ops [q 52 (.iaddr 3 (.tmp 48) (.tmp 50)),q 53 (.loadA 3 (.tmp 52)),q 8 (.alloc [(.int .i64 0), (.int .i64 0), (.slice none 0 0)]),qn (.store 3 (.tmp 8) (.tmp 53))] false) (.seq (.ops [q 54 (.loadA 3 (.tmp 8)),qm 55 1,q 56 (.bin .add (.tmp 55) (.const (.int .i64 1))),qm 57 2,q 58 (.call 26 [(.tmp 54), (.tmp 56), (.tmp 57)]),qm 9 58] false) (.seq (.ops [qm 59 9,q 60 (.bin .neq (.tmp 59) (.const (.int .i64 0)))] false) (.cond (.tmp 60) (.seq (.ops [qm 61 9,qm 6 61] false) (.ret)) (.skip)))))) (.ops [q 62 (.bin .add (.tmp 50) (.const (.int .i64 1))),qm 50 62] false)))
def c26 : PC := .seq (.ops [q 3 (.box (.tmp 0)),q 6 (.move (.const (.int .i64 0)))] false) (.seq (.ops [qm 10 2,q 11 (.nilchk (.tmp 10)),q 12 (.load1 (.tmp 11)),q 13 (.bin .add (.tmp 12) (.const (.int .i64 1))),q 14 (.nilchk (.tmp 10)),qn (.store 1 (.tmp 14) (.tmp 13))] false) (.seq (.block 0 (.seq (.ops [qm 16 2,q 17 (.nilchk (.tmp 16)),q 18 (.load1 (.tmp 17)),q 19 (.bin .gtr (.tmp 18) (.const (.int .i64 60))),qm 15 19] false) (.cond (.tmp 15) (.seq (.ops [q 6 (.move (.const (.int .i64 2)))] false) (.ret)) (.seq (.ops [qm 21 1,q 22 (.bin .gtr (.tmp 21) (.const (.int .i64 20))),qm 20 22] false) (.cond (.tmp 20) (.seq (.ops [q 6 (.move (.const (.int .i64 5)))] false) (.ret)) (.seq (.seq (.ops [q 24 (.faddr 0 (.tmp 3)),qd 25 (.load1 (.tmp 24)) 1,qd 26 (.call 38 [(.tmp 25)]) 3,q 27 (.faddr 2 (.tmp 3)),qd 28 (.load1 (.tmp 27)) 8,qd 29 (.len (.tmp 28)) 24,qd 30 (.bin .neq (.tmp 26) (.tmp 29)) 63,qw 23 30 127] true) (.cond (.tmp 23) (.skip) (.seq (.ops [q 31 (.faddr 1 (.tmp 3)),q 32 (.load1 (.tmp 31)),q 33 (.bin .lss (.tmp 32) (.const (.int .i64 0))),qm 34 33,⟨some 35,.faddr 1 (.tmp 3),some (34,false),0⟩,⟨some 36,.load1 (.tmp 35),some (34,false),0⟩,⟨some 37,.bin .gtr (.tmp 36) (.const (.int .i64 63)),some (34,false),0⟩,q 38 (.pick (.tmp 34) (.const (.bool true)) (.tmp 37)),qm 23 38] false) (.cond (.tmp 23) (.skip) (.ops [q 39 (.faddr 0 (.tmp 3)),q 40 (.load1 (.tmp 39)),q 41 (.bin .neq (.tmp 40) (.const (.int .i64 3))),qm 42 41,⟨some 43,.faddr 1 (.tmp 3),some (42,true),0⟩,⟨some 44,.load1 (.tmp 43),some (42,true),0⟩,⟨some 45,.bin .neq (.tmp 44) (.const (.int .i64 0)),some (42,true),0⟩,q 46 (.pick (.tmp 42) (.tmp 45) (.const (.bool false))),qm 23 46] false))))) (.cond (.tmp 23) (.seq (.ops [q 6 (.move (.const (.int .i64 1)))] false) (.ret)) (.skip)))))))) (.seq (.seq (.ops [q 47 (.faddr 2 (.tmp 3)),q 48 (.load1 (.tmp 47)),q 49 (.len (.tmp 48)),q 50 (.move (.const (.int .i64 0)))] false) (.block 1 (.loop c26_1))) (.seq (.ops [q 6 (.move (.const (.int .i64 0)))] false) (.ret)))))
set_option maxRecDepth 100000 in
theorem c26_ok : FunOK Tryd.prog 26 63 [.tmp 6] c26 := ⟨⟨Tryd.f26, Tryd.func26, rfl, by kernel_rfl, rfl, by kernel_rfl⟩⟩
def c11 : PC := .seq (.ops [q 1 (.box (.tmp 0)),q 2 (.move (.const (.int .i64 0)))] false) (.seq (.ops [q 3 (.alloc [(.int .i64 0)]),qn (.store 1 (.tmp 3) (.const (.int .i64 0)))] false) (.seq (.ops [q 4 (.loadA 3 (.tmp 1)),q 5 (.call 26 [(.tmp 4), (.const (.int .i64 1)), (.tmp 3)]),qm 2 5] false) (.ret)))
set_option maxRecDepth 100000 in
theorem c11_ok : FunOK Tryd.prog 11 6 [.tmp 2] c11 := ⟨⟨Tryd.f11, Tryd.func11, rfl, by kernel_rfl, rfl, by kernel_rfl⟩⟩

theorem ltl_kids (k : Int) : PCall Tryd.prog 38 [.sc (.int .i64 k)] (.sc (.int .i64 (lKids k))) := by
  refine pcall_intro c38_ok (by simp) (by simp [PureL, Pure]) ?_ (by simp [Pure])
  (apply rd_sound; focus (repeat' constructor))
  ((conv=>whnf);repeat(refine⟨rfl,?_⟩;conv=>whnf))
  repeat' (first | (refine ifK_split (fun h => ?_) (fun h => ?_) <;> (rw [h]; ((conv=>whnf);repeat(refine⟨rfl,?_⟩;conv=>whnf)))) | exact deep_eq (by simp_all [lKids]))
theorem ltl_check : ∀ (t : Tree) (d n : Int), Small t → 0 ≤ d → d ≤ 21 → 0 ≤ n → n ≤ 60 → ACall Tryd.prog 26 ([dtree t, .sc (.int .i64 d)] ++ .loc 0 0 :: []) [.row true [.sc (.int .i64 n)]] (.sc (.int .i64 (chkT lKids t d n).1)) [.row true [.sc (.int .i64 (chkT lKids t d n).2)]] := by
  intro t
  induction t using Tree.ind with
  | h t ih =>
    intro d n hs hd hd' hn hn'
    have hsz := hs.width
    refine acall_intro c26_ok (by simp) (by simp) ?_ (by simp [Under]) (by simp [AObj.under, UnderL, Under])
    (apply rd_sound; focus (repeat' constructor))
    ((conv=>whnf);repeat(refine⟨rfl,?_⟩;conv=>whnf))
    refine .inl ⟨by unfold InR; rw [IntKind.wrap_i64]; omega, ?_⟩
    ((conv=>whnf);repeat(refine⟨rfl,?_⟩;conv=>whnf))
    have e := chkT_eq lKids t d n
    (refine ifK_split (fun h1 => ?_) (fun h1 => ?_) <;> (rw [h1]; ((conv=>whnf);repeat(refine⟨rfl,?_⟩;conv=>whnf))))
    · simp at h1
      rw [e, if_pos h1]
      exact ⟨rfl, rfl, by simp⟩
    rw [if_neg (by simpa using h1)] at e
    (refine ifK_split (fun h2 => ?_) (fun h2 => ?_) <;> (rw [h2]; ((conv=>whnf);repeat(refine⟨rfl,?_⟩;conv=>whnf))))
    · simp at h2
      rw [e, if_pos h2]
      exact ⟨rfl, rfl, by simp⟩
    rw [if_neg (by simpa using h2)] at e
    (refine .inl ⟨_, (ltl_kids t.kind), ?_⟩; ((conv=>whnf);repeat(refine⟨rfl,?_⟩;conv=>whnf)))
    have odd : oddNode lKids t → chkT lKids t d n = (1, n + 1) := fun h => by rw [e, if_pos h]
    have bad : oddNode lKids t → (D.sc (Value.int IntKind.i64 1) = .sc (.int .i64 (chkT lKids t d n).1) ∧ List.take [AObj.row true [D.sc (Value.int IntKind.i64 (chkT lKids t d n).2)]].length [AObj.row true [D.sc (Value.int IntKind.i64 (n + 1))], AObj.row true (drow t)] = [AObj.row true [D.sc (Value.int IntKind.i64 (chkT lKids t d n).2)]] ∧ [AObj.row true [D.sc (Value.int IntKind.i64 (chkT lKids t d n).2)]].length ≤ 2) := fun h => by
      rw [odd h]; exact ⟨rfl, rfl, by simp⟩
    repeat' (first
      | (refine ifK_split (fun h => ?_) (fun h => ?_) <;> (rw [h]; ((conv=>whnf);repeat(refine⟨rfl,?_⟩;conv=>whnf))))
      | exact bad (by unfold oddNode Tree.width; simp_all; try omega))
    all_goals
      have hno : ¬ oddNode lKids t := by unfold oddNode Tree.width; simp_all; try omega
      rw [if_neg hno] at e
      have hn1 : n + 1 ≤ 60 := by simp at h1; omega
      have hd1 : d ≤ 20 := by simp at h2; omega
      refine pwp_loopB (fun x : Nat × Int => [(1, .sc (.int .i64 d)), (2, .loc 0 0), (48, .lst 3 (t.kids.map dcells)), (49, .sc (.int .i64 (t.kids.map dcells).length)), (50, .sc (.int .i64 x.1))])
        (fun x => [.row true [.sc (.int .i64 x.2)], .row true (drow t)]) (fun x => x.1 ≤ t.width ∧ 0 ≤ x.2 ∧ x.2 ≤ 60 ∧ chkF lKids t.kids (d + 1) (n + 1) = chkF lKids (t.kids.drop x.1) (d + 1) x.2) (fun x => t.width - x.1) (0, n + 1)
        ⟨by simp, by simp; omega, hn1, rfl⟩ (leB_env ⟨rfl, rfl, rfl, rfl, rfl, trivial⟩) ?_
      clear h1 h2
      rintro ⟨k, m⟩ ⟨hk, hm0, hm1, hF⟩
      (apply rd_sound; focus (repeat' constructor))
      ((conv=>whnf);repeat(refine⟨rfl,?_⟩;conv=>whnf))
      (refine ifK_split (fun h4 => ?_) (fun h4 => ?_) <;> (rw [h4]; ((conv=>whnf);repeat(refine⟨rfl,?_⟩;conv=>whnf))))
      · have hk' : k < t.width := by simpa [Tree.width] using h4
        rw [chkF_drop _ hk'] at hF
        refine ⟨by omega, _, kid_at hk', ?_⟩
        ((conv=>whnf);repeat(refine⟨rfl,?_⟩;conv=>whnf))
        refine .inl ⟨by unfold InR; rw [IntKind.wrap_i64]; omega, ?_⟩
        ((conv=>whnf);repeat(refine⟨rfl,?_⟩;conv=>whnf))
        (refine .inr (.inr (.inl ⟨rfl, _, _, (acall_row (ih k hk' (d + 1) m (hs.kid hk') (by omega) (by omega) hm0 hm1) (by simp [PureL, pure_dtree, Pure]) (by simp [PureL]) (by simp [PureL, Pure]) (by simp [PureL, Pure]) (by simp [Pure]) (id := 0) rfl), ?_⟩)); ((conv=>whnf);repeat(refine⟨rfl,?_⟩;conv=>whnf)))
        (refine ifK_split (fun h5 => ?_) (fun h5 => ?_) <;> (rw [h5]; ((conv=>whnf);repeat(refine⟨rfl,?_⟩;conv=>whnf))))
        · rw [e, hF, if_neg (by simpa using h5)]
          exact ⟨rfl, rfl, by simp⟩
        · have h5' : (chkT lKids (t.kid k) (d + 1) m).1 = 0 := by simpa using h5
          rw [if_pos h5'] at hF
          have b1 := (chkT_mono lKids (t.kid k) (d + 1) m).1
          have b2 := chkT_ok lKids (t.kid k) (d + 1) m h5'
          refine .inl ⟨by unfold InR; rw [IntKind.wrap_i64]; unfold Tree.width at *; omega, ?_⟩
          ((conv=>whnf);repeat(refine⟨rfl,?_⟩;conv=>whnf))
          refine ⟨(k + 1, (chkT lKids (t.kid k) (d + 1) m).2), ⟨by dsimp only at *; omega, by dsimp only at *; omega, b2, hF⟩, by dsimp only at *; omega, leB_close 2 (by simp) rfl ⟨.refl _, by simp [Under], .refl _, by simp [Under], .refl _, by simp only [Under]; exact underLL_pure _ (pure_kids t), .refl _, by simp [Under], .refl _, by simp [Under], trivial⟩
            ⟨⟨rfl, .refl _, by simp [UnderL, Under]⟩, ⟨rfl, .refl _, underL_pure _ (pure_drow t)⟩, trivial⟩⟩
      · have hk' : k = t.width := by have : ¬ k < t.width := by simpa [Tree.width] using h4
                                     dsimp only at hk; omega
        rw [e, hF, hk', chkF_done]
        exact ⟨rfl, rfl, by simp⟩
theorem ltl_Check (t : Tree) (hs : Small t) : PCall Tryd.prog 11 [dtree t] (.sc (.int .i64 (chk lKids t))) := by
  refine pcall_intro c11_ok (by simp) (by simp [PureL, pure_dtree]) ?_ (by simp [Pure])
  (apply rd_sound; focus (repeat' constructor))
  ((conv=>whnf);repeat(refine⟨rfl,?_⟩;conv=>whnf))
  (refine .inr (.inr (.inl ⟨rfl, _, _, (acall_row (ltl_check t 1 0 hs (by omega) (by omega) (by omega) (by omega)) (by simp [PureL, pure_dtree, Pure]) (by simp [PureL]) (by simp [PureL, Pure]) (by simp [PureL, Pure]) (by simp [Pure]) (H := [.row true (drow t), .row true [.sc (.int .i64 0)]]) (id := 1) rfl), ?_⟩)); ((conv=>whnf);repeat(refine⟨rfl,?_⟩;conv=>whnf)))
  exact .refl _
end Go.Proofs.YtjbkbjedlgkibaaDoor
