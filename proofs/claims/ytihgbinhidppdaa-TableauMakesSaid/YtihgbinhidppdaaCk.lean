/-
  What a check of a formula answers, over deep values. No statement is proved here.
-/
import Derived.Test.YtihgbinhidppdaaDk
import Derived.Test.YtihgbinhidppdaaProg
namespace Go.Proofs.Ytihgbinhidppdaa
open Go.RowKit
set_option linter.unusedSimpArgs false
def c61 : PC := .seq (.ops [⟨some 2,.move (.const (.int .i64 0)),none,0⟩] false) (.seq (.seq (.ops [⟨some 3,.move (.tmp 0),none,0⟩] false) (.block 0 (.seq (.seq (.ops [⟨some 5,.bin .eql (.tmp 3) (.const (.int .i64 1)),none,0⟩,
 ⟨some 4,.move (.tmp 5),none,0⟩] false) (.cond (.tmp 4) (.skip) (.seq (.ops [⟨some 6,.bin .eql (.tmp 3) (.const (.int .i64 2)),none,0⟩,
 ⟨some 4,.move (.tmp 6),none,0⟩] false) (.cond (.tmp 4) (.skip) (.ops [⟨some 7,.bin .eql (.tmp 3) (.const (.int .i64 3)),none,0⟩,
 ⟨some 4,.move (.tmp 7),none,0⟩] false))))) (.cond (.tmp 4) (.seq (.ops [⟨some 2,.move (.const (.int .i64 0)),none,0⟩] false) (.ret)) (.seq (.seq (.ops [⟨some 9,.bin .eql (.tmp 3) (.const (.int .i64 4)),none,0⟩,
 ⟨some 8,.move (.tmp 9),none,0⟩] false) (.cond (.tmp 8) (.skip) (.seq (.ops [⟨some 10,.bin .eql (.tmp 3) (.const (.int .i64 7)),none,0⟩,
 ⟨some 8,.move (.tmp 10),none,0⟩] false) (.cond (.tmp 8) (.skip) (.seq (.ops [⟨some 11,.bin .eql (.tmp 3) (.const (.int .i64 10)),none,0⟩,
 ⟨some 8,.move (.tmp 11),none,0⟩] false) (.cond (.tmp 8) (.skip) (.ops [⟨some 12,.bin .eql (.tmp 3) (.const (.int .i64 11)),none,0⟩,
 ⟨some 8,.move (.tmp 12),none,0⟩] false))))))) (.cond (.tmp 8) (.seq (.ops [⟨some 2,.move (.const (.int .i64 1)),none,0⟩] false) (.ret)) (.seq (.seq (.ops [⟨some 14,.bin .eql (.tmp 3) (.const (.int .i64 5)),none,0⟩,
 ⟨some 13,.move (.tmp 14),none,0⟩] false) (.cond (.tmp 13) (.skip) (.seq (.ops [⟨some 15,.bin .eql (.tmp 3) (.const (.int .i64 6)),none,0⟩,
 ⟨some 13,.move (.tmp 15),none,0⟩] false) (.cond (.tmp 13) (.skip) (.seq (.ops [⟨some 16,.bin .eql (.tmp 3) (.const (.int .i64 8)),none,0⟩,
 ⟨some 13,.move (.tmp 16),none,0⟩] false) (.cond (.tmp 13) (.skip) (.ops [⟨some 17,.bin .eql (.tmp 3) (.const (.int .i64 9)),none,0⟩,
 ⟨some 13,.move (.tmp 17),none,0⟩] false))))))) (.cond (.tmp 13) (.seq (.ops [⟨some 2,.move (.const (.int .i64 2)),none,0⟩] false) (.ret)) (.skip))))))))) (.seq (.ops [⟨some 2,.move (.const (.int .i64 (-1))),none,0⟩] false) (.ret)))
set_option maxRecDepth 100000 in
theorem c61_ok : FunOK Try.prog 61 18 [.tmp 2] c61 := ⟨⟨Try.f61, Try.func61, rfl, by kernel_rfl, rfl, by kernel_rfl⟩⟩
def c44_1 : PC := .seq (.ops [⟨some 51,.bin .lss (.tmp 50) (.tmp 49),none,0⟩] false) (.seq (.cond (.tmp 51) (.skip) (.exit 1)) (.seq (.block 2 (.seq (.ops [⟨some 52,.iaddr 3 (.tmp 48) (.tmp 50),none,0⟩,
 ⟨some 53,.loadA 3 (.tmp 52),none,0⟩,
 ⟨some 8,.alloc [(.int .i64 0), (.int .i64 0), (.slice none 0 0)],none,0⟩,
 ⟨none,.store 3 (.tmp 8) (.tmp 53),none,0⟩] false) (.seq (.ops [⟨some 54,.loadA 3 (.tmp 8),none,0⟩,
 ⟨some 55,.move (.tmp 1),none,0⟩,
 ⟨some 56,.bin .add (.tmp 55) (.const (.int .i64 1)),none,0⟩,
 ⟨some 57,.move (.tmp 2),none,0⟩,
 ⟨some 58,.call 44 [(.tmp 54), (.tmp 56), (.tmp 57)],none,0⟩,
 ⟨some 9,.move (.tmp 58),none,0⟩] false) (.seq (.ops [⟨some 59,.move (.tmp 9),none,0⟩,
 ⟨some 60,.bin .neq (.tmp 59) (.const (.int .i64 0)),none,0⟩] false) (.cond (.tmp 60) (.seq (.ops [⟨some 61,.move (.tmp 9),none,0⟩,
 ⟨some 6,.move (.tmp 61),none,0⟩] false) (.ret)) (.skip)))))) (.ops [⟨some 62,.bin .add (.tmp 50) (.const (.int .i64 1)),none,0⟩,
 ⟨some 50,.move (.tmp 62),none,0⟩] false)))
def c44 : PC := .seq (.ops [⟨some 3,.box (.tmp 0),none,0⟩,
 ⟨some 6,.move (.const (.int .i64 0)),none,0⟩] false) (.seq (.ops [⟨some 10,.move (.tmp 2),none,0⟩,
 ⟨some 11,.nilchk (.tmp 10),none,0⟩,
 ⟨some 12,.load1 (.tmp 11),none,0⟩,
 ⟨some 13,.bin .add (.tmp 12) (.const (.int .i64 1)),none,0⟩,
 ⟨some 14,.nilchk (.tmp 10),none,0⟩,
 ⟨none,.store 1 (.tmp 14) (.tmp 13),none,0⟩] false) (.seq (.block 0 (.seq (.ops [⟨some 16,.move (.tmp 2),none,0⟩,
 ⟨some 17,.nilchk (.tmp 16),none,0⟩,
 ⟨some 18,.load1 (.tmp 17),none,0⟩,
 ⟨some 19,.bin .gtr (.tmp 18) (.const (.int .i64 60)),none,0⟩,
 ⟨some 15,.move (.tmp 19),none,0⟩] false) (.cond (.tmp 15) (.seq (.ops [⟨some 6,.move (.const (.int .i64 2)),none,0⟩] false) (.ret)) (.seq (.ops [⟨some 21,.move (.tmp 1),none,0⟩,
 ⟨some 22,.bin .gtr (.tmp 21) (.const (.int .i64 20)),none,0⟩,
 ⟨some 20,.move (.tmp 22),none,0⟩] false) (.cond (.tmp 20) (.seq (.ops [⟨some 6,.move (.const (.int .i64 5)),none,0⟩] false) (.ret)) (.seq (.seq (.ops [⟨some 24,.faddr 0 (.tmp 3),none,0⟩,
 ⟨some 25,.load1 (.tmp 24),none,1⟩,
 ⟨some 26,.call 61 [(.tmp 25)],none,3⟩,
 ⟨some 27,.faddr 2 (.tmp 3),none,0⟩,
 ⟨some 28,.load1 (.tmp 27),none,8⟩,
 ⟨some 29,.len (.tmp 28),none,24⟩,
 ⟨some 30,.bin .neq (.tmp 26) (.tmp 29),none,63⟩,
 ⟨some 23,.move (.tmp 30),none,127⟩] true) (.cond (.tmp 23) (.skip) (.seq (.ops [⟨some 31,.faddr 1 (.tmp 3),none,0⟩,
 ⟨some 32,.load1 (.tmp 31),none,0⟩,
 ⟨some 33,.bin .lss (.tmp 32) (.const (.int .i64 0)),none,0⟩,
 ⟨some 34,.move (.tmp 33),none,0⟩,
 ⟨some 35,.faddr 1 (.tmp 3),some (34,false),0⟩,
 ⟨some 36,.load1 (.tmp 35),some (34,false),0⟩,
 ⟨some 37,.bin .gtr (.tmp 36) (.const (.int .i64 63)),some (34,false),0⟩,
 ⟨some 38,.pick (.tmp 34) (.const (.bool true)) (.tmp 37),none,0⟩,
 ⟨some 23,.move (.tmp 38),none,0⟩] false) (.cond (.tmp 23) (.skip) (.ops [⟨some 39,.faddr 0 (.tmp 3),none,0⟩,
 ⟨some 40,.load1 (.tmp 39),none,0⟩,
 ⟨some 41,.bin .neq (.tmp 40) (.const (.int .i64 3)),none,0⟩,
 ⟨some 42,.move (.tmp 41),none,0⟩,
 ⟨some 43,.faddr 1 (.tmp 3),some (42,true),0⟩,
 ⟨some 44,.load1 (.tmp 43),some (42,true),0⟩,
 ⟨some 45,.bin .neq (.tmp 44) (.const (.int .i64 0)),some (42,true),0⟩,
 ⟨some 46,.pick (.tmp 42) (.tmp 45) (.const (.bool false)),none,0⟩,
 ⟨some 23,.move (.tmp 46),none,0⟩] false))))) (.cond (.tmp 23) (.seq (.ops [⟨some 6,.move (.const (.int .i64 1)),none,0⟩] false) (.ret)) (.skip)))))))) (.seq (.seq (.ops [⟨some 47,.faddr 2 (.tmp 3),none,0⟩,
 ⟨some 48,.load1 (.tmp 47),none,0⟩,
 ⟨some 49,.len (.tmp 48),none,0⟩,
 ⟨some 50,.move (.const (.int .i64 0)),none,0⟩] false) (.block 1 (.loop c44_1))) (.seq (.ops [⟨some 6,.move (.const (.int .i64 0)),none,0⟩] false) (.ret)))))
set_option maxRecDepth 100000 in
theorem c44_ok : FunOK Try.prog 44 63 [.tmp 6] c44 := ⟨⟨Try.f44, Try.func44, rfl, by kernel_rfl, rfl, by kernel_rfl⟩⟩
def c32 : PC := .seq (.ops [⟨some 1,.box (.tmp 0),none,0⟩,
 ⟨some 2,.move (.const (.int .i64 0)),none,0⟩] false) (.seq (.ops [⟨some 3,.alloc [(.int .i64 0)],none,0⟩,
 ⟨none,.store 1 (.tmp 3) (.const (.int .i64 0)),none,0⟩] false) (.seq (.ops [⟨some 4,.loadA 3 (.tmp 1),none,0⟩,
 ⟨some 5,.call 44 [(.tmp 4), (.const (.int .i64 1)), (.tmp 3)],none,0⟩,
 ⟨some 2,.move (.tmp 5),none,0⟩] false) (.ret)))
set_option maxRecDepth 100000 in
theorem c32_ok : FunOK Try.prog 32 6 [.tmp 2] c32 := ⟨⟨Try.f32, Try.func32, rfl, by kernel_rfl, rfl, by kernel_rfl⟩⟩

theorem ltl_kids (k : Int) : PCall Try.prog 61 [.sc (.int .i64 k)] (.sc (.int .i64 (lKids k))) := by
  refine pcall_intro c61_ok (by simp) (by simp [PureL, Pure]) ?_ (by simp [Pure])
  (apply rd_sound; focus (repeat' constructor))
  ((conv=>whnf);repeat(refine .intro rfl ?_;conv=>whnf))
  repeat' (first | (refine ifK_split (fun h => ?_) (fun h => ?_) <;> (rw [h]; ((conv=>whnf);repeat(refine .intro rfl ?_;conv=>whnf)))) | exact deep_eq (by simp_all [lKids]))
theorem ltl_check : ∀ (t : Tree) (d n : Int), Small t → 0 ≤ d → d ≤ 21 → 0 ≤ n → n ≤ 60 → ACall Try.prog 44 ([dtree t, .sc (.int .i64 d)] ++ .loc 0 0 :: []) [.row true [.sc (.int .i64 n)]] (.sc (.int .i64 (chkT lKids t d n).1)) [.row true [.sc (.int .i64 (chkT lKids t d n).2)]] := by
  intro t
  induction t using Tree.ind with
  | h t ih =>
    intro d n hs hd hd' hn hn'
    have hsz := hs.width
    refine acall_intro c44_ok (by simp) (by simp) ?_ (by simp [Under]) (by simp [AObj.under, UnderL, Under])
    (apply rd_sound; focus (repeat' constructor))
    ((conv=>whnf);repeat(refine .intro rfl ?_;conv=>whnf))
    refine .inl ⟨by unfold InR; rw [IntKind.wrap_i64]; omega, ?_⟩
    ((conv=>whnf);repeat(refine .intro rfl ?_;conv=>whnf))
    have e := chkT_eq lKids t d n
    (refine ifK_split (fun h1 => ?_) (fun h1 => ?_) <;> (rw [h1]; ((conv=>whnf);repeat(refine .intro rfl ?_;conv=>whnf))))
    · simp at h1
      rw [e, if_pos h1]
      exact ⟨rfl, rfl, by simp⟩
    rw [if_neg (by simpa using h1)] at e
    (refine ifK_split (fun h2 => ?_) (fun h2 => ?_) <;> (rw [h2]; ((conv=>whnf);repeat(refine .intro rfl ?_;conv=>whnf))))
    · simp at h2
      rw [e, if_pos h2]
      exact ⟨rfl, rfl, by simp⟩
    rw [if_neg (by simpa using h2)] at e
    (refine .inl ⟨_, (ltl_kids t.kind), ?_⟩; ((conv=>whnf);repeat(refine .intro rfl ?_;conv=>whnf)))
    have odd : oddNode lKids t → chkT lKids t d n = (1, n + 1) := fun h => by rw [e, if_pos h]
    have bad : oddNode lKids t → (D.sc (Value.int IntKind.i64 1) = .sc (.int .i64 (chkT lKids t d n).1) ∧ List.take [AObj.row true [D.sc (Value.int IntKind.i64 (chkT lKids t d n).2)]].length [AObj.row true [D.sc (Value.int IntKind.i64 (n + 1))], AObj.row true (drow t)] = [AObj.row true [D.sc (Value.int IntKind.i64 (chkT lKids t d n).2)]] ∧ [AObj.row true [D.sc (Value.int IntKind.i64 (chkT lKids t d n).2)]].length ≤ 2) := fun h => by
      rw [odd h]; exact ⟨rfl, rfl, by simp⟩
    repeat' (first
      | (refine ifK_split (fun h => ?_) (fun h => ?_) <;> (rw [h]; ((conv=>whnf);repeat(refine .intro rfl ?_;conv=>whnf))))
      | exact bad (by unfold oddNode Tree.width; simp_all; try omega))
    all_goals
      have hno : ¬ oddNode lKids t := by unfold oddNode Tree.width; simp_all; try omega
      rw [if_neg hno] at e
      have hn1 : n + 1 ≤ 60 := by simp at h1; omega
      have hd1 : d ≤ 20 := by simp at h2; omega
      refine pwp_loopB (fun x : Nat × Int => [(1, .sc (.int .i64 d)), (2, .loc 0 0), (48, .lst 3 (t.kids.map dcells)), (49, .sc (.int .i64 (t.kids.map dcells).length)), (50, .sc (.int .i64 x.1))])
        (fun x => [.row true [.sc (.int .i64 x.2)], .row true (drow t)]) (fun x => x.1 ≤ t.width ∧ 0 ≤ x.2 ∧ x.2 ≤ 60 ∧ chkF lKids t.kids (d + 1) (n + 1) = chkF lKids (t.kids.drop x.1) (d + 1) x.2) (fun x => t.width - x.1) (0, n + 1)
        ⟨by simp, by simp; omega, hn1, rfl⟩ (leB_env ⟨rfl, rfl, rfl, rfl, rfl, trivial⟩) ?_
      clear h1 h2
      rintro ⟨k, m⟩ ⟨hk, hm0, hm1, hF⟩
      (apply rd_sound; focus (repeat' constructor))
      ((conv=>whnf);repeat(refine .intro rfl ?_;conv=>whnf))
      (refine ifK_split (fun h4 => ?_) (fun h4 => ?_) <;> (rw [h4]; ((conv=>whnf);repeat(refine .intro rfl ?_;conv=>whnf))))
      · have hk' : k < t.width := by simpa [Tree.width] using h4
        rw [chkF_drop _ hk'] at hF
        refine ⟨by omega, _, kid_at hk', ?_⟩
        ((conv=>whnf);repeat(refine .intro rfl ?_;conv=>whnf))
        refine .inl ⟨by unfold InR; rw [IntKind.wrap_i64]; omega, ?_⟩
        ((conv=>whnf);repeat(refine .intro rfl ?_;conv=>whnf))
        (refine .inr (.inr (.inl ⟨rfl, _, _, (acall_row (ih k hk' (d + 1) m (hs.kid hk') (by omega) (by omega) hm0 hm1) (by simp [PureL, pure_dtree, Pure]) (by simp [PureL]) (by simp [PureL, Pure]) (by simp [PureL, Pure]) (by simp [Pure]) (id := 0) rfl), ?_⟩)); ((conv=>whnf);repeat(refine .intro rfl ?_;conv=>whnf)))
        (refine ifK_split (fun h5 => ?_) (fun h5 => ?_) <;> (rw [h5]; ((conv=>whnf);repeat(refine .intro rfl ?_;conv=>whnf))))
        · rw [e, hF, if_neg (by simpa using h5)]
          exact ⟨rfl, rfl, by simp⟩
        · have h5' : (chkT lKids (t.kid k) (d + 1) m).1 = 0 := by simpa using h5
          rw [if_pos h5'] at hF
          have b1 := (chkT_mono lKids (t.kid k) (d + 1) m).1
          have b2 := chkT_ok lKids (t.kid k) (d + 1) m h5'
          refine .inl ⟨by unfold InR; rw [IntKind.wrap_i64]; unfold Tree.width at *; omega, ?_⟩
          ((conv=>whnf);repeat(refine .intro rfl ?_;conv=>whnf))
          refine ⟨(k + 1, (chkT lKids (t.kid k) (d + 1) m).2), ⟨by dsimp only at *; omega, by dsimp only at *; omega, b2, hF⟩, by dsimp only at *; omega, leB_close 2 (by simp) rfl ⟨.refl _, by simp [Under], .refl _, by simp [Under], .refl _, by simp only [Under]; exact underLL_pure _ (pure_kids t), .refl _, by simp [Under], .refl _, by simp [Under], trivial⟩
            ⟨⟨rfl, .refl _, by simp [UnderL, Under]⟩, ⟨rfl, .refl _, underL_pure _ (pure_drow t)⟩, trivial⟩⟩
      · have hk' : k = t.width := by have : ¬ k < t.width := by simpa [Tree.width] using h4
                                     dsimp only at hk; omega
        rw [e, hF, hk', chkF_done]
        exact ⟨rfl, rfl, by simp⟩
theorem ltl_Check (t : Tree) (hs : Small t) : PCall Try.prog 32 [dtree t] (.sc (.int .i64 (chk lKids t))) := by
  refine pcall_intro c32_ok (by simp) (by simp [PureL, pure_dtree]) ?_ (by simp [Pure])
  (apply rd_sound; focus (repeat' constructor))
  ((conv=>whnf);repeat(refine .intro rfl ?_;conv=>whnf))
  (refine .inr (.inr (.inl ⟨rfl, _, _, (acall_row (ltl_check t 1 0 hs (by omega) (by omega) (by omega) (by omega)) (by simp [PureL, pure_dtree, Pure]) (by simp [PureL]) (by simp [PureL, Pure]) (by simp [PureL, Pure]) (by simp [Pure]) (H := [.row true (drow t), .row true [.sc (.int .i64 0)]]) (id := 1) rfl), ?_⟩)); ((conv=>whnf);repeat(refine .intro rfl ?_;conv=>whnf)))
  exact .refl _
end Go.Proofs.Ytihgbinhidppdaa
