/-
  What the reference's check of a formula answers, over deep values. No statement is proved here.
-/
import Derived.Test.YtjbkbjedlgkibaaDoorDk2
import Derived.Test.YtjbkbjedlgkibaaDoorProg
namespace Go.Proofs.YtjbkbjedlgkibaaDoor
open Go.RowKit
set_option linter.unusedSimpArgs false
def c32 : PC := .seq (.ops [q 2 (.move (.const (.int .i64 0)))] false) (.seq (.seq (.ops [qm 3 0] false) (.block 0 (.seq (.seq (.ops [q 5 (.bin .eql (.tmp 3) (.const (.int .i64 1))),qm 4 5] false) (.cond (.tmp 4) (.skip) (.seq (.ops [q 6 (.bin .eql (.tmp 3) (.const (.int .i64 2))),qm 4 6] false) (.cond (.tmp 4) (.skip) (.ops [q 7 (.bin .eql (.tmp 3) (.const (.int .i64 3))),qm 4 7] false))))) (.cond (.tmp 4) (.seq (.ops [q 2 (.move (.const (.int .i64 0)))] false) (.ret)) (.seq (.seq (.ops [q 9 (.bin .eql (.tmp 3) (.const (.int .i64 4))),qm 8 9] false) (.cond (.tmp 8) (.skip) (.seq (.ops [q 10 (.bin .eql (.tmp 3) (.const (.int .i64 7))),qm 8 10] false) (.cond (.tmp 8) (.skip) (.seq (.ops [q 11 (.bin .eql (.tmp 3) (.const (.int .i64 10))),qm 8 11] false) (.cond (.tmp 8) (.skip) (.ops [q 12 (.bin .eql (.tmp 3) (.const (.int .i64 11))),qm 8 12] false))))))) (.cond (.tmp 8) (.seq (.ops [q 2 (.move (.const (.int .i64 1)))] false) (.ret)) (.seq (.seq (.ops [q 14 (.bin .eql (.tmp 3) (.const (.int .i64 5))),qm 13 14] false) (.cond (.tmp 13) (.skip) (.seq (.ops [q 15 (.bin .eql (.tmp 3) (.const (.int .i64 6))),qm 13 15] false) (.cond (.tmp 13) (.skip) (.seq (.ops [q 16 (.bin .eql (.tmp 3) (.const (.int .i64 8))),qm 13 16] false) (.cond (.tmp 13) (.skip) (.ops [q 17 (.bin .eql (.tmp 3) (.const (.int .i64 9))),qm 13 17] false))))))) (.cond (.tmp 13) (.seq (.ops [q 2 (.move (.const (.int .i64 2)))] false) (.ret)) (.skip))))))))) (.seq (.ops [q 2 (.move (.const (.int .i64 (-1))))] false) (.ret)))
set_option maxRecDepth 100000 in
theorem c32_ok : FunOK Tryd.prog 32 18 [.tmp 2] c32 := ⟨⟨Tryd.f32, Tryd.func32, rfl, by kernel_rfl, rfl, by kernel_rfl⟩⟩
def c31_1 : PC := .seq (.seq (.ops [qm 42 7,q 43 (.faddr 2 (.tmp 4)),q 44 (.load1 (.tmp 43)),q 45 (.len (.tmp 44)),q 46 (.bin .lss (.tmp 42) (.tmp 45))] false) (.cond (.tmp 46) (.skip) (.exit 0))) (.seq (.block 1 (.seq (.ops [q 49 (.load1 (.tmp 3)),q 50 (.faddr 2 (.tmp 4)),qd 51 (.load1 (.tmp 50)) 2,qm 52 7,qd 53 (.iaddr 3 (.tmp 51) (.tmp 52)) 14,qd 54 (.loadA 3 (.tmp 53)) 30,qm 55 1,qd 56 (.bin .add (.tmp 55) (.const (.int .i64 1))) 64,qd 57 (.callv (.tmp 49) [(.tmp 54), (.tmp 56)]) 255,qw 8 57 511] true) (.seq (.ops [qm 58 8,q 59 (.bin .neq (.tmp 58) (.const (.int .i64 0)))] false) (.cond (.tmp 59) (.seq (.ops [qm 60 8,qm 6 60] false) (.ret)) (.skip))))) (.ops [qm 47 7,q 48 (.bin .add (.tmp 47) (.const (.int .i64 1))),qm 7 48] false))
def c31 : PC := .seq (.ops [q 4 (.box (.tmp 0)),q 6 (.move (.const (.int .i64 0)))] false) (.seq (.ops [q 9 (.load1 (.tmp 2)),q 10 (.bin .add (.tmp 9) (.const (.int .i64 1))),qn (.store 1 (.tmp 2) (.tmp 10))] false) (.seq (.seq (.ops [q 11 (.load1 (.tmp 2)),q 12 (.bin .gtr (.tmp 11) (.const (.int .i64 60)))] false) (.cond (.tmp 12) (.seq (.ops [q 6 (.move (.const (.int .i64 2)))] false) (.ret)) (.skip))) (.seq (.seq (.ops [qm 13 1,q 14 (.bin .gtr (.tmp 13) (.const (.int .i64 20)))] false) (.cond (.tmp 14) (.seq (.ops [q 6 (.move (.const (.int .i64 5)))] false) (.ret)) (.skip))) (.seq (.seq (.ops [q 15 (.faddr 2 (.tmp 4)),qd 16 (.load1 (.tmp 15)) 1,qd 17 (.len (.tmp 16)) 3,q 18 (.faddr 0 (.tmp 4)),qd 19 (.load1 (.tmp 18)) 8,qd 20 (.call 32 [(.tmp 19)]) 24,qd 21 (.bin .neq (.tmp 17) (.tmp 20)) 63,qw 22 21 127,⟨some 23,.faddr 1 (.tmp 4),some (22,false),255⟩,⟨some 24,.load1 (.tmp 23),some (22,false),511⟩,⟨some 25,.bin .lss (.tmp 24) (.const (.int .i64 0)),some (22,false),1023⟩,qd 26 (.pick (.tmp 22) (.const (.bool true)) (.tmp 25)) 2047,qw 27 26 4095,⟨some 28,.faddr 1 (.tmp 4),some (27,false),8191⟩,⟨some 29,.load1 (.tmp 28),some (27,false),16383⟩,⟨some 30,.bin .gtr (.tmp 29) (.const (.int .i64 63)),some (27,false),32767⟩,qd 31 (.pick (.tmp 27) (.const (.bool true)) (.tmp 30)) 65535,qw 32 31 131071,⟨some 33,.faddr 1 (.tmp 4),some (32,false),262143⟩,⟨some 34,.load1 (.tmp 33),some (32,false),524287⟩,⟨some 35,.bin .neq (.tmp 34) (.const (.int .i64 0)),some (32,false),1048575⟩,⟨some 36,.move (.tmp 35),some (32,false),2097151⟩,⟨some 37,.faddr 0 (.tmp 4),some (36,true),4194303⟩,⟨some 38,.load1 (.tmp 37),some (36,true),8388607⟩,⟨some 39,.bin .neq (.tmp 38) (.const (.int .i64 3)),some (36,true),16777215⟩,⟨some 40,.pick (.tmp 36) (.tmp 39) (.const (.bool false)),some (32,false),33554431⟩,qd 41 (.pick (.tmp 32) (.const (.bool true)) (.tmp 40)) 67108863] true) (.cond (.tmp 41) (.seq (.ops [q 6 (.move (.const (.int .i64 1)))] false) (.ret)) (.skip))) (.seq (.seq (.ops [q 7 (.move (.const (.int .i64 0)))] false) (.block 0 (.loop c31_1))) (.seq (.ops [q 6 (.move (.const (.int .i64 0)))] false) (.ret)))))))
set_option maxRecDepth 100000 in
theorem c31_ok : FunOK Tryd.prog 31 61 [.tmp 6] c31 := ⟨⟨Tryd.f31, Tryd.func31, rfl, by kernel_rfl, rfl, by kernel_rfl⟩⟩
def c14 : PC := .seq (.ops [q 1 (.box (.tmp 0)),q 2 (.move (.const (.int .i64 0)))] false) (.seq (.ops [q 3 (.alloc [(.int .i64 0)]),qn (.store 1 (.tmp 3) (.const (.int .i64 0)))] false) (.seq (.ops [q 4 (.alloc [(.nilFunc)])] false) (.seq (.ops [q 5 (.mkfn (.func 31) [] [(.tmp 3), (.tmp 4)]),qn (.store 1 (.tmp 4) (.tmp 5))] false) (.seq (.ops [q 6 (.load1 (.tmp 4)),q 7 (.loadA 3 (.tmp 1)),q 8 (.callv (.tmp 6) [(.tmp 7), (.const (.int .i64 1))]),qm 2 8] false) (.ret)))))
set_option maxRecDepth 100000 in
theorem c14_ok : FunOK Tryd.prog 14 9 [.tmp 2] c14 := ⟨⟨Tryd.f14, Tryd.func14, rfl, by kernel_rfl, rfl, by kernel_rfl⟩⟩

def lookLtl : D := .fn (.func 31) [] [.loc 0 0, .loc 1 0]
@[simp] theorem under_lookLtl {m : Nat} : Under m lookLtl ↔ 0 < m ∧ 1 < m := by simp [lookLtl, Under, UnderL]
theorem ref_LtlKids (k : Int) : PCall Tryd.prog 32 [.sc (.int .i64 k)] (.sc (.int .i64 (lKids k))) := by
  refine pcall_intro c32_ok (by simp) (by simp [PureL, Pure]) ?_ (by simp [Pure])
  (apply rd_sound; focus (repeat' constructor))
  ((conv=>whnf);repeat(refine⟨rfl,?_⟩;conv=>whnf))
  repeat' (first | (refine ifK_split (fun h => ?_) (fun h => ?_) <;> (rw [h]; ((conv=>whnf);repeat(refine⟨rfl,?_⟩;conv=>whnf)))) | exact deep_eq (by unfold lKids; congr 2; (repeat' split) <;> first | rfl | ((try simp only[oo,reduceCtorEq]at*)<;>omega)))
theorem ref_Ltl1 : ∀ (t : Tree) (d n : Int), Small t → 0 ≤ d → d ≤ 21 → 0 ≤ n → n ≤ 60 → ACall Tryd.prog 31 [dtree t, .sc (.int .i64 d), .loc 0 0, .loc 1 0] [.row true [.sc (.int .i64 n)], .row true [lookLtl]] (.sc (.int .i64 (chkT lKids t d n).1)) [.row true [.sc (.int .i64 (chkT lKids t d n).2)], .row true [lookLtl]] := by
  intro t
  induction t using Tree.ind with
  | h t ih =>
    intro d n hs hd hd' hn hn'
    have hsz := hs.width
    refine acall_intro c31_ok (by simp) (by simp) ?_ (by simp [Under]) (by simp [AObj.under, UnderL, Under, lookLtl])
    (apply rd_sound; focus (repeat' constructor))
    ((conv=>whnf);repeat(refine⟨rfl,?_⟩;conv=>whnf))
    refine .inl ⟨by unfold InR; rw [IntKind.wrap_i64]; omega, ?_⟩
    ((conv=>whnf);repeat(refine⟨rfl,?_⟩;conv=>whnf))
    have e := chkT_eq lKids t d n
    (refine ifK_split (fun h1 => ?_) (fun h1 => ?_) <;> (rw [h1]; ((conv=>whnf);repeat(refine⟨rfl,?_⟩;conv=>whnf))))
    · simp at h1
      rw [e, if_pos h1]
      exact ⟨rfl, rfl, by simp⟩
    rw [if_neg (by simpa using h1)] at e
    (refine ifK_split (fun h2 => ?_) (fun h2 => ?_) <;> (rw [h2]; ((conv=>whnf);repeat(refine⟨rfl,?_⟩;conv=>whnf))))
    · simp at h2
      rw [e, if_pos h2]
      exact ⟨rfl, rfl, by simp⟩
    rw [if_neg (by simpa using h2)] at e
    (refine .inl ⟨_, (ref_LtlKids t.kind), ?_⟩; ((conv=>whnf);repeat(refine⟨rfl,?_⟩;conv=>whnf)))
    have odd : oddNode lKids t → chkT lKids t d n = (1, n + 1) := fun h => by rw [e, if_pos h]
    have bad : oddNode lKids t → (D.sc (Value.int IntKind.i64 1) = .sc (.int .i64 (chkT lKids t d n).1) ∧ List.take [AObj.row true [D.sc (Value.int IntKind.i64 (chkT lKids t d n).2)], .row true [lookLtl]].length [AObj.row true [D.sc (Value.int IntKind.i64 (n + 1))], .row true [lookLtl], AObj.row true (drow t)] = [AObj.row true [D.sc (Value.int IntKind.i64 (chkT lKids t d n).2)], .row true [lookLtl]] ∧ [AObj.row true [D.sc (Value.int IntKind.i64 (chkT lKids t d n).2)], .row true [lookLtl]].length ≤ 3) := fun h => by
      rw [odd h]; exact ⟨rfl, rfl, by simp⟩
    repeat' (first
      | (refine ifK_split (fun h => ?_) (fun h => ?_) <;> (rw [h]; ((conv=>whnf);repeat(refine⟨rfl,?_⟩;conv=>whnf))))
      | exact bad (by unfold oddNode Tree.width; ((try simp only[oo,reduceCtorEq]at*)<;>omega)))
    all_goals
      have hno : ¬ oddNode lKids t := by unfold oddNode Tree.width; ((try simp only[oo,reduceCtorEq]at*)<;>omega)
      rw [if_neg hno] at e
      have hn1 : n + 1 ≤ 60 := by simp at h1; omega
      have hd1 : d ≤ 20 := by simp at h2; omega
      refine pwp_loopB (fun x : Nat × Int => [(1, .sc (.int .i64 d)), (2, .loc 0 0), (3, .loc 1 0), (4, .loc 2 0), (7, .sc (.int .i64 x.1))])
        (fun x => [.row true [.sc (.int .i64 x.2)], .row true [lookLtl], .row true (drow t)]) (fun x => x.1 ≤ t.width ∧ 0 ≤ x.2 ∧ x.2 ≤ 60 ∧ chkF lKids t.kids (d + 1) (n + 1) = chkF lKids (t.kids.drop x.1) (d + 1) x.2) (fun x => t.width - x.1) (0, n + 1)
        ⟨by simp, by simp; omega, hn1, rfl⟩ (leB_env ⟨rfl, rfl, rfl, rfl, rfl, trivial⟩) ?_
      clear h1 h2
      rintro ⟨k, m⟩ ⟨hk, hm0, hm1, hF⟩
      (apply rd_sound; focus (repeat' constructor))
      ((conv=>whnf);repeat(refine⟨rfl,?_⟩;conv=>whnf))
      (refine ifK_split (fun h4 => ?_) (fun h4 => ?_) <;> (rw [h4]; ((conv=>whnf);repeat(refine⟨rfl,?_⟩;conv=>whnf))))
      · have hk' : k < t.width := by simpa [Tree.width] using h4
        rw [chkF_drop _ hk'] at hF
        refine ⟨by omega, _, kid_at hk', ?_⟩
        ((conv=>whnf);repeat(refine⟨rfl,?_⟩;conv=>whnf))
        refine .inl ⟨by unfold InR; rw [IntKind.wrap_i64]; omega, ?_⟩
        ((conv=>whnf);repeat(refine⟨rfl,?_⟩;conv=>whnf))
        (refine .inr (.inr (.inr (.inl ⟨_, _, by simp [UnderL, UnderLL, UnderO, AObj.under, Under], by simp [UnderL, UnderLL, UnderO, AObj.under, Under], (acall_pre (ih k hk' (d + 1) m (hs.kid hk') (by omega) (by omega) hm0 hm1) [.row true (drow t)] rfl (by simp [UnderL, Under]) (by simp [UnderO, AObj.under, UnderL, Under])), ?_⟩))); ((conv=>whnf);repeat(refine⟨rfl,?_⟩;conv=>whnf)))
        (refine ifK_split (fun h5 => ?_) (fun h5 => ?_) <;> (rw [h5]; ((conv=>whnf);repeat(refine⟨rfl,?_⟩;conv=>whnf))))
        · rw [e, hF, if_neg (by simpa using h5)]
          exact ⟨rfl, rfl, by simp⟩
        · have h5' : (chkT lKids (t.kid k) (d + 1) m).1 = 0 := by simpa using h5
          rw [if_pos h5'] at hF
          have b1 := (chkT_mono lKids (t.kid k) (d + 1) m).1
          have b2 := chkT_ok lKids (t.kid k) (d + 1) m h5'
          refine .inl ⟨by unfold InR; rw [IntKind.wrap_i64]; unfold Tree.width at *; omega, ?_⟩
          ((conv=>whnf);repeat(refine⟨rfl,?_⟩;conv=>whnf))
          refine ⟨(k + 1, (chkT lKids (t.kid k) (d + 1) m).2), ⟨by dsimp only at *; omega, by dsimp only at *; omega, b2, hF⟩, by dsimp only at *; omega, leB_env ⟨rfl, rfl, rfl, rfl, rfl, trivial⟩⟩
      · have hk' : k = t.width := by have : ¬ k < t.width := by simpa [Tree.width] using h4
                                     dsimp only at hk; omega
        rw [e, hF, hk', chkF_done]
        exact ⟨rfl, rfl, by simp⟩
theorem ref_Ltl (t : Tree) (hs : Small t) : PCall Tryd.prog 14 [dtree t] (.sc (.int .i64 (chk lKids t))) := by
  refine pcall_intro c14_ok (by simp) (by simp [PureL, pure_dtree]) ?_ (by simp [Pure])
  (apply rd_sound; focus (repeat' constructor))
  ((conv=>whnf);repeat(refine⟨rfl,?_⟩;conv=>whnf))
  (refine .inr (.inr (.inl ⟨rfl, _, _, (acall_mid (ref_Ltl1 t 1 0 hs (by omega) (by omega) (by omega) (by omega)) [.row true (drow t)] [] rfl (by simp [UnderL, Under]) (by simp [UnderO, AObj.under, UnderL, Under]) (args2 := [dtree t, .sc (.int .i64 1), .loc 1 0, .loc 2 0]) (by simp [renL, D.ren]) rfl rfl rfl), ?_⟩)); ((conv=>whnf);repeat(refine⟨rfl,?_⟩;conv=>whnf)))
  exact .refl _
end Go.Proofs.YtjbkbjedlgkibaaDoor
