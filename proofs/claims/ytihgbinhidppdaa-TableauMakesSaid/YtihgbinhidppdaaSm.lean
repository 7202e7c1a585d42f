/-
  push.Same alone, over deep values. No statement is proved here.
-/
import Derived.Test.YtihgbinhidppdaaFo
namespace Go.Proofs.Ytihgbinhidppdaa
open Go.RowKit
set_option linter.unusedSimpArgs false
def c49_1 : PC := .seq (.ops [⟨some 31,.bin .lss (.tmp 30) (.tmp 29),none,0⟩] false) (.seq (.cond (.tmp 31) (.skip) (.exit 0)) (.seq (.block 1 (.seq (.ops [⟨some 32,.move (.tmp 30),none,0⟩,
 ⟨some 5,.move (.tmp 32),none,0⟩] false) (.seq (.ops [⟨some 33,.faddr 2 (.tmp 2),none,0⟩,
 ⟨some 34,.load1 (.tmp 33),none,1⟩,
 ⟨some 35,.move (.tmp 5),none,0⟩,
 ⟨some 36,.iaddr 3 (.tmp 34) (.tmp 35),none,7⟩,
 ⟨some 37,.loadA 3 (.tmp 36),none,15⟩,
 ⟨some 38,.faddr 2 (.tmp 3),none,0⟩,
 ⟨some 39,.load1 (.tmp 38),none,32⟩,
 ⟨some 40,.move (.tmp 5),none,0⟩,
 ⟨some 41,.iaddr 3 (.tmp 39) (.tmp 40),none,224⟩,
 ⟨some 42,.loadA 3 (.tmp 41),none,480⟩,
 ⟨some 43,.call 49 [(.tmp 37), (.tmp 42)],none,1023⟩,
 ⟨some 44,.un .not (.tmp 43),none,2047⟩] true) (.cond (.tmp 44) (.seq (.ops [⟨some 4,.move (.const (.bool false)),none,0⟩] false) (.ret)) (.skip))))) (.ops [⟨some 45,.bin .add (.tmp 30) (.const (.int .i64 1)),none,0⟩,
 ⟨some 30,.move (.tmp 45),none,0⟩] false)))
def c49 : PC := .seq (.ops [⟨some 2,.box (.tmp 0),none,0⟩,
 ⟨some 3,.box (.tmp 1),none,0⟩,
 ⟨some 4,.move (.const (.bool false)),none,0⟩] false) (.seq (.seq (.ops [⟨some 6,.faddr 0 (.tmp 2),none,0⟩,
 ⟨some 7,.load1 (.tmp 6),none,0⟩,
 ⟨some 8,.faddr 0 (.tmp 3),none,0⟩,
 ⟨some 9,.load1 (.tmp 8),none,0⟩,
 ⟨some 10,.bin .neq (.tmp 7) (.tmp 9),none,0⟩,
 ⟨some 11,.move (.tmp 10),none,0⟩,
 ⟨some 12,.faddr 1 (.tmp 2),some (11,false),0⟩,
 ⟨some 13,.load1 (.tmp 12),some (11,false),0⟩,
 ⟨some 14,.faddr 1 (.tmp 3),some (11,false),0⟩,
 ⟨some 15,.load1 (.tmp 14),some (11,false),0⟩,
 ⟨some 16,.bin .neq (.tmp 13) (.tmp 15),some (11,false),0⟩,
 ⟨some 17,.pick (.tmp 11) (.const (.bool true)) (.tmp 16),none,0⟩,
 ⟨some 18,.move (.tmp 17),none,0⟩,
 ⟨some 19,.faddr 2 (.tmp 2),some (18,false),0⟩,
 ⟨some 20,.load1 (.tmp 19),some (18,false),0⟩,
 ⟨some 21,.len (.tmp 20),some (18,false),0⟩,
 ⟨some 22,.faddr 2 (.tmp 3),some (18,false),0⟩,
 ⟨some 23,.load1 (.tmp 22),some (18,false),0⟩,
 ⟨some 24,.len (.tmp 23),some (18,false),0⟩,
 ⟨some 25,.bin .neq (.tmp 21) (.tmp 24),some (18,false),0⟩,
 ⟨some 26,.pick (.tmp 18) (.const (.bool true)) (.tmp 25),none,0⟩] false) (.cond (.tmp 26) (.seq (.ops [⟨some 4,.move (.const (.bool false)),none,0⟩] false) (.ret)) (.skip))) (.seq (.seq (.ops [⟨some 27,.faddr 2 (.tmp 2),none,0⟩,
 ⟨some 28,.load1 (.tmp 27),none,0⟩,
 ⟨some 29,.len (.tmp 28),none,0⟩,
 ⟨some 30,.move (.const (.int .i64 0)),none,0⟩] false) (.block 0 (.loop c49_1))) (.seq (.ops [⟨some 4,.move (.const (.bool true)),none,0⟩] false) (.ret))))
set_option maxRecDepth 100000 in
theorem c49_ok : FunOK Try.prog 49 46 [.tmp 4] c49 := ⟨⟨Try.f49, Try.func49, rfl, by kernel_rfl, rfl, by kernel_rfl⟩⟩
theorem push_Same : ∀ a b : Tree, Small a → PCall Try.prog 49 [dtree a, dtree b] (.sc (.bool (eqT a b))) := by
  intro a
  induction a using Tree.ind with
  | h a ih =>
    intro b hs
    refine pcall_intro c49_ok (by simp) (by simp [PureL, pure_dtree]) ?_ (by simp [Pure])
    (apply rd_sound; focus (repeat' constructor))
    ((conv=>whnf);repeat(refine .intro rfl ?_;conv=>whnf))
    have no : a.kind ≠ b.kind ∨ a.num ≠ b.num ∨ a.kids.length ≠ b.kids.length → false = eqT a b := fun h => eqT_false (by rintro rfl; simp at h)
    (refine ifK_split (fun h1 => ?_) (fun h1 => ?_) <;> (rw [h1]; ((conv=>whnf);repeat(refine .intro rfl ?_;conv=>whnf))))
    · exact deep_eq (congrArg (fun x => D.sc (.bool x)) (no (.inl (by simpa using h1))))
    (refine ifK_split (fun h2 => ?_) (fun h2 => ?_) <;> (rw [h2]; ((conv=>whnf);repeat(refine .intro rfl ?_;conv=>whnf))))
    · exact deep_eq (congrArg (fun x => D.sc (.bool x)) (no (.inr (.inl (by simpa using h2)))))
    (refine ifK_split (fun h3 => ?_) (fun h3 => ?_) <;> (rw [h3]; ((conv=>whnf);repeat(refine .intro rfl ?_;conv=>whnf))))
    · exact deep_eq (congrArg (fun x => D.sc (.bool x)) (no (.inr (.inr (by simp at h3; omega)))))
    simp at h1 h2 h3
    have hsz := hs.width
    refine pwp_loop (fun k : Nat => [(2, .loc 0 0), (3, .loc 1 0), (29, .sc (.int .i64 (a.kids.map dcells).length)), (30, .sc (.int .i64 k))]) (fun _ => [.row true (drow a), .row true (drow b)])
      (fun k => k ≤ a.width ∧ ∀ j, j < k → a.kid j = b.kid j) (fun k => a.width - k) 0 ⟨by omega, fun j h => by omega⟩ (le_env ⟨rfl, rfl, rfl, rfl, trivial⟩) ?_
    rintro k ⟨hk, hall⟩
    (apply rd_sound; focus (repeat' constructor))
    ((conv=>whnf);repeat(refine .intro rfl ?_;conv=>whnf))
    (refine ifK_split (fun h4 => ?_) (fun h4 => ?_) <;> (rw [h4]; ((conv=>whnf);repeat(refine .intro rfl ?_;conv=>whnf))))
    · have hk' : k < a.width := by simpa [Tree.width] using h4
      refine ⟨by omega, _, kid_at hk', ?_⟩
      ((conv=>whnf);repeat(refine .intro rfl ?_;conv=>whnf))
      refine ⟨by omega, _, kid_at (t := b) (by unfold Tree.width at *; omega), ?_⟩
      ((conv=>whnf);repeat(refine .intro rfl ?_;conv=>whnf))
      (refine .inl ⟨_, (ih k hk' (b.kid k) (hs.kid hk')), ?_⟩; ((conv=>whnf);repeat(refine .intro rfl ?_;conv=>whnf)))
      (refine ifK_split (fun h5 => ?_) (fun h5 => ?_) <;> (rw [h5]; ((conv=>whnf);repeat(refine .intro rfl ?_;conv=>whnf))))
      · exact deep_eq (congrArg (fun x => D.sc (.bool x)) (eqT_false (by rintro rfl; simp [eqT] at h5)))
      · simp [eqT_iff] at h5
        refine .inl ⟨by unfold InR; rw [IntKind.wrap_i64]; unfold Tree.width at *; omega, ?_⟩
        ((conv=>whnf);repeat(refine .intro rfl ?_;conv=>whnf))
        refine ⟨k + 1, ⟨by omega, fun j hj => ?_⟩, by dsimp only; omega, le_env ⟨rfl, rfl, rfl, rfl, trivial⟩⟩
        by_cases e : j = k
        · subst e; exact h5
        · exact hall j (by omega)
    · have hk' : ¬ k < a.width := by simpa [Tree.width] using h4
      exact deep_eq (congrArg (fun x => D.sc (.bool x)) (eqT_true (Tree.ext_kids h1 h2 (by unfold Tree.width; omega) fun j hj => hall j (by omega))))
end Go.Proofs.Ytihgbinhidppdaa
