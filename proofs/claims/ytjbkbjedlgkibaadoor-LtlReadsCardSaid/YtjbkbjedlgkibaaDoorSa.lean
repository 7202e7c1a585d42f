/-
  Are two formulas the same: over deep values. No statement is proved here.
-/
import Derived.Test.YtjbkbjedlgkibaaDoorFo
namespace Go.Proofs.YtjbkbjedlgkibaaDoor
open Go.RowKit
set_option linter.unusedSimpArgs false
theorem small_zero : Small (mk0 0 0) := .mk _ (by simp [mk0, Tree.width, Tree.kids]) fun j hj => by simp [mk0, Tree.width, Tree.kids] at hj
theorem deep_zero {H : List AObj} : Deep H (.agg [.sc (.int .i64 0), .sc (.int .i64 0), .sc (.slice none 0 0)]) (dtree (mk0 0 0)) := by (repeat' (first | exact Deep.refl _ | exact Deep.none _ | exact deep_row _ | exact DeepL.nil | exact DeepLL.nil | refine Deep.agg _ _ ?_ | refine Deep.tup _ _ ?_ | refine Deep.own _ _ _ _ _ _ _ _ rfl ?_ | refine Deep.loc _ _ _ _ _ rfl ?_ | refine Deep.ifc _ _ _ ?_ | refine Deep.fn _ _ _ _ _ ?_ ?_ | refine DeepL.cons _ _ _ _ ?_ ?_ | refine DeepLL.cons _ _ _ _ ?_ ?_ | exact deepLL_refl _))
/-- A formula with its check's answer. -/
noncomputable def toldD (e : Int) (t : Tree) : D := if e = 0 then .tup [dtree t, .sc (.int .i64 0)] else .tup [dtree (mk0 0 0), .sc (.int .i64 e)]
theorem pure_toldD (e : Int) (t : Tree) : Pure (toldD e t) := by unfold toldD; split <;> simp [Pure, PureL, pure_dtree]
def c6_1 : PC := .seq (.seq (.ops [qm 27 5,q 28 (.faddr 2 (.tmp 2)),q 29 (.load1 (.tmp 28)),q 30 (.len (.tmp 29)),q 31 (.bin .lss (.tmp 27) (.tmp 30))] false) (.cond (.tmp 31) (.skip) (.exit 0))) (.seq (.block 1 (.seq (.ops [q 34 (.faddr 2 (.tmp 2)),qd 35 (.load1 (.tmp 34)) 1,qm 36 5,qd 37 (.iaddr 3 (.tmp 35) (.tmp 36)) 7,qd 38 (.loadA 3 (.tmp 37)) 15,q 39 (.faddr 2 (.tmp 3)),qd 40 (.load1 (.tmp 39)) 32,qm 41 5,qd 42 (.iaddr 3 (.tmp 40) (.tmp 41)) 224,qd 43 (.loadA 3 (.tmp 42)) 480,qd 44 (.call 6 [(.tmp 38), (.tmp 43)]) 1023,qd 45 (.un .not (.tmp 44)) 2047] true) (.cond (.tmp 45) (.seq (.ops [q 4 (.move (.const (.bool false)))] false) (.ret)) (.skip)))) (.ops [qm 32 5,q 33 (.bin .add (.tmp 32) (.const (.int .i64 1))),qm 5 33] false))
def c6 : PC := .seq (.ops [q 2 (.box (.tmp 0)),q 3 (.box (.tmp 1)),q 4 (.move (.const (.bool false)))] false) (.seq (.seq (.ops [q 6 (.faddr 0 (.tmp 2)),q 7 (.load1 (.tmp 6)),q 8 (.faddr 0 (.tmp 3)),q 9 (.load1 (.tmp 8)),q 10 (.bin .neq (.tmp 7) (.tmp 9)),qm 11 10,⟨some 12,.faddr 1 (.tmp 2),some (11,false),0⟩,⟨some 13,.load1 (.tmp 12),some (11,false),0⟩,⟨some 14,.faddr 1 (.tmp 3),some (11,false),0⟩,⟨some 15,.load1 (.tmp 14),some (11,false),0⟩,⟨some 16,.bin .neq (.tmp 13) (.tmp 15),some (11,false),0⟩,q 17 (.pick (.tmp 11) (.const (.bool true)) (.tmp 16)),qm 18 17,⟨some 19,.faddr 2 (.tmp 2),some (18,false),0⟩,⟨some 20,.load1 (.tmp 19),some (18,false),0⟩,⟨some 21,.len (.tmp 20),some (18,false),0⟩,⟨some 22,.faddr 2 (.tmp 3),some (18,false),0⟩,⟨some 23,.load1 (.tmp 22),some (18,false),0⟩,⟨some 24,.len (.tmp 23),some (18,false),0⟩,⟨some 25,.bin .neq (.tmp 21) (.tmp 24),some (18,false),0⟩,q 26 (.pick (.tmp 18) (.const (.bool true)) (.tmp 25))] false) (.cond (.tmp 26) (.seq (.ops [q 4 (.move (.const (.bool false)))] false) (.ret)) (.skip))) (.seq (.seq (.ops [q 5 (.move (.const (.int .i64 0)))] false) (.block 0 (.loop c6_1))) (.seq (.ops [q 4 (.move (.const (.bool true)))] false) (.ret))))
set_option maxRecDepth 100000 in
theorem c6_ok : FunOK Tryd.prog 6 46 [.tmp 4] c6 := ⟨⟨Tryd.f6, Tryd.func6, rfl, by kernel_rfl, rfl, by kernel_rfl⟩⟩
theorem ref_SameLtl : ∀ a b : Tree, Small a → PCall Tryd.prog 6 [dtree a, dtree b] (.sc (.bool (eqT a b))) := by
  intro a
  induction a using Tree.ind with
  | h a ih =>
    intro b hs
    refine pcall_intro c6_ok (by simp) (by simp [PureL, pure_dtree]) ?_ (by simp [Pure])
    (apply rd_sound; focus (repeat' constructor))
    ((conv=>whnf);repeat(refine⟨rfl,?_⟩;conv=>whnf))
    have no : a.kind ≠ b.kind ∨ a.num ≠ b.num ∨ a.kids.length ≠ b.kids.length → false = eqT a b := fun h => eqT_false (by rintro rfl; simp at h)
    (refine ifK_split (fun h1 => ?_) (fun h1 => ?_) <;> (rw [h1]; ((conv=>whnf);repeat(refine⟨rfl,?_⟩;conv=>whnf))))
    · exact deep_eq (congrArg (fun x => D.sc (.bool x)) (no (.inl (by simpa using h1))))
    (refine ifK_split (fun h2 => ?_) (fun h2 => ?_) <;> (rw [h2]; ((conv=>whnf);repeat(refine⟨rfl,?_⟩;conv=>whnf))))
    · exact deep_eq (congrArg (fun x => D.sc (.bool x)) (no (.inr (.inl (by simpa using h2)))))
    (refine ifK_split (fun h3 => ?_) (fun h3 => ?_) <;> (rw [h3]; ((conv=>whnf);repeat(refine⟨rfl,?_⟩;conv=>whnf))))
    · exact deep_eq (congrArg (fun x => D.sc (.bool x)) (no (.inr (.inr (by simp at h3; omega)))))
    simp at h1 h2 h3
    have hsz := hs.width
    refine pwp_loop (fun k : Nat => [(2, .loc 0 0), (3, .loc 1 0), (5, .sc (.int .i64 k))]) (fun _ => [.row true (drow a), .row true (drow b)])
      (fun k => k ≤ a.width ∧ ∀ j, j < k → a.kid j = b.kid j) (fun k => a.width - k) 0 ⟨by omega, fun j h => by omega⟩ (le_env ⟨rfl, rfl, rfl, trivial⟩) ?_
    rintro k ⟨hk, hall⟩
    (apply rd_sound; focus (repeat' constructor))
    ((conv=>whnf);repeat(refine⟨rfl,?_⟩;conv=>whnf))
    (refine ifK_split (fun h4 => ?_) (fun h4 => ?_) <;> (rw [h4]; ((conv=>whnf);repeat(refine⟨rfl,?_⟩;conv=>whnf))))
    · have hk' : k < a.width := by simpa [Tree.width] using h4
      refine ⟨by omega, _, kid_at hk', ?_⟩
      ((conv=>whnf);repeat(refine⟨rfl,?_⟩;conv=>whnf))
      refine ⟨by omega, _, kid_at (t := b) (by unfold Tree.width at *; omega), ?_⟩
      ((conv=>whnf);repeat(refine⟨rfl,?_⟩;conv=>whnf))
      (refine .inl ⟨_, (ih k hk' (b.kid k) (hs.kid hk')), ?_⟩; ((conv=>whnf);repeat(refine⟨rfl,?_⟩;conv=>whnf)))
      (refine ifK_split (fun h5 => ?_) (fun h5 => ?_) <;> (rw [h5]; ((conv=>whnf);repeat(refine⟨rfl,?_⟩;conv=>whnf))))
      · exact deep_eq (congrArg (fun x => D.sc (.bool x)) (eqT_false (by rintro rfl; simp [eqT] at h5)))
      · simp [eqT_iff] at h5
        refine .inl ⟨by unfold InR; rw [IntKind.wrap_i64]; unfold Tree.width at *; omega, ?_⟩
        ((conv=>whnf);repeat(refine⟨rfl,?_⟩;conv=>whnf))
        refine ⟨k + 1, ⟨by omega, fun j hj => ?_⟩, by dsimp only; omega, le_env ⟨rfl, rfl, rfl, trivial⟩⟩
        by_cases e : j = k
        · subst e; exact h5
        · exact hall j (by omega)
    · have hk' : ¬ k < a.width := by simpa [Tree.width] using h4
      exact deep_eq (congrArg (fun x => D.sc (.bool x)) (eqT_true (Tree.ext_kids h1 h2 (by unfold Tree.width; omega) fun j hj => hall j (by omega))))

theorem same_zeroLtl (got : Tree) (hg : Small got) : PCall Tryd.prog 6 [dtree got, .agg [.sc (.int .i64 0), .sc (.int .i64 0), .sc (.slice none 0 0)]] (.sc (.bool (eqT got (mk0 0 0)))) :=
  pcall_deep (by simp [PureL, Pure, pure_dtree]) (.cons _ _ _ _ (.refl _) (.cons _ _ _ _ deep_zero .nil)) (ref_SameLtl got (mk0 0 0) hg)
end Go.Proofs.YtjbkbjedlgkibaaDoor
