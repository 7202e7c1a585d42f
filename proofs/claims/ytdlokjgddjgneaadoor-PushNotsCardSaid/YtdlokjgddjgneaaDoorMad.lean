/-
  Is a formula what it should be: watchlaw.made over deep values. No statement is proved here.
-/
import Derived.Test.YtdlokjgddjgneaaDoorRl
import Derived.Test.YtdlokjgddjgneaaDoorSa
namespace Go.Proofs.YtdlokjgddjgneaaDoor
open Go.RowKit
set_option linter.unusedSimpArgs false
def c7 : PC := .seq (.ops [⟨some 5,.box (.tmp 1),none,0⟩,
 ⟨some 6,.box (.tmp 2),none,0⟩,
 ⟨some 8,.move (.const (.bool false)),none,0⟩] false) (.seq (.seq (.ops [⟨some 9,.move (.tmp 0),none,0⟩,
 ⟨some 10,.bin .eql (.tmp 9) (.const (.int .i64 0)),none,0⟩] false) (.cond (.tmp 10) (.ops [⟨some 11,.loadA 3 (.tmp 5),none,0⟩,
 ⟨some 12,.call 4 [(.tmp 11)],none,0⟩,
 ⟨some 0,.move (.tmp 12),none,0⟩] false) (.skip))) (.seq (.seq (.ops [⟨some 13,.move (.tmp 0),none,0⟩,
 ⟨some 14,.bin .neq (.tmp 13) (.const (.int .i64 0)),none,0⟩] false) (.cond (.tmp 14) (.seq (.ops [⟨some 15,.move (.tmp 3),none,0⟩,
 ⟨some 16,.move (.tmp 0),none,0⟩,
 ⟨some 17,.bin .eql (.tmp 15) (.tmp 16),none,0⟩,
 ⟨some 18,.move (.tmp 17),none,0⟩,
 ⟨some 19,.loadA 3 (.tmp 6),some (18,true),0⟩,
 ⟨some 20,.build [(.int .i64 0), (.int .i64 0), (.slice none 0 0)] [],some (18,true),0⟩,
 ⟨some 21,.call 16 [(.tmp 19), (.tmp 20)],some (18,true),0⟩,
 ⟨some 22,.pick (.tmp 18) (.tmp 21) (.const (.bool false)),none,0⟩,
 ⟨some 8,.move (.tmp 22),none,0⟩] false) (.ret)) (.skip))) (.seq (.ops [⟨some 23,.move (.tmp 3),none,0⟩,
 ⟨some 24,.bin .eql (.tmp 23) (.const (.int .i64 0)),none,0⟩,
 ⟨some 25,.move (.tmp 24),none,0⟩,
 ⟨some 26,.loadA 3 (.tmp 6),some (25,true),0⟩,
 ⟨some 27,.loadA 3 (.tmp 5),some (25,true),0⟩,
 ⟨some 28,.call 16 [(.tmp 26), (.tmp 27)],some (25,true),0⟩,
 ⟨some 29,.pick (.tmp 25) (.tmp 28) (.const (.bool false)),none,0⟩,
 ⟨some 8,.move (.tmp 29),none,0⟩] false) (.ret))))
set_option maxRecDepth 100000 in
theorem c7_ok : FunOK Tryd.prog 7 30 [.tmp 8] c7 := ⟨⟨Tryd.f7, Tryd.func7, rfl, by kernel_rfl, rfl, by kernel_rfl⟩⟩

/-- What made answers. -/
noncomputable def madeB (e : Int) (want got : Tree) (g : Int) : Bool :=
  let e' := if e = 0 then chk lKids want else e
  if e' = 0 then g == 0 && eqT got want else g == e' && eqT got (mk0 0 0)
theorem law_made (e g : Int) (want got : Tree) (hw : Small want) (hg : Small got) : PCall Tryd.prog 7 [.sc (.int .i64 e), dtree want, dtree got, .sc (.int .i64 g)] (.sc (.bool (madeB e want got g))) := by
  refine pcall_intro c7_ok (by simp) (by simp [PureL, Pure, pure_dtree]) ?_ (by simp [Pure])
  (apply rd_sound; focus (repeat' constructor))
  ((conv=>whnf);repeat(refine .intro rfl ?_;conv=>whnf))
  repeat' (first
    | (refine ifK_split (fun h => ?_) (fun h => ?_) <;> (rw [h]; ((conv=>whnf);repeat(refine .intro rfl ?_;conv=>whnf))))
    | (refine .inl ⟨_, (ref_Ltl want hw), ?_⟩; ((conv=>whnf);repeat(refine .intro rfl ?_;conv=>whnf)))
    | (refine .inl ⟨_, (same_zeroLtl got hg), ?_⟩; ((conv=>whnf);repeat(refine .intro rfl ?_;conv=>whnf)))
    | (refine .inl ⟨_, (ref_SameLtl got want hg), ?_⟩; ((conv=>whnf);repeat(refine .intro rfl ?_;conv=>whnf)))
    | exact deep_eq (by simp_all [madeB])
    | exact deep_eq (by simp_all [madeB, eqT]))
end Go.Proofs.YtdlokjgddjgneaaDoor
