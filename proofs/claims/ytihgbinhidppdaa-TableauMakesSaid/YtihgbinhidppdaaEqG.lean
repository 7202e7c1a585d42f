/-
  Equal lists of lists, over deep values. No statement is proved here.
-/
import Derived.Test.YtihgbinhidppdaaFn
import Derived.Test.YtihgbinhidppdaaSc2
namespace Go.Proofs.Ytihgbinhidppdaa
open Go.RowKit
set_option linter.unusedSimpArgs false
set_option linter.unusedVariables false
def c23_1 : PC := .seq (.ops [⟨some 18,.bin .lss (.tmp 17) (.tmp 16),none,0⟩] false) (.seq (.cond (.tmp 18) (.skip) (.exit 0)) (.seq (.block 1 (.seq (.ops [⟨some 19,.move (.tmp 17),none,0⟩,
 ⟨some 20,.iaddr 1 (.tmp 15) (.tmp 17),none,0⟩,
 ⟨some 21,.load1 (.tmp 20),none,0⟩,
 ⟨some 7,.move (.tmp 19),none,0⟩,
 ⟨some 8,.move (.tmp 21),none,0⟩] false) (.seq (.ops [⟨some 22,.move (.tmp 1),none,0⟩,
 ⟨some 23,.move (.tmp 7),none,0⟩,
 ⟨some 24,.iaddr 1 (.tmp 22) (.tmp 23),none,0⟩,
 ⟨some 25,.load1 (.tmp 24),none,0⟩,
 ⟨some 9,.move (.tmp 25),none,0⟩] false) (.seq (.ops [⟨some 26,.move (.tmp 2),none,0⟩,
 ⟨some 27,.move (.tmp 8),none,0⟩,
 ⟨some 28,.move (.tmp 9),none,0⟩,
 ⟨some 29,.callv (.tmp 26) [(.tmp 27), (.tmp 28)],none,0⟩,
 ⟨some 30,.un .not (.tmp 29),none,0⟩] false) (.cond (.tmp 30) (.seq (.ops [⟨some 6,.move (.const (.bool false)),none,0⟩] false) (.ret)) (.skip)))))) (.ops [⟨some 31,.bin .add (.tmp 17) (.const (.int .i64 1)),none,0⟩,
 ⟨some 17,.move (.tmp 31),none,0⟩] false)))
def c23 : PC := .seq (.ops [⟨some 6,.move (.const (.bool false)),none,0⟩] false) (.seq (.seq (.ops [⟨some 10,.move (.tmp 0),none,0⟩,
 ⟨some 11,.len (.tmp 10),none,0⟩,
 ⟨some 12,.move (.tmp 1),none,0⟩,
 ⟨some 13,.len (.tmp 12),none,0⟩,
 ⟨some 14,.bin .neq (.tmp 11) (.tmp 13),none,0⟩] false) (.cond (.tmp 14) (.seq (.ops [⟨some 6,.move (.const (.bool false)),none,0⟩] false) (.ret)) (.skip))) (.seq (.seq (.ops [⟨some 15,.move (.tmp 0),none,0⟩,
 ⟨some 16,.len (.tmp 15),none,0⟩,
 ⟨some 17,.move (.const (.int .i64 0)),none,0⟩] false) (.block 0 (.loop c23_1))) (.seq (.ops [⟨some 6,.move (.const (.bool true)),none,0⟩] false) (.ret))))
set_option maxRecDepth 100000 in
theorem c23_ok : FunOK Try.prog 23 32 [.tmp 6] c23 := ⟨⟨Try.f23, Try.func23, rfl, by kernel_rfl, rfl, by kernel_rfl⟩⟩
theorem equalF_grid (a b : List (List Int)) (ha : a.length ≤ 9223372036854775807) (hr : ∀ x ∈ a, x.length ≤ 9223372036854775807) :
    PCall Try.prog 23 [dgrid a, dgrid b, .fn (.func 24) [] []] (.sc (.bool (decide (a = b)))) := by
  refine pcall_intro c23_ok (by simp) (by simp [PureL, Pure, pure_dgrid]) ?_ (by simp [Pure])
  unfold dgrid
  (apply rd_sound; focus (repeat' constructor))
  ((conv=>whnf);repeat(refine .intro rfl ?_;conv=>whnf))
  rw [List.length_map, List.length_map]
  have fin : ∀ {c : Bool}, c = decide (a = b) → Deep [] (.sc (.bool c)) (.sc (.bool (decide (a = b)))) := fun h => h ▸ .refl _
  (refine ifK_split (fun h1 => ?_) (fun h1 => ?_) <;> (rw [h1]; ((conv=>whnf);repeat(refine .intro rfl ?_;conv=>whnf))))
  · exact fin (by rw [eq_comm, decide_eq_false_iff_not]; rintro rfl; simp at h1)
  have hl : a.length = b.length := by ((try simp only[oo,reduceCtorEq]at*)<;>omega)
  rw [List.length_map]
  refine pwp_for [1, 2, 15, 16] (fun k : Nat => [(17, .sc (.int .i64 k))]) (fun _ => []) (fun k => k ≤ a.length ∧ ∀ j (hj : j < k) (h1 : j < a.length) (h2 : j < b.length), a[j] = b[j]) (fun k => a.length - k) 0 ?_
  ((conv=>whnf);repeat(refine .intro rfl ?_;conv=>whnf))
  refine ⟨⟨by omega, fun j h => by omega⟩, by (repeat' (first | exact trivial | refine And.intro rfl ?_)), rfl, ?_⟩
  rintro k ⟨hk, hall⟩
  ((conv=>whnf);repeat(refine .intro rfl ?_;conv=>whnf))
  (apply rd_sound; focus (repeat' constructor))
  ((conv=>whnf);repeat(refine .intro rfl ?_;conv=>whnf))
  (refine ifK_split (fun h2 => ?_) (fun h2 => ?_) <;> (rw [h2]; ((conv=>whnf);repeat(refine .intro rfl ?_;conv=>whnf))))
  · have hk' : k < a.length := by ((try simp only[oo,reduceCtorEq]at*)<;>omega)
    refine ⟨by omega, _, grid_at (k := k) (by omega) hk', ?_⟩
    ((conv=>whnf);repeat(refine .intro rfl ?_;conv=>whnf))
    refine ⟨by omega, _, grid_at (g := b) (k := k) (by omega) (by omega), ?_⟩
    ((conv=>whnf);repeat(refine .intro rfl ?_;conv=>whnf))
    (refine .inl ⟨_, (equal_int a[k] b[k] (hr _ (List.getElem_mem hk'))), ?_⟩; ((conv=>whnf);repeat(refine .intro rfl ?_;conv=>whnf)))
    (refine ifK_split (fun h3 => ?_) (fun h3 => ?_) <;> (rw [h3]; ((conv=>whnf);repeat(refine .intro rfl ?_;conv=>whnf))))
    · exact fin (by rw [eq_comm, decide_eq_false_iff_not]; rintro rfl; simp at h3)
    · (refine .inl ⟨by (unfold InR; rw [IntKind.wrap_i64]; omega), ?_⟩; ((conv=>whnf);repeat(refine .intro rfl ?_;conv=>whnf)))
      refine ⟨k + 1, ⟨by omega, fun j hj h1 h2 => ?_⟩, by dsimp only; omega, leB_envH (by (repeat' (first | exact trivial | refine And.intro rfl ?_))) rfl⟩
      by_cases e : j = k
      · subst e; simpa using h3
      · exact hall j (by omega) h1 h2
  · refine fin ?_
    rw [eq_comm, decide_eq_true_eq]
    have hk' : ¬ k < a.length := by ((try simp only[oo,reduceCtorEq]at*)<;>omega)
    exact List.ext_getElem hl fun i h1 h2 => hall i (by omega) h1 h2
end Go.Proofs.Ytihgbinhidppdaa
