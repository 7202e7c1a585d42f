/-
  Equal automata, over deep values. No statement is proved here.
-/
import Derived.Test.YtihgbinhidppdaaAu0
import Derived.Test.YtihgbinhidppdaaEqG
namespace Go.Proofs.Ytihgbinhidppdaa
open Go.RowKit
set_option linter.unusedSimpArgs false
set_option linter.unusedVariables false
structure AutoD.Size (A : AutoD) : Prop where
  start : A.start.length ≤ 2000000000000
  next : A.next.length ≤ 1000000000000
  must : A.must.length ≤ 1000000000000
  nots : A.nots.length ≤ 1000000000000
  fair : A.fair.length ≤ 1000000000000
  nextEach : ∀ l ∈ A.next, l.length ≤ 2000000000000
  fairEach : ∀ l ∈ A.fair, l.length ≤ 1000000000000
theorem emptyA_size : emptyA.Size := by constructor <;> simp [emptyA]
def c22 : PC := .seq (.ops [⟨some 4,.move (.const (.bool false)),none,0⟩] false) (.seq (.ops [⟨some 5,.move (.tmp 0),none,0⟩,
 ⟨some 6,.move (.tmp 1),none,0⟩,
 ⟨some 7,.call 23 [(.tmp 5), (.tmp 6), (.func 24)],none,0⟩,
 ⟨some 4,.move (.tmp 7),none,0⟩] false) (.ret))
set_option maxRecDepth 100000 in
theorem c22_ok : FunOK Try.prog 22 8 [.tmp 4] c22 := ⟨⟨Try.f22, Try.func22, rfl, by kernel_rfl, rfl, by kernel_rfl⟩⟩
theorem ref_lists (a b : List (List Int)) (ha : a.length ≤ 9223372036854775807) (hr : ∀ x ∈ a, x.length ≤ 9223372036854775807) : PCall Try.prog 22 [dgrid a, dgrid b] (.sc (.bool (decide (a = b)))) := by
  refine pcall_intro c22_ok (by simp) (by simp [PureL, Pure, pure_dgrid]) ?_ (by simp [Pure])
  (apply rd_sound; focus (repeat' constructor))
  ((conv=>whnf);repeat(refine .intro rfl ?_;conv=>whnf))
  (refine .inl ⟨_, (equalF_grid a b ha hr), ?_⟩; ((conv=>whnf);repeat(refine .intro rfl ?_;conv=>whnf)))
  exact .refl _
def c7 : PC := .seq (.ops [⟨some 2,.box (.tmp 0),none,0⟩,
 ⟨some 3,.box (.tmp 1),none,0⟩,
 ⟨some 4,.move (.const (.bool false)),none,0⟩] false) (.seq (.ops [⟨some 5,.move (.func 22),none,0⟩] false) (.seq (.ops [⟨some 6,.faddr 0 (.tmp 2),none,0⟩,
 ⟨some 7,.load1 (.tmp 6),none,0⟩,
 ⟨some 8,.faddr 0 (.tmp 3),none,0⟩,
 ⟨some 9,.load1 (.tmp 8),none,0⟩,
 ⟨some 10,.call 24 [(.tmp 7), (.tmp 9)],none,0⟩,
 ⟨some 11,.move (.tmp 10),none,0⟩,
 ⟨some 12,.move (.tmp 5),some (11,true),0⟩,
 ⟨some 13,.faddr 1 (.tmp 2),some (11,true),0⟩,
 ⟨some 14,.load1 (.tmp 13),some (11,true),0⟩,
 ⟨some 15,.faddr 1 (.tmp 3),some (11,true),0⟩,
 ⟨some 16,.load1 (.tmp 15),some (11,true),0⟩,
 ⟨some 17,.callv (.tmp 12) [(.tmp 14), (.tmp 16)],some (11,true),0⟩,
 ⟨some 18,.pick (.tmp 11) (.tmp 17) (.const (.bool false)),none,0⟩,
 ⟨some 19,.move (.tmp 18),none,0⟩,
 ⟨some 20,.faddr 2 (.tmp 2),some (19,true),0⟩,
 ⟨some 21,.load1 (.tmp 20),some (19,true),0⟩,
 ⟨some 22,.faddr 2 (.tmp 3),some (19,true),0⟩,
 ⟨some 23,.load1 (.tmp 22),some (19,true),0⟩,
 ⟨some 24,.call 25 [(.tmp 21), (.tmp 23)],some (19,true),0⟩,
 ⟨some 25,.pick (.tmp 19) (.tmp 24) (.const (.bool false)),none,0⟩,
 ⟨some 26,.move (.tmp 25),none,0⟩,
 ⟨some 27,.faddr 3 (.tmp 2),some (26,true),0⟩,
 ⟨some 28,.load1 (.tmp 27),some (26,true),0⟩,
 ⟨some 29,.faddr 3 (.tmp 3),some (26,true),0⟩,
 ⟨some 30,.load1 (.tmp 29),some (26,true),0⟩,
 ⟨some 31,.call 25 [(.tmp 28), (.tmp 30)],some (26,true),0⟩,
 ⟨some 32,.pick (.tmp 26) (.tmp 31) (.const (.bool false)),none,0⟩,
 ⟨some 33,.move (.tmp 32),none,0⟩,
 ⟨some 34,.move (.tmp 5),some (33,true),0⟩,
 ⟨some 35,.faddr 4 (.tmp 2),some (33,true),0⟩,
 ⟨some 36,.load1 (.tmp 35),some (33,true),0⟩,
 ⟨some 37,.faddr 4 (.tmp 3),some (33,true),0⟩,
 ⟨some 38,.load1 (.tmp 37),some (33,true),0⟩,
 ⟨some 39,.callv (.tmp 34) [(.tmp 36), (.tmp 38)],some (33,true),0⟩,
 ⟨some 40,.pick (.tmp 33) (.tmp 39) (.const (.bool false)),none,0⟩,
 ⟨some 4,.move (.tmp 40),none,0⟩] false) (.ret)))
set_option maxRecDepth 100000 in
theorem c7_ok : FunOK Try.prog 7 41 [.tmp 4] c7 := ⟨⟨Try.f7, Try.func7, rfl, by kernel_rfl, rfl, by kernel_rfl⟩⟩
theorem ref_SameAuto (A : AutoD) (hA : A.Size) : PCall Try.prog 7 [dauto A, dauto A] (.sc (.bool true)) := by
  have b1 := hA.start
  have b2 := hA.next
  have b3 := hA.must
  have b4 := hA.nots
  have b5 := hA.fair
  have g1 := ref_lists A.next A.next (by omega) (fun l hl => by have := hA.nextEach l hl; omega)
  have g2 := ref_lists A.fair A.fair (by omega) (fun l hl => by have := hA.fairEach l hl; omega)
  have g3 := equal_int A.start A.start (by omega)
  have g4 := eq_u64 A.must A.must (by omega)
  have g5 := eq_u64 A.nots A.nots (by omega)
  rw [decide_eq_true rfl] at g1 g2 g3 g4 g5
  refine pcall_intro c7_ok (by simp) (by simp [PureL, Pure, pure_dauto]) ?_ (by simp [Pure])
  unfold dauto AutoD.cells
  (apply rd_sound; focus (repeat' constructor))
  ((conv=>whnf);repeat(refine .intro rfl ?_;conv=>whnf))
  (refine .inl ⟨_, g3, ?_⟩; ((conv=>whnf);repeat(refine .intro rfl ?_;conv=>whnf)))
  (refine .inl ⟨_, g1, ?_⟩; ((conv=>whnf);repeat(refine .intro rfl ?_;conv=>whnf)))
  (refine .inl ⟨_, g4, ?_⟩; ((conv=>whnf);repeat(refine .intro rfl ?_;conv=>whnf)))
  (refine .inl ⟨_, g5, ?_⟩; ((conv=>whnf);repeat(refine .intro rfl ?_;conv=>whnf)))
  (refine .inl ⟨_, g2, ?_⟩; ((conv=>whnf);repeat(refine .intro rfl ?_;conv=>whnf)))
  exact .refl _
theorem same_auto0 : PCall Try.prog 7 [dauto emptyA, .agg [.sc (.slice none 0 0), .sc (.slice none 0 0), .sc (.slice none 0 0), .sc (.slice none 0 0), .sc (.slice none 0 0)]] (.sc (.bool true)) :=
  pcall_deep (by simp [PureL, Pure, pure_dauto]) (.cons _ _ _ _ (.refl _) (.cons _ _ _ _ (.agg _ _ (.cons _ _ _ _ (.none _) (.cons _ _ _ _ (.none _) (.cons _ _ _ _ (.none _) (.cons _ _ _ _ (.none _) (.cons _ _ _ _ (.none _) .nil)))))) .nil)) (ref_SameAuto emptyA emptyA_size)
end Go.Proofs.Ytihgbinhidppdaa
