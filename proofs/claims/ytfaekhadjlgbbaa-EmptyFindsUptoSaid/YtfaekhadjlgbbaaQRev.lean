/-
  slices.Reverse over deep values. No statement is proved here.
-/
import Derived.Test.YtfaekhadjlgbbaaQDC
import Derived.Test.YtfaekhadjlgbbaaQGl
import Derived.Test.YtfaekhadjlgbbaaQFn
namespace Go.Proofs.Ytfaekhadjlgbbaa
open Go.RowKit
set_option linter.unusedSimpArgs false
set_option linter.unusedVariables false
def revG (Z : List Int) (i : Nat) (p : Nat) : Int := if p < i ∨ Z.length - i ≤ p then Z.getD (Z.length - 1 - p) 0 else Z.getD p 0
theorem gl_self (Z : List Int) : gl Z.length (fun p => Z.getD p 0) = Z := by
  apply List.ext_getElem (by simp)
  intro i h1 h2
  have := gl_getD (n := Z.length) (g := fun p => Z.getD p 0) h2
  rw [List.getD_eq_getElem?_getD, List.getElem?_eq_getElem h1, List.getD_eq_getElem?_getD, List.getElem?_eq_getElem h2] at this
  exact this
theorem gl_rev {Z : List Int} {g : Nat → Int} (h : ∀ p, p < Z.length → g p = Z.getD (Z.length - 1 - p) 0) : gl Z.length g = Z.reverse := by
  apply List.ext_getElem (by simp)
  intro i h1 h2
  have hi : i < Z.length := by simpa using h1
  have := gl_getD (n := Z.length) (g := g) hi
  rw [List.getD_eq_getElem?_getD, List.getElem?_eq_getElem h1, h i hi, List.getD_eq_getElem?_getD, List.getElem?_eq_getElem (by omega)] at this
  rw [List.getElem_reverse]
  exact this
def c111_1 : PC := .seq (.seq (.ops [⟨some 7,.move (.tmp 2),none,0⟩,
 ⟨some 8,.move (.tmp 3),none,0⟩,
 ⟨some 9,.bin .lss (.tmp 7) (.tmp 8),none,0⟩] false) (.cond (.tmp 9) (.skip) (.exit 0))) (.seq (.block 1 (.ops [⟨some 14,.move (.tmp 0),none,0⟩,
 ⟨some 15,.move (.tmp 2),none,0⟩,
 ⟨some 16,.move (.tmp 0),none,0⟩,
 ⟨some 17,.move (.tmp 3),none,0⟩,
 ⟨some 18,.move (.tmp 0),none,0⟩,
 ⟨some 19,.move (.tmp 3),none,0⟩,
 ⟨some 20,.iaddr 1 (.tmp 18) (.tmp 19),none,48⟩,
 ⟨some 21,.load1 (.tmp 20),none,112⟩,
 ⟨some 22,.move (.tmp 0),none,0⟩,
 ⟨some 23,.move (.tmp 2),none,0⟩,
 ⟨some 24,.iaddr 1 (.tmp 22) (.tmp 23),none,768⟩,
 ⟨some 25,.load1 (.tmp 24),none,1792⟩,
 ⟨some 26,.iaddr 1 (.tmp 14) (.tmp 15),none,4083⟩,
 ⟨none,.store 1 (.tmp 26) (.tmp 21),none,8179⟩,
 ⟨some 27,.iaddr 1 (.tmp 16) (.tmp 17),none,16383⟩,
 ⟨none,.store 1 (.tmp 27) (.tmp 25),none,32767⟩] true)) (.ops [⟨some 10,.move (.tmp 2),none,0⟩,
 ⟨some 11,.bin .add (.tmp 10) (.const (.int .i64 1)),none,0⟩,
 ⟨some 12,.move (.tmp 3),none,0⟩,
 ⟨some 13,.bin .sub (.tmp 12) (.const (.int .i64 1)),none,0⟩,
 ⟨some 2,.move (.tmp 11),none,0⟩,
 ⟨some 3,.move (.tmp 13),none,0⟩] false))
def c111 : PC := .seq (.ops [⟨some 4,.move (.tmp 0),none,0⟩,
 ⟨some 5,.len (.tmp 4),none,0⟩,
 ⟨some 6,.bin .sub (.tmp 5) (.const (.int .i64 1)),none,0⟩,
 ⟨some 2,.move (.const (.int .i64 0)),none,0⟩,
 ⟨some 3,.move (.tmp 6),none,0⟩] false) (.block 0 (.loop c111_1))
set_option maxRecDepth 100000 in
theorem c111_ok : FunOK Try.prog 111 28 [] c111 := ⟨⟨Try.f111, Try.func111, rfl, by kernel_rfl, rfl, by kernel_rfl⟩⟩
set_option maxRecDepth 100000 in
theorem reverse_int (Z : List Int) (hl : Z.length ≤ 17592186044416) (v : Nat) : ACall Try.prog 111 [.own 0 v 0 Z.length] [.vec true v 1 (i64s Z)] (.tup []) [.vec true v 1 (i64s Z.reverse)] := by
  refine acall_intro c111_ok (by simp) (by simp) ?_ (by simp [Under, UnderL]) (by simp [AObj.under])
  (apply rd_sound; focus (repeat' constructor))
  ((conv=>whnf);repeat(refine .intro rfl ?_;conv=>whnf))
  rw [Nat.sub_zero]
  (refine .inl ⟨by (unfold InR; rw [IntKind.wrap_i64]; omega), ?_⟩; ((conv=>whnf);repeat(refine .intro rfl ?_;conv=>whnf)))
  refine pwp_for [0] (fun i : Nat => [(2, .sc (.int .i64 i)), (3, .sc (.int .i64 ((Z.length : Int) - 1 - i)))]) (fun i => [(0, .vec true v 1 (i64s (gl Z.length (revG Z i))))]) (fun i => 2 * i ≤ Z.length + 1) (fun i => Z.length + 1 - i) 0 ?_
  ((conv=>whnf);repeat(refine .intro rfl ?_;conv=>whnf))
  refine ⟨by omega, ⟨rfl, by show D.sc _ = D.sc _; simp, trivial⟩, by
    rw [gl_congr (g' := fun p => Z.getD p 0) fun p hp => by unfold revG; rw [if_neg (by omega)], gl_self]; rfl, ?_⟩
  rintro i hi
  ((conv=>whnf);repeat(refine .intro rfl ?_;conv=>whnf))
  (apply rd_sound; focus (repeat' constructor))
  ((conv=>whnf);repeat(refine .intro rfl ?_;conv=>whnf))
  (refine ifK_split (fun h1 => ?_) (fun h1 => ?_) <;> (rw [h1]; ((conv=>whnf);repeat(refine .intro rfl ?_;conv=>whnf))))
  · have h1 : (i : Int) < (Z.length : Int) - 1 - i := by ((try simp only[oo,reduceCtorEq]at*)<;>omega)
    (refine ⟨by omega, (by first | omega | (simp; done) | (simp; omega) | (simp only [ll]; omega)), ?_⟩; ((conv=>whnf);repeat(refine .intro rfl ?_;conv=>whnf)))
    refine ⟨_, gl_atN (Z.length - 1 - i) (by omega) (by omega), ?_⟩
    ((conv=>whnf);repeat(refine .intro rfl ?_;conv=>whnf))
    (refine ⟨by omega, (by first | omega | (simp; done) | (simp; omega) | (simp only [ll]; omega)), ?_⟩; ((conv=>whnf);repeat(refine .intro rfl ?_;conv=>whnf)))
    refine ⟨_, gl_atN i (by omega) (by omega), ?_⟩
    ((conv=>whnf);repeat(refine .intro rfl ?_;conv=>whnf))
    (refine ⟨by omega, (by first | omega | (simp; done) | (simp; omega) | (simp only [ll]; omega)), ?_⟩; ((conv=>whnf);repeat(refine .intro rfl ?_;conv=>whnf)))
    refine ⟨_, gl_atN i (by omega) (by omega), ?_⟩
    ((conv=>whnf);repeat(refine .intro rfl ?_;conv=>whnf))
    (refine ⟨by omega, (by first | omega | (simp; done) | (simp; omega) | (simp only [ll]; omega)), ?_⟩; ((conv=>whnf);repeat(refine .intro rfl ?_;conv=>whnf)))
    rw [gl_set (k := i) (by omega)]
    refine ⟨_, gl_atN (Z.length - 1 - i) (by omega) (by omega), ?_⟩
    ((conv=>whnf);repeat(refine .intro rfl ?_;conv=>whnf))
    (refine .inl ⟨by (unfold InR; rw [IntKind.wrap_i64]; omega), ?_⟩; ((conv=>whnf);repeat(refine .intro rfl ?_;conv=>whnf)))
    (refine .inl ⟨by (unfold InR; rw [IntKind.wrap_i64]; omega), ?_⟩; ((conv=>whnf);repeat(refine .intro rfl ?_;conv=>whnf)))
    refine ⟨i + 1, by omega, by dsimp only; omega, ?_⟩
    refine leB_envH ⟨rfl, by show D.sc _ = D.sc _; simp; omega, by (repeat' (first | exact trivial | refine And.intro rfl ?_))⟩ ?_
    rw [gl_set (k := Z.length - 1 - i) (by omega), gl_congr (g' := revG Z (i + 1)) fun p hp => ?_]
    · rfl
    · by_cases e1 : p = Z.length - 1 - i
      · subst e1
        rw [putA_self]
        unfold revG
        rw [if_neg (by omega), if_pos (by omega)]
        congr 1
        omega
      · rw [putA_ne e1]
        by_cases e2 : p = i
        · subst e2
          rw [putA_self]
          unfold revG
          rw [if_neg (by omega), if_pos (by omega)]
        · rw [putA_ne e2]
          unfold revG
          by_cases q : p < i ∨ Z.length - i ≤ p
          · rw [if_pos q, if_pos (by omega)]
          · rw [if_neg q, if_neg (by omega)]
  · have h1 : ¬ (i : Int) < (Z.length : Int) - 1 - i := by ((try simp only[oo,reduceCtorEq]at*)<;>omega)
    refine ⟨?_, by simp⟩
    rw [← gl_rev (Z := Z) (g := revG Z i) fun p hp => ?_]
    · rfl
    · unfold revG
      split
      · rfl
      · congr 1
        omega
end Go.Proofs.Ytfaekhadjlgbbaa
