/-
  Fair ways of a world: the program's Fair and the reference's, over deep values. No statement is proved here.
-/
import Derived.Test.YtfaekhadjlgbbaaQWi
import Derived.Test.YtfaekhadjlgbbaaQWa0
namespace Go.Proofs.Ytfaekhadjlgbbaa
open Go.RowKit
set_option linter.unusedSimpArgs false
set_option linter.unusedVariables false
def c35_1 : PC := .seq (.seq (.ops [⟨some 9,.move (.tmp 6),none,0⟩,
 ⟨some 10,.move (.tmp 0),none,0⟩,
 ⟨some 11,.len (.tmp 10),none,0⟩,
 ⟨some 12,.bin .lss (.tmp 9) (.tmp 11),none,0⟩] false) (.cond (.tmp 12) (.skip) (.exit 0))) (.seq (.block 1 (.ops [⟨some 15,.move (.tmp 5),none,0⟩,
 ⟨some 16,.move (.tmp 0),none,0⟩,
 ⟨some 17,.move (.tmp 6),none,0⟩,
 ⟨some 18,.iaddr 1 (.tmp 16) (.tmp 17),none,0⟩,
 ⟨some 19,.load1 (.tmp 18),none,0⟩,
 ⟨some 20,.iaddr 1 (.tmp 15) (.tmp 19),none,0⟩,
 ⟨none,.store 1 (.tmp 20) (.const (.bool true)),none,0⟩] false)) (.ops [⟨some 13,.move (.tmp 6),none,0⟩,
 ⟨some 14,.bin .add (.tmp 13) (.const (.int .i64 1)),none,0⟩,
 ⟨some 6,.move (.tmp 14),none,0⟩] false))
def c35 : PC := .seq (.ops [⟨some 4,.move (.const (.slice none 0 0)),none,0⟩] false) (.seq (.ops [⟨some 7,.move (.tmp 1),none,0⟩,
 ⟨some 8,.mslice 1 1 [(.bool false)] (.tmp 7) (.tmp 7),none,0⟩,
 ⟨some 5,.move (.tmp 8),none,0⟩] false) (.seq (.seq (.ops [⟨some 6,.move (.const (.int .i64 0)),none,0⟩] false) (.block 0 (.loop c35_1))) (.seq (.ops [⟨some 21,.move (.tmp 5),none,0⟩,
 ⟨some 4,.move (.tmp 21),none,0⟩] false) (.ret))))
set_option maxRecDepth 100000 in
theorem c35_ok : FunOK Try.prog 35 22 [.tmp 4] c35 := ⟨⟨Try.f35, Try.func35, rfl, by kernel_rfl, rfl, by kernel_rfl⟩⟩
theorem ref_Marked (l : List Int) (n : Nat) (hn : n ≤ 1000000) (hl : l.length ≤ 17592186043904) (hi : inB l n = true) : PCall Try.prog 35 [dints l, .sc (.int .i64 n)] (dbl n (setB l)) := by
  refine pcall_intro c35_ok (by simp) (by simp [PureL, Pure, pure_dints]) ?_ (pure_dbl _ _)
  (apply rd_sound; focus (repeat' constructor))
  ((conv=>whnf);repeat(refine .intro rfl ?_;conv=>whnf))
  refine ⟨by omega, by omega, by omega, ?_⟩
  rw [Int.toNat_natCast, show List.map D.sc [Value.bool false] = [D.sc (.bool false)] from rfl, rbl_rep]
  ((conv=>whnf);repeat(refine .intro rfl ?_;conv=>whnf))
  refine pwp_for [0, 5] (fun k : Nat => [(6, .sc (.int .i64 k))]) (fun k => [(0, .vec true 0 1 (rbl n (setB (l.take k))))]) (fun k => k ≤ l.length) (fun k => l.length - k) 0 ?_
  ((conv=>whnf);repeat(refine .intro rfl ?_;conv=>whnf))
  refine ⟨by omega, by (repeat' (first | exact trivial | refine And.intro rfl ?_)), rfl, ?_⟩
  rintro k hk
  ((conv=>whnf);repeat(refine .intro rfl ?_;conv=>whnf))
  (apply rd_sound; focus (repeat' constructor))
  ((conv=>whnf);repeat(refine .intro rfl ?_;conv=>whnf))
  rw [List.length_map]
  (refine ifK_split (fun q0 => ?_) (fun q0 => ?_) <;> (rw [q0]; ((conv=>whnf);repeat(refine .intro rfl ?_;conv=>whnf))))
  · have q0 : k < l.length := by ((try simp only[oo,reduceCtorEq]at*)<;>omega)
    have hx := inB_mem hi (mem_getD q0)
    have eS : ∀ v, setB (l.take (k + 1)) v = (setB (l.take k) v || (l.getD k 0 == (v : Int))) := fun v => by
      unfold setB
      rw [List.take_add_one, List.getElem?_eq_getElem q0, List.getD_eq_getElem?_getD, List.getElem?_eq_getElem q0]
      rw [Bool.eq_iff_iff, Bool.or_eq_true, List.contains_iff_mem, List.contains_iff_mem, List.mem_append, beq_iff_eq]
      simp only [Option.toList_some, List.mem_singleton, Option.getD_some]
      exact or_congr_right eq_comm
    refine ⟨by omega, _, intsD_at (l := l) (k := k) (by omega) q0, ?_⟩
    ((conv=>whnf);repeat(refine .intro rfl ?_;conv=>whnf))
    generalize l.getD k 0 = x at *
    (refine ⟨by omega, (by first | omega | (simp; done) | (simp; omega) | (simp only [ll]; omega)), ?_⟩; ((conv=>whnf);repeat(refine .intro rfl ?_;conv=>whnf)))
    refine ⟨_, rbl_atN x.toNat (by omega) (by omega), ?_⟩
    ((conv=>whnf);repeat(refine .intro rfl ?_;conv=>whnf))
    (refine .inl ⟨by (unfold InR; rw [IntKind.wrap_i64]; omega), ?_⟩; ((conv=>whnf);repeat(refine .intro rfl ?_;conv=>whnf)))
    refine ⟨k + 1, by omega, by dsimp only; omega, leB_envH (by (repeat' (first | exact trivial | refine And.intro rfl ?_))) ?_⟩
    rw [rbl_put (i := x.toNat) (f' := setB (l.take (k + 1))) (by omega) fun v _ => by
      rw [eS]
      by_cases e : v = x.toNat
      · rw [if_pos e, show (x == (v : Int)) = true by rw [beq_iff_eq]; omega, Bool.or_true]
      · rw [if_neg e, show (x == (v : Int)) = false by rw [beq_eq_false_iff_ne]; omega, Bool.or_false]]
    rfl
  have q0 : k = l.length := by have : ¬ k < l.length := by ((try simp only[oo,reduceCtorEq]at*)<;>omega)
                               omega
  subst q0
  rw [List.take_length]
  exact deep_vec rfl
def sgrid (n : Nat) (F : List (List Int)) : List (List D) := F.map fun l => [dbl n (setB l)]
theorem pure_sgrid (n : Nat) (F : List (List Int)) : PureLL (sgrid n F) := pureLL_map _ (fun l => by simp [PureL, pure_dbl]) F
@[simp] theorem underLL_sgrid {m n : Nat} (F : List (List Int)) : UnderLL m (sgrid n F) ↔ True := ⟨fun _ => trivial, fun _ => underLL_pure _ (pure_sgrid n F)⟩
@[simp] theorem sgrid_len (n : Nat) (F : List (List Int)) : (sgrid n F).length = F.length := by simp [sgrid]
/-- The reference's Ways, whatever sets there are. -/
theorem ref_WaysG (g : List (List Int)) (hn : g.length ≤ 1000000) (hin0 : ∀ l ∈ g, inB l g.length = true) (hF : FitsG g) (F : List (Nat → Bool)) (hFl : F.length ≤ 1000000) : PCall Try.prog 36 [dgrid g, dbls g.length F] (dbl g.length (fwB g F)) := by
  by_cases h : F = []
  · subst h; exact ref_Ways0 g hn hin0 hF
  · exact ref_Ways g hn hin0 hF F hFl h
end Go.Proofs.Ytfaekhadjlgbbaa
