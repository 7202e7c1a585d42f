/-
  What formulas rules have, over deep values. No statement is proved here.
-/
import Derived.Test.YtcgjbhnljjlffaaDec
import Derived.Test.YtcgjbhnljjlffaaDwy
import Derived.Test.YtcgjbhnljjlffaaDwr
import Derived.Test.YtcgjbhnljjlffaaRl
import Derived.Test.YtcgjbhnljjlffaaCk
import Derived.Test.YtcgjbhnljjlffaaSa
import Derived.Test.YtcgjbhnljjlffaaFn
namespace Go.Proofs.Ytcgjbhnljjlffaa
open Go.RowKit
set_option linter.unusedSimpArgs false
set_option linter.unusedVariables false
/-- A formula and an error: none of the first where the second is one. -/
noncomputable def told2 (e : Int) (t : Tree) : D := .tup [dtree (if e = 0 then t else mk0 0 0), .sc (.int .i64 e)]
theorem pure_told2 (e : Int) (t : Tree) : Pure (told2 e t) := by simp [told2, Pure, PureL, pure_dtree]
theorem told2_bad {H : List AObj} {e : Int} (h : e ≠ 0) (t : Tree) : Deep H (.tup [.agg [.sc (.int .i64 0), .sc (.int .i64 0), .sc (.slice none 0 0)], .sc (.int .i64 e)]) (told2 e t) := by
  unfold told2
  rw [if_neg h]
  exact .tup _ _ (.cons _ _ _ _ deep_zero (.cons _ _ _ _ (.refl _) .nil))
theorem told2_ok {H : List AObj} {t : Tree} : Deep H (.tup [dtree t, .sc (.int .i64 0)]) (told2 0 t) := by
  unfold told2
  rw [if_pos rfl]
  exact .refl _
theorem told2_same {H : List AObj} {e : Int} (h : e = 0) {d : D} {t : Tree} (k : Deep H d (dtree t)) : Deep H (.tup [d, .sc (.int .i64 0)]) (told2 e t) := by
  subst h
  unfold told2
  rw [if_pos rfl]
  exact .tup _ _ (.cons _ _ _ _ k (.cons _ _ _ _ (.refl _) .nil))
noncomputable def patE (x : Pat) : Int := if patChk x = 0 then chk lKids (scopeT x) else patChk x
noncomputable def tmplE (k a b c : Int) : Int := if tmplChk k a b c = 0 then chk lKids (formT k a b c) else tmplChk k a b c
def c115u : PC := .seq (.ops [⟨(some 1), .box (.tmp 0), none, 0⟩,
    ⟨(some 2), .alloc [(.int .i64 0), (.int .i64 0), (.slice none 0 0)], none, 0⟩,
    ⟨(some 3), .move (.const (.int .i64 0)), none, 0⟩] false) (.seq (.seq (.ops [⟨(some 7), .loadA 4 (.tmp 1), none, 0⟩,
    ⟨(some 8), .call 97 [(.tmp 7)], none, 0⟩,
    ⟨(some 4), .move (.tmp 8), none, 0⟩] false) (.seq (.ops [⟨(some 9), .move (.tmp 4), none, 0⟩,
    ⟨(some 10), .bin .neq (.tmp 9) (.const (.int .i64 0)), none, 0⟩] false) (.cond (.tmp 10) (.seq (.ops [⟨(some 11), .build [(.int .i64 0), (.int .i64 0), (.slice none 0 0)] [], none, 0⟩,
    ⟨(some 12), .move (.tmp 4), none, 0⟩,
    ⟨none, .store 3 (.tmp 2) (.tmp 11), none, 0⟩,
    ⟨(some 3), .move (.tmp 12), none, 0⟩] false) (.ret)) (.skip)))) (.seq (.ops [⟨(some 13), .loadA 4 (.tmp 1), none, 0⟩,
    ⟨(some 14), .call 180 [(.tmp 13)], none, 0⟩,
    ⟨(some 5), .alloc [(.int .i64 0), (.int .i64 0), (.slice none 0 0)], none, 0⟩,
    ⟨none, .store 3 (.tmp 5) (.tmp 14), none, 0⟩] false) (.seq (.seq (.ops [⟨(some 15), .loadA 3 (.tmp 5), none, 0⟩,
    ⟨(some 16), .call 116 [(.tmp 15)], none, 0⟩,
    ⟨(some 6), .move (.tmp 16), none, 0⟩] false) (.seq (.ops [⟨(some 17), .move (.tmp 6), none, 0⟩,
    ⟨(some 18), .bin .neq (.tmp 17) (.const (.int .i64 0)), none, 0⟩] false) (.cond (.tmp 18) (.seq (.ops [⟨(some 19), .build [(.int .i64 0), (.int .i64 0), (.slice none 0 0)] [], none, 0⟩,
    ⟨(some 20), .move (.tmp 6), none, 0⟩,
    ⟨none, .store 3 (.tmp 2) (.tmp 19), none, 0⟩,
    ⟨(some 3), .move (.tmp 20), none, 0⟩] false) (.ret)) (.skip)))) (.seq (.ops [⟨(some 21), .loadA 3 (.tmp 5), none, 0⟩,
    ⟨none, .store 3 (.tmp 2) (.tmp 21), none, 0⟩,
    ⟨(some 3), .move (.const (.int .i64 0)), none, 0⟩] false) (.ret)))))
set_option maxRecDepth 100000 in
theorem c115u_ok : FunOK Try.prog 115 22 [.agg 2 3, .tmp 3] c115u := ⟨⟨Try.f115, Try.func115, rfl, by kernel_rfl, rfl, by kernel_rfl⟩⟩
theorem dec_MakeU (k a b c : Int) : PCall Try.prog 115 [dtempl k a b c] (told2 (tmplE k a b c) (formT k a b c)) := by
  refine pcall_intro c115u_ok (by simp) (by simp [PureL, pure_dtempl]) ?_ (pure_told2 _ _)
  unfold tmplE
  (apply red_sound; focus (repeat' (first | exact Red.skip | exact Red.ret | exact RedO.nil | exact RedD.nil | exact Red.exit _ | exact Red.loop _ | exact Red.stop _ | apply Red.ops | apply Red.draw | apply Red.seq | apply Red.cond | apply Red.block | apply RedO.cons | apply RedD.cons | exact (0 : Nat))))
  ((conv => whnf); repeat (refine And.intro rfl ?_; (conv => whnf)))
  (refine .inl ⟨_, (dec_Check k a b c), ?_⟩; ((conv => whnf); repeat (refine And.intro rfl ?_; (conv => whnf))))
  (refine ifK_split (fun h1 => ?_) (fun h1 => ?_) <;> (rw [h1]; ((conv => whnf); repeat (refine And.intro rfl ?_; (conv => whnf)))))
  · rw [if_neg (by ((try simp only [bne_iff_ne, ne_eq, bne_eq_false_iff_eq, beq_iff_eq, beq_eq_false_iff_ne, decide_eq_true_eq, decide_eq_false_iff_not, List.length_map, Bool.not_eq_true, Bool.not_eq_false, Bool.and_eq_true, Bool.or_eq_true, Bool.and_eq_false_iff, Bool.or_eq_false_iff, Bool.not_eq_true', Bool.not_eq_false', Bool.not_true, Bool.not_false, Bool.not_eq_eq_eq_not, not_true_eq_false, not_false_eq_true, reduceCtorEq, Bool.true_or, Bool.false_or, Bool.or_true, Bool.or_false, Bool.true_and, Bool.and_true, Bool.false_and, Bool.and_false, true_and, and_true, or_false, false_or, true_or, or_true, false_and, and_false, Bool.true_eq_false, Bool.false_eq_true] at *) <;> omega))]
    exact told2_bad (by ((try simp only [bne_iff_ne, ne_eq, bne_eq_false_iff_eq, beq_iff_eq, beq_eq_false_iff_ne, decide_eq_true_eq, decide_eq_false_iff_not, List.length_map, Bool.not_eq_true, Bool.not_eq_false, Bool.and_eq_true, Bool.or_eq_true, Bool.and_eq_false_iff, Bool.or_eq_false_iff, Bool.not_eq_true', Bool.not_eq_false', Bool.not_true, Bool.not_false, Bool.not_eq_eq_eq_not, not_true_eq_false, not_false_eq_true, reduceCtorEq, Bool.true_or, Bool.false_or, Bool.or_true, Bool.or_false, Bool.true_and, Bool.and_true, Bool.false_and, Bool.and_false, true_and, and_true, or_false, false_or, true_or, or_true, false_and, and_false, Bool.true_eq_false, Bool.false_eq_true] at *) <;> omega)) _
  · have h0 : tmplChk k a b c = 0 := by ((try simp only [bne_iff_ne, ne_eq, bne_eq_false_iff_eq, beq_iff_eq, beq_eq_false_iff_ne, decide_eq_true_eq, decide_eq_false_iff_not, List.length_map, Bool.not_eq_true, Bool.not_eq_false, Bool.and_eq_true, Bool.or_eq_true, Bool.and_eq_false_iff, Bool.or_eq_false_iff, Bool.not_eq_true', Bool.not_eq_false', Bool.not_true, Bool.not_false, Bool.not_eq_eq_eq_not, not_true_eq_false, not_false_eq_true, reduceCtorEq, Bool.true_or, Bool.false_or, Bool.or_true, Bool.or_false, Bool.true_and, Bool.and_true, Bool.false_and, Bool.and_false, true_and, and_true, or_false, false_or, true_or, or_true, false_and, and_false, Bool.true_eq_false, Bool.false_eq_true] at *) <;> omega)
    rw [if_pos h0]
    (refine .inl ⟨_, (dec_form k a b c h0), ?_⟩; ((conv => whnf); repeat (refine And.intro rfl ?_; (conv => whnf))))
    (refine .inl ⟨_, (ltl_Check _ (small_formT k a b c)), ?_⟩; ((conv => whnf); repeat (refine And.intro rfl ?_; (conv => whnf))))
    (refine ifK_split (fun h2 => ?_) (fun h2 => ?_) <;> (rw [h2]; ((conv => whnf); repeat (refine And.intro rfl ?_; (conv => whnf)))))
    · exact told2_bad (by ((try simp only [bne_iff_ne, ne_eq, bne_eq_false_iff_eq, beq_iff_eq, beq_eq_false_iff_ne, decide_eq_true_eq, decide_eq_false_iff_not, List.length_map, Bool.not_eq_true, Bool.not_eq_false, Bool.and_eq_true, Bool.or_eq_true, Bool.and_eq_false_iff, Bool.or_eq_false_iff, Bool.not_eq_true', Bool.not_eq_false', Bool.not_true, Bool.not_false, Bool.not_eq_eq_eq_not, not_true_eq_false, not_false_eq_true, reduceCtorEq, Bool.true_or, Bool.false_or, Bool.or_true, Bool.or_false, Bool.true_and, Bool.and_true, Bool.false_and, Bool.and_false, true_and, and_true, or_false, false_or, true_or, or_true, false_and, and_false, Bool.true_eq_false, Bool.false_eq_true] at *) <;> omega)) _
    · exact told2_same (by ((try simp only [bne_iff_ne, ne_eq, bne_eq_false_iff_eq, beq_iff_eq, beq_eq_false_iff_ne, decide_eq_true_eq, decide_eq_false_iff_not, List.length_map, Bool.not_eq_true, Bool.not_eq_false, Bool.and_eq_true, Bool.or_eq_true, Bool.and_eq_false_iff, Bool.or_eq_false_iff, Bool.not_eq_true', Bool.not_eq_false', Bool.not_true, Bool.not_false, Bool.not_eq_eq_eq_not, not_true_eq_false, not_false_eq_true, reduceCtorEq, Bool.true_or, Bool.false_or, Bool.or_true, Bool.or_false, Bool.true_and, Bool.and_true, Bool.false_and, Bool.and_false, true_and, and_true, or_false, false_or, true_or, or_true, false_and, and_false, Bool.true_eq_false, Bool.false_eq_true] at *) <;> omega)) (.refl _)
def c119u : PC := .seq (.ops [⟨(some 1), .box (.tmp 0), none, 0⟩,
    ⟨(some 2), .alloc [(.int .i64 0), (.int .i64 0), (.slice none 0 0)], none, 0⟩,
    ⟨(some 3), .move (.const (.int .i64 0)), none, 0⟩] false) (.seq (.ops [⟨(some 6), .loadA 4 (.tmp 1), none, 0⟩,
    ⟨(some 7), .call 183 [(.tmp 6)], none, 0⟩,
    ⟨(some 4), .alloc [(.int .i64 0), (.int .i64 0), (.slice none 0 0)], none, 0⟩,
    ⟨none, .store 3 (.tmp 4) (.tmp 7), none, 0⟩] false) (.seq (.seq (.ops [⟨(some 8), .loadA 3 (.tmp 4), none, 0⟩,
    ⟨(some 9), .call 120 [(.tmp 8)], none, 0⟩,
    ⟨(some 5), .move (.tmp 9), none, 0⟩] false) (.seq (.ops [⟨(some 10), .move (.tmp 5), none, 0⟩,
    ⟨(some 11), .bin .neq (.tmp 10) (.const (.int .i64 0)), none, 0⟩] false) (.cond (.tmp 11) (.seq (.ops [⟨(some 12), .build [(.int .i64 0), (.int .i64 0), (.slice none 0 0)] [], none, 0⟩,
    ⟨(some 13), .move (.tmp 5), none, 0⟩,
    ⟨none, .store 3 (.tmp 2) (.tmp 12), none, 0⟩,
    ⟨(some 3), .move (.tmp 13), none, 0⟩] false) (.ret)) (.skip)))) (.seq (.ops [⟨(some 14), .loadA 3 (.tmp 4), none, 0⟩,
    ⟨none, .store 3 (.tmp 2) (.tmp 14), none, 0⟩,
    ⟨(some 3), .move (.const (.int .i64 0)), none, 0⟩] false) (.ret))))
set_option maxRecDepth 100000 in
theorem c119u_ok : FunOK Try.prog 119 15 [.agg 2 3, .tmp 3] c119u := ⟨⟨Try.f119, Try.func119, rfl, by kernel_rfl, rfl, by kernel_rfl⟩⟩
theorem ref_TemplateLtlU (k a b c : Int) (h0 : tmplChk k a b c = 0) : PCall Try.prog 119 [dtempl k a b c] (told2 (tmplE k a b c) (formT k a b c)) := by
  refine pcall_intro c119u_ok (by simp) (by simp [PureL, pure_dtempl]) ?_ (pure_told2 _ _)
  unfold tmplE
  rw [if_pos h0]
  (apply red_sound; focus (repeat' (first | exact Red.skip | exact Red.ret | exact RedO.nil | exact RedD.nil | exact Red.exit _ | exact Red.loop _ | exact Red.stop _ | apply Red.ops | apply Red.draw | apply Red.seq | apply Red.cond | apply Red.block | apply RedO.cons | apply RedD.cons | exact (0 : Nat))))
  ((conv => whnf); repeat (refine And.intro rfl ?_; (conv => whnf)))
  (refine .inl ⟨_, (ref_formOf k a b c h0), ?_⟩; ((conv => whnf); repeat (refine And.intro rfl ?_; (conv => whnf))))
  (refine .inl ⟨_, (ref_Ltl _ (small_formT k a b c)), ?_⟩; ((conv => whnf); repeat (refine And.intro rfl ?_; (conv => whnf))))
  (refine ifK_split (fun h2 => ?_) (fun h2 => ?_) <;> (rw [h2]; ((conv => whnf); repeat (refine And.intro rfl ?_; (conv => whnf)))))
  · exact told2_bad (by ((try simp only [bne_iff_ne, ne_eq, bne_eq_false_iff_eq, beq_iff_eq, beq_eq_false_iff_ne, decide_eq_true_eq, decide_eq_false_iff_not, List.length_map, Bool.not_eq_true, Bool.not_eq_false, Bool.and_eq_true, Bool.or_eq_true, Bool.and_eq_false_iff, Bool.or_eq_false_iff, Bool.not_eq_true', Bool.not_eq_false', Bool.not_true, Bool.not_false, Bool.not_eq_eq_eq_not, not_true_eq_false, not_false_eq_true, reduceCtorEq, Bool.true_or, Bool.false_or, Bool.or_true, Bool.or_false, Bool.true_and, Bool.and_true, Bool.false_and, Bool.and_false, true_and, and_true, or_false, false_or, true_or, or_true, false_and, and_false, Bool.true_eq_false, Bool.false_eq_true] at *) <;> omega)) _
  · exact told2_same (by ((try simp only [bne_iff_ne, ne_eq, bne_eq_false_iff_eq, beq_iff_eq, beq_eq_false_iff_ne, decide_eq_true_eq, decide_eq_false_iff_not, List.length_map, Bool.not_eq_true, Bool.not_eq_false, Bool.and_eq_true, Bool.or_eq_true, Bool.and_eq_false_iff, Bool.or_eq_false_iff, Bool.not_eq_true', Bool.not_eq_false', Bool.not_true, Bool.not_false, Bool.not_eq_eq_eq_not, not_true_eq_false, not_false_eq_true, reduceCtorEq, Bool.true_or, Bool.false_or, Bool.or_true, Bool.or_false, Bool.true_and, Bool.and_true, Bool.false_and, Bool.and_false, true_and, and_true, or_false, false_or, true_or, or_true, false_and, and_false, Bool.true_eq_false, Bool.false_eq_true] at *) <;> omega)) (.refl _)
def c114u : PC := .seq (.ops [⟨(some 1), .box (.tmp 0), none, 0⟩,
    ⟨(some 2), .alloc [(.int .i64 0), (.int .i64 0), (.slice none 0 0)], none, 0⟩,
    ⟨(some 3), .move (.const (.int .i64 0)), none, 0⟩] false) (.seq (.seq (.ops [⟨(some 7), .loadA 7 (.tmp 1), none, 0⟩,
    ⟨(some 8), .call 82 [(.tmp 7)], none, 0⟩,
    ⟨(some 4), .move (.tmp 8), none, 0⟩] false) (.seq (.ops [⟨(some 9), .move (.tmp 4), none, 0⟩,
    ⟨(some 10), .bin .neq (.tmp 9) (.const (.int .i64 0)), none, 0⟩] false) (.cond (.tmp 10) (.seq (.ops [⟨(some 11), .build [(.int .i64 0), (.int .i64 0), (.slice none 0 0)] [], none, 0⟩,
    ⟨(some 12), .move (.tmp 4), none, 0⟩,
    ⟨none, .store 3 (.tmp 2) (.tmp 11), none, 0⟩,
    ⟨(some 3), .move (.tmp 12), none, 0⟩] false) (.ret)) (.skip)))) (.seq (.ops [⟨(some 13), .loadA 7 (.tmp 1), none, 0⟩,
    ⟨(some 14), .call 179 [(.tmp 13)], none, 0⟩,
    ⟨(some 5), .alloc [(.int .i64 0), (.int .i64 0), (.slice none 0 0)], none, 0⟩,
    ⟨none, .store 3 (.tmp 5) (.tmp 14), none, 0⟩] false) (.seq (.seq (.ops [⟨(some 15), .loadA 3 (.tmp 5), none, 0⟩,
    ⟨(some 16), .call 116 [(.tmp 15)], none, 0⟩,
    ⟨(some 6), .move (.tmp 16), none, 0⟩] false) (.seq (.ops [⟨(some 17), .move (.tmp 6), none, 0⟩,
    ⟨(some 18), .bin .neq (.tmp 17) (.const (.int .i64 0)), none, 0⟩] false) (.cond (.tmp 18) (.seq (.ops [⟨(some 19), .build [(.int .i64 0), (.int .i64 0), (.slice none 0 0)] [], none, 0⟩,
    ⟨(some 20), .move (.tmp 6), none, 0⟩,
    ⟨none, .store 3 (.tmp 2) (.tmp 19), none, 0⟩,
    ⟨(some 3), .move (.tmp 20), none, 0⟩] false) (.ret)) (.skip)))) (.seq (.ops [⟨(some 21), .loadA 3 (.tmp 5), none, 0⟩,
    ⟨none, .store 3 (.tmp 2) (.tmp 21), none, 0⟩,
    ⟨(some 3), .move (.const (.int .i64 0)), none, 0⟩] false) (.ret)))))
set_option maxRecDepth 100000 in
theorem c114u_ok : FunOK Try.prog 114 22 [.agg 2 3, .tmp 3] c114u := ⟨⟨Try.f114, Try.func114, rfl, by kernel_rfl, rfl, by kernel_rfl⟩⟩
theorem dwy_MakeU (x : Pat) : PCall Try.prog 114 [dpat x] (told2 (patE x) (scopeT x)) := by
  refine pcall_intro c114u_ok (by simp) (by simp [PureL, pure_dpat]) ?_ (pure_told2 _ _)
  unfold patE
  (apply red_sound; focus (repeat' (first | exact Red.skip | exact Red.ret | exact RedO.nil | exact RedD.nil | exact Red.exit _ | exact Red.loop _ | exact Red.stop _ | apply Red.ops | apply Red.draw | apply Red.seq | apply Red.cond | apply Red.block | apply RedO.cons | apply RedD.cons | exact (0 : Nat))))
  ((conv => whnf); repeat (refine And.intro rfl ?_; (conv => whnf)))
  (refine .inl ⟨_, (dwy_Check x), ?_⟩; ((conv => whnf); repeat (refine And.intro rfl ?_; (conv => whnf))))
  (refine ifK_split (fun h1 => ?_) (fun h1 => ?_) <;> (rw [h1]; ((conv => whnf); repeat (refine And.intro rfl ?_; (conv => whnf)))))
  · rw [if_neg (by ((try simp only [bne_iff_ne, ne_eq, bne_eq_false_iff_eq, beq_iff_eq, beq_eq_false_iff_ne, decide_eq_true_eq, decide_eq_false_iff_not, List.length_map, Bool.not_eq_true, Bool.not_eq_false, Bool.and_eq_true, Bool.or_eq_true, Bool.and_eq_false_iff, Bool.or_eq_false_iff, Bool.not_eq_true', Bool.not_eq_false', Bool.not_true, Bool.not_false, Bool.not_eq_eq_eq_not, not_true_eq_false, not_false_eq_true, reduceCtorEq, Bool.true_or, Bool.false_or, Bool.or_true, Bool.or_false, Bool.true_and, Bool.and_true, Bool.false_and, Bool.and_false, true_and, and_true, or_false, false_or, true_or, or_true, false_and, and_false, Bool.true_eq_false, Bool.false_eq_true] at *) <;> omega))]
    exact told2_bad (by ((try simp only [bne_iff_ne, ne_eq, bne_eq_false_iff_eq, beq_iff_eq, beq_eq_false_iff_ne, decide_eq_true_eq, decide_eq_false_iff_not, List.length_map, Bool.not_eq_true, Bool.not_eq_false, Bool.and_eq_true, Bool.or_eq_true, Bool.and_eq_false_iff, Bool.or_eq_false_iff, Bool.not_eq_true', Bool.not_eq_false', Bool.not_true, Bool.not_false, Bool.not_eq_eq_eq_not, not_true_eq_false, not_false_eq_true, reduceCtorEq, Bool.true_or, Bool.false_or, Bool.or_true, Bool.or_false, Bool.true_and, Bool.and_true, Bool.false_and, Bool.and_false, true_and, and_true, or_false, false_or, true_or, or_true, false_and, and_false, Bool.true_eq_false, Bool.false_eq_true] at *) <;> omega)) _
  · have h0 : patChk x = 0 := by ((try simp only [bne_iff_ne, ne_eq, bne_eq_false_iff_eq, beq_iff_eq, beq_eq_false_iff_ne, decide_eq_true_eq, decide_eq_false_iff_not, List.length_map, Bool.not_eq_true, Bool.not_eq_false, Bool.and_eq_true, Bool.or_eq_true, Bool.and_eq_false_iff, Bool.or_eq_false_iff, Bool.not_eq_true', Bool.not_eq_false', Bool.not_true, Bool.not_false, Bool.not_eq_eq_eq_not, not_true_eq_false, not_false_eq_true, reduceCtorEq, Bool.true_or, Bool.false_or, Bool.or_true, Bool.or_false, Bool.true_and, Bool.and_true, Bool.false_and, Bool.and_false, true_and, and_true, or_false, false_or, true_or, or_true, false_and, and_false, Bool.true_eq_false, Bool.false_eq_true] at *) <;> omega)
    rw [if_pos h0]
    (refine .inl ⟨_, (dwy_form x h0), ?_⟩; ((conv => whnf); repeat (refine And.intro rfl ?_; (conv => whnf))))
    (refine .inl ⟨_, (ltl_Check _ (small_scopeT x)), ?_⟩; ((conv => whnf); repeat (refine And.intro rfl ?_; (conv => whnf))))
    (refine ifK_split (fun h2 => ?_) (fun h2 => ?_) <;> (rw [h2]; ((conv => whnf); repeat (refine And.intro rfl ?_; (conv => whnf)))))
    · exact told2_bad (by ((try simp only [bne_iff_ne, ne_eq, bne_eq_false_iff_eq, beq_iff_eq, beq_eq_false_iff_ne, decide_eq_true_eq, decide_eq_false_iff_not, List.length_map, Bool.not_eq_true, Bool.not_eq_false, Bool.and_eq_true, Bool.or_eq_true, Bool.and_eq_false_iff, Bool.or_eq_false_iff, Bool.not_eq_true', Bool.not_eq_false', Bool.not_true, Bool.not_false, Bool.not_eq_eq_eq_not, not_true_eq_false, not_false_eq_true, reduceCtorEq, Bool.true_or, Bool.false_or, Bool.or_true, Bool.or_false, Bool.true_and, Bool.and_true, Bool.false_and, Bool.and_false, true_and, and_true, or_false, false_or, true_or, or_true, false_and, and_false, Bool.true_eq_false, Bool.false_eq_true] at *) <;> omega)) _
    · exact told2_same (by ((try simp only [bne_iff_ne, ne_eq, bne_eq_false_iff_eq, beq_iff_eq, beq_eq_false_iff_ne, decide_eq_true_eq, decide_eq_false_iff_not, List.length_map, Bool.not_eq_true, Bool.not_eq_false, Bool.and_eq_true, Bool.or_eq_true, Bool.and_eq_false_iff, Bool.or_eq_false_iff, Bool.not_eq_true', Bool.not_eq_false', Bool.not_true, Bool.not_false, Bool.not_eq_eq_eq_not, not_true_eq_false, not_false_eq_true, reduceCtorEq, Bool.true_or, Bool.false_or, Bool.or_true, Bool.or_false, Bool.true_and, Bool.and_true, Bool.false_and, Bool.and_false, true_and, and_true, or_false, false_or, true_or, or_true, false_and, and_false, Bool.true_eq_false, Bool.false_eq_true] at *) <;> omega)) (.refl _)
def c118u : PC := .seq (.ops [⟨(some 1), .box (.tmp 0), none, 0⟩,
    ⟨(some 2), .alloc [(.int .i64 0), (.int .i64 0), (.slice none 0 0)], none, 0⟩,
    ⟨(some 3), .move (.const (.int .i64 0)), none, 0⟩] false) (.seq (.ops [⟨(some 6), .loadA 7 (.tmp 1), none, 0⟩,
    ⟨(some 7), .call 182 [(.tmp 6)], none, 0⟩,
    ⟨(some 4), .alloc [(.int .i64 0), (.int .i64 0), (.slice none 0 0)], none, 0⟩,
    ⟨none, .store 3 (.tmp 4) (.tmp 7), none, 0⟩] false) (.seq (.seq (.ops [⟨(some 8), .loadA 3 (.tmp 4), none, 0⟩,
    ⟨(some 9), .call 120 [(.tmp 8)], none, 0⟩,
    ⟨(some 5), .move (.tmp 9), none, 0⟩] false) (.seq (.ops [⟨(some 10), .move (.tmp 5), none, 0⟩,
    ⟨(some 11), .bin .neq (.tmp 10) (.const (.int .i64 0)), none, 0⟩] false) (.cond (.tmp 11) (.seq (.ops [⟨(some 12), .build [(.int .i64 0), (.int .i64 0), (.slice none 0 0)] [], none, 0⟩,
    ⟨(some 13), .move (.tmp 5), none, 0⟩,
    ⟨none, .store 3 (.tmp 2) (.tmp 12), none, 0⟩,
    ⟨(some 3), .move (.tmp 13), none, 0⟩] false) (.ret)) (.skip)))) (.seq (.ops [⟨(some 14), .loadA 3 (.tmp 4), none, 0⟩,
    ⟨none, .store 3 (.tmp 2) (.tmp 14), none, 0⟩,
    ⟨(some 3), .move (.const (.int .i64 0)), none, 0⟩] false) (.ret))))
set_option maxRecDepth 100000 in
theorem c118u_ok : FunOK Try.prog 118 15 [.agg 2 3, .tmp 3] c118u := ⟨⟨Try.f118, Try.func118, rfl, by kernel_rfl, rfl, by kernel_rfl⟩⟩
theorem ref_PatternLtlU (x : Pat) (h0 : patChk x = 0) : PCall Try.prog 118 [dpat x] (told2 (patE x) (scopeT x)) := by
  refine pcall_intro c118u_ok (by simp) (by simp [PureL, pure_dpat]) ?_ (pure_told2 _ _)
  unfold patE
  rw [if_pos h0]
  (apply red_sound; focus (repeat' (first | exact Red.skip | exact Red.ret | exact RedO.nil | exact RedD.nil | exact Red.exit _ | exact Red.loop _ | exact Red.stop _ | apply Red.ops | apply Red.draw | apply Red.seq | apply Red.cond | apply Red.block | apply RedO.cons | apply RedD.cons | exact (0 : Nat))))
  ((conv => whnf); repeat (refine And.intro rfl ?_; (conv => whnf)))
  (refine .inl ⟨_, (ref_scoped x h0), ?_⟩; ((conv => whnf); repeat (refine And.intro rfl ?_; (conv => whnf))))
  (refine .inl ⟨_, (ref_Ltl _ (small_scopeT x)), ?_⟩; ((conv => whnf); repeat (refine And.intro rfl ?_; (conv => whnf))))
  (refine ifK_split (fun h2 => ?_) (fun h2 => ?_) <;> (rw [h2]; ((conv => whnf); repeat (refine And.intro rfl ?_; (conv => whnf)))))
  · exact told2_bad (by ((try simp only [bne_iff_ne, ne_eq, bne_eq_false_iff_eq, beq_iff_eq, beq_eq_false_iff_ne, decide_eq_true_eq, decide_eq_false_iff_not, List.length_map, Bool.not_eq_true, Bool.not_eq_false, Bool.and_eq_true, Bool.or_eq_true, Bool.and_eq_false_iff, Bool.or_eq_false_iff, Bool.not_eq_true', Bool.not_eq_false', Bool.not_true, Bool.not_false, Bool.not_eq_eq_eq_not, not_true_eq_false, not_false_eq_true, reduceCtorEq, Bool.true_or, Bool.false_or, Bool.or_true, Bool.or_false, Bool.true_and, Bool.and_true, Bool.false_and, Bool.and_false, true_and, and_true, or_false, false_or, true_or, or_true, false_and, and_false, Bool.true_eq_false, Bool.false_eq_true] at *) <;> omega)) _
  · exact told2_same (by ((try simp only [bne_iff_ne, ne_eq, bne_eq_false_iff_eq, beq_iff_eq, beq_eq_false_iff_ne, decide_eq_true_eq, decide_eq_false_iff_not, List.length_map, Bool.not_eq_true, Bool.not_eq_false, Bool.and_eq_true, Bool.or_eq_true, Bool.and_eq_false_iff, Bool.or_eq_false_iff, Bool.not_eq_true', Bool.not_eq_false', Bool.not_true, Bool.not_false, Bool.not_eq_eq_eq_not, not_true_eq_false, not_false_eq_true, reduceCtorEq, Bool.true_or, Bool.false_or, Bool.or_true, Bool.or_false, Bool.true_and, Bool.and_true, Bool.false_and, Bool.and_false, true_and, and_true, or_false, false_or, true_or, or_true, false_and, and_false, Bool.true_eq_false, Bool.false_eq_true] at *) <;> omega)) (.refl _)
@[simp] theorem underL_map1 {m : Nat} (l : List Tree) : UnderLL m (l.map dcells) ↔ True := ⟨fun _ => trivial, fun _ => underLL_pure _ (pureLL_map _ pure_dcells _)⟩
theorem kids_snoc {t : Tree} {k : Nat} (hk : k < t.width) : List.drop 0 (List.take k ((t.kids.take k).map dcells)) ++ [drow (t.kid k)] = (t.kids.take (k + 1)).map dcells := by
  have := take_snoc dcells (kid_get? hk)
  rwa [dcells_eq] at this
def c117_1 : PC := .seq (.ops [⟨(some 15), .bin .lss (.tmp 14) (.tmp 13), none, 0⟩] false) (.seq (.cond (.tmp 15) (.skip) (.exit 0)) (.seq (.block 1 (.seq (.ops [⟨(some 16), .iaddr 3 (.tmp 12) (.tmp 14), none, 0⟩,
    ⟨(some 17), .loadA 3 (.tmp 16), none, 0⟩,
    ⟨(some 5), .alloc [(.int .i64 0), (.int .i64 0), (.slice none 0 0)], none, 0⟩,
    ⟨none, .store 3 (.tmp 5) (.tmp 17), none, 0⟩] false) (.ops [⟨(some 18), .faddr 2 (.tmp 3), none, 0⟩,
    ⟨(some 19), .load1 (.tmp 18), none, 1⟩,
    ⟨(some 20), .loadA 3 (.tmp 5), none, 0⟩,
    ⟨(some 21), .call 117 [(.tmp 20)], none, 4⟩,
    ⟨(some 22), .bslice 3 1 [(.tmp 21)], none, 12⟩,
    ⟨(some 23), .append 3 40 (.tmp 19) (.tmp 22), none, 31⟩,
    ⟨(some 24), .faddr 2 (.tmp 3), none, 63⟩,
    ⟨none, .store 1 (.tmp 24) (.tmp 23), none, 127⟩] true))) (.ops [⟨(some 25), .bin .add (.tmp 14) (.const (.int .i64 1)), none, 0⟩,
    ⟨(some 14), .move (.tmp 25), none, 0⟩] false)))
def c117 : PC := .seq (.ops [⟨(some 1), .box (.tmp 0), none, 0⟩,
    ⟨(some 2), .alloc [(.int .i64 0), (.int .i64 0), (.slice none 0 0)], none, 0⟩] false) (.seq (.ops [⟨(some 6), .faddr 0 (.tmp 1), none, 0⟩,
    ⟨(some 7), .load1 (.tmp 6), none, 0⟩,
    ⟨(some 8), .faddr 1 (.tmp 1), none, 0⟩,
    ⟨(some 9), .load1 (.tmp 8), none, 0⟩,
    ⟨(some 10), .build [(.int .i64 0), (.int .i64 0), (.slice none 0 0)] [(0, 1, (.tmp 7)), (1, 1, (.tmp 9))], none, 0⟩,
    ⟨(some 3), .alloc [(.int .i64 0), (.int .i64 0), (.slice none 0 0)], none, 0⟩,
    ⟨none, .store 3 (.tmp 3) (.tmp 10), none, 0⟩] false) (.seq (.seq (.ops [⟨(some 11), .faddr 2 (.tmp 1), none, 0⟩,
    ⟨(some 12), .load1 (.tmp 11), none, 0⟩,
    ⟨(some 13), .len (.tmp 12), none, 0⟩,
    ⟨(some 14), .move (.const (.int .i64 0)), none, 0⟩] false) (.block 0 (.loop c117_1))) (.seq (.ops [⟨(some 26), .loadA 3 (.tmp 3), none, 0⟩,
    ⟨none, .store 3 (.tmp 2) (.tmp 26), none, 0⟩] false) (.ret))))
set_option maxRecDepth 100000 in
theorem c117_ok : FunOK Try.prog 117 27 [.agg 2 3] c117 := ⟨⟨Try.f117, Try.func117, rfl, by kernel_rfl, rfl, by kernel_rfl⟩⟩
theorem rule_copyOf : ∀ t : Tree, t.wf lKids → PCall Try.prog 117 [dtree t] (dtree t) := by
  intro t
  induction t using Tree.ind with
  | h t ih =>
    intro hwf
    have hs := wf_small t hwf
    have hsz := hs.width
    have har := node_arity ((wf_iff _ _).1 hwf).1
    refine pcall_intro c117_ok (by simp) (by simp [PureL, pure_dtree]) ?_ (pure_dtree _)
    (apply red_sound; focus (repeat' (first | exact Red.skip | exact Red.ret | exact RedO.nil | exact RedD.nil | exact Red.exit _ | exact Red.loop _ | exact Red.stop _ | apply Red.ops | apply Red.draw | apply Red.seq | apply Red.cond | apply Red.block | apply RedO.cons | apply RedD.cons | exact (0 : Nat))))
    ((conv => whnf); repeat (refine And.intro rfl ?_; (conv => whnf)))
    rw [List.length_map]
    refine pwp_ghostB (leB_nilc 2 2 3 (by simp) rfl rfl) ?_
    refine pwp_for [2, 3, 12, 13] (fun k : Nat => [(14, .sc (.int .i64 k))]) (fun k => [(2, .row true [.sc (.int .i64 t.kind), .sc (.int .i64 t.num), .own 3 k 0 k]), (3, .vec true k 3 ((t.kids.take k).map dcells))]) (fun k => k ≤ t.width) (fun k => t.width - k) 0 ?_
    ((conv => whnf); repeat (refine And.intro rfl ?_; (conv => whnf)))
    refine ⟨by omega, by (repeat' (first | exact trivial | refine And.intro rfl ?_)), rfl, ?_⟩
    rintro k hk
    ((conv => whnf); repeat (refine And.intro rfl ?_; (conv => whnf)))
    (apply red_sound; focus (repeat' (first | exact Red.skip | exact Red.ret | exact RedO.nil | exact RedD.nil | exact Red.exit _ | exact Red.loop _ | exact Red.stop _ | apply Red.ops | apply Red.draw | apply Red.seq | apply Red.cond | apply Red.block | apply RedO.cons | apply RedD.cons | exact (0 : Nat))))
    ((conv => whnf); repeat (refine And.intro rfl ?_; (conv => whnf)))
    (refine ifK_split (fun h1 => ?_) (fun h1 => ?_) <;> (rw [h1]; ((conv => whnf); repeat (refine And.intro rfl ?_; (conv => whnf)))))
    · have hk' : k < t.width := by simpa [Tree.width] using h1
      refine ⟨by omega, _, kid_at hk', ?_⟩
      ((conv => whnf); repeat (refine And.intro rfl ?_; (conv => whnf)))
      (refine .inl ⟨_, (ih k hk' (wf_kid hwf hk')), ?_⟩; ((conv => whnf); repeat (refine And.intro rfl ?_; (conv => whnf))))
      refine ⟨(by unfold sliceAppend; simp only [List.length_map, List.length_cons, List.length_nil, List.length_append, List.length_take, List.length_drop, List.drop_zero, List.take_succ_cons, List.take_zero]; omega), ?_⟩
      ((conv => whnf); repeat (refine And.intro rfl ?_; (conv => whnf)))
      (refine .inl ⟨by (unfold InR; rw [IntKind.wrap_i64]; omega), ?_⟩; ((conv => whnf); repeat (refine And.intro rfl ?_; (conv => whnf))))
      refine ⟨k + 1, by omega, by dsimp only; omega, ?_⟩
      (refine leB_close 4 (by simp) rfl ?_ ?_ <;> (repeat' (first | exact trivial | exact rfl | exact DeepM.refl _ | exact DeepML.refl _ | exact DeepMLL.refl _ | refine And.intro ?_ ?_ | (simp [Under, UnderL, UnderLL, -List.map_take, -List.map_drop]; done))))
      exact deepMLL_eq (kids_snoc hk')
    · have hk' : k = t.width := by have : ¬ k < t.width := by simpa [Tree.width] using h1
                                   omega
      subst hk'
      refine .agg _ _ (.cons _ _ _ _ (.refl _) (.cons _ _ _ _ (.refl _) (.cons _ _ _ _ (.own _ _ _ _ _ _ _ _ rfl ?_) .nil)))
      rw [drop_take_all (by simp [Tree.width]), Tree.width, List.take_length]
      exact deepLL_refl _
end Go.Proofs.Ytcgjbhnljjlffaa
