/-
  watchlaw.RuleMakes returns true for every rule, and the argument reads afterwards as it read before. No conditions.
-/
import Derived.Test.YtcgjbhnljjlffaaDC
import Derived.Test.YtcgjbhnljjlffaaAt
import Derived.Test.YtcgjbhnljjlffaaRm
import Derived.Test.YtcgjbhnljjlffaaRows
namespace Go.Proofs.Ytcgjbhnljjlffaa
open Go.RowKit Go.ChangeShapes Go.WideShapes Go.ChangeAt
set_option linter.unusedSimpArgs false
set_option linter.unusedVariables false
def c42 : PC := .seq (.ops [⟨(some 1), .box (.tmp 0), none, 0⟩,
    ⟨(some 2), .alloc [(.int .i64 0), (.int .i64 0), (.slice none 0 0)], none, 0⟩,
    ⟨(some 3), .move (.const (.int .i64 0)), none, 0⟩] false) (.seq (.seq (.ops [⟨(some 5), .faddr 1 (.tmp 1), none, 0⟩,
    ⟨(some 6), .load1 (.tmp 5), none, 0⟩] false) (.block 0 (.seq (.ops [⟨(some 8), .bin .eql (.tmp 6) (.const (.int .i64 1)), none, 0⟩,
    ⟨(some 7), .move (.tmp 8), none, 0⟩] false) (.cond (.tmp 7) (.seq (.ops [⟨(some 9), .faddr 2 (.tmp 1), none, 0⟩,
    ⟨(some 10), .loadA 7 (.tmp 9), none, 0⟩,
    ⟨(some 11), .call 114 [(.tmp 10)], none, 0⟩,
    ⟨(some 12), .ext 0 (.tmp 11), none, 0⟩,
    ⟨(some 13), .ext 1 (.tmp 11), none, 0⟩,
    ⟨none, .store 3 (.tmp 2) (.tmp 12), none, 0⟩,
    ⟨(some 3), .move (.tmp 13), none, 0⟩] false) (.ret)) (.seq (.ops [⟨(some 15), .bin .eql (.tmp 6) (.const (.int .i64 2)), none, 0⟩,
    ⟨(some 14), .move (.tmp 15), none, 0⟩] false) (.cond (.tmp 14) (.seq (.ops [⟨(some 16), .faddr 9 (.tmp 1), none, 0⟩,
    ⟨(some 17), .loadA 4 (.tmp 16), none, 0⟩,
    ⟨(some 18), .call 115 [(.tmp 17)], none, 0⟩,
    ⟨(some 19), .ext 0 (.tmp 18), none, 0⟩,
    ⟨(some 20), .ext 1 (.tmp 18), none, 0⟩,
    ⟨none, .store 3 (.tmp 2) (.tmp 19), none, 0⟩,
    ⟨(some 3), .move (.tmp 20), none, 0⟩] false) (.ret)) (.seq (.ops [⟨(some 22), .bin .eql (.tmp 6) (.const (.int .i64 3)), none, 0⟩,
    ⟨(some 21), .move (.tmp 22), none, 0⟩] false) (.cond (.tmp 21) (.seq (.seq (.ops [⟨(some 23), .faddr 13 (.tmp 1), none, 0⟩,
    ⟨(some 24), .loadA 3 (.tmp 23), none, 0⟩,
    ⟨(some 25), .call 116 [(.tmp 24)], none, 0⟩,
    ⟨(some 4), .move (.tmp 25), none, 0⟩] false) (.seq (.ops [⟨(some 26), .move (.tmp 4), none, 0⟩,
    ⟨(some 27), .bin .neq (.tmp 26) (.const (.int .i64 0)), none, 0⟩] false) (.cond (.tmp 27) (.seq (.ops [⟨(some 28), .build [(.int .i64 0), (.int .i64 0), (.slice none 0 0)] [], none, 0⟩,
    ⟨(some 29), .move (.tmp 4), none, 0⟩,
    ⟨none, .store 3 (.tmp 2) (.tmp 28), none, 0⟩,
    ⟨(some 3), .move (.tmp 29), none, 0⟩] false) (.ret)) (.skip)))) (.seq (.ops [⟨(some 30), .faddr 13 (.tmp 1), none, 0⟩,
    ⟨(some 31), .loadA 3 (.tmp 30), none, 0⟩,
    ⟨(some 32), .call 117 [(.tmp 31)], none, 0⟩,
    ⟨none, .store 3 (.tmp 2) (.tmp 32), none, 0⟩,
    ⟨(some 3), .move (.const (.int .i64 0)), none, 0⟩] false) (.ret))) (.skip))))))))) (.seq (.ops [⟨(some 33), .build [(.int .i64 0), (.int .i64 0), (.slice none 0 0)] [], none, 0⟩,
    ⟨none, .store 3 (.tmp 2) (.tmp 33), none, 0⟩,
    ⟨(some 3), .move (.const (.int .i64 1)), none, 0⟩] false) (.ret)))
set_option maxRecDepth 100000 in
theorem c42_ok : FunOK Try.prog 42 34 [.agg 2 3, .tmp 3] c42 := ⟨⟨Try.f42, Try.func42, rfl, by kernel_rfl, rfl, by kernel_rfl⟩⟩
def c43 : PC := .seq (.ops [⟨(some 1), .box (.tmp 0), none, 0⟩,
    ⟨(some 2), .alloc [(.int .i64 0), (.int .i64 0), (.slice none 0 0)], none, 0⟩,
    ⟨(some 3), .move (.const (.int .i64 0)), none, 0⟩] false) (.seq (.ops [⟨(some 4), .move (.const (.int .i64 1)), none, 0⟩] false) (.seq (.seq (.ops [⟨(some 5), .faddr 1 (.tmp 1), none, 0⟩,
    ⟨(some 6), .load1 (.tmp 5), none, 0⟩] false) (.block 0 (.seq (.ops [⟨(some 8), .bin .eql (.tmp 6) (.const (.int .i64 1)), none, 0⟩,
    ⟨(some 7), .move (.tmp 8), none, 0⟩] false) (.cond (.tmp 7) (.seq (.ops [⟨(some 9), .faddr 2 (.tmp 1), none, 0⟩,
    ⟨(some 10), .loadA 7 (.tmp 9), none, 0⟩,
    ⟨(some 11), .call 22 [(.tmp 10)], none, 0⟩,
    ⟨(some 4), .move (.tmp 11), none, 0⟩] false) (.seq (.ops [⟨(some 12), .move (.tmp 4), none, 0⟩,
    ⟨(some 13), .bin .eql (.tmp 12) (.const (.int .i64 0)), none, 0⟩] false) (.cond (.tmp 13) (.seq (.ops [⟨(some 14), .faddr 2 (.tmp 1), none, 0⟩,
    ⟨(some 15), .loadA 7 (.tmp 14), none, 0⟩,
    ⟨(some 16), .call 118 [(.tmp 15)], none, 0⟩,
    ⟨(some 17), .ext 0 (.tmp 16), none, 0⟩,
    ⟨(some 18), .ext 1 (.tmp 16), none, 0⟩,
    ⟨none, .store 3 (.tmp 2) (.tmp 17), none, 0⟩,
    ⟨(some 3), .move (.tmp 18), none, 0⟩] false) (.ret)) (.skip)))) (.seq (.ops [⟨(some 20), .bin .eql (.tmp 6) (.const (.int .i64 2)), none, 0⟩,
    ⟨(some 19), .move (.tmp 20), none, 0⟩] false) (.cond (.tmp 19) (.seq (.ops [⟨(some 21), .faddr 9 (.tmp 1), none, 0⟩,
    ⟨(some 22), .loadA 4 (.tmp 21), none, 0⟩,
    ⟨(some 23), .call 34 [(.tmp 22)], none, 0⟩,
    ⟨(some 4), .move (.tmp 23), none, 0⟩] false) (.seq (.ops [⟨(some 24), .move (.tmp 4), none, 0⟩,
    ⟨(some 25), .bin .eql (.tmp 24) (.const (.int .i64 0)), none, 0⟩] false) (.cond (.tmp 25) (.seq (.ops [⟨(some 26), .faddr 9 (.tmp 1), none, 0⟩,
    ⟨(some 27), .loadA 4 (.tmp 26), none, 0⟩,
    ⟨(some 28), .call 119 [(.tmp 27)], none, 0⟩,
    ⟨(some 29), .ext 0 (.tmp 28), none, 0⟩,
    ⟨(some 30), .ext 1 (.tmp 28), none, 0⟩,
    ⟨none, .store 3 (.tmp 2) (.tmp 29), none, 0⟩,
    ⟨(some 3), .move (.tmp 30), none, 0⟩] false) (.ret)) (.skip)))) (.seq (.ops [⟨(some 32), .bin .eql (.tmp 6) (.const (.int .i64 3)), none, 0⟩,
    ⟨(some 31), .move (.tmp 32), none, 0⟩] false) (.cond (.tmp 31) (.seq (.ops [⟨(some 33), .faddr 13 (.tmp 1), none, 0⟩,
    ⟨(some 34), .loadA 3 (.tmp 33), none, 0⟩,
    ⟨(some 35), .call 120 [(.tmp 34)], none, 0⟩,
    ⟨(some 4), .move (.tmp 35), none, 0⟩] false) (.seq (.ops [⟨(some 36), .move (.tmp 4), none, 0⟩,
    ⟨(some 37), .bin .eql (.tmp 36) (.const (.int .i64 0)), none, 0⟩] false) (.cond (.tmp 37) (.seq (.ops [⟨(some 38), .faddr 13 (.tmp 1), none, 0⟩,
    ⟨(some 39), .loadA 3 (.tmp 38), none, 0⟩,
    ⟨none, .store 3 (.tmp 2) (.tmp 39), none, 0⟩,
    ⟨(some 3), .move (.const (.int .i64 0)), none, 0⟩] false) (.ret)) (.skip)))) (.skip))))))))) (.seq (.ops [⟨(some 40), .build [(.int .i64 0), (.int .i64 0), (.slice none 0 0)] [], none, 0⟩,
    ⟨(some 41), .move (.tmp 4), none, 0⟩,
    ⟨none, .store 3 (.tmp 2) (.tmp 40), none, 0⟩,
    ⟨(some 3), .move (.tmp 41), none, 0⟩] false) (.ret))))
set_option maxRecDepth 100000 in
theorem c43_ok : FunOK Try.prog 43 42 [.agg 2 3, .tmp 3] c43 := ⟨⟨Try.f43, Try.func43, rfl, by kernel_rfl, rfl, by kernel_rfl⟩⟩
def c9 : PC := .seq (.ops [⟨(some 1), .box (.tmp 0), none, 0⟩,
    ⟨(some 2), .move (.const (.bool false)), none, 0⟩] false) (.seq (.ops [⟨(some 8), .loadA 19 (.tmp 1), none, 0⟩,
    ⟨(some 9), .call 42 [(.tmp 8)], none, 0⟩,
    ⟨(some 7), .move (.tmp 9), none, 0⟩,
    ⟨(some 10), .ext 0 (.tmp 7), none, 0⟩,
    ⟨(some 11), .ext 1 (.tmp 7), none, 0⟩,
    ⟨(some 3), .alloc [(.int .i64 0), (.int .i64 0), (.slice none 0 0)], none, 0⟩,
    ⟨none, .store 3 (.tmp 3) (.tmp 10), none, 0⟩,
    ⟨(some 4), .move (.tmp 11), none, 0⟩] false) (.seq (.ops [⟨(some 13), .loadA 19 (.tmp 1), none, 0⟩,
    ⟨(some 14), .call 43 [(.tmp 13)], none, 0⟩,
    ⟨(some 12), .move (.tmp 14), none, 0⟩,
    ⟨(some 15), .ext 0 (.tmp 12), none, 0⟩,
    ⟨(some 16), .ext 1 (.tmp 12), none, 0⟩,
    ⟨(some 5), .alloc [(.int .i64 0), (.int .i64 0), (.slice none 0 0)], none, 0⟩,
    ⟨none, .store 3 (.tmp 5) (.tmp 15), none, 0⟩,
    ⟨(some 6), .move (.tmp 16), none, 0⟩] false) (.seq (.ops [⟨(some 17), .loadA 3 (.tmp 3), none, 0⟩,
    ⟨(some 18), .loadA 3 (.tmp 5), none, 0⟩,
    ⟨(some 19), .call 44 [(.tmp 17), (.tmp 18)], none, 0⟩,
    ⟨(some 20), .move (.tmp 19), none, 0⟩,
    ⟨(some 21), .move (.tmp 4), (some (20, true)), 0⟩,
    ⟨(some 22), .move (.tmp 6), (some (20, true)), 0⟩,
    ⟨(some 23), .bin .eql (.tmp 21) (.tmp 22), (some (20, true)), 0⟩,
    ⟨(some 24), .pick (.tmp 20) (.tmp 23) (.const (.bool false)), none, 0⟩,
    ⟨(some 2), .move (.tmp 24), none, 0⟩] false) (.ret))))
set_option maxRecDepth 100000 in
theorem c9_ok : FunOK Try.prog 9 25 [.tmp 2] c9 := ⟨⟨Try.f9, Try.func9, rfl, by kernel_rfl, rfl, by kernel_rfl⟩⟩
def rcells (name : ByteArray) (sort : Int) (x : Pat) (k a b c : Int) (f g : Tree) : List D := .sc (.string name) :: .sc (.int .i64 sort) :: (patCells x ++ (dtcells k a b c ++ (drow f ++ drow g)))
def drule (name : ByteArray) (sort : Int) (x : Pat) (k a b c : Int) (f g : Tree) : D := .agg (rcells name sort x k a b c f g)
theorem pureL_app {a b : List D} (h : PureL a) (k : PureL b) : PureL (a ++ b) := by
  induction a with
  | nil => exact k
  | cons d r ih => exact ⟨h.1, ih h.2⟩
theorem pure_drule (name : ByteArray) (sort : Int) (x : Pat) (k a b c : Int) (f g : Tree) : Pure (drule name sort x k a b c f g) := by
  simp only [drule, Pure, rcells, PureL, true_and]
  exact pureL_app (by simp [patCells, PureL, Pure]) (pureL_app (by simp [dtcells, PureL, Pure]) (pureL_app (pure_drow f) (pure_drow g)))
noncomputable def ruleE (sort : Int) (x : Pat) (k a b c : Int) (f : Tree) : Int := if sort = 1 then patE x else if sort = 2 then tmplE k a b c else if sort = 3 then chk lKids f else 1
noncomputable def ruleT (sort : Int) (x : Pat) (k a b c : Int) (f : Tree) : Tree := if sort = 1 then scopeT x else if sort = 2 then formT k a b c else f
theorem rule_Formula (name : ByteArray) (sort : Int) (x : Pat) (k a b c : Int) (f g : Tree) (hf : Small f) :
    PCall Try.prog 42 [drule name sort x k a b c f g] (told2 (ruleE sort x k a b c f) (ruleT sort x k a b c f)) := by
  refine pcall_intro c42_ok (by simp) (by simp [PureL, pure_drule]) ?_ (pure_told2 _ _)
  (apply red_sound; focus (repeat' (first | exact Red.skip | exact Red.ret | exact RedO.nil | exact RedD.nil | exact Red.exit _ | exact Red.loop _ | exact Red.stop _ | apply Red.ops | apply Red.draw | apply Red.seq | apply Red.cond | apply Red.block | apply RedO.cons | apply RedD.cons | exact (0 : Nat))))
  ((conv => whnf); repeat (refine And.intro rfl ?_; (conv => whnf)))
  (refine ifK_split (fun h1 => ?_) (fun h1 => ?_) <;> (rw [h1]; ((conv => whnf); repeat (refine And.intro rfl ?_; (conv => whnf)))))
  · have h1 : sort = 1 := by ((try simp only [bne_iff_ne, ne_eq, bne_eq_false_iff_eq, beq_iff_eq, beq_eq_false_iff_ne, decide_eq_true_eq, decide_eq_false_iff_not, List.length_map, Bool.not_eq_true, Bool.not_eq_false, Bool.and_eq_true, Bool.or_eq_true, Bool.and_eq_false_iff, Bool.or_eq_false_iff, Bool.not_eq_true', Bool.not_eq_false', Bool.not_true, Bool.not_false, Bool.not_eq_eq_eq_not, not_true_eq_false, not_false_eq_true, reduceCtorEq, Bool.true_or, Bool.false_or, Bool.or_true, Bool.or_false, Bool.true_and, Bool.and_true, Bool.false_and, Bool.and_false, true_and, and_true, or_false, false_or, true_or, or_true, false_and, and_false, Bool.true_eq_false, Bool.false_eq_true] at *) <;> omega)
    have e : ruleE sort x k a b c f = patE x := by simp [ruleE, h1]
    have t : ruleT sort x k a b c f = scopeT x := by simp [ruleT, h1]
    rw [e, t]
    (refine .inl ⟨_, (dwy_MakeU x), ?_⟩; ((conv => whnf); repeat (refine And.intro rfl ?_; (conv => whnf))))
    exact .refl _
  have h1 : sort ≠ 1 := by ((try simp only [bne_iff_ne, ne_eq, bne_eq_false_iff_eq, beq_iff_eq, beq_eq_false_iff_ne, decide_eq_true_eq, decide_eq_false_iff_not, List.length_map, Bool.not_eq_true, Bool.not_eq_false, Bool.and_eq_true, Bool.or_eq_true, Bool.and_eq_false_iff, Bool.or_eq_false_iff, Bool.not_eq_true', Bool.not_eq_false', Bool.not_true, Bool.not_false, Bool.not_eq_eq_eq_not, not_true_eq_false, not_false_eq_true, reduceCtorEq, Bool.true_or, Bool.false_or, Bool.or_true, Bool.or_false, Bool.true_and, Bool.and_true, Bool.false_and, Bool.and_false, true_and, and_true, or_false, false_or, true_or, or_true, false_and, and_false, Bool.true_eq_false, Bool.false_eq_true] at *) <;> omega)
  (refine ifK_split (fun h2 => ?_) (fun h2 => ?_) <;> (rw [h2]; ((conv => whnf); repeat (refine And.intro rfl ?_; (conv => whnf)))))
  · have h2 : sort = 2 := by ((try simp only [bne_iff_ne, ne_eq, bne_eq_false_iff_eq, beq_iff_eq, beq_eq_false_iff_ne, decide_eq_true_eq, decide_eq_false_iff_not, List.length_map, Bool.not_eq_true, Bool.not_eq_false, Bool.and_eq_true, Bool.or_eq_true, Bool.and_eq_false_iff, Bool.or_eq_false_iff, Bool.not_eq_true', Bool.not_eq_false', Bool.not_true, Bool.not_false, Bool.not_eq_eq_eq_not, not_true_eq_false, not_false_eq_true, reduceCtorEq, Bool.true_or, Bool.false_or, Bool.or_true, Bool.or_false, Bool.true_and, Bool.and_true, Bool.false_and, Bool.and_false, true_and, and_true, or_false, false_or, true_or, or_true, false_and, and_false, Bool.true_eq_false, Bool.false_eq_true] at *) <;> omega)
    have e : ruleE sort x k a b c f = tmplE k a b c := by simp [ruleE, h2]
    have t : ruleT sort x k a b c f = formT k a b c := by simp [ruleT, h2]
    rw [e, t]
    (refine .inl ⟨_, (dec_MakeU k a b c), ?_⟩; ((conv => whnf); repeat (refine And.intro rfl ?_; (conv => whnf))))
    exact .refl _
  have h2 : sort ≠ 2 := by ((try simp only [bne_iff_ne, ne_eq, bne_eq_false_iff_eq, beq_iff_eq, beq_eq_false_iff_ne, decide_eq_true_eq, decide_eq_false_iff_not, List.length_map, Bool.not_eq_true, Bool.not_eq_false, Bool.and_eq_true, Bool.or_eq_true, Bool.and_eq_false_iff, Bool.or_eq_false_iff, Bool.not_eq_true', Bool.not_eq_false', Bool.not_true, Bool.not_false, Bool.not_eq_eq_eq_not, not_true_eq_false, not_false_eq_true, reduceCtorEq, Bool.true_or, Bool.false_or, Bool.or_true, Bool.or_false, Bool.true_and, Bool.and_true, Bool.false_and, Bool.and_false, true_and, and_true, or_false, false_or, true_or, or_true, false_and, and_false, Bool.true_eq_false, Bool.false_eq_true] at *) <;> omega)
  (refine ifK_split (fun h3 => ?_) (fun h3 => ?_) <;> (rw [h3]; ((conv => whnf); repeat (refine And.intro rfl ?_; (conv => whnf)))))
  · have h3 : sort = 3 := by ((try simp only [bne_iff_ne, ne_eq, bne_eq_false_iff_eq, beq_iff_eq, beq_eq_false_iff_ne, decide_eq_true_eq, decide_eq_false_iff_not, List.length_map, Bool.not_eq_true, Bool.not_eq_false, Bool.and_eq_true, Bool.or_eq_true, Bool.and_eq_false_iff, Bool.or_eq_false_iff, Bool.not_eq_true', Bool.not_eq_false', Bool.not_true, Bool.not_false, Bool.not_eq_eq_eq_not, not_true_eq_false, not_false_eq_true, reduceCtorEq, Bool.true_or, Bool.false_or, Bool.or_true, Bool.or_false, Bool.true_and, Bool.and_true, Bool.false_and, Bool.and_false, true_and, and_true, or_false, false_or, true_or, or_true, false_and, and_false, Bool.true_eq_false, Bool.false_eq_true] at *) <;> omega)
    (refine .inl ⟨_, (ltl_Check f hf), ?_⟩; ((conv => whnf); repeat (refine And.intro rfl ?_; (conv => whnf))))
    have e : ruleE sort x k a b c f = chk lKids f := by simp [ruleE, h1, h2, h3]
    have t : ruleT sort x k a b c f = f := by simp [ruleT, h1, h2]
    rw [e, t]
    (refine ifK_split (fun h4 => ?_) (fun h4 => ?_) <;> (rw [h4]; ((conv => whnf); repeat (refine And.intro rfl ?_; (conv => whnf)))))
    · exact told2_bad (by ((try simp only [bne_iff_ne, ne_eq, bne_eq_false_iff_eq, beq_iff_eq, beq_eq_false_iff_ne, decide_eq_true_eq, decide_eq_false_iff_not, List.length_map, Bool.not_eq_true, Bool.not_eq_false, Bool.and_eq_true, Bool.or_eq_true, Bool.and_eq_false_iff, Bool.or_eq_false_iff, Bool.not_eq_true', Bool.not_eq_false', Bool.not_true, Bool.not_false, Bool.not_eq_eq_eq_not, not_true_eq_false, not_false_eq_true, reduceCtorEq, Bool.true_or, Bool.false_or, Bool.or_true, Bool.or_false, Bool.true_and, Bool.and_true, Bool.false_and, Bool.and_false, true_and, and_true, or_false, false_or, true_or, or_true, false_and, and_false, Bool.true_eq_false, Bool.false_eq_true] at *) <;> omega)) _
    · have h4 : chk lKids f = 0 := by ((try simp only [bne_iff_ne, ne_eq, bne_eq_false_iff_eq, beq_iff_eq, beq_eq_false_iff_ne, decide_eq_true_eq, decide_eq_false_iff_not, List.length_map, Bool.not_eq_true, Bool.not_eq_false, Bool.and_eq_true, Bool.or_eq_true, Bool.and_eq_false_iff, Bool.or_eq_false_iff, Bool.not_eq_true', Bool.not_eq_false', Bool.not_true, Bool.not_false, Bool.not_eq_eq_eq_not, not_true_eq_false, not_false_eq_true, reduceCtorEq, Bool.true_or, Bool.false_or, Bool.or_true, Bool.or_false, Bool.true_and, Bool.and_true, Bool.false_and, Bool.and_false, true_and, and_true, or_false, false_or, true_or, or_true, false_and, and_false, Bool.true_eq_false, Bool.false_eq_true] at *) <;> omega)
      (refine .inl ⟨_, (rule_copyOf f ((chk_zero _ _).1 h4).2.2), ?_⟩; ((conv => whnf); repeat (refine And.intro rfl ?_; (conv => whnf))))
      exact told2_same h4 (.refl _)
  · have h3 : sort ≠ 3 := by ((try simp only [bne_iff_ne, ne_eq, bne_eq_false_iff_eq, beq_iff_eq, beq_eq_false_iff_ne, decide_eq_true_eq, decide_eq_false_iff_not, List.length_map, Bool.not_eq_true, Bool.not_eq_false, Bool.and_eq_true, Bool.or_eq_true, Bool.and_eq_false_iff, Bool.or_eq_false_iff, Bool.not_eq_true', Bool.not_eq_false', Bool.not_true, Bool.not_false, Bool.not_eq_eq_eq_not, not_true_eq_false, not_false_eq_true, reduceCtorEq, Bool.true_or, Bool.false_or, Bool.or_true, Bool.or_false, Bool.true_and, Bool.and_true, Bool.false_and, Bool.and_false, true_and, and_true, or_false, false_or, true_or, or_true, false_and, and_false, Bool.true_eq_false, Bool.false_eq_true] at *) <;> omega)
    have e : ruleE sort x k a b c f = 1 := by simp [ruleE, h1, h2, h3]
    rw [e]
    exact told2_bad (by decide) _
theorem ref_Formula (name : ByteArray) (sort : Int) (x : Pat) (k a b c : Int) (f g : Tree) (hf : Small f) :
    PCall Try.prog 43 [drule name sort x k a b c f g] (told2 (ruleE sort x k a b c f) (ruleT sort x k a b c f)) := by
  refine pcall_intro c43_ok (by simp) (by simp [PureL, pure_drule]) ?_ (pure_told2 _ _)
  (apply red_sound; focus (repeat' (first | exact Red.skip | exact Red.ret | exact RedO.nil | exact RedD.nil | exact Red.exit _ | exact Red.loop _ | exact Red.stop _ | apply Red.ops | apply Red.draw | apply Red.seq | apply Red.cond | apply Red.block | apply RedO.cons | apply RedD.cons | exact (0 : Nat))))
  ((conv => whnf); repeat (refine And.intro rfl ?_; (conv => whnf)))
  (refine ifK_split (fun h1 => ?_) (fun h1 => ?_) <;> (rw [h1]; ((conv => whnf); repeat (refine And.intro rfl ?_; (conv => whnf)))))
  · have h1 : sort = 1 := by ((try simp only [bne_iff_ne, ne_eq, bne_eq_false_iff_eq, beq_iff_eq, beq_eq_false_iff_ne, decide_eq_true_eq, decide_eq_false_iff_not, List.length_map, Bool.not_eq_true, Bool.not_eq_false, Bool.and_eq_true, Bool.or_eq_true, Bool.and_eq_false_iff, Bool.or_eq_false_iff, Bool.not_eq_true', Bool.not_eq_false', Bool.not_true, Bool.not_false, Bool.not_eq_eq_eq_not, not_true_eq_false, not_false_eq_true, reduceCtorEq, Bool.true_or, Bool.false_or, Bool.or_true, Bool.or_false, Bool.true_and, Bool.and_true, Bool.false_and, Bool.and_false, true_and, and_true, or_false, false_or, true_or, or_true, false_and, and_false, Bool.true_eq_false, Bool.false_eq_true] at *) <;> omega)
    have e : ruleE sort x k a b c f = patE x := by simp [ruleE, h1]
    have t : ruleT sort x k a b c f = scopeT x := by simp [ruleT, h1]
    rw [e, t]
    (refine .inl ⟨_, (ref_Pattern x), ?_⟩; ((conv => whnf); repeat (refine And.intro rfl ?_; (conv => whnf))))
    (refine ifK_split (fun h4 => ?_) (fun h4 => ?_) <;> (rw [h4]; ((conv => whnf); repeat (refine And.intro rfl ?_; (conv => whnf)))))
    · have h4 : patChk x = 0 := by ((try simp only [bne_iff_ne, ne_eq, bne_eq_false_iff_eq, beq_iff_eq, beq_eq_false_iff_ne, decide_eq_true_eq, decide_eq_false_iff_not, List.length_map, Bool.not_eq_true, Bool.not_eq_false, Bool.and_eq_true, Bool.or_eq_true, Bool.and_eq_false_iff, Bool.or_eq_false_iff, Bool.not_eq_true', Bool.not_eq_false', Bool.not_true, Bool.not_false, Bool.not_eq_eq_eq_not, not_true_eq_false, not_false_eq_true, reduceCtorEq, Bool.true_or, Bool.false_or, Bool.or_true, Bool.or_false, Bool.true_and, Bool.and_true, Bool.false_and, Bool.and_false, true_and, and_true, or_false, false_or, true_or, or_true, false_and, and_false, Bool.true_eq_false, Bool.false_eq_true] at *) <;> omega)
      (refine .inl ⟨_, (ref_PatternLtlU x h4), ?_⟩; ((conv => whnf); repeat (refine And.intro rfl ?_; (conv => whnf))))
      exact .refl _
    · have h4 : patChk x ≠ 0 := by ((try simp only [bne_iff_ne, ne_eq, bne_eq_false_iff_eq, beq_iff_eq, beq_eq_false_iff_ne, decide_eq_true_eq, decide_eq_false_iff_not, List.length_map, Bool.not_eq_true, Bool.not_eq_false, Bool.and_eq_true, Bool.or_eq_true, Bool.and_eq_false_iff, Bool.or_eq_false_iff, Bool.not_eq_true', Bool.not_eq_false', Bool.not_true, Bool.not_false, Bool.not_eq_eq_eq_not, not_true_eq_false, not_false_eq_true, reduceCtorEq, Bool.true_or, Bool.false_or, Bool.or_true, Bool.or_false, Bool.true_and, Bool.and_true, Bool.false_and, Bool.and_false, true_and, and_true, or_false, false_or, true_or, or_true, false_and, and_false, Bool.true_eq_false, Bool.false_eq_true] at *) <;> omega)
      have : patE x = patChk x := by unfold patE; rw [if_neg h4]
      rw [this]
      exact told2_bad h4 _
  have h1 : sort ≠ 1 := by ((try simp only [bne_iff_ne, ne_eq, bne_eq_false_iff_eq, beq_iff_eq, beq_eq_false_iff_ne, decide_eq_true_eq, decide_eq_false_iff_not, List.length_map, Bool.not_eq_true, Bool.not_eq_false, Bool.and_eq_true, Bool.or_eq_true, Bool.and_eq_false_iff, Bool.or_eq_false_iff, Bool.not_eq_true', Bool.not_eq_false', Bool.not_true, Bool.not_false, Bool.not_eq_eq_eq_not, not_true_eq_false, not_false_eq_true, reduceCtorEq, Bool.true_or, Bool.false_or, Bool.or_true, Bool.or_false, Bool.true_and, Bool.and_true, Bool.false_and, Bool.and_false, true_and, and_true, or_false, false_or, true_or, or_true, false_and, and_false, Bool.true_eq_false, Bool.false_eq_true] at *) <;> omega)
  (refine ifK_split (fun h2 => ?_) (fun h2 => ?_) <;> (rw [h2]; ((conv => whnf); repeat (refine And.intro rfl ?_; (conv => whnf)))))
  · have h2 : sort = 2 := by ((try simp only [bne_iff_ne, ne_eq, bne_eq_false_iff_eq, beq_iff_eq, beq_eq_false_iff_ne, decide_eq_true_eq, decide_eq_false_iff_not, List.length_map, Bool.not_eq_true, Bool.not_eq_false, Bool.and_eq_true, Bool.or_eq_true, Bool.and_eq_false_iff, Bool.or_eq_false_iff, Bool.not_eq_true', Bool.not_eq_false', Bool.not_true, Bool.not_false, Bool.not_eq_eq_eq_not, not_true_eq_false, not_false_eq_true, reduceCtorEq, Bool.true_or, Bool.false_or, Bool.or_true, Bool.or_false, Bool.true_and, Bool.and_true, Bool.false_and, Bool.and_false, true_and, and_true, or_false, false_or, true_or, or_true, false_and, and_false, Bool.true_eq_false, Bool.false_eq_true] at *) <;> omega)
    have e : ruleE sort x k a b c f = tmplE k a b c := by simp [ruleE, h2]
    have t : ruleT sort x k a b c f = formT k a b c := by simp [ruleT, h2]
    rw [e, t]
    (refine .inl ⟨_, (ref_Template k a b c), ?_⟩; ((conv => whnf); repeat (refine And.intro rfl ?_; (conv => whnf))))
    (refine ifK_split (fun h4 => ?_) (fun h4 => ?_) <;> (rw [h4]; ((conv => whnf); repeat (refine And.intro rfl ?_; (conv => whnf)))))
    · have h4 : tmplChk k a b c = 0 := by ((try simp only [bne_iff_ne, ne_eq, bne_eq_false_iff_eq, beq_iff_eq, beq_eq_false_iff_ne, decide_eq_true_eq, decide_eq_false_iff_not, List.length_map, Bool.not_eq_true, Bool.not_eq_false, Bool.and_eq_true, Bool.or_eq_true, Bool.and_eq_false_iff, Bool.or_eq_false_iff, Bool.not_eq_true', Bool.not_eq_false', Bool.not_true, Bool.not_false, Bool.not_eq_eq_eq_not, not_true_eq_false, not_false_eq_true, reduceCtorEq, Bool.true_or, Bool.false_or, Bool.or_true, Bool.or_false, Bool.true_and, Bool.and_true, Bool.false_and, Bool.and_false, true_and, and_true, or_false, false_or, true_or, or_true, false_and, and_false, Bool.true_eq_false, Bool.false_eq_true] at *) <;> omega)
      (refine .inl ⟨_, (ref_TemplateLtlU k a b c h4), ?_⟩; ((conv => whnf); repeat (refine And.intro rfl ?_; (conv => whnf))))
      exact .refl _
    · have h4 : tmplChk k a b c ≠ 0 := by ((try simp only [bne_iff_ne, ne_eq, bne_eq_false_iff_eq, beq_iff_eq, beq_eq_false_iff_ne, decide_eq_true_eq, decide_eq_false_iff_not, List.length_map, Bool.not_eq_true, Bool.not_eq_false, Bool.and_eq_true, Bool.or_eq_true, Bool.and_eq_false_iff, Bool.or_eq_false_iff, Bool.not_eq_true', Bool.not_eq_false', Bool.not_true, Bool.not_false, Bool.not_eq_eq_eq_not, not_true_eq_false, not_false_eq_true, reduceCtorEq, Bool.true_or, Bool.false_or, Bool.or_true, Bool.or_false, Bool.true_and, Bool.and_true, Bool.false_and, Bool.and_false, true_and, and_true, or_false, false_or, true_or, or_true, false_and, and_false, Bool.true_eq_false, Bool.false_eq_true] at *) <;> omega)
      have : tmplE k a b c = tmplChk k a b c := by unfold tmplE; rw [if_neg h4]
      rw [this]
      exact told2_bad h4 _
  have h2 : sort ≠ 2 := by ((try simp only [bne_iff_ne, ne_eq, bne_eq_false_iff_eq, beq_iff_eq, beq_eq_false_iff_ne, decide_eq_true_eq, decide_eq_false_iff_not, List.length_map, Bool.not_eq_true, Bool.not_eq_false, Bool.and_eq_true, Bool.or_eq_true, Bool.and_eq_false_iff, Bool.or_eq_false_iff, Bool.not_eq_true', Bool.not_eq_false', Bool.not_true, Bool.not_false, Bool.not_eq_eq_eq_not, not_true_eq_false, not_false_eq_true, reduceCtorEq, Bool.true_or, Bool.false_or, Bool.or_true, Bool.or_false, Bool.true_and, Bool.and_true, Bool.false_and, Bool.and_false, true_and, and_true, or_false, false_or, true_or, or_true, false_and, and_false, Bool.true_eq_false, Bool.false_eq_true] at *) <;> omega)
  (refine ifK_split (fun h3 => ?_) (fun h3 => ?_) <;> (rw [h3]; ((conv => whnf); repeat (refine And.intro rfl ?_; (conv => whnf)))))
  · have h3 : sort = 3 := by ((try simp only [bne_iff_ne, ne_eq, bne_eq_false_iff_eq, beq_iff_eq, beq_eq_false_iff_ne, decide_eq_true_eq, decide_eq_false_iff_not, List.length_map, Bool.not_eq_true, Bool.not_eq_false, Bool.and_eq_true, Bool.or_eq_true, Bool.and_eq_false_iff, Bool.or_eq_false_iff, Bool.not_eq_true', Bool.not_eq_false', Bool.not_true, Bool.not_false, Bool.not_eq_eq_eq_not, not_true_eq_false, not_false_eq_true, reduceCtorEq, Bool.true_or, Bool.false_or, Bool.or_true, Bool.or_false, Bool.true_and, Bool.and_true, Bool.false_and, Bool.and_false, true_and, and_true, or_false, false_or, true_or, or_true, false_and, and_false, Bool.true_eq_false, Bool.false_eq_true] at *) <;> omega)
    have e : ruleE sort x k a b c f = chk lKids f := by simp [ruleE, h1, h2, h3]
    have t : ruleT sort x k a b c f = f := by simp [ruleT, h1, h2]
    rw [e, t]
    (refine .inl ⟨_, (ref_Ltl f hf), ?_⟩; ((conv => whnf); repeat (refine And.intro rfl ?_; (conv => whnf))))
    (refine ifK_split (fun h4 => ?_) (fun h4 => ?_) <;> (rw [h4]; ((conv => whnf); repeat (refine And.intro rfl ?_; (conv => whnf)))))
    · exact told2_same (by ((try simp only [bne_iff_ne, ne_eq, bne_eq_false_iff_eq, beq_iff_eq, beq_eq_false_iff_ne, decide_eq_true_eq, decide_eq_false_iff_not, List.length_map, Bool.not_eq_true, Bool.not_eq_false, Bool.and_eq_true, Bool.or_eq_true, Bool.and_eq_false_iff, Bool.or_eq_false_iff, Bool.not_eq_true', Bool.not_eq_false', Bool.not_true, Bool.not_false, Bool.not_eq_eq_eq_not, not_true_eq_false, not_false_eq_true, reduceCtorEq, Bool.true_or, Bool.false_or, Bool.or_true, Bool.or_false, Bool.true_and, Bool.and_true, Bool.false_and, Bool.and_false, true_and, and_true, or_false, false_or, true_or, or_true, false_and, and_false, Bool.true_eq_false, Bool.false_eq_true] at *) <;> omega)) (.refl _)
    · exact told2_bad (by ((try simp only [bne_iff_ne, ne_eq, bne_eq_false_iff_eq, beq_iff_eq, beq_eq_false_iff_ne, decide_eq_true_eq, decide_eq_false_iff_not, List.length_map, Bool.not_eq_true, Bool.not_eq_false, Bool.and_eq_true, Bool.or_eq_true, Bool.and_eq_false_iff, Bool.or_eq_false_iff, Bool.not_eq_true', Bool.not_eq_false', Bool.not_true, Bool.not_false, Bool.not_eq_eq_eq_not, not_true_eq_false, not_false_eq_true, reduceCtorEq, Bool.true_or, Bool.false_or, Bool.or_true, Bool.or_false, Bool.true_and, Bool.and_true, Bool.false_and, Bool.and_false, true_and, and_true, or_false, false_or, true_or, or_true, false_and, and_false, Bool.true_eq_false, Bool.false_eq_true] at *) <;> omega)) _
  · have h3 : sort ≠ 3 := by ((try simp only [bne_iff_ne, ne_eq, bne_eq_false_iff_eq, beq_iff_eq, beq_eq_false_iff_ne, decide_eq_true_eq, decide_eq_false_iff_not, List.length_map, Bool.not_eq_true, Bool.not_eq_false, Bool.and_eq_true, Bool.or_eq_true, Bool.and_eq_false_iff, Bool.or_eq_false_iff, Bool.not_eq_true', Bool.not_eq_false', Bool.not_true, Bool.not_false, Bool.not_eq_eq_eq_not, not_true_eq_false, not_false_eq_true, reduceCtorEq, Bool.true_or, Bool.false_or, Bool.or_true, Bool.or_false, Bool.true_and, Bool.and_true, Bool.false_and, Bool.and_false, true_and, and_true, or_false, false_or, true_or, or_true, false_and, and_false, Bool.true_eq_false, Bool.false_eq_true] at *) <;> omega)
    have e : ruleE sort x k a b c f = 1 := by simp [ruleE, h1, h2, h3]
    rw [e]
    exact told2_bad (by decide) _
theorem small_ruleT (sort : Int) (x : Pat) (k a b c : Int) (f : Tree) (hf : Small f) : Small (ruleT sort x k a b c f) := by
  unfold ruleT
  split
  · exact small_scopeT x
  · split
    · exact small_formT k a b c
    · exact hf
theorem law_RuleMakes (name : ByteArray) (sort : Int) (x : Pat) (k a b c : Int) (f g : Tree) (hf : Small f) : PCall Try.prog 9 [drule name sort x k a b c f g] (dbool true) := by
  have hA := rule_Formula name sort x k a b c f g hf
  have hB := ref_Formula name sort x k a b c f g hf
  unfold told2 at hA hB
  obtain ⟨T, hT⟩ : ∃ T, T = if ruleE sort x k a b c f = 0 then ruleT sort x k a b c f else mk0 0 0 := ⟨_, rfl⟩
  have hS : Small T := by
    rw [hT]; split
    · exact small_ruleT _ _ _ _ _ _ _ hf
    · exact small_zero
  rw [← hT] at hA hB
  refine pcall_intro c9_ok (by simp) (by simp [PureL, pure_drule]) ?_ (by simp [dbool, Pure])
  (apply red_sound; focus (repeat' (first | exact Red.skip | exact Red.ret | exact RedO.nil | exact RedD.nil | exact Red.exit _ | exact Red.loop _ | exact Red.stop _ | apply Red.ops | apply Red.draw | apply Red.seq | apply Red.cond | apply Red.block | apply RedO.cons | apply RedD.cons | exact (0 : Nat))))
  ((conv => whnf); repeat (refine And.intro rfl ?_; (conv => whnf)))
  (refine .inl ⟨_, hA, ?_⟩; ((conv => whnf); repeat (refine And.intro rfl ?_; (conv => whnf))))
  (refine .inl ⟨_, hB, ?_⟩; ((conv => whnf); repeat (refine And.intro rfl ?_; (conv => whnf))))
  (refine .inl ⟨_, (ref_SameLtl T T hS), ?_⟩; ((conv => whnf); repeat (refine And.intro rfl ?_; (conv => whnf))))
  have hb : eqT T T = true := by rw [eqT_iff]
  rw [hb]
  ((conv => whnf); repeat (refine And.intro rfl ?_; (conv => whnf)))
  exact deep_eq (by simp [dbool])
namespace ruleMakes
set_option maxRecDepth 100000 in
theorem law : ∀ Ds, OfAs Try.prog [75] Ds → PCall Try.prog 9 Ds (dbool true)
  | [d], h0 => by
    have h := h0.1
    clear h0
    unfold OfA at h
    rw [Try.underlying75] at h
    obtain ⟨cs, rfl, h⟩ := h
    have h := of_struct Try.underlying75 h
    simp only [List.map_cons, List.map_nil] at h
    obtain ⟨name, r1, rfl, _, h⟩ := ofTs_str Try.underlying9 h
    obtain ⟨sort, r2, rfl, _, h⟩ := ofTs_int Try.underlying3 h
    obtain ⟨ps, r3, rfl, hp, h⟩ := ofTs_cons h
    obtain ⟨tcs, r4, rfl, ht, h⟩ := ofTs_cons h
    obtain ⟨fs, r5, rfl, hf, h⟩ := ofTs_cons h
    obtain ⟨gs, r6, rfl, hg, h⟩ := ofTs_cons h
    obtain rfl := ofTs_nil h
    have hp := of_struct Try.underlying35 hp
    obtain ⟨kk, _, rfl, _, hp⟩ := ofTs_int Try.underlying3 hp
    obtain ⟨sc, _, rfl, _, hp⟩ := ofTs_int Try.underlying3 hp
    obtain ⟨p, _, rfl, _, hp⟩ := ofTs_int Try.underlying3 hp
    obtain ⟨s, _, rfl, _, hp⟩ := ofTs_int Try.underlying3 hp
    obtain ⟨q, _, rfl, _, hp⟩ := ofTs_int Try.underlying3 hp
    obtain ⟨r, _, rfl, _, hp⟩ := ofTs_int Try.underlying3 hp
    obtain ⟨n, _, rfl, _, hp⟩ := ofTs_int Try.underlying3 hp
    obtain rfl := ofTs_nil hp
    have ht := of_struct Try.underlying56 ht
    obtain ⟨k, _, rfl, _, ht⟩ := ofTs_int Try.underlying3 ht
    obtain ⟨a, _, rfl, _, ht⟩ := ofTs_int Try.underlying3 ht
    obtain ⟨b, _, rfl, _, ht⟩ := ofTs_int Try.underlying3 ht
    obtain ⟨c, _, rfl, _, ht⟩ := ofTs_int Try.underlying3 ht
    obtain rfl := ofTs_nil ht
    obtain ⟨f, rfl, sf⟩ := tree_of (I := 3) (E := 68) Try.underlying70 rfl rfl rfl Try.underlying68 Try.underlying3 (by kernel_rfl) _ _ (Nat.le_refl _) hf
    obtain ⟨g, rfl, _⟩ := tree_of (I := 3) (E := 71) Try.underlying73 rfl rfl rfl Try.underlying71 Try.underlying3 (by kernel_rfl) _ _ (Nat.le_refl _) hg
    have := law_RuleMakes name sort ⟨kk, sc, p, s, q, r, n⟩ k a b c f g sf
    simpa [drule, rcells, patCells, dtcells] using this
theorem types : typesOK Try.prog [75, 9, 3, 35, 56, 70, 73, 68, 71] = true := by kernel_rfl
set_option maxRecDepth 100000 in
theorem laidOut : laidOutB Try.prog = true := by kernel_rfl
set_option maxRecDepth 100000 in
theorem readable : (Try.f9.params.toList.all fun t => Try.prog.readableRec t && decide (t < Try.prog.types.size)) = true := by kernel_rfl
theorem own : ownKnob Try.prog.godebug = none := by kernel_rfl
set_option maxRecDepth 100000 in
theorem lifted (os : Os) (started : os.Started) (H : Type) (enc : TypeId × Value → H) :
    ReturnsInHanded {} Try.checked os 9 .any (Rows.ruleMakesSpec.pre6 enc Try.prog Try.f9 Rows.ruleMakesRow.domain false) (Rows.ruleMakesSpec.post enc Try.prog Try.f9 false true false false) := by
  refine returnsInHanded_of_change_sized (C := Try.checked) own started (by kernel_rfl) Try.func9
    (ChangeSpec.witness6 (enc := enc) (C := Try.checked) false ⟨#[], #[.agg #[.string ⟨#[]⟩, .int .i64 0, .int .i64 0, .int .i64 0, .int .i64 0, .int .i64 0, .int .i64 0, .int .i64 0, .int .i64 0, .int .i64 0, .int .i64 0, .int .i64 0, .int .i64 0, .int .i64 0, .int .i64 0, .slice none 0 0, .int .i64 0, .int .i64 0, .slice none 0 0]], []⟩ 8 (by kernel_rfl) (by kernel_rfl) (by kernel_rfl) (by kernel_rfl)) ?_
  intro W base args ds gs before hval0 hW _ hsz _
  have hval : ∀ (j : Nat) t v, Try.f9.params[j]? = some t → args[j]? = some v → Value.okWide Try.prog W .any base t v := hval0
  have hW' := hW
  obtain ⟨p, q, hA0, hV, _, hfz, hnd⟩ := hW
  have hA : DataW.TrodAll enc Try.prog W 0 (fun _ => true) true Try.f9.params.toList args.toList ds p := hA0
  have hps : Try.f9.params.toList = [75] := by kernel_rfl
  obtain ⟨Ds, hD, hR⟩ := args_rep types (base := base) _ _ _ _ (fun t ht => by rw [hps] at ht; revert t; decide) (fun j t v h1 h2 => hval j t v (by simpa using h1) (by simpa using h2)) hA fun n hn => by
    have := List.all_eq_true.1 hsz n (weightsEach_pre _ _ _ _ (trodAll_len _ _ _ _ hA).symm n hn)
    simpa using this
  rw [hps] at hD
  have hC := (law Ds hD).run noInj (There W) W args.toList (fun b h => h) hR
  rw [show args.toList.toArray = args from rfl] at hC
  refine hC.mono fun e W' ⟨v, F', he, _, hv, hx⟩ => ?_
  have hv' : v = .bool true := by simpa only [rep, dbool] using hv
  subst he hv'
  exact ⟨_, rfl, row_post hW' rfl (by kernel_rfl) Try.underlying4 laidOut (fun t ht => by
      have := List.all_eq_true.1 readable t ht
      simp only [Bool.and_eq_true, decide_eq_true_eq] at this
      exact this) (fun ds h => by rw [hps] at h; match ds, h with | [_], _ => rfl) (below_of_ext hx) (ok_one (by kernel_rfl) rfl (okWide_bool_mk Try.underlying4 _))⟩

theorem over : Rows.ruleMakesRow.holds Try.pinned (OpenSpec.ofChange Rows.ruleMakesSpec) :=
  OpenClaim.holds_of_wide 9 Try.f9 rfl rfl rfl rfl rfl rfl rfl ⟨rfl, rfl, rfl, rfl, rfl⟩ rfl rfl rfl rfl rfl (by kernel_rfl) Try.func9 (by kernel_rfl)
    (of_decide_eq_true (by kernel_rfl)) (by unfold Func.isWrapper; first | (rw [if_pos (by decide +kernel)]; kernel_rfl) | (rw [if_neg (by decide +kernel)]; exact ⟨rfl, rfl⟩))
    (fun os started H enc _ => lifted os started H enc)

theorem proved : Rows.RuleMakesSaid := over
end ruleMakes
end Go.Proofs.Ytcgjbhnljjlffaa
