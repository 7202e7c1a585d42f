/-
  watchlaw.SccReaches returns true for every graph and all nodes from which one begins, and each argument reads afterwards as it read before. The condition: both together are of a bulk of at most 1048576.
-/
import Derived.Test.YtfgklgjbnpjpoaaQDC
import Derived.Test.YtfgklgjbnpjpoaaQAgL
import Derived.Test.YtfgklgjbnpjpoaaQTj7
import Derived.Test.YtfgklgjbnpjpoaaRows
import Derived.Deep.CondSized
import Derived.JoinedCond
namespace Go.Proofs.Ytfgklgjbnpjpoaa
open Go.RowKit Go.ChangeShapes Go.WideShapes Go.ChangeAt
set_option linter.unusedSimpArgs false
set_option linter.unusedVariables false
def c20 : PC := .seq (.ops [⟨(some 2), .move (.const (.slice none 0 0)), none, 0⟩,
    ⟨(some 3), .move (.const (.int .i64 0)), none, 0⟩] false) (.seq (.seq (.ops [⟨(some 5), .move (.tmp 0), none, 0⟩,
    ⟨(some 6), .call 68 [(.tmp 5)], none, 0⟩,
    ⟨(some 4), .move (.tmp 6), none, 0⟩] false) (.seq (.ops [⟨(some 7), .move (.tmp 4), none, 0⟩,
    ⟨(some 8), .bin .neq (.tmp 7) (.const (.int .i64 0)), none, 0⟩] false) (.cond (.tmp 8) (.seq (.ops [⟨(some 9), .move (.tmp 4), none, 0⟩,
    ⟨(some 2), .move (.const (.slice none 0 0)), none, 0⟩,
    ⟨(some 3), .move (.tmp 9), none, 0⟩] false) (.ret)) (.skip)))) (.seq (.ops [⟨(some 10), .move (.tmp 0), none, 0⟩,
    ⟨(some 11), .call 69 [(.tmp 10)], none, 0⟩,
    ⟨(some 2), .move (.tmp 11), none, 0⟩,
    ⟨(some 3), .move (.const (.int .i64 0)), none, 0⟩] false) (.ret)))
set_option maxRecDepth 100000 in
theorem c20_ok : FunOK Try.prog 20 12 [.tmp 2, .tmp 3] c20 := ⟨⟨Try.f20, Try.func20, rfl, by kernel_rfl, rfl, by kernel_rfl⟩⟩
theorem scc_Parts (g : List (List Int)) (hg : chkG g = 0) (hF : FitsG g) : PCall Try.prog 20 [dgrid g] (.tup [dints (partsL g), .sc (.int .i64 0)]) := by
  obtain ⟨hn, hin0⟩ := chkG_zero.1 hg
  refine pcall_intro c20_ok (by simp) (by simp [PureL, pure_dgrid]) ?_ (by simp [Pure, PureL, pure_dints])
  (apply rd_sound; focus (repeat' constructor))
  ((conv=>whnf);repeat(refine And.intro rfl ?_;(conv=>whnf)))
  (refine .inl ⟨_, (scc_Check g hF), ?_⟩; ((conv=>whnf);repeat(refine And.intro rfl ?_;(conv=>whnf))))
  (refine ifK_split (fun h1 => ?_) (fun h1 => ?_) <;> (rw [h1]; ((conv=>whnf);repeat(refine And.intro rfl ?_;(conv=>whnf)))))
  · exfalso; ((try simp only [oo, reduceCtorEq] at *) <;> omega)
  (refine .inl ⟨_, (scc_Split g (by omega) hin0 hF), ?_⟩; ((conv=>whnf);repeat(refine And.intro rfl ?_;(conv=>whnf))))
  exact .refl _
theorem scc_Parts_bad (g : List (List Int)) (hg : chkG g ≠ 0) (hF : FitsG g) : PCall Try.prog 20 [dgrid g] (.tup [dints [], .sc (.int .i64 (chkG g))]) := by
  refine pcall_intro c20_ok (by simp) (by simp [PureL, pure_dgrid]) ?_ (by simp [Pure, PureL, pure_dints])
  (apply rd_sound; focus (repeat' constructor))
  ((conv=>whnf);repeat(refine And.intro rfl ?_;(conv=>whnf)))
  (refine .inl ⟨_, (scc_Check g hF), ?_⟩; ((conv=>whnf);repeat(refine And.intro rfl ?_;(conv=>whnf))))
  (refine ifK_split (fun h1 => ?_) (fun h1 => ?_) <;> (rw [h1]; ((conv=>whnf);repeat(refine And.intro rfl ?_;(conv=>whnf)))))
  · (repeat' (first | exact Deep.refl _ | exact Deep.none _ | exact deep_row _ | exact DeepL.nil | exact DeepLL.nil | refine Deep.agg _ _ ?_ | refine Deep.tup _ _ ?_ | refine Deep.own _ _ _ _ _ _ _ _ rfl ?_ | refine Deep.loc _ _ _ _ _ rfl ?_ | refine Deep.ifc _ _ _ ?_ | refine Deep.fn _ _ _ _ _ ?_ ?_ | refine DeepL.cons _ _ _ _ ?_ ?_ | refine DeepLL.cons _ _ _ _ ?_ ?_))
  · exfalso; ((try simp only [oo, reduceCtorEq] at *) <;> omega)
def c21x : PC := .seq (.ops [⟨(some 4), .move (.const (.slice none 0 0)), none, 0⟩,
    ⟨(some 5), .move (.const (.int .i64 0)), none, 0⟩] false) (.seq (.seq (.ops [⟨(some 7), .move (.tmp 0), none, 0⟩,
    ⟨(some 8), .call 68 [(.tmp 7)], none, 0⟩,
    ⟨(some 6), .move (.tmp 8), none, 0⟩] false) (.seq (.ops [⟨(some 9), .move (.tmp 6), none, 0⟩,
    ⟨(some 10), .bin .neq (.tmp 9) (.const (.int .i64 0)), none, 0⟩] false) (.cond (.tmp 10) (.seq (.ops [⟨(some 11), .move (.tmp 6), none, 0⟩,
    ⟨(some 4), .move (.const (.slice none 0 0)), none, 0⟩,
    ⟨(some 5), .move (.tmp 11), none, 0⟩] false) (.ret)) (.skip)))) (.seq (.seq (.ops [⟨(some 12), .move (.tmp 0), none, 0⟩,
    ⟨(some 13), .move (.tmp 1), none, 0⟩,
    ⟨(some 14), .call 70 [(.tmp 12), (.tmp 13)], none, 0⟩] false) (.cond (.tmp 14) (.seq (.ops [⟨(some 4), .move (.const (.slice none 0 0)), none, 0⟩,
    ⟨(some 5), .move (.const (.int .i64 1)), none, 0⟩] false) (.ret)) (.skip))) (.seq (.ops [⟨(some 15), .move (.tmp 0), none, 0⟩,
    ⟨(some 16), .move (.tmp 1), none, 0⟩,
    ⟨(some 17), .call 71 [(.tmp 15), (.tmp 16)], none, 0⟩,
    ⟨(some 4), .move (.tmp 17), none, 0⟩,
    ⟨(some 5), .move (.const (.int .i64 0)), none, 0⟩] false) (.ret))))
set_option maxRecDepth 100000 in
theorem c21x_ok : FunOK Try.prog 21 18 [.tmp 4, .tmp 5] c21x := ⟨⟨Try.f21, Try.func21, rfl, by kernel_rfl, rfl, by kernel_rfl⟩⟩
theorem scc_Reach_bad (g : List (List Int)) (hg : chkG g ≠ 0) (hF : FitsG g) (from_ : List Int) : PCall Try.prog 21 [dgrid g, dints from_] (.tup [dbl 0 (fun _ => false), .sc (.int .i64 (chkG g))]) := by
  refine pcall_intro c21x_ok (by simp) (by simp [PureL, Pure, pure_dgrid, pure_dints]) ?_ (by simp [Pure, PureL, pure_dbl])
  (apply rd_sound; focus (repeat' constructor))
  ((conv=>whnf);repeat(refine And.intro rfl ?_;(conv=>whnf)))
  (refine .inl ⟨_, (scc_Check g hF), ?_⟩; ((conv=>whnf);repeat(refine And.intro rfl ?_;(conv=>whnf))))
  (refine ifK_split (fun h1 => ?_) (fun h1 => ?_) <;> (rw [h1]; ((conv=>whnf);repeat(refine And.intro rfl ?_;(conv=>whnf)))))
  · (repeat' (first | exact Deep.refl _ | exact Deep.none _ | exact deep_row _ | exact DeepL.nil | exact DeepLL.nil | refine Deep.agg _ _ ?_ | refine Deep.tup _ _ ?_ | refine Deep.own _ _ _ _ _ _ _ _ rfl ?_ | refine Deep.loc _ _ _ _ _ rfl ?_ | refine Deep.ifc _ _ _ ?_ | refine Deep.fn _ _ _ _ _ ?_ ?_ | refine DeepL.cons _ _ _ _ ?_ ?_ | refine DeepLL.cons _ _ _ _ ?_ ?_))
  · exfalso; ((try simp only [oo, reduceCtorEq] at *) <;> omega)
theorem scc_Reach_arg (g : List (List Int)) (hg : chkG g = 0) (hF : FitsG g) (from_ : List Int) (hl : from_.length ≤ 17592186043904) (hf : inB from_ g.length = false) : PCall Try.prog 21 [dgrid g, dints from_] (.tup [dbl 0 (fun _ => false), .sc (.int .i64 1)]) := by
  refine pcall_intro c21x_ok (by simp) (by simp [PureL, Pure, pure_dgrid, pure_dints]) ?_ (by simp [Pure, PureL, pure_dbl])
  (apply rd_sound; focus (repeat' constructor))
  ((conv=>whnf);repeat(refine And.intro rfl ?_;(conv=>whnf)))
  (refine .inl ⟨_, (scc_Check g hF), ?_⟩; ((conv=>whnf);repeat(refine And.intro rfl ?_;(conv=>whnf))))
  (refine ifK_split (fun h1 => ?_) (fun h1 => ?_) <;> (rw [h1]; ((conv=>whnf);repeat(refine And.intro rfl ?_;(conv=>whnf)))))
  · exfalso; ((try simp only [oo, reduceCtorEq] at *) <;> omega)
  (refine .inl ⟨_, (scc_odd g from_ (by omega)), ?_⟩; ((conv=>whnf);repeat(refine And.intro rfl ?_;(conv=>whnf))))
  rw [hf]
  ((conv=>whnf);repeat(refine And.intro rfl ?_;(conv=>whnf)))
  (repeat' (first | exact Deep.refl _ | exact Deep.none _ | exact deep_row _ | exact DeepL.nil | exact DeepLL.nil | refine Deep.agg _ _ ?_ | refine Deep.tup _ _ ?_ | refine Deep.own _ _ _ _ _ _ _ _ rfl ?_ | refine Deep.loc _ _ _ _ _ rfl ?_ | refine Deep.ifc _ _ _ ?_ | refine Deep.fn _ _ _ _ _ ?_ ?_ | refine DeepL.cons _ _ _ _ ?_ ?_ | refine DeepLL.cons _ _ _ _ ?_ ?_))
def c5 : PC := .seq (.ops [⟨(some 4), .move (.const (.bool false)), none, 0⟩] false) (.seq (.ops [⟨(some 12), .move (.tmp 0), none, 0⟩,
    ⟨(some 13), .call 19 [(.tmp 12)], none, 0⟩,
    ⟨(some 5), .move (.tmp 13), none, 0⟩] false) (.seq (.ops [⟨(some 15), .move (.tmp 0), none, 0⟩,
    ⟨(some 16), .call 20 [(.tmp 15)], none, 0⟩,
    ⟨(some 14), .move (.tmp 16), none, 0⟩,
    ⟨(some 17), .ext 0 (.tmp 14), none, 0⟩,
    ⟨(some 18), .ext 1 (.tmp 14), none, 0⟩,
    ⟨(some 6), .move (.tmp 17), none, 0⟩,
    ⟨(some 7), .move (.tmp 18), none, 0⟩] false) (.seq (.seq (.ops [⟨(some 19), .move (.tmp 5), none, 0⟩,
    ⟨(some 20), .bin .neq (.tmp 19) (.const (.int .i64 0)), none, 0⟩] false) (.cond (.tmp 20) (.seq (.ops [⟨(some 22), .move (.tmp 0), none, 0⟩,
    ⟨(some 23), .move (.tmp 1), none, 0⟩,
    ⟨(some 24), .call 21 [(.tmp 22), (.tmp 23)], none, 0⟩,
    ⟨(some 21), .move (.tmp 24), none, 0⟩,
    ⟨(some 25), .ext 0 (.tmp 21), none, 0⟩,
    ⟨(some 26), .ext 1 (.tmp 21), none, 0⟩,
    ⟨(some 8), .move (.tmp 25), none, 0⟩,
    ⟨(some 9), .move (.tmp 26), none, 0⟩] false) (.seq (.ops [⟨(some 27), .move (.tmp 9), none, 0⟩,
    ⟨(some 28), .move (.tmp 5), none, 0⟩,
    ⟨(some 29), .bin .eql (.tmp 27) (.tmp 28), none, 0⟩,
    ⟨(some 30), .move (.tmp 29), none, 0⟩,
    ⟨(some 31), .move (.tmp 7), (some (30, true)), 0⟩,
    ⟨(some 32), .move (.tmp 5), (some (30, true)), 0⟩,
    ⟨(some 33), .bin .eql (.tmp 31) (.tmp 32), (some (30, true)), 0⟩,
    ⟨(some 34), .pick (.tmp 30) (.tmp 33) (.const (.bool false)), none, 0⟩,
    ⟨(some 35), .move (.tmp 34), none, 0⟩,
    ⟨(some 36), .move (.tmp 8), (some (35, true)), 0⟩,
    ⟨(some 37), .len (.tmp 36), (some (35, true)), 0⟩,
    ⟨(some 38), .bin .eql (.tmp 37) (.const (.int .i64 0)), (some (35, true)), 0⟩,
    ⟨(some 39), .pick (.tmp 35) (.tmp 38) (.const (.bool false)), none, 0⟩,
    ⟨(some 40), .move (.tmp 39), none, 0⟩,
    ⟨(some 41), .move (.tmp 6), (some (40, true)), 0⟩,
    ⟨(some 42), .len (.tmp 41), (some (40, true)), 0⟩,
    ⟨(some 43), .bin .eql (.tmp 42) (.const (.int .i64 0)), (some (40, true)), 0⟩,
    ⟨(some 44), .pick (.tmp 40) (.tmp 43) (.const (.bool false)), none, 0⟩,
    ⟨(some 4), .move (.tmp 44), none, 0⟩] false) (.ret))) (.skip))) (.seq (.ops [⟨(some 46), .move (.tmp 0), none, 0⟩,
    ⟨(some 47), .move (.tmp 1), none, 0⟩,
    ⟨(some 48), .call 21 [(.tmp 46), (.tmp 47)], none, 0⟩,
    ⟨(some 45), .move (.tmp 48), none, 0⟩,
    ⟨(some 49), .ext 0 (.tmp 45), none, 0⟩,
    ⟨(some 50), .ext 1 (.tmp 45), none, 0⟩,
    ⟨(some 10), .move (.tmp 49), none, 0⟩,
    ⟨(some 11), .move (.tmp 50), none, 0⟩] false) (.seq (.seq (.ops [⟨(some 51), .move (.tmp 0), none, 0⟩,
    ⟨(some 52), .len (.tmp 51), none, 0⟩,
    ⟨(some 53), .bin .gtr (.tmp 52) (.const (.int .i64 300)), none, 0⟩] false) (.cond (.tmp 53) (.seq (.ops [⟨(some 54), .move (.tmp 7), none, 0⟩,
    ⟨(some 55), .bin .eql (.tmp 54) (.const (.int .i64 0)), none, 0⟩,
    ⟨(some 4), .move (.tmp 55), none, 0⟩] false) (.ret)) (.skip))) (.seq (.seq (.ops [⟨(some 56), .move (.tmp 7), none, 0⟩,
    ⟨(some 57), .bin .neq (.tmp 56) (.const (.int .i64 0)), none, 0⟩,
    ⟨(some 58), .move (.tmp 57), none, 0⟩,
    ⟨(some 59), .move (.tmp 6), (some (58, false)), 0⟩,
    ⟨(some 60), .move (.tmp 0), (some (58, false)), 0⟩,
    ⟨(some 61), .call 23 [(.tmp 60)], (some (58, false)), 0⟩,
    ⟨(some 62), .call 22 [(.tmp 59), (.tmp 61)], (some (58, false)), 0⟩,
    ⟨(some 63), .un .not (.tmp 62), (some (58, false)), 0⟩,
    ⟨(some 64), .pick (.tmp 58) (.const (.bool true)) (.tmp 63), none, 0⟩] false) (.cond (.tmp 64) (.seq (.ops [⟨(some 4), .move (.const (.bool false)), none, 0⟩] false) (.ret)) (.skip))) (.seq (.seq (.ops [⟨(some 65), .move (.tmp 1), none, 0⟩,
    ⟨(some 66), .move (.tmp 0), none, 0⟩,
    ⟨(some 67), .len (.tmp 66), none, 0⟩,
    ⟨(some 68), .call 24 [(.tmp 65), (.tmp 67)], none, 0⟩,
    ⟨(some 69), .un .not (.tmp 68), none, 0⟩] false) (.cond (.tmp 69) (.seq (.ops [⟨(some 70), .move (.tmp 11), none, 0⟩,
    ⟨(some 71), .bin .eql (.tmp 70) (.const (.int .i64 1)), none, 0⟩,
    ⟨(some 72), .move (.tmp 71), none, 0⟩,
    ⟨(some 73), .move (.tmp 10), (some (72, true)), 0⟩,
    ⟨(some 74), .len (.tmp 73), (some (72, true)), 0⟩,
    ⟨(some 75), .bin .eql (.tmp 74) (.const (.int .i64 0)), (some (72, true)), 0⟩,
    ⟨(some 76), .pick (.tmp 72) (.tmp 75) (.const (.bool false)), none, 0⟩,
    ⟨(some 4), .move (.tmp 76), none, 0⟩] false) (.ret)) (.skip))) (.seq (.ops [⟨(some 77), .move (.tmp 11), none, 0⟩,
    ⟨(some 78), .bin .eql (.tmp 77) (.const (.int .i64 0)), none, 0⟩,
    ⟨(some 79), .move (.tmp 78), none, 0⟩,
    ⟨(some 80), .move (.tmp 10), (some (79, true)), 0⟩,
    ⟨(some 81), .move (.tmp 0), (some (79, true)), 0⟩,
    ⟨(some 82), .move (.tmp 1), (some (79, true)), 0⟩,
    ⟨(some 83), .call 26 [(.tmp 81), (.tmp 82)], (some (79, true)), 0⟩,
    ⟨(some 84), .call 25 [(.tmp 80), (.tmp 83)], (some (79, true)), 0⟩,
    ⟨(some 85), .pick (.tmp 79) (.tmp 84) (.const (.bool false)), none, 0⟩,
    ⟨(some 4), .move (.tmp 85), none, 0⟩] false) (.ret)))))))))
set_option maxRecDepth 100000 in
theorem c5_ok : FunOK Try.prog 5 86 [.tmp 4] c5 := ⟨⟨Try.f5, Try.func5, rfl, by kernel_rfl, rfl, by kernel_rfl⟩⟩
set_option maxRecDepth 100000 in
theorem law_SccReaches (g : List (List Int)) (hs : g.length ≤ 1048576 ∧ ∀ l ∈ g, l.length ≤ 1048576) (from_ : List Int) (hfl : from_.length ≤ 1048576) : PCall Try.prog 5 [dgrid g, dints from_] (dbool true) := by
  have hF := fits_ofL (Nat.le_refl _) hs
  refine pcall_intro c5_ok (by simp) (by simp [PureL, Pure, pure_dgrid, pure_dints]) ?_ (by simp [dbool, Pure])
  have hG := ref_Graph g hF
  by_cases h1 : chkG g = 0
  · obtain ⟨hn, hin0⟩ := chkG_zero.1 h1
    have hP := scc_Parts g h1 hF
    have hRP := ref_Parts g h1 hF
    have hpot := potG_small hs.2 fun _ => false
    have hpm := Nat.mul_le_mul_right 1048576 hn
    have hI := ref_In from_ (by omega) g.length
    rw [h1] at hG
    cases h2 : inB from_ g.length
    · have hR := scc_Reach_arg g h1 hF from_ (by omega) h2
      rw [h2] at hI
      (apply rd_sound; focus (repeat' constructor))
      ((conv=>whnf);repeat(refine And.intro rfl ?_;(conv=>whnf)))
      (refine .inl ⟨_, hG, ?_⟩; ((conv=>whnf);repeat(refine And.intro rfl ?_;(conv=>whnf))))
      (refine .inl ⟨_, hP, ?_⟩; ((conv=>whnf);repeat(refine And.intro rfl ?_;(conv=>whnf))))
      (refine .inl ⟨_, hR, ?_⟩; ((conv=>whnf);repeat(refine And.intro rfl ?_;(conv=>whnf))))
      rw [List.length_map]
      (refine ifK_split (fun h4 => ?_) (fun h4 => ?_) <;> (rw [h4]; ((conv=>whnf);repeat(refine And.intro rfl ?_;(conv=>whnf)))))
      · exact .refl _
      have h4 : ¬ 300 < g.length := by ((try simp only [oo, reduceCtorEq] at *) <;> omega)
      (refine .inl ⟨_, hRP, ?_⟩; ((conv=>whnf);repeat(refine And.intro rfl ?_;(conv=>whnf))))
      (refine .inl ⟨_, (equal_int (partsL g) (partsL g) (by simp [partsL]; omega)), ?_⟩; ((conv=>whnf);repeat(refine And.intro rfl ?_;(conv=>whnf))))
      rw [decide_eq_true rfl]
      ((conv=>whnf);repeat(refine And.intro rfl ?_;(conv=>whnf)))
      rw [List.length_map]
      (refine .inl ⟨_, hI, ?_⟩; ((conv=>whnf);repeat(refine And.intro rfl ?_;(conv=>whnf))))
      exact .refl _
    · have hR := scc_Reach g h1 hF from_ h2 (by omega)
      have hCo := ref_Comes g h1 hF from_ h2 (by omega)
      rw [h2] at hI
      (apply rd_sound; focus (repeat' constructor))
      ((conv=>whnf);repeat(refine And.intro rfl ?_;(conv=>whnf)))
      (refine .inl ⟨_, hG, ?_⟩; ((conv=>whnf);repeat(refine And.intro rfl ?_;(conv=>whnf))))
      (refine .inl ⟨_, hP, ?_⟩; ((conv=>whnf);repeat(refine And.intro rfl ?_;(conv=>whnf))))
      (refine .inl ⟨_, hR, ?_⟩; ((conv=>whnf);repeat(refine And.intro rfl ?_;(conv=>whnf))))
      rw [List.length_map]
      (refine ifK_split (fun h4 => ?_) (fun h4 => ?_) <;> (rw [h4]; ((conv=>whnf);repeat(refine And.intro rfl ?_;(conv=>whnf)))))
      · exact .refl _
      have h4 : ¬ 300 < g.length := by ((try simp only [oo, reduceCtorEq] at *) <;> omega)
      (refine .inl ⟨_, hRP, ?_⟩; ((conv=>whnf);repeat(refine And.intro rfl ?_;(conv=>whnf))))
      (refine .inl ⟨_, (equal_int (partsL g) (partsL g) (by simp [partsL]; omega)), ?_⟩; ((conv=>whnf);repeat(refine And.intro rfl ?_;(conv=>whnf))))
      rw [decide_eq_true rfl]
      ((conv=>whnf);repeat(refine And.intro rfl ?_;(conv=>whnf)))
      rw [List.length_map]
      (refine .inl ⟨_, hI, ?_⟩; ((conv=>whnf);repeat(refine And.intro rfl ?_;(conv=>whnf))))
      (refine .inl ⟨_, hCo, ?_⟩; ((conv=>whnf);repeat(refine And.intro rfl ?_;(conv=>whnf))))
      (refine .inl ⟨_, (eq_bool g.length (rchB g from_) (by omega)), ?_⟩; ((conv=>whnf);repeat(refine And.intro rfl ?_;(conv=>whnf))))
      exact .refl _
  · have hP := scc_Parts_bad g h1 hF
    have hR := scc_Reach_bad g h1 hF from_
    generalize chkG g = c at *
    (apply rd_sound; focus (repeat' constructor))
    ((conv=>whnf);repeat(refine And.intro rfl ?_;(conv=>whnf)))
    (refine .inl ⟨_, hG, ?_⟩; ((conv=>whnf);repeat(refine And.intro rfl ?_;(conv=>whnf))))
    (refine .inl ⟨_, hP, ?_⟩; ((conv=>whnf);repeat(refine And.intro rfl ?_;(conv=>whnf))))
    (refine ifK_split (fun q => ?_) (fun q => ?_) <;> (rw [q]; ((conv=>whnf);repeat(refine And.intro rfl ?_;(conv=>whnf)))))
    · (refine .inl ⟨_, hR, ?_⟩; ((conv=>whnf);repeat(refine And.intro rfl ?_;(conv=>whnf))))
      rw [show (c == c) = true by simp]
      ((conv=>whnf);repeat(refine And.intro rfl ?_;(conv=>whnf)))
      rw [show (c == c) = true by simp]
      ((conv=>whnf);repeat(refine And.intro rfl ?_;(conv=>whnf)))
      exact .refl _
    · exfalso; ((try simp only [oo, reduceCtorEq] at *) <;> omega)
namespace sccReaches
set_option maxRecDepth 100000 in
theorem law : ∀ Ds, OfAsz Try.prog 1048576 [23, 22] Ds → PCall Try.prog 5 Ds (dbool true)
  | [a, b], h => by
    obtain ⟨g, rfl, hg⟩ := argGridL (L := 1048575) Try.underlying23 Try.underlying22 Try.underlying3 (by kernel_rfl) (by kernel_rfl) h.1
    obtain ⟨l, rfl, hl⟩ := argIntsL (L := 1048575) Try.underlying22 Try.underlying3 (by kernel_rfl) h.2.1
    exact law_SccReaches g hg l hl
theorem types : typesOK Try.prog [23, 22, 3] = true := by kernel_rfl
set_option maxRecDepth 100000 in
theorem laidOut : laidOutB Try.prog = true := by kernel_rfl
set_option maxRecDepth 100000 in
theorem readable : (Try.f5.params.toList.all fun t => Try.prog.readableRec t && decide (t < Try.prog.types.size)) = true := by kernel_rfl
theorem own : ownKnob Try.prog.godebug = none := by kernel_rfl
theorem one_le {H : Type} (d : DataW H) : 1 ≤ Rows.uptoBulk d := by
  cases d with
  | lit l => cases l <;> simp [Rows.uptoBulk]
  | _ => simp [Rows.uptoBulk]
theorem length_le {H : Type} (l : List (DataW H)) : l.length ≤ Rows.uptoBulkAll l := by
  induction l with
  | nil => simp [Rows.uptoBulkAll]
  | cons x r ih => have := one_le x; simp only [Rows.uptoBulkAll, List.length_cons]; omega
mutual
theorem lens_of {H : Type} {L : Nat} : ∀ d : DataW H, Rows.uptoBulk d ≤ L → lens L d
  | .lit (.string b), h => by simp only [Rows.uptoBulk] at h; simp only [lens]; omega
  | .lit (.bool _), _ | .lit (.int _ _), _ | .lit (.float _ _), _ | .lit .nil, _ => by simp only [lens]
  | .nil, _ | .ptr _, _ | .iface _ _, _ | .map _, _ | .held _, _ => by simp only [lens]
  | .slice elems spare, h => by
    simp only [Rows.uptoBulk] at h
    simp only [lens]
    have := length_le elems
    exact ⟨by omega, lensAll_of elems (by omega)⟩
  | .agg parts, h => by
    simp only [Rows.uptoBulk] at h
    simp only [lens]
    exact lensAll_of parts (by omega)
theorem lensAll_of {H : Type} {L : Nat} : ∀ l : List (DataW H), Rows.uptoBulkAll l ≤ L → lensAll L l
  | [], _ => by simp only [lensAll]
  | d :: r, h => by
    simp only [Rows.uptoBulkAll] at h
    simp only [lensAll]
    exact ⟨lens_of d (by omega), lensAll_of r (by omega)⟩
end
theorem bulk_app {H : Type} : ∀ l r : List (DataW H), Rows.uptoBulkAll (l ++ r) = Rows.uptoBulkAll l + Rows.uptoBulkAll r
  | [], r => by simp [Rows.uptoBulkAll]
  | d :: l, r => by simp only [List.cons_append, Rows.uptoBulkAll, bulk_app l r]; omega
set_option maxRecDepth 100000 in
theorem lifted (os : Os) (started : os.Started) (H : Type) (enc : TypeId × Value → H) (F : Stop.Interp) :
    ReturnsInHanded {} Try.checked os 5 .any ((Rows.OpenSpec.upto Rows.sccReachesSpec).pre6 enc Try.prog Try.f5 Rows.sccReachesUptoRow.domain false) (((Rows.OpenSpec.upto Rows.sccReachesSpec).at F).post enc Try.prog Try.f5 false true false false) := by
  refine returnsInHanded_of_cond_sized (C := Try.checked) (s := Rows.OpenSpec.upto Rows.sccReachesSpec) (k := Rows.uptoSmall) rfl own started (by kernel_rfl) Try.func5
    (OpenSpec.witness (enc := enc) (C := Try.checked) (s := Rows.OpenSpec.upto Rows.sccReachesSpec) (k := Rows.uptoSmall) rfl false ⟨#[], #[.slice none 0 0, .slice none 0 0], []⟩ 8 (by kernel_rfl) (by kernel_rfl) (by kernel_rfl)
      (x := ([.nil, .nil], [], [])) (by kernel_rfl) rfl (by kernel_rfl)) ?_
  intro W base args ds gs before hval0 hW _ hk hsz _
  have hval : ∀ (j : Nat) t v, Try.f5.params[j]? = some t → args[j]? = some v → Value.okWide Try.prog W .any base t v := hval0
  have hW' := hW
  obtain ⟨p, q, hA0, hV, _, hfz, hnd⟩ := hW
  have hA : DataW.TrodAll enc Try.prog W 0 (fun _ => true) true Try.f5.params.toList args.toList ds p := hA0
  have hps : Try.f5.params.toList = [23, 22] := by kernel_rfl
  have hb : Rows.uptoBulkAll (ds ++ gs) ≤ 1048576 := of_decide_eq_true hk
  rw [bulk_app] at hb
  obtain ⟨Ds, hD, hR⟩ := args_repL (L := 1048576) types (base := base) _ _ _ _ (fun t ht => by rw [hps] at ht; revert t; decide) (fun j t v h1 h2 => hval j t v (by simpa using h1) (by simpa using h2)) hA (fun n hn => by
    have := List.all_eq_true.1 hsz n (weightsEach_pre _ _ _ _ (trodAll_len _ _ _ _ hA).symm n hn)
    simpa using this) (.inr (lensAll_of ds (by omega)))
  rw [hps] at hD
  have hC := (law Ds hD).run noInj (There W) W args.toList (fun b h => h) hR
  rw [show args.toList.toArray = args from rfl] at hC
  refine hC.mono fun e W' ⟨v, F', he, _, hv, hx⟩ => ?_
  have hv' : v = .bool true := by simpa only [rep, dbool] using hv
  subst he hv'
  exact ⟨_, rfl, row_post hW' rfl (by kernel_rfl) Try.underlying4 laidOut (fun t ht => by
      have := List.all_eq_true.1 readable t ht
      simp only [Bool.and_eq_true, decide_eq_true_eq] at this
      exact this) (fun ds h => by rw [hps] at h; match ds, h with | [_, _], _ => rfl) (below_of_ext hx) (ok_one (by kernel_rfl) rfl (okWide_bool_mk Try.underlying4 _))⟩

theorem proved : Rows.SccReachesUptoSaid :=
  OpenClaim.holds_of_cond 5 Try.f5 rfl rfl rfl rfl rfl rfl rfl ⟨rfl, rfl, rfl, rfl, rfl⟩ rfl rfl rfl rfl rfl (by kernel_rfl) Try.func5 (by kernel_rfl)
    (of_decide_eq_true (by kernel_rfl)) (by unfold Func.isWrapper; first | (rw [if_pos (by decide +kernel)]; kernel_rfl) | (rw [if_neg (by decide +kernel)]; exact ⟨rfl, rfl⟩))
    (fun os started H enc _ F => lifted os started H enc F)
end sccReaches
end Go.Proofs.Ytfgklgjbnpjpoaa
