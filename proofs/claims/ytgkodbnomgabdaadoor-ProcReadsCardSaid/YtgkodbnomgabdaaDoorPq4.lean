/-
  The reference's lines and pieces of a text, over deep values. No statement is proved here.
-/
import Derived.Test.YtgkodbnomgabdaaDoorPq2
namespace Go.Proofs.YtgkodbnomgabdaaDoor
open Go.RowKit
set_option linter.unusedSimpArgs false
set_option linter.unusedVariables false
theorem deepLL_eq {H : List AObj} {a b : List (List D)} (h : a = b) : DeepLL H a b := h ▸ deepLL_refl a
/-- The lines of a text, from p on: each with its end. -/
def lns (s : ByteArray) (p : Nat) : List ByteArray :=
  if h : p < s.size then (if fndE 10 s p < s.size then s.extract p (fndE 10 s p + 1) :: lns s (fndE 10 s p + 1) else [s.extract p s.size]) else []
termination_by s.size - p
decreasing_by have := fndE_ge (c := 10) (s := s) p; omega
theorem lns_more {s : ByteArray} {p : Nat} (h : fndE 10 s p < s.size) : lns s p = s.extract p (fndE 10 s p + 1) :: lns s (fndE 10 s p + 1) := by
  have := fndE_ge (c := 10) (s := s) p
  rw [lns, dif_pos (by omega), if_pos h]
theorem lns_last {s : ByteArray} {p : Nat} (hp : p < s.size) (h : ¬ fndE 10 s p < s.size) : lns s p = [s.extract p s.size] := by rw [lns, dif_pos hp, if_neg h]
theorem lns_none {s : ByteArray} {p : Nat} (hp : ¬ p < s.size) : lns s p = [] := by rw [lns, dif_neg hp]
theorem lns_len (s : ByteArray) : ∀ (n p : Nat), s.size - p = n → (lns s p).length ≤ n
  | n, p, h => by
    by_cases hp : p < s.size
    · by_cases hc : fndE 10 s p < s.size
      · rw [lns_more hc]
        have h1 := fndE_ge (c := 10) (s := s) p
        have := lns_len s (s.size - (fndE 10 s p + 1)) (fndE 10 s p + 1) rfl
        simp only [List.length_cons]; omega
      · rw [lns_last hp hc]; simp; omega
    · rw [lns_none hp]; simp
termination_by n => n
def c23_1 : PC := .seq (.seq (.ops [qm 6 5,qm 7 0,q 8 (.slen (.tmp 7)),q 9 (.bin .lss (.tmp 6) (.tmp 8))] false) (.cond (.tmp 9) (.skip) (.exit 0))) (.seq (.block 1 (.seq (.ops [qm 12 0,qm 13 5,q 14 (.sidx (.tmp 12) (.tmp 13)),q 15 (.bin .eql (.tmp 14) (.const (.int .u8 10)))] false) (.cond (.tmp 15) (.seq (.ops [qm 16 3,qm 17 0,qm 18 4,qm 19 5,q 20 (.bin .add (.tmp 19) (.const (.int .i64 1))),q 21 (.sslc (.tmp 17) (some (.tmp 18)) (some (.tmp 20))),q 22 (.bslice 1 1 [(.tmp 21)]),q 23 (.append 1 16 (.tmp 16) (.tmp 22)),qm 3 23] false) (.ops [qm 24 5,q 25 (.bin .add (.tmp 24) (.const (.int .i64 1))),qm 4 25] false)) (.skip)))) (.ops [qm 10 5,q 11 (.bin .add (.tmp 10) (.const (.int .i64 1))),qm 5 11] false))
def c23 : PC := .seq (.ops [q 2 (.move (.const (.slice none 0 0)))] false) (.seq (.ops [q 3 (.move (.const (.slice none 0 0)))] false) (.seq (.ops [q 4 (.move (.const (.int .i64 0)))] false) (.seq (.seq (.ops [q 5 (.move (.const (.int .i64 0)))] false) (.block 0 (.loop c23_1))) (.seq (.seq (.ops [qm 26 4,qm 27 0,q 28 (.slen (.tmp 27)),q 29 (.bin .lss (.tmp 26) (.tmp 28))] false) (.cond (.tmp 29) (.ops [qm 30 3,qm 31 0,qm 32 4,q 33 (.sslc (.tmp 31) (some (.tmp 32)) none),q 34 (.bslice 1 1 [(.tmp 33)]),q 35 (.append 1 16 (.tmp 30) (.tmp 34)),qm 3 35] false) (.skip))) (.seq (.ops [qm 36 3,qm 2 36] false) (.ret))))))
set_option maxRecDepth 100000 in
theorem c23_ok : FunOK Tryd.prog 23 37 [.tmp 2] c23 := ⟨⟨Tryd.f23, Tryd.func23, rfl, by kernel_rfl, rfl, by kernel_rfl⟩⟩
theorem ref_Lines (s : ByteArray) (hs : s.size ≤ 100000000) : PCall Tryd.prog 23 [.sc (.string s)] (dstrs (lns s 0)) := by
  refine pcall_intro c23_ok (by simp) (by simp [PureL, Pure]) ?_ (pure_dstrs _)
  have hl := lns_len s _ 0 rfl
  (apply rd_sound; focus (repeat' constructor))
  ((conv=>whnf);repeat(refine⟨rfl,?_⟩;conv=>whnf))
  refine pwp_ghostB (leB_nil 3 1 (by simp) rfl) ?_
  refine pwp_for [0] (fun ((i, f, c, out) : Nat × Nat × Nat × List ByteArray) => [(3, .own 0 c 0 c), (4, .sc (.int .i64 f)), (5, .sc (.int .i64 i))]) (fun (i, f, c, out) => [(0, .vec true c 1 (out.map srow))])
    (fun (i, f, c, out) => c = out.length ∧ f ≤ i ∧ i ≤ s.size ∧ out ++ lns s f = lns s 0 ∧ fndE 10 s f = fndE 10 s i) (fun (i, f, c, out) => s.size - i) (0, 0, 0, []) ?_
  ((conv=>whnf);repeat(refine⟨rfl,?_⟩;conv=>whnf))
  refine ⟨⟨rfl, Nat.le_refl _, Nat.zero_le _, rfl, rfl⟩, by (repeat' (first | exact trivial | refine And.intro rfl ?_)), rfl, ?_⟩
  rintro ⟨i, f, c, out⟩ ⟨rfl, hf, hi, ho, he⟩
  have hol : out.length ≤ s.size := by have := congrArg List.length ho; rw [List.length_append] at this; omega
  ((conv=>whnf);repeat(refine⟨rfl,?_⟩;conv=>whnf))
  (apply rd_sound; focus (repeat' constructor))
  ((conv=>whnf);repeat(refine⟨rfl,?_⟩;conv=>whnf))
  (refine ifK_split (fun g1 => ?_) (fun g1 => ?_) <;> (rw [g1]; ((conv=>whnf);repeat(refine⟨rfl,?_⟩;conv=>whnf))))
  · have hi' : i < s.size := by ((try simp only[oo,reduceCtorEq]at*)<;>omega)
    obtain ⟨b, hb⟩ := byte_at hi'
    have hc : chr s i = b.toNat := by simp only [chr, hb]
    refine ⟨by omega, b, hb, ?_⟩
    ((conv=>whnf);repeat(refine⟨rfl,?_⟩;conv=>whnf))
    (refine ifK_split (fun g2 => ?_) (fun g2 => ?_) <;> (rw [g2]; ((conv=>whnf);repeat(refine⟨rfl,?_⟩;conv=>whnf))))
    · have g2 : chr s i = 10 := by ((try simp only[oo,reduceCtorEq]at*)<;>omega)
      have e1 : fndE 10 s f = i := by rw [he, fndE_stop fun _ => g2]
      rw [lns_more (by omega), e1] at ho
      (refine .inl ⟨by (unfold InR; rw [IntKind.wrap_i64]; omega), ?_⟩; ((conv=>whnf);repeat(refine⟨rfl,?_⟩;conv=>whnf)))
      refine ⟨by omega, by omega, by omega, by omega, ?_⟩
      ((conv=>whnf);repeat(refine⟨rfl,?_⟩;conv=>whnf))
      refine ⟨(by unfold sliceAppend; simp only [ll]; omega), ?_⟩
      ((conv=>whnf);repeat(refine⟨rfl,?_⟩;conv=>whnf))
      (refine .inl ⟨by (unfold InR; rw [IntKind.wrap_i64]; omega), ?_⟩; ((conv=>whnf);repeat(refine⟨rfl,?_⟩;conv=>whnf)))
      (refine .inl ⟨by (unfold InR; rw [IntKind.wrap_i64]; omega), ?_⟩; ((conv=>whnf);repeat(refine⟨rfl,?_⟩;conv=>whnf)))
      refine ⟨(i + 1, i + 1, out.length + 1, out ++ [s.extract f (i + 1)]), ⟨by simp, Nat.le_refl _, by omega, by rw [List.append_assoc]; exact ho, rfl⟩, by dsimp only; omega, ?_⟩
      (refine leB_close 1 (by simp) rfl ?_ ?_ <;> (repeat' (first | exact trivial | exact rfl | exact DeepM.refl _ | exact DeepML.refl _ | exact DeepMLL.refl _ | refine And.intro ?_ ?_ | (simp [Under, UnderL, UnderLL, -List.map_take, -List.map_drop]; done))))
      all_goals first
        | exact deepMLL_eq (by rw [List.drop_zero, List.take_of_length_le (by simp), List.map_append]; rfl)
        | exact underLL_pure _ (pureLL_map _ pure_srow _)
    · have g2 : chr s i ≠ 10 := by ((try simp only[oo,reduceCtorEq]at*)<;>omega)
      (refine .inl ⟨by (unfold InR; rw [IntKind.wrap_i64]; omega), ?_⟩; ((conv=>whnf);repeat(refine⟨rfl,?_⟩;conv=>whnf)))
      refine ⟨(i + 1, f, out.length, out), ⟨rfl, by omega, by omega, ho, by rw [he, fndE_step hi' g2]⟩, by dsimp only; omega, leB_envH (by (repeat' (first | exact trivial | refine And.intro rfl ?_))) rfl⟩
  · have hi' : i = s.size := by ((try simp only[oo,reduceCtorEq]at*)<;>omega)
    have e1 : fndE 10 s f = s.size := by rw [he, hi', fndE_out (Nat.le_refl _)]
    (refine ifK_split (fun g2 => ?_) (fun g2 => ?_) <;> (rw [g2]; ((conv=>whnf);repeat(refine⟨rfl,?_⟩;conv=>whnf))))
    · have g2 : f < s.size := by ((try simp only[oo,reduceCtorEq]at*)<;>omega)
      rw [lns_last g2 (by omega)] at ho
      refine ⟨by omega, by omega, by omega, ?_⟩
      ((conv=>whnf);repeat(refine⟨rfl,?_⟩;conv=>whnf))
      refine ⟨(by unfold sliceAppend; simp only [ll]; omega), ?_⟩
      ((conv=>whnf);repeat(refine⟨rfl,?_⟩;conv=>whnf))
      rw [← ho, dstrs_rows]
      refine .own 0 _ _ _ 1 true _ _ rfl ?_
      refine deepLL_eq ?_
      rw [show [[D.sc (Value.string (s.extract (f : Int).toNat s.size))]] = List.map srow [s.extract f s.size] from rfl]
      simp [List.take_of_length_le]
    · have g2 : ¬ f < s.size := by ((try simp only[oo,reduceCtorEq]at*)<;>omega)
      rw [lns_none g2, List.append_nil] at ho
      subst ho
      rw [dstrs_rows]
      refine .own 0 _ _ _ 1 true _ _ rfl ?_
      rw [List.drop_zero, List.take_of_length_le (by simp)]
      exact deepLL_refl _
theorem ext_step {s : ByteArray} {f i : Nat} (h : f ≤ i) (hi : i < s.size) : s.extract f i ++ s.extract i (i + 1) = s.extract f (i + 1) := by
  rw [ByteArray.extract_append_extract]; congr 1 <;> omega
theorem ext_nil (s : ByteArray) (i : Nat) : (⟨#[]⟩ : ByteArray) = s.extract i i := by
  symm
  apply ByteArray.ext
  apply Array.eq_empty_of_size_eq_zero
  show (s.extract i i).size = 0
  rw [ByteArray.size_extract]; omega
theorem last_get (out : List ByteArray) (x : ByteArray) : (List.map srow (out ++ [x]))[0 + (((out.length + 1 - 0 : Nat) : Int) - 1).toNat]? = some (srow x) := by
  rw [show 0 + (((out.length + 1 - 0 : Nat) : Int) - 1).toNat = out.length by omega]; simp
theorem last_set (out : List ByteArray) (x y : ByteArray) : (List.map srow (out ++ [x])).set (0 + (((out.length + 1 - 0 : Nat) : Int) - 1).toNat) (srow y) = List.map srow (out ++ [y]) := by
  rw [show 0 + (((out.length + 1 - 0 : Nat) : Int) - 1).toNat = out.length by omega, List.map_append, List.set_append_right _ _ (by simp)]; simp
def c24_1 : PC := .seq (.seq (.ops [qm 6 4,qm 7 0,q 8 (.slen (.tmp 7)),q 9 (.bin .lss (.tmp 6) (.tmp 8))] false) (.cond (.tmp 9) (.skip) (.exit 0))) (.seq (.block 1 (.seq (.ops [qm 12 0,qm 13 4,q 14 (.sidx (.tmp 12) (.tmp 13)),q 15 (.bin .eql (.tmp 14) (.const (.int .u8 32)))] false) (.cond (.tmp 15) (.ops [qm 16 3,q 17 (.bslice 1 1 [(.const (.string ⟨#[]⟩))]),q 18 (.append 1 16 (.tmp 16) (.tmp 17)),qm 3 18] false) (.ops [qm 19 3,qm 20 3,qd 21 (.len (.tmp 20)) 2,qd 22 (.bin .sub (.tmp 21) (.const (.int .i64 1))) 6,qd 23 (.iaddr 1 (.tmp 19) (.tmp 22)) 15,qd 24 (.load1 (.tmp 23)) 31,qm 25 0,qm 26 4,qm 27 4,qd 28 (.bin .add (.tmp 27) (.const (.int .i64 1))) 256,qd 29 (.sslc (.tmp 25) (some (.tmp 26)) (some (.tmp 28))) 960,qd 30 (.bin .add (.tmp 24) (.tmp 29)) 2047,qd 31 (.iaddr 1 (.tmp 19) (.tmp 22)) 4095,qk (.store 1 (.tmp 31) (.tmp 30)) 8191] true)))) (.ops [qm 10 4,q 11 (.bin .add (.tmp 10) (.const (.int .i64 1))),qm 4 11] false))
def c24 : PC := .seq (.ops [q 2 (.move (.const (.slice none 0 0)))] false) (.seq (.ops [q 5 (.bslice 1 1 [(.const (.string ⟨#[]⟩))]),qm 3 5] false) (.seq (.seq (.ops [q 4 (.move (.const (.int .i64 0)))] false) (.block 0 (.loop c24_1))) (.seq (.ops [qm 32 3,qm 2 32] false) (.ret))))
set_option maxRecDepth 100000 in
theorem c24_ok : FunOK Tryd.prog 24 33 [.tmp 2] c24 := ⟨⟨Tryd.f24, Tryd.func24, rfl, by kernel_rfl, rfl, by kernel_rfl⟩⟩
theorem ref_Cut (s : ByteArray) (hs : s.size ≤ 100000000) : PCall Tryd.prog 24 [.sc (.string s)] (dstrs (pcs s 0)) := by
  refine pcall_intro c24_ok (by simp) (by simp [PureL, Pure]) ?_ (pure_dstrs _)
  have hl := pcs_len s _ 0 rfl (Nat.zero_le _)
  (apply rd_sound; focus (repeat' constructor))
  ((conv=>whnf);repeat(refine⟨rfl,?_⟩;conv=>whnf))
  refine pwp_for [0] (fun ((i, f, c, out) : Nat × Nat × Nat × List ByteArray) => [(3, .own 0 c 0 (c + 1)), (4, .sc (.int .i64 i))]) (fun (i, f, c, out) => [(0, .vec true c 1 ((out ++ [s.extract f i]).map srow))])
    (fun (i, f, c, out) => c = out.length ∧ f ≤ i ∧ i ≤ s.size ∧ out ++ pcs s f = pcs s 0 ∧ fndE 32 s f = fndE 32 s i) (fun (i, f, c, out) => s.size - i) (0, 0, 0, []) ?_
  ((conv=>whnf);repeat(refine⟨rfl,?_⟩;conv=>whnf))
  refine ⟨⟨rfl, Nat.le_refl _, Nat.zero_le _, rfl, rfl⟩, by (repeat' (first | exact trivial | refine And.intro rfl ?_)), ?_, ?_⟩
  · show [AObj.vec true 0 1 [srow ⟨#[]⟩]] = [_]
    rw [ext_nil s 0]
    rfl
  rintro ⟨i, f, c, out⟩ ⟨rfl, hf, hi, ho, he⟩
  have hol : out.length ≤ s.size := by have := congrArg List.length ho; rw [List.length_append] at this; have := pcs_pos s f; omega
  ((conv=>whnf);repeat(refine⟨rfl,?_⟩;conv=>whnf))
  (apply rd_sound; focus (repeat' constructor))
  ((conv=>whnf);repeat(refine⟨rfl,?_⟩;conv=>whnf))
  (refine ifK_split (fun g1 => ?_) (fun g1 => ?_) <;> (rw [g1]; ((conv=>whnf);repeat(refine⟨rfl,?_⟩;conv=>whnf))))
  · have hi' : i < s.size := by ((try simp only[oo,reduceCtorEq]at*)<;>omega)
    obtain ⟨b, hb⟩ := byte_at hi'
    have hc : chr s i = b.toNat := by simp only [chr, hb]
    refine ⟨by omega, b, hb, ?_⟩
    ((conv=>whnf);repeat(refine⟨rfl,?_⟩;conv=>whnf))
    (refine ifK_split (fun g2 => ?_) (fun g2 => ?_) <;> (rw [g2]; ((conv=>whnf);repeat(refine⟨rfl,?_⟩;conv=>whnf))))
    · have g2 : chr s i = 32 := by ((try simp only[oo,reduceCtorEq]at*)<;>omega)
      have e1 : fndE 32 s f = i := by rw [he, fndE_stop fun _ => g2]
      rw [pcs_more (by omega), e1] at ho
      ((conv=>whnf);repeat(refine⟨rfl,?_⟩;conv=>whnf))
      refine ⟨(by unfold sliceAppend; simp only [ll]; omega), ?_⟩
      ((conv=>whnf);repeat(refine⟨rfl,?_⟩;conv=>whnf))
      (refine .inl ⟨by (unfold InR; rw [IntKind.wrap_i64]; omega), ?_⟩; ((conv=>whnf);repeat(refine⟨rfl,?_⟩;conv=>whnf)))
      refine ⟨(i + 1, i + 1, out.length + 1, out ++ [s.extract f i]), ⟨by simp, Nat.le_refl _, by omega, by rw [List.append_assoc]; exact ho, rfl⟩, by dsimp only; omega, ?_⟩
      (refine leB_close 1 (by simp) rfl ?_ ?_ <;> (repeat' (first | exact trivial | exact rfl | exact DeepM.refl _ | exact DeepML.refl _ | exact DeepMLL.refl _ | refine And.intro ?_ ?_ | (simp [Under, UnderL, UnderLL, -List.map_take, -List.map_drop]; done))))
      · refine deepMLL_eq ?_
        rw [← ext_nil, List.drop_zero, List.take_of_length_le (by simp)]
        simp [srow]
      · exact underLL_pure _ (pureLL_map _ pure_srow _)
    · have g2 : chr s i ≠ 32 := by ((try simp only[oo,reduceCtorEq]at*)<;>omega)
      ((conv=>whnf);repeat(refine⟨rfl,?_⟩;conv=>whnf))
      (refine .inl ⟨by (unfold InR; rw [IntKind.wrap_i64]; omega), ?_⟩; ((conv=>whnf);repeat(refine⟨rfl,?_⟩;conv=>whnf)))
      (refine ⟨by omega, (by first | omega | (simp; done) | (simp; omega) | (simp only [ll]; omega)), ?_⟩; ((conv=>whnf);repeat(refine⟨rfl,?_⟩;conv=>whnf)))
      refine ⟨_, last_get _ _, ?_⟩
      ((conv=>whnf);repeat(refine⟨rfl,?_⟩;conv=>whnf))
      (refine .inl ⟨by (unfold InR; rw [IntKind.wrap_i64]; omega), ?_⟩; ((conv=>whnf);repeat(refine⟨rfl,?_⟩;conv=>whnf)))
      refine ⟨by omega, by omega, by omega, ?_⟩
      ((conv=>whnf);repeat(refine⟨rfl,?_⟩;conv=>whnf))
      refine ⟨by omega, by rw [ByteArray.size_extract, ByteArray.size_extract]; omega, ?_⟩
      ((conv=>whnf);repeat(refine⟨rfl,?_⟩;conv=>whnf))
      (refine ⟨by omega, (by first | omega | (simp; done) | (simp; omega) | (simp only [ll]; omega)), ?_⟩; ((conv=>whnf);repeat(refine⟨rfl,?_⟩;conv=>whnf)))
      refine ⟨_, last_get _ _, ?_⟩
      rw [show (i : Int).toNat = i by omega, show ((i : Int) + 1).toNat = i + 1 by omega, ext_step hf hi']
      ((conv=>whnf);repeat(refine⟨rfl,?_⟩;conv=>whnf))
      (refine .inl ⟨by (unfold InR; rw [IntKind.wrap_i64]; omega), ?_⟩; ((conv=>whnf);repeat(refine⟨rfl,?_⟩;conv=>whnf)))
      refine ⟨(i + 1, f, out.length, out), ⟨rfl, by omega, by omega, ho, by rw [he, fndE_step hi' g2]⟩, by dsimp only; omega, leB_envH (by (repeat' (first | exact trivial | refine And.intro rfl ?_))) ?_⟩
      exact congrArg (fun x => [AObj.vec true out.length 1 x]) (last_set out (s.extract f i) (s.extract f (i + 1)))
  · have hi' : i = s.size := by ((try simp only[oo,reduceCtorEq]at*)<;>omega)
    have e1 : fndE 32 s f = s.size := by rw [he, hi', fndE_out (Nat.le_refl _)]
    rw [pcs_last (by omega), e1] at ho
    subst hi'
    rw [← ho, dstrs_rows]
    refine .own 0 _ _ _ 1 true _ _ rfl ?_
    refine deepLL_eq ?_
    simp [List.take_of_length_le]
end Go.Proofs.YtgkodbnomgabdaaDoor
