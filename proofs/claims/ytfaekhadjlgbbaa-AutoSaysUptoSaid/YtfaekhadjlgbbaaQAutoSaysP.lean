/-
  watchlaw.AutoSays returns true for every automaton and every word, and each argument reads afterwards as it read before. The condition: both together are of a bulk of at most 1048576.
-/
import Derived.Test.YtfaekhadjlgbbaaQDC
import Derived.Test.YtfaekhadjlgbbaaQAub
import Derived.Test.YtfaekhadjlgbbaaQAf
import Derived.Test.YtfaekhadjlgbbaaQLas2
import Derived.Test.YtfaekhadjlgbbaaRows
import Derived.Deep.CondSized
import Derived.JoinedCond
namespace Go.Proofs.Ytfaekhadjlgbbaa
open Go.RowKit Go.ChangeShapes Go.WideShapes Go.ChangeAt
set_option linter.unusedSimpArgs false
set_option linter.unusedVariables false
def c27 : PC := .seq (.ops [⟨some 1,.box (.tmp 0),none,0⟩,
 ⟨some 2,.alloc [(.slice none 0 0), (.slice none 0 0)],none,0⟩,
 ⟨some 3,.move (.const (.int .i64 0)),none,0⟩] false) (.seq (.seq (.ops [⟨some 5,.loadA 2 (.tmp 1),none,0⟩,
 ⟨some 6,.call 26 [(.tmp 5)],none,0⟩,
 ⟨some 4,.move (.tmp 6),none,0⟩] false) (.seq (.ops [⟨some 7,.move (.tmp 4),none,0⟩,
 ⟨some 8,.bin .neq (.tmp 7) (.const (.int .i64 0)),none,0⟩] false) (.cond (.tmp 8) (.seq (.ops [⟨some 9,.build [(.slice none 0 0), (.slice none 0 0)] [],none,0⟩,
 ⟨some 10,.move (.tmp 4),none,0⟩,
 ⟨none,.store 2 (.tmp 2) (.tmp 9),none,0⟩,
 ⟨some 3,.move (.tmp 10),none,0⟩] false) (.ret)) (.skip)))) (.seq (.ops [⟨some 11,.loadA 2 (.tmp 1),none,0⟩,
 ⟨some 12,.call 86 [(.tmp 11)],none,0⟩,
 ⟨none,.store 2 (.tmp 2) (.tmp 12),none,0⟩,
 ⟨some 3,.move (.const (.int .i64 0)),none,0⟩] false) (.ret)))
set_option maxRecDepth 100000 in
theorem c27_ok : FunOK Try.prog 27 13 [.agg 2 2, .tmp 3] c27 := ⟨⟨Try.f27, Try.func27, rfl, by kernel_rfl, rfl, by kernel_rfl⟩⟩
theorem las_Least1 (s l : List Int) (h : wchk s l = 0) (a p : Nat) (hN : Norm (atW s l) s.length l.length a p) :
    PCall Try.prog 27 [dword s l] (.tup [dword (seg (atW s l) 0 a) (seg (atW s l) a p), .sc (.int .i64 0)]) := by
  refine pcall_intro c27_ok (by simp) (by simp [PureL, pure_dword]) ?_ (by simp [Pure, PureL, pure_dword])
  (apply rd_sound; focus (repeat' constructor))
  ((conv=>whnf);repeat(refine .intro rfl ?_;conv=>whnf))
  (refine .inl ⟨_, (las_Check s l), ?_⟩; ((conv=>whnf);repeat(refine .intro rfl ?_;conv=>whnf)))
  (refine ifK_split (fun h1 => ?_) (fun h1 => ?_) <;> (rw [h1]; ((conv=>whnf);repeat(refine .intro rfl ?_;conv=>whnf))))
  · exfalso; ((try simp only[oo,reduceCtorEq]at*)<;>omega)
  · (refine .inl ⟨_, (las_least s l a p hN ((wchk_zero s l).1 h).1), ?_⟩; ((conv=>whnf);repeat(refine .intro rfl ?_;conv=>whnf)))
    exact .refl _
theorem AutoD.Tame.fits {A : AutoD} (hT : A.Tame) (h : A.next.length ≤ 1048576) (h2 : A.fair.length ≤ 1048576) (h3 : A.must.length ≤ 1048576) (h4 : A.nots.length ≤ 1048576) : A.Fits :=
  ⟨by have := hT.start; omega, by omega, by omega, by omega, by omega, fun l hl => by have := hT.next l hl; omega, fun l hl => by have := hT.fair l hl; omega⟩
def c9 : PC := .seq (.ops [⟨some 2,.box (.tmp 0),none,0⟩,
 ⟨some 3,.box (.tmp 1),none,0⟩,
 ⟨some 4,.move (.const (.bool false)),none,0⟩,
 ⟨some 5,.move (.const (.int .i64 0)),none,0⟩] false) (.seq (.seq (.ops [⟨some 9,.loadA 5 (.tmp 2),none,0⟩,
 ⟨some 10,.call 10 [(.tmp 9)],none,0⟩,
 ⟨some 6,.move (.tmp 10),none,0⟩] false) (.seq (.ops [⟨some 11,.move (.tmp 6),none,0⟩,
 ⟨some 12,.bin .neq (.tmp 11) (.const (.int .i64 0)),none,0⟩] false) (.cond (.tmp 12) (.seq (.ops [⟨some 13,.move (.tmp 6),none,0⟩,
 ⟨some 4,.move (.const (.bool false)),none,0⟩,
 ⟨some 5,.move (.tmp 13),none,0⟩] false) (.ret)) (.skip)))) (.seq (.seq (.ops [⟨some 14,.loadA 2 (.tmp 3),none,0⟩,
 ⟨some 15,.call 26 [(.tmp 14)],none,0⟩,
 ⟨some 7,.move (.tmp 15),none,0⟩] false) (.seq (.ops [⟨some 16,.move (.tmp 7),none,0⟩,
 ⟨some 17,.bin .neq (.tmp 16) (.const (.int .i64 0)),none,0⟩] false) (.cond (.tmp 17) (.seq (.ops [⟨some 18,.move (.tmp 7),none,0⟩,
 ⟨some 4,.move (.const (.bool false)),none,0⟩,
 ⟨some 5,.move (.tmp 18),none,0⟩] false) (.ret)) (.skip)))) (.seq (.ops [⟨some 20,.loadA 2 (.tmp 3),none,0⟩,
 ⟨some 21,.call 27 [(.tmp 20)],none,0⟩,
 ⟨some 19,.move (.tmp 21),none,0⟩,
 ⟨some 22,.ext 0 (.tmp 19),none,0⟩,
 ⟨some 23,.ext 1 (.tmp 19),none,0⟩,
 ⟨none,.store 2 (.tmp 3) (.tmp 22),none,0⟩] false) (.seq (.ops [⟨some 24,.faddr 1 (.tmp 2),none,0⟩,
 ⟨some 25,.load1 (.tmp 24),none,0⟩,
 ⟨some 26,.len (.tmp 25),none,0⟩,
 ⟨some 8,.move (.tmp 26),none,0⟩] false) (.seq (.seq (.ops [⟨some 27,.move (.tmp 8),none,0⟩,
 ⟨some 28,.bin .eql (.tmp 27) (.const (.int .i64 0)),none,0⟩] false) (.cond (.tmp 28) (.seq (.ops [⟨some 4,.move (.const (.bool false)),none,0⟩,
 ⟨some 5,.move (.const (.int .i64 0)),none,0⟩] false) (.ret)) (.skip))) (.seq (.ops [⟨some 29,.loadA 5 (.tmp 2),none,0⟩,
 ⟨some 30,.loadA 2 (.tmp 3),none,0⟩,
 ⟨some 31,.move (.tmp 8),none,0⟩,
 ⟨some 32,.call 28 [(.tmp 29), (.tmp 30), (.tmp 31)],none,0⟩,
 ⟨some 4,.move (.tmp 32),none,0⟩,
 ⟨some 5,.move (.const (.int .i64 0)),none,0⟩] false) (.ret)))))))
set_option maxRecDepth 100000 in
theorem c9_ok : FunOK Try.prog 9 33 [.tmp 4, .tmp 5] c9 := ⟨⟨Try.f9, Try.func9, rfl, by kernel_rfl, rfl, by kernel_rfl⟩⟩
theorem au_Accepts_bad (A : AutoD) (hA : A.Fits) (h : A.chk ≠ 0) (s l : List Int) : PCall Try.prog 9 [dauto A, dword s l] (.tup [.sc (.bool false), .sc (.int .i64 A.chk)]) := by
  refine pcall_intro c9_ok (by simp) (by simp [PureL, pure_dauto, pure_dword]) ?_ (by simp [Pure, PureL])
  have hC := au_Check A hA
  generalize A.chk = c at *
  unfold dauto at *
  (apply rd_sound; focus (repeat' constructor))
  ((conv=>whnf);repeat(refine .intro rfl ?_;conv=>whnf))
  (refine .inl ⟨_, hC, ?_⟩; ((conv=>whnf);repeat(refine .intro rfl ?_;conv=>whnf)))
  (refine ifK_split (fun h1 => ?_) (fun h1 => ?_) <;> (rw [h1]; ((conv=>whnf);repeat(refine .intro rfl ?_;conv=>whnf))))
  · exact .refl _
  · exact absurd (by ((try simp only[oo,reduceCtorEq]at*)<;>omega)) h
theorem au_Accepts_arg (A : AutoD) (hA : A.Fits) (h : A.chk = 0) (s l : List Int) (hw : wchk s l ≠ 0) : PCall Try.prog 9 [dauto A, dword s l] (.tup [.sc (.bool false), .sc (.int .i64 (wchk s l))]) := by
  refine pcall_intro c9_ok (by simp) (by simp [PureL, pure_dauto, pure_dword]) ?_ (by simp [Pure, PureL])
  have hC := au_Check A hA
  rw [h] at hC
  have hW := las_Check s l
  generalize wchk s l = c at *
  unfold dauto dword at *
  (apply rd_sound; focus (repeat' constructor))
  ((conv=>whnf);repeat(refine .intro rfl ?_;conv=>whnf))
  (refine .inl ⟨_, hC, ?_⟩; ((conv=>whnf);repeat(refine .intro rfl ?_;conv=>whnf)))
  (refine .inl ⟨_, hW, ?_⟩; ((conv=>whnf);repeat(refine .intro rfl ?_;conv=>whnf)))
  (refine ifK_split (fun h1 => ?_) (fun h1 => ?_) <;> (rw [h1]; ((conv=>whnf);repeat(refine .intro rfl ?_;conv=>whnf))))
  · exact .refl _
  · exact absurd (by ((try simp only[oo,reduceCtorEq]at*)<;>omega)) hw
theorem au_Accepts_ok (A : AutoD) (hA : A.Fits) (hT : A.Tame) (h : A.chk = 0) (s l : List Int) (hw : wchk s l = 0) (b : Bool) (hb : b = true ↔ ∃ t ∈ A.start, fitsV A t.toNat (atW s l 0) = true ∧ Fw (prodR A (atW s l) s.length l.length) (A.fair.map (setR (s.length + l.length))) (t.toNat * (s.length + l.length))) :
    PCall Try.prog 9 [dauto A, dword s l] (.tup [.sc (.bool b), .sc (.int .i64 0)]) := by
  obtain ⟨hm, hnn, h2048, h80, hst, hin, hfr⟩ := chk_auto A h
  obtain ⟨h60, h1⟩ := (wchk_zero s l).1 hw
  refine pcall_intro c9_ok (by simp) (by simp [PureL, pure_dauto, pure_dword]) ?_ (by simp [Pure, PureL])
  have hC := au_Check A hA
  rw [h] at hC
  have hW := las_Check s l
  rw [hw] at hW
  obtain ⟨a, p, hN⟩ := norm_exists h1 (fun i hi => atW_per s l hi : Per (atW s l) s.length l.length)
  have hLe := las_Least1 s l hw a p hN
  have n1 := hN.as
  have n2 := hN.pm
  have n3 := hN.p1
  have hAc := fun h1 => au_accepts A h hT h1 (atW s l) a p hN.p1 (by omega) b (by
    rw [hb]
    refine exists_congr fun t => and_congr_right fun ht => and_congr_right fun _ => ?_
    have hx := inB_mem hst ht
    rw [prod_same hin hN ((Nat.mul_lt_mul_of_pos_right (by omega) (by omega)))]
    have e : pairM A.next.length (s.length + l.length) a p (t.toNat * (s.length + l.length)) = t.toNat := by
      have hd := divmod_at (n := s.length + l.length) (k := t.toNat) (j := 0) (by omega)
      rw [Nat.add_zero] at hd
      unfold pairM
      rw [hd.1, hd.2]
      unfold redW
      split
      · omega
      · rw [show a = 0 by omega]; simp
    rw [e])
  unfold dauto dword at *
  (apply rd_sound; focus (repeat' constructor))
  ((conv=>whnf);repeat(refine .intro rfl ?_;conv=>whnf))
  (refine .inl ⟨_, hC, ?_⟩; ((conv=>whnf);repeat(refine .intro rfl ?_;conv=>whnf)))
  (refine .inl ⟨_, hW, ?_⟩; ((conv=>whnf);repeat(refine .intro rfl ?_;conv=>whnf)))
  (refine .inl ⟨_, hLe, ?_⟩; ((conv=>whnf);repeat(refine .intro rfl ?_;conv=>whnf)))
  rw [List.length_map]
  (refine ifK_split (fun g => ?_) (fun g => ?_) <;> (rw [g]; ((conv=>whnf);repeat(refine .intro rfl ?_;conv=>whnf))))
  · have hb' : b = false := by
      rw [← Bool.not_eq_true, hb]
      rintro ⟨t, ht, _⟩
      have hx := inB_mem hst ht
      have : A.next.length = 0 := by ((try simp only[oo,reduceCtorEq]at*)<;>omega)
      omega
    rw [hb']
    exact .refl _
  · (refine .inl ⟨_, (hAc (by ((try simp only[oo,reduceCtorEq]at*)<;>omega))), ?_⟩; ((conv=>whnf);repeat(refine .intro rfl ?_;conv=>whnf)))
    exact .refl _
def c3 : PC := .seq (.ops [⟨some 2,.box (.tmp 0),none,0⟩,
 ⟨some 3,.box (.tmp 1),none,0⟩,
 ⟨some 4,.move (.const (.bool false)),none,0⟩] false) (.seq (.ops [⟨some 8,.loadA 5 (.tmp 2),none,0⟩,
 ⟨some 9,.call 8 [(.tmp 8)],none,0⟩,
 ⟨some 5,.move (.tmp 9),none,0⟩] false) (.seq (.ops [⟨some 11,.loadA 5 (.tmp 2),none,0⟩,
 ⟨some 12,.loadA 2 (.tmp 3),none,0⟩,
 ⟨some 13,.call 9 [(.tmp 11), (.tmp 12)],none,0⟩,
 ⟨some 10,.move (.tmp 13),none,0⟩,
 ⟨some 14,.ext 0 (.tmp 10),none,0⟩,
 ⟨some 15,.ext 1 (.tmp 10),none,0⟩,
 ⟨some 6,.move (.tmp 14),none,0⟩,
 ⟨some 7,.move (.tmp 15),none,0⟩] false) (.seq (.seq (.ops [⟨some 16,.loadA 5 (.tmp 2),none,0⟩,
 ⟨some 17,.call 10 [(.tmp 16)],none,0⟩,
 ⟨some 18,.move (.tmp 5),none,0⟩,
 ⟨some 19,.bin .neq (.tmp 17) (.tmp 18),none,0⟩] false) (.cond (.tmp 19) (.seq (.ops [⟨some 4,.move (.const (.bool false)),none,0⟩] false) (.ret)) (.skip))) (.seq (.seq (.ops [⟨some 20,.move (.tmp 5),none,0⟩,
 ⟨some 21,.bin .eql (.tmp 20) (.const (.int .i64 0)),none,0⟩] false) (.cond (.tmp 21) (.ops [⟨some 22,.loadA 2 (.tmp 3),none,0⟩,
 ⟨some 23,.call 11 [(.tmp 22)],none,0⟩,
 ⟨some 5,.move (.tmp 23),none,0⟩] false) (.skip))) (.seq (.seq (.ops [⟨some 24,.move (.tmp 5),none,0⟩,
 ⟨some 25,.bin .neq (.tmp 24) (.const (.int .i64 0)),none,0⟩] false) (.cond (.tmp 25) (.seq (.ops [⟨some 26,.move (.tmp 7),none,0⟩,
 ⟨some 27,.move (.tmp 5),none,0⟩,
 ⟨some 28,.bin .eql (.tmp 26) (.tmp 27),none,0⟩,
 ⟨some 29,.move (.tmp 28),none,0⟩,
 ⟨some 30,.move (.tmp 6),some (29,true),0⟩,
 ⟨some 31,.un .not (.tmp 30),some (29,true),0⟩,
 ⟨some 32,.pick (.tmp 29) (.tmp 31) (.const (.bool false)),none,0⟩,
 ⟨some 4,.move (.tmp 32),none,0⟩] false) (.ret)) (.skip))) (.seq (.ops [⟨some 33,.move (.tmp 7),none,0⟩,
 ⟨some 34,.bin .eql (.tmp 33) (.const (.int .i64 0)),none,0⟩,
 ⟨some 35,.move (.tmp 34),none,0⟩,
 ⟨some 36,.faddr 1 (.tmp 2),some (35,true),0⟩,
 ⟨some 37,.load1 (.tmp 36),some (35,true),0⟩,
 ⟨some 38,.len (.tmp 37),some (35,true),0⟩,
 ⟨some 39,.faddr 0 (.tmp 3),some (35,true),0⟩,
 ⟨some 40,.load1 (.tmp 39),some (35,true),0⟩,
 ⟨some 41,.len (.tmp 40),some (35,true),0⟩,
 ⟨some 42,.faddr 1 (.tmp 3),some (35,true),0⟩,
 ⟨some 43,.load1 (.tmp 42),some (35,true),0⟩,
 ⟨some 44,.len (.tmp 43),some (35,true),0⟩,
 ⟨some 45,.bin .add (.tmp 41) (.tmp 44),some (35,true),0⟩,
 ⟨some 46,.bin .mul (.tmp 38) (.tmp 45),some (35,true),0⟩,
 ⟨some 47,.bin .gtr (.tmp 46) (.const (.int .i64 3000)),some (35,true),0⟩,
 ⟨some 48,.move (.tmp 47),some (35,true),0⟩,
 ⟨some 49,.move (.tmp 6),some (48,false),0⟩,
 ⟨some 50,.loadA 5 (.tmp 2),some (48,false),0⟩,
 ⟨some 51,.loadA 2 (.tmp 3),some (48,false),0⟩,
 ⟨some 52,.call 12 [(.tmp 50), (.tmp 51)],some (48,false),0⟩,
 ⟨some 53,.eqb false (.tmp 49) (.tmp 52),some (48,false),0⟩,
 ⟨some 54,.pick (.tmp 48) (.const (.bool true)) (.tmp 53),some (35,true),0⟩,
 ⟨some 55,.pick (.tmp 35) (.tmp 54) (.const (.bool false)),none,0⟩,
 ⟨some 4,.move (.tmp 55),none,0⟩] false) (.ret)))))))
set_option maxRecDepth 100000 in
theorem c3_ok : FunOK Try.prog 3 56 [.tmp 4] c3 := ⟨⟨Try.f3, Try.func3, rfl, by kernel_rfl, rfl, by kernel_rfl⟩⟩
set_option maxRecDepth 100000 in
theorem law_AutoSays (A : AutoD) (hA : A.Fits) (hT : A.Tame) (hM : Lett A.must) (s l : List Int) : PCall Try.prog 3 [dauto A, dword s l] (dbool true) := by
  refine pcall_intro c3_ok (by simp) (by simp [PureL, pure_dauto, pure_dword]) ?_ (by simp [dbool, Pure])
  have hR := ref_Auto A hA
  have hC := au_Check A hA
  by_cases h : A.chk = 0
  · have hW := ref_Word s l
    rw [h] at hR hC
    by_cases hw : wchk s l = 0
    · obtain ⟨hm, hnn, h2048, h80, hst, hin, hfr⟩ := chk_auto A h
      obtain ⟨h60, h1⟩ := (wchk_zero s l).1 hw
      have hnm : A.next.length * (s.length + l.length) ≤ 2048 * 60 := Nat.mul_le_mul h2048 h60
      obtain ⟨b, hb⟩ : ∃ b : Bool, b = true ↔ ∃ t ∈ A.start, fitsV A t.toNat (atW s l 0) = true ∧ Fw (prodR A (atW s l) s.length l.length) (A.fair.map (setR (s.length + l.length))) (t.toNat * (s.length + l.length)) := ⟨@decide _ (Classical.propDecidable _), @decide_eq_true_iff _ (Classical.propDecidable _)⟩
      have hAc := au_Accepts_ok A hA hT h s l hw b hb
      have hRA := ref_Accepts A h hT hM s l hw b hb
      rw [hw] at hW
      clear hb
      unfold dauto dword wcells dlet at *
      (apply rd_sound; focus (repeat' constructor))
      ((conv=>whnf);repeat(refine .intro rfl ?_;conv=>whnf))
      (refine .inl ⟨_, hR, ?_⟩; ((conv=>whnf);repeat(refine .intro rfl ?_;conv=>whnf)))
      (refine .inl ⟨_, hAc, ?_⟩; ((conv=>whnf);repeat(refine .intro rfl ?_;conv=>whnf)))
      (refine .inl ⟨_, hC, ?_⟩; ((conv=>whnf);repeat(refine .intro rfl ?_;conv=>whnf)))
      (refine .inl ⟨_, hW, ?_⟩; ((conv=>whnf);repeat(refine .intro rfl ?_;conv=>whnf)))
      rw [List.length_map, List.length_map, List.length_map]
      (refine .inl ⟨by (unfold InR; rw [IntKind.wrap_i64]; omega), ?_⟩; ((conv=>whnf);repeat(refine .intro rfl ?_;conv=>whnf)))
      rw [show ((A.next.length : Int) * ((s.length : Int) + (l.length : Int))) = ((A.next.length * (s.length + l.length) : Nat) : Int) by rw [Int.natCast_mul, Int.natCast_add]]
      (refine .inl ⟨by (unfold InR; rw [IntKind.wrap_i64]; omega), ?_⟩; ((conv=>whnf);repeat(refine .intro rfl ?_;conv=>whnf)))
      (refine ifK_split (fun g => ?_) (fun g => ?_) <;> (rw [g]; ((conv=>whnf);repeat(refine .intro rfl ?_;conv=>whnf))))
      · exact .refl _
      · (refine .inl ⟨_, hRA, ?_⟩; ((conv=>whnf);repeat(refine .intro rfl ?_;conv=>whnf)))
        exact deep_eq (by simp [dbool])
    · have hAc := au_Accepts_arg A hA h s l hw
      generalize wchk s l = c at *
      unfold dauto dword at *
      (apply rd_sound; focus (repeat' constructor))
      ((conv=>whnf);repeat(refine .intro rfl ?_;conv=>whnf))
      (refine .inl ⟨_, hR, ?_⟩; ((conv=>whnf);repeat(refine .intro rfl ?_;conv=>whnf)))
      (refine .inl ⟨_, hAc, ?_⟩; ((conv=>whnf);repeat(refine .intro rfl ?_;conv=>whnf)))
      (refine .inl ⟨_, hC, ?_⟩; ((conv=>whnf);repeat(refine .intro rfl ?_;conv=>whnf)))
      (refine .inl ⟨_, hW, ?_⟩; ((conv=>whnf);repeat(refine .intro rfl ?_;conv=>whnf)))
      (refine ifK_split (fun g => ?_) (fun g => ?_) <;> (rw [g]; ((conv=>whnf);repeat(refine .intro rfl ?_;conv=>whnf))))
      · rw [show (c == c) = true by simp]
        ((conv=>whnf);repeat(refine .intro rfl ?_;conv=>whnf))
        exact .refl _
      · exfalso; ((try simp only[oo,reduceCtorEq]at*)<;>omega)
  · have hAc := au_Accepts_bad A hA h s l
    generalize A.chk = c at *
    unfold dauto dword at *
    (apply rd_sound; focus (repeat' constructor))
    ((conv=>whnf);repeat(refine .intro rfl ?_;conv=>whnf))
    (refine .inl ⟨_, hR, ?_⟩; ((conv=>whnf);repeat(refine .intro rfl ?_;conv=>whnf)))
    (refine .inl ⟨_, hAc, ?_⟩; ((conv=>whnf);repeat(refine .intro rfl ?_;conv=>whnf)))
    (refine .inl ⟨_, hC, ?_⟩; ((conv=>whnf);repeat(refine .intro rfl ?_;conv=>whnf)))
    rw [show (c != c) = false by simp]
    ((conv=>whnf);repeat(refine .intro rfl ?_;conv=>whnf))
    (refine ifK_split (fun g => ?_) (fun g => ?_) <;> (rw [g]; ((conv=>whnf);repeat(refine .intro rfl ?_;conv=>whnf))))
    · exfalso; ((try simp only[oo,reduceCtorEq]at*)<;>omega)
    (refine ifK_split (fun g2 => ?_) (fun g2 => ?_) <;> (rw [g2]; ((conv=>whnf);repeat(refine .intro rfl ?_;conv=>whnf))))
    · rw [show (c == c) = true by simp]
      ((conv=>whnf);repeat(refine .intro rfl ?_;conv=>whnf))
      exact .refl _
    · exfalso; ((try simp only[oo,reduceCtorEq]at*)<;>omega)
namespace autoSays
set_option maxRecDepth 100000 in
theorem law : ∀ Ds, OfAsz Try.prog 1048576 [26, 28] Ds → PCall Try.prog 3 Ds (dbool true)
  | [d, e], h => by
    have h1 := h.1
    have h2 := h.2.1
    unfold OfAz at h1 h2
    rw [Try.underlying26] at h1
    rw [Try.underlying28] at h2
    obtain ⟨cs, rfl, h1⟩ := h1
    obtain ⟨ds, rfl, h2⟩ := h2
    have k1 := of_struct Try.underlying26 h1
    have k2 := of_struct Try.underlying28 h2
    simp only [List.map_cons, List.map_nil] at k1 k2
    obtain ⟨start, r, rfl, b1, _, k1⟩ := fListL (L := 1048575) Try.underlying22 Try.underlying3 (by kernel_rfl) k1
    obtain ⟨next, r, rfl, b2, k1⟩ := fGridL (L := 1048575) Try.underlying23 Try.underlying22 Try.underlying3 (by kernel_rfl) (by kernel_rfl) k1
    obtain ⟨must, r, rfl, b3, c3, k1⟩ := fListL (L := 1048575) Try.underlying24 Try.underlying62 (by kernel_rfl) k1
    obtain ⟨nots, r, rfl, b4, _, k1⟩ := fListL (L := 1048575) Try.underlying24 Try.underlying62 (by kernel_rfl) k1
    obtain ⟨fair, r, rfl, b5, k1⟩ := fGridL (L := 1048575) Try.underlying23 Try.underlying22 Try.underlying3 (by kernel_rfl) (by kernel_rfl) k1
    obtain rfl := ofTs_nil k1
    obtain ⟨s, r, rfl, d1, _, k2⟩ := fListL (L := 1048575) Try.underlying24 Try.underlying62 (by kernel_rfl) k2
    obtain ⟨l, r, rfl, d2, _, k2⟩ := fListL (L := 1048575) Try.underlying24 Try.underlying62 (by kernel_rfl) k2
    obtain rfl := ofTs_nil k2
    have hT : AutoD.Tame ⟨start, next, must, nots, fair⟩ := ⟨b1, b2.2, b5.2⟩
    exact law_AutoSays ⟨start, next, must, nots, fair⟩ (hT.fits b2.1 b5.1 b3 b4) hT (fun x hx => by have := c3 x hx; rw [show IntKind.u64.min = 0 from rfl, show IntKind.u64.max = 18446744073709551615 from rfl] at this; omega) s l
theorem types : typesOK Try.prog [26, 28, 22, 23, 24, 3, 62] = true := by kernel_rfl
set_option maxRecDepth 100000 in
theorem laidOut : laidOutB Try.prog = true := by kernel_rfl
set_option maxRecDepth 100000 in
theorem readable : (Try.f3.params.toList.all fun t => Try.prog.readableRec t && decide (t < Try.prog.types.size)) = true := by kernel_rfl
theorem own : ownKnob Try.prog.godebug = none := by kernel_rfl
theorem one_le {H : Type} (d : DataW H) : 1 ≤ Rows.uptoBulk d := by
  cases d with
  | lit l => cases l <;> simp [Rows.uptoBulk]
  | _ => simp [Rows.uptoBulk]
theorem length_le {H : Type} (l : List (DataW H)) : l.length ≤ Rows.uptoBulkAll l := by
  induction l with
  | nil => simp [Rows.uptoBulkAll]
  | cons x r ih => have := one_le x; simp only [Rows.uptoBulkAll, List.length_cons]; omega
mutual
theorem lens_of {H : Type} {L : Nat} : ∀ d : DataW H, Rows.uptoBulk d ≤ L → lens L d
  | .lit (.string b), h => by simp only [Rows.uptoBulk] at h; simp only [lens]; omega
  | .lit (.bool _), _ | .lit (.int _ _), _ | .lit (.float _ _), _ | .lit .nil, _ => by simp only [lens]
  | .nil, _ | .ptr _, _ | .iface _ _, _ | .map _, _ | .held _, _ => by simp only [lens]
  | .slice elems spare, h => by
    simp only [Rows.uptoBulk] at h
    simp only [lens]
    have := length_le elems
    exact ⟨by omega, lensAll_of elems (by omega)⟩
  | .agg parts, h => by
    simp only [Rows.uptoBulk] at h
    simp only [lens]
    exact lensAll_of parts (by omega)
theorem lensAll_of {H : Type} {L : Nat} : ∀ l : List (DataW H), Rows.uptoBulkAll l ≤ L → lensAll L l
  | [], _ => by simp only [lensAll]
  | d :: r, h => by
    simp only [Rows.uptoBulkAll] at h
    simp only [lensAll]
    exact ⟨lens_of d (by omega), lensAll_of r (by omega)⟩
end
theorem bulk_app {H : Type} : ∀ l r : List (DataW H), Rows.uptoBulkAll (l ++ r) = Rows.uptoBulkAll l + Rows.uptoBulkAll r
  | [], r => by simp [Rows.uptoBulkAll]
  | d :: l, r => by simp only [List.cons_append, Rows.uptoBulkAll, bulk_app l r]; omega
set_option maxRecDepth 100000 in
theorem lifted (os : Os) (started : os.Started) (H : Type) (enc : TypeId × Value → H) (F : Stop.Interp) :
    ReturnsInHanded {} Try.checked os 3 .any ((Rows.OpenSpec.upto Rows.autoSaysSpec).pre6 enc Try.prog Try.f3 Rows.autoSaysUptoRow.domain false) (((Rows.OpenSpec.upto Rows.autoSaysSpec).at F).post enc Try.prog Try.f3 false true false false) := by
  refine returnsInHanded_of_cond_sized (C := Try.checked) (s := Rows.OpenSpec.upto Rows.autoSaysSpec) (k := Rows.uptoSmall) rfl own started (by kernel_rfl) Try.func3
    (OpenSpec.witness (enc := enc) (C := Try.checked) (s := Rows.OpenSpec.upto Rows.autoSaysSpec) (k := Rows.uptoSmall) rfl false ⟨#[], #[.agg #[.slice none 0 0, .slice none 0 0, .slice none 0 0, .slice none 0 0, .slice none 0 0], .agg #[.slice none 0 0, .slice none 0 0]], []⟩ 8 (by kernel_rfl) (by kernel_rfl) (by kernel_rfl)
      (x := ([.agg [.nil, .nil, .nil, .nil, .nil], .agg [.nil, .nil]], [], [])) (by kernel_rfl) rfl (by kernel_rfl)) ?_
  intro W base args ds gs before hval0 hW _ hk hsz _
  have hval : ∀ (j : Nat) t v, Try.f3.params[j]? = some t → args[j]? = some v → Value.okWide Try.prog W .any base t v := hval0
  have hW' := hW
  obtain ⟨p, q, hA0, hV, _, hfz, hnd⟩ := hW
  have hA : DataW.TrodAll enc Try.prog W 0 (fun _ => true) true Try.f3.params.toList args.toList ds p := hA0
  have hps : Try.f3.params.toList = [26, 28] := by kernel_rfl
  have hb : Rows.uptoBulkAll (ds ++ gs) ≤ 1048576 := of_decide_eq_true hk
  rw [bulk_app] at hb
  obtain ⟨Ds, hD, hR⟩ := args_repL (L := 1048576) types (base := base) _ _ _ _ (fun t ht => by rw [hps] at ht; revert t; decide) (fun j t v h1 h2 => hval j t v (by simpa using h1) (by simpa using h2)) hA (fun n hn => by
    have := List.all_eq_true.1 hsz n (weightsEach_pre _ _ _ _ (trodAll_len _ _ _ _ hA).symm n hn)
    simpa using this) (.inr (lensAll_of ds (by omega)))
  rw [hps] at hD
  have hC := (law Ds hD).run noInj (There W) W args.toList (fun b h => h) hR
  rw [show args.toList.toArray = args from rfl] at hC
  refine hC.mono fun e W' ⟨v, F', he, _, hv, hx⟩ => ?_
  have hv' : v = .bool true := by simpa only [rep, dbool] using hv
  subst he hv'
  exact ⟨_, rfl, row_post hW' rfl (by kernel_rfl) Try.underlying4 laidOut (fun t ht => by
      have := List.all_eq_true.1 readable t ht
      simp only [Bool.and_eq_true, decide_eq_true_eq] at this
      exact this) (fun ds h => by rw [hps] at h; match ds, h with | [_, _], _ => rfl) (below_of_ext hx) (ok_one (by kernel_rfl) rfl (okWide_bool_mk Try.underlying4 _))⟩

theorem proved : Rows.AutoSaysUptoSaid :=
  OpenClaim.holds_of_cond 3 Try.f3 rfl rfl rfl rfl rfl rfl rfl ⟨rfl, rfl, rfl, rfl, rfl⟩ rfl rfl rfl rfl rfl (by kernel_rfl) Try.func3 (by kernel_rfl)
    (of_decide_eq_true (by kernel_rfl)) (by unfold Func.isWrapper; first | (rw [if_pos (by decide +kernel)]; kernel_rfl) | (rw [if_neg (by decide +kernel)]; exact ⟨rfl, rfl⟩))
    (fun os started H enc _ F => lifted os started H enc F)
end autoSays
end Go.Proofs.Ytfaekhadjlgbbaa
