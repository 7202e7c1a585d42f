/-
  The reference's fair ways, over deep values. No statement is proved here.
-/
import Derived.Test.YtfgklgjbnpjpoaaQWpl
namespace Go.Proofs.Ytfgklgjbnpjpoaa
open Go.RowKit
set_option linter.unusedSimpArgs false
set_option linter.unusedVariables false
theorem inB_len {s : List Int} {n : Nat} {k : Nat} (h : inB s n = true) (hk : k < s.length) : 0 ≤ s[k] ∧ (s[k]).toNat < n := by
  have := inB_get h hk
  omega
theorem roundA_in {s l : List Int} {n : Nat} (hs : inB s n = true) (hl : inB l n = true) (hne : l.length ≠ 0) : inB (roundA s l) n = true := by
  unfold roundA inB at *
  rw [List.all_append, List.all_append, hs, hl]
  have := (List.all_eq_true.1 hl) (l[0]'(by omega)) (List.getElem_mem _)
  have e : l.getD 0 0 = l[0]'(by omega) := by rw [List.getD_eq_getElem?_getD, List.getElem?_eq_getElem (by omega)]; rfl
  rw [e]
  simpa using this
theorem getD_get {l : List Int} {k : Nat} (h : k < l.length) : l[k] = l.getD k 0 := by rw [List.getD_eq_getElem?_getD, List.getElem?_eq_getElem h]; rfl
theorem one_len (x : List D) : (List.drop 0 (List.take 1 [x])).length = 1 := rfl
theorem any_swap (a b : List Int) : (a.any fun x => b.contains x) = (b.any fun x => a.contains x) := by
  rw [Bool.eq_iff_iff, List.any_eq_true, List.any_eq_true]
  constructor <;> rintro ⟨x, h1, h2⟩ <;> exact ⟨x, by simpa using h2, by simpa using h1⟩
def c45_1 : PC := .seq (.seq (.ops [⟨some 53,.move (.tmp 8),none,0⟩,
 ⟨some 54,.move (.tmp 7),none,0⟩,
 ⟨some 55,.len (.tmp 54),none,0⟩,
 ⟨some 56,.bin .lss (.tmp 53) (.tmp 55),none,0⟩] false) (.cond (.tmp 56) (.skip) (.exit 0))) (.seq (.block 1 (.seq (.ops [⟨some 59,.faddr 1 (.tmp 3),none,0⟩,
 ⟨some 60,.load1 (.tmp 59),none,1⟩,
 ⟨some 61,.move (.tmp 7),none,0⟩,
 ⟨some 62,.move (.tmp 8),none,0⟩,
 ⟨some 63,.bin .sub (.tmp 62) (.const (.int .i64 1)),none,8⟩,
 ⟨some 64,.iaddr 1 (.tmp 61) (.tmp 63),none,28⟩,
 ⟨some 65,.load1 (.tmp 64),none,60⟩,
 ⟨some 66,.iaddr 1 (.tmp 60) (.tmp 65),none,127⟩,
 ⟨some 67,.load1 (.tmp 66),none,255⟩,
 ⟨some 68,.move (.tmp 7),none,0⟩,
 ⟨some 69,.move (.tmp 8),none,0⟩,
 ⟨some 70,.iaddr 1 (.tmp 68) (.tmp 69),none,1536⟩,
 ⟨some 71,.load1 (.tmp 70),none,3584⟩,
 ⟨some 72,.call 60 [(.tmp 67), (.tmp 71)],none,8191⟩,
 ⟨some 73,.un .not (.tmp 72),none,16383⟩] true) (.cond (.tmp 73) (.seq (.ops [⟨some 6,.move (.const (.bool false)),none,0⟩] false) (.ret)) (.skip)))) (.ops [⟨some 57,.move (.tmp 8),none,0⟩,
 ⟨some 58,.bin .add (.tmp 57) (.const (.int .i64 1)),none,0⟩,
 ⟨some 8,.move (.tmp 58),none,0⟩] false))
def c45_3 : PC := .seq (.seq (.ops [⟨some 81,.move (.tmp 11),none,0⟩,
 ⟨some 82,.faddr 1 (.tmp 5),none,0⟩,
 ⟨some 83,.load1 (.tmp 82),none,0⟩,
 ⟨some 84,.len (.tmp 83),none,0⟩,
 ⟨some 85,.bin .lss (.tmp 81) (.tmp 84),none,0⟩] false) (.cond (.tmp 85) (.skip) (.exit 4))) (.seq (.block 5 (.ops [⟨some 88,.move (.tmp 10),none,0⟩,
 ⟨some 89,.move (.tmp 88),none,1⟩,
 ⟨some 90,.faddr 3 (.tmp 3),some (89,false),3⟩,
 ⟨some 91,.load1 (.tmp 90),some (89,false),7⟩,
 ⟨some 92,.move (.tmp 9),some (89,false),3⟩,
 ⟨some 93,.iaddr 1 (.tmp 91) (.tmp 92),some (89,false),31⟩,
 ⟨some 94,.load1 (.tmp 93),some (89,false),63⟩,
 ⟨some 95,.faddr 1 (.tmp 5),some (89,false),3⟩,
 ⟨some 96,.load1 (.tmp 95),some (89,false),131⟩,
 ⟨some 97,.move (.tmp 11),some (89,false),3⟩,
 ⟨some 98,.iaddr 1 (.tmp 96) (.tmp 97),some (89,false),899⟩,
 ⟨some 99,.load1 (.tmp 98),some (89,false),1923⟩,
 ⟨some 100,.call 60 [(.tmp 94), (.tmp 99)],some (89,false),4095⟩,
 ⟨some 101,.pick (.tmp 89) (.const (.bool true)) (.tmp 100),none,8191⟩,
 ⟨some 10,.move (.tmp 101),none,16383⟩] true)) (.ops [⟨some 86,.move (.tmp 11),none,0⟩,
 ⟨some 87,.bin .add (.tmp 86) (.const (.int .i64 1)),none,0⟩,
 ⟨some 11,.move (.tmp 87),none,0⟩] false))
def c45_2 : PC := .seq (.seq (.ops [⟨some 74,.move (.tmp 9),none,0⟩,
 ⟨some 75,.faddr 3 (.tmp 3),none,0⟩,
 ⟨some 76,.load1 (.tmp 75),none,0⟩,
 ⟨some 77,.len (.tmp 76),none,0⟩,
 ⟨some 78,.bin .lss (.tmp 74) (.tmp 77),none,0⟩] false) (.cond (.tmp 78) (.skip) (.exit 2))) (.seq (.block 3 (.seq (.ops [⟨some 10,.move (.const (.bool false)),none,0⟩] false) (.seq (.seq (.ops [⟨some 11,.move (.const (.int .i64 0)),none,0⟩] false) (.block 4 (.loop c45_3))) (.seq (.ops [⟨some 102,.move (.tmp 10),none,0⟩,
 ⟨some 103,.un .not (.tmp 102),none,0⟩] false) (.cond (.tmp 103) (.seq (.ops [⟨some 6,.move (.const (.bool false)),none,0⟩] false) (.ret)) (.skip)))))) (.ops [⟨some 79,.move (.tmp 9),none,0⟩,
 ⟨some 80,.bin .add (.tmp 79) (.const (.int .i64 1)),none,0⟩,
 ⟨some 9,.move (.tmp 80),none,0⟩] false))
def c45 : PC := .seq (.ops [⟨some 3,.box (.tmp 0),none,0⟩,
 ⟨some 5,.box (.tmp 2),none,0⟩,
 ⟨some 6,.move (.const (.bool false)),none,0⟩] false) (.seq (.seq (.ops [⟨some 12,.faddr 1 (.tmp 5),none,0⟩,
 ⟨some 13,.load1 (.tmp 12),none,0⟩,
 ⟨some 14,.len (.tmp 13),none,0⟩,
 ⟨some 15,.bin .eql (.tmp 14) (.const (.int .i64 0)),none,0⟩,
 ⟨some 16,.move (.tmp 15),none,0⟩,
 ⟨some 17,.faddr 0 (.tmp 5),some (16,false),0⟩,
 ⟨some 18,.load1 (.tmp 17),some (16,false),0⟩,
 ⟨some 19,.faddr 1 (.tmp 3),some (16,false),0⟩,
 ⟨some 20,.load1 (.tmp 19),some (16,false),0⟩,
 ⟨some 21,.len (.tmp 20),some (16,false),0⟩,
 ⟨some 22,.call 24 [(.tmp 18), (.tmp 21)],some (16,false),0⟩,
 ⟨some 23,.un .not (.tmp 22),some (16,false),0⟩,
 ⟨some 24,.pick (.tmp 16) (.const (.bool true)) (.tmp 23),none,0⟩,
 ⟨some 25,.move (.tmp 24),none,0⟩,
 ⟨some 26,.faddr 1 (.tmp 5),some (25,false),0⟩,
 ⟨some 27,.load1 (.tmp 26),some (25,false),0⟩,
 ⟨some 28,.faddr 1 (.tmp 3),some (25,false),0⟩,
 ⟨some 29,.load1 (.tmp 28),some (25,false),0⟩,
 ⟨some 30,.len (.tmp 29),some (25,false),0⟩,
 ⟨some 31,.call 24 [(.tmp 27), (.tmp 30)],some (25,false),0⟩,
 ⟨some 32,.un .not (.tmp 31),some (25,false),0⟩,
 ⟨some 33,.pick (.tmp 25) (.const (.bool true)) (.tmp 32),none,0⟩] false) (.cond (.tmp 33) (.seq (.ops [⟨some 6,.move (.const (.bool false)),none,0⟩] false) (.ret)) (.skip))) (.seq (.ops [⟨some 34,.faddr 0 (.tmp 5),none,0⟩,
 ⟨some 35,.load1 (.tmp 34),none,1⟩,
 ⟨some 36,.append 1 8 (.const (.slice none 0 0)) (.tmp 35),none,3⟩,
 ⟨some 37,.faddr 1 (.tmp 5),none,0⟩,
 ⟨some 38,.load1 (.tmp 37),none,8⟩,
 ⟨some 39,.append 1 8 (.tmp 36) (.tmp 38),none,31⟩,
 ⟨some 7,.move (.tmp 39),none,63⟩] true) (.seq (.ops [⟨some 40,.move (.tmp 7),none,0⟩,
 ⟨some 41,.faddr 1 (.tmp 5),none,0⟩,
 ⟨some 42,.load1 (.tmp 41),none,0⟩,
 ⟨some 43,.iaddr 1 (.tmp 42) (.const (.int .i64 0)),none,0⟩,
 ⟨some 44,.load1 (.tmp 43),none,0⟩,
 ⟨some 45,.bslice 1 1 [(.tmp 44)],none,0⟩,
 ⟨some 46,.append 1 8 (.tmp 40) (.tmp 45),none,0⟩,
 ⟨some 7,.move (.tmp 46),none,0⟩] false) (.seq (.seq (.ops [⟨some 47,.move (.tmp 1),none,0⟩,
 ⟨some 48,.move (.tmp 7),none,0⟩,
 ⟨some 49,.iaddr 1 (.tmp 48) (.const (.int .i64 0)),none,0⟩,
 ⟨some 50,.load1 (.tmp 49),none,0⟩,
 ⟨some 51,.call 60 [(.tmp 47), (.tmp 50)],none,0⟩,
 ⟨some 52,.un .not (.tmp 51),none,0⟩] false) (.cond (.tmp 52) (.seq (.ops [⟨some 6,.move (.const (.bool false)),none,0⟩] false) (.ret)) (.skip))) (.seq (.seq (.ops [⟨some 8,.move (.const (.int .i64 1)),none,0⟩] false) (.block 0 (.loop c45_1))) (.seq (.seq (.ops [⟨some 9,.move (.const (.int .i64 0)),none,0⟩] false) (.block 2 (.loop c45_2))) (.seq (.ops [⟨some 6,.move (.const (.bool true)),none,0⟩] false) (.ret))))))))
set_option maxRecDepth 100000 in
theorem c45_ok : FunOK Try.prog 45 104 [.tmp 6] c45 := ⟨⟨Try.f45, Try.func45, rfl, by kernel_rfl, rfl, by kernel_rfl⟩⟩
theorem ref_Path (W : WorldD) (hW : W.Fits) (from_ : List Int) (hf : from_.length ≤ 17592186043904) (s l : List Int) (hs : s.length ≤ 1000000) (hl : l.length ≤ 1000000) :
    PCall Try.prog 45 [dworld W, dints from_, dpath s l] (.sc (.bool (W.goodB from_ s l))) := by
  have no : ∀ {H : List AObj}, ¬ W.good from_ s l → Deep H (.sc (.bool false)) (.sc (.bool (W.goodB from_ s l))) := fun h => by
    rw [goodB_no h]
    exact .refl _
  refine pcall_intro c45_ok (by simp) (by simp [PureL, pure_dworld, pure_dpath, pure_dints]) ?_ (by simp [Pure, PureL])
  (apply rd_sound; focus (repeat' constructor))
  ((conv=>whnf);repeat(refine .intro rfl ?_;conv=>whnf))
  have bn := hW.next
  rw [List.length_map]
  (refine ifK_split (fun h2 => ?_) (fun h2 => ?_) <;> (rw [h2]; ((conv=>whnf);repeat(refine .intro rfl ?_;conv=>whnf))))
  · have h2 : l.length = 0 := by ((try simp only[oo,reduceCtorEq]at*)<;>omega)
    exact no fun ⟨q, _⟩ => absurd h2 ((onB_iff _ _ _).1 q).1
  have h2 : l.length ≠ 0 := by ((try simp only[oo,reduceCtorEq]at*)<;>omega)
  rw [List.length_map]
  (refine .inl ⟨_, (ref_In s (by omega) W.next.length), ?_⟩; ((conv=>whnf);repeat(refine .intro rfl ?_;conv=>whnf)))
  (refine ifK_split (fun h3 => ?_) (fun h3 => ?_) <;> (rw [h3]; ((conv=>whnf);repeat(refine .intro rfl ?_;conv=>whnf))))
  · refine no fun ⟨q, _⟩ => ?_
    rw [((onB_iff _ _ _).1 q).2.1] at h3; cases h3
  have h3 : inB s W.next.length = true := by simpa using h3
  rw [List.length_map]
  (refine .inl ⟨_, (ref_In l (by omega) W.next.length), ?_⟩; ((conv=>whnf);repeat(refine .intro rfl ?_;conv=>whnf)))
  (refine ifK_split (fun h5 => ?_) (fun h5 => ?_) <;> (rw [h5]; ((conv=>whnf);repeat(refine .intro rfl ?_;conv=>whnf))))
  · refine no fun ⟨q, _⟩ => ?_
    rw [((onB_iff _ _ _).1 q).2.2] at h5; cases h5
  have h5 : inB l W.next.length = true := by simpa using h5
  have hon : W.onB s l = true := (onB_iff _ _ _).2 ⟨h2, h3, h5⟩
  have hin := roundA_in h3 h5 h2
  have hlen := roundA_len s l
  refine ⟨(by unfold sliceAppend; simp only [ll]; omega), ?_⟩
  ((conv=>whnf);repeat(refine .intro rfl ?_;conv=>whnf))
  refine ⟨(by unfold sliceAppend; simp only [ll]; omega), ?_⟩
  rw [drop_take_all (by simp), ← List.map_append, List.length_map, List.length_map]
  ((conv=>whnf);repeat(refine .intro rfl ?_;conv=>whnf))
  refine ⟨by omega, _, ints_at (l := l) (k := 0) (by omega) (by omega), ?_⟩
  ((conv=>whnf);repeat(refine .intro rfl ?_;conv=>whnf))
  refine ⟨(by unfold sliceAppend; simp only [ll]; omega), ?_⟩
  have eA : List.drop 0 (List.take (s.length - 0 + l.length) ((s ++ l).map fun n => [D.sc (.int .i64 n)])) ++ List.drop 0 (List.take 1 [[D.sc (.int .i64 (l[0]'(by omega)))]]) = (roundA s l).map fun n => [D.sc (.int .i64 n)] := by
    rw [drop_take_all (by simp), getD_get (by omega)]
    simp [roundA]
  rw [eA, one_len]
  ((conv=>whnf);repeat(refine .intro rfl ?_;conv=>whnf))
  (refine ⟨by omega, (by first | omega | (simp; done) | (simp; omega) | (simp only [ll]; omega)), ?_⟩; ((conv=>whnf);repeat(refine .intro rfl ?_;conv=>whnf)))
  refine ⟨_, ints_at (l := roundA s l) (k := 0) (by omega) (by omega), ?_⟩
  ((conv=>whnf);repeat(refine .intro rfl ?_;conv=>whnf))
  (refine .inl ⟨_, (contains_int from_ (by omega) _), ?_⟩; ((conv=>whnf);repeat(refine .intro rfl ?_;conv=>whnf)))
  rw [getD_get (by omega)]
  (refine ifK_split (fun g1 => ?_) (fun g1 => ?_) <;> (rw [g1]; ((conv=>whnf);repeat(refine .intro rfl ?_;conv=>whnf))))
  · exact no fun ⟨_, q, _⟩ => by rw [q] at g1; cases g1
  have g1 : from_.contains ((roundA s l).getD 0 0) = true := by simpa using g1
  refine pwp_for [3, 5, 7] (fun k : Nat => [(8, .sc (.int .i64 ((k + 1 : Nat) : Int)))]) (fun _ => []) (fun k => k ≤ s.length + l.length ∧ ∀ i, i < k → W.goes ((roundA s l).getD i 0) ((roundA s l).getD (i + 1) 0) = true) (fun k => s.length + l.length - k) 0 ?_
  ((conv=>whnf);repeat(refine .intro rfl ?_;conv=>whnf))
  refine ⟨⟨by omega, fun i hi => by omega⟩, by (repeat' (first | exact trivial | refine And.intro rfl ?_)), rfl, ?_⟩
  rintro k ⟨hk, hall⟩
  ((conv=>whnf);repeat(refine .intro rfl ?_;conv=>whnf))
  (apply rd_sound; focus (repeat' constructor))
  ((conv=>whnf);repeat(refine .intro rfl ?_;conv=>whnf))
  (refine ifK_split (fun h => ?_) (fun h => ?_) <;> (rw [h]; ((conv=>whnf);repeat(refine .intro rfl ?_;conv=>whnf))))
  · have hk' : k < s.length + l.length := by ((try simp only[oo,reduceCtorEq]at*)<;>omega)
    have bk := inB_len hin (k := k) (by omega)
    (refine .inl ⟨by (unfold InR; rw [IntKind.wrap_i64]; omega), ?_⟩; ((conv=>whnf);repeat(refine .intro rfl ?_;conv=>whnf)))
    (refine ⟨by omega, (by first | omega | (simp; done) | (simp; omega) | (simp only [ll]; omega)), ?_⟩; ((conv=>whnf);repeat(refine .intro rfl ?_;conv=>whnf)))
    refine ⟨_, ints_at (l := roundA s l) (k := k) (by omega) (by omega), ?_⟩
    ((conv=>whnf);repeat(refine .intro rfl ?_;conv=>whnf))
    refine ⟨bk.1, _, grid_at (k := ((roundA s l)[k]).toNat) rfl bk.2, ?_⟩
    ((conv=>whnf);repeat(refine .intro rfl ?_;conv=>whnf))
    (refine ⟨by omega, (by first | omega | (simp; done) | (simp; omega) | (simp only [ll]; omega)), ?_⟩; ((conv=>whnf);repeat(refine .intro rfl ?_;conv=>whnf)))
    refine ⟨_, ints_at (l := roundA s l) (k := k + 1) (by omega) (by omega), ?_⟩
    ((conv=>whnf);repeat(refine .intro rfl ?_;conv=>whnf))
    have lk : (W.next[((roundA s l)[k]).toNat]'bk.2).length ≤ 17592186043904 := hW.nextEach _ (List.getElem_mem bk.2)
    (refine .inl ⟨_, (contains_int (W.next[((roundA s l)[k]).toNat]'bk.2) (by omega) _), ?_⟩; ((conv=>whnf);repeat(refine .intro rfl ?_;conv=>whnf)))
    have eG : W.goes ((roundA s l)[k]'(by omega)) ((roundA s l)[k + 1]'(by omega)) = W.goes ((roundA s l).getD k 0) ((roundA s l).getD (k + 1) 0) := by rw [getD_get, getD_get]
    rw [goes_at bk.2, eG]
    (refine ifK_split (fun g2 => ?_) (fun g2 => ?_) <;> (rw [g2]; ((conv=>whnf);repeat(refine .intro rfl ?_;conv=>whnf))))
    · exact no fun ⟨_, _, q, _⟩ => by rw [q k hk'] at g2; cases g2
    · (refine .inl ⟨by (unfold InR; rw [IntKind.wrap_i64]; omega), ?_⟩; ((conv=>whnf);repeat(refine .intro rfl ?_;conv=>whnf)))
      refine ⟨k + 1, ⟨by omega, fun i hi => ?_⟩, by dsimp only; omega, leB_envH (by (repeat' (first | exact trivial | refine And.intro rfl ?_))) rfl⟩
      by_cases e : i = k
      · subst e; simpa using g2
      · exact hall i (by omega)
  have hkn : k = s.length + l.length := by have : ¬ k < s.length + l.length := by ((try simp only[oo,reduceCtorEq]at*)<;>omega)
                                           omega
  subst hkn
  clear h hk
  have bf := hW.fair
  refine pwp_for [3, 5] (fun k : Nat => [(9, .sc (.int .i64 k))]) (fun _ => []) (fun k => k ≤ W.fair.length ∧ ∀ i (hi : i < k) (h2 : i < W.fair.length), (W.fair[i].any fun x => l.contains x) = true) (fun k => W.fair.length - k) 0 ?_
  ((conv=>whnf);repeat(refine .intro rfl ?_;conv=>whnf))
  refine ⟨⟨by omega, fun i hi => by omega⟩, by (repeat' (first | exact trivial | refine And.intro rfl ?_)), rfl, ?_⟩
  rintro k ⟨hk, hmet⟩
  ((conv=>whnf);repeat(refine .intro rfl ?_;conv=>whnf))
  (apply rd_sound; focus (repeat' constructor))
  ((conv=>whnf);repeat(refine .intro rfl ?_;conv=>whnf))
  rw [List.length_map]
  (refine ifK_split (fun h => ?_) (fun h => ?_) <;> (rw [h]; ((conv=>whnf);repeat(refine .intro rfl ?_;conv=>whnf))))
  · have hk' : k < W.fair.length := by ((try simp only[oo,reduceCtorEq]at*)<;>omega)
    have lk := hW.fairEach _ (List.getElem_mem hk')
    refine pwp_for [3, 5, 9] (fun x : Nat × Bool => [(11, .sc (.int .i64 x.1)), (10, .sc (.bool x.2))]) (fun _ => []) (fun x => x.1 ≤ l.length ∧ x.2 = ((l.take x.1).any fun y => W.fair[k].contains y)) (fun x => l.length - x.1) (0, false) ?_
    ((conv=>whnf);repeat(refine .intro rfl ?_;conv=>whnf))
    refine ⟨⟨by simp, by simp⟩, by (repeat' (first | exact trivial | refine And.intro rfl ?_)), rfl, ?_⟩
    rintro ⟨j, met⟩ ⟨hj, hm⟩
    dsimp only at hj hm
    ((conv=>whnf);repeat(refine .intro rfl ?_;conv=>whnf))
    (apply rd_sound; focus (repeat' constructor))
    ((conv=>whnf);repeat(refine .intro rfl ?_;conv=>whnf))
    rw [List.length_map]
    (refine ifK_split (fun h6 => ?_) (fun h6 => ?_) <;> (rw [h6]; ((conv=>whnf);repeat(refine .intro rfl ?_;conv=>whnf))))
    · have hj' : j < l.length := by ((try simp only[oo,reduceCtorEq]at*)<;>omega)
      have ta : l.take (j + 1) = l.take j ++ [l[j]] := by rw [List.take_succ_eq_append_getElem hj']
      cases met
      · ((conv=>whnf);repeat(refine .intro rfl ?_;conv=>whnf))
        refine ⟨by omega, _, grid_at (k := k) (by omega) hk', ?_⟩
        ((conv=>whnf);repeat(refine .intro rfl ?_;conv=>whnf))
        refine ⟨by omega, _, ints_at (k := j) (by omega) hj', ?_⟩
        ((conv=>whnf);repeat(refine .intro rfl ?_;conv=>whnf))
        (refine .inl ⟨_, (contains_int W.fair[k] (by omega) _), ?_⟩; ((conv=>whnf);repeat(refine .intro rfl ?_;conv=>whnf)))
        (refine .inl ⟨by (unfold InR; rw [IntKind.wrap_i64]; omega), ?_⟩; ((conv=>whnf);repeat(refine .intro rfl ?_;conv=>whnf)))
        refine ⟨(j + 1, W.fair[k].contains l[j]), ⟨by dsimp only; omega, ?_⟩, by dsimp only; omega, leB_envH (by (repeat' (first | exact trivial | refine And.intro rfl ?_))) rfl⟩
        dsimp only
        rw [ta, List.any_append, ← hm]
        simp
      · ((conv=>whnf);repeat(refine .intro rfl ?_;conv=>whnf))
        (refine .inl ⟨by (unfold InR; rw [IntKind.wrap_i64]; omega), ?_⟩; ((conv=>whnf);repeat(refine .intro rfl ?_;conv=>whnf)))
        refine ⟨(j + 1, true), ⟨by dsimp only; omega, ?_⟩, by dsimp only; omega, leB_envH (by (repeat' (first | exact trivial | refine And.intro rfl ?_))) rfl⟩
        dsimp only
        rw [ta, List.any_append, ← hm]
        simp
    · have hj' : j = l.length := by have : ¬ j < l.length := by ((try simp only[oo,reduceCtorEq]at*)<;>omega)
                                    omega
      subst hj'
      rw [List.take_length, any_swap] at hm
      subst hm
      (refine ifK_split (fun g => ?_) (fun g => ?_) <;> (rw [g]; ((conv=>whnf);repeat(refine .intro rfl ?_;conv=>whnf))))
      · refine no fun ⟨_, _, _, q⟩ => ?_
        rw [q _ (List.getElem_mem hk')] at g; cases g
      · (refine .inl ⟨by (unfold InR; rw [IntKind.wrap_i64]; omega), ?_⟩; ((conv=>whnf);repeat(refine .intro rfl ?_;conv=>whnf)))
        refine ⟨k + 1, ⟨by omega, fun i hi h2 => ?_⟩, by dsimp only; omega, leB_envH (by (repeat' (first | exact trivial | refine And.intro rfl ?_))) rfl⟩
        by_cases e : i = k
        · subst e; simpa using g
        · exact hmet i (by omega) h2
  · have hk' : ¬ k < W.fair.length := by ((try simp only[oo,reduceCtorEq]at*)<;>omega)
    have hg : W.good from_ s l := ⟨hon, g1, hall, fun f hf => by
      obtain ⟨i, hi, rfl⟩ := List.mem_iff_getElem.1 hf
      exact hmet i (by omega) hi⟩
    rw [goodB_yes hg]
    exact .refl _
end Go.Proofs.Ytfgklgjbnpjpoaa
