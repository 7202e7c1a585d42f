/-
  An automaton of one set for many: the reference's Single, over deep values. No statement is proved here.
-/
import Derived.Test.YtfaekhadjlgbbaaQNb5
namespace Go.Proofs.Ytfaekhadjlgbbaa
open Go.RowKit
set_option linter.unusedSimpArgs false
set_option linter.unusedVariables false
def c15_1 : PC := .seq (.seq (.ops [⟨some 17,.move (.tmp 6),none,0⟩,
 ⟨some 18,.faddr 0 (.tmp 1),none,0⟩,
 ⟨some 19,.load1 (.tmp 18),none,0⟩,
 ⟨some 20,.len (.tmp 19),none,0⟩,
 ⟨some 21,.bin .lss (.tmp 17) (.tmp 20),none,0⟩] false) (.cond (.tmp 21) (.skip) (.exit 0))) (.seq (.block 1 (.ops [⟨some 24,.move (.tmp 5),none,0⟩,
 ⟨some 25,.faddr 0 (.tmp 1),none,0⟩,
 ⟨some 26,.load1 (.tmp 25),none,0⟩,
 ⟨some 27,.move (.tmp 6),none,0⟩,
 ⟨some 28,.iaddr 1 (.tmp 26) (.tmp 27),none,0⟩,
 ⟨some 29,.load1 (.tmp 28),none,0⟩,
 ⟨some 30,.build [(.int .i64 0), (.int .i64 0)] [(0, 1, (.tmp 29)), (1, 1, (.const (.int .i64 0)))],none,0⟩,
 ⟨some 31,.bslice 2 1 [(.tmp 30)],none,0⟩,
 ⟨some 32,.append 2 16 (.tmp 24) (.tmp 31),none,0⟩,
 ⟨some 5,.move (.tmp 32),none,0⟩] false)) (.ops [⟨some 22,.move (.tmp 6),none,0⟩,
 ⟨some 23,.bin .add (.tmp 22) (.const (.int .i64 1)),none,0⟩,
 ⟨some 6,.move (.tmp 23),none,0⟩] false))
def c15_2 : PC := .seq (.seq (.ops [⟨some 47,.move (.tmp 13),none,0⟩,
 ⟨some 48,.move (.tmp 7),none,0⟩,
 ⟨some 49,.len (.tmp 48),none,0⟩,
 ⟨some 50,.bin .lss (.tmp 47) (.tmp 49),none,0⟩] false) (.cond (.tmp 50) (.skip) (.exit 2))) (.seq (.block 3 (.seq (.ops [⟨some 53,.faddr 2 (.tmp 11),none,0⟩,
 ⟨some 54,.load1 (.tmp 53),none,1⟩,
 ⟨some 55,.faddr 2 (.tmp 1),none,0⟩,
 ⟨some 56,.load1 (.tmp 55),none,4⟩,
 ⟨some 57,.move (.tmp 7),none,0⟩,
 ⟨some 58,.move (.tmp 13),none,0⟩,
 ⟨some 59,.iaddr 2 (.tmp 57) (.tmp 58),none,48⟩,
 ⟨some 60,.aaddr 2 1 (.tmp 59) (.const (.int .i64 0)),none,112⟩,
 ⟨some 61,.load1 (.tmp 60),none,240⟩,
 ⟨some 62,.iaddr 1 (.tmp 56) (.tmp 61),none,508⟩,
 ⟨some 63,.load1 (.tmp 62),none,1020⟩,
 ⟨some 64,.bslice 1 1 [(.tmp 63)],none,2044⟩,
 ⟨some 65,.append 1 8 (.tmp 54) (.tmp 64),none,4095⟩,
 ⟨some 66,.faddr 2 (.tmp 11),none,8191⟩,
 ⟨none,.store 1 (.tmp 66) (.tmp 65),none,16383⟩] true) (.seq (.ops [⟨some 67,.faddr 3 (.tmp 11),none,0⟩,
 ⟨some 68,.load1 (.tmp 67),none,1⟩,
 ⟨some 69,.faddr 3 (.tmp 1),none,0⟩,
 ⟨some 70,.load1 (.tmp 69),none,4⟩,
 ⟨some 71,.move (.tmp 7),none,0⟩,
 ⟨some 72,.move (.tmp 13),none,0⟩,
 ⟨some 73,.iaddr 2 (.tmp 71) (.tmp 72),none,48⟩,
 ⟨some 74,.aaddr 2 1 (.tmp 73) (.const (.int .i64 0)),none,112⟩,
 ⟨some 75,.load1 (.tmp 74),none,240⟩,
 ⟨some 76,.iaddr 1 (.tmp 70) (.tmp 75),none,508⟩,
 ⟨some 77,.load1 (.tmp 76),none,1020⟩,
 ⟨some 78,.bslice 1 1 [(.tmp 77)],none,2044⟩,
 ⟨some 79,.append 1 8 (.tmp 68) (.tmp 78),none,4095⟩,
 ⟨some 80,.faddr 3 (.tmp 11),none,8191⟩,
 ⟨none,.store 1 (.tmp 80) (.tmp 79),none,16383⟩] true) (.seq (.ops [⟨some 81,.move (.tmp 7),none,0⟩,
 ⟨some 82,.move (.tmp 13),none,0⟩,
 ⟨some 83,.iaddr 2 (.tmp 81) (.tmp 82),none,3⟩,
 ⟨some 84,.aaddr 2 1 (.tmp 83) (.const (.int .i64 1)),none,7⟩,
 ⟨some 85,.load1 (.tmp 84),none,15⟩,
 ⟨some 86,.bin .eql (.tmp 85) (.const (.int .i64 0)),none,31⟩,
 ⟨some 87,.move (.tmp 86),none,63⟩,
 ⟨some 88,.load1 (.tmp 4),some (87,true),127⟩,
 ⟨some 89,.bin .eql (.tmp 88) (.const (.int .i64 0)),some (87,true),255⟩,
 ⟨some 90,.move (.tmp 89),some (87,true),511⟩,
 ⟨some 91,.faddr 4 (.tmp 1),some (90,false),1023⟩,
 ⟨some 92,.load1 (.tmp 91),some (90,false),2047⟩,
 ⟨some 93,.iaddr 1 (.tmp 92) (.const (.int .i64 0)),some (90,false),4095⟩,
 ⟨some 94,.load1 (.tmp 93),some (90,false),8191⟩,
 ⟨some 95,.move (.tmp 7),some (90,false),1023⟩,
 ⟨some 96,.move (.tmp 13),some (90,false),1023⟩,
 ⟨some 97,.iaddr 2 (.tmp 95) (.tmp 96),some (90,false),50175⟩,
 ⟨some 98,.aaddr 2 1 (.tmp 97) (.const (.int .i64 0)),some (90,false),115711⟩,
 ⟨some 99,.load1 (.tmp 98),some (90,false),246783⟩,
 ⟨some 100,.call 46 [(.tmp 94), (.tmp 99)],some (90,false),524287⟩,
 ⟨some 101,.pick (.tmp 90) (.const (.bool true)) (.tmp 100),some (87,true),1048575⟩,
 ⟨some 102,.pick (.tmp 87) (.tmp 101) (.const (.bool false)),none,2097151⟩] true) (.cond (.tmp 102) (.ops [⟨some 103,.move (.tmp 12),none,0⟩,
 ⟨some 104,.move (.tmp 13),none,0⟩,
 ⟨some 105,.bslice 1 1 [(.tmp 104)],none,0⟩,
 ⟨some 106,.append 1 8 (.tmp 103) (.tmp 105),none,0⟩,
 ⟨some 12,.move (.tmp 106),none,0⟩] false) (.skip)))))) (.ops [⟨some 51,.move (.tmp 13),none,0⟩,
 ⟨some 52,.bin .add (.tmp 51) (.const (.int .i64 1)),none,0⟩,
 ⟨some 13,.move (.tmp 52),none,0⟩] false))
def c15 : PC := .seq (.ops [⟨some 1,.box (.tmp 0),none,0⟩,
 ⟨some 2,.alloc [(.slice none 0 0), (.slice none 0 0), (.slice none 0 0), (.slice none 0 0), (.slice none 0 0)],none,0⟩,
 ⟨some 3,.move (.const (.int .i64 0)),none,0⟩] false) (.seq (.ops [⟨some 14,.faddr 4 (.tmp 1),none,0⟩,
 ⟨some 15,.load1 (.tmp 14),none,0⟩,
 ⟨some 16,.len (.tmp 15),none,0⟩,
 ⟨some 4,.alloc [(.int .i64 0)],none,0⟩,
 ⟨none,.store 1 (.tmp 4) (.tmp 16),none,0⟩] false) (.seq (.ops [⟨some 5,.move (.const (.slice none 0 0)),none,0⟩] false) (.seq (.seq (.ops [⟨some 6,.move (.const (.int .i64 0)),none,0⟩] false) (.block 0 (.loop c15_1))) (.seq (.stop (.ops [⟨some 34,.move (.tmp 5),none,0⟩,
 ⟨some 35,.mkfn (.func 45) [] [(.tmp 4), (.tmp 1)],none,0⟩,
 ⟨some 36,.call 44 [(.tmp 34), (.tmp 35)],none,0⟩,
 ⟨some 33,.move (.tmp 36),none,0⟩,
 ⟨some 37,.ext 0 (.tmp 33),none,0⟩,
 ⟨some 38,.ext 1 (.tmp 33),none,0⟩,
 ⟨some 39,.ext 2 (.tmp 33),none,0⟩,
 ⟨some 40,.ext 3 (.tmp 33),none,0⟩,
 ⟨some 7,.move (.tmp 37),none,0⟩,
 ⟨some 8,.move (.tmp 38),none,0⟩,
 ⟨some 9,.move (.tmp 39),none,0⟩,
 ⟨some 10,.move (.tmp 40),none,0⟩] false)) (.seq (.seq (.ops [⟨some 41,.move (.tmp 10),none,0⟩,
 ⟨some 42,.un .not (.tmp 41),none,0⟩] false) (.cond (.tmp 42) (.seq (.ops [⟨some 43,.build [(.slice none 0 0), (.slice none 0 0), (.slice none 0 0), (.slice none 0 0), (.slice none 0 0)] [],none,0⟩,
 ⟨none,.store 5 (.tmp 2) (.tmp 43),none,0⟩,
 ⟨some 3,.move (.const (.int .i64 2)),none,0⟩] false) (.ret)) (.skip))) (.seq (.ops [⟨some 44,.move (.tmp 8),none,0⟩,
 ⟨some 45,.move (.tmp 9),none,0⟩,
 ⟨some 46,.build [(.slice none 0 0), (.slice none 0 0), (.slice none 0 0), (.slice none 0 0), (.slice none 0 0)] [(0, 1, (.tmp 44)), (1, 1, (.tmp 45))],none,0⟩,
 ⟨some 11,.alloc [(.slice none 0 0), (.slice none 0 0), (.slice none 0 0), (.slice none 0 0), (.slice none 0 0)],none,0⟩,
 ⟨none,.store 5 (.tmp 11) (.tmp 46),none,0⟩] false) (.seq (.ops [⟨some 12,.move (.const (.slice none 0 0)),none,0⟩] false) (.seq (.seq (.ops [⟨some 13,.move (.const (.int .i64 0)),none,0⟩] false) (.block 2 (.loop c15_2))) (.seq (.ops [⟨some 107,.move (.tmp 12),none,0⟩,
 ⟨some 108,.bslice 1 1 [(.tmp 107)],none,0⟩,
 ⟨some 109,.faddr 4 (.tmp 11),none,0⟩,
 ⟨none,.store 1 (.tmp 109) (.tmp 108),none,0⟩] false) (.seq (.ops [⟨some 110,.loadA 5 (.tmp 11),none,0⟩,
 ⟨none,.store 5 (.tmp 2) (.tmp 110),none,0⟩,
 ⟨some 3,.move (.const (.int .i64 0)),none,0⟩] false) (.ret)))))))))))
set_option maxRecDepth 100000 in
theorem c15_ok : FunOK Try.prog 15 111 [.agg 2 5, .tmp 3] c15 := ⟨⟨Try.f15, Try.func15, rfl, by kernel_rfl, rfl, by kernel_rfl⟩⟩
set_option maxRecDepth 100000 in
theorem ref_Single (A : AutoD) (hA : A.Fits) (hc : A.chk = 0) (hsl : A.start.length ≤ 1048576) (hrl : ∀ l ∈ A.next, l.length ≤ 1048576) : PCall Try.prog 15 [dauto A] (outS A) := by
  obtain ⟨hm, hnn, h2048, h80, hst, hin, hfr⟩ := chk_auto A hc
  have hF : FitsG A.next := ⟨hA.next, hA.nextEach⟩
  have hFF : FitsG A.fair := ⟨hA.fair, hA.fairEach⟩
  refine pcall_intro c15_ok (by simp) (by simp [PureL, pure_dauto]) ?_ (pure_outS A)
  have hpu := pure_aucells A
  have hff := hFF.at 0
  unfold dauto at *
  (apply rd_sound; focus (repeat' constructor))
  ((conv=>whnf);repeat(refine .intro rfl ?_;conv=>whnf))
  rw [List.length_map]
  refine pwp_ghostB (leB_nil 5 2 (by simp) rfl) ?_
  refine pwp_for [1, 2, 4] (fun k : Nat => [(5, .own 3 k 0 k), (6, .sc (.int .i64 k))]) (fun k => [(3, .vec true k 2 (prows (beginS A k)))]) (fun k => k ≤ A.start.length) (fun k => A.start.length - k) 0 ?_
  ((conv=>whnf);repeat(refine .intro rfl ?_;conv=>whnf))
  refine ⟨by omega, by (repeat' (first | exact trivial | refine And.intro rfl ?_)), rfl, ?_⟩
  rintro k hk
  ((conv=>whnf);repeat(refine .intro rfl ?_;conv=>whnf))
  (apply rd_sound; focus (repeat' constructor))
  ((conv=>whnf);repeat(refine .intro rfl ?_;conv=>whnf))
  rw [List.length_map]
  (refine ifK_split (fun q0 => ?_) (fun q0 => ?_) <;> (rw [q0]; ((conv=>whnf);repeat(refine .intro rfl ?_;conv=>whnf))))
  · have q0 : k < A.start.length := by ((try simp only[oo,reduceCtorEq]at*)<;>omega)
    have eS := beginS_succ q0
    have hbl := beginS_len hk
    refine ⟨by omega, _, intsD_at (l := A.start) (k := k) (by omega) q0, ?_⟩
    ((conv=>whnf);repeat(refine .intro rfl ?_;conv=>whnf))
    refine ⟨(by unfold sliceAppend; simp only [ll]; omega), ?_⟩
    ((conv=>whnf);repeat(refine .intro rfl ?_;conv=>whnf))
    (refine .inl ⟨by (unfold InR; rw [IntKind.wrap_i64]; omega), ?_⟩; ((conv=>whnf);repeat(refine .intro rfl ?_;conv=>whnf)))
    refine ⟨k + 1, by omega, by dsimp only; omega, ?_⟩
    dsimp only
    rw [eS]
    (refine leB_close 4 (by simp) rfl ?_ ?_ <;> (repeat' (first | exact trivial | exact rfl | exact DeepM.refl _ | exact DeepML.refl _ | exact DeepMLL.refl _ | refine And.intro ?_ ?_ | (simp [Under, UnderL, UnderLL, -List.map_take, -List.map_drop]; done))))
    all_goals first | exact underL_pure _ hpu | exact deepMLL_eq (prows_snoc hbl.symm)
  have q0 : k = A.start.length := by have : ¬ k < A.start.length := by ((try simp only[oo,reduceCtorEq]at*)<;>omega)
                                     omega
  subst q0
  have hbl := beginS_len (A := A) (Nat.le_refl A.start.length)
  have hbg := beginS_good hst A.start.length
  unfold outS
  generalize hS : beginS A A.start.length = S at *
  have hnl : ∀ p, GoodS A p → (∀ q ∈ nxS A p, GoodS A q) ∧ (nxS A p).length ≤ 10000000000 := fun p hp => ⟨hp.next hin, by unfold nxS; rw [List.length_map]; have := row_le hrl p.1.toNat; omega⟩
  have hNu := ref_numbered S (nxS A) (GoodS A) hbg hnl (by omega) 45 [.ipt [.sc (.int .i64 A.fair.length)], .ipt A.cells] (by simp [PureL, Pure, hpu]) (fun p hp => ref_nextS A hc hF hFF hrl p hp)
  have hMe := madeS_eq S (nxS A)
  have hMg := madeS_good (nx := nxS A) hbg fun p hp => (hnl p hp).1
  unfold outR at hNu
  refine pwp_ghostB (leB_freeze (fun i => i == 0 || i == 2 || i == 3) (env' := [(1, .ipt A.cells), (2, .loc 1 0), (4, .ipt [.sc (.int .i64 A.fair.length)]), (5, dpairs S)])
    (H' := [.row false A.cells, .row true [nilV, nilV, nilV, nilV, nilV], .row false [.sc (.int .i64 A.fair.length)], .vec false A.start.length 2 (prows S)]) ?_ ?_) ?_
  · exact ⟨.loc _ _ _ _ _ rfl rfl (.refl _), .refl _, .loc _ _ _ _ _ rfl rfl (.refl _), .own _ _ _ _ _ _ _ _ rfl rfl (deepMLL_eq (drop_take_all (by simp; omega))), trivial⟩
  · exact ⟨⟨.inr ⟨rfl, rfl⟩, fun _ => rfl, .refl _⟩, ⟨.inl rfl, fun h => absurd h (by decide), .refl _⟩, ⟨.inr ⟨rfl, rfl⟩, fun _ => rfl, .refl _⟩, ⟨.inr ⟨rfl, rfl⟩, fun _ => rfl, rfl, rfl, .refl _⟩, trivial⟩
  (apply rd_sound; focus (repeat' constructor))
  ((conv=>whnf);repeat(refine .intro rfl ?_;conv=>whnf))
  rcases hMe with ⟨h1, h2⟩ | ⟨L, T, h1, h2, h3⟩
  · rw [h1] at hNu ⊢
    dsimp only at hNu
    (refine .inl ⟨_, hNu, ?_⟩; ((conv=>whnf);repeat(refine .intro rfl ?_;conv=>whnf)))
    exact .tup _ _ (.cons _ _ _ _ (.agg _ _ (.cons _ _ _ _ (.none _) (.cons _ _ _ _ (.none _) (.cons _ _ _ _ (.none _) (.cons _ _ _ _ (.none _) (.cons _ _ _ _ (.none _) .nil)))))) (.cons _ _ _ _ (.refl _) .nil))
  rw [h1] at hNu ⊢
  rw [h2] at hMg
  dsimp only at hNu hMg
  have hs0 := pure_dints (pPut S [] []).2
  generalize (pPut S [] []).2 = s0 at *
  obtain ⟨hLg, hL9⟩ := hMg
  (refine .inl ⟨_, hNu, ?_⟩; ((conv=>whnf);repeat(refine .intro rfl ?_;conv=>whnf)))
  refine pwp_ghostB (leB_nilc 4 2 1 (by simp) rfl rfl) ?_
  refine pwp_ghostB (leB_nilc 4 3 1 (by simp) rfl rfl) ?_
  refine pwp_ghostB (leB_nil 12 1 (by simp) rfl) ?_
  refine pwp_forH [1, 2, 4, 7, 11] (fun ((k, c) : Nat × Nat) => [(12, .own 7 c 0 c), (13, .sc (.int .i64 k))]) (fun (k, c) => [.row false A.cells, .row true [nilV, nilV, nilV, nilV, nilV], .row false [.sc (.int .i64 A.fair.length)], .vec false A.start.length 2 (prows S), .row true [dints s0, dgrid T, .own 5 k 0 k, .own 6 k 0 k, nilV], .vec true k 1 (u64s (letsAt A.must L k)), .vec true k 1 (u64s (letsAt A.nots L k)), .vec true c 1 (i64s (fairK A.fair L k))])
    (fun (k, c) => k ≤ L.length ∧ (fairK A.fair L k).length = c) (fun (k, c) => L.length - k) (0, 0) ?_
  ((conv=>whnf);repeat(refine .intro rfl ?_;conv=>whnf))
  refine ⟨⟨by omega, by simp [fairK]⟩, by (repeat' (first | exact trivial | refine And.intro rfl ?_)), rfl, ?_⟩
  rintro ⟨k, c⟩ ⟨hk, hc'⟩
  have hcl := fairK_len A.fair L k
  ((conv=>whnf);repeat(refine .intro rfl ?_;conv=>whnf))
  (apply rd_sound; focus (repeat' constructor))
  ((conv=>whnf);repeat(refine .intro rfl ?_;conv=>whnf))
  rw [prows_len]
  (refine ifK_split (fun q0 => ?_) (fun q0 => ?_) <;> (rw [q0]; ((conv=>whnf);repeat(refine .intro rfl ?_;conv=>whnf))))
  · have q0 : k < L.length := by ((try simp only[oo,reduceCtorEq]at*)<;>omega)
    have hp := hLg _ (mem_getDP q0)
    have e1 := letsAt_succ (M := A.must) q0
    have e2 := letsAt_succ (M := A.nots) q0
    have e3 := fairK_succ A.fair L k
    have l1 := letsAt_len (M := A.must) hk
    have l2 := letsAt_len (M := A.nots) hk
    have hat := prows_at (l := L) (k := k) rfl q0
    generalize L.getD k (0, 0) = p at *
    obtain ⟨p1, p2, p3, p4⟩ := hp
    refine ⟨by omega, _, hat, ?_⟩
    ((conv=>whnf);repeat(refine .intro rfl ?_;conv=>whnf))
    refine ⟨by omega, by omega, ?_⟩
    ((conv=>whnf);repeat(refine .intro rfl ?_;conv=>whnf))
    refine ⟨by omega, _, u64a_at (l := A.must) (k := p.1.toNat) (by omega) (by omega), ?_⟩
    ((conv=>whnf);repeat(refine .intro rfl ?_;conv=>whnf))
    refine ⟨(by unfold sliceAppend; simp only [ll]; omega), ?_⟩
    ((conv=>whnf);repeat(refine .intro rfl ?_;conv=>whnf))
    refine ⟨by omega, _, hat, ?_⟩
    ((conv=>whnf);repeat(refine .intro rfl ?_;conv=>whnf))
    refine ⟨by omega, by omega, ?_⟩
    ((conv=>whnf);repeat(refine .intro rfl ?_;conv=>whnf))
    refine ⟨by omega, _, u64a_at (l := A.nots) (k := p.1.toNat) (by omega) (by omega), ?_⟩
    ((conv=>whnf);repeat(refine .intro rfl ?_;conv=>whnf))
    refine ⟨(by unfold sliceAppend; simp only [ll]; omega), ?_⟩
    ((conv=>whnf);repeat(refine .intro rfl ?_;conv=>whnf))
    refine ⟨by omega, _, hat, ?_⟩
    ((conv=>whnf);repeat(refine .intro rfl ?_;conv=>whnf))
    refine ⟨by omega, by omega, ?_⟩
    ((conv=>whnf);repeat(refine .intro rfl ?_;conv=>whnf))
    have no : isS A.fair p = false → fairK A.fair L (k + 1) = fairK A.fair L k := fun h => by rw [e3, h, if_neg (by decide)]
    have yes : isS A.fair p = true → fairK A.fair L (k + 1) = fairK A.fair L k ++ [(k : Int)] := fun h => by rw [e3, h, if_pos rfl]
    clear e3
    cases r : (p.2 == 0)
    · have e : isS A.fair p = false := by unfold isS; rw [r]; rfl
      ((conv=>whnf);repeat(refine .intro rfl ?_;conv=>whnf))
      (refine .inl ⟨by (unfold InR; rw [IntKind.wrap_i64]; omega), ?_⟩; ((conv=>whnf);repeat(refine .intro rfl ?_;conv=>whnf)))
      refine ⟨(k + 1, c), ⟨by omega, by rw [no e]; exact hc'⟩, by dsimp only; omega, ?_⟩
      dsimp only
      rw [no e, e1, e2]
      (refine leB_close 8 (by simp) rfl ?_ ?_ <;> (repeat' (first | exact trivial | exact rfl | exact DeepM.refl _ | exact DeepML.refl _ | exact DeepMLL.refl _ | refine And.intro ?_ ?_ | (simp [Under, UnderL, UnderLL, -List.map_take, -List.map_drop]; done))))
      all_goals first | exact underL_pure _ hpu | exact deepMLL_eq (u64s_snoc _ _ l1) | exact deepMLL_eq (u64s_snoc _ _ l2) | exact under_pure _ hs0 | simp
    · ((conv=>whnf);repeat(refine .intro rfl ?_;conv=>whnf))
      cases r2 : ((A.fair.length : Int) == 0)
      · have hpos : 0 < A.fair.length := by rw [beq_eq_false_iff_ne] at r2; omega
        have e0 : isS A.fair p = setB (A.fair.getD 0 []) p.1.toNat := by unfold isS; rw [r, show (A.fair.length == 0) = false by rw [beq_eq_false_iff_ne]; omega]; rfl
        have hcon := contains_int (A.fair.getD 0 []) (by omega) p.1
        have hset : setB (A.fair.getD 0 []) p.1.toNat = (A.fair.getD 0 []).contains p.1 := by unfold setB; rw [Int.toNat_of_nonneg p1]
        ((conv=>whnf);repeat(refine .intro rfl ?_;conv=>whnf))
        refine ⟨by omega, _, gridD_at (g := A.fair) (k := 0) (by omega) hpos, ?_⟩
        ((conv=>whnf);repeat(refine .intro rfl ?_;conv=>whnf))
        refine ⟨by omega, _, hat, ?_⟩
        ((conv=>whnf);repeat(refine .intro rfl ?_;conv=>whnf))
        refine ⟨by omega, by omega, ?_⟩
        ((conv=>whnf);repeat(refine .intro rfl ?_;conv=>whnf))
        (refine .inl ⟨_, hcon, ?_⟩; ((conv=>whnf);repeat(refine .intro rfl ?_;conv=>whnf)))
        rw [← hset]
        cases r3 : setB (A.fair.getD 0 []) p.1.toNat
        · have e : isS A.fair p = false := by rw [e0, r3]
          ((conv=>whnf);repeat(refine .intro rfl ?_;conv=>whnf))
          (refine .inl ⟨by (unfold InR; rw [IntKind.wrap_i64]; omega), ?_⟩; ((conv=>whnf);repeat(refine .intro rfl ?_;conv=>whnf)))
          refine ⟨(k + 1, c), ⟨by omega, by rw [no e]; exact hc'⟩, by dsimp only; omega, ?_⟩
          dsimp only
          rw [no e, e1, e2]
          (refine leB_close 8 (by simp) rfl ?_ ?_ <;> (repeat' (first | exact trivial | exact rfl | exact DeepM.refl _ | exact DeepML.refl _ | exact DeepMLL.refl _ | refine And.intro ?_ ?_ | (simp [Under, UnderL, UnderLL, -List.map_take, -List.map_drop]; done))))
          all_goals first | exact underL_pure _ hpu | exact deepMLL_eq (u64s_snoc _ _ l1) | exact deepMLL_eq (u64s_snoc _ _ l2) | exact under_pure _ hs0 | simp
        · have e : isS A.fair p = true := by rw [e0, r3]
          ((conv=>whnf);repeat(refine .intro rfl ?_;conv=>whnf))
          refine ⟨(by unfold sliceAppend; simp only [ll]; omega), ?_⟩
          ((conv=>whnf);repeat(refine .intro rfl ?_;conv=>whnf))
          (refine .inl ⟨by (unfold InR; rw [IntKind.wrap_i64]; omega), ?_⟩; ((conv=>whnf);repeat(refine .intro rfl ?_;conv=>whnf)))
          refine ⟨(k + 1, c + 1), ⟨by omega, by rw [yes e, List.length_append, hc']; rfl⟩, by dsimp only; omega, ?_⟩
          dsimp only
          rw [yes e, e1, e2]
          (refine leB_close 8 (by simp) rfl ?_ ?_ <;> (repeat' (first | exact trivial | exact rfl | exact DeepM.refl _ | exact DeepML.refl _ | exact DeepMLL.refl _ | refine And.intro ?_ ?_ | (simp [Under, UnderL, UnderLL, -List.map_take, -List.map_drop]; done))))
          all_goals first | exact underL_pure _ hpu | exact deepMLL_eq (u64s_snoc _ _ l1) | exact deepMLL_eq (u64s_snoc _ _ l2) | exact under_pure _ hs0 | exact deepMLL_eq (by rw [← hc', i64s_snoc]) | simp
      · have hz : A.fair.length = 0 := by rw [beq_iff_eq] at r2; omega
        have e : isS A.fair p = true := by unfold isS; rw [r, hz]; rfl
        ((conv=>whnf);repeat(refine .intro rfl ?_;conv=>whnf))
        refine ⟨(by unfold sliceAppend; simp only [ll]; omega), ?_⟩
        ((conv=>whnf);repeat(refine .intro rfl ?_;conv=>whnf))
        (refine .inl ⟨by (unfold InR; rw [IntKind.wrap_i64]; omega), ?_⟩; ((conv=>whnf);repeat(refine .intro rfl ?_;conv=>whnf)))
        refine ⟨(k + 1, c + 1), ⟨by omega, by rw [yes e, List.length_append, hc']; rfl⟩, by dsimp only; omega, ?_⟩
        dsimp only
        rw [yes e, e1, e2]
        (refine leB_close 8 (by simp) rfl ?_ ?_ <;> (repeat' (first | exact trivial | exact rfl | exact DeepM.refl _ | exact DeepML.refl _ | exact DeepMLL.refl _ | refine And.intro ?_ ?_ | (simp [Under, UnderL, UnderLL, -List.map_take, -List.map_drop]; done))))
        all_goals first | exact underL_pure _ hpu | exact deepMLL_eq (u64s_snoc _ _ l1) | exact deepMLL_eq (u64s_snoc _ _ l2) | exact under_pure _ hs0 | exact deepMLL_eq (by rw [← hc', i64s_snoc]) | simp
  · have q0 : k = L.length := by have : ¬ k < L.length := by ((try simp only[oo,reduceCtorEq]at*)<;>omega)
                                 omega
    subst q0
    have l1 := letsAt_len (M := A.must) (Nat.le_refl L.length)
    have l2 := letsAt_len (M := A.nots) (Nat.le_refl L.length)
    exact .tup _ _ (.cons _ _ _ _ (.agg _ _ (.cons _ _ _ _ (.refl _) (.cons _ _ _ _ (.refl _) (.cons _ _ _ _ (.own _ _ _ _ _ _ _ _ rfl (by rw [drop_take_all (by simp [l1])]; exact deepLL_refl _)) (.cons _ _ _ _ (.own _ _ _ _ _ _ _ _ rfl (by rw [drop_take_all (by simp [l2])]; exact deepLL_refl _)) (.cons _ _ _ _ (.own _ _ _ _ _ _ _ _ rfl (.cons _ _ _ _ (.cons _ _ _ _ (.own _ _ _ _ _ _ _ _ rfl (by rw [drop_take_all (by simp [i64s]; omega)]; exact deepLL_refl _)) .nil) .nil)) .nil)))))) (.cons _ _ _ _ (.refl _) .nil))
end Go.Proofs.Ytfaekhadjlgbbaa
