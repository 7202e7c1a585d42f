/-
  Pairs by their numbers: both ways come to the same; where one goes on from a pair of a state and a set (Single), over deep values. No statement is proved here.
-/
import Derived.Test.YtfaekhadjlgbbaaQNb3
import Derived.Test.YtfaekhadjlgbbaaQAuA
import Derived.Test.YtfaekhadjlgbbaaQBo
namespace Go.Proofs.Ytfaekhadjlgbbaa
open Go.RowKit
set_option linter.unusedSimpArgs false
set_option linter.unusedVariables false
/-- The program's numbering and the reference's. -/
theorem runS_eq (nx : Pr → List Pr) : ∀ (k n : Nat) (L : List Pr) (T : List (List Int)), L.length ≤ 2048 → 2050 ≤ k + n → n ≤ L.length →
    (runR nx k n L T = none ∧ (runS nx k n L T).2.2 = false) ∨ ∃ L' T', runR nx k n L T = some (L', T') ∧ runS nx k n L T = (L', T', true)
  | 0, n, L, T, hL, hk, hn => by omega
  | k + 1, n, L, T, hL, hk, hn => by
    rw [runR, runS]
    by_cases q : n < L.length
    · rw [if_pos q, if_pos q]
      rcases pPutS_eq (nx (L.getD n (0, 0))) L [] hL with ⟨h1, h2⟩ | ⟨h1, h2⟩
      · rw [if_pos h1, h2]
        dsimp only
        rw [if_pos rfl]
        exact runS_eq nx k (n + 1) _ _ h1 (by omega) (by have := pPut_mono (nx (L.getD n (0, 0))) L []; omega)
      · rw [if_neg (by omega), if_neg (by rw [h2]; decide)]
        exact .inl ⟨rfl, rfl⟩
    · rw [if_neg q, if_neg q]
      exact .inr ⟨L, T, rfl, rfl⟩
theorem madeS_eq (start : List Pr) (nx : Pr → List Pr) :
    (runR nx 2050 0 (pPut start [] []).1 [] = none ∧ (madeS start nx).2.2 = false) ∨
    ∃ L T, runR nx 2050 0 (pPut start [] []).1 [] = some (L, T) ∧ madeS start nx = (L, T, true) ∧ (pPutS start [] [] true).2.1 = (pPut start [] []).2 := by
  unfold madeS
  rcases pPutS_eq start [] [] (by simp) with ⟨h1, h2⟩ | ⟨h1, h2⟩
  · rw [h2]
    dsimp only
    rw [if_pos rfl]
    rcases runS_eq nx 2050 0 _ [] h1 (by omega) (by omega) with ⟨q1, q2⟩ | ⟨L, T, q1, q2⟩
    · exact .inl ⟨q1, q2⟩
    · exact .inr ⟨L, T, q1, q2, rfl⟩
  · left
    refine ⟨?_, by rw [if_neg (by rw [h2]; decide)]⟩
    rw [runR, if_pos (by omega), if_neg]
    have := pPut_mono (nx ((pPut start [] []).1.getD 0 (0, 0))) (pPut start [] []).1 []
    omega
/-- The members, good pairs, of what comes out. -/
theorem runS_good {nx : Pr → List Pr} {Good : Pr → Prop} (hnx : ∀ p, Good p → ∀ q ∈ nx p, Good q) : ∀ (k n : Nat) (L : List Pr) (T : List (List Int)), (∀ p ∈ L, Good p) → L.length ≤ 2048 → (∀ p ∈ (runS nx k n L T).1, Good p) ∧ (runS nx k n L T).1.length ≤ 2049
  | 0, n, L, T, h, h2 => ⟨h, by show L.length ≤ _; omega⟩
  | k + 1, n, L, T, h, h2 => by
    rw [runS]
    split
    · rename_i q
      have hg := h _ (mem_getDP q)
      have h3 : ∀ p ∈ (pPutS (nx (L.getD n (0, 0))) L [] true).1, Good p := fun p hp => (pPutS_mem _ _ _ _ _ hp).elim (h p) (hnx _ hg p)
      have h4 := pPutS_len (nx (L.getD n (0, 0))) L [] true (fun _ => h2) (by omega)
      split
      · rename_i r
        exact runS_good hnx k _ _ _ h3 (h4.2 r)
      · exact ⟨h3, h4.1⟩
    · exact ⟨h, by show L.length ≤ _; omega⟩
theorem madeS_good {start : List Pr} {nx : Pr → List Pr} {Good : Pr → Prop} (hs : ∀ p ∈ start, Good p) (hnx : ∀ p, Good p → ∀ q ∈ nx p, Good q) : (∀ p ∈ (madeS start nx).1, Good p) ∧ (madeS start nx).1.length ≤ 2049 := by
  have h3 : ∀ p ∈ (pPutS start [] [] true).1, Good p := fun p hp => (pPutS_mem _ _ _ _ _ hp).elim (fun h => by cases h) (hs p)
  have h4 := pPutS_len start [] [] true (fun _ => by simp) (by simp)
  unfold madeS
  split
  · rename_i r
    exact runS_good hnx _ _ _ _ h3 (h4.2 r)
  · exact ⟨h3, h4.1⟩
theorem row_le {g : List (List Int)} {L : Nat} (h : ∀ l ∈ g, l.length ≤ L) (k : Nat) : (g.getD k []).length ≤ L := by
  rw [List.getD_eq_getElem?_getD]
  cases e : g[k]? with
  | none => simp
  | some l => exact h l (List.mem_of_getElem? e)
/-! ### Single -/
def sgridS (n : Nat) (F : List (List Int)) : List (List D) := F.map fun l => [dbl n (setB l)]
theorem pure_sgridS (n : Nat) (F : List (List Int)) : PureLL (sgridS n F) := pureLL_map _ (fun l => by simp [PureL, pure_dbl]) F
@[simp] theorem sgridS_len (n : Nat) (F : List (List Int)) : (sgridS n F).length = F.length := by simp [sgridS]
theorem sgridS_at {n : Nat} {F : List (List Int)} {z k : Nat} (hz : z = k) (h : k < F.length) : (sgridS n F)[z]? = some [dbl n (setB (F.getD k []))] := by
  subst hz
  unfold sgridS
  rw [List.getElem?_map, List.getElem?_eq_getElem h, List.getD_eq_getElem?_getD, List.getElem?_eq_getElem h]
  rfl
/-- The set that is waited for behind a state. -/
def kS (F : List (List Int)) (p : Pr) : Int := if F.length > 0 ∧ setB (F.getD p.2.toNat []) p.1.toNat = true then ((p.2.toNat + 1) % F.length : Nat) else p.2
def nxS (A : AutoD) (p : Pr) : List Pr := (A.next.getD p.1.toNat []).map fun t => (t, kS A.fair p)
def GoodS (A : AutoD) (p : Pr) : Prop := 0 ≤ p.1 ∧ p.1 < (A.next.length : Int) ∧ 0 ≤ p.2 ∧ (p.2 < (A.fair.length : Int) ∨ (A.fair.length = 0 ∧ p.2 = 0))
theorem GoodS.wf {A : AutoD} (h1 : A.next.length ≤ 2048) (h2 : A.fair.length ≤ 80) {p : Pr} (h : GoodS A p) : WfP p := by
  obtain ⟨a, b, c, d⟩ := h
  exact wfP_of ⟨a, by omega, c, by omega⟩
theorem GoodS.next {A : AutoD} (hin : ∀ l ∈ A.next, inB l A.next.length = true) {p : Pr} (h : GoodS A p) : ∀ q ∈ nxS A p, GoodS A q := by
  intro q hq
  obtain ⟨t, ht, rfl⟩ := List.mem_map.1 hq
  have hx := inB_mem (inB_row hin _) ht
  obtain ⟨a, b, c, d⟩ := h
  refine ⟨hx.1, hx.2, ?_, ?_⟩
  · show 0 ≤ kS A.fair p
    unfold kS
    split
    · omega
    · exact c
  · show kS A.fair p < _ ∨ _
    unfold kS
    split
    · rename_i r
      have := Nat.mod_lt (p.2.toNat + 1) r.1
      left
      omega
    · exact d
theorem nxS_snoc {A : AutoD} {p : Pr} {j : Nat} (h : j < (A.next.getD p.1.toNat []).length) : ((A.next.getD p.1.toNat []).take (j + 1)).map (fun t => (t, kS A.fair p)) = ((A.next.getD p.1.toNat []).take j).map (fun t => (t, kS A.fair p)) ++ [((A.next.getD p.1.toNat []).getD j 0, kS A.fair p)] := by
  rw [List.take_add_one, List.getElem?_eq_getElem h, List.map_append, List.getD_eq_getElem?_getD (l := A.next.getD p.1.toNat []), List.getElem?_eq_getElem h]
  rfl
def c38_1 : PC := .seq (.ops [⟨some 37,.bin .lss (.tmp 36) (.tmp 35),none,0⟩] false) (.seq (.cond (.tmp 37) (.skip) (.exit 0)) (.seq (.block 1 (.seq (.ops [⟨some 38,.iaddr 1 (.tmp 34) (.tmp 36),none,0⟩,
 ⟨some 39,.load1 (.tmp 38),none,0⟩,
 ⟨some 8,.move (.tmp 39),none,0⟩] false) (.ops [⟨some 40,.move (.tmp 6),none,0⟩,
 ⟨some 41,.move (.tmp 8),none,0⟩,
 ⟨some 42,.move (.tmp 5),none,0⟩,
 ⟨some 43,.build [(.int .i64 0), (.int .i64 0)] [(0, 1, (.tmp 41)), (1, 1, (.tmp 42))],none,0⟩,
 ⟨some 44,.bslice 2 1 [(.tmp 43)],none,0⟩,
 ⟨some 45,.append 2 16 (.tmp 40) (.tmp 44),none,0⟩,
 ⟨some 6,.move (.tmp 45),none,0⟩] false))) (.ops [⟨some 46,.bin .add (.tmp 36) (.const (.int .i64 1)),none,0⟩,
 ⟨some 36,.move (.tmp 46),none,0⟩] false)))
def c38 : PC := .seq (.ops [⟨some 3,.box (.tmp 0),none,0⟩,
 ⟨some 4,.move (.const (.slice none 0 0)),none,0⟩] false) (.seq (.ops [⟨some 9,.faddr 1 (.tmp 3),none,0⟩,
 ⟨some 10,.load1 (.tmp 9),none,0⟩,
 ⟨some 5,.move (.tmp 10),none,0⟩] false) (.seq (.stop (.seq (.ops [⟨some 11,.load1 (.tmp 1),none,0⟩,
 ⟨some 12,.len (.tmp 11),none,1⟩,
 ⟨some 13,.bin .gtr (.tmp 12) (.const (.int .i64 0)),none,3⟩,
 ⟨some 14,.move (.tmp 13),none,7⟩,
 ⟨some 15,.load1 (.tmp 1),some (14,true),15⟩,
 ⟨some 16,.move (.tmp 5),some (14,true),15⟩,
 ⟨some 17,.iaddr 1 (.tmp 15) (.tmp 16),some (14,true),63⟩,
 ⟨some 18,.load1 (.tmp 17),some (14,true),127⟩,
 ⟨some 19,.faddr 0 (.tmp 3),some (14,true),15⟩,
 ⟨some 20,.load1 (.tmp 19),some (14,true),271⟩,
 ⟨some 21,.iaddr 1 (.tmp 18) (.tmp 20),some (14,true),1023⟩,
 ⟨some 22,.load1 (.tmp 21),some (14,true),2047⟩,
 ⟨some 23,.pick (.tmp 14) (.tmp 22) (.const (.bool false)),none,4095⟩] true) (.cond (.tmp 23) (.ops [⟨some 24,.move (.tmp 5),none,0⟩,
 ⟨some 25,.bin .add (.tmp 24) (.const (.int .i64 1)),none,0⟩,
 ⟨some 26,.load1 (.tmp 1),none,0⟩,
 ⟨some 27,.len (.tmp 26),none,0⟩,
 ⟨some 28,.bin .rem (.tmp 25) (.tmp 27),none,0⟩,
 ⟨some 5,.move (.tmp 28),none,0⟩] false) (.skip)))) (.seq (.ops [⟨some 6,.move (.const (.slice none 0 0)),none,0⟩] false) (.seq (.seq (.ops [⟨some 29,.faddr 1 (.tmp 2),none,0⟩,
 ⟨some 30,.load1 (.tmp 29),none,0⟩,
 ⟨some 31,.faddr 0 (.tmp 3),none,0⟩,
 ⟨some 32,.load1 (.tmp 31),none,0⟩,
 ⟨some 33,.iaddr 1 (.tmp 30) (.tmp 32),none,0⟩,
 ⟨some 34,.load1 (.tmp 33),none,0⟩,
 ⟨some 35,.len (.tmp 34),none,0⟩,
 ⟨some 36,.move (.const (.int .i64 0)),none,0⟩] false) (.block 0 (.loop c38_1))) (.seq (.ops [⟨some 47,.move (.tmp 6),none,0⟩,
 ⟨some 4,.move (.tmp 47),none,0⟩] false) (.ret))))))
set_option maxRecDepth 100000 in
theorem c38_ok : FunOK Try.prog 38 48 [.tmp 4] c38 := ⟨⟨Try.f38, Try.func38, rfl, by kernel_rfl, rfl, by kernel_rfl⟩⟩
set_option maxRecDepth 100000 in
theorem au_nextS (A : AutoD) (hc : A.chk = 0) (hF : FitsG A.next) (hrl : ∀ l ∈ A.next, l.length ≤ 1048576) (p : Pr) (hg : GoodS A p) : PCall Try.prog 38 [.agg (dpair p.1 p.2), .ipt [.lst 1 (sgridS A.next.length A.fair)], .ipt A.cells] (dpairs (nxS A p)) := by
  obtain ⟨hm, hnn, h2048, h80, hst, hin, hfr⟩ := chk_auto A hc
  have hgF := hF.at p.1.toNat
  have hrL := row_le hrl p.1.toNat
  obtain ⟨a, b, c, d⟩ := hg
  refine pcall_intro c38_ok (by simp) (by simp [PureL, Pure, dpair, pure_sgridS, pure_aucells]) ?_ (pure_dpairs _)
  unfold dpair AutoD.cells
  (apply rd_sound; focus (repeat' constructor))
  ((conv=>whnf);repeat(refine .intro rfl ?_;conv=>whnf))
  refine pwp_cut (fun _ : Unit => [(2, .ipt [dints A.start, dgrid A.next, dlet A.must, dlet A.nots, dgrid A.fair]), (3, .loc 0 0), (5, .sc (.int .i64 (kS A.fair p)))]) (fun _ => [.row true [.sc (.int .i64 p.1), .sc (.int .i64 p.2)]]) (fun _ => True) ?_ ?_
  · (apply rd_sound; focus (repeat' constructor))
    ((conv=>whnf);repeat(refine .intro rfl ?_;conv=>whnf))
    rw [sgridS_len]
    (refine ifK_split (fun q => ?_) (fun q => ?_) <;> (rw [q]; ((conv=>whnf);repeat(refine .intro rfl ?_;conv=>whnf))))
    · have q : 0 < A.fair.length := by ((try simp only[oo,reduceCtorEq]at*)<;>omega)
      refine ⟨by omega, _, sgridS_at (k := p.2.toNat) (by omega) (by omega), ?_⟩
      ((conv=>whnf);repeat(refine .intro rfl ?_;conv=>whnf))
      refine ⟨by omega, _, rbl_atN p.1.toNat (by omega) (by omega), ?_⟩
      ((conv=>whnf);repeat(refine .intro rfl ?_;conv=>whnf))
      cases r : setB (A.fair.getD p.2.toNat []) p.1.toNat
      · have e : kS A.fair p = p.2 := by unfold kS; rw [if_neg (by rw [r]; simp)]
        rw [e]
        ((conv=>whnf);repeat(refine .intro rfl ?_;conv=>whnf))
        exact ⟨(), trivial, leB_env (by (repeat' (first | exact trivial | refine And.intro rfl ?_)))⟩
      · have e : kS A.fair p = ((p.2.toNat + 1) % A.fair.length : Nat) := by unfold kS; rw [if_pos ⟨q, r⟩]
        rw [e]
        ((conv=>whnf);repeat(refine .intro rfl ?_;conv=>whnf))
        (refine .inl ⟨by (unfold InR; rw [IntKind.wrap_i64]; omega), ?_⟩; ((conv=>whnf);repeat(refine .intro rfl ?_;conv=>whnf)))
        rw [sgridS_len]
        refine ⟨by omega, ?_⟩
        rw [show (p.2 + 1).tmod (A.fair.length : Int) = (((p.2.toNat + 1) % A.fair.length : Nat) : Int) by rw [show p.2 + 1 = ((p.2.toNat + 1 : Nat) : Int) by omega, ← Int.ofNat_tmod]]
        ((conv=>whnf);repeat(refine .intro rfl ?_;conv=>whnf))
        exact ⟨(), trivial, leB_env (by (repeat' (first | exact trivial | refine And.intro rfl ?_)))⟩
    · have e : kS A.fair p = p.2 := by unfold kS; rw [if_neg (by ((try simp only[oo,reduceCtorEq]at*)<;>omega))]
      rw [e]
      exact ⟨(), trivial, leB_env (by (repeat' (first | exact trivial | refine And.intro rfl ?_)))⟩
  rintro _ _
  ((conv=>whnf);repeat(refine .intro rfl ?_;conv=>whnf))
  refine ⟨by omega, _, gridD_at (g := A.next) (k := p.1.toNat) (by omega) (by omega), ?_⟩
  ((conv=>whnf);repeat(refine .intro rfl ?_;conv=>whnf))
  rw [List.length_map]
  refine pwp_ghostB (leB_nil 6 2 (by simp) rfl) ?_
  refine pwp_for [5, 34, 35] (fun ((j, c) : Nat × Nat) => [(6, .own 1 c 0 c), (36, .sc (.int .i64 j))]) (fun (j, c) => [(1, .vec true c 2 (prows (((A.next.getD p.1.toNat []).take j).map fun t => (t, kS A.fair p))))]) (fun (j, c) => j ≤ (A.next.getD p.1.toNat []).length ∧ j = c) (fun (j, c) => (A.next.getD p.1.toNat []).length - j) (0, 0) ?_
  ((conv=>whnf);repeat(refine .intro rfl ?_;conv=>whnf))
  refine ⟨⟨by omega, rfl⟩, by (repeat' (first | exact trivial | refine And.intro rfl ?_)), rfl, ?_⟩
  rintro ⟨j, c⟩ ⟨hj, rfl⟩
  ((conv=>whnf);repeat(refine .intro rfl ?_;conv=>whnf))
  (apply rd_sound; focus (repeat' constructor))
  ((conv=>whnf);repeat(refine .intro rfl ?_;conv=>whnf))
  (refine ifK_split (fun q0 => ?_) (fun q0 => ?_) <;> (rw [q0]; ((conv=>whnf);repeat(refine .intro rfl ?_;conv=>whnf))))
  · have q0 : j < (A.next.getD p.1.toNat []).length := by ((try simp only[oo,reduceCtorEq]at*)<;>omega)
    have eS := nxS_snoc (A := A) q0
    refine ⟨by omega, _, intsD_at (l := A.next.getD p.1.toNat []) (k := j) (by omega) q0, ?_⟩
    ((conv=>whnf);repeat(refine .intro rfl ?_;conv=>whnf))
    refine ⟨(by unfold sliceAppend; simp only [ll]; omega), ?_⟩
    ((conv=>whnf);repeat(refine .intro rfl ?_;conv=>whnf))
    (refine .inl ⟨by (unfold InR; rw [IntKind.wrap_i64]; omega), ?_⟩; ((conv=>whnf);repeat(refine .intro rfl ?_;conv=>whnf)))
    refine ⟨(j + 1, j + 1), ⟨by omega, rfl⟩, by dsimp only; omega, ?_⟩
    dsimp only
    rw [eS]
    (refine leB_close 2 (by simp) rfl ?_ ?_ <;> (repeat' (first | exact trivial | exact rfl | exact DeepM.refl _ | exact DeepML.refl _ | exact DeepMLL.refl _ | refine And.intro ?_ ?_ | (simp [Under, UnderL, UnderLL, -List.map_take, -List.map_drop]; done))))
    exact deepMLL_eq (prows_snoc (by rw [List.length_map, List.length_take]; omega))
  · have q0 : j = (A.next.getD p.1.toNat []).length := by have : ¬ j < (A.next.getD p.1.toNat []).length := by ((try simp only[oo,reduceCtorEq]at*)<;>omega)
                                                          omega
    subst q0
    rw [List.take_length]
    exact .own _ _ _ _ _ _ _ _ rfl (by rw [drop_take_all (by rw [prows_len, List.length_map]; exact Nat.le_refl _)]; exact deepLL_refl _)
def c45_1 : PC := .seq (.seq (.ops [⟨some 27,.move (.tmp 7),none,0⟩,
 ⟨some 28,.faddr 1 (.tmp 2),none,0⟩,
 ⟨some 29,.load1 (.tmp 28),none,0⟩,
 ⟨some 30,.aaddr 2 1 (.tmp 3) (.const (.int .i64 0)),none,0⟩,
 ⟨some 31,.load1 (.tmp 30),none,0⟩,
 ⟨some 32,.iaddr 1 (.tmp 29) (.tmp 31),none,0⟩,
 ⟨some 33,.load1 (.tmp 32),none,0⟩,
 ⟨some 34,.len (.tmp 33),none,0⟩,
 ⟨some 35,.bin .lss (.tmp 27) (.tmp 34),none,0⟩] false) (.cond (.tmp 35) (.skip) (.exit 0))) (.seq (.block 1 (.ops [⟨some 38,.move (.tmp 6),none,0⟩,
 ⟨some 39,.faddr 1 (.tmp 2),none,0⟩,
 ⟨some 40,.load1 (.tmp 39),none,0⟩,
 ⟨some 41,.aaddr 2 1 (.tmp 3) (.const (.int .i64 0)),none,0⟩,
 ⟨some 42,.load1 (.tmp 41),none,0⟩,
 ⟨some 43,.iaddr 1 (.tmp 40) (.tmp 42),none,0⟩,
 ⟨some 44,.load1 (.tmp 43),none,0⟩,
 ⟨some 45,.move (.tmp 7),none,0⟩,
 ⟨some 46,.iaddr 1 (.tmp 44) (.tmp 45),none,0⟩,
 ⟨some 47,.load1 (.tmp 46),none,0⟩,
 ⟨some 48,.move (.tmp 5),none,0⟩,
 ⟨some 49,.build [(.int .i64 0), (.int .i64 0)] [(0, 1, (.tmp 47)), (1, 1, (.tmp 48))],none,0⟩,
 ⟨some 50,.bslice 2 1 [(.tmp 49)],none,0⟩,
 ⟨some 51,.append 2 16 (.tmp 38) (.tmp 50),none,0⟩,
 ⟨some 6,.move (.tmp 51),none,0⟩] false)) (.ops [⟨some 36,.move (.tmp 7),none,0⟩,
 ⟨some 37,.bin .add (.tmp 36) (.const (.int .i64 1)),none,0⟩,
 ⟨some 7,.move (.tmp 37),none,0⟩] false))
def c45 : PC := .seq (.ops [⟨some 3,.box (.tmp 0),none,0⟩,
 ⟨some 4,.move (.const (.slice none 0 0)),none,0⟩] false) (.seq (.ops [⟨some 8,.aaddr 2 1 (.tmp 3) (.const (.int .i64 1)),none,0⟩,
 ⟨some 9,.load1 (.tmp 8),none,0⟩,
 ⟨some 5,.move (.tmp 9),none,0⟩] false) (.seq (.stop (.seq (.ops [⟨some 10,.load1 (.tmp 1),none,0⟩,
 ⟨some 11,.bin .gtr (.tmp 10) (.const (.int .i64 0)),none,1⟩,
 ⟨some 12,.move (.tmp 11),none,3⟩,
 ⟨some 13,.faddr 4 (.tmp 2),some (12,true),7⟩,
 ⟨some 14,.load1 (.tmp 13),some (12,true),15⟩,
 ⟨some 15,.move (.tmp 5),some (12,true),7⟩,
 ⟨some 16,.iaddr 1 (.tmp 14) (.tmp 15),some (12,true),63⟩,
 ⟨some 17,.load1 (.tmp 16),some (12,true),127⟩,
 ⟨some 18,.aaddr 2 1 (.tmp 3) (.const (.int .i64 0)),some (12,true),7⟩,
 ⟨some 19,.load1 (.tmp 18),some (12,true),263⟩,
 ⟨some 20,.call 46 [(.tmp 17), (.tmp 19)],some (12,true),1023⟩,
 ⟨some 21,.pick (.tmp 12) (.tmp 20) (.const (.bool false)),none,2047⟩] true) (.cond (.tmp 21) (.seq (.ops [⟨some 22,.move (.tmp 5),none,0⟩,
 ⟨some 23,.bin .add (.tmp 22) (.const (.int .i64 1)),none,0⟩,
 ⟨some 5,.move (.tmp 23),none,0⟩] false) (.seq (.ops [⟨some 24,.move (.tmp 5),none,0⟩,
 ⟨some 25,.load1 (.tmp 1),none,0⟩,
 ⟨some 26,.bin .eql (.tmp 24) (.tmp 25),none,0⟩] false) (.cond (.tmp 26) (.ops [⟨some 5,.move (.const (.int .i64 0)),none,0⟩] false) (.skip)))) (.skip)))) (.seq (.ops [⟨some 6,.move (.const (.slice none 0 0)),none,0⟩] false) (.seq (.seq (.ops [⟨some 7,.move (.const (.int .i64 0)),none,0⟩] false) (.block 0 (.loop c45_1))) (.seq (.ops [⟨some 52,.move (.tmp 6),none,0⟩,
 ⟨some 4,.move (.tmp 52),none,0⟩] false) (.ret))))))
set_option maxRecDepth 100000 in
theorem c45_ok : FunOK Try.prog 45 53 [.tmp 4] c45 := ⟨⟨Try.f45, Try.func45, rfl, by kernel_rfl, rfl, by kernel_rfl⟩⟩
set_option maxRecDepth 100000 in
theorem ref_nextS (A : AutoD) (hc : A.chk = 0) (hF : FitsG A.next) (hFF : FitsG A.fair) (hrl : ∀ l ∈ A.next, l.length ≤ 1048576) (p : Pr) (hg : GoodS A p) : PCall Try.prog 45 [.agg (dpair p.1 p.2), .ipt [.sc (.int .i64 A.fair.length)], .ipt A.cells] (dpairs (nxS A p)) := by
  obtain ⟨hm, hnn, h2048, h80, hst, hin, hfr⟩ := chk_auto A hc
  have hgF := hF.at p.1.toNat
  have hrL := row_le hrl p.1.toNat
  have hff := hFF.at p.2.toNat
  obtain ⟨a, b, c, d⟩ := hg
  refine pcall_intro c45_ok (by simp) (by simp [PureL, Pure, dpair, pure_aucells]) ?_ (pure_dpairs _)
  unfold dpair AutoD.cells
  (apply rd_sound; focus (repeat' constructor))
  ((conv=>whnf);repeat(refine .intro rfl ?_;conv=>whnf))
  refine ⟨by omega, by omega, ?_⟩
  ((conv=>whnf);repeat(refine .intro rfl ?_;conv=>whnf))
  refine pwp_cut (fun _ : Unit => [(2, .ipt [dints A.start, dgrid A.next, dlet A.must, dlet A.nots, dgrid A.fair]), (3, .loc 0 0), (5, .sc (.int .i64 (kS A.fair p)))]) (fun _ => [.row true [.sc (.int .i64 p.1), .sc (.int .i64 p.2)]]) (fun _ => True) ?_ ?_
  · (apply rd_sound; focus (repeat' constructor))
    ((conv=>whnf);repeat(refine .intro rfl ?_;conv=>whnf))
    have hcon := fun n => contains_int (A.fair.getD p.2.toNat []) (by omega) n
    (refine ifK_split (fun q => ?_) (fun q => ?_) <;> (rw [q]; ((conv=>whnf);repeat(refine .intro rfl ?_;conv=>whnf))))
    · have q : 0 < A.fair.length := by ((try simp only[oo,reduceCtorEq]at*)<;>omega)
      refine ⟨by omega, _, gridD_at (g := A.fair) (k := p.2.toNat) (by omega) (by omega), ?_⟩
      ((conv=>whnf);repeat(refine .intro rfl ?_;conv=>whnf))
      refine ⟨by omega, by omega, ?_⟩
      ((conv=>whnf);repeat(refine .intro rfl ?_;conv=>whnf))
      (refine .inl ⟨_, (hcon p.1), ?_⟩; ((conv=>whnf);repeat(refine .intro rfl ?_;conv=>whnf)))
      have hset : setB (A.fair.getD p.2.toNat []) p.1.toNat = (A.fair.getD p.2.toNat []).contains p.1 := by unfold setB; rw [Int.toNat_of_nonneg a]
      rw [← hset]
      cases r : setB (A.fair.getD p.2.toNat []) p.1.toNat
      · have e : kS A.fair p = p.2 := by unfold kS; rw [if_neg (by rw [r]; simp)]
        rw [e]
        ((conv=>whnf);repeat(refine .intro rfl ?_;conv=>whnf))
        exact ⟨(), trivial, leB_env (by (repeat' (first | exact trivial | refine And.intro rfl ?_)))⟩
      · have e : kS A.fair p = ((p.2.toNat + 1) % A.fair.length : Nat) := by unfold kS; rw [if_pos ⟨q, r⟩]
        ((conv=>whnf);repeat(refine .intro rfl ?_;conv=>whnf))
        (refine .inl ⟨by (unfold InR; rw [IntKind.wrap_i64]; omega), ?_⟩; ((conv=>whnf);repeat(refine .intro rfl ?_;conv=>whnf)))
        (refine ifK_split (fun q2 => ?_) (fun q2 => ?_) <;> (rw [q2]; ((conv=>whnf);repeat(refine .intro rfl ?_;conv=>whnf))))
        · have q2 : p.2 + 1 = (A.fair.length : Int) := by ((try simp only[oo,reduceCtorEq]at*)<;>omega)
          rw [e, show p.2.toNat + 1 = A.fair.length by omega, Nat.mod_self]
          exact ⟨(), trivial, leB_env (by (repeat' (first | exact trivial | refine And.intro rfl ?_)))⟩
        · have q2 : p.2 + 1 ≠ (A.fair.length : Int) := by ((try simp only[oo,reduceCtorEq]at*)<;>omega)
          rw [e, Nat.mod_eq_of_lt (by omega), show ((p.2.toNat + 1 : Nat) : Int) = p.2 + 1 by omega]
          exact ⟨(), trivial, leB_env (by (repeat' (first | exact trivial | refine And.intro rfl ?_)))⟩
    · have e : kS A.fair p = p.2 := by unfold kS; rw [if_neg (by ((try simp only[oo,reduceCtorEq]at*)<;>omega))]
      rw [e]
      exact ⟨(), trivial, leB_env (by (repeat' (first | exact trivial | refine And.intro rfl ?_)))⟩
  rintro _ _
  ((conv=>whnf);repeat(refine .intro rfl ?_;conv=>whnf))
  refine pwp_ghostB (leB_nil 6 2 (by simp) rfl) ?_
  refine pwp_for [2, 3, 5] (fun ((j, c) : Nat × Nat) => [(6, .own 1 c 0 c), (7, .sc (.int .i64 j))]) (fun (j, c) => [(1, .vec true c 2 (prows (((A.next.getD p.1.toNat []).take j).map fun t => (t, kS A.fair p))))]) (fun (j, c) => j ≤ (A.next.getD p.1.toNat []).length ∧ j = c) (fun (j, c) => (A.next.getD p.1.toNat []).length - j) (0, 0) ?_
  ((conv=>whnf);repeat(refine .intro rfl ?_;conv=>whnf))
  refine ⟨⟨by omega, rfl⟩, by (repeat' (first | exact trivial | refine And.intro rfl ?_)), rfl, ?_⟩
  rintro ⟨j, c⟩ ⟨hj, rfl⟩
  ((conv=>whnf);repeat(refine .intro rfl ?_;conv=>whnf))
  (apply rd_sound; focus (repeat' constructor))
  ((conv=>whnf);repeat(refine .intro rfl ?_;conv=>whnf))
  refine ⟨by omega, by omega, ?_⟩
  ((conv=>whnf);repeat(refine .intro rfl ?_;conv=>whnf))
  refine ⟨by omega, _, gridD_at (g := A.next) (k := p.1.toNat) (by omega) (by omega), ?_⟩
  ((conv=>whnf);repeat(refine .intro rfl ?_;conv=>whnf))
  rw [List.length_map]
  (refine ifK_split (fun q0 => ?_) (fun q0 => ?_) <;> (rw [q0]; ((conv=>whnf);repeat(refine .intro rfl ?_;conv=>whnf))))
  · have q0 : j < (A.next.getD p.1.toNat []).length := by ((try simp only[oo,reduceCtorEq]at*)<;>omega)
    have eS := nxS_snoc (A := A) q0
    refine ⟨by omega, by omega, ?_⟩
    ((conv=>whnf);repeat(refine .intro rfl ?_;conv=>whnf))
    refine ⟨by omega, _, gridD_at (g := A.next) (k := p.1.toNat) (by omega) (by omega), ?_⟩
    ((conv=>whnf);repeat(refine .intro rfl ?_;conv=>whnf))
    refine ⟨by omega, _, intsD_at (l := A.next.getD p.1.toNat []) (k := j) (by omega) q0, ?_⟩
    ((conv=>whnf);repeat(refine .intro rfl ?_;conv=>whnf))
    refine ⟨(by unfold sliceAppend; simp only [ll]; omega), ?_⟩
    ((conv=>whnf);repeat(refine .intro rfl ?_;conv=>whnf))
    (refine .inl ⟨by (unfold InR; rw [IntKind.wrap_i64]; omega), ?_⟩; ((conv=>whnf);repeat(refine .intro rfl ?_;conv=>whnf)))
    refine ⟨(j + 1, j + 1), ⟨by omega, rfl⟩, by dsimp only; omega, ?_⟩
    dsimp only
    rw [eS]
    (refine leB_close 2 (by simp) rfl ?_ ?_ <;> (repeat' (first | exact trivial | exact rfl | exact DeepM.refl _ | exact DeepML.refl _ | exact DeepMLL.refl _ | refine And.intro ?_ ?_ | (simp [Under, UnderL, UnderLL, -List.map_take, -List.map_drop]; done))))
    exact deepMLL_eq (prows_snoc (by rw [List.length_map, List.length_take]; omega))
  · have q0 : j = (A.next.getD p.1.toNat []).length := by have : ¬ j < (A.next.getD p.1.toNat []).length := by ((try simp only[oo,reduceCtorEq]at*)<;>omega)
                                                          omega
    subst q0
    rw [List.take_length]
    exact .own _ _ _ _ _ _ _ _ rfl (by rw [drop_take_all (by rw [prows_len, List.length_map]; exact Nat.le_refl _)]; exact deepLL_refl _)
end Go.Proofs.Ytfaekhadjlgbbaa
