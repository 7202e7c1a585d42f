/-
  Nb8 Nb9 Nba Nbb joined. No statement is proved here.
-/
import Derived.Test.YtfaekhadjlgbbaaQNb5
namespace Go.Proofs.Ytfaekhadjlgbbaa
/-! ### XNb8 -/
section
open Go.RowKit
set_option linter.unusedSimpArgs false
set_option linter.unusedVariables false
def okB (A B : AutoD) (x y : Int) : Bool := bitsV .and .u64 (A.must.getD x.toNat 0) (B.nots.getD y.toNat 0) == 0 && bitsV .and .u64 (A.nots.getD x.toNat 0) (B.must.getD y.toNat 0) == 0
def rowX (A B : AutoD) (x : Int) (k : List Int) : List Pr := (k.filter fun y => okB A B x y).map fun y => (x, y)
def crossL (A B : AutoD) (l k : List Int) : List Pr := l.flatMap fun x => rowX A B x k
def crossT (A B : AutoD) (l k : List Int) (i j : Nat) : List Pr := crossL A B (l.take i) k ++ rowX A B (l.getD i 0) (k.take j)
theorem rowX_len (A B : AutoD) (x : Int) (k : List Int) : (rowX A B x k).length ≤ k.length := by unfold rowX; rw [List.length_map]; exact List.length_filter_le _ _
theorem crossL_len (A B : AutoD) (l k : List Int) : (crossL A B l k).length ≤ l.length * k.length := by
  induction l with
  | nil => simp [crossL]
  | cons x r ih =>
    have := rowX_len A B x k
    simp only [crossL, List.flatMap_cons, List.length_append, List.length_cons] at ih ⊢
    rw [Nat.add_mul, Nat.one_mul]
    omega
theorem crossL_succ {A B : AutoD} {l k : List Int} {i : Nat} (h : i < l.length) : crossL A B (l.take (i + 1)) k = crossL A B (l.take i) k ++ rowX A B (l.getD i 0) k := by
  unfold crossL
  rw [List.take_add_one, List.getElem?_eq_getElem h, List.flatMap_append, List.getD_eq_getElem?_getD, List.getElem?_eq_getElem h]
  simp
theorem crossT_zero (A B : AutoD) (l k : List Int) (i : Nat) : crossT A B l k i 0 = crossL A B (l.take i) k := by simp [crossT, rowX]
theorem crossT_all {A B : AutoD} {l k : List Int} {i : Nat} (h : i < l.length) : crossT A B l k i k.length = crossL A B (l.take (i + 1)) k := by
  unfold crossT
  rw [List.take_length, crossL_succ h]
theorem crossT_succ {A B : AutoD} {l k : List Int} {i j : Nat} (h : j < k.length) : crossT A B l k i (j + 1) = if okB A B (l.getD i 0) (k.getD j 0) = true then crossT A B l k i j ++ [(l.getD i 0, k.getD j 0)] else crossT A B l k i j := by
  unfold crossT rowX
  rw [List.take_add_one, List.getElem?_eq_getElem h, List.filter_append, List.map_append, List.getD_eq_getElem?_getD (l := k), List.getElem?_eq_getElem h, ← List.append_assoc]
  simp only [Option.toList_some, Option.getD_some, List.filter_cons, List.filter_nil]
  split <;> simp
theorem crossT_len {A B : AutoD} {l k : List Int} {i j : Nat} (hl : l.length ≤ 1048576) (hk : k.length ≤ 1048576) (hi : i < l.length) : (crossT A B l k i j).length ≤ 1099511627776 := by
  have h1 := crossL_len A B (l.take i) k
  have h2 := rowX_len A B (l.getD i 0) (k.take j)
  rw [List.length_take] at h1 h2
  have h3 : min i l.length * k.length + k.length ≤ 1048576 * 1048576 := by
    have := Nat.mul_le_mul (show min i l.length + 1 ≤ 1048576 by omega) hk
    rw [Nat.add_mul, Nat.one_mul] at this
    exact this
  unfold crossT
  rw [List.length_append]
  omega
def GoodB (A B : AutoD) (p : Pr) : Prop := (0 ≤ p.1 ∧ p.1 < (A.next.length : Int)) ∧ 0 ≤ p.2 ∧ p.2 < (B.next.length : Int)
theorem GoodB.wf {A B : AutoD} (h1 : A.next.length ≤ 2048) (h2 : B.next.length ≤ 2048) {p : Pr} (h : GoodB A B p) : WfP p := by
  obtain ⟨⟨a, b⟩, c, d⟩ := h
  exact wfP_of ⟨a, by omega, c, by omega⟩
theorem crossL_good {A B : AutoD} {l k : List Int} (hl : inB l A.next.length = true) (hk : inB k B.next.length = true) : ∀ p ∈ crossL A B l k, GoodB A B p := by
  intro p hp
  obtain ⟨x, hx, hp⟩ := List.mem_flatMap.1 hp
  obtain ⟨y, hy, rfl⟩ := List.mem_map.1 hp
  exact ⟨inB_mem hl hx, inB_mem hk (List.mem_filter.1 hy).1⟩
def nxB (A B : AutoD) (p : Pr) : List Pr := crossL A B (A.next.getD p.1.toNat []) (B.next.getD p.2.toNat [])
structure TwoA (A B : AutoD) : Prop where
  ca : A.chk = 0
  cb : B.chk = 0
  fa : A.Fits
  fb : B.Fits
  sa : A.start.length ≤ 1048576
  sb : B.start.length ≤ 1048576
  ra : ∀ l ∈ A.next, l.length ≤ 1048576
  rb : ∀ l ∈ B.next, l.length ≤ 1048576
theorem TwoA.next {A B : AutoD} (h : TwoA A B) (p : Pr) : (∀ q ∈ nxB A B p, GoodB A B q) ∧ (nxB A B p).length ≤ 1099511627776 := by
  obtain ⟨_, _, _, _, _, hin, _⟩ := chk_auto A h.ca
  obtain ⟨_, _, _, _, _, hin', _⟩ := chk_auto B h.cb
  refine ⟨crossL_good (inB_row hin _) (inB_row hin' _), ?_⟩
  have h1 := crossL_len A B (A.next.getD p.1.toNat []) (B.next.getD p.2.toNat [])
  have h2 := Nat.mul_le_mul (row_le h.ra p.1.toNat) (row_le h.rb p.2.toNat)
  unfold nxB
  omega
theorem TwoA.begin {A B : AutoD} (h : TwoA A B) : (∀ q ∈ crossL A B A.start B.start, GoodB A B q) ∧ (crossL A B A.start B.start).length ≤ 1099511627776 := by
  obtain ⟨_, _, _, _, hst, _, _⟩ := chk_auto A h.ca
  obtain ⟨_, _, _, _, hst', _, _⟩ := chk_auto B h.cb
  refine ⟨crossL_good hst hst', ?_⟩
  have h1 := crossL_len A B A.start B.start
  have h2 := Nat.mul_le_mul h.sa h.sb
  omega
def c47_2 : PC := .seq (.ops [⟨some 21,.bin .lss (.tmp 20) (.tmp 19),none,0⟩] false) (.seq (.cond (.tmp 21) (.skip) (.exit 2)) (.seq (.block 3 (.seq (.ops [⟨some 22,.iaddr 1 (.tmp 18) (.tmp 20),none,0⟩,
 ⟨some 23,.load1 (.tmp 22),none,0⟩,
 ⟨some 11,.move (.tmp 23),none,0⟩] false) (.seq (.ops [⟨some 24,.faddr 2 (.tmp 2),none,0⟩,
 ⟨some 25,.load1 (.tmp 24),none,1⟩,
 ⟨some 26,.move (.tmp 9),none,0⟩,
 ⟨some 27,.iaddr 1 (.tmp 25) (.tmp 26),none,7⟩,
 ⟨some 28,.load1 (.tmp 27),none,15⟩,
 ⟨some 29,.faddr 3 (.tmp 3),none,0⟩,
 ⟨some 30,.load1 (.tmp 29),none,32⟩,
 ⟨some 31,.move (.tmp 11),none,0⟩,
 ⟨some 32,.iaddr 1 (.tmp 30) (.tmp 31),none,224⟩,
 ⟨some 33,.load1 (.tmp 32),none,480⟩,
 ⟨some 34,.bin .and (.tmp 28) (.tmp 33),none,1023⟩,
 ⟨some 35,.bin .eql (.tmp 34) (.const (.int .u64 0)),none,2047⟩,
 ⟨some 36,.move (.tmp 35),none,4095⟩,
 ⟨some 37,.faddr 3 (.tmp 2),some (36,true),8191⟩,
 ⟨some 38,.load1 (.tmp 37),some (36,true),16383⟩,
 ⟨some 39,.move (.tmp 9),some (36,true),8191⟩,
 ⟨some 40,.iaddr 1 (.tmp 38) (.tmp 39),some (36,true),65535⟩,
 ⟨some 41,.load1 (.tmp 40),some (36,true),131071⟩,
 ⟨some 42,.faddr 2 (.tmp 3),some (36,true),8191⟩,
 ⟨some 43,.load1 (.tmp 42),some (36,true),270335⟩,
 ⟨some 44,.move (.tmp 11),some (36,true),8191⟩,
 ⟨some 45,.iaddr 1 (.tmp 43) (.tmp 44),some (36,true),1843199⟩,
 ⟨some 46,.load1 (.tmp 45),some (36,true),3940351⟩,
 ⟨some 47,.bin .and (.tmp 41) (.tmp 46),some (36,true),8388607⟩,
 ⟨some 48,.bin .eql (.tmp 47) (.const (.int .u64 0)),some (36,true),16777215⟩,
 ⟨some 49,.pick (.tmp 36) (.tmp 48) (.const (.bool false)),none,33554431⟩] true) (.cond (.tmp 49) (.ops [⟨some 50,.move (.tmp 7),none,0⟩,
 ⟨some 51,.move (.tmp 9),none,0⟩,
 ⟨some 52,.move (.tmp 11),none,0⟩,
 ⟨some 53,.build [(.int .i64 0), (.int .i64 0)] [(0, 1, (.tmp 51)), (1, 1, (.tmp 52))],none,0⟩,
 ⟨some 54,.bslice 2 1 [(.tmp 53)],none,0⟩,
 ⟨some 55,.append 2 16 (.tmp 50) (.tmp 54),none,0⟩,
 ⟨some 7,.move (.tmp 55),none,0⟩] false) (.skip))))) (.ops [⟨some 56,.bin .add (.tmp 20) (.const (.int .i64 1)),none,0⟩,
 ⟨some 20,.move (.tmp 56),none,0⟩] false)))
def c47_1 : PC := .seq (.ops [⟨some 15,.bin .lss (.tmp 14) (.tmp 13),none,0⟩] false) (.seq (.cond (.tmp 15) (.skip) (.exit 0)) (.seq (.block 1 (.seq (.ops [⟨some 16,.iaddr 1 (.tmp 12) (.tmp 14),none,0⟩,
 ⟨some 17,.load1 (.tmp 16),none,0⟩,
 ⟨some 9,.move (.tmp 17),none,0⟩] false) (.seq (.ops [⟨some 18,.move (.tmp 1),none,0⟩,
 ⟨some 19,.len (.tmp 18),none,0⟩,
 ⟨some 20,.move (.const (.int .i64 0)),none,0⟩] false) (.block 2 (.loop c47_2))))) (.ops [⟨some 57,.bin .add (.tmp 14) (.const (.int .i64 1)),none,0⟩,
 ⟨some 14,.move (.tmp 57),none,0⟩] false)))
def c47 : PC := .seq (.ops [⟨some 6,.move (.const (.slice none 0 0)),none,0⟩] false) (.seq (.ops [⟨some 7,.move (.const (.slice none 0 0)),none,0⟩] false) (.seq (.seq (.ops [⟨some 12,.move (.tmp 0),none,0⟩,
 ⟨some 13,.len (.tmp 12),none,0⟩,
 ⟨some 14,.move (.const (.int .i64 0)),none,0⟩] false) (.block 0 (.loop c47_1))) (.seq (.ops [⟨some 58,.move (.tmp 7),none,0⟩,
 ⟨some 6,.move (.tmp 58),none,0⟩] false) (.ret))))
set_option maxRecDepth 100000 in
theorem c47_ok : FunOK Try.prog 47 59 [.tmp 6] c47 := ⟨⟨Try.f47, Try.func47, rfl, by kernel_rfl, rfl, by kernel_rfl⟩⟩
set_option maxRecDepth 100000 in
theorem au_cross {A B : AutoD} (h : TwoA A B) (l k : List Int) (hl : l.length ≤ 1048576) (hk : k.length ≤ 1048576) (il : inB l A.next.length = true) (ik : inB k B.next.length = true) :
    PCall Try.prog 47 [dints l, dints k, .ipt A.cells, .ipt B.cells] (dpairs (crossL A B l k)) := by
  obtain ⟨hm, hnn, h2048, h80, hst, hin, hfr⟩ := chk_auto A h.ca
  obtain ⟨hm', hnn', h2048', h80', hst', hin', hfr'⟩ := chk_auto B h.cb
  refine pcall_intro c47_ok (by simp) (by simp [PureL, Pure, pure_dints, pure_aucells]) ?_ (pure_dpairs _)
  have hT := fun i j (hi : i < l.length) => crossT_len (A := A) (B := B) (j := j) hl hk hi
  unfold AutoD.cells
  (apply rd_sound; focus (repeat' constructor))
  ((conv=>whnf);repeat(refine .intro rfl ?_;conv=>whnf))
  rw [List.length_map]
  refine pwp_ghostB (leB_nil 7 2 (by simp) rfl) ?_
  refine pwp_for [1, 2, 3, 12, 13] (fun ((i, c) : Nat × Nat) => [(7, .own 0 c 0 c), (14, .sc (.int .i64 i))]) (fun (i, c) => [(0, .vec true c 2 (prows (crossL A B (l.take i) k)))]) (fun (i, c) => i ≤ l.length ∧ (crossL A B (l.take i) k).length = c) (fun (i, c) => l.length - i) (0, 0) ?_
  ((conv=>whnf);repeat(refine .intro rfl ?_;conv=>whnf))
  refine ⟨⟨by omega, by simp [crossL]⟩, by (repeat' (first | exact trivial | refine And.intro rfl ?_)), by simp [crossL]; rfl, ?_⟩
  rintro ⟨i, c0⟩ ⟨hi, hc0⟩
  ((conv=>whnf);repeat(refine .intro rfl ?_;conv=>whnf))
  (apply rd_sound; focus (repeat' constructor))
  ((conv=>whnf);repeat(refine .intro rfl ?_;conv=>whnf))
  (refine ifK_split (fun q0 => ?_) (fun q0 => ?_) <;> (rw [q0]; ((conv=>whnf);repeat(refine .intro rfl ?_;conv=>whnf))))
  · have q0 : i < l.length := by ((try simp only[oo,reduceCtorEq]at*)<;>omega)
    refine ⟨by omega, _, intsD_at (l := l) (k := i) (by omega) q0, ?_⟩
    ((conv=>whnf);repeat(refine .intro rfl ?_;conv=>whnf))
    have hx := inB_mem il (mem_getD q0)
    rw [List.length_map]
    refine pwp_for [1, 2, 3, 9, 12, 13, 14, 18, 19] (fun ((j, c) : Nat × Nat) => [(7, .own 0 c 0 c), (20, .sc (.int .i64 j))]) (fun (j, c) => [(0, .vec true c 2 (prows (crossT A B l k i j)))]) (fun (j, c) => j ≤ k.length ∧ (crossT A B l k i j).length = c) (fun (j, c) => k.length - j) (0, c0) ?_
    ((conv=>whnf);repeat(refine .intro rfl ?_;conv=>whnf))
    refine ⟨⟨by omega, by rw [crossT_zero]; exact hc0⟩, by (repeat' (first | exact trivial | refine And.intro rfl ?_)), by dsimp only; rw [crossT_zero]; rfl, ?_⟩
    rintro ⟨j, c⟩ ⟨hj, hc⟩
    have hTl := hT i j q0
    ((conv=>whnf);repeat(refine .intro rfl ?_;conv=>whnf))
    (apply rd_sound; focus (repeat' constructor))
    ((conv=>whnf);repeat(refine .intro rfl ?_;conv=>whnf))
    (refine ifK_split (fun q1 => ?_) (fun q1 => ?_) <;> (rw [q1]; ((conv=>whnf);repeat(refine .intro rfl ?_;conv=>whnf))))
    · have q1 : j < k.length := by ((try simp only[oo,reduceCtorEq]at*)<;>omega)
      have eS := crossT_succ (A := A) (B := B) (l := l) (i := i) q1
      have hy := inB_mem ik (mem_getD q1)
      refine ⟨by omega, _, intsD_at (l := k) (k := j) (by omega) q1, ?_⟩
      ((conv=>whnf);repeat(refine .intro rfl ?_;conv=>whnf))
      generalize l.getD i 0 = x at *
      generalize k.getD j 0 = y at *
      refine ⟨by omega, _, u64a_at (l := A.must) (k := x.toNat) (by omega) (by omega), ?_⟩
      ((conv=>whnf);repeat(refine .intro rfl ?_;conv=>whnf))
      refine ⟨by omega, _, u64a_at (l := B.nots) (k := y.toNat) (by omega) (by omega), ?_⟩
      ((conv=>whnf);repeat(refine .intro rfl ?_;conv=>whnf))
      have no : okB A B x y = false → crossT A B l k i (j + 1) = crossT A B l k i j := fun h => by rw [eS, h, if_neg (by decide)]
      have yes : okB A B x y = true → crossT A B l k i (j + 1) = crossT A B l k i j ++ [(x, y)] := fun h => by rw [eS, h, if_pos rfl]
      have e0 : okB A B x y = (bitsV .and .u64 (A.must.getD x.toNat 0) (B.nots.getD y.toNat 0) == 0 && bitsV .and .u64 (A.nots.getD x.toNat 0) (B.must.getD y.toNat 0) == 0) := rfl
      clear eS
      cases r : (bitsV .and .u64 (A.must.getD x.toNat 0) (B.nots.getD y.toNat 0) == 0)
      · rw [r, Bool.false_and] at e0
        ((conv=>whnf);repeat(refine .intro rfl ?_;conv=>whnf))
        (refine .inl ⟨by (unfold InR; rw [IntKind.wrap_i64]; omega), ?_⟩; ((conv=>whnf);repeat(refine .intro rfl ?_;conv=>whnf)))
        refine ⟨(j + 1, c), ⟨by omega, by rw [no e0]; exact hc⟩, by dsimp only; omega, leB_envH (by (repeat' (first | exact trivial | refine And.intro rfl ?_))) ?_⟩
        dsimp only
        rw [no e0]
        rfl
      · ((conv=>whnf);repeat(refine .intro rfl ?_;conv=>whnf))
        refine ⟨by omega, _, u64a_at (l := A.nots) (k := x.toNat) (by omega) (by omega), ?_⟩
        ((conv=>whnf);repeat(refine .intro rfl ?_;conv=>whnf))
        refine ⟨by omega, _, u64a_at (l := B.must) (k := y.toNat) (by omega) (by omega), ?_⟩
        ((conv=>whnf);repeat(refine .intro rfl ?_;conv=>whnf))
        rw [r, Bool.true_and] at e0
        cases r2 : (bitsV .and .u64 (A.nots.getD x.toNat 0) (B.must.getD y.toNat 0) == 0)
        · rw [r2] at e0
          ((conv=>whnf);repeat(refine .intro rfl ?_;conv=>whnf))
          (refine .inl ⟨by (unfold InR; rw [IntKind.wrap_i64]; omega), ?_⟩; ((conv=>whnf);repeat(refine .intro rfl ?_;conv=>whnf)))
          refine ⟨(j + 1, c), ⟨by omega, by rw [no e0]; exact hc⟩, by dsimp only; omega, leB_envH (by (repeat' (first | exact trivial | refine And.intro rfl ?_))) ?_⟩
          dsimp only
          rw [no e0]
          rfl
        · rw [r2] at e0
          ((conv=>whnf);repeat(refine .intro rfl ?_;conv=>whnf))
          refine ⟨(by unfold sliceAppend; simp only [ll]; omega), ?_⟩
          ((conv=>whnf);repeat(refine .intro rfl ?_;conv=>whnf))
          (refine .inl ⟨by (unfold InR; rw [IntKind.wrap_i64]; omega), ?_⟩; ((conv=>whnf);repeat(refine .intro rfl ?_;conv=>whnf)))
          refine ⟨(j + 1, c + 1), ⟨by omega, by rw [yes e0, List.length_append, hc]; rfl⟩, by dsimp only; omega, ?_⟩
          dsimp only
          rw [yes e0]
          (refine leB_close 1 (by simp) rfl ?_ ?_ <;> (repeat' (first | exact trivial | exact rfl | exact DeepM.refl _ | exact DeepML.refl _ | exact DeepMLL.refl _ | refine And.intro ?_ ?_ | (simp [Under, UnderL, UnderLL, -List.map_take, -List.map_drop]; done))))
          exact deepMLL_eq (prows_snoc hc.symm)
    · have q1 : j = k.length := by have : ¬ j < k.length := by ((try simp only[oo,reduceCtorEq]at*)<;>omega)
                                   omega
      subst q1
      rw [crossT_all q0] at *
      (refine .inl ⟨by (unfold InR; rw [IntKind.wrap_i64]; omega), ?_⟩; ((conv=>whnf);repeat(refine .intro rfl ?_;conv=>whnf)))
      exact ⟨(i + 1, c), ⟨by omega, hc⟩, by dsimp only; omega, leB_envH (by (repeat' (first | exact trivial | refine And.intro rfl ?_))) rfl⟩
  · have q0 : i = l.length := by have : ¬ i < l.length := by ((try simp only[oo,reduceCtorEq]at*)<;>omega)
                                 omega
    subst q0
    rw [List.take_length] at *
    exact .own _ _ _ _ _ _ _ _ rfl (by rw [drop_take_all (by rw [prows_len]; omega)]; exact deepLL_refl _)
end

/-! ### XNb9 -/
section
open Go.RowKit
set_option linter.unusedSimpArgs false
set_option linter.unusedVariables false
def c48 : PC := .seq (.ops [⟨some 4,.box (.tmp 0),none,0⟩,
 ⟨some 5,.move (.const (.slice none 0 0)),none,0⟩] false) (.seq (.ops [⟨some 6,.load1 (.tmp 1),none,0⟩,
 ⟨some 7,.faddr 1 (.tmp 2),none,0⟩,
 ⟨some 8,.load1 (.tmp 7),none,2⟩,
 ⟨some 9,.faddr 0 (.tmp 4),none,0⟩,
 ⟨some 10,.load1 (.tmp 9),none,8⟩,
 ⟨some 11,.iaddr 1 (.tmp 8) (.tmp 10),none,30⟩,
 ⟨some 12,.load1 (.tmp 11),none,62⟩,
 ⟨some 13,.faddr 1 (.tmp 3),none,0⟩,
 ⟨some 14,.load1 (.tmp 13),none,128⟩,
 ⟨some 15,.faddr 1 (.tmp 4),none,0⟩,
 ⟨some 16,.load1 (.tmp 15),none,512⟩,
 ⟨some 17,.iaddr 1 (.tmp 14) (.tmp 16),none,1920⟩,
 ⟨some 18,.load1 (.tmp 17),none,3968⟩,
 ⟨some 19,.callv (.tmp 6) [(.tmp 12), (.tmp 18)],none,8191⟩,
 ⟨some 5,.move (.tmp 19),none,16383⟩] true) (.ret))
set_option maxRecDepth 100000 in
theorem c48_ok : FunOK Try.prog 48 20 [.tmp 5] c48 := ⟨⟨Try.f48, Try.func48, rfl, by kernel_rfl, rfl, by kernel_rfl⟩⟩
theorem au_nextB {A B : AutoD} (h : TwoA A B) (p : Pr) (hg : GoodB A B p) : PCall Try.prog 48 [.agg (dpair p.1 p.2), .ipt [.fn (.func 47) [] [.ipt A.cells, .ipt B.cells]], .ipt A.cells, .ipt B.cells] (dpairs (nxB A B p)) := by
  obtain ⟨_, _, _, _, hst, hin, _⟩ := chk_auto A h.ca
  obtain ⟨_, _, _, _, hst', hin', _⟩ := chk_auto B h.cb
  have hCr := au_cross h (A.next.getD p.1.toNat []) (B.next.getD p.2.toNat []) (row_le h.ra _) (row_le h.rb _) (inB_row hin _) (inB_row hin' _)
  obtain ⟨⟨a, b⟩, c, d⟩ := hg
  refine pcall_intro c48_ok (by simp) (by simp [PureL, Pure, dpair, pure_aucells]) ?_ (pure_dpairs _)
  unfold dpair AutoD.cells at *
  (apply rd_sound; focus (repeat' constructor))
  ((conv=>whnf);repeat(refine .intro rfl ?_;conv=>whnf))
  refine ⟨by omega, _, gridD_at (g := A.next) (k := p.1.toNat) (by omega) (by omega), ?_⟩
  ((conv=>whnf);repeat(refine .intro rfl ?_;conv=>whnf))
  refine ⟨by omega, _, gridD_at (g := B.next) (k := p.2.toNat) (by omega) (by omega), ?_⟩
  ((conv=>whnf);repeat(refine .intro rfl ?_;conv=>whnf))
  (refine .inl ⟨_, hCr, ?_⟩; ((conv=>whnf);repeat(refine .intro rfl ?_;conv=>whnf)))
  exact .refl _
def c52_2 : PC := .seq (.seq (.ops [⟨some 16,.move (.tmp 9),none,0⟩,
 ⟨some 17,.move (.tmp 1),none,0⟩,
 ⟨some 18,.len (.tmp 17),none,0⟩,
 ⟨some 19,.bin .lss (.tmp 16) (.tmp 18),none,0⟩] false) (.cond (.tmp 19) (.skip) (.exit 2))) (.seq (.block 3 (.seq (.ops [⟨some 22,.faddr 2 (.tmp 2),none,0⟩,
 ⟨some 23,.load1 (.tmp 22),none,1⟩,
 ⟨some 24,.move (.tmp 0),none,0⟩,
 ⟨some 25,.move (.tmp 8),none,0⟩,
 ⟨some 26,.iaddr 1 (.tmp 24) (.tmp 25),none,12⟩,
 ⟨some 27,.load1 (.tmp 26),none,28⟩,
 ⟨some 28,.iaddr 1 (.tmp 23) (.tmp 27),none,63⟩,
 ⟨some 29,.load1 (.tmp 28),none,127⟩,
 ⟨some 30,.faddr 3 (.tmp 3),none,0⟩,
 ⟨some 31,.load1 (.tmp 30),none,256⟩,
 ⟨some 32,.move (.tmp 1),none,0⟩,
 ⟨some 33,.move (.tmp 9),none,0⟩,
 ⟨some 34,.iaddr 1 (.tmp 32) (.tmp 33),none,3072⟩,
 ⟨some 35,.load1 (.tmp 34),none,7168⟩,
 ⟨some 36,.iaddr 1 (.tmp 31) (.tmp 35),none,16128⟩,
 ⟨some 37,.load1 (.tmp 36),none,32512⟩,
 ⟨some 38,.bin .and (.tmp 29) (.tmp 37),none,65535⟩,
 ⟨some 39,.bin .eql (.tmp 38) (.const (.int .u64 0)),none,131071⟩,
 ⟨some 40,.move (.tmp 39),none,262143⟩,
 ⟨some 41,.faddr 3 (.tmp 2),some (40,true),524287⟩,
 ⟨some 42,.load1 (.tmp 41),some (40,true),1048575⟩,
 ⟨some 43,.move (.tmp 0),some (40,true),524287⟩,
 ⟨some 44,.move (.tmp 8),some (40,true),524287⟩,
 ⟨some 45,.iaddr 1 (.tmp 43) (.tmp 44),some (40,true),6815743⟩,
 ⟨some 46,.load1 (.tmp 45),some (40,true),15204351⟩,
 ⟨some 47,.iaddr 1 (.tmp 42) (.tmp 46),some (40,true),33554431⟩,
 ⟨some 48,.load1 (.tmp 47),some (40,true),67108863⟩,
 ⟨some 49,.faddr 2 (.tmp 3),some (40,true),524287⟩,
 ⟨some 50,.load1 (.tmp 49),some (40,true),134742015⟩,
 ⟨some 51,.move (.tmp 1),some (40,true),524287⟩,
 ⟨some 52,.move (.tmp 9),some (40,true),524287⟩,
 ⟨some 53,.iaddr 1 (.tmp 51) (.tmp 52),some (40,true),1611137023⟩,
 ⟨some 54,.load1 (.tmp 53),some (40,true),3758620671⟩,
 ⟨some 55,.iaddr 1 (.tmp 50) (.tmp 54),some (40,true),8456241151⟩,
 ⟨some 56,.load1 (.tmp 55),some (40,true),17046175743⟩,
 ⟨some 57,.bin .and (.tmp 48) (.tmp 56),some (40,true),34359738367⟩,
 ⟨some 58,.bin .eql (.tmp 57) (.const (.int .u64 0)),some (40,true),68719476735⟩,
 ⟨some 59,.pick (.tmp 40) (.tmp 58) (.const (.bool false)),none,137438953471⟩] true) (.cond (.tmp 59) (.ops [⟨some 60,.move (.tmp 7),none,0⟩,
 ⟨some 61,.move (.tmp 0),none,0⟩,
 ⟨some 62,.move (.tmp 8),none,0⟩,
 ⟨some 63,.iaddr 1 (.tmp 61) (.tmp 62),none,6⟩,
 ⟨some 64,.load1 (.tmp 63),none,14⟩,
 ⟨some 65,.move (.tmp 1),none,0⟩,
 ⟨some 66,.move (.tmp 9),none,0⟩,
 ⟨some 67,.iaddr 1 (.tmp 65) (.tmp 66),none,96⟩,
 ⟨some 68,.load1 (.tmp 67),none,224⟩,
 ⟨some 69,.build [(.int .i64 0), (.int .i64 0)] [(0, 1, (.tmp 64)), (1, 1, (.tmp 68))],none,510⟩,
 ⟨some 70,.bslice 2 1 [(.tmp 69)],none,1022⟩,
 ⟨some 71,.append 2 16 (.tmp 60) (.tmp 70),none,2047⟩,
 ⟨some 7,.move (.tmp 71),none,4095⟩] true) (.skip)))) (.ops [⟨some 20,.move (.tmp 9),none,0⟩,
 ⟨some 21,.bin .add (.tmp 20) (.const (.int .i64 1)),none,0⟩,
 ⟨some 9,.move (.tmp 21),none,0⟩] false))
def c52_1 : PC := .seq (.seq (.ops [⟨some 10,.move (.tmp 8),none,0⟩,
 ⟨some 11,.move (.tmp 0),none,0⟩,
 ⟨some 12,.len (.tmp 11),none,0⟩,
 ⟨some 13,.bin .lss (.tmp 10) (.tmp 12),none,0⟩] false) (.cond (.tmp 13) (.skip) (.exit 0))) (.seq (.block 1 (.seq (.ops [⟨some 9,.move (.const (.int .i64 0)),none,0⟩] false) (.block 2 (.loop c52_2)))) (.ops [⟨some 14,.move (.tmp 8),none,0⟩,
 ⟨some 15,.bin .add (.tmp 14) (.const (.int .i64 1)),none,0⟩,
 ⟨some 8,.move (.tmp 15),none,0⟩] false))
def c52 : PC := .seq (.ops [⟨some 6,.move (.const (.slice none 0 0)),none,0⟩] false) (.seq (.ops [⟨some 7,.move (.const (.slice none 0 0)),none,0⟩] false) (.seq (.seq (.ops [⟨some 8,.move (.const (.int .i64 0)),none,0⟩] false) (.block 0 (.loop c52_1))) (.seq (.ops [⟨some 72,.move (.tmp 7),none,0⟩,
 ⟨some 6,.move (.tmp 72),none,0⟩] false) (.ret))))
set_option maxRecDepth 100000 in
theorem c52_ok : FunOK Try.prog 52 73 [.tmp 6] c52 := ⟨⟨Try.f52, Try.func52, rfl, by kernel_rfl, rfl, by kernel_rfl⟩⟩
set_option maxRecDepth 100000 in
theorem ref_cross {A B : AutoD} (h : TwoA A B) (l k : List Int) (hl : l.length ≤ 1048576) (hk : k.length ≤ 1048576) (il : inB l A.next.length = true) (ik : inB k B.next.length = true) :
    PCall Try.prog 52 [dints l, dints k, .ipt A.cells, .ipt B.cells] (dpairs (crossL A B l k)) := by
  obtain ⟨hm, hnn, h2048, h80, hst, hin, hfr⟩ := chk_auto A h.ca
  obtain ⟨hm', hnn', h2048', h80', hst', hin', hfr'⟩ := chk_auto B h.cb
  refine pcall_intro c52_ok (by simp) (by simp [PureL, Pure, pure_dints, pure_aucells]) ?_ (pure_dpairs _)
  have hT := fun i j (hi : i < l.length) => crossT_len (A := A) (B := B) (j := j) hl hk hi
  unfold AutoD.cells
  (apply rd_sound; focus (repeat' constructor))
  ((conv=>whnf);repeat(refine .intro rfl ?_;conv=>whnf))
  refine pwp_ghostB (leB_nil 7 2 (by simp) rfl) ?_
  refine pwp_for [0, 1, 2, 3] (fun ((i, c) : Nat × Nat) => [(7, .own 0 c 0 c), (8, .sc (.int .i64 i))]) (fun (i, c) => [(0, .vec true c 2 (prows (crossL A B (l.take i) k)))]) (fun (i, c) => i ≤ l.length ∧ (crossL A B (l.take i) k).length = c) (fun (i, c) => l.length - i) (0, 0) ?_
  ((conv=>whnf);repeat(refine .intro rfl ?_;conv=>whnf))
  refine ⟨⟨by omega, by simp [crossL]⟩, by (repeat' (first | exact trivial | refine And.intro rfl ?_)), by simp [crossL]; rfl, ?_⟩
  rintro ⟨i, c0⟩ ⟨hi, hc0⟩
  ((conv=>whnf);repeat(refine .intro rfl ?_;conv=>whnf))
  (apply rd_sound; focus (repeat' constructor))
  ((conv=>whnf);repeat(refine .intro rfl ?_;conv=>whnf))
  rw [List.length_map]
  (refine ifK_split (fun q0 => ?_) (fun q0 => ?_) <;> (rw [q0]; ((conv=>whnf);repeat(refine .intro rfl ?_;conv=>whnf))))
  · have q0 : i < l.length := by ((try simp only[oo,reduceCtorEq]at*)<;>omega)
    have hx := inB_mem il (mem_getD q0)
    refine pwp_for [0, 1, 2, 3, 8] (fun ((j, c) : Nat × Nat) => [(7, .own 0 c 0 c), (9, .sc (.int .i64 j))]) (fun (j, c) => [(0, .vec true c 2 (prows (crossT A B l k i j)))]) (fun (j, c) => j ≤ k.length ∧ (crossT A B l k i j).length = c) (fun (j, c) => k.length - j) (0, c0) ?_
    ((conv=>whnf);repeat(refine .intro rfl ?_;conv=>whnf))
    refine ⟨⟨by omega, by rw [crossT_zero]; exact hc0⟩, by (repeat' (first | exact trivial | refine And.intro rfl ?_)), by dsimp only; rw [crossT_zero]; rfl, ?_⟩
    rintro ⟨j, c⟩ ⟨hj, hc⟩
    have hTl := hT i j q0
    ((conv=>whnf);repeat(refine .intro rfl ?_;conv=>whnf))
    (apply rd_sound; focus (repeat' constructor))
    ((conv=>whnf);repeat(refine .intro rfl ?_;conv=>whnf))
    rw [List.length_map]
    (refine ifK_split (fun q1 => ?_) (fun q1 => ?_) <;> (rw [q1]; ((conv=>whnf);repeat(refine .intro rfl ?_;conv=>whnf))))
    · have q1 : j < k.length := by ((try simp only[oo,reduceCtorEq]at*)<;>omega)
      have eS := crossT_succ (A := A) (B := B) (l := l) (i := i) q1
      have hy := inB_mem ik (mem_getD q1)
      have aL := intsD_at (l := l) (k := i) rfl q0
      have aK := intsD_at (l := k) (k := j) rfl q1
      generalize l.getD i 0 = x at *
      generalize k.getD j 0 = y at *
      refine ⟨by omega, _, aL, ?_⟩
      ((conv=>whnf);repeat(refine .intro rfl ?_;conv=>whnf))
      refine ⟨by omega, _, u64a_at (l := A.must) (k := x.toNat) (by omega) (by omega), ?_⟩
      ((conv=>whnf);repeat(refine .intro rfl ?_;conv=>whnf))
      refine ⟨by omega, _, aK, ?_⟩
      ((conv=>whnf);repeat(refine .intro rfl ?_;conv=>whnf))
      refine ⟨by omega, _, u64a_at (l := B.nots) (k := y.toNat) (by omega) (by omega), ?_⟩
      ((conv=>whnf);repeat(refine .intro rfl ?_;conv=>whnf))
      have no : okB A B x y = false → crossT A B l k i (j + 1) = crossT A B l k i j := fun h => by rw [eS, h, if_neg (by decide)]
      have yes : okB A B x y = true → crossT A B l k i (j + 1) = crossT A B l k i j ++ [(x, y)] := fun h => by rw [eS, h, if_pos rfl]
      have e0 : okB A B x y = (bitsV .and .u64 (A.must.getD x.toNat 0) (B.nots.getD y.toNat 0) == 0 && bitsV .and .u64 (A.nots.getD x.toNat 0) (B.must.getD y.toNat 0) == 0) := rfl
      clear eS
      cases r : (bitsV .and .u64 (A.must.getD x.toNat 0) (B.nots.getD y.toNat 0) == 0)
      · rw [r, Bool.false_and] at e0
        ((conv=>whnf);repeat(refine .intro rfl ?_;conv=>whnf))
        (refine .inl ⟨by (unfold InR; rw [IntKind.wrap_i64]; omega), ?_⟩; ((conv=>whnf);repeat(refine .intro rfl ?_;conv=>whnf)))
        refine ⟨(j + 1, c), ⟨by omega, by rw [no e0]; exact hc⟩, by dsimp only; omega, leB_envH (by (repeat' (first | exact trivial | refine And.intro rfl ?_))) ?_⟩
        dsimp only
        rw [no e0]
        rfl
      · ((conv=>whnf);repeat(refine .intro rfl ?_;conv=>whnf))
        refine ⟨by omega, _, aL, ?_⟩
        ((conv=>whnf);repeat(refine .intro rfl ?_;conv=>whnf))
        refine ⟨by omega, _, u64a_at (l := A.nots) (k := x.toNat) (by omega) (by omega), ?_⟩
        ((conv=>whnf);repeat(refine .intro rfl ?_;conv=>whnf))
        refine ⟨by omega, _, aK, ?_⟩
        ((conv=>whnf);repeat(refine .intro rfl ?_;conv=>whnf))
        refine ⟨by omega, _, u64a_at (l := B.must) (k := y.toNat) (by omega) (by omega), ?_⟩
        ((conv=>whnf);repeat(refine .intro rfl ?_;conv=>whnf))
        rw [r, Bool.true_and] at e0
        cases r2 : (bitsV .and .u64 (A.nots.getD x.toNat 0) (B.must.getD y.toNat 0) == 0)
        · rw [r2] at e0
          ((conv=>whnf);repeat(refine .intro rfl ?_;conv=>whnf))
          (refine .inl ⟨by (unfold InR; rw [IntKind.wrap_i64]; omega), ?_⟩; ((conv=>whnf);repeat(refine .intro rfl ?_;conv=>whnf)))
          refine ⟨(j + 1, c), ⟨by omega, by rw [no e0]; exact hc⟩, by dsimp only; omega, leB_envH (by (repeat' (first | exact trivial | refine And.intro rfl ?_))) ?_⟩
          dsimp only
          rw [no e0]
          rfl
        · rw [r2] at e0
          ((conv=>whnf);repeat(refine .intro rfl ?_;conv=>whnf))
          refine ⟨by omega, _, aL, ?_⟩
          ((conv=>whnf);repeat(refine .intro rfl ?_;conv=>whnf))
          refine ⟨by omega, _, aK, ?_⟩
          ((conv=>whnf);repeat(refine .intro rfl ?_;conv=>whnf))
          refine ⟨(by unfold sliceAppend; simp only [ll]; omega), ?_⟩
          ((conv=>whnf);repeat(refine .intro rfl ?_;conv=>whnf))
          (refine .inl ⟨by (unfold InR; rw [IntKind.wrap_i64]; omega), ?_⟩; ((conv=>whnf);repeat(refine .intro rfl ?_;conv=>whnf)))
          refine ⟨(j + 1, c + 1), ⟨by omega, by rw [yes e0, List.length_append, hc]; rfl⟩, by dsimp only; omega, ?_⟩
          dsimp only
          rw [yes e0]
          (refine leB_close 1 (by simp) rfl ?_ ?_ <;> (repeat' (first | exact trivial | exact rfl | exact DeepM.refl _ | exact DeepML.refl _ | exact DeepMLL.refl _ | refine And.intro ?_ ?_ | (simp [Under, UnderL, UnderLL, -List.map_take, -List.map_drop]; done))))
          exact deepMLL_eq (prows_snoc hc.symm)
    · have q1 : j = k.length := by have : ¬ j < k.length := by ((try simp only[oo,reduceCtorEq]at*)<;>omega)
                                   omega
      subst q1
      rw [crossT_all q0] at *
      (refine .inl ⟨by (unfold InR; rw [IntKind.wrap_i64]; omega), ?_⟩; ((conv=>whnf);repeat(refine .intro rfl ?_;conv=>whnf)))
      exact ⟨(i + 1, c), ⟨by omega, hc⟩, by dsimp only; omega, leB_envH (by (repeat' (first | exact trivial | refine And.intro rfl ?_))) rfl⟩
  · have q0 : i = l.length := by have : ¬ i < l.length := by ((try simp only[oo,reduceCtorEq]at*)<;>omega)
                                 omega
    subst q0
    rw [List.take_length] at *
    exact .own _ _ _ _ _ _ _ _ rfl (by rw [drop_take_all (by rw [prows_len]; omega)]; exact deepLL_refl _)
def c53 : PC := .seq (.ops [⟨some 4,.box (.tmp 0),none,0⟩,
 ⟨some 5,.move (.const (.slice none 0 0)),none,0⟩] false) (.seq (.ops [⟨some 6,.load1 (.tmp 1),none,0⟩,
 ⟨some 7,.faddr 1 (.tmp 2),none,0⟩,
 ⟨some 8,.load1 (.tmp 7),none,2⟩,
 ⟨some 9,.aaddr 2 1 (.tmp 4) (.const (.int .i64 0)),none,0⟩,
 ⟨some 10,.load1 (.tmp 9),none,8⟩,
 ⟨some 11,.iaddr 1 (.tmp 8) (.tmp 10),none,30⟩,
 ⟨some 12,.load1 (.tmp 11),none,62⟩,
 ⟨some 13,.faddr 1 (.tmp 3),none,0⟩,
 ⟨some 14,.load1 (.tmp 13),none,128⟩,
 ⟨some 15,.aaddr 2 1 (.tmp 4) (.const (.int .i64 1)),none,0⟩,
 ⟨some 16,.load1 (.tmp 15),none,512⟩,
 ⟨some 17,.iaddr 1 (.tmp 14) (.tmp 16),none,1920⟩,
 ⟨some 18,.load1 (.tmp 17),none,3968⟩,
 ⟨some 19,.callv (.tmp 6) [(.tmp 12), (.tmp 18)],none,8191⟩,
 ⟨some 5,.move (.tmp 19),none,16383⟩] true) (.ret))
set_option maxRecDepth 100000 in
theorem c53_ok : FunOK Try.prog 53 20 [.tmp 5] c53 := ⟨⟨Try.f53, Try.func53, rfl, by kernel_rfl, rfl, by kernel_rfl⟩⟩
theorem ref_nextB {A B : AutoD} (h : TwoA A B) (p : Pr) (hg : GoodB A B p) : PCall Try.prog 53 [.agg (dpair p.1 p.2), .ipt [.fn (.func 52) [] [.ipt A.cells, .ipt B.cells]], .ipt A.cells, .ipt B.cells] (dpairs (nxB A B p)) := by
  obtain ⟨_, _, _, _, hst, hin, _⟩ := chk_auto A h.ca
  obtain ⟨_, _, _, _, hst', hin', _⟩ := chk_auto B h.cb
  have hCr := ref_cross h (A.next.getD p.1.toNat []) (B.next.getD p.2.toNat []) (row_le h.ra _) (row_le h.rb _) (inB_row hin _) (inB_row hin' _)
  obtain ⟨⟨a, b⟩, c, d⟩ := hg
  refine pcall_intro c53_ok (by simp) (by simp [PureL, Pure, dpair, pure_aucells]) ?_ (pure_dpairs _)
  unfold dpair AutoD.cells at *
  (apply rd_sound; focus (repeat' constructor))
  ((conv=>whnf);repeat(refine .intro rfl ?_;conv=>whnf))
  refine ⟨by omega, by omega, ?_⟩
  ((conv=>whnf);repeat(refine .intro rfl ?_;conv=>whnf))
  refine ⟨by omega, _, gridD_at (g := A.next) (k := p.1.toNat) (by omega) (by omega), ?_⟩
  ((conv=>whnf);repeat(refine .intro rfl ?_;conv=>whnf))
  refine ⟨by omega, by omega, ?_⟩
  ((conv=>whnf);repeat(refine .intro rfl ?_;conv=>whnf))
  refine ⟨by omega, _, gridD_at (g := B.next) (k := p.2.toNat) (by omega) (by omega), ?_⟩
  ((conv=>whnf);repeat(refine .intro rfl ?_;conv=>whnf))
  (refine .inl ⟨_, hCr, ?_⟩; ((conv=>whnf);repeat(refine .intro rfl ?_;conv=>whnf)))
  exact .refl _
end

/-! ### XNba -/
section
open Go.RowKit
set_option linter.unusedSimpArgs false
set_option linter.unusedVariables false
def bbox (d n t m m' f : Nat) (S : D) : List D := [.mp d, .own (d + 2) n 0 n, S, .own (d + 3) t 0 t, .own (d + 4) m 0 m, .own (d + 5) m' 0 m', .own (d + 6) f 0 f]
noncomputable def bheapD (d : Nat) (L : List Pr) (S : D) (T : List (List Int)) (M N : List Int) (F : List (List Int)) : List AObj :=
  [.mapo true (mapIs Try.prog 69 (fP L)), .row true (bbox d L.length T.length M.length N.length F.length S), .vec true L.length 2 (prows L), .vec true T.length 1 (growsI T), .vec true M.length 1 (u64s M), .vec true N.length 1 (u64s N), .vec true F.length 1 (growsI F)]
theorem under_bheap {L : List Pr} {S : D} (hS : Pure S) {T : List (List Int)} {M N : List Int} {F : List (List Int)} {m : Nat} (hm : 7 ≤ m) : ∀ o ∈ bheapD 0 L S T M N F, o.under m := by
  have := under_pure (m := m) S hS
  intro o ho
  simp only [bheapD, List.mem_cons, List.not_mem_nil, or_false] at ho
  rcases ho with rfl | rfl | rfl | rfl | rfl | rfl | rfl <;> simp [AObj.under, bbox, UnderL, Under, this] <;> omega
theorem bheap_ren {L : List Pr} {S : D} (hS : Pure S) {T : List (List Int)} {M N : List Int} {F : List (List Int)} : (bheapD 0 L S T M N F).map (AObj.ren fun i => 4 + i) = bheapD 4 L S T M N F := by
  simp only [bheapD, bbox, List.map_cons, List.map_nil, AObj.ren, renL, D.ren, renLL_pure _ (pure_prows L), renLL_pure _ (pure_growsI T), renLL_pure _ (pure_growsI F), renLL_pure _ (pure_u64s M), renLL_pure _ (pure_u64s N), ren_pure _ hS]
def setsK (L : List Pr) (sel : Pr → Int) (l : List Int) (k : Nat) : List Int := ((List.range k).filter fun i => setB l (sel (L.getD i (0, 0))).toNat).map fun i : Nat => (i : Int)
theorem setsK_succ (L : List Pr) (sel : Pr → Int) (l : List Int) (k : Nat) : setsK L sel l (k + 1) = if setB l (sel (L.getD k (0, 0))).toNat = true then setsK L sel l k ++ [(k : Int)] else setsK L sel l k := by
  unfold setsK
  rw [List.range_succ, List.filter_append, List.map_append]
  simp only [List.filter_cons, List.filter_nil]
  split <;> simp
theorem setsK_len (L : List Pr) (sel : Pr → Int) (l : List Int) (k : Nat) : (setsK L sel l k).length ≤ k := by
  unfold setsK
  rw [List.length_map]
  exact Nat.le_trans (List.length_filter_le _ _) (by simp)
def setsL (L : List Pr) (sel : Pr → Int) (G : List (List Int)) : List (List Int) := G.map fun l => setsK L sel l L.length
theorem setsL_succ {L : List Pr} {sel : Pr → Int} {G : List (List Int)} {k : Nat} (h : k < G.length) : setsL L sel (G.take (k + 1)) = setsL L sel (G.take k) ++ [setsK L sel (G.getD k []) L.length] := by
  unfold setsL
  rw [List.take_add_one, List.getElem?_eq_getElem h, List.map_append, List.getD_eq_getElem?_getD, List.getElem?_eq_getElem h]
  rfl
@[simp] theorem setsL_len (L : List Pr) (sel : Pr → Int) (G : List (List Int)) : (setsL L sel G).length = G.length := by simp [setsL]
def c49_2 : PC := .seq (.ops [⟨some 29,.bin .lss (.tmp 28) (.tmp 27),none,0⟩] false) (.seq (.cond (.tmp 29) (.skip) (.exit 2)) (.seq (.block 3 (.seq (.ops [⟨some 30,.move (.tmp 28),none,0⟩,
 ⟨some 31,.iaddr 2 (.tmp 26) (.tmp 28),none,0⟩,
 ⟨some 32,.loadA 2 (.tmp 31),none,0⟩,
 ⟨some 13,.alloc [(.int .i64 0), (.int .i64 0)],none,0⟩,
 ⟨some 12,.move (.tmp 30),none,0⟩,
 ⟨none,.store 2 (.tmp 13) (.tmp 32),none,0⟩] false) (.seq (.ops [⟨some 33,.move (.tmp 10),none,0⟩,
 ⟨some 34,.move (.tmp 3),none,0⟩,
 ⟨some 35,.loadA 2 (.tmp 13),none,0⟩,
 ⟨some 36,.callv (.tmp 34) [(.tmp 35)],none,0⟩,
 ⟨some 37,.iaddr 1 (.tmp 33) (.tmp 36),none,0⟩,
 ⟨some 38,.load1 (.tmp 37),none,0⟩] false) (.cond (.tmp 38) (.ops [⟨some 39,.move (.tmp 11),none,0⟩,
 ⟨some 40,.move (.tmp 12),none,0⟩,
 ⟨some 41,.bslice 1 1 [(.tmp 40)],none,0⟩,
 ⟨some 42,.append 1 8 (.tmp 39) (.tmp 41),none,0⟩,
 ⟨some 11,.move (.tmp 42),none,0⟩] false) (.skip))))) (.ops [⟨some 43,.bin .add (.tmp 28) (.const (.int .i64 1)),none,0⟩,
 ⟨some 28,.move (.tmp 43),none,0⟩] false)))
def c49_1 : PC := .seq (.ops [⟨some 17,.bin .lss (.tmp 16) (.tmp 15),none,0⟩] false) (.seq (.cond (.tmp 17) (.skip) (.exit 0)) (.seq (.block 1 (.seq (.ops [⟨some 18,.iaddr 1 (.tmp 14) (.tmp 16),none,0⟩,
 ⟨some 19,.load1 (.tmp 18),none,0⟩,
 ⟨some 9,.move (.tmp 19),none,0⟩] false) (.seq (.ops [⟨some 20,.move (.tmp 9),none,0⟩,
 ⟨some 21,.move (.tmp 2),none,0⟩,
 ⟨some 22,.call 37 [(.tmp 20), (.tmp 21)],none,0⟩,
 ⟨some 10,.move (.tmp 22),none,0⟩] false) (.seq (.ops [⟨some 11,.move (.const (.slice none 0 0)),none,0⟩] false) (.seq (.seq (.ops [⟨some 23,.move (.tmp 0),none,0⟩,
 ⟨some 24,.nilchk (.tmp 23),none,0⟩,
 ⟨some 25,.faddr 1 (.tmp 24),none,0⟩,
 ⟨some 26,.load1 (.tmp 25),none,0⟩,
 ⟨some 27,.len (.tmp 26),none,0⟩,
 ⟨some 28,.move (.const (.int .i64 0)),none,0⟩] false) (.block 2 (.loop c49_2))) (.ops [⟨some 44,.move (.tmp 0),none,0⟩,
 ⟨some 45,.move (.tmp 0),none,0⟩,
 ⟨some 46,.nilchk (.tmp 45),none,0⟩,
 ⟨some 47,.faddr 2 (.tmp 46),none,0⟩,
 ⟨some 48,.faddr 4 (.tmp 47),none,0⟩,
 ⟨some 49,.load1 (.tmp 48),none,0⟩,
 ⟨some 50,.move (.tmp 11),none,0⟩,
 ⟨some 51,.bslice 1 1 [(.tmp 50)],none,0⟩,
 ⟨some 52,.append 1 24 (.tmp 49) (.tmp 51),none,0⟩,
 ⟨some 53,.nilchk (.tmp 44),none,0⟩,
 ⟨some 54,.faddr 2 (.tmp 53),none,0⟩,
 ⟨some 55,.faddr 4 (.tmp 54),none,0⟩,
 ⟨none,.store 1 (.tmp 55) (.tmp 52),none,0⟩] false)))))) (.ops [⟨some 56,.bin .add (.tmp 16) (.const (.int .i64 1)),none,0⟩,
 ⟨some 16,.move (.tmp 56),none,0⟩] false)))
def c49 : PC := .seq (.ops [⟨some 14,.move (.tmp 1),none,0⟩,
 ⟨some 15,.len (.tmp 14),none,0⟩,
 ⟨some 16,.move (.const (.int .i64 0)),none,0⟩] false) (.block 0 (.loop c49_1))
set_option maxRecDepth 100000 in
theorem c49_ok : FunOK Try.prog 49 57 [] c49 := ⟨⟨Try.f49, Try.func49, rfl, by kernel_rfl, rfl, by kernel_rfl⟩⟩
set_option maxRecDepth 100000 in
theorem au_sets (g : FuncId) (sel : Pr → Int) (L : List Pr) (hL : L.length ≤ 2049) (n : Nat) (hn : n ≤ 2048) (hsel : ∀ p ∈ L, PCall Try.prog g [.agg (dpair p.1 p.2)] (.sc (.int .i64 (sel p)))) (hin : ∀ p ∈ L, 0 ≤ sel p ∧ sel p < (n : Int)) (G : List (List Int)) (hG : G.length ≤ 80) (hGF : FitsG G) (hGi : ∀ l ∈ G, inB l n = true)
    (S : D) (hS : Pure S) (T : List (List Int)) (M N : List Int) (F : List (List Int)) (hF : F.length ≤ 80) :
    ACall Try.prog 49 [.loc 1 0, dgrid G, .sc (.int .i64 n), .fn (.func g) [] []] (bheapD 0 L S T M N F) (.tup []) (bheapD 0 L S T M N (F ++ setsL L sel G)) := by
  have hmem := fun k (hk : k < G.length) => au_member (G.getD k []) n (by omega) (hGF.at k) (inB_row hGi k)
  have hSu := fun m => under_pure (m := m) S hS
  refine acall_intro c49_ok (by simp) (by simp [bheapD]) ?_ (by simp [Under, UnderL]) (under_bheap hS (by simp [bheapD]))
  unfold bheapD bbox
  (apply rd_sound; focus (repeat' constructor))
  ((conv=>whnf);repeat(refine .intro rfl ?_;conv=>whnf))
  rw [List.length_map]
  refine pwp_forH [0, 2, 3, 14, 15] (fun k : Nat => [(16, .sc (.int .i64 k))]) (fun k => bheapD 0 L S T M N (F ++ setsL L sel (G.take k))) (fun k => k ≤ G.length) (fun k => G.length - k) 0 ?_
  ((conv=>whnf);repeat(refine .intro rfl ?_;conv=>whnf))
  refine ⟨by omega, by (repeat' (first | exact trivial | refine And.intro rfl ?_)), by simp [setsL]; rfl, ?_⟩
  rintro k hk
  unfold bheapD bbox
  ((conv=>whnf);repeat(refine .intro rfl ?_;conv=>whnf))
  (apply rd_sound; focus (repeat' constructor))
  ((conv=>whnf);repeat(refine .intro rfl ?_;conv=>whnf))
  (refine ifK_split (fun q0 => ?_) (fun q0 => ?_) <;> (rw [q0]; ((conv=>whnf);repeat(refine .intro rfl ?_;conv=>whnf))))
  · have q0 : k < G.length := by ((try simp only[oo,reduceCtorEq]at*)<;>omega)
    have eF := setsL_succ (L := L) (sel := sel) q0
    have hFl : (F ++ setsL L sel (G.take k)).length = F.length + k := by rw [List.length_append, setsL_len, List.length_take]; omega
    refine ⟨by omega, _, gridD_at (g := G) (k := k) (by omega) q0, ?_⟩
    ((conv=>whnf);repeat(refine .intro rfl ?_;conv=>whnf))
    (refine .inl ⟨_, (hmem k q0), ?_⟩; ((conv=>whnf);repeat(refine .intro rfl ?_;conv=>whnf)))
    generalize G.getD k [] = l at *
    generalize hF1 : F ++ setsL L sel (G.take k) = F1 at *
    refine pwp_ghostB (leB_nil 11 1 (by simp) rfl) ?_
    refine pwp_forH [0, 2, 3, 10, 14, 15, 16, 26, 27] (fun ((j, c) : Nat × Nat) => [(11, .own 7 c 0 c), (28, .sc (.int .i64 j))]) (fun (j, c) => bheapD 0 L S T M N F1 ++ [.vec true c 1 (i64s (setsK L sel l j))]) (fun (j, c) => j ≤ L.length ∧ (setsK L sel l j).length = c) (fun (j, c) => L.length - j) (0, 0) ?_
    ((conv=>whnf);repeat(refine .intro rfl ?_;conv=>whnf))
    refine ⟨⟨by omega, by simp [setsK]⟩, by (repeat' (first | exact trivial | refine And.intro rfl ?_)), by simp [setsK]; rfl, ?_⟩
    rintro ⟨j, c⟩ ⟨hj, hc⟩
    have hcl := setsK_len L sel l j
    unfold bheapD bbox
    ((conv=>whnf);repeat(refine .intro rfl ?_;conv=>whnf))
    (apply rd_sound; focus (repeat' constructor))
    ((conv=>whnf);repeat(refine .intro rfl ?_;conv=>whnf))
    (refine ifK_split (fun q1 => ?_) (fun q1 => ?_) <;> (rw [q1]; ((conv=>whnf);repeat(refine .intro rfl ?_;conv=>whnf))))
    · have q1 : j < L.length := by ((try simp only[oo,reduceCtorEq]at*)<;>omega)
      have eS := setsK_succ L sel l j
      have hse := hsel _ (mem_getDP q1)
      have hii := hin _ (mem_getDP q1)
      (refine ⟨by omega, (by first | omega | (simp; done) | (simp; omega) | (simp only [ll]; omega)), ?_⟩; ((conv=>whnf);repeat(refine .intro rfl ?_;conv=>whnf)))
      refine ⟨_, prows_at (k := j) (by omega) q1, ?_⟩
      ((conv=>whnf);repeat(refine .intro rfl ?_;conv=>whnf))
      generalize L.getD j (0, 0) = p at *
      (refine .inl ⟨_, hse, ?_⟩; ((conv=>whnf);repeat(refine .intro rfl ?_;conv=>whnf)))
      generalize sel p = x at *
      refine ⟨by omega, _, rbl_atN x.toNat (by omega) (by omega), ?_⟩
      ((conv=>whnf);repeat(refine .intro rfl ?_;conv=>whnf))
      cases r : setB l x.toNat
      · rw [r, if_neg (by decide)] at eS
        ((conv=>whnf);repeat(refine .intro rfl ?_;conv=>whnf))
        (refine .inl ⟨by (unfold InR; rw [IntKind.wrap_i64]; omega), ?_⟩; ((conv=>whnf);repeat(refine .intro rfl ?_;conv=>whnf)))
        refine ⟨(j + 1, c), ⟨by omega, by rw [eS]; exact hc⟩, by dsimp only; omega, ?_⟩
        dsimp only
        rw [eS]
        (refine leB_close 8 (by simp) rfl ?_ ?_ <;> (repeat' (first | exact trivial | exact rfl | exact DeepM.refl _ | exact DeepML.refl _ | exact DeepMLL.refl _ | refine And.intro ?_ ?_ | (simp [Under, UnderL, UnderLL, -List.map_take, -List.map_drop]; done))))
        all_goals first | exact hSu _ | simp
      · rw [r, if_pos rfl] at eS
        ((conv=>whnf);repeat(refine .intro rfl ?_;conv=>whnf))
        refine ⟨(by unfold sliceAppend; simp only [ll]; omega), ?_⟩
        ((conv=>whnf);repeat(refine .intro rfl ?_;conv=>whnf))
        (refine .inl ⟨by (unfold InR; rw [IntKind.wrap_i64]; omega), ?_⟩; ((conv=>whnf);repeat(refine .intro rfl ?_;conv=>whnf)))
        refine ⟨(j + 1, c + 1), ⟨by omega, by rw [eS, List.length_append, hc]; rfl⟩, by dsimp only; omega, ?_⟩
        dsimp only
        rw [eS]
        (refine leB_close 8 (by simp) rfl ?_ ?_ <;> (repeat' (first | exact trivial | exact rfl | exact DeepM.refl _ | exact DeepML.refl _ | exact DeepMLL.refl _ | refine And.intro ?_ ?_ | (simp [Under, UnderL, UnderLL, -List.map_take, -List.map_drop]; done))))
        all_goals first | exact hSu _ | exact deepMLL_eq (by rw [← hc, i64s_snoc]) | simp
    · have q1 : j = L.length := by have : ¬ j < L.length := by ((try simp only[oo,reduceCtorEq]at*)<;>omega)
                                   omega
      subst q1
      refine ⟨(by unfold sliceAppend; simp only [ll]; omega), ?_⟩
      ((conv=>whnf);repeat(refine .intro rfl ?_;conv=>whnf))
      (refine .inl ⟨by (unfold InR; rw [IntKind.wrap_i64]; omega), ?_⟩; ((conv=>whnf);repeat(refine .intro rfl ?_;conv=>whnf)))
      refine ⟨k + 1, by omega, by dsimp only; omega, ?_⟩
      dsimp only
      rw [eF, ← List.append_assoc, hF1, show (F1 ++ [setsK L sel l L.length]).length = F1.length + 1 by simp]
      (refine leB_close 7 (by simp) rfl ?_ ?_ <;> (repeat' (first | exact trivial | exact rfl | exact DeepM.refl _ | exact DeepML.refl _ | exact DeepMLL.refl _ | refine And.intro ?_ ?_ | (simp [Under, UnderL, UnderLL, -List.map_take, -List.map_drop]; done))))
      all_goals first | exact hSu _ | skip
      rw [show growsI (F1 ++ [setsK L sel l L.length]) = growsI F1 ++ [[dints (setsK L sel l L.length)]] by simp [growsI]]
      exact .append _ _ _ _ (deepMLL_eq (drop_take_all (by simp))) (.cons _ _ _ _ (.cons _ _ _ _ (.own _ _ _ _ _ _ _ _ rfl rfl (deepMLL_eq (drop_take_all (by simp [i64s]; omega)))) (.refl _)) (.refl _))
  · have q0 : k = G.length := by have : ¬ k < G.length := by ((try simp only[oo,reduceCtorEq]at*)<;>omega)
                                 omega
    subst q0
    rw [List.take_length]
    exact ⟨rfl, by simp⟩
def c50 : PC := .seq (.ops [⟨some 1,.box (.tmp 0),none,0⟩,
 ⟨some 2,.move (.const (.int .i64 0)),none,0⟩] false) (.seq (.ops [⟨some 3,.faddr 0 (.tmp 1),none,0⟩,
 ⟨some 4,.load1 (.tmp 3),none,0⟩,
 ⟨some 2,.move (.tmp 4),none,0⟩] false) (.ret))
set_option maxRecDepth 100000 in
theorem c50_ok : FunOK Try.prog 50 5 [.tmp 2] c50 := ⟨⟨Try.f50, Try.func50, rfl, by kernel_rfl, rfl, by kernel_rfl⟩⟩
def c51 : PC := .seq (.ops [⟨some 1,.box (.tmp 0),none,0⟩,
 ⟨some 2,.move (.const (.int .i64 0)),none,0⟩] false) (.seq (.ops [⟨some 3,.faddr 1 (.tmp 1),none,0⟩,
 ⟨some 4,.load1 (.tmp 3),none,0⟩,
 ⟨some 2,.move (.tmp 4),none,0⟩] false) (.ret))
set_option maxRecDepth 100000 in
theorem c51_ok : FunOK Try.prog 51 5 [.tmp 2] c51 := ⟨⟨Try.f51, Try.func51, rfl, by kernel_rfl, rfl, by kernel_rfl⟩⟩
theorem au_first (p : Pr) : PCall Try.prog 50 [.agg (dpair p.1 p.2)] (.sc (.int .i64 p.1)) := by
  refine pcall_intro c50_ok (by simp) (by simp [PureL, Pure, dpair]) ?_ (by simp [Pure])
  unfold dpair
  (apply rd_sound; focus (repeat' constructor))
  ((conv=>whnf);repeat(refine .intro rfl ?_;conv=>whnf))
  exact .refl _
theorem au_second (p : Pr) : PCall Try.prog 51 [.agg (dpair p.1 p.2)] (.sc (.int .i64 p.2)) := by
  refine pcall_intro c51_ok (by simp) (by simp [PureL, Pure, dpair]) ?_ (by simp [Pure])
  unfold dpair
  (apply rd_sound; focus (repeat' constructor))
  ((conv=>whnf);repeat(refine .intro rfl ?_;conv=>whnf))
  exact .refl _
def orsAt (M N : List Int) (L : List Pr) (k : Nat) : List Int := (L.take k).map fun p => bitsV .or .u64 (M.getD p.1.toNat 0) (N.getD p.2.toNat 0)
theorem orsAt_succ {M N : List Int} {L : List Pr} {k : Nat} (h : k < L.length) : orsAt M N L (k + 1) = orsAt M N L k ++ [bitsV .or .u64 (M.getD (L.getD k (0, 0)).1.toNat 0) (N.getD (L.getD k (0, 0)).2.toNat 0)] := by
  unfold orsAt
  rw [List.take_add_one, List.getElem?_eq_getElem h, List.map_append, List.getD_eq_getElem?_getD (l := L), List.getElem?_eq_getElem h]
  rfl
theorem orsAt_len {M N : List Int} {L : List Pr} {k : Nat} (h : k ≤ L.length) : (orsAt M N L k).length = k := by simp [orsAt]; omega
/-- What Both answers of two right automata. -/
def outB (A B : AutoD) : D := match runR (nxB A B) 2050 0 (pPut (crossL A B A.start B.start) [] []).1 [] with
  | some (L, T) => if 80 < A.fair.length + B.fair.length then .tup [dauto emptyA, .sc (.int .i64 2)] else
    .tup [dauto ⟨(pPut (crossL A B A.start B.start) [] []).2, T, orsAt A.must B.must L L.length, orsAt A.nots B.nots L L.length, setsL L (·.1) A.fair ++ setsL L (·.2) B.fair⟩, .sc (.int .i64 0)]
  | none => .tup [dauto emptyA, .sc (.int .i64 2)]
theorem pure_outB (A B : AutoD) : Pure (outB A B) := by unfold outB; split <;> (try split) <;> simp [Pure, PureL, pure_dauto]
/-- The maker's memory behind four other things. -/
noncomputable def mheap4 (L : List Pr) (S : D) (T : List (List Int)) : List AObj :=
  [.mapo true (mapIs Try.prog 69 (fP L)), .row true [.mp 4, .own 6 L.length 0 L.length, S, .own 7 T.length 0 T.length, nilV, nilV, nilV], .vec true L.length 2 (prows L), .vec true T.length 1 (growsI T)]
@[simp] theorem mheap4_len (L : List Pr) (S : D) (T : List (List Int)) : (mheap4 L S T).length = 4 := rfl
theorem mheap4_eq {L : List Pr} {S : D} (hS : Pure S) {T : List (List Int)} : (mheap L S T).map (AObj.ren fun i => 4 + i) = mheap4 L S T := by
  simp only [mheap, mheap4, mbox, List.map_cons, List.map_nil, AObj.ren, renL, D.ren, renLL_pure _ (pure_prows L), renLL_pure _ (pure_growsI T), ren_pure _ hS, ren_nilV]
def c16_1 : PC := .seq (.ops [⟨some 55,.bin .lss (.tmp 54) (.tmp 53),none,0⟩] false) (.seq (.cond (.tmp 55) (.skip) (.exit 0)) (.seq (.block 1 (.seq (.ops [⟨some 56,.iaddr 2 (.tmp 52) (.tmp 54),none,0⟩,
 ⟨some 57,.loadA 2 (.tmp 56),none,0⟩,
 ⟨some 11,.alloc [(.int .i64 0), (.int .i64 0)],none,0⟩,
 ⟨none,.store 2 (.tmp 11) (.tmp 57),none,0⟩] false) (.seq (.ops [⟨some 58,.move (.tmp 9),none,0⟩,
 ⟨some 59,.move (.tmp 9),none,0⟩,
 ⟨some 60,.nilchk (.tmp 59),none,2⟩,
 ⟨some 61,.faddr 2 (.tmp 60),none,6⟩,
 ⟨some 62,.faddr 2 (.tmp 61),none,14⟩,
 ⟨some 63,.load1 (.tmp 62),none,30⟩,
 ⟨some 64,.faddr 2 (.tmp 2),none,0⟩,
 ⟨some 65,.load1 (.tmp 64),none,64⟩,
 ⟨some 66,.faddr 0 (.tmp 11),none,0⟩,
 ⟨some 67,.load1 (.tmp 66),none,256⟩,
 ⟨some 68,.iaddr 1 (.tmp 65) (.tmp 67),none,960⟩,
 ⟨some 69,.load1 (.tmp 68),none,1984⟩,
 ⟨some 70,.faddr 2 (.tmp 3),none,0⟩,
 ⟨some 71,.load1 (.tmp 70),none,4096⟩,
 ⟨some 72,.faddr 1 (.tmp 11),none,0⟩,
 ⟨some 73,.load1 (.tmp 72),none,16384⟩,
 ⟨some 74,.iaddr 1 (.tmp 71) (.tmp 73),none,61440⟩,
 ⟨some 75,.load1 (.tmp 74),none,126976⟩,
 ⟨some 76,.bin .or (.tmp 69) (.tmp 75),none,262080⟩,
 ⟨some 77,.bslice 1 1 [(.tmp 76)],none,524224⟩,
 ⟨some 78,.append 1 8 (.tmp 63) (.tmp 77),none,1048574⟩,
 ⟨some 79,.nilchk (.tmp 58),none,2097151⟩,
 ⟨some 80,.faddr 2 (.tmp 79),none,4194303⟩,
 ⟨some 81,.faddr 2 (.tmp 80),none,8388607⟩,
 ⟨none,.store 1 (.tmp 81) (.tmp 78),none,16777215⟩] true) (.ops [⟨some 82,.move (.tmp 9),none,0⟩,
 ⟨some 83,.move (.tmp 9),none,0⟩,
 ⟨some 84,.nilchk (.tmp 83),none,2⟩,
 ⟨some 85,.faddr 2 (.tmp 84),none,6⟩,
 ⟨some 86,.faddr 3 (.tmp 85),none,14⟩,
 ⟨some 87,.load1 (.tmp 86),none,30⟩,
 ⟨some 88,.faddr 3 (.tmp 2),none,0⟩,
 ⟨some 89,.load1 (.tmp 88),none,64⟩,
 ⟨some 90,.faddr 0 (.tmp 11),none,0⟩,
 ⟨some 91,.load1 (.tmp 90),none,256⟩,
 ⟨some 92,.iaddr 1 (.tmp 89) (.tmp 91),none,960⟩,
 ⟨some 93,.load1 (.tmp 92),none,1984⟩,
 ⟨some 94,.faddr 3 (.tmp 3),none,0⟩,
 ⟨some 95,.load1 (.tmp 94),none,4096⟩,
 ⟨some 96,.faddr 1 (.tmp 11),none,0⟩,
 ⟨some 97,.load1 (.tmp 96),none,16384⟩,
 ⟨some 98,.iaddr 1 (.tmp 95) (.tmp 97),none,61440⟩,
 ⟨some 99,.load1 (.tmp 98),none,126976⟩,
 ⟨some 100,.bin .or (.tmp 93) (.tmp 99),none,262080⟩,
 ⟨some 101,.bslice 1 1 [(.tmp 100)],none,524224⟩,
 ⟨some 102,.append 1 8 (.tmp 87) (.tmp 101),none,1048574⟩,
 ⟨some 103,.nilchk (.tmp 82),none,2097151⟩,
 ⟨some 104,.faddr 2 (.tmp 103),none,4194303⟩,
 ⟨some 105,.faddr 3 (.tmp 104),none,8388607⟩,
 ⟨none,.store 1 (.tmp 105) (.tmp 102),none,16777215⟩] true)))) (.ops [⟨some 106,.bin .add (.tmp 54) (.const (.int .i64 1)),none,0⟩,
 ⟨some 54,.move (.tmp 106),none,0⟩] false)))
def c16 : PC := .seq (.ops [⟨some 2,.box (.tmp 0),none,0⟩,
 ⟨some 3,.box (.tmp 1),none,0⟩,
 ⟨some 4,.alloc [(.slice none 0 0), (.slice none 0 0), (.slice none 0 0), (.slice none 0 0), (.slice none 0 0)],none,0⟩,
 ⟨some 5,.move (.const (.int .i64 0)),none,0⟩] false) (.seq (.seq (.ops [⟨some 12,.loadA 5 (.tmp 2),none,0⟩,
 ⟨some 13,.call 10 [(.tmp 12)],none,0⟩,
 ⟨some 6,.move (.tmp 13),none,0⟩] false) (.seq (.ops [⟨some 14,.move (.tmp 6),none,0⟩,
 ⟨some 15,.bin .neq (.tmp 14) (.const (.int .i64 0)),none,0⟩] false) (.cond (.tmp 15) (.seq (.ops [⟨some 16,.build [(.slice none 0 0), (.slice none 0 0), (.slice none 0 0), (.slice none 0 0), (.slice none 0 0)] [],none,0⟩,
 ⟨some 17,.move (.tmp 6),none,0⟩,
 ⟨none,.store 5 (.tmp 4) (.tmp 16),none,0⟩,
 ⟨some 5,.move (.tmp 17),none,0⟩] false) (.ret)) (.skip)))) (.seq (.seq (.ops [⟨some 18,.loadA 5 (.tmp 3),none,0⟩,
 ⟨some 19,.call 10 [(.tmp 18)],none,0⟩,
 ⟨some 7,.move (.tmp 19),none,0⟩] false) (.seq (.ops [⟨some 20,.move (.tmp 7),none,0⟩,
 ⟨some 21,.bin .neq (.tmp 20) (.const (.int .i64 0)),none,0⟩] false) (.cond (.tmp 21) (.seq (.ops [⟨some 22,.build [(.slice none 0 0), (.slice none 0 0), (.slice none 0 0), (.slice none 0 0), (.slice none 0 0)] [],none,0⟩,
 ⟨some 23,.move (.tmp 7),none,0⟩,
 ⟨none,.store 5 (.tmp 4) (.tmp 22),none,0⟩,
 ⟨some 5,.move (.tmp 23),none,0⟩] false) (.ret)) (.skip)))) (.seq (.ops [⟨some 24,.mkfn (.func 47) [] [(.tmp 2), (.tmp 3)],none,0⟩,
 ⟨some 8,.alloc [(.nilFunc)],none,0⟩,
 ⟨none,.store 1 (.tmp 8) (.tmp 24),none,0⟩] false) (.seq (.ops [⟨some 25,.mkmap 69,none,0⟩,
 ⟨some 26,.build [(.map none), (.slice none 0 0), (.slice none 0 0), (.slice none 0 0), (.slice none 0 0), (.slice none 0 0), (.slice none 0 0)] [(0, 1, (.tmp 25))],none,0⟩,
 ⟨some 27,.box (.tmp 26),none,0⟩,
 ⟨some 9,.move (.tmp 27),none,0⟩] false) (.seq (.seq (.stop (.ops [⟨some 28,.move (.tmp 9),none,0⟩,
 ⟨some 29,.load1 (.tmp 8),none,0⟩,
 ⟨some 30,.faddr 0 (.tmp 2),none,0⟩,
 ⟨some 31,.load1 (.tmp 30),none,0⟩,
 ⟨some 32,.faddr 0 (.tmp 3),none,0⟩,
 ⟨some 33,.load1 (.tmp 32),none,0⟩,
 ⟨some 34,.callv (.tmp 29) [(.tmp 31), (.tmp 33)],none,0⟩,
 ⟨some 35,.mkfn (.func 48) [] [(.tmp 8), (.tmp 2), (.tmp 3)],none,0⟩,
 ⟨some 36,.call 39 [(.tmp 28), (.tmp 34), (.tmp 35)],none,0⟩,
 ⟨some 37,.un .not (.tmp 36),none,0⟩,
 ⟨some 38,.move (.tmp 37),none,0⟩,
 ⟨some 39,.faddr 4 (.tmp 2),some (38,false),0⟩,
 ⟨some 40,.load1 (.tmp 39),some (38,false),0⟩,
 ⟨some 41,.len (.tmp 40),some (38,false),0⟩,
 ⟨some 42,.faddr 4 (.tmp 3),some (38,false),0⟩,
 ⟨some 43,.load1 (.tmp 42),some (38,false),0⟩,
 ⟨some 44,.len (.tmp 43),some (38,false),0⟩,
 ⟨some 45,.bin .add (.tmp 41) (.tmp 44),some (38,false),0⟩,
 ⟨some 46,.bin .gtr (.tmp 45) (.const (.int .i64 80)),some (38,false),0⟩,
 ⟨some 47,.pick (.tmp 38) (.const (.bool true)) (.tmp 46),none,0⟩] false)) (.cond (.tmp 47) (.seq (.ops [⟨some 48,.build [(.slice none 0 0), (.slice none 0 0), (.slice none 0 0), (.slice none 0 0), (.slice none 0 0)] [],none,0⟩,
 ⟨none,.store 5 (.tmp 4) (.tmp 48),none,0⟩,
 ⟨some 5,.move (.const (.int .i64 2)),none,0⟩] false) (.ret)) (.skip))) (.seq (.seq (.ops [⟨some 49,.move (.tmp 9),none,0⟩,
 ⟨some 50,.nilchk (.tmp 49),none,0⟩,
 ⟨some 51,.faddr 1 (.tmp 50),none,0⟩,
 ⟨some 52,.load1 (.tmp 51),none,0⟩,
 ⟨some 53,.len (.tmp 52),none,0⟩,
 ⟨some 54,.move (.const (.int .i64 0)),none,0⟩] false) (.block 0 (.loop c16_1))) (.seq (.ops [⟨some 107,.move (.tmp 9),none,0⟩,
 ⟨some 108,.faddr 4 (.tmp 2),none,0⟩,
 ⟨some 109,.load1 (.tmp 108),none,0⟩,
 ⟨some 110,.faddr 1 (.tmp 2),none,0⟩,
 ⟨some 111,.load1 (.tmp 110),none,0⟩,
 ⟨some 112,.len (.tmp 111),none,0⟩,
 ⟨some 113,.call 49 [(.tmp 107), (.tmp 109), (.tmp 112), (.func 50)],none,0⟩] false) (.seq (.ops [⟨some 114,.move (.tmp 9),none,0⟩,
 ⟨some 115,.faddr 4 (.tmp 3),none,0⟩,
 ⟨some 116,.load1 (.tmp 115),none,0⟩,
 ⟨some 117,.faddr 1 (.tmp 3),none,0⟩,
 ⟨some 118,.load1 (.tmp 117),none,0⟩,
 ⟨some 119,.len (.tmp 118),none,0⟩,
 ⟨some 120,.call 49 [(.tmp 114), (.tmp 116), (.tmp 119), (.func 51)],none,0⟩] false) (.seq (.ops [⟨some 121,.move (.tmp 9),none,0⟩,
 ⟨some 122,.nilchk (.tmp 121),none,0⟩,
 ⟨some 123,.faddr 2 (.tmp 122),none,0⟩,
 ⟨some 124,.loadA 5 (.tmp 123),none,0⟩,
 ⟨none,.store 5 (.tmp 4) (.tmp 124),none,0⟩,
 ⟨some 5,.move (.const (.int .i64 0)),none,0⟩] false) (.ret))))))))))
set_option maxRecDepth 100000 in
theorem c16_ok : FunOK Try.prog 16 125 [.agg 4 5, .tmp 5] c16 := ⟨⟨Try.f16, Try.func16, rfl, by kernel_rfl, rfl, by kernel_rfl⟩⟩
set_option maxRecDepth 100000 in
theorem au_Both {A B : AutoD} (h : TwoA A B) : PCall Try.prog 16 [dauto A, dauto B] (outB A B) := by
  obtain ⟨hm, hnn, h2048, h80, hst, hin, hfr⟩ := chk_auto A h.ca
  obtain ⟨hm', hnn', h2048', h80', hst', hin', hfr'⟩ := chk_auto B h.cb
  have hFF : FitsG A.fair := ⟨h.fa.fair, h.fa.fairEach⟩
  have hFF' : FitsG B.fair := ⟨h.fb.fair, h.fb.fairEach⟩
  have hC := au_Check A h.fa
  have hC' := au_Check B h.fb
  rw [h.ca] at hC
  rw [h.cb] at hC'
  have hCr := au_cross h A.start B.start h.sa h.sb hst hst'
  refine pcall_intro c16_ok (by simp) (by simp [PureL, pure_dauto]) ?_ (pure_outB A B)
  have hpu := pure_aucells A
  have hpu' := pure_aucells B
  obtain ⟨hSg, hSl⟩ := h.begin
  have hMd := au_made (crossL A B A.start B.start) (nxB A B) (GoodB A B) (fun p hp => hp.wf h2048 h2048') hSg (fun p hp => ⟨(h.next p).1, by have := (h.next p).2; omega⟩) (by omega) 48 [.ipt [.fn (.func 47) [] [.ipt A.cells, .ipt B.cells]], .ipt A.cells, .ipt B.cells] (by simp [PureL, Pure, hpu, hpu']) (fun p hp => au_nextB h p hp)
  have hMe := madeS_eq (crossL A B A.start B.start) (nxB A B)
  have hMg := madeS_good (nx := nxB A B) hSg fun p hp => (h.next p).1
  have hs0 := pure_dints (pPutS (crossL A B A.start B.start) [] [] true).2.1
  unfold outB
  generalize madeS (crossL A B A.start B.start) (nxB A B) = R at *
  generalize (pPutS (crossL A B A.start B.start) [] [] true).2.1 = s0 at *
  generalize hS : crossL A B A.start B.start = S at *
  obtain ⟨L, T, ok⟩ := R
  dsimp only at *
  unfold dauto at *
  (apply rd_sound; focus (repeat' constructor))
  ((conv=>whnf);repeat(refine .intro rfl ?_;conv=>whnf))
  (refine .inl ⟨_, hC, ?_⟩; ((conv=>whnf);repeat(refine .intro rfl ?_;conv=>whnf)))
  (refine .inl ⟨_, hC', ?_⟩; ((conv=>whnf);repeat(refine .intro rfl ?_;conv=>whnf)))
  refine pwp_ghostB (leB_freeze (fun i => i == 0 || i == 1 || i == 3) (env' := [(2, .ipt A.cells), (3, .ipt B.cells), (4, .loc 2 0), (8, .ipt [.fn (.func 47) [] [.ipt A.cells, .ipt B.cells]]), (9, .loc 5 0)])
    (H' := [.row false A.cells, .row false B.cells, .row true [nilV, nilV, nilV, nilV, nilV], .row false [.fn (.func 47) [] [.ipt A.cells, .ipt B.cells]], .mapo true (mapIs Try.prog 69 (fP [])), .row true [.mp 4, nilV, nilV, nilV, nilV, nilV, nilV]]) ?_ ?_) ?_
  · exact ⟨.loc _ _ _ _ _ rfl rfl (.refl _), .loc _ _ _ _ _ rfl rfl (.refl _), .refl _, .loc _ _ _ _ _ rfl rfl (.cons _ _ _ _ (.fn _ _ _ _ _ (.refl _) (.cons _ _ _ _ (.loc _ _ _ _ _ rfl rfl (.refl _)) (.cons _ _ _ _ (.loc _ _ _ _ _ rfl rfl (.refl _)) (.refl _)))) (.refl _)), .refl _, trivial⟩
  · exact ⟨⟨.inr ⟨rfl, rfl⟩, fun _ => rfl, .refl _⟩, ⟨.inr ⟨rfl, rfl⟩, fun _ => rfl, .refl _⟩, ⟨.inl rfl, fun h => absurd h (by decide), .refl _⟩, ⟨.inr ⟨rfl, rfl⟩, fun _ => rfl, .cons _ _ _ _ (.fn _ _ _ _ _ (.refl _) (.cons _ _ _ _ (.loc _ _ _ _ _ rfl rfl (.refl _)) (.cons _ _ _ _ (.loc _ _ _ _ _ rfl rfl (.refl _)) (.refl _)))) (.refl _)⟩, ⟨.inl rfl, fun h => absurd h (by decide), rfl⟩, ⟨.inl rfl, fun h => absurd h (by decide), .refl _⟩, trivial⟩
  refine pwp_ghostB (leB_nilc 5 1 2 (by simp) rfl rfl) ?_
  refine pwp_ghostB (leB_nilc 5 3 1 (by simp) rfl rfl) ?_
  (apply rd_sound; focus (repeat' constructor))
  ((conv=>whnf);repeat(refine .intro rfl ?_;conv=>whnf))
  (refine .inl ⟨_, hCr, ?_⟩; ((conv=>whnf);repeat(refine .intro rfl ?_;conv=>whnf)))
  have hfn : Pure (D.fn (.func 48) [] [.ipt [.fn (.func 47) [] [.ipt A.cells, .ipt B.cells]], .ipt A.cells, .ipt B.cells]) := by simp [Pure, PureL, hpu, hpu']
  (refine .inr (.inr (.inl ⟨rfl, _, _, (acall_mid hMd [.row false A.cells, .row false B.cells, .row true [nilV, nilV, nilV, nilV, nilV], .row false [.fn (.func 47) [] [.ipt A.cells, .ipt B.cells]]] [] rfl ⟨by simp [Under, mheap], under_pure _ (pure_dpairs S), under_pure _ hfn, trivial⟩ (underO_of (under_mheap pure_nilV (Nat.le_refl _))) (by show [D.ren _ (D.loc 1 0), D.ren _ (dpairs S), D.ren _ (D.fn _ _ _)] = _; rw [ren_pure _ (pure_dpairs S), ren_pure _ hfn]; rfl) rfl (congrArg (_ ++ ·) ((List.append_nil _).trans (mheap4_eq pure_nilV))) (congrArg (_ ++ ·) ((List.append_nil _).trans (mheap4_eq hs0)))), ?_⟩)); ((conv=>whnf);repeat(refine .intro rfl ?_;conv=>whnf)))
  rcases hMe with ⟨h1, h2⟩ | ⟨L', T', h1, h2, h3⟩
  · rw [h1, h2]
    ((conv=>whnf);repeat(refine .intro rfl ?_;conv=>whnf))
    exact .tup _ _ (.cons _ _ _ _ (.agg _ _ (.cons _ _ _ _ (.none _) (.cons _ _ _ _ (.none _) (.cons _ _ _ _ (.none _) (.cons _ _ _ _ (.none _) (.cons _ _ _ _ (.none _) .nil)))))) (.cons _ _ _ _ (.refl _) .nil))
  cases h2
  rw [h1, ← h3]
  ((conv=>whnf);repeat(refine .intro rfl ?_;conv=>whnf))
  rw [List.length_map, List.length_map]
  (refine .inl ⟨by (unfold InR; rw [IntKind.wrap_i64]; omega), ?_⟩; ((conv=>whnf);repeat(refine .intro rfl ?_;conv=>whnf)))
  (refine ifK_split (fun q80 => ?_) (fun q80 => ?_) <;> (rw [q80]; ((conv=>whnf);repeat(refine .intro rfl ?_;conv=>whnf))))
  · have q80 : 80 < A.fair.length + B.fair.length := by ((try simp only[oo,reduceCtorEq]at*)<;>omega)
    dsimp only
    rw [if_pos q80]
    exact .tup _ _ (.cons _ _ _ _ (.agg _ _ (.cons _ _ _ _ (.none _) (.cons _ _ _ _ (.none _) (.cons _ _ _ _ (.none _) (.cons _ _ _ _ (.none _) (.cons _ _ _ _ (.none _) .nil)))))) (.cons _ _ _ _ (.refl _) .nil))
  have q80 : ¬ 80 < A.fair.length + B.fair.length := by ((try simp only[oo,reduceCtorEq]at*)<;>omega)
  dsimp only
  rw [if_neg q80]
  refine pwp_ghostB (leB_nilc 5 4 1 (by simp) rfl rfl) ?_
  refine pwp_ghostB (leB_nilc 5 5 1 (by simp) rfl rfl) ?_
  refine pwp_ghostB (leB_nilc 5 6 1 (by simp) rfl rfl) ?_
  obtain ⟨hLg, hL9⟩ := hMg
  refine pwp_forH [2, 3, 4, 9, 52, 53] (fun k : Nat => [(54, .sc (.int .i64 k))]) (fun k => [.row false A.cells, .row false B.cells, .row true [nilV, nilV, nilV, nilV, nilV], .row false [.fn (.func 47) [] [.ipt A.cells, .ipt B.cells]], .mapo true (mapIs Try.prog 69 (fP L)), .row true [.mp 4, .own 6 L.length 0 L.length, dints s0, .own 7 T.length 0 T.length, .own 8 k 0 k, .own 9 k 0 k, .own 10 0 0 0], .vec true L.length 2 (prows L), .vec true T.length 1 (growsI T), .vec true k 1 (u64s (orsAt A.must B.must L k)), .vec true k 1 (u64s (orsAt A.nots B.nots L k)), .vec true 0 1 []])
    (fun k => k ≤ L.length) (fun k => L.length - k) 0 ?_
  ((conv=>whnf);repeat(refine .intro rfl ?_;conv=>whnf))
  refine ⟨by omega, by (repeat' (first | exact trivial | refine And.intro rfl ?_)), rfl, ?_⟩
  rintro k hk
  ((conv=>whnf);repeat(refine .intro rfl ?_;conv=>whnf))
  (apply rd_sound; focus (repeat' constructor))
  ((conv=>whnf);repeat(refine .intro rfl ?_;conv=>whnf))
  (refine ifK_split (fun q0 => ?_) (fun q0 => ?_) <;> (rw [q0]; ((conv=>whnf);repeat(refine .intro rfl ?_;conv=>whnf))))
  · have q0 : k < L.length := by ((try simp only[oo,reduceCtorEq]at*)<;>omega)
    have hp := hLg _ (mem_getDP q0)
    have e1 := orsAt_succ (M := A.must) (N := B.must) q0
    have e2 := orsAt_succ (M := A.nots) (N := B.nots) q0
    have l1 := orsAt_len (M := A.must) (N := B.must) hk
    have l2 := orsAt_len (M := A.nots) (N := B.nots) hk
    (refine ⟨by omega, (by first | omega | (simp; done) | (simp; omega) | (simp only [ll]; omega)), ?_⟩; ((conv=>whnf);repeat(refine .intro rfl ?_;conv=>whnf)))
    refine ⟨_, prows_at (k := k) (by omega) q0, ?_⟩
    ((conv=>whnf);repeat(refine .intro rfl ?_;conv=>whnf))
    generalize L.getD k (0, 0) = p at *
    obtain ⟨⟨p1, p2⟩, p3, p4⟩ := hp
    refine ⟨by omega, _, u64a_at (l := A.must) (k := p.1.toNat) (by omega) (by omega), ?_⟩
    ((conv=>whnf);repeat(refine .intro rfl ?_;conv=>whnf))
    refine ⟨by omega, _, u64a_at (l := B.must) (k := p.2.toNat) (by omega) (by omega), ?_⟩
    ((conv=>whnf);repeat(refine .intro rfl ?_;conv=>whnf))
    refine ⟨(by unfold sliceAppend; simp only [ll]; omega), ?_⟩
    ((conv=>whnf);repeat(refine .intro rfl ?_;conv=>whnf))
    refine ⟨by omega, _, u64a_at (l := A.nots) (k := p.1.toNat) (by omega) (by omega), ?_⟩
    ((conv=>whnf);repeat(refine .intro rfl ?_;conv=>whnf))
    refine ⟨by omega, _, u64a_at (l := B.nots) (k := p.2.toNat) (by omega) (by omega), ?_⟩
    ((conv=>whnf);repeat(refine .intro rfl ?_;conv=>whnf))
    refine ⟨(by unfold sliceAppend; simp only [ll]; omega), ?_⟩
    ((conv=>whnf);repeat(refine .intro rfl ?_;conv=>whnf))
    (refine .inl ⟨by (unfold InR; rw [IntKind.wrap_i64]; omega), ?_⟩; ((conv=>whnf);repeat(refine .intro rfl ?_;conv=>whnf)))
    refine ⟨k + 1, by omega, by dsimp only; omega, ?_⟩
    dsimp only
    rw [e1, e2]
    (refine leB_close 11 (by simp) rfl ?_ ?_ <;> (repeat' (first | exact trivial | exact rfl | exact DeepM.refl _ | exact DeepML.refl _ | exact DeepMLL.refl _ | refine And.intro ?_ ?_ | (simp [Under, UnderL, UnderLL, -List.map_take, -List.map_drop]; done))))
    all_goals first | exact underL_pure _ hpu | exact underL_pure _ hpu' | exact deepMLL_eq (u64s_snoc _ _ l1) | exact deepMLL_eq (u64s_snoc _ _ l2) | exact under_pure _ hs0 | simp
  have q0 : k = L.length := by have : ¬ k < L.length := by ((try simp only[oo,reduceCtorEq]at*)<;>omega)
                               omega
  subst q0
  have l1 := orsAt_len (M := A.must) (N := B.must) (Nat.le_refl L.length)
  have l2 := orsAt_len (M := A.nots) (N := B.nots) (Nat.le_refl L.length)
  rw [List.length_map]
  have hA1 := au_sets 50 (·.1) L hL9 A.next.length h2048 (fun p _ => au_first p) (fun p hp => (hLg p hp).1) A.fair h80 hFF hfr (dints s0) hs0 T (orsAt A.must B.must L L.length) (orsAt A.nots B.nots L L.length) [] (by simp)
  have hA2 := au_sets 51 (·.2) L hL9 B.next.length h2048' (fun p _ => au_second p) (fun p hp => (hLg p hp).2) B.fair h80' hFF' hfr' (dints s0) hs0 T (orsAt A.must B.must L L.length) (orsAt A.nots B.nots L L.length) ([] ++ setsL L (·.1) A.fair) (by simp; omega)
  (refine .inr (.inr (.inl ⟨rfl, _, _, (acall_mid hA1 [.row false A.cells, .row false B.cells, .row true [nilV, nilV, nilV, nilV, nilV], .row false [.fn (.func 47) [] [.ipt A.cells, .ipt B.cells]]] [] rfl ⟨by simp [Under, bheapD], under_pure _ (pure_dgrid _), trivial, by simp [Under, UnderL], trivial⟩ (underO_of (under_bheap hs0 (Nat.le_refl _))) (by show [D.ren _ (D.loc 1 0), D.ren _ (dgrid _), D.ren _ _, D.ren _ _] = _; rw [ren_dgrid]; rfl) rfl (congrArg (_ ++ ·) (((List.append_nil _).trans (bheap_ren hs0)).trans (by unfold bheapD bbox; rw [l1, l2]; rfl))) (congrArg (_ ++ ·) ((List.append_nil _).trans (bheap_ren hs0)))), ?_⟩)); ((conv=>whnf);repeat(refine .intro rfl ?_;conv=>whnf)))
  rw [List.length_map]
  (refine .inr (.inr (.inl ⟨rfl, _, _, (acall_mid hA2 [.row false A.cells, .row false B.cells, .row true [nilV, nilV, nilV, nilV, nilV], .row false [.fn (.func 47) [] [.ipt A.cells, .ipt B.cells]]] [] rfl ⟨by simp [Under, bheapD], under_pure _ (pure_dgrid _), trivial, by simp [Under, UnderL], trivial⟩ (underO_of (under_bheap hs0 (Nat.le_refl _))) (by show [D.ren _ (D.loc 1 0), D.ren _ (dgrid _), D.ren _ _, D.ren _ _] = _; rw [ren_dgrid]; rfl) rfl (congrArg (_ ++ ·) ((List.append_nil _).trans (bheap_ren hs0))) (congrArg (_ ++ ·) ((List.append_nil _).trans (bheap_ren hs0)))), ?_⟩)); ((conv=>whnf);repeat(refine .intro rfl ?_;conv=>whnf)))
  exact .tup _ _ (.cons _ _ _ _ (.agg _ _ (.cons _ _ _ _ (.refl _) (.cons _ _ _ _ (.own _ _ _ _ _ _ _ _ rfl (by rw [drop_take_all (by simp)]; exact deepLL_refl _)) (.cons _ _ _ _ (.own _ _ _ _ _ _ _ _ rfl (by rw [drop_take_all (by simp)]; exact deepLL_refl _)) (.cons _ _ _ _ (.own _ _ _ _ _ _ _ _ rfl (by rw [drop_take_all (by simp)]; exact deepLL_refl _)) (.cons _ _ _ _ (.own _ _ _ _ _ _ _ _ rfl (by rw [drop_take_all (by simp)]; exact deepLL_refl _)) .nil)))))) (.cons _ _ _ _ (.refl _) .nil))
end

/-! ### XNbb -/
section
open Go.RowKit
set_option linter.unusedSimpArgs false
set_option linter.unusedVariables false
def FF (A B : AutoD) (L : List Pr) : List (List Int) := setsL L (·.1) A.fair ++ setsL L (·.2) B.fair
def setJ (A B : AutoD) (L : List Pr) (k j : Nat) : List Int := if k < A.fair.length then setsK L (·.1) (A.fair.getD k []) j else setsK L (·.2) (B.fair.getD (k - A.fair.length) []) j
theorem setJ_len (A B : AutoD) (L : List Pr) (k j : Nat) : (setJ A B L k j).length ≤ j := by unfold setJ; split <;> exact setsK_len _ _ _ _
theorem setJ_zero (A B : AutoD) (L : List Pr) (k : Nat) : setJ A B L k 0 = [] := by unfold setJ; split <;> simp [setsK]
theorem FF_len (A B : AutoD) (L : List Pr) : (FF A B L).length = A.fair.length + B.fair.length := by simp [FF]
theorem FF_succ {A B : AutoD} {L : List Pr} {k : Nat} (h : k < A.fair.length + B.fair.length) : (FF A B L).take (k + 1) = (FF A B L).take k ++ [setJ A B L k L.length] := by
  have hl := FF_len A B L
  rw [List.take_add_one, List.getElem?_eq_getElem (by omega)]
  congr 1
  simp only [Option.toList_some, List.cons.injEq, and_true]
  unfold FF setJ
  by_cases q : k < A.fair.length
  · rw [if_pos q, List.getElem_append_left (by simpa using q)]
    simp [setsL, List.getD_eq_getElem?_getD, List.getElem?_eq_getElem q]
  · have q2 : k - A.fair.length < B.fair.length := by omega
    rw [if_neg q, List.getElem_append_right (by simpa using q)]
    simp [setsL, List.getD_eq_getElem?_getD, List.getElem?_eq_getElem q2]
def c17_1 : PC := .seq (.seq (.ops [⟨some 46,.move (.tmp 12),none,0⟩,
 ⟨some 47,.move (.tmp 7),none,0⟩,
 ⟨some 48,.len (.tmp 47),none,0⟩,
 ⟨some 49,.bin .lss (.tmp 46) (.tmp 48),none,0⟩] false) (.cond (.tmp 49) (.skip) (.exit 0))) (.seq (.block 1 (.seq (.ops [⟨some 52,.faddr 2 (.tmp 11),none,0⟩,
 ⟨some 53,.load1 (.tmp 52),none,1⟩,
 ⟨some 54,.faddr 2 (.tmp 2),none,0⟩,
 ⟨some 55,.load1 (.tmp 54),none,4⟩,
 ⟨some 56,.move (.tmp 7),none,0⟩,
 ⟨some 57,.move (.tmp 12),none,0⟩,
 ⟨some 58,.iaddr 2 (.tmp 56) (.tmp 57),none,48⟩,
 ⟨some 59,.aaddr 2 1 (.tmp 58) (.const (.int .i64 0)),none,112⟩,
 ⟨some 60,.load1 (.tmp 59),none,240⟩,
 ⟨some 61,.iaddr 1 (.tmp 55) (.tmp 60),none,508⟩,
 ⟨some 62,.load1 (.tmp 61),none,1020⟩,
 ⟨some 63,.faddr 2 (.tmp 3),none,0⟩,
 ⟨some 64,.load1 (.tmp 63),none,2048⟩,
 ⟨some 65,.move (.tmp 7),none,0⟩,
 ⟨some 66,.move (.tmp 12),none,0⟩,
 ⟨some 67,.iaddr 2 (.tmp 65) (.tmp 66),none,24576⟩,
 ⟨some 68,.aaddr 2 1 (.tmp 67) (.const (.int .i64 1)),none,57344⟩,
 ⟨some 69,.load1 (.tmp 68),none,122880⟩,
 ⟨some 70,.iaddr 1 (.tmp 64) (.tmp 69),none,260096⟩,
 ⟨some 71,.load1 (.tmp 70),none,522240⟩,
 ⟨some 72,.bin .or (.tmp 62) (.tmp 71),none,1048572⟩,
 ⟨some 73,.bslice 1 1 [(.tmp 72)],none,2097148⟩,
 ⟨some 74,.append 1 8 (.tmp 53) (.tmp 73),none,4194303⟩,
 ⟨some 75,.faddr 2 (.tmp 11),none,8388607⟩,
 ⟨none,.store 1 (.tmp 75) (.tmp 74),none,16777215⟩] true) (.ops [⟨some 76,.faddr 3 (.tmp 11),none,0⟩,
 ⟨some 77,.load1 (.tmp 76),none,1⟩,
 ⟨some 78,.faddr 3 (.tmp 2),none,0⟩,
 ⟨some 79,.load1 (.tmp 78),none,4⟩,
 ⟨some 80,.move (.tmp 7),none,0⟩,
 ⟨some 81,.move (.tmp 12),none,0⟩,
 ⟨some 82,.iaddr 2 (.tmp 80) (.tmp 81),none,48⟩,
 ⟨some 83,.aaddr 2 1 (.tmp 82) (.const (.int .i64 0)),none,112⟩,
 ⟨some 84,.load1 (.tmp 83),none,240⟩,
 ⟨some 85,.iaddr 1 (.tmp 79) (.tmp 84),none,508⟩,
 ⟨some 86,.load1 (.tmp 85),none,1020⟩,
 ⟨some 87,.faddr 3 (.tmp 3),none,0⟩,
 ⟨some 88,.load1 (.tmp 87),none,2048⟩,
 ⟨some 89,.move (.tmp 7),none,0⟩,
 ⟨some 90,.move (.tmp 12),none,0⟩,
 ⟨some 91,.iaddr 2 (.tmp 89) (.tmp 90),none,24576⟩,
 ⟨some 92,.aaddr 2 1 (.tmp 91) (.const (.int .i64 1)),none,57344⟩,
 ⟨some 93,.load1 (.tmp 92),none,122880⟩,
 ⟨some 94,.iaddr 1 (.tmp 88) (.tmp 93),none,260096⟩,
 ⟨some 95,.load1 (.tmp 94),none,522240⟩,
 ⟨some 96,.bin .or (.tmp 86) (.tmp 95),none,1048572⟩,
 ⟨some 97,.bslice 1 1 [(.tmp 96)],none,2097148⟩,
 ⟨some 98,.append 1 8 (.tmp 77) (.tmp 97),none,4194303⟩,
 ⟨some 99,.faddr 3 (.tmp 11),none,8388607⟩,
 ⟨none,.store 1 (.tmp 99) (.tmp 98),none,16777215⟩] true))) (.ops [⟨some 50,.move (.tmp 12),none,0⟩,
 ⟨some 51,.bin .add (.tmp 50) (.const (.int .i64 1)),none,0⟩,
 ⟨some 12,.move (.tmp 51),none,0⟩] false))
def c17_3 : PC := .seq (.seq (.ops [⟨some 111,.move (.tmp 15),none,0⟩,
 ⟨some 112,.move (.tmp 7),none,0⟩,
 ⟨some 113,.len (.tmp 112),none,0⟩,
 ⟨some 114,.bin .lss (.tmp 111) (.tmp 113),none,0⟩] false) (.cond (.tmp 114) (.skip) (.exit 4))) (.seq (.block 5 (.seq (.ops [⟨some 117,.move (.tmp 13),none,0⟩,
 ⟨some 118,.faddr 4 (.tmp 2),none,0⟩,
 ⟨some 119,.load1 (.tmp 118),none,2⟩,
 ⟨some 120,.len (.tmp 119),none,6⟩,
 ⟨some 121,.bin .lss (.tmp 117) (.tmp 120),none,15⟩,
 ⟨some 122,.move (.tmp 121),none,31⟩,
 ⟨some 123,.faddr 4 (.tmp 2),some (122,true),63⟩,
 ⟨some 124,.load1 (.tmp 123),some (122,true),127⟩,
 ⟨some 125,.move (.tmp 13),some (122,true),63⟩,
 ⟨some 126,.iaddr 1 (.tmp 124) (.tmp 125),some (122,true),511⟩,
 ⟨some 127,.load1 (.tmp 126),some (122,true),1023⟩,
 ⟨some 128,.move (.tmp 7),some (122,true),63⟩,
 ⟨some 129,.move (.tmp 15),some (122,true),63⟩,
 ⟨some 130,.iaddr 2 (.tmp 128) (.tmp 129),some (122,true),6207⟩,
 ⟨some 131,.aaddr 2 1 (.tmp 130) (.const (.int .i64 0)),some (122,true),14399⟩,
 ⟨some 132,.load1 (.tmp 131),some (122,true),30783⟩,
 ⟨some 133,.call 46 [(.tmp 127), (.tmp 132)],some (122,true),65535⟩,
 ⟨some 134,.pick (.tmp 122) (.tmp 133) (.const (.bool false)),none,131071⟩,
 ⟨some 135,.move (.tmp 134),none,262143⟩,
 ⟨some 136,.move (.tmp 13),some (135,false),524287⟩,
 ⟨some 137,.faddr 4 (.tmp 2),some (135,false),524287⟩,
 ⟨some 138,.load1 (.tmp 137),some (135,false),1572863⟩,
 ⟨some 139,.len (.tmp 138),some (135,false),3670015⟩,
 ⟨some 140,.bin .geq (.tmp 136) (.tmp 139),some (135,false),8388607⟩,
 ⟨some 141,.move (.tmp 140),some (135,false),16777215⟩,
 ⟨some 142,.faddr 4 (.tmp 3),some (141,true),33554431⟩,
 ⟨some 143,.load1 (.tmp 142),some (141,true),67108863⟩,
 ⟨some 144,.move (.tmp 13),some (141,true),33554431⟩,
 ⟨some 145,.faddr 4 (.tmp 2),some (141,true),33554431⟩,
 ⟨some 146,.load1 (.tmp 145),some (141,true),301989887⟩,
 ⟨some 147,.len (.tmp 146),some (141,true),838860799⟩,
 ⟨some 148,.bin .sub (.tmp 144) (.tmp 147),some (141,true),2046820351⟩,
 ⟨some 149,.iaddr 1 (.tmp 143) (.tmp 148),some (141,true),4294967295⟩,
 ⟨some 150,.load1 (.tmp 149),some (141,true),8589934591⟩,
 ⟨some 151,.move (.tmp 7),some (141,true),33554431⟩,
 ⟨some 152,.move (.tmp 15),some (141,true),33554431⟩,
 ⟨some 153,.iaddr 2 (.tmp 151) (.tmp 152),some (141,true),51573161983⟩,
 ⟨some 154,.aaddr 2 1 (.tmp 153) (.const (.int .i64 1)),some (141,true),120292638719⟩,
 ⟨some 155,.load1 (.tmp 154),some (141,true),257731592191⟩,
 ⟨some 156,.call 46 [(.tmp 150), (.tmp 155)],some (141,true),549755813887⟩,
 ⟨some 157,.pick (.tmp 141) (.tmp 156) (.const (.bool false)),some (135,false),1099511627775⟩,
 ⟨some 158,.pick (.tmp 135) (.const (.bool true)) (.tmp 157),none,2199023255551⟩] true) (.cond (.tmp 158) (.ops [⟨some 159,.move (.tmp 14),none,0⟩,
 ⟨some 160,.move (.tmp 15),none,0⟩,
 ⟨some 161,.bslice 1 1 [(.tmp 160)],none,0⟩,
 ⟨some 162,.append 1 8 (.tmp 159) (.tmp 161),none,0⟩,
 ⟨some 14,.move (.tmp 162),none,0⟩] false) (.skip)))) (.ops [⟨some 115,.move (.tmp 15),none,0⟩,
 ⟨some 116,.bin .add (.tmp 115) (.const (.int .i64 1)),none,0⟩,
 ⟨some 15,.move (.tmp 116),none,0⟩] false))
def c17_2 : PC := .seq (.seq (.ops [⟨some 100,.move (.tmp 13),none,0⟩,
 ⟨some 101,.faddr 4 (.tmp 2),none,0⟩,
 ⟨some 102,.load1 (.tmp 101),none,0⟩,
 ⟨some 103,.len (.tmp 102),none,0⟩,
 ⟨some 104,.faddr 4 (.tmp 3),none,0⟩,
 ⟨some 105,.load1 (.tmp 104),none,0⟩,
 ⟨some 106,.len (.tmp 105),none,0⟩,
 ⟨some 107,.bin .add (.tmp 103) (.tmp 106),none,0⟩,
 ⟨some 108,.bin .lss (.tmp 100) (.tmp 107),none,0⟩] false) (.cond (.tmp 108) (.skip) (.exit 2))) (.seq (.block 3 (.seq (.ops [⟨some 14,.move (.const (.slice none 0 0)),none,0⟩] false) (.seq (.seq (.ops [⟨some 15,.move (.const (.int .i64 0)),none,0⟩] false) (.block 4 (.loop c17_3))) (.ops [⟨some 163,.faddr 4 (.tmp 11),none,0⟩,
 ⟨some 164,.load1 (.tmp 163),none,0⟩,
 ⟨some 165,.move (.tmp 14),none,0⟩,
 ⟨some 166,.bslice 1 1 [(.tmp 165)],none,0⟩,
 ⟨some 167,.append 1 24 (.tmp 164) (.tmp 166),none,0⟩,
 ⟨some 168,.faddr 4 (.tmp 11),none,0⟩,
 ⟨none,.store 1 (.tmp 168) (.tmp 167),none,0⟩] false)))) (.ops [⟨some 109,.move (.tmp 13),none,0⟩,
 ⟨some 110,.bin .add (.tmp 109) (.const (.int .i64 1)),none,0⟩,
 ⟨some 13,.move (.tmp 110),none,0⟩] false))
def c17 : PC := .seq (.ops [⟨some 2,.box (.tmp 0),none,0⟩,
 ⟨some 3,.box (.tmp 1),none,0⟩,
 ⟨some 4,.alloc [(.slice none 0 0), (.slice none 0 0), (.slice none 0 0), (.slice none 0 0), (.slice none 0 0)],none,0⟩,
 ⟨some 5,.move (.const (.int .i64 0)),none,0⟩] false) (.seq (.ops [⟨some 16,.mkfn (.func 52) [] [(.tmp 2), (.tmp 3)],none,0⟩,
 ⟨some 6,.alloc [(.nilFunc)],none,0⟩,
 ⟨none,.store 1 (.tmp 6) (.tmp 16),none,0⟩] false) (.seq (.stop (.ops [⟨some 18,.load1 (.tmp 6),none,0⟩,
 ⟨some 19,.faddr 0 (.tmp 2),none,0⟩,
 ⟨some 20,.load1 (.tmp 19),none,0⟩,
 ⟨some 21,.faddr 0 (.tmp 3),none,0⟩,
 ⟨some 22,.load1 (.tmp 21),none,0⟩,
 ⟨some 23,.callv (.tmp 18) [(.tmp 20), (.tmp 22)],none,0⟩,
 ⟨some 24,.mkfn (.func 53) [] [(.tmp 6), (.tmp 2), (.tmp 3)],none,0⟩,
 ⟨some 25,.call 44 [(.tmp 23), (.tmp 24)],none,0⟩,
 ⟨some 17,.move (.tmp 25),none,0⟩,
 ⟨some 26,.ext 0 (.tmp 17),none,0⟩,
 ⟨some 27,.ext 1 (.tmp 17),none,0⟩,
 ⟨some 28,.ext 2 (.tmp 17),none,0⟩,
 ⟨some 29,.ext 3 (.tmp 17),none,0⟩,
 ⟨some 7,.move (.tmp 26),none,0⟩,
 ⟨some 8,.move (.tmp 27),none,0⟩,
 ⟨some 9,.move (.tmp 28),none,0⟩,
 ⟨some 10,.move (.tmp 29),none,0⟩] false)) (.seq (.seq (.ops [⟨some 30,.move (.tmp 10),none,0⟩,
 ⟨some 31,.un .not (.tmp 30),none,0⟩,
 ⟨some 32,.move (.tmp 31),none,0⟩,
 ⟨some 33,.faddr 4 (.tmp 2),some (32,false),0⟩,
 ⟨some 34,.load1 (.tmp 33),some (32,false),0⟩,
 ⟨some 35,.len (.tmp 34),some (32,false),0⟩,
 ⟨some 36,.faddr 4 (.tmp 3),some (32,false),0⟩,
 ⟨some 37,.load1 (.tmp 36),some (32,false),0⟩,
 ⟨some 38,.len (.tmp 37),some (32,false),0⟩,
 ⟨some 39,.bin .add (.tmp 35) (.tmp 38),some (32,false),0⟩,
 ⟨some 40,.bin .gtr (.tmp 39) (.const (.int .i64 80)),some (32,false),0⟩,
 ⟨some 41,.pick (.tmp 32) (.const (.bool true)) (.tmp 40),none,0⟩] false) (.cond (.tmp 41) (.seq (.ops [⟨some 42,.build [(.slice none 0 0), (.slice none 0 0), (.slice none 0 0), (.slice none 0 0), (.slice none 0 0)] [],none,0⟩,
 ⟨none,.store 5 (.tmp 4) (.tmp 42),none,0⟩,
 ⟨some 5,.move (.const (.int .i64 2)),none,0⟩] false) (.ret)) (.skip))) (.seq (.ops [⟨some 43,.move (.tmp 8),none,0⟩,
 ⟨some 44,.move (.tmp 9),none,0⟩,
 ⟨some 45,.build [(.slice none 0 0), (.slice none 0 0), (.slice none 0 0), (.slice none 0 0), (.slice none 0 0)] [(0, 1, (.tmp 43)), (1, 1, (.tmp 44))],none,0⟩,
 ⟨some 11,.alloc [(.slice none 0 0), (.slice none 0 0), (.slice none 0 0), (.slice none 0 0), (.slice none 0 0)],none,0⟩,
 ⟨none,.store 5 (.tmp 11) (.tmp 45),none,0⟩] false) (.seq (.seq (.ops [⟨some 12,.move (.const (.int .i64 0)),none,0⟩] false) (.block 0 (.loop c17_1))) (.seq (.seq (.ops [⟨some 13,.move (.const (.int .i64 0)),none,0⟩] false) (.block 2 (.loop c17_2))) (.seq (.ops [⟨some 169,.loadA 5 (.tmp 11),none,0⟩,
 ⟨none,.store 5 (.tmp 4) (.tmp 169),none,0⟩,
 ⟨some 5,.move (.const (.int .i64 0)),none,0⟩] false) (.ret))))))))
set_option maxRecDepth 100000 in
theorem c17_ok : FunOK Try.prog 17 170 [.agg 4 5, .tmp 5] c17 := ⟨⟨Try.f17, Try.func17, rfl, by kernel_rfl, rfl, by kernel_rfl⟩⟩
set_option maxRecDepth 100000 in
theorem ref_Both {A B : AutoD} (h : TwoA A B) : PCall Try.prog 17 [dauto A, dauto B] (outB A B) := by
  obtain ⟨hm, hnn, h2048, h80, hst, hin, hfr⟩ := chk_auto A h.ca
  obtain ⟨hm', hnn', h2048', h80', hst', hin', hfr'⟩ := chk_auto B h.cb
  have hFF : FitsG A.fair := ⟨h.fa.fair, h.fa.fairEach⟩
  have hFF' : FitsG B.fair := ⟨h.fb.fair, h.fb.fairEach⟩
  have hCr := ref_cross h A.start B.start h.sa h.sb hst hst'
  refine pcall_intro c17_ok (by simp) (by simp [PureL, pure_dauto]) ?_ (pure_outB A B)
  have hpu := pure_aucells A
  have hpu' := pure_aucells B
  obtain ⟨hSg, hSl⟩ := h.begin
  have hNu := ref_numbered (crossL A B A.start B.start) (nxB A B) (GoodB A B) hSg (fun p hp => ⟨(h.next p).1, by have := (h.next p).2; omega⟩) (by omega) 53 [.ipt [.fn (.func 52) [] [.ipt A.cells, .ipt B.cells]], .ipt A.cells, .ipt B.cells] (by simp [PureL, Pure, hpu, hpu']) (fun p hp => ref_nextB h p hp)
  have hMe := madeS_eq (crossL A B A.start B.start) (nxB A B)
  have hMg := madeS_good (nx := nxB A B) hSg fun p hp => (h.next p).1
  unfold outB
  unfold outR at hNu
  generalize hS : crossL A B A.start B.start = S at *
  unfold dauto at *
  (apply rd_sound; focus (repeat' constructor))
  ((conv=>whnf);repeat(refine .intro rfl ?_;conv=>whnf))
  refine pwp_ghostB (leB_freeze (fun i => i == 0 || i == 1 || i == 3) (env' := [(2, .ipt A.cells), (3, .ipt B.cells), (4, .loc 2 0), (6, .ipt [.fn (.func 52) [] [.ipt A.cells, .ipt B.cells]])])
    (H' := [.row false A.cells, .row false B.cells, .row true [nilV, nilV, nilV, nilV, nilV], .row false [.fn (.func 52) [] [.ipt A.cells, .ipt B.cells]]]) ?_ ?_) ?_
  · exact ⟨.loc _ _ _ _ _ rfl rfl (.refl _), .loc _ _ _ _ _ rfl rfl (.refl _), .refl _, .loc _ _ _ _ _ rfl rfl (.cons _ _ _ _ (.fn _ _ _ _ _ (.refl _) (.cons _ _ _ _ (.loc _ _ _ _ _ rfl rfl (.refl _)) (.cons _ _ _ _ (.loc _ _ _ _ _ rfl rfl (.refl _)) (.refl _)))) (.refl _)), trivial⟩
  · exact ⟨⟨.inr ⟨rfl, rfl⟩, fun _ => rfl, .refl _⟩, ⟨.inr ⟨rfl, rfl⟩, fun _ => rfl, .refl _⟩, ⟨.inl rfl, fun h => absurd h (by decide), .refl _⟩, ⟨.inr ⟨rfl, rfl⟩, fun _ => rfl, .cons _ _ _ _ (.fn _ _ _ _ _ (.refl _) (.cons _ _ _ _ (.loc _ _ _ _ _ rfl rfl (.refl _)) (.cons _ _ _ _ (.loc _ _ _ _ _ rfl rfl (.refl _)) (.refl _)))) (.refl _)⟩, trivial⟩
  (apply rd_sound; focus (repeat' constructor))
  ((conv=>whnf);repeat(refine .intro rfl ?_;conv=>whnf))
  (refine .inl ⟨_, hCr, ?_⟩; ((conv=>whnf);repeat(refine .intro rfl ?_;conv=>whnf)))
  rcases hMe with ⟨h1, h2⟩ | ⟨L, T, h1, h2, h3⟩
  · rw [h1] at hNu ⊢
    dsimp only at hNu
    (refine .inl ⟨_, hNu, ?_⟩; ((conv=>whnf);repeat(refine .intro rfl ?_;conv=>whnf)))
    exact .tup _ _ (.cons _ _ _ _ (.agg _ _ (.cons _ _ _ _ (.none _) (.cons _ _ _ _ (.none _) (.cons _ _ _ _ (.none _) (.cons _ _ _ _ (.none _) (.cons _ _ _ _ (.none _) .nil)))))) (.cons _ _ _ _ (.refl _) .nil))
  rw [h1] at hNu ⊢
  rw [h2] at hMg
  dsimp only at hNu hMg ⊢
  have hs0 := pure_dints (pPut S [] []).2
  generalize (pPut S [] []).2 = s0 at *
  obtain ⟨hLg, hL9⟩ := hMg
  (refine .inl ⟨_, hNu, ?_⟩; ((conv=>whnf);repeat(refine .intro rfl ?_;conv=>whnf)))
  rw [List.length_map, List.length_map]
  (refine .inl ⟨by (unfold InR; rw [IntKind.wrap_i64]; omega), ?_⟩; ((conv=>whnf);repeat(refine .intro rfl ?_;conv=>whnf)))
  (refine ifK_split (fun q80 => ?_) (fun q80 => ?_) <;> (rw [q80]; ((conv=>whnf);repeat(refine .intro rfl ?_;conv=>whnf))))
  · have q80 : 80 < A.fair.length + B.fair.length := by ((try simp only[oo,reduceCtorEq]at*)<;>omega)
    rw [if_pos q80]
    exact .tup _ _ (.cons _ _ _ _ (.agg _ _ (.cons _ _ _ _ (.none _) (.cons _ _ _ _ (.none _) (.cons _ _ _ _ (.none _) (.cons _ _ _ _ (.none _) (.cons _ _ _ _ (.none _) .nil)))))) (.cons _ _ _ _ (.refl _) .nil))
  have q80 : ¬ 80 < A.fair.length + B.fair.length := by ((try simp only[oo,reduceCtorEq]at*)<;>omega)
  rw [if_neg q80]
  refine pwp_ghostB (leB_nilc 4 2 1 (by simp) rfl rfl) ?_
  refine pwp_ghostB (leB_nilc 4 3 1 (by simp) rfl rfl) ?_
  refine pwp_ghostB (leB_nilc 4 4 1 (by simp) rfl rfl) ?_
  refine pwp_forH [2, 3, 4, 7, 11] (fun k : Nat => [(12, .sc (.int .i64 k))]) (fun k => [.row false A.cells, .row false B.cells, .row true [nilV, nilV, nilV, nilV, nilV], .row false [.fn (.func 52) [] [.ipt A.cells, .ipt B.cells]], .row true [dints s0, dgrid T, .own 5 k 0 k, .own 6 k 0 k, .own 7 0 0 0], .vec true k 1 (u64s (orsAt A.must B.must L k)), .vec true k 1 (u64s (orsAt A.nots B.nots L k)), .vec true 0 1 []])
    (fun k => k ≤ L.length) (fun k => L.length - k) 0 ?_
  ((conv=>whnf);repeat(refine .intro rfl ?_;conv=>whnf))
  refine ⟨by omega, by (repeat' (first | exact trivial | refine And.intro rfl ?_)), rfl, ?_⟩
  rintro k hk
  ((conv=>whnf);repeat(refine .intro rfl ?_;conv=>whnf))
  (apply rd_sound; focus (repeat' constructor))
  ((conv=>whnf);repeat(refine .intro rfl ?_;conv=>whnf))
  rw [prows_len]
  (refine ifK_split (fun q0 => ?_) (fun q0 => ?_) <;> (rw [q0]; ((conv=>whnf);repeat(refine .intro rfl ?_;conv=>whnf))))
  · have q0 : k < L.length := by ((try simp only[oo,reduceCtorEq]at*)<;>omega)
    have hp := hLg _ (mem_getDP q0)
    have e1 := orsAt_succ (M := A.must) (N := B.must) q0
    have e2 := orsAt_succ (M := A.nots) (N := B.nots) q0
    have l1 := orsAt_len (M := A.must) (N := B.must) hk
    have l2 := orsAt_len (M := A.nots) (N := B.nots) hk
    have hat := prows_at (l := L) (k := k) rfl q0
    generalize L.getD k (0, 0) = p at *
    obtain ⟨⟨p1, p2⟩, p3, p4⟩ := hp
    refine ⟨by omega, _, hat, ?_⟩
    ((conv=>whnf);repeat(refine .intro rfl ?_;conv=>whnf))
    refine ⟨by omega, by omega, ?_⟩
    ((conv=>whnf);repeat(refine .intro rfl ?_;conv=>whnf))
    refine ⟨by omega, _, u64a_at (l := A.must) (k := p.1.toNat) (by omega) (by omega), ?_⟩
    ((conv=>whnf);repeat(refine .intro rfl ?_;conv=>whnf))
    refine ⟨by omega, _, hat, ?_⟩
    ((conv=>whnf);repeat(refine .intro rfl ?_;conv=>whnf))
    refine ⟨by omega, by omega, ?_⟩
    ((conv=>whnf);repeat(refine .intro rfl ?_;conv=>whnf))
    refine ⟨by omega, _, u64a_at (l := B.must) (k := p.2.toNat) (by omega) (by omega), ?_⟩
    ((conv=>whnf);repeat(refine .intro rfl ?_;conv=>whnf))
    refine ⟨(by unfold sliceAppend; simp only [ll]; omega), ?_⟩
    ((conv=>whnf);repeat(refine .intro rfl ?_;conv=>whnf))
    refine ⟨by omega, _, hat, ?_⟩
    ((conv=>whnf);repeat(refine .intro rfl ?_;conv=>whnf))
    refine ⟨by omega, by omega, ?_⟩
    ((conv=>whnf);repeat(refine .intro rfl ?_;conv=>whnf))
    refine ⟨by omega, _, u64a_at (l := A.nots) (k := p.1.toNat) (by omega) (by omega), ?_⟩
    ((conv=>whnf);repeat(refine .intro rfl ?_;conv=>whnf))
    refine ⟨by omega, _, hat, ?_⟩
    ((conv=>whnf);repeat(refine .intro rfl ?_;conv=>whnf))
    refine ⟨by omega, by omega, ?_⟩
    ((conv=>whnf);repeat(refine .intro rfl ?_;conv=>whnf))
    refine ⟨by omega, _, u64a_at (l := B.nots) (k := p.2.toNat) (by omega) (by omega), ?_⟩
    ((conv=>whnf);repeat(refine .intro rfl ?_;conv=>whnf))
    refine ⟨(by unfold sliceAppend; simp only [ll]; omega), ?_⟩
    ((conv=>whnf);repeat(refine .intro rfl ?_;conv=>whnf))
    (refine .inl ⟨by (unfold InR; rw [IntKind.wrap_i64]; omega), ?_⟩; ((conv=>whnf);repeat(refine .intro rfl ?_;conv=>whnf)))
    refine ⟨k + 1, by omega, by dsimp only; omega, ?_⟩
    dsimp only
    rw [e1, e2]
    (refine leB_close 8 (by simp) rfl ?_ ?_ <;> (repeat' (first | exact trivial | exact rfl | exact DeepM.refl _ | exact DeepML.refl _ | exact DeepMLL.refl _ | refine And.intro ?_ ?_ | (simp [Under, UnderL, UnderLL, -List.map_take, -List.map_drop]; done))))
    all_goals first | exact underL_pure _ hpu | exact underL_pure _ hpu' | exact deepMLL_eq (u64s_snoc _ _ l1) | exact deepMLL_eq (u64s_snoc _ _ l2) | exact under_pure _ hs0 | simp
  have q0 : k = L.length := by have : ¬ k < L.length := by ((try simp only[oo,reduceCtorEq]at*)<;>omega)
                               omega
  subst q0
  have l1 := orsAt_len (M := A.must) (N := B.must) (Nat.le_refl L.length)
  have l2 := orsAt_len (M := A.nots) (N := B.nots) (Nat.le_refl L.length)
  have hFl := FF_len A B L
  refine pwp_forH [2, 3, 4, 7, 11] (fun k : Nat => [(13, .sc (.int .i64 k))]) (fun k => [.row false A.cells, .row false B.cells, .row true [nilV, nilV, nilV, nilV, nilV], .row false [.fn (.func 52) [] [.ipt A.cells, .ipt B.cells]], .row true [dints s0, dgrid T, .own 5 L.length 0 L.length, .own 6 L.length 0 L.length, .own 7 k 0 k], .vec true L.length 1 (u64s (orsAt A.must B.must L L.length)), .vec true L.length 1 (u64s (orsAt A.nots B.nots L L.length)), .vec true k 1 (growsI ((FF A B L).take k))])
    (fun k => k ≤ A.fair.length + B.fair.length) (fun k => A.fair.length + B.fair.length - k) 0 ?_
  ((conv=>whnf);repeat(refine .intro rfl ?_;conv=>whnf))
  refine ⟨by omega, by (repeat' (first | exact trivial | refine And.intro rfl ?_)), rfl, ?_⟩
  rintro k hk
  ((conv=>whnf);repeat(refine .intro rfl ?_;conv=>whnf))
  (apply rd_sound; focus (repeat' constructor))
  ((conv=>whnf);repeat(refine .intro rfl ?_;conv=>whnf))
  rw [List.length_map, List.length_map]
  (refine .inl ⟨by (unfold InR; rw [IntKind.wrap_i64]; omega), ?_⟩; ((conv=>whnf);repeat(refine .intro rfl ?_;conv=>whnf)))
  (refine ifK_split (fun q0 => ?_) (fun q0 => ?_) <;> (rw [q0]; ((conv=>whnf);repeat(refine .intro rfl ?_;conv=>whnf))))
  · have q0 : k < A.fair.length + B.fair.length := by ((try simp only[oo,reduceCtorEq]at*)<;>omega)
    have eF := FF_succ (L := L) q0
    refine pwp_ghostB (leB_nil 14 1 (by simp) rfl) ?_
    refine pwp_forH [2, 3, 4, 7, 11, 13] (fun ((j, c) : Nat × Nat) => [(14, .own 8 c 0 c), (15, .sc (.int .i64 j))]) (fun (j, c) => [.row false A.cells, .row false B.cells, .row true [nilV, nilV, nilV, nilV, nilV], .row false [.fn (.func 52) [] [.ipt A.cells, .ipt B.cells]], .row true [dints s0, dgrid T, .own 5 L.length 0 L.length, .own 6 L.length 0 L.length, .own 7 k 0 k], .vec true L.length 1 (u64s (orsAt A.must B.must L L.length)), .vec true L.length 1 (u64s (orsAt A.nots B.nots L L.length)), .vec true k 1 (growsI ((FF A B L).take k)), .vec true c 1 (i64s (setJ A B L k j))])
      (fun (j, c) => j ≤ L.length ∧ (setJ A B L k j).length = c) (fun (j, c) => L.length - j) (0, 0) ?_
    ((conv=>whnf);repeat(refine .intro rfl ?_;conv=>whnf))
    refine ⟨⟨by omega, by rw [setJ_zero]; rfl⟩, by (repeat' (first | exact trivial | refine And.intro rfl ?_)), by dsimp only; rw [setJ_zero]; rfl, ?_⟩
    rintro ⟨j, c⟩ ⟨hj, hc⟩
    have hcl := setJ_len A B L k j
    ((conv=>whnf);repeat(refine .intro rfl ?_;conv=>whnf))
    (apply rd_sound; focus (repeat' constructor))
    ((conv=>whnf);repeat(refine .intro rfl ?_;conv=>whnf))
    rw [prows_len]
    (refine ifK_split (fun q1 => ?_) (fun q1 => ?_) <;> (rw [q1]; ((conv=>whnf);repeat(refine .intro rfl ?_;conv=>whnf))))
    · have q1 : j < L.length := by ((try simp only[oo,reduceCtorEq]at*)<;>omega)
      have hp := hLg _ (mem_getDP q1)
      have hat := prows_at (l := L) (k := j) rfl q1
      rw [List.length_map]
      (refine ifK_split (fun q2 => ?_) (fun q2 => ?_) <;> (rw [q2]; ((conv=>whnf);repeat(refine .intro rfl ?_;conv=>whnf))))
      · have q2 : k < A.fair.length := by ((try simp only[oo,reduceCtorEq]at*)<;>omega)
        have hgl := hFF.at k
        have eS : setJ A B L k (j + 1) = if setB (A.fair.getD k []) (L.getD j (0, 0)).1.toNat = true then setJ A B L k j ++ [(j : Int)] else setJ A B L k j := by
          unfold setJ; rw [if_pos q2, if_pos q2]; exact setsK_succ L (·.1) _ j
        generalize L.getD j (0, 0) = p at *
        obtain ⟨⟨p1, p2⟩, p3, p4⟩ := hp
        have hcon := contains_int (A.fair.getD k []) (by omega) p.1
        have hset : setB (A.fair.getD k []) p.1.toNat = (A.fair.getD k []).contains p.1 := by unfold setB; rw [Int.toNat_of_nonneg p1]
        refine ⟨by omega, _, gridD_at (g := A.fair) (k := k) (by omega) q2, ?_⟩
        ((conv=>whnf);repeat(refine .intro rfl ?_;conv=>whnf))
        refine ⟨by omega, _, hat, ?_⟩
        ((conv=>whnf);repeat(refine .intro rfl ?_;conv=>whnf))
        refine ⟨by omega, by omega, ?_⟩
        ((conv=>whnf);repeat(refine .intro rfl ?_;conv=>whnf))
        (refine .inl ⟨_, hcon, ?_⟩; ((conv=>whnf);repeat(refine .intro rfl ?_;conv=>whnf)))
        rw [← hset]
        cases r : setB (A.fair.getD k []) p.1.toNat
        · have no : setJ A B L k (j + 1) = setJ A B L k j := by rw [eS, r, if_neg (by decide)]
          ((conv=>whnf);repeat(refine .intro rfl ?_;conv=>whnf))
          rw [List.length_map]
          (refine ifK_split (fun q3 => ?_) (fun q3 => ?_) <;> (rw [q3]; ((conv=>whnf);repeat(refine .intro rfl ?_;conv=>whnf))))
          · exfalso; ((try simp only[oo,reduceCtorEq]at*)<;>omega)
          (refine .inl ⟨by (unfold InR; rw [IntKind.wrap_i64]; omega), ?_⟩; ((conv=>whnf);repeat(refine .intro rfl ?_;conv=>whnf)))
          refine ⟨(j + 1, c), ⟨by omega, by rw [no]; exact hc⟩, by dsimp only; omega, ?_⟩
          refine leB_envH (by (repeat' (first | exact trivial | refine And.intro rfl ?_))) ?_
          dsimp only
          rw [no]
        · have yes : setJ A B L k (j + 1) = setJ A B L k j ++ [(j : Int)] := by rw [eS, r, if_pos rfl]
          ((conv=>whnf);repeat(refine .intro rfl ?_;conv=>whnf))
          refine ⟨(by unfold sliceAppend; simp only [ll]; omega), ?_⟩
          ((conv=>whnf);repeat(refine .intro rfl ?_;conv=>whnf))
          (refine .inl ⟨by (unfold InR; rw [IntKind.wrap_i64]; omega), ?_⟩; ((conv=>whnf);repeat(refine .intro rfl ?_;conv=>whnf)))
          refine ⟨(j + 1, c + 1), ⟨by omega, by rw [yes, List.length_append, hc]; rfl⟩, by dsimp only; omega, ?_⟩
          dsimp only
          rw [yes]
          (refine leB_close 9 (by simp) rfl ?_ ?_ <;> (repeat' (first | exact trivial | exact rfl | exact DeepM.refl _ | exact DeepML.refl _ | exact DeepMLL.refl _ | refine And.intro ?_ ?_ | (simp [Under, UnderL, UnderLL, -List.map_take, -List.map_drop]; done))))
          all_goals first | exact underL_pure _ hpu | exact underL_pure _ hpu' | exact under_pure _ hs0 | exact deepMLL_eq (by rw [← hc, i64s_snoc]) | simp
      · have q2 : ¬ k < A.fair.length := by ((try simp only[oo,reduceCtorEq]at*)<;>omega)
        have hgl := hFF'.at (k - A.fair.length)
        have eS : setJ A B L k (j + 1) = if setB (B.fair.getD (k - A.fair.length) []) (L.getD j (0, 0)).2.toNat = true then setJ A B L k j ++ [(j : Int)] else setJ A B L k j := by
          unfold setJ; rw [if_neg q2, if_neg q2]; exact setsK_succ L (·.2) _ j
        generalize L.getD j (0, 0) = p at *
        obtain ⟨⟨p1, p2⟩, p3, p4⟩ := hp
        have hcon := contains_int (B.fair.getD (k - A.fair.length) []) (by omega) p.2
        have hset : setB (B.fair.getD (k - A.fair.length) []) p.2.toNat = (B.fair.getD (k - A.fair.length) []).contains p.2 := by unfold setB; rw [Int.toNat_of_nonneg p3]
        rw [List.length_map]
        (refine ifK_split (fun q3 => ?_) (fun q3 => ?_) <;> (rw [q3]; ((conv=>whnf);repeat(refine .intro rfl ?_;conv=>whnf))))
        · rw [List.length_map]
          (refine .inl ⟨by (unfold InR; rw [IntKind.wrap_i64]; omega), ?_⟩; ((conv=>whnf);repeat(refine .intro rfl ?_;conv=>whnf)))
          refine ⟨by omega, _, gridD_at (g := B.fair) (k := k - A.fair.length) (by omega) (by omega), ?_⟩
          ((conv=>whnf);repeat(refine .intro rfl ?_;conv=>whnf))
          refine ⟨by omega, _, hat, ?_⟩
          ((conv=>whnf);repeat(refine .intro rfl ?_;conv=>whnf))
          refine ⟨by omega, by omega, ?_⟩
          ((conv=>whnf);repeat(refine .intro rfl ?_;conv=>whnf))
          (refine .inl ⟨_, hcon, ?_⟩; ((conv=>whnf);repeat(refine .intro rfl ?_;conv=>whnf)))
          rw [← hset]
          cases r : setB (B.fair.getD (k - A.fair.length) []) p.2.toNat
          · have no : setJ A B L k (j + 1) = setJ A B L k j := by rw [eS, r, if_neg (by decide)]
            ((conv=>whnf);repeat(refine .intro rfl ?_;conv=>whnf))
            (refine .inl ⟨by (unfold InR; rw [IntKind.wrap_i64]; omega), ?_⟩; ((conv=>whnf);repeat(refine .intro rfl ?_;conv=>whnf)))
            refine ⟨(j + 1, c), ⟨by omega, by rw [no]; exact hc⟩, by dsimp only; omega, ?_⟩
            refine leB_envH (by (repeat' (first | exact trivial | refine And.intro rfl ?_))) ?_
            dsimp only
            rw [no]
          · have yes : setJ A B L k (j + 1) = setJ A B L k j ++ [(j : Int)] := by rw [eS, r, if_pos rfl]
            ((conv=>whnf);repeat(refine .intro rfl ?_;conv=>whnf))
            refine ⟨(by unfold sliceAppend; simp only [ll]; omega), ?_⟩
            ((conv=>whnf);repeat(refine .intro rfl ?_;conv=>whnf))
            (refine .inl ⟨by (unfold InR; rw [IntKind.wrap_i64]; omega), ?_⟩; ((conv=>whnf);repeat(refine .intro rfl ?_;conv=>whnf)))
            refine ⟨(j + 1, c + 1), ⟨by omega, by rw [yes, List.length_append, hc]; rfl⟩, by dsimp only; omega, ?_⟩
            dsimp only
            rw [yes]
            (refine leB_close 9 (by simp) rfl ?_ ?_ <;> (repeat' (first | exact trivial | exact rfl | exact DeepM.refl _ | exact DeepML.refl _ | exact DeepMLL.refl _ | refine And.intro ?_ ?_ | (simp [Under, UnderL, UnderLL, -List.map_take, -List.map_drop]; done))))
            all_goals first | exact underL_pure _ hpu | exact underL_pure _ hpu' | exact under_pure _ hs0 | exact deepMLL_eq (by rw [← hc, i64s_snoc]) | simp
        · exfalso; ((try simp only[oo,reduceCtorEq]at*)<;>omega)
    · have q1 : j = L.length := by have : ¬ j < L.length := by ((try simp only[oo,reduceCtorEq]at*)<;>omega)
                                   omega
      subst q1
      have hkl : ((FF A B L).take k).length = k := by rw [List.length_take]; omega
      refine ⟨(by unfold sliceAppend; simp only [ll]; omega), ?_⟩
      ((conv=>whnf);repeat(refine .intro rfl ?_;conv=>whnf))
      (refine .inl ⟨by (unfold InR; rw [IntKind.wrap_i64]; omega), ?_⟩; ((conv=>whnf);repeat(refine .intro rfl ?_;conv=>whnf)))
      refine ⟨k + 1, by omega, by dsimp only; omega, ?_⟩
      dsimp only
      rw [eF]
      (refine leB_close 8 (by simp) rfl ?_ ?_ <;> (repeat' (first | exact trivial | exact rfl | exact DeepM.refl _ | exact DeepML.refl _ | exact DeepMLL.refl _ | refine And.intro ?_ ?_ | (simp [Under, UnderL, UnderLL, -List.map_take, -List.map_drop]; done))))
      all_goals first | exact underL_pure _ hpu | exact underL_pure _ hpu' | exact under_pure _ hs0 | simp | skip
      rw [show growsI ((FF A B L).take k ++ [setJ A B L k L.length]) = growsI ((FF A B L).take k) ++ [[dints (setJ A B L k L.length)]] by simp [growsI]]
      exact .append _ _ _ _ (deepMLL_eq (drop_take_all (by rw [growsI_len]; omega))) (.cons _ _ _ _ (.cons _ _ _ _ (.own _ _ _ _ _ _ _ _ rfl rfl (deepMLL_eq (drop_take_all (by simp [i64s]; omega)))) (.refl _)) (.refl _))
  · have q0 : k = A.fair.length + B.fair.length := by have : ¬ k < A.fair.length + B.fair.length := by ((try simp only[oo,reduceCtorEq]at*)<;>omega)
                                                      omega
    subst q0
    rw [← hFl, List.take_length]
    exact .tup _ _ (.cons _ _ _ _ (.agg _ _ (.cons _ _ _ _ (.refl _) (.cons _ _ _ _ (.refl _) (.cons _ _ _ _ (.own _ _ _ _ _ _ _ _ rfl (by rw [drop_take_all (by simp [l1])]; exact deepLL_refl _)) (.cons _ _ _ _ (.own _ _ _ _ _ _ _ _ rfl (by rw [drop_take_all (by simp [l2])]; exact deepLL_refl _)) (.cons _ _ _ _ (.own _ _ _ _ _ _ _ _ rfl (by rw [drop_take_all (by simp)]; exact deepLL_refl _)) .nil)))))) (.cons _ _ _ _ (.refl _) .nil))
end

end Go.Proofs.Ytfaekhadjlgbbaa
