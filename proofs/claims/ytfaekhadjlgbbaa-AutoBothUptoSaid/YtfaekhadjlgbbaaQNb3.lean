/-
  Pairs by their numbers: the reference's once, numbered, over deep values. No statement is proved here.
-/
import Derived.Test.YtfaekhadjlgbbaaQNb2
import Derived.Test.YtfaekhadjlgbbaaQFz
namespace Go.Proofs.Ytfaekhadjlgbbaa
open Go.RowKit
set_option linter.unusedSimpArgs false
set_option linter.unusedVariables false
def onceL (l : List Int) : List Int := l.foldl onceA []
theorem onceL_snoc {l : List Int} {k : Nat} (h : k < l.length) : onceL (l.take (k + 1)) = onceA (onceL (l.take k)) (l.getD k 0) := by
  unfold onceL
  rw [List.take_add_one, List.getElem?_eq_getElem h, List.getD_eq_getElem?_getD, List.getElem?_eq_getElem h, Option.toList_some, List.foldl_append]
  rfl
theorem onceL_len (l : List Int) (k : Nat) (hk : k ≤ l.length) : (onceL (l.take k)).length ≤ k := by
  induction k with
  | zero => simp [onceL]
  | succ k ih =>
    rw [onceL_snoc (by omega)]
    have := onceA_len (onceL (l.take k)) (l.getD k 0)
    have := ih (by omega)
    omega
def c100_1 : PC := .seq (.seq (.ops [⟨some 5,.move (.tmp 4),none,0⟩,
 ⟨some 6,.move (.tmp 0),none,0⟩,
 ⟨some 7,.len (.tmp 6),none,0⟩,
 ⟨some 8,.bin .lss (.tmp 5) (.tmp 7),none,0⟩] false) (.cond (.tmp 8) (.skip) (.exit 0))) (.seq (.block 1 (.seq (.ops [⟨some 11,.move (.tmp 3),none,0⟩,
 ⟨some 12,.move (.tmp 0),none,0⟩,
 ⟨some 13,.move (.tmp 4),none,0⟩,
 ⟨some 14,.iaddr 1 (.tmp 12) (.tmp 13),none,0⟩,
 ⟨some 15,.load1 (.tmp 14),none,0⟩,
 ⟨some 16,.call 46 [(.tmp 11), (.tmp 15)],none,0⟩,
 ⟨some 17,.un .not (.tmp 16),none,0⟩] false) (.cond (.tmp 17) (.ops [⟨some 18,.move (.tmp 3),none,0⟩,
 ⟨some 19,.move (.tmp 0),none,0⟩,
 ⟨some 20,.move (.tmp 4),none,0⟩,
 ⟨some 21,.iaddr 1 (.tmp 19) (.tmp 20),none,0⟩,
 ⟨some 22,.load1 (.tmp 21),none,0⟩,
 ⟨some 23,.bslice 1 1 [(.tmp 22)],none,0⟩,
 ⟨some 24,.append 1 8 (.tmp 18) (.tmp 23),none,0⟩,
 ⟨some 3,.move (.tmp 24),none,0⟩] false) (.skip)))) (.ops [⟨some 9,.move (.tmp 4),none,0⟩,
 ⟨some 10,.bin .add (.tmp 9) (.const (.int .i64 1)),none,0⟩,
 ⟨some 4,.move (.tmp 10),none,0⟩] false))
def c100 : PC := .seq (.ops [⟨some 2,.move (.const (.slice none 0 0)),none,0⟩] false) (.seq (.ops [⟨some 3,.move (.const (.slice none 0 0)),none,0⟩] false) (.seq (.seq (.ops [⟨some 4,.move (.const (.int .i64 0)),none,0⟩] false) (.block 0 (.loop c100_1))) (.seq (.ops [⟨some 25,.move (.tmp 3),none,0⟩,
 ⟨some 2,.move (.tmp 25),none,0⟩] false) (.ret))))
set_option maxRecDepth 100000 in
theorem c100_ok : FunOK Try.prog 100 26 [.tmp 2] c100 := ⟨⟨Try.f100, Try.func100, rfl, by kernel_rfl, rfl, by kernel_rfl⟩⟩
theorem ref_once (l : List Int) (hl : l.length ≤ 4000000000000) : PCall Try.prog 100 [dints l] (dints (onceL l)) := by
  refine pcall_intro c100_ok (by simp) (by simp [PureL, pure_dints]) ?_ (pure_dints _)
  (apply rd_sound; focus (repeat' constructor))
  ((conv=>whnf);repeat(refine .intro rfl ?_;conv=>whnf))
  refine pwp_ghostB (leB_nil 3 1 (by simp) rfl) ?_
  refine pwp_for [0] (fun ((k, c) : Nat × Nat) => [(3, .own 0 c 0 c), (4, .sc (.int .i64 k))]) (fun (k, c) => [(0, .vec true c 1 (i64s (onceL (l.take k))))]) (fun (k, c) => k ≤ l.length ∧ (onceL (l.take k)).length = c) (fun (k, c) => l.length - k) (0, 0) ?_
  ((conv=>whnf);repeat(refine .intro rfl ?_;conv=>whnf))
  refine ⟨⟨by omega, by simp [onceL]⟩, by (repeat' (first | exact trivial | refine And.intro rfl ?_)), rfl, ?_⟩
  rintro ⟨k, c⟩ ⟨hk, hc⟩
  have hcl := onceL_len l k hk
  ((conv=>whnf);repeat(refine .intro rfl ?_;conv=>whnf))
  (apply rd_sound; focus (repeat' constructor))
  ((conv=>whnf);repeat(refine .intro rfl ?_;conv=>whnf))
  rw [List.length_map]
  (refine ifK_split (fun q0 => ?_) (fun q0 => ?_) <;> (rw [q0]; ((conv=>whnf);repeat(refine .intro rfl ?_;conv=>whnf))))
  · have q0 : k < l.length := by ((try simp only[oo,reduceCtorEq]at*)<;>omega)
    have eS := onceL_snoc q0
    refine ⟨by omega, _, intsD_at (l := l) (k := k) (by omega) q0, ?_⟩
    ((conv=>whnf);repeat(refine .intro rfl ?_;conv=>whnf))
    have hcon : PCall Try.prog 46 [.lst 1 (List.drop 0 (List.take c (i64s (onceL (l.take k))))), .sc (.int .i64 (l.getD k 0))] (.sc (.bool ((onceL (l.take k)).contains (l.getD k 0)))) := by
      rw [drop_take_all (by simp [i64s]; omega)]
      exact contains_int _ (by omega) _
    have eO : onceA (onceL (l.take k)) (l.getD k 0) = if (onceL (l.take k)).contains (l.getD k 0) = true then onceL (l.take k) else onceL (l.take k) ++ [l.getD k 0] := by
      unfold onceA
      by_cases q : l.getD k 0 ∈ onceL (l.take k)
      · rw [if_pos q, if_pos (List.contains_iff_mem.2 q)]
      · rw [if_neg q, if_neg fun z => q (List.contains_iff_mem.1 z)]
    (refine .inr (.inl ⟨_, _, (by (repeat' (first | exact Deep.refl _ | exact Deep.none _ | exact deep_row _ | exact DeepL.nil | exact DeepLL.nil | refine Deep.agg _ _ ?_ | refine Deep.tup _ _ ?_ | refine Deep.own _ _ _ _ _ _ _ _ rfl ?_ | refine Deep.loc _ _ _ _ _ rfl ?_ | refine Deep.ifc _ _ _ ?_ | refine Deep.fn _ _ _ _ _ ?_ ?_ | refine DeepL.cons _ _ _ _ ?_ ?_ | refine DeepLL.cons _ _ _ _ ?_ ?_ | exact deepLL_refl _))), hcon, rfl, ?_⟩); ((conv=>whnf);repeat(refine .intro rfl ?_;conv=>whnf)))
    cases r : (onceL (l.take k)).contains (l.getD k 0)
    · rw [r, if_neg (by decide)] at eO
      ((conv=>whnf);repeat(refine .intro rfl ?_;conv=>whnf))
      refine ⟨by omega, _, intsD_at (l := l) (k := k) (by omega) q0, ?_⟩
      ((conv=>whnf);repeat(refine .intro rfl ?_;conv=>whnf))
      refine ⟨(by unfold sliceAppend; simp only [ll]; omega), ?_⟩
      ((conv=>whnf);repeat(refine .intro rfl ?_;conv=>whnf))
      (refine .inl ⟨by (unfold InR; rw [IntKind.wrap_i64]; omega), ?_⟩; ((conv=>whnf);repeat(refine .intro rfl ?_;conv=>whnf)))
      refine ⟨(k + 1, c + 1), ⟨by omega, by rw [eS, eO]; simp [hc]⟩, by dsimp only; omega, ?_⟩
      dsimp only
      rw [eS, eO]
      (refine leB_close 1 (by simp) rfl ?_ ?_ <;> (repeat' (first | exact trivial | exact rfl | exact DeepM.refl _ | exact DeepML.refl _ | exact DeepMLL.refl _ | refine And.intro ?_ ?_ | (simp [Under, UnderL, UnderLL, -List.map_take, -List.map_drop]; done))))
      exact deepMLL_eq (by rw [← hc, i64s_snoc])
    · rw [r, if_pos rfl] at eO
      ((conv=>whnf);repeat(refine .intro rfl ?_;conv=>whnf))
      (refine .inl ⟨by (unfold InR; rw [IntKind.wrap_i64]; omega), ?_⟩; ((conv=>whnf);repeat(refine .intro rfl ?_;conv=>whnf)))
      refine ⟨(k + 1, c), ⟨by omega, by rw [eS, eO]; exact hc⟩, by dsimp only; omega, leB_envH (by (repeat' (first | exact trivial | refine And.intro rfl ?_))) ?_⟩
      dsimp only
      rw [eS, eO]
      rfl
  · have q0 : k = l.length := by have : ¬ k < l.length := by ((try simp only[oo,reduceCtorEq]at*)<;>omega)
                                 omega
    subst q0
    rw [List.take_length] at *
    exact .own _ _ _ _ _ _ _ _ rfl (by rw [drop_take_all (by simp [i64s]; omega)]; exact deepLL_refl _)
def atP (L : List Pr) (p : Pr) : Int := if p ∈ L then (idxP L p : Int) else -1
theorem idxP_first {L : List Pr} {p : Pr} {k : Nat} (hk : k < L.length) (h : L.getD k (0, 0) = p) (no : ∀ j, j < k → L.getD j (0, 0) ≠ p) : atP L p = k := by
  have hm : p ∈ L := h ▸ mem_getDP hk
  obtain ⟨h1, h2⟩ := idxP_spec hm
  unfold atP
  rw [if_pos hm]
  have hle : idxP L p ≤ k := by
    rcases Nat.lt_or_ge k (idxP L p) with q | q
    · exfalso
      unfold idxP at q
      have := List.not_of_lt_findIdx (p := fun x => x == p) (xs := L) (i := k) (by unfold List.idxOf at q; exact q)
      rw [List.getD_eq_getElem?_getD, List.getElem?_eq_getElem hk] at h
      simp at h this
      exact this h
    · exact q
  rcases Nat.lt_or_ge (idxP L p) k with q | q
  · exact absurd h2 (no _ q)
  · congr 1; omega
def c99_1 : PC := .seq (.ops [⟨some 9,.bin .lss (.tmp 8) (.tmp 7),none,0⟩] false) (.seq (.cond (.tmp 9) (.skip) (.exit 0)) (.seq (.block 1 (.seq (.ops [⟨some 10,.move (.tmp 8),none,0⟩,
 ⟨some 5,.move (.tmp 10),none,0⟩] false) (.seq (.ops [⟨some 11,.loadA 2 (.tmp 3),none,0⟩,
 ⟨some 12,.move (.tmp 0),none,0⟩,
 ⟨some 13,.move (.tmp 5),none,0⟩,
 ⟨some 14,.iaddr 2 (.tmp 12) (.tmp 13),none,6⟩,
 ⟨some 15,.loadA 2 (.tmp 14),none,14⟩,
 ⟨some 16,.eqa false [0, 0] (.tmp 11) (.tmp 15),none,31⟩] true) (.cond (.tmp 16) (.seq (.ops [⟨some 17,.move (.tmp 5),none,0⟩,
 ⟨some 4,.move (.tmp 17),none,0⟩] false) (.ret)) (.skip))))) (.ops [⟨some 18,.bin .add (.tmp 8) (.const (.int .i64 1)),none,0⟩,
 ⟨some 8,.move (.tmp 18),none,0⟩] false)))
def c99 : PC := .seq (.ops [⟨some 3,.box (.tmp 1),none,0⟩,
 ⟨some 4,.move (.const (.int .i64 0)),none,0⟩] false) (.seq (.seq (.ops [⟨some 6,.move (.tmp 0),none,0⟩,
 ⟨some 7,.len (.tmp 6),none,0⟩,
 ⟨some 8,.move (.const (.int .i64 0)),none,0⟩] false) (.block 0 (.loop c99_1))) (.seq (.ops [⟨some 4,.move (.const (.int .i64 (-1))),none,0⟩] false) (.ret)))
set_option maxRecDepth 100000 in
theorem c99_ok : FunOK Try.prog 99 19 [.tmp 4] c99 := ⟨⟨Try.f99, Try.func99, rfl, by kernel_rfl, rfl, by kernel_rfl⟩⟩
theorem index_pair (L : List Pr) (hL : L.length ≤ 4000000000000) (p : Pr) : PCall Try.prog 99 [dpairs L, .agg (dpair p.1 p.2)] (.sc (.int .i64 (atP L p))) := by
  refine pcall_intro c99_ok (by simp) (by simp [PureL, Pure, pure_dpairs, dpair]) ?_ (by simp [Pure])
  unfold dpairs dpair
  (apply rd_sound; focus (repeat' constructor))
  ((conv=>whnf);repeat(refine .intro rfl ?_;conv=>whnf))
  rw [prows_len]
  have fin : ∀ {H : List AObj} {z : Int}, z = atP L p → Deep H (.sc (.int .i64 z)) (.sc (.int .i64 (atP L p))) := fun h => h ▸ .refl _
  refine pwp_for [0, 3, 7] (fun k : Nat => [(8, .sc (.int .i64 k))]) (fun _ => []) (fun k => k ≤ L.length ∧ ∀ j, j < k → L.getD j (0, 0) ≠ p) (fun k => L.length - k) 0 ?_
  ((conv=>whnf);repeat(refine .intro rfl ?_;conv=>whnf))
  refine ⟨⟨by omega, fun j hj => by omega⟩, by (repeat' (first | exact trivial | refine And.intro rfl ?_)), rfl, ?_⟩
  rintro k ⟨hk, hall⟩
  ((conv=>whnf);repeat(refine .intro rfl ?_;conv=>whnf))
  (apply rd_sound; focus (repeat' constructor))
  ((conv=>whnf);repeat(refine .intro rfl ?_;conv=>whnf))
  (refine ifK_split (fun q0 => ?_) (fun q0 => ?_) <;> (rw [q0]; ((conv=>whnf);repeat(refine .intro rfl ?_;conv=>whnf))))
  · have q0 : k < L.length := by ((try simp only[oo,reduceCtorEq]at*)<;>omega)
    refine ⟨by omega, _, prows_at (k := k) (by omega) q0, ?_⟩
    ((conv=>whnf);repeat(refine .intro rfl ?_;conv=>whnf))
    by_cases e : L.getD k (0, 0) = p
    · rw [show flipB false (p.fst == (L.getD k (0, 0)).fst && (p.snd == (L.getD k (0, 0)).snd && true)) = true by rw [e]; simp [flipB]]
      ((conv=>whnf);repeat(refine .intro rfl ?_;conv=>whnf))
      exact fin (idxP_first q0 e hall).symm
    · rw [show flipB false (p.fst == (L.getD k (0, 0)).fst && (p.snd == (L.getD k (0, 0)).snd && true)) = false by
        simp only [flipB, Bool.and_true, Bool.and_eq_false_iff, beq_eq_false_iff_ne]
        rcases Decidable.em (p.fst = (L.getD k (0, 0)).fst) with h | h
        · exact .inr fun h2 => e (Prod.ext h.symm h2.symm)
        · exact .inl h]
      ((conv=>whnf);repeat(refine .intro rfl ?_;conv=>whnf))
      (refine .inl ⟨by (unfold InR; rw [IntKind.wrap_i64]; omega), ?_⟩; ((conv=>whnf);repeat(refine .intro rfl ?_;conv=>whnf)))
      refine ⟨k + 1, ⟨by omega, fun j hj => ?_⟩, by dsimp only; omega, leB_envH (by (repeat' (first | exact trivial | refine And.intro rfl ?_))) rfl⟩
      by_cases e2 : j = k
      · subst e2; exact e
      · exact hall j (by omega)
  · have q0 : k = L.length := by have : ¬ k < L.length := by ((try simp only[oo,reduceCtorEq]at*)<;>omega)
                                 omega
    subst q0
    refine fin ?_
    unfold atP
    rw [if_neg]
    intro h
    obtain ⟨h1, h2⟩ := idxP_spec h
    exact hall _ h1 h2
/-- All pairs added; the number of each. -/
def addAll (ps L : List Pr) : List Pr := ps.foldl addP L
def idxs : List Pr → List Pr → List Int
  | [], _ => []
  | p :: r, L => (idxP (addP L p) p : Int) :: idxs r (addP L p)
theorem pPut_eq : ∀ (ps L : List Pr) (l : List Int), pPut ps L l = (addAll ps L, (idxs ps L).foldl onceA l)
  | [], _, _ => rfl
  | p :: r, L, l => by
    rw [pPut, pPut_eq r]
    rfl
theorem pPut_len (ps L : List Pr) (l : List Int) : L.length ≤ (pPut ps L l).1.length ∧ (pPut ps L l).1.length ≤ L.length + ps.length := by
  refine ⟨pPut_mono ps L l, ?_⟩
  induction ps generalizing L l with
  | nil => exact Nat.le_refl _
  | cons p r ih =>
    rw [pPut]
    have := ih (addP L p) (onceA l (idxP (addP L p) p))
    have := addP_len L p
    simp
    omega
theorem idxs_len : ∀ (ps L : List Pr), (idxs ps L).length = ps.length
  | [], _ => rfl
  | p :: r, L => by simp [idxs, idxs_len r]
def c98_1 : PC := .seq (.seq (.ops [⟨some 7,.move (.tmp 5),none,0⟩,
 ⟨some 8,.move (.tmp 0),none,0⟩,
 ⟨some 9,.len (.tmp 8),none,0⟩,
 ⟨some 10,.bin .lss (.tmp 7) (.tmp 9),none,0⟩] false) (.cond (.tmp 10) (.skip) (.exit 0))) (.seq (.block 1 (.seq (.ops [⟨some 13,.load1 (.tmp 1),none,0⟩,
 ⟨some 14,.move (.tmp 0),none,0⟩,
 ⟨some 15,.move (.tmp 5),none,0⟩,
 ⟨some 16,.iaddr 2 (.tmp 14) (.tmp 15),none,6⟩,
 ⟨some 17,.loadA 2 (.tmp 16),none,14⟩,
 ⟨some 18,.call 99 [(.tmp 13), (.tmp 17)],none,31⟩,
 ⟨some 6,.move (.tmp 18),none,63⟩] true) (.seq (.seq (.ops [⟨some 19,.move (.tmp 6),none,0⟩,
 ⟨some 20,.bin .lss (.tmp 19) (.const (.int .i64 0)),none,0⟩] false) (.cond (.tmp 20) (.seq (.ops [⟨some 21,.load1 (.tmp 1),none,0⟩,
 ⟨some 22,.len (.tmp 21),none,0⟩,
 ⟨some 6,.move (.tmp 22),none,0⟩] false) (.ops [⟨some 23,.load1 (.tmp 1),none,0⟩,
 ⟨some 24,.move (.tmp 0),none,0⟩,
 ⟨some 25,.move (.tmp 5),none,0⟩,
 ⟨some 26,.iaddr 2 (.tmp 24) (.tmp 25),none,6⟩,
 ⟨some 27,.loadA 2 (.tmp 26),none,14⟩,
 ⟨some 28,.bslice 2 1 [(.tmp 27)],none,30⟩,
 ⟨some 29,.append 2 16 (.tmp 23) (.tmp 28),none,63⟩,
 ⟨none,.store 1 (.tmp 1) (.tmp 29),none,127⟩] true)) (.skip))) (.ops [⟨some 30,.move (.tmp 4),none,0⟩,
 ⟨some 31,.move (.tmp 6),none,0⟩,
 ⟨some 32,.bslice 1 1 [(.tmp 31)],none,0⟩,
 ⟨some 33,.append 1 8 (.tmp 30) (.tmp 32),none,0⟩,
 ⟨some 4,.move (.tmp 33),none,0⟩] false)))) (.ops [⟨some 11,.move (.tmp 5),none,0⟩,
 ⟨some 12,.bin .add (.tmp 11) (.const (.int .i64 1)),none,0⟩,
 ⟨some 5,.move (.tmp 12),none,0⟩] false))
def c98 : PC := .seq (.ops [⟨some 3,.move (.const (.slice none 0 0)),none,0⟩] false) (.seq (.ops [⟨some 4,.move (.const (.slice none 0 0)),none,0⟩] false) (.seq (.seq (.ops [⟨some 5,.move (.const (.int .i64 0)),none,0⟩] false) (.block 0 (.loop c98_1))) (.seq (.ops [⟨some 34,.move (.tmp 4),none,0⟩,
 ⟨some 35,.call 100 [(.tmp 34)],none,0⟩,
 ⟨some 3,.move (.tmp 35),none,0⟩] false) (.ret))))
set_option maxRecDepth 100000 in
theorem c98_ok : FunOK Try.prog 98 36 [.tmp 3] c98 := ⟨⟨Try.f98, Try.func98, rfl, by kernel_rfl, rfl, by kernel_rfl⟩⟩
def nheap (L : List Pr) : List AObj := [.row true [.own 1 L.length 0 L.length], .vec true L.length 2 (prows L)]
theorem under_nheap {L : List Pr} {m : Nat} (hm : 2 ≤ m) : ∀ o ∈ nheap L, o.under m := by
  intro o ho
  simp only [nheap, List.mem_cons, List.not_mem_nil, or_false] at ho
  rcases ho with rfl | rfl <;> simp [AObj.under, UnderL, Under] <;> omega
set_option maxRecDepth 100000 in
theorem ref_num (ps : List Pr) (hpl : ps.length ≤ 2000000000000) (L : List Pr) (hL : L.length ≤ 2000000000000) :
    ACall Try.prog 98 [dpairs ps, .loc 0 0] (nheap L) (dints (pPut ps L []).2) (nheap (pPut ps L []).1) := by
  rw [pPut_eq]
  show ACall _ _ _ _ (dints (onceL (idxs ps L))) (nheap (addAll ps L))
  refine acall_introD c98_ok (by simp) (by simp [nheap]) ?_ (under_pure _ (pure_dints _))
  generalize hI : idxs ps L = I
  generalize hR : addAll ps L = R
  have hIl : I.length = ps.length := by rw [← hI, idxs_len]
  unfold nheap dpairs
  (apply rd_sound; focus (repeat' constructor))
  ((conv=>whnf);repeat(refine .intro rfl ?_;conv=>whnf))
  refine pwp_ghostB (leB_nil 4 1 (by simp) rfl) ?_
  refine pwp_forH [0, 1] (fun ((k, M, l) : Nat × List Pr × List Int) => [(4, .own 2 l.length 0 l.length), (5, .sc (.int .i64 k))]) (fun (k, M, l) => nheap M ++ [.vec true l.length 1 (i64s l)])
    (fun (k, M, l) => k ≤ ps.length ∧ M.length ≤ L.length + k ∧ l.length = k ∧ addAll (ps.drop k) M = R ∧ l ++ idxs (ps.drop k) M = I) (fun (k, M, l) => ps.length - k) (0, L, []) ?_
  ((conv=>whnf);repeat(refine .intro rfl ?_;conv=>whnf))
  refine ⟨⟨by omega, by omega, rfl, hR, hI⟩, by (repeat' (first | exact trivial | refine And.intro rfl ?_)), rfl, ?_⟩
  rintro ⟨k, M, l⟩ ⟨hk, hMl, hlk, hF1, hF2⟩
  unfold nheap
  ((conv=>whnf);repeat(refine .intro rfl ?_;conv=>whnf))
  (apply rd_sound; focus (repeat' constructor))
  ((conv=>whnf);repeat(refine .intro rfl ?_;conv=>whnf))
  rw [prows_len]
  (refine ifK_split (fun q0 => ?_) (fun q0 => ?_) <;> (rw [q0]; ((conv=>whnf);repeat(refine .intro rfl ?_;conv=>whnf))))
  · have q0 : k < ps.length := by ((try simp only[oo,reduceCtorEq]at*)<;>omega)
    rw [drop_consP q0] at hF1 hF2
    refine ⟨by omega, _, prows_at (k := k) (by omega) q0, ?_⟩
    ((conv=>whnf);repeat(refine .intro rfl ?_;conv=>whnf))
    have hcon : PCall Try.prog 99 [.lst 2 (List.drop 0 (List.take M.length (prows M))), .agg (dpair (ps.getD k (0, 0)).1 (ps.getD k (0, 0)).2)] (.sc (.int .i64 (atP M (ps.getD k (0, 0))))) := by
      rw [drop_take_all (by simp)]
      exact index_pair M (by omega) _
    (refine .inr (.inl ⟨_, _, (by (repeat' (first | exact Deep.refl _ | exact Deep.none _ | exact deep_row _ | exact DeepL.nil | exact DeepLL.nil | refine Deep.agg _ _ ?_ | refine Deep.tup _ _ ?_ | refine Deep.own _ _ _ _ _ _ _ _ rfl ?_ | refine Deep.loc _ _ _ _ _ rfl ?_ | refine Deep.ifc _ _ _ ?_ | refine Deep.fn _ _ _ _ _ ?_ ?_ | refine DeepL.cons _ _ _ _ ?_ ?_ | refine DeepLL.cons _ _ _ _ ?_ ?_ | exact deepLL_refl _))), hcon, rfl, ?_⟩); ((conv=>whnf);repeat(refine .intro rfl ?_;conv=>whnf)))
    clear hcon
    by_cases hm : ps.getD k (0, 0) ∈ M
    · have eA : addP M (ps.getD k (0, 0)) = M := if_pos hm
      have e1 : atP M (ps.getD k (0, 0)) = (idxP M (ps.getD k (0, 0)) : Int) := if_pos hm
      rw [e1, show decide ((idxP M (ps.getD k (0, 0)) : Int) < 0) = false by rw [decide_eq_false_iff_not]; omega]
      simp only [idxs, addAll, List.foldl_cons, eA] at hF1 hF2
      ((conv=>whnf);repeat(refine .intro rfl ?_;conv=>whnf))
      refine ⟨(by unfold sliceAppend; simp only [ll]; omega), ?_⟩
      ((conv=>whnf);repeat(refine .intro rfl ?_;conv=>whnf))
      (refine .inl ⟨by (unfold InR; rw [IntKind.wrap_i64]; omega), ?_⟩; ((conv=>whnf);repeat(refine .intro rfl ?_;conv=>whnf)))
      refine ⟨(k + 1, M, l ++ [(idxP M (ps.getD k (0, 0)) : Int)]), ⟨by omega, by omega, by simp [hlk], hF1, by rw [List.append_assoc]; exact hF2⟩, by dsimp only; omega, ?_⟩
      dsimp only
      rw [show (l ++ [(idxP M (ps.getD k (0, 0)) : Int)]).length = l.length + 1 by simp]
      (refine leB_close 3 (by simp) rfl ?_ ?_ <;> (repeat' (first | exact trivial | exact rfl | exact DeepM.refl _ | exact DeepML.refl _ | exact DeepMLL.refl _ | refine And.intro ?_ ?_ | (simp [Under, UnderL, UnderLL, -List.map_take, -List.map_drop]; done))))
      exact deepMLL_eq (i64s_snoc _ _)
    · have eA : addP M (ps.getD k (0, 0)) = M ++ [ps.getD k (0, 0)] := if_neg hm
      have eI : idxP (addP M (ps.getD k (0, 0))) (ps.getD k (0, 0)) = M.length := by rw [idx_addP, if_neg hm]
      have e1 : atP M (ps.getD k (0, 0)) = -1 := if_neg hm
      rw [e1, show decide ((-1 : Int) < 0) = true from rfl]
      simp only [idxs, addAll, List.foldl_cons, eI] at hF1 hF2
      rw [eA] at hF1 hF2
      ((conv=>whnf);repeat(refine .intro rfl ?_;conv=>whnf))
      refine ⟨by omega, _, prows_at (k := k) (by omega) q0, ?_⟩
      ((conv=>whnf);repeat(refine .intro rfl ?_;conv=>whnf))
      refine ⟨(by unfold sliceAppend; simp only [ll]; omega), ?_⟩
      ((conv=>whnf);repeat(refine .intro rfl ?_;conv=>whnf))
      refine ⟨(by unfold sliceAppend; simp only [ll]; omega), ?_⟩
      ((conv=>whnf);repeat(refine .intro rfl ?_;conv=>whnf))
      (refine .inl ⟨by (unfold InR; rw [IntKind.wrap_i64]; omega), ?_⟩; ((conv=>whnf);repeat(refine .intro rfl ?_;conv=>whnf)))
      generalize ps.getD k (0, 0) = p at *
      refine ⟨(k + 1, M ++ [p], l ++ [(M.length : Int)]), ⟨by omega, by simp; omega, by simp [hlk], hF1, by rw [List.append_assoc]; exact hF2⟩, by dsimp only; omega, ?_⟩
      dsimp only
      rw [show (l ++ [(M.length : Int)]).length = l.length + 1 by simp, show (M ++ [p]).length = M.length + 1 by simp]
      (refine leB_close 3 (by simp) rfl ?_ ?_ <;> (repeat' (first | exact trivial | exact rfl | exact DeepM.refl _ | exact DeepML.refl _ | exact DeepMLL.refl _ | refine And.intro ?_ ?_ | (simp [Under, UnderL, UnderLL, -List.map_take, -List.map_drop]; done))))
      all_goals first | exact deepMLL_eq (i64s_snoc _ _) | exact deepMLL_eq (prows_snocP _ _) | skip
  · have q0 : k = ps.length := by have : ¬ k < ps.length := by ((try simp only[oo,reduceCtorEq]at*)<;>omega)
                                  omega
    subst q0
    rw [List.drop_length] at hF1 hF2
    have hF1 : M = R := hF1
    have hF2 : l = I := by rw [← hF2]; simp [idxs]
    subst hF1 hF2
    have hon : PCall Try.prog 100 [.lst 1 (List.drop 0 (List.take l.length (i64s l)))] (dints (onceL l)) := by
      rw [drop_take_all (by simp [i64s])]
      exact ref_once l (by omega)
    (refine .inr (.inr (.inr (.inr (.inl ⟨_, _, _, (acallAt_frz1 (pre := []) (post := []) hon (pure_dints _) trivial trivial (pureLL_map _ (fun _ => by simp [PureL, Pure]) _) rfl), ?_⟩)))); ((conv=>whnf);repeat(refine .intro rfl ?_;conv=>whnf)))
    exact ⟨.refl _, closeH_same (nheap M) [_] (under_nheap (Nat.le_refl _))⟩
def c44_1 : PC := .seq (.seq (.ops [⟨some 15,.move (.tmp 9),none,0⟩,
 ⟨some 16,.load1 (.tmp 4),none,0⟩,
 ⟨some 17,.len (.tmp 16),none,0⟩,
 ⟨some 18,.bin .lss (.tmp 15) (.tmp 17),none,0⟩] false) (.cond (.tmp 18) (.skip) (.exit 0))) (.seq (.block 1 (.seq (.ops [⟨some 21,.move (.tmp 8),none,0⟩,
 ⟨some 22,.move (.tmp 1),none,0⟩,
 ⟨some 23,.load1 (.tmp 4),none,0⟩,
 ⟨some 24,.move (.tmp 9),none,0⟩,
 ⟨some 25,.iaddr 2 (.tmp 23) (.tmp 24),none,0⟩,
 ⟨some 26,.loadA 2 (.tmp 25),none,0⟩,
 ⟨some 27,.callv (.tmp 22) [(.tmp 26)],none,0⟩,
 ⟨some 28,.callv (.tmp 21) [(.tmp 27)],none,0⟩,
 ⟨some 10,.move (.tmp 28),none,0⟩] false) (.seq (.ops [⟨some 29,.move (.tmp 6),none,0⟩,
 ⟨some 30,.move (.tmp 10),none,0⟩,
 ⟨some 31,.bslice 1 1 [(.tmp 30)],none,0⟩,
 ⟨some 32,.append 1 24 (.tmp 29) (.tmp 31),none,0⟩,
 ⟨some 6,.move (.tmp 32),none,0⟩] false) (.seq (.ops [⟨some 33,.load1 (.tmp 4),none,0⟩,
 ⟨some 34,.len (.tmp 33),none,0⟩,
 ⟨some 35,.bin .gtr (.tmp 34) (.const (.int .i64 2048)),none,0⟩] false) (.cond (.tmp 35) (.seq (.ops [⟨none,.store 1 (.tmp 4) (.const (.slice none 0 0)),none,0⟩,
 ⟨some 5,.move (.const (.slice none 0 0)),none,0⟩,
 ⟨some 6,.move (.const (.slice none 0 0)),none,0⟩,
 ⟨some 7,.move (.const (.bool false)),none,0⟩] false) (.ret)) (.skip)))))) (.ops [⟨some 19,.move (.tmp 9),none,0⟩,
 ⟨some 20,.bin .add (.tmp 19) (.const (.int .i64 1)),none,0⟩,
 ⟨some 9,.move (.tmp 20),none,0⟩] false))
def c44 : PC := .seq (.ops [⟨some 4,.alloc [(.slice none 0 0)],none,0⟩,
 ⟨some 5,.move (.const (.slice none 0 0)),none,0⟩,
 ⟨some 6,.move (.const (.slice none 0 0)),none,0⟩,
 ⟨some 7,.move (.const (.bool false)),none,0⟩] false) (.seq (.ops [⟨some 11,.mkfn (.func 98) [] [(.tmp 4)],none,0⟩,
 ⟨some 8,.move (.tmp 11),none,0⟩] false) (.seq (.stop (.ops [⟨some 12,.move (.tmp 8),none,0⟩,
 ⟨some 13,.move (.tmp 0),none,0⟩,
 ⟨some 14,.callv (.tmp 12) [(.tmp 13)],none,0⟩,
 ⟨some 5,.move (.tmp 14),none,0⟩] false)) (.seq (.seq (.ops [⟨some 9,.move (.const (.int .i64 0)),none,0⟩] false) (.block 0 (.loop c44_1))) (.seq (.ops [⟨some 36,.load1 (.tmp 4),none,0⟩,
 ⟨some 37,.move (.tmp 5),none,0⟩,
 ⟨some 38,.move (.tmp 6),none,0⟩,
 ⟨some 39,.load1 (.tmp 4),none,0⟩,
 ⟨some 40,.len (.tmp 39),none,0⟩,
 ⟨some 41,.bin .leq (.tmp 40) (.const (.int .i64 2048)),none,0⟩,
 ⟨none,.store 1 (.tmp 4) (.tmp 36),none,0⟩,
 ⟨some 5,.move (.tmp 37),none,0⟩,
 ⟨some 6,.move (.tmp 38),none,0⟩,
 ⟨some 7,.move (.tmp 41),none,0⟩] false) (.ret)))))
set_option maxRecDepth 100000 in
theorem c44_ok : FunOK Try.prog 44 42 [.one 4, .tmp 5, .tmp 6, .tmp 7] c44 := ⟨⟨Try.f44, Try.func44, rfl, by kernel_rfl, rfl, by kernel_rfl⟩⟩
/-- All pairs that can be come to, as the reference numbers them. -/
def runR (nx : Pr → List Pr) : Nat → Nat → List Pr → List (List Int) → Option (List Pr × List (List Int))
  | 0, _, _, _ => none
  | k + 1, n, L, T => if n < L.length then (if (pPut (nx (L.getD n (0, 0))) L []).1.length ≤ 2048 then runR nx k (n + 1) (pPut (nx (L.getD n (0, 0))) L []).1 (T ++ [(pPut (nx (L.getD n (0, 0))) L []).2]) else none) else some (L, T)
def outR (start : List Pr) (nx : Pr → List Pr) : D := match runR nx 2050 0 (pPut start [] []).1 [] with
  | some (L, T) => .tup [dpairs L, dints (pPut start [] []).2, dgrid T, .sc (.bool true)]
  | none => .tup [dpairs [], dints [], dgrid [], .sc (.bool false)]
set_option maxRecDepth 100000 in
theorem ref_numbered (start : List Pr) (nx : Pr → List Pr) (Good : Pr → Prop) (hs : ∀ p ∈ start, Good p) (hnx : ∀ p, Good p → (∀ q ∈ nx p, Good q) ∧ (nx p).length ≤ 1100000000000) (hsl : start.length ≤ 1100000000000)
    (cl : FuncId) (caps : List D) (hcp : PureL caps) (hcl : ∀ p, Good p → PCall Try.prog cl (.agg (dpair p.1 p.2) :: caps) (dpairs (nx p))) :
    PCall Try.prog 44 [dpairs start, .fn (.func cl) [] caps] (outR start nx) := by
  have hpo : Pure (outR start nx) := by unfold outR; split <;> simp [Pure, PureL, pure_dpairs, pure_dints, pure_dgrid]
  refine pcall_intro c44_ok (by simp) (by simp [PureL, Pure, pure_dpairs, hcp]) ?_ hpo
  have hP0 := ref_num start (by omega) [] (by simp)
  have hM1 := pPut_mem start [] []
  have hM3 := (pPut_len start [] []).2
  rw [List.length_nil, Nat.zero_add] at hM3
  unfold outR at *
  unfold nheap at hP0
  generalize hQ : pPut start [] [] = Q at *
  obtain ⟨L1, s0⟩ := Q
  dsimp only at *
  generalize hR : runR nx 2050 0 L1 [] = R at *
  (apply rd_sound; focus (repeat' constructor))
  ((conv=>whnf);repeat(refine .intro rfl ?_;conv=>whnf))
  refine pwp_ghostB (leB_nilc 0 0 2 (by simp) rfl rfl) ?_
  (apply rd_sound; focus (repeat' constructor))
  ((conv=>whnf);repeat(refine .intro rfl ?_;conv=>whnf))
  (refine .inr (.inr (.inl ⟨rfl, _, _, hP0, ?_⟩)); ((conv=>whnf);repeat(refine .intro rfl ?_;conv=>whnf)))
  refine pwp_ghostB (leB_nil 6 1 (by simp) rfl) ?_
  refine pwp_forH [1, 4, 8] (fun ((n, M, T) : Nat × List Pr × List (List Int)) => [(5, dints s0), (6, .own 2 T.length 0 T.length), (9, .sc (.int .i64 n))]) (fun (n, M, T) => nheap M ++ [.vec true T.length 1 (growsI T)])
    (fun (n, M, T) => n ≤ M.length ∧ (n = 0 ∨ M.length ≤ 2048) ∧ M.length ≤ 1100000000000 ∧ (∀ p ∈ M, Good p) ∧ T.length = n ∧ n ≤ 2049 ∧ runR nx (2050 - n) n M T = R) (fun (n, M, T) => 2050 - n) (0, L1, []) ?_
  ((conv=>whnf);repeat(refine .intro rfl ?_;conv=>whnf))
  refine ⟨⟨by omega, .inl rfl, by omega, fun p hp => hs p (((hM1 p).1 hp).resolve_left (by simp)), rfl, by omega, hR⟩, by (repeat' (first | exact trivial | refine And.intro rfl ?_)), rfl, ?_⟩
  rintro ⟨n, M, T⟩ ⟨hn, hn8, hMl, hMg, hTl, hn9, hF⟩
  unfold nheap
  ((conv=>whnf);repeat(refine .intro rfl ?_;conv=>whnf))
  (apply rd_sound; focus (repeat' constructor))
  ((conv=>whnf);repeat(refine .intro rfl ?_;conv=>whnf))
  rw [show 2050 - n = (2049 - n) + 1 by omega, runR] at hF
  (refine ifK_split (fun q0 => ?_) (fun q0 => ?_) <;> (rw [q0]; ((conv=>whnf);repeat(refine .intro rfl ?_;conv=>whnf))))
  · have q0 : n < M.length := by ((try simp only[oo,reduceCtorEq]at*)<;>omega)
    rw [if_pos q0] at hF
    have hg := hMg _ (mem_getDP q0)
    have hcp2 := hcl _ hg
    obtain ⟨hnq, hnl⟩ := hnx _ hg
    (refine ⟨by omega, (by first | omega | (simp; done) | (simp; omega) | (simp only [ll]; omega)), ?_⟩; ((conv=>whnf);repeat(refine .intro rfl ?_;conv=>whnf)))
    refine ⟨_, prows_at (k := n) (by omega) q0, ?_⟩
    ((conv=>whnf);repeat(refine .intro rfl ?_;conv=>whnf))
    generalize M.getD n (0, 0) = p at *
    (refine .inl ⟨_, hcp2, ?_⟩; ((conv=>whnf);repeat(refine .intro rfl ?_;conv=>whnf)))
    have hP := ref_num (nx p) (by omega) M (by omega)
    have hN1 := pPut_mem (nx p) M []
    have hN3 := pPut_len (nx p) M []
    generalize pPut (nx p) M [] = Q at *
    obtain ⟨M', l⟩ := Q
    dsimp only at *
    (refine .inr (.inr (.inl ⟨rfl, _, _, (acall_pre hP [.vec true T.length 1 (growsI T)] rfl (by simp [UnderL, Under, nheap]) (underO_of (under_nheap (Nat.le_refl _)))), ?_⟩)); ((conv=>whnf);repeat(refine .intro rfl ?_;conv=>whnf)))
    refine ⟨(by unfold sliceAppend; simp only [ll]; omega), ?_⟩
    ((conv=>whnf);repeat(refine .intro rfl ?_;conv=>whnf))
    (refine ifK_split (fun q1 => ?_) (fun q1 => ?_) <;> (rw [q1]; ((conv=>whnf);repeat(refine .intro rfl ?_;conv=>whnf))))
    · have q1 : ¬ M'.length ≤ 2048 := by ((try simp only[oo,reduceCtorEq]at*)<;>omega)
      rw [if_neg q1] at hF
      subst hF
      (repeat' (first | exact Deep.refl _ | exact Deep.none _ | exact deep_row _ | exact DeepL.nil | exact DeepLL.nil | refine Deep.agg _ _ ?_ | refine Deep.tup _ _ ?_ | refine Deep.own _ _ _ _ _ _ _ _ rfl ?_ | refine Deep.loc _ _ _ _ _ rfl ?_ | refine Deep.ifc _ _ _ ?_ | refine Deep.fn _ _ _ _ _ ?_ ?_ | refine DeepL.cons _ _ _ _ ?_ ?_ | refine DeepLL.cons _ _ _ _ ?_ ?_ | exact deepLL_refl _))
    · have q1 : M'.length ≤ 2048 := by ((try simp only[oo,reduceCtorEq]at*)<;>omega)
      rw [if_pos q1] at hF
      (refine .inl ⟨by (unfold InR; rw [IntKind.wrap_i64]; omega), ?_⟩; ((conv=>whnf);repeat(refine .intro rfl ?_;conv=>whnf)))
      refine ⟨(n + 1, M', T ++ [l]), ⟨by show n + 1 ≤ M'.length; omega, .inr q1, by show M'.length ≤ _; omega, fun q hq => ((hN1 q).1 hq).elim (hMg q) (hnq q), by simp [hTl], by omega, by rw [show 2050 - (n + 1) = 2049 - n by omega]; exact hF⟩, by dsimp only; omega, ?_⟩
      dsimp only
      rw [show (T ++ [l]).length = T.length + 1 by simp]
      (refine leB_close 3 (by simp) rfl ?_ ?_ <;> (repeat' (first | exact trivial | exact rfl | exact DeepM.refl _ | exact DeepML.refl _ | exact DeepMLL.refl _ | refine And.intro ?_ ?_ | (simp [Under, UnderL, UnderLL, -List.map_take, -List.map_drop]; done))))
      all_goals first | exact underL_pure _ hcp | exact deepMLL_eq (growsI_snoc rfl) | skip
  · have q0 : ¬ n < M.length := by ((try simp only[oo,reduceCtorEq]at*)<;>omega)
    rw [if_neg q0] at hF
    subst hF
    have hM8 : M.length ≤ 2048 := by omega
    rw [show decide (((M.length - 0 : Nat) : Int) ≤ 2048) = true by rw [decide_eq_true_iff]; omega]
    exact .tup _ _ (.cons _ _ _ _ (.own _ _ _ _ _ _ _ _ rfl (by rw [drop_take_all (by simp)]; exact deepLL_refl _)) (.cons _ _ _ _ (.refl _) (.cons _ _ _ _ (.own _ _ _ _ _ _ _ _ rfl (by rw [drop_take_all (by simp)]; exact deepLL_refl _)) (.cons _ _ _ _ (.refl _) .nil))))
end Go.Proofs.Ytfaekhadjlgbbaa
