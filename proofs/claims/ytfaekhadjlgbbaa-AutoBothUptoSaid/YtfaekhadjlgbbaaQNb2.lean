/-
  A maker of an automaton of pairs: all pairs of a list, then all that can be come to, over deep values. No statement is proved here.
-/
import Derived.Test.YtfaekhadjlgbbaaQNb1
namespace Go.Proofs.Ytfaekhadjlgbbaa
open Go.RowKit
set_option linter.unusedSimpArgs false
set_option linter.unusedVariables false
noncomputable def pheap (L : List Pr) (S : D) (T : List (List Int)) (b : Bool) : List AObj := mheap L S T ++ [.row true [.loc 1 0], .row true [.sc (.bool b)]]
theorem under_pheap {L : List Pr} {S : D} (hS : Pure S) {T : List (List Int)} {b : Bool} {m : Nat} (hm : 6 ≤ m) : ∀ o ∈ pheap L S T b, o.under m := by
  intro o ho
  rcases List.mem_append.1 ho with ho | ho
  · exact under_mheap hS (by omega) o ho
  · simp only [List.mem_cons, List.not_mem_nil, or_false] at ho
    rcases ho with rfl | rfl <;> simp [AObj.under, UnderL, Under] <;> omega
theorem drop_consP {l : List Pr} {k : Nat} (h : k < l.length) : l.drop k = l.getD k (0, 0) :: l.drop (k + 1) := by
  rw [List.drop_eq_getElem_cons h, List.getD_eq_getElem?_getD, List.getElem?_eq_getElem h]
  rfl
theorem mheap_ren {ρ : Nat → Nat} (h0 : ρ 0 = 0) (h2 : ρ 2 = 2) (h3 : ρ 3 = 3) {L : List Pr} {S : D} (hS : Pure S) {T : List (List Int)} : (mheap L S T).map (AObj.ren ρ) = mheap L S T := by
  simp only [mheap, mbox, nilV, List.map_cons, List.map_nil, AObj.ren, renL, D.ren, renLL_pure _ (pure_prows L), renLL_pure _ (pure_growsI T), ren_pure _ hS, h0, h2, h3]
theorem underO_of {m : Nat} : ∀ {l : List AObj}, (∀ o ∈ l, o.under m) → UnderO m l
  | [], _ => trivial
  | o :: r, h => ⟨h o (by simp), underO_of fun x hx => h x (by simp [hx])⟩
/-- A call of the maker and a list, where other things lie between. -/
theorem mheap_at {f : FuncId} {args0 args : List D} {d0 d : D} {M M' : List Pr} {S : D} (hS : Pure S) {T T' : List (List Int)} {l l' : List Int}
    (hA : ACall Try.prog f args0 (mheap M S T ++ [.vec true l.length 1 (i64s l)]) d0 (mheap M' S T' ++ [.vec true l'.length 1 (i64s l')])) (hu : UnderL 5 args0) (o4 o5 o7 : AObj)
    (e1 : renL (fun i => [0, 1, 2, 3, 6].getD i 0) args0 = args) (e2 : D.ren (fun i => [0, 1, 2, 3, 6].getD i 0) d0 = d) :
    ACallAt Try.prog f args (mheap M S T ++ [o4, o5, .vec true l.length 1 (i64s l), o7]) d (mheap M' S T' ++ [o4, o5, .vec true l'.length 1 (i64s l'), o7]) [0, 1, 2, 3, 6] := by
  have hl : PureLL (i64s l) := pureLL_map _ (fun _ => by simp [PureL, Pure]) _
  have hl' : PureLL (i64s l') := pureLL_map _ (fun _ => by simp [PureL, Pure]) _
  have hm : ∀ (l : List Int), PureLL (i64s l) → ((mheap M S T ++ [AObj.vec true l.length 1 (i64s l)]).map (AObj.ren fun i => [0, 1, 2, 3, 6].getD i 0)) = mheap M S T ++ [.vec true l.length 1 (i64s l)] := fun l h => by
    rw [List.map_append, mheap_ren rfl rfl rfl hS]
    simp only [List.map_cons, List.map_nil, AObj.ren, renLL_pure _ h]
  have hm' : ((mheap M' S T' ++ [AObj.vec true l'.length 1 (i64s l')]).map (AObj.ren fun i => [0, 1, 2, 3, 6].getD i 0)) = mheap M' S T' ++ [.vec true l'.length 1 (i64s l')] := by
    rw [List.map_append, mheap_ren rfl rfl rfl hS]
    simp only [List.map_cons, List.map_nil, AObj.ren, renLL_pure _ hl']
  refine acallAt_gen hA [0, 1, 2, 3, 6] rfl (by decide) hu (underO_of fun o ho => ?_) [0, 1, 2, 3, 6] rfl e1 e2 (fun i o ho => ?_) ?_
  · rcases List.mem_append.1 ho with ho | ho
    · exact under_mheap hS (by simp [mheap]) o ho
    · rw [List.mem_singleton] at ho; subst ho; exact underLL_pure _ hl
  · have h := congrArg (fun x => x[i]?) (hm l hl)
    simp only [List.getElem?_map, ho, Option.map_some] at h
    rcases i with _ | _ | _ | _ | _ | i
    · exact ho.trans h.symm
    · exact ho.trans h.symm
    · exact ho.trans h.symm
    · exact ho.trans h.symm
    · exact ho.trans h.symm
    · simp [mheap] at ho
  · have h1 : (mheap M S T ++ [AObj.vec true l.length 1 (i64s l)]).length = (mheap M' S T' ++ [AObj.vec true l'.length 1 (i64s l')]).length := by simp [mheap]
    rw [h1, List.take_length, List.drop_length, hm']
    rfl
def c96_1 : PC := .seq (.ops [⟨some 11,.bin .lss (.tmp 10) (.tmp 9),none,0⟩] false) (.seq (.cond (.tmp 11) (.skip) (.exit 0)) (.seq (.block 1 (.seq (.ops [⟨some 12,.iaddr 2 (.tmp 8) (.tmp 10),none,0⟩,
 ⟨some 13,.loadA 2 (.tmp 12),none,0⟩,
 ⟨some 7,.alloc [(.int .i64 0), (.int .i64 0)],none,0⟩,
 ⟨none,.store 2 (.tmp 7) (.tmp 13),none,0⟩] false) (.seq (.ops [⟨some 14,.load1 (.tmp 1),none,0⟩] false) (.cond (.tmp 14) (.ops [⟨some 16,.load1 (.tmp 2),none,0⟩,
 ⟨some 17,.move (.tmp 5),none,0⟩,
 ⟨some 18,.loadA 2 (.tmp 7),none,0⟩,
 ⟨some 19,.call 97 [(.tmp 16), (.tmp 17), (.tmp 18)],none,0⟩,
 ⟨some 15,.move (.tmp 19),none,0⟩,
 ⟨some 20,.ext 0 (.tmp 15),none,0⟩,
 ⟨some 21,.ext 1 (.tmp 15),none,0⟩,
 ⟨some 5,.move (.tmp 20),none,0⟩,
 ⟨none,.store 1 (.tmp 1) (.tmp 21),none,0⟩] false) (.skip))))) (.ops [⟨some 22,.bin .add (.tmp 10) (.const (.int .i64 1)),none,0⟩,
 ⟨some 10,.move (.tmp 22),none,0⟩] false)))
def c96 : PC := .seq (.ops [⟨some 4,.move (.const (.slice none 0 0)),none,0⟩] false) (.seq (.ops [⟨some 5,.move (.const (.slice none 0 0)),none,0⟩] false) (.seq (.seq (.ops [⟨some 8,.move (.tmp 0),none,0⟩,
 ⟨some 9,.len (.tmp 8),none,0⟩,
 ⟨some 10,.move (.const (.int .i64 0)),none,0⟩] false) (.block 0 (.loop c96_1))) (.seq (.ops [⟨some 23,.move (.tmp 5),none,0⟩,
 ⟨some 4,.move (.tmp 23),none,0⟩] false) (.ret))))
set_option maxRecDepth 100000 in
theorem c96_ok : FunOK Try.prog 96 24 [.tmp 4] c96 := ⟨⟨Try.f96, Try.func96, rfl, by kernel_rfl, rfl, by kernel_rfl⟩⟩
set_option maxRecDepth 100000 in
theorem au_put (ps : List Pr) (hps : ∀ p ∈ ps, WfP p) (hpl : ps.length ≤ 2000000000000) (L : List Pr) (hnd : L.Nodup) (S : D) (hS : Pure S) (T : List (List Int)) (b : Bool) (hb : b = true → L.length ≤ 2048) (hL : L.length ≤ 2049) :
    ACall Try.prog 96 [dpairs ps, .loc 5 0, .loc 4 0] (pheap L S T b) (dints (pPutS ps L [] b).2.1) (pheap (pPutS ps L [] b).1 S T (pPutS ps L [] b).2.2) := by
  refine acall_introD c96_ok (by simp) (by simp [pheap, mheap]) ?_ (under_pure _ (pure_dints _))
  have hSu := fun m => under_pure (m := m) S hS
  generalize hR : pPutS ps L [] b = R
  unfold pheap mheap mbox dpairs
  (apply rd_sound; focus (repeat' constructor))
  ((conv=>whnf);repeat(refine .intro rfl ?_;conv=>whnf))
  rw [prows_len]
  refine pwp_ghostB (leB_nil 5 1 (by simp) rfl) ?_
  refine pwp_forH [1, 2, 8, 9] (fun ((k, M, l, c) : Nat × List Pr × List Int × Bool) => [(5, .own 6 l.length 0 l.length), (10, .sc (.int .i64 k))]) (fun (k, M, l, c) => pheap M S T c ++ [.vec true l.length 1 (i64s l)])
    (fun (k, M, l, c) => k ≤ ps.length ∧ M.Nodup ∧ (c = true → M.length ≤ 2048) ∧ M.length ≤ 2049 ∧ l.length ≤ k ∧ pPutS (ps.drop k) M l c = R) (fun (k, M, l, c) => ps.length - k) (0, L, [], b) ?_
  ((conv=>whnf);repeat(refine .intro rfl ?_;conv=>whnf))
  refine ⟨⟨by omega, hnd, hb, hL, by simp, hR⟩, by (repeat' (first | exact trivial | refine And.intro rfl ?_)), rfl, ?_⟩
  rintro ⟨k, M, l, c⟩ ⟨hk, hMn, hMb, hM9, hlk, hF⟩
  unfold pheap mheap mbox
  ((conv=>whnf);repeat(refine .intro rfl ?_;conv=>whnf))
  (apply rd_sound; focus (repeat' constructor))
  ((conv=>whnf);repeat(refine .intro rfl ?_;conv=>whnf))
  (refine ifK_split (fun q0 => ?_) (fun q0 => ?_) <;> (rw [q0]; ((conv=>whnf);repeat(refine .intro rfl ?_;conv=>whnf))))
  · have q0 : k < ps.length := by ((try simp only[oo,reduceCtorEq]at*)<;>omega)
    have hp := hps _ (mem_getDP q0)
    rw [drop_consP q0] at hF
    refine ⟨by omega, _, prows_at (k := k) (by omega) q0, ?_⟩
    ((conv=>whnf);repeat(refine .intro rfl ?_;conv=>whnf))
    generalize ps.getD k (0, 0) = p at *
    cases c
    · ((conv=>whnf);repeat(refine .intro rfl ?_;conv=>whnf))
      (refine .inl ⟨by (unfold InR; rw [IntKind.wrap_i64]; omega), ?_⟩; ((conv=>whnf);repeat(refine .intro rfl ?_;conv=>whnf)))
      refine ⟨(k + 1, M, l, false), ⟨by omega, hMn, hMb, hM9, by omega, by cases p; exact hF⟩, by dsimp only; omega, ?_⟩
      dsimp only
      (refine leB_close 7 (by simp) rfl ?_ ?_ <;> (repeat' (first | exact trivial | exact rfl | exact DeepM.refl _ | exact DeepML.refl _ | exact DeepMLL.refl _ | refine And.intro ?_ ?_ | (simp [Under, UnderL, UnderLL, -List.map_take, -List.map_drop]; done))))
      all_goals first | exact hSu _ | skip
    · have hM := hMb rfl
      have hA := au_add M hMn (by omega) S hS T l (by omega) p hp
      have hol := onceA_len l (idxP (addP M p) p)
      have hal := addP_len M p
      ((conv=>whnf);repeat(refine .intro rfl ?_;conv=>whnf))
      (refine .inr (.inr (.inr (.inr (.inl ⟨_, _, _, (mheap_at hS hA (by simp [UnderL, Under, dpair]) _ _ _ rfl rfl), ?_⟩)))); ((conv=>whnf);repeat(refine .intro rfl ?_;conv=>whnf)))
      ((conv=>whnf);repeat(refine .intro rfl ?_;conv=>whnf))
      (refine .inl ⟨by (unfold InR; rw [IntKind.wrap_i64]; omega), ?_⟩; ((conv=>whnf);repeat(refine .intro rfl ?_;conv=>whnf)))
      refine ⟨(k + 1, addP M p, onceA l (idxP (addP M p) p), decide ((addP M p).length ≤ 2048)), ⟨by omega, addP_nodup hMn p, fun q => of_decide_eq_true q, by omega, by omega, hF⟩, by dsimp only; omega, ?_⟩
      dsimp only
      (refine leB_close 7 (by simp) rfl ?_ ?_ <;> (repeat' (first | exact trivial | exact rfl | exact DeepM.refl _ | exact DeepML.refl _ | exact DeepMLL.refl _ | refine And.intro ?_ ?_ | (simp [Under, UnderL, UnderLL, -List.map_take, -List.map_drop]; done))))
      all_goals first | exact hSu _ | skip
  · have q0 : k = ps.length := by have : ¬ k < ps.length := by ((try simp only[oo,reduceCtorEq]at*)<;>omega)
                                  omega
    subst q0
    rw [List.drop_length] at hF
    have hF : (M, l, c) = R := hF
    subst hF
    exact ⟨.own _ _ _ _ _ _ _ _ rfl rfl (deepMLL_eq (drop_take_all (by simp [i64s]))), closeH_same _ [_] (under_pheap hS (Nat.le_refl _))⟩
def c39_1 : PC := .seq (.seq (.ops [⟨some 18,.load1 (.tmp 7),none,0⟩,
 ⟨some 19,.move (.tmp 18),none,0⟩,
 ⟨some 20,.move (.tmp 9),some (19,true),0⟩,
 ⟨some 21,.load1 (.tmp 3),some (19,true),0⟩,
 ⟨some 22,.nilchk (.tmp 21),some (19,true),0⟩,
 ⟨some 23,.faddr 1 (.tmp 22),some (19,true),0⟩,
 ⟨some 24,.load1 (.tmp 23),some (19,true),0⟩,
 ⟨some 25,.len (.tmp 24),some (19,true),0⟩,
 ⟨some 26,.bin .lss (.tmp 20) (.tmp 25),some (19,true),0⟩,
 ⟨some 27,.pick (.tmp 19) (.tmp 26) (.const (.bool false)),none,0⟩] false) (.cond (.tmp 27) (.skip) (.exit 0))) (.seq (.block 1 (.ops [⟨some 30,.load1 (.tmp 3),none,0⟩,
 ⟨some 31,.load1 (.tmp 3),none,0⟩,
 ⟨some 32,.nilchk (.tmp 31),none,2⟩,
 ⟨some 33,.faddr 2 (.tmp 32),none,6⟩,
 ⟨some 34,.faddr 1 (.tmp 33),none,14⟩,
 ⟨some 35,.load1 (.tmp 34),none,30⟩,
 ⟨some 36,.move (.tmp 8),none,0⟩,
 ⟨some 37,.move (.tmp 2),none,0⟩,
 ⟨some 38,.load1 (.tmp 3),none,0⟩,
 ⟨some 39,.nilchk (.tmp 38),none,256⟩,
 ⟨some 40,.faddr 1 (.tmp 39),none,768⟩,
 ⟨some 41,.load1 (.tmp 40),none,1792⟩,
 ⟨some 42,.move (.tmp 9),none,0⟩,
 ⟨some 43,.iaddr 2 (.tmp 41) (.tmp 42),none,7936⟩,
 ⟨some 44,.loadA 2 (.tmp 43),none,16128⟩,
 ⟨some 45,.callv (.tmp 37) [(.tmp 44)],none,32640⟩,
 ⟨some 46,.callv (.tmp 36) [(.tmp 45)],none,65472⟩,
 ⟨some 47,.bslice 1 1 [(.tmp 46)],none,131008⟩,
 ⟨some 48,.append 1 24 (.tmp 35) (.tmp 47),none,262142⟩,
 ⟨some 49,.nilchk (.tmp 30),none,524287⟩,
 ⟨some 50,.faddr 2 (.tmp 49),none,1048575⟩,
 ⟨some 51,.faddr 1 (.tmp 50),none,2097151⟩,
 ⟨none,.store 1 (.tmp 51) (.tmp 48),none,4194303⟩] true)) (.ops [⟨some 28,.move (.tmp 9),none,0⟩,
 ⟨some 29,.bin .add (.tmp 28) (.const (.int .i64 1)),none,0⟩,
 ⟨some 9,.move (.tmp 29),none,0⟩] false))
def c39 : PC := .seq (.ops [⟨some 3,.box (.tmp 0),none,0⟩,
 ⟨some 6,.move (.const (.bool false)),none,0⟩] false) (.seq (.ops [⟨some 7,.alloc [(.bool false)],none,0⟩,
 ⟨none,.store 1 (.tmp 7) (.const (.bool true)),none,0⟩] false) (.seq (.ops [⟨some 10,.mkfn (.func 96) [] [(.tmp 7), (.tmp 3)],none,0⟩,
 ⟨some 8,.move (.tmp 10),none,0⟩] false) (.seq (.ops [⟨some 11,.load1 (.tmp 3),none,0⟩,
 ⟨some 12,.move (.tmp 8),none,0⟩,
 ⟨some 13,.move (.tmp 1),none,0⟩,
 ⟨some 14,.callv (.tmp 12) [(.tmp 13)],none,6⟩,
 ⟨some 15,.nilchk (.tmp 11),none,15⟩,
 ⟨some 16,.faddr 2 (.tmp 15),none,31⟩,
 ⟨some 17,.faddr 0 (.tmp 16),none,63⟩,
 ⟨none,.store 1 (.tmp 17) (.tmp 14),none,127⟩] true) (.seq (.seq (.ops [⟨some 9,.move (.const (.int .i64 0)),none,0⟩] false) (.block 0 (.loop c39_1))) (.seq (.ops [⟨some 52,.load1 (.tmp 7),none,0⟩,
 ⟨some 6,.move (.tmp 52),none,0⟩] false) (.ret))))))
set_option maxRecDepth 100000 in
theorem c39_ok : FunOK Try.prog 39 53 [.tmp 6] c39 := ⟨⟨Try.f39, Try.func39, rfl, by kernel_rfl, rfl, by kernel_rfl⟩⟩
def runS (nx : Pr → List Pr) : Nat → Nat → List Pr → List (List Int) → List Pr × List (List Int) × Bool
  | 0, _, L, T => (L, T, false)
  | k + 1, n, L, T => if n < L.length then (if (pPutS (nx (L.getD n (0, 0))) L [] true).2.2 = true then runS nx k (n + 1) (pPutS (nx (L.getD n (0, 0))) L [] true).1 (T ++ [(pPutS (nx (L.getD n (0, 0))) L [] true).2.1]) else ((pPutS (nx (L.getD n (0, 0))) L [] true).1, T ++ [(pPutS (nx (L.getD n (0, 0))) L [] true).2.1], false)) else (L, T, true)
def madeS (start : List Pr) (nx : Pr → List Pr) : List Pr × List (List Int) × Bool :=
  if (pPutS start [] [] true).2.2 = true then runS nx 2050 0 (pPutS start [] [] true).1 [] else ((pPutS start [] [] true).1, [], false)
set_option maxRecDepth 100000 in
theorem au_made (start : List Pr) (nx : Pr → List Pr) (Good : Pr → Prop) (hG : ∀ p, Good p → WfP p) (hs : ∀ p ∈ start, Good p) (hnx : ∀ p, Good p → (∀ q ∈ nx p, Good q) ∧ (nx p).length ≤ 2000000000000) (hsl : start.length ≤ 2000000000000)
    (cl : FuncId) (caps : List D) (hcp : PureL caps) (hcl : ∀ p, Good p → PCall Try.prog cl (.agg (dpair p.1 p.2) :: caps) (dpairs (nx p))) :
    ACall Try.prog 39 [.loc 1 0, dpairs start, .fn (.func cl) [] caps] (mheap [] nilV []) (.sc (.bool (madeS start nx).2.2)) (mheap (madeS start nx).1 (dints (pPutS start [] [] true).2.1) (madeS start nx).2.1) := by
  have hpu := pure_dints (pPutS start [] [] true).2.1
  refine acall_intro c39_ok (by simp) (by simp [mheap]) ?_ (by simp [Under]) (by intro o ho; exact under_mheap hpu (by simp [mheap]) o ho)
  have hP0 := au_put start (fun p hp => hG p (hs p hp)) hsl [] .nil nilV (by simp [Pure, nilV]) [] true (fun _ => by simp) (by simp)
  unfold pheap at hP0
  generalize hR : madeS start nx = R
  unfold mheap mbox at *
  (apply rd_sound; focus (repeat' constructor))
  ((conv=>whnf);repeat(refine .intro rfl ?_;conv=>whnf))
  have hM1 := fun q => pPutS_mem start [] [] true q
  have hM2 := pPutS_nodup start [] true (L := []) .nil
  have hM3 := pPutS_len start [] [] true (fun _ => by simp) (by simp)
  have hR' := hR
  unfold madeS at hR'
  generalize pPutS start [] [] true = Q0 at *
  obtain ⟨L1, s0, b0⟩ := Q0
  dsimp only at *
  (refine .inr (.inr (.inr (.inl ⟨_, _, by simp [UnderL, UnderLL, UnderO, AObj.under, Under], by simp [UnderL, UnderLL, UnderO, AObj.under, Under], hP0, ?_⟩))); ((conv=>whnf);repeat(refine .intro rfl ?_;conv=>whnf)))
  have hSu := fun m => under_pure (m := m) _ hpu
  refine pwp_forH [2, 3, 7, 8] (fun ((n, M, T, c) : Nat × List Pr × List (List Int) × Bool) => [(9, .sc (.int .i64 n))]) (fun (n, M, T, c) => pheap M (dints s0) T c)
    (fun (n, M, T, c) => M.Nodup ∧ (c = true → M.length ≤ 2048) ∧ M.length ≤ 2049 ∧ (∀ p ∈ M, Good p) ∧ T.length ≤ n ∧ n ≤ 2049 ∧ (c = true → T.length = n ∧ runS nx (2050 - n) n M T = R) ∧ (c = false → (M, T, false) = R)) (fun (n, M, T, c) => 2050 - n) (0, L1, [], b0) ?_
  ((conv=>whnf);repeat(refine .intro rfl ?_;conv=>whnf))
  refine ⟨⟨hM2, hM3.2, hM3.1, fun p hp => hs p ((hM1 p hp).resolve_left (by simp)), by simp, by omega, fun q => ⟨rfl, by rw [if_pos q] at hR'; exact hR'⟩, fun q => by rw [q, if_neg (by decide)] at hR'; exact hR'⟩, by (repeat' (first | exact trivial | refine And.intro rfl ?_)), rfl, ?_⟩
  rintro ⟨n, M, T, c⟩ ⟨hMn, hMb, hM9, hMg, hTn, hn9, hT1, hT0⟩
  unfold pheap mheap mbox
  ((conv=>whnf);repeat(refine .intro rfl ?_;conv=>whnf))
  (apply rd_sound; focus (repeat' constructor))
  ((conv=>whnf);repeat(refine .intro rfl ?_;conv=>whnf))
  cases c
  · ((conv=>whnf);repeat(refine .intro rfl ?_;conv=>whnf))
    have hF := hT0 rfl
    subst hF
    exact ⟨rfl, rfl, by simp⟩
  · ((conv=>whnf);repeat(refine .intro rfl ?_;conv=>whnf))
    have hM8 := hMb rfl
    obtain ⟨hTl, hF⟩ := hT1 rfl
    rw [show 2050 - n = (2049 - n) + 1 by omega, runS] at hF
    (refine ifK_split (fun q0 => ?_) (fun q0 => ?_) <;> (rw [q0]; ((conv=>whnf);repeat(refine .intro rfl ?_;conv=>whnf))))
    · have q0 : n < M.length := by ((try simp only[oo,reduceCtorEq]at*)<;>omega)
      rw [if_pos q0] at hF
      have hg := hMg _ (mem_getDP q0)
      have hcp2 := hcl _ hg
      obtain ⟨hnq, hnl⟩ := hnx _ hg
      (refine ⟨by omega, (by first | omega | (simp; done) | (simp; omega) | (simp only [ll]; omega)), ?_⟩; ((conv=>whnf);repeat(refine .intro rfl ?_;conv=>whnf)))
      refine ⟨_, prows_at (k := n) (by omega) q0, ?_⟩
      ((conv=>whnf);repeat(refine .intro rfl ?_;conv=>whnf))
      generalize M.getD n (0, 0) = p at *
      (refine .inl ⟨_, hcp2, ?_⟩; ((conv=>whnf);repeat(refine .intro rfl ?_;conv=>whnf)))
      have hP := au_put (nx p) (fun q hq => hG q (hnq q hq)) hnl M hMn (dints s0) hpu T true (fun _ => hM8) hM9
      have hN1 := fun q => pPutS_mem (nx p) M [] true q
      have hN2 := pPutS_nodup (nx p) [] true hMn
      have hN3 := pPutS_len (nx p) M [] true (fun _ => hM8) hM9
      unfold pheap mheap mbox at hP
      generalize pPutS (nx p) M [] true = Q at *
      obtain ⟨M', l, c'⟩ := Q
      dsimp only at *
      (refine .inr (.inr (.inr (.inl ⟨_, _, by simp [UnderL, UnderLL, UnderO, AObj.under, Under], by simp [UnderL, UnderLL, UnderO, AObj.under, Under], hP, ?_⟩))); ((conv=>whnf);repeat(refine .intro rfl ?_;conv=>whnf)))
      refine ⟨(by unfold sliceAppend; simp only [ll]; omega), ?_⟩
      ((conv=>whnf);repeat(refine .intro rfl ?_;conv=>whnf))
      (refine .inl ⟨by (unfold InR; rw [IntKind.wrap_i64]; omega), ?_⟩; ((conv=>whnf);repeat(refine .intro rfl ?_;conv=>whnf)))
      refine ⟨(n + 1, M', T ++ [l], c'), ⟨hN2, hN3.2, hN3.1, fun q hq => (hN1 q hq).elim (hMg q) (hnq q), by simp; omega, by omega, fun q => ⟨by simp [hTl], ?_⟩, fun q => ?_⟩, by dsimp only; omega, ?_⟩
      · rw [if_pos q] at hF
        rw [show 2050 - (n + 1) = 2049 - n by omega]
        exact hF
      · have q : c' = false := q
        subst q
        rw [if_neg (by decide)] at hF
        exact hF
      · dsimp only
        rw [show (T ++ [l]).length = T.length + 1 by simp]
        (refine leB_close 6 (by simp) rfl ?_ ?_ <;> (repeat' (first | exact trivial | exact rfl | exact DeepM.refl _ | exact DeepML.refl _ | exact DeepMLL.refl _ | refine And.intro ?_ ?_ | (simp [Under, UnderL, UnderLL, -List.map_take, -List.map_drop]; done))))
        all_goals first | exact hSu _ | exact underL_pure _ hcp | exact deepMLL_eq (growsI_snoc rfl)
    · have q0 : ¬ n < M.length := by ((try simp only[oo,reduceCtorEq]at*)<;>omega)
      rw [if_neg q0] at hF
      subst hF
      exact ⟨rfl, rfl, by simp⟩
end Go.Proofs.Ytfaekhadjlgbbaa
