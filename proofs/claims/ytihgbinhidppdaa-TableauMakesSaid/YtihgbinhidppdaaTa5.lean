/-
  The reference's elements of a plain formula, over deep values. No statement is proved here.
-/
import Derived.Test.YtihgbinhidppdaaTa3
import Derived.Test.YtihgbinhidppdaaPn2
namespace Go.Proofs.Ytihgbinhidppdaa
open Go.RowKit
set_option linter.unusedSimpArgs false
set_option linter.unusedVariables false
def atomT (n : Int) : Tree := mk0 3 n
def atomTs (A : List Int) : List Tree := A.map atomT
@[simp] theorem atomTs_len (A : List Int) : (atomTs A).length = A.length := List.length_map ..
noncomputable def elE (f : Tree) : List Tree := atomTs (sortA (atomsOf f)) ++ addT [] (partsOf f)
theorem atom_eq {t : Tree} (hw : t.wf lKids) (h3 : t.kind = 3) : t = atomT t.num := by
  have har := node_arity ((wf_iff _ _).1 hw).1
  have h0 : t.width = 0 := by omega
  cases t with
  | node k n ks =>
    have : ks = [] := List.length_eq_zero_iff.1 h0
    subst this
    have h3 : k = 3 := h3
    subst h3
    rfl
/-- The memory of the reference's search for elements. -/
def eheap (Q : List Tree) (P : List Tree) : List AObj := [.row true [.own 3 Q.length 0 Q.length], .row true [.own 4 P.length 0 P.length], .row true [.fn (.func 40) [] [.loc 0 0, .loc 1 0, .loc 2 0]], .vec true Q.length 3 (trows Q), .vec true P.length 3 (trows P)]
theorem under_eheap {Q : List Tree} {P : List Tree} {m : Nat} (hm : 5 ≤ m) : ∀ o ∈ eheap Q P, o.under m := by
  intro o ho
  simp only [eheap, List.mem_cons, List.not_mem_nil, or_false] at ho
  rcases ho with rfl | rfl | rfl | rfl | rfl <;> simp [AObj.under, UnderL, Under] <;> omega
theorem underO_eheap {Q : List Tree} {P : List Tree} {m : Nat} (hm : 5 ≤ m) : UnderO m (eheap Q P) := by
  have := under_eheap (Q := Q) (P := P) hm
  unfold eheap at *
  exact ⟨this _ (by simp), this _ (by simp), this _ (by simp), this _ (by simp), this _ (by simp), trivial⟩
theorem deepM_atom {S : Nat → Bool} {H : List AObj} (l : List Tree) (n : Int) : DeepMLL S H (List.drop 0 (List.take l.length (trows l)) ++ List.drop 0 (List.take 1 [[D.sc (.int .i64 3), D.sc (.int .i64 n), D.sc (.slice none 0 0)]])) (trows (l ++ [atomT n])) := by
  rw [drop_take_all (by simp), show trows (l ++ [atomT n]) = trows l ++ [[D.sc (.int .i64 3), D.sc (.int .i64 n), D.lst 3 []]] by simp [trows, atomT, mk0, drow]; exact ⟨rfl, rfl, rfl⟩]
  exact deepMLL_snoc (.cons _ _ _ _ (.refl _) (.cons _ _ _ _ (.refl _) (.cons _ _ _ _ (.none _) (.refl _)))) _
def c42 : PC := .seq (.ops [⟨some 2,.box (.tmp 0),none,0⟩,
 ⟨some 3,.move (.const (.bool false)),none,0⟩] false) (.seq (.ops [⟨some 4,.loadA 3 (.tmp 1),none,0⟩,
 ⟨some 5,.loadA 3 (.tmp 2),none,0⟩,
 ⟨some 6,.call 30 [(.tmp 4), (.tmp 5)],none,0⟩,
 ⟨some 3,.move (.tmp 6),none,0⟩] false) (.ret))
set_option maxRecDepth 100000 in
theorem c42_ok : FunOK Try.prog 42 7 [.tmp 3] c42 := ⟨⟨Try.f42, Try.func42, rfl, by kernel_rfl, rfl, by kernel_rfl⟩⟩
def c43 : PC := .seq (.ops [⟨some 2,.box (.tmp 0),none,0⟩,
 ⟨some 3,.move (.const (.bool false)),none,0⟩] false) (.seq (.ops [⟨some 4,.faddr 1 (.tmp 2),none,0⟩,
 ⟨some 5,.load1 (.tmp 4),none,0⟩,
 ⟨some 6,.load1 (.tmp 1),none,0⟩,
 ⟨some 7,.bin .eql (.tmp 5) (.tmp 6),none,0⟩,
 ⟨some 3,.move (.tmp 7),none,0⟩] false) (.ret))
set_option maxRecDepth 100000 in
theorem c43_ok : FunOK Try.prog 43 8 [.tmp 3] c43 := ⟨⟨Try.f43, Try.func43, rfl, by kernel_rfl, rfl, by kernel_rfl⟩⟩
def c40_1 : PC := .seq (.seq (.ops [⟨some 30,.move (.tmp 5),none,0⟩,
 ⟨some 31,.faddr 2 (.tmp 4),none,0⟩,
 ⟨some 32,.load1 (.tmp 31),none,0⟩,
 ⟨some 33,.len (.tmp 32),none,0⟩,
 ⟨some 34,.bin .lss (.tmp 30) (.tmp 33),none,0⟩] false) (.cond (.tmp 34) (.skip) (.exit 1))) (.seq (.block 2 (.ops [⟨some 37,.load1 (.tmp 3),none,0⟩,
 ⟨some 38,.faddr 2 (.tmp 4),none,0⟩,
 ⟨some 39,.load1 (.tmp 38),none,2⟩,
 ⟨some 40,.move (.tmp 5),none,0⟩,
 ⟨some 41,.iaddr 3 (.tmp 39) (.tmp 40),none,14⟩,
 ⟨some 42,.loadA 3 (.tmp 41),none,30⟩,
 ⟨some 43,.callv (.tmp 37) [(.tmp 42)],none,63⟩] true)) (.ops [⟨some 35,.move (.tmp 5),none,0⟩,
 ⟨some 36,.bin .add (.tmp 35) (.const (.int .i64 1)),none,0⟩,
 ⟨some 5,.move (.tmp 36),none,0⟩] false))
def c40 : PC := .seq (.ops [⟨some 4,.box (.tmp 0),none,0⟩] false) (.seq (.seq (.ops [⟨some 6,.faddr 0 (.tmp 4),none,0⟩,
 ⟨some 7,.load1 (.tmp 6),none,0⟩] false) (.block 0 (.seq (.ops [⟨some 9,.bin .eql (.tmp 7) (.const (.int .i64 3)),none,0⟩,
 ⟨some 8,.move (.tmp 9),none,0⟩] false) (.cond (.tmp 8) (.ops [⟨some 10,.load1 (.tmp 1),none,0⟩,
 ⟨some 11,.loadA 3 (.tmp 4),none,0⟩,
 ⟨some 12,.len (.tmp 10),none,1⟩,
 ⟨some 13,.bslice 3 1 [(.const (.agg #[.int .i64 0, .int .i64 0, .slice none 0 0]))],none,0⟩,
 ⟨some 14,.append 3 40 (.tmp 10) (.tmp 13),none,15⟩,
 ⟨some 15,.iaddr 3 (.tmp 14) (.tmp 12),none,31⟩,
 ⟨none,.store 3 (.tmp 15) (.tmp 11),none,63⟩,
 ⟨none,.store 1 (.tmp 1) (.tmp 14),none,31⟩] true) (.seq (.seq (.ops [⟨some 17,.bin .eql (.tmp 7) (.const (.int .i64 7)),none,0⟩,
 ⟨some 16,.move (.tmp 17),none,0⟩] false) (.cond (.tmp 16) (.skip) (.seq (.ops [⟨some 18,.bin .eql (.tmp 7) (.const (.int .i64 8)),none,0⟩,
 ⟨some 16,.move (.tmp 18),none,0⟩] false) (.cond (.tmp 16) (.skip) (.ops [⟨some 19,.bin .eql (.tmp 7) (.const (.int .i64 9)),none,0⟩,
 ⟨some 16,.move (.tmp 19),none,0⟩] false))))) (.cond (.tmp 16) (.seq (.ops [⟨some 20,.load1 (.tmp 2),none,0⟩,
 ⟨some 21,.mkfn (.func 42) [] [(.tmp 4)],none,0⟩,
 ⟨some 22,.call 41 [(.tmp 20), (.tmp 21)],none,0⟩,
 ⟨some 23,.un .not (.tmp 22),none,0⟩] false) (.cond (.tmp 23) (.ops [⟨some 24,.load1 (.tmp 2),none,0⟩,
 ⟨some 25,.loadA 3 (.tmp 4),none,0⟩,
 ⟨some 26,.len (.tmp 24),none,1⟩,
 ⟨some 27,.bslice 3 1 [(.const (.agg #[.int .i64 0, .int .i64 0, .slice none 0 0]))],none,0⟩,
 ⟨some 28,.append 3 40 (.tmp 24) (.tmp 27),none,15⟩,
 ⟨some 29,.iaddr 3 (.tmp 28) (.tmp 26),none,31⟩,
 ⟨none,.store 3 (.tmp 29) (.tmp 25),none,63⟩,
 ⟨none,.store 1 (.tmp 2) (.tmp 28),none,31⟩] true) (.skip))) (.skip))))))) (.seq (.ops [⟨some 5,.move (.const (.int .i64 0)),none,0⟩] false) (.block 1 (.loop c40_1))))
set_option maxRecDepth 100000 in
theorem c40_ok : FunOK Try.prog 40 44 [] c40 := ⟨⟨Try.f40, Try.func40, rfl, by kernel_rfl, rfl, by kernel_rfl⟩⟩
theorem el_same (f : Tree) (hf : Small f) (g : Tree) : PCall Try.prog 42 [dtree g, .ipt (drow f)] (.sc (.bool (eqT f g))) := by
  refine pcall_intro c42_ok (by simp) (by simp [PureL, Pure, pure_dtree, pure_drow]) ?_ (by simp [Pure])
  (apply rd_sound; focus (repeat' constructor))
  ((conv=>whnf);repeat(refine .intro rfl ?_;conv=>whnf))
  (refine .inl ⟨_, (ref_SameLtl f g hf), ?_⟩; ((conv=>whnf);repeat(refine .intro rfl ?_;conv=>whnf)))
  exact .refl _
theorem el_num (g : Tree) (n : Int) : PCall Try.prog 43 [dtree g, .ipt [.sc (.int .i64 n)]] (.sc (.bool (g.num == n))) := by
  refine pcall_intro c43_ok (by simp) (by simp [PureL, Pure, pure_dtree]) ?_ (by simp [Pure])
  (apply rd_sound; focus (repeat' constructor))
  ((conv=>whnf);repeat(refine .intro rfl ?_;conv=>whnf))
  exact .refl _
def LookI (t : Tree) : Prop := ∀ (Q P : List Tree), Q.length + (atomsOf t).length ≤ 1000 → P.length + (partsOf t).length ≤ 1000 →
    ACall Try.prog 40 [dtree t, .loc 0 0, .loc 1 0, .loc 2 0] (eheap Q P) (.tup []) (eheap (Q ++ atomTs (atomsOf t)) (addT P (partsOf t)))
theorem atomTs_app (A B : List Int) : atomTs A ++ atomTs B = atomTs (A ++ B) := by simp [atomTs]
set_option maxRecDepth 100000 in
theorem el_look : ∀ t : Tree, t.wf lKids → LookI t := by
  intro t
  induction t using Tree.ind with
  | h t ih =>
    intro hwf Q P hA hP
    have hs := wf_small t hwf
    have hsz := hs.width
    have har := node_arity ((wf_iff _ _).1 hwf).1
    refine acall_introD c40_ok (by simp) (by simp [eheap]) ?_ trivial
    have eA := atomsOf_eq t
    have eP := partsOf_eq t
    unfold eheap
    (apply rd_sound; focus (repeat' constructor))
    ((conv=>whnf);repeat(refine .intro rfl ?_;conv=>whnf))
    (refine ifK_split (fun k3 => ?_) (fun k3 => ?_) <;> (rw [k3]; ((conv=>whnf);repeat(refine .intro rfl ?_;conv=>whnf))))
    · have k3 : t.kind = 3 := by simpa using k3
      rw [if_pos k3] at eA
      rw [if_neg (by omega)] at eP
      rw [eA, List.length_append, List.length_singleton] at hA
      refine ⟨(by unfold sliceAppend; simp only [ll]; omega), ?_⟩
      ((conv=>whnf);repeat(refine .intro rfl ?_;conv=>whnf))
      (refine ⟨by omega, (by first | omega | (simp; done) | (simp; omega) | (simp only [ll]; omega)), ?_⟩; ((conv=>whnf);repeat(refine .intro rfl ?_;conv=>whnf)))
      refine ⟨_, tsnoc_at Q _, ?_⟩
      ((conv=>whnf);repeat(refine .intro rfl ?_;conv=>whnf))
      refine pwp_ghostB (leB_close 7 (env' := [(3, .loc 2 0), (4, .loc 5 0), (5, .sc (.int .i64 0))]) (H' := [.row true [.own 3 (Q.length + 1) 0 (Q.length + 1)], .row true [.own 4 P.length 0 P.length], .row true [.fn (.func 40) [] [.loc 0 0, .loc 1 0, .loc 2 0]], .vec true (Q.length + 1) 3 (trows (Q ++ [t])), .vec true P.length 3 (trows P), .row true (drow t), .vec true 0 3 [[.sc (.int .i64 0), .sc (.int .i64 0), .sc (.slice none 0 0)]]]) (by simp) rfl ?_ ?_) ?_
      · (repeat' (first | exact trivial | exact rfl | exact DeepM.refl _ | exact DeepML.refl _ | exact DeepMLL.refl _ | refine And.intro ?_ ?_ | (simp [Under, UnderL, UnderLL, -List.map_take, -List.map_drop]; done)))
      · (repeat' (first | exact trivial | exact rfl | exact DeepM.refl _ | exact DeepML.refl _ | exact DeepMLL.refl _ | refine And.intro ?_ ?_ | (simp [Under, UnderL, UnderLL, -List.map_take, -List.map_drop]; done)))
        all_goals first | exact underL_pure _ (pure_drow _) | exact deepMLL_eq (tsnoc_set Q t _) | skip
      rw [show Q.length + 1 = (Q ++ [t]).length by simp, show Q ++ [t] = Q ++ atomTs [t.num] by rw [show atomTs [t.num] = [atomT t.num] from rfl, ← atom_eq hwf k3]]
      have lA : Q.length + 1 + (atomsF t.kids).length ≤ 1000 := by omega
      have lP : P.length + (partsF t.kids).length ≤ 1000 := by rw [eP, List.nil_append] at hP; exact hP
      rw [eA, eP, ← atomTs_app, List.nil_append, ← List.append_assoc]
      have lQ1 : (Q ++ atomTs [t.num]).length ≤ Q.length + 1 := by simp
      generalize Q ++ atomTs [t.num] = Q1 at *
      refine pwp_forH [3, 4] (fun k : Nat => [(5, .sc (.int .i64 k))]) (fun k => eheap (Q1 ++ atomTs (atomsF (t.kids.take k))) (addT P (partsF (t.kids.take k))) ++ [.row true (drow t), .vec true 0 3 [[.sc (.int .i64 0), .sc (.int .i64 0), .sc (.slice none 0 0)]]]) (fun k => k ≤ t.width) (fun k => t.width - k) 0 ?_
      ((conv=>whnf);repeat(refine .intro rfl ?_;conv=>whnf))
      refine ⟨by omega, by (repeat' (first | exact trivial | refine And.intro rfl ?_)), by simp [eheap, atomTs, atomsF, partsF, addT], ?_⟩
      rintro k hk
      have lpk := addT_len (partsF (t.kids.take k)) P
      unfold eheap
      ((conv=>whnf);repeat(refine .intro rfl ?_;conv=>whnf))
      (apply rd_sound; focus (repeat' constructor))
      ((conv=>whnf);repeat(refine .intro rfl ?_;conv=>whnf))
      (refine ifK_split (fun q0 => ?_) (fun q0 => ?_) <;> (rw [q0]; ((conv=>whnf);repeat(refine .intro rfl ?_;conv=>whnf))))
      · have q0 : k < t.width := by simpa [Tree.width] using q0
        refine ⟨by omega, _, kid_at q0, ?_⟩
        ((conv=>whnf);repeat(refine .intro rfl ?_;conv=>whnf))
        have eA2 := atomsF_take q0
        have eP2 := partsF_take q0
        have tA : (atomsF (t.kids.take k)).length + (atomsOf (t.kid k)).length ≤ (atomsF t.kids).length := atomsF_upto q0
        have tP : (partsF (t.kids.take k)).length + (partsOf (t.kid k)).length ≤ (partsF t.kids).length := partsF_upto q0
        have hG := acall_pre (ih k q0 (wf_kid hwf q0) (Q1 ++ atomTs (atomsF (t.kids.take k))) (addT P (partsF (t.kids.take k))) (by simp; omega) (by omega)) [.row true (drow t), .vec true 0 3 [[.sc (.int .i64 0), .sc (.int .i64 0), .sc (.slice none 0 0)]]] (by simp [eheap]) (by simp [eheap, UnderL, Under, under_pure _ (pure_dtree _)]) (underO_eheap (by simp [eheap]))
        rw [List.append_assoc, atomTs_app, ← addT_app, ← eA2, ← eP2] at hG
        unfold eheap at hG
        (refine .inr (.inr (.inr (.inl ⟨_, _, by simp [UnderL, UnderLL, UnderO, AObj.under, Under], by simp [UnderL, UnderLL, UnderO, AObj.under, Under], hG, ?_⟩))); ((conv=>whnf);repeat(refine .intro rfl ?_;conv=>whnf)))
        (refine .inl ⟨by (unfold InR; rw [IntKind.wrap_i64]; omega), ?_⟩; ((conv=>whnf);repeat(refine .intro rfl ?_;conv=>whnf)))
        refine ⟨k + 1, by omega, by dsimp only; omega, ?_⟩
        dsimp only
        (refine leB_close 7 (by simp) rfl ?_ ?_ <;> (repeat' (first | exact trivial | exact rfl | exact DeepM.refl _ | exact DeepML.refl _ | exact DeepMLL.refl _ | refine And.intro ?_ ?_ | (simp [Under, UnderL, UnderLL, -List.map_take, -List.map_drop]; done))))
        all_goals first | exact underL_pure _ (pure_drow _) | exact underLL_pure _ (pure_kids t) | exact underLL_pure _ (pure_trows _) | skip
      · have q0 : k = t.width := by have : ¬ k < t.width := by simpa [Tree.width] using q0
                                    omega
        subst q0
        rw [show t.kids.take t.width = t.kids from List.take_length]
        exact ⟨.refl _, closeH_same _ _ (under_eheap (Nat.le_refl _))⟩
    have k3 : ¬ t.kind = 3 := by simpa using k3
    rw [if_neg k3, List.nil_append] at eA
    rw [eA] at hA
    have lA : Q.length + (atomsF t.kids).length ≤ 1000 := hA
    have lQ1 : Q.length ≤ Q.length := Nat.le_refl _
    (refine ifK_split (fun k7 => ?_) (fun k7 => ?_) <;> (rw [k7]; ((conv=>whnf);repeat(refine .intro rfl ?_;conv=>whnf))))
    · have k7 : t.kind = 7 ∨ t.kind = 8 ∨ t.kind = 9 := .inl (by simpa using k7)
      rw [if_pos k7] at eP
      rw [eP, List.length_append, List.length_singleton] at hP
      (refine .inr (.inl ⟨_, _, (by (repeat' (first | exact Deep.refl _ | exact deepLL_all (by first | (simp; done) | (simp [i64s]; done)) | exact Deep.none _ | exact deep_row _ | exact DeepL.nil | exact DeepLL.nil | refine Deep.agg _ _ ?_ | refine Deep.tup _ _ ?_ | refine Deep.own _ _ _ _ _ _ _ _ rfl ?_ | refine Deep.loc _ _ _ _ _ rfl ?_ | refine Deep.ifc _ _ _ ?_ | refine Deep.fn _ _ _ _ _ ?_ ?_ | refine DeepL.cons _ _ _ _ ?_ ?_ | refine DeepLL.cons _ _ _ _ ?_ ?_ | exact deepLL_refl _))), (containsF_ltl P (by omega) (eqT t) 42 [.ipt (drow t)] (by simp [PureL, Pure, pure_drow]) fun a _ => el_same t hs a), rfl, ?_⟩); ((conv=>whnf);repeat(refine .intro rfl ?_;conv=>whnf)))
      cases r : P.any (eqT t)
      · have hP1 : addT P [t] = P ++ [t] := by rw [addT_one, if_neg (by rw [r]; decide)]
        ((conv=>whnf);repeat(refine .intro rfl ?_;conv=>whnf))
        refine ⟨(by unfold sliceAppend; simp only [ll]; omega), ?_⟩
        ((conv=>whnf);repeat(refine .intro rfl ?_;conv=>whnf))
        (refine ⟨by omega, (by first | omega | (simp; done) | (simp; omega) | (simp only [ll]; omega)), ?_⟩; ((conv=>whnf);repeat(refine .intro rfl ?_;conv=>whnf)))
        refine ⟨_, tsnoc_at P _, ?_⟩
        ((conv=>whnf);repeat(refine .intro rfl ?_;conv=>whnf))
        refine pwp_ghostB (leB_close 7 (env' := [(3, .loc 2 0), (4, .loc 5 0), (5, .sc (.int .i64 0))]) (H' := [.row true [.own 3 Q.length 0 Q.length], .row true [.own 4 (P.length + 1) 0 (P.length + 1)], .row true [.fn (.func 40) [] [.loc 0 0, .loc 1 0, .loc 2 0]], .vec true Q.length 3 (trows Q), .vec true (P.length + 1) 3 (trows (P ++ [t])), .row true (drow t), .vec true 0 3 [[.sc (.int .i64 0), .sc (.int .i64 0), .sc (.slice none 0 0)]]]) (by simp) rfl ?_ ?_) ?_
        · (repeat' (first | exact trivial | exact rfl | exact DeepM.refl _ | exact DeepML.refl _ | exact DeepMLL.refl _ | refine And.intro ?_ ?_ | (simp [Under, UnderL, UnderLL, -List.map_take, -List.map_drop]; done)))
        · (repeat' (first | exact trivial | exact rfl | exact DeepM.refl _ | exact DeepML.refl _ | exact DeepMLL.refl _ | refine And.intro ?_ ?_ | (simp [Under, UnderL, UnderLL, -List.map_take, -List.map_drop]; done)))
          all_goals first | exact underL_pure _ (pure_drow _) | exact deepMLL_eq (tsnoc_set P t _) | skip
        rw [show P.length + 1 = (P ++ [t]).length by simp, ← hP1]
        have lP : P.length + 1 + (partsF t.kids).length ≤ 1000 := by omega
        have lP1 : (addT P [t]).length ≤ P.length + 1 := by rw [hP1]; simp
        rw [eA, eP, addT_app]
        generalize addT P [t] = P1 at *
        refine pwp_forH [3, 4] (fun k : Nat => [(5, .sc (.int .i64 k))]) (fun k => eheap (Q ++ atomTs (atomsF (t.kids.take k))) (addT P1 (partsF (t.kids.take k))) ++ [.row true (drow t), .vec true 0 3 [[.sc (.int .i64 0), .sc (.int .i64 0), .sc (.slice none 0 0)]]]) (fun k => k ≤ t.width) (fun k => t.width - k) 0 ?_
        ((conv=>whnf);repeat(refine .intro rfl ?_;conv=>whnf))
        refine ⟨by omega, by (repeat' (first | exact trivial | refine And.intro rfl ?_)), by simp [eheap, atomTs, atomsF, partsF, addT], ?_⟩
        rintro k hk
        have lpk := addT_len (partsF (t.kids.take k)) P1
        unfold eheap
        ((conv=>whnf);repeat(refine .intro rfl ?_;conv=>whnf))
        (apply rd_sound; focus (repeat' constructor))
        ((conv=>whnf);repeat(refine .intro rfl ?_;conv=>whnf))
        (refine ifK_split (fun q0 => ?_) (fun q0 => ?_) <;> (rw [q0]; ((conv=>whnf);repeat(refine .intro rfl ?_;conv=>whnf))))
        · have q0 : k < t.width := by simpa [Tree.width] using q0
          refine ⟨by omega, _, kid_at q0, ?_⟩
          ((conv=>whnf);repeat(refine .intro rfl ?_;conv=>whnf))
          have eA2 := atomsF_take q0
          have eP2 := partsF_take q0
          have tA : (atomsF (t.kids.take k)).length + (atomsOf (t.kid k)).length ≤ (atomsF t.kids).length := atomsF_upto q0
          have tP : (partsF (t.kids.take k)).length + (partsOf (t.kid k)).length ≤ (partsF t.kids).length := partsF_upto q0
          have hG := acall_pre (ih k q0 (wf_kid hwf q0) (Q ++ atomTs (atomsF (t.kids.take k))) (addT P1 (partsF (t.kids.take k))) (by simp; omega) (by omega)) [.row true (drow t), .vec true 0 3 [[.sc (.int .i64 0), .sc (.int .i64 0), .sc (.slice none 0 0)]]] (by simp [eheap]) (by simp [eheap, UnderL, Under, under_pure _ (pure_dtree _)]) (underO_eheap (by simp [eheap]))
          rw [List.append_assoc, atomTs_app, ← addT_app, ← eA2, ← eP2] at hG
          unfold eheap at hG
          (refine .inr (.inr (.inr (.inl ⟨_, _, by simp [UnderL, UnderLL, UnderO, AObj.under, Under], by simp [UnderL, UnderLL, UnderO, AObj.under, Under], hG, ?_⟩))); ((conv=>whnf);repeat(refine .intro rfl ?_;conv=>whnf)))
          (refine .inl ⟨by (unfold InR; rw [IntKind.wrap_i64]; omega), ?_⟩; ((conv=>whnf);repeat(refine .intro rfl ?_;conv=>whnf)))
          refine ⟨k + 1, by omega, by dsimp only; omega, ?_⟩
          dsimp only
          (refine leB_close 7 (by simp) rfl ?_ ?_ <;> (repeat' (first | exact trivial | exact rfl | exact DeepM.refl _ | exact DeepML.refl _ | exact DeepMLL.refl _ | refine And.intro ?_ ?_ | (simp [Under, UnderL, UnderLL, -List.map_take, -List.map_drop]; done))))
          all_goals first | exact underL_pure _ (pure_drow _) | exact underLL_pure _ (pure_kids t) | exact underLL_pure _ (pure_trows _) | skip
        · have q0 : k = t.width := by have : ¬ k < t.width := by simpa [Tree.width] using q0
                                      omega
          subst q0
          rw [show t.kids.take t.width = t.kids from List.take_length]
          exact ⟨.refl _, closeH_same _ _ (under_eheap (Nat.le_refl _))⟩
      · have hP1 : addT P [t] = P := by rw [addT_one, if_pos r]
        ((conv=>whnf);repeat(refine .intro rfl ?_;conv=>whnf))
        have lP : P.length + (partsF t.kids).length ≤ 1000 := by omega
        rw [eA, eP, addT_app, hP1]
        refine pwp_forH [3, 4] (fun k : Nat => [(5, .sc (.int .i64 k))]) (fun k => eheap (Q ++ atomTs (atomsF (t.kids.take k))) (addT P (partsF (t.kids.take k))) ++ [.row true (drow t)]) (fun k => k ≤ t.width) (fun k => t.width - k) 0 ?_
        ((conv=>whnf);repeat(refine .intro rfl ?_;conv=>whnf))
        refine ⟨by omega, by (repeat' (first | exact trivial | refine And.intro rfl ?_)), by simp [eheap, atomTs, atomsF, partsF, addT], ?_⟩
        rintro k hk
        have lpk := addT_len (partsF (t.kids.take k)) P
        unfold eheap
        ((conv=>whnf);repeat(refine .intro rfl ?_;conv=>whnf))
        (apply rd_sound; focus (repeat' constructor))
        ((conv=>whnf);repeat(refine .intro rfl ?_;conv=>whnf))
        (refine ifK_split (fun q0 => ?_) (fun q0 => ?_) <;> (rw [q0]; ((conv=>whnf);repeat(refine .intro rfl ?_;conv=>whnf))))
        · have q0 : k < t.width := by simpa [Tree.width] using q0
          refine ⟨by omega, _, kid_at q0, ?_⟩
          ((conv=>whnf);repeat(refine .intro rfl ?_;conv=>whnf))
          have eA2 := atomsF_take q0
          have eP2 := partsF_take q0
          have tA : (atomsF (t.kids.take k)).length + (atomsOf (t.kid k)).length ≤ (atomsF t.kids).length := atomsF_upto q0
          have tP : (partsF (t.kids.take k)).length + (partsOf (t.kid k)).length ≤ (partsF t.kids).length := partsF_upto q0
          have hG := acall_pre (ih k q0 (wf_kid hwf q0) (Q ++ atomTs (atomsF (t.kids.take k))) (addT P (partsF (t.kids.take k))) (by simp; omega) (by omega)) [.row true (drow t)] (by simp [eheap]) (by simp [eheap, UnderL, Under, under_pure _ (pure_dtree _)]) (underO_eheap (by simp [eheap]))
          rw [List.append_assoc, atomTs_app, ← addT_app, ← eA2, ← eP2] at hG
          unfold eheap at hG
          (refine .inr (.inr (.inr (.inl ⟨_, _, by simp [UnderL, UnderLL, UnderO, AObj.under, Under], by simp [UnderL, UnderLL, UnderO, AObj.under, Under], hG, ?_⟩))); ((conv=>whnf);repeat(refine .intro rfl ?_;conv=>whnf)))
          (refine .inl ⟨by (unfold InR; rw [IntKind.wrap_i64]; omega), ?_⟩; ((conv=>whnf);repeat(refine .intro rfl ?_;conv=>whnf)))
          refine ⟨k + 1, by omega, by dsimp only; omega, ?_⟩
          dsimp only
          (refine leB_close 6 (by simp) rfl ?_ ?_ <;> (repeat' (first | exact trivial | exact rfl | exact DeepM.refl _ | exact DeepML.refl _ | exact DeepMLL.refl _ | refine And.intro ?_ ?_ | (simp [Under, UnderL, UnderLL, -List.map_take, -List.map_drop]; done))))
          all_goals first | exact underL_pure _ (pure_drow _) | exact underLL_pure _ (pure_kids t) | exact underLL_pure _ (pure_trows _) | skip
        · have q0 : k = t.width := by have : ¬ k < t.width := by simpa [Tree.width] using q0
                                      omega
          subst q0
          rw [show t.kids.take t.width = t.kids from List.take_length]
          exact ⟨.refl _, closeH_same _ _ (under_eheap (Nat.le_refl _))⟩
    (refine ifK_split (fun k8 => ?_) (fun k8 => ?_) <;> (rw [k8]; ((conv=>whnf);repeat(refine .intro rfl ?_;conv=>whnf))))
    · have k7 : t.kind = 7 ∨ t.kind = 8 ∨ t.kind = 9 := .inr (.inl (by simpa using k8))
      rw [if_pos k7] at eP
      rw [eP, List.length_append, List.length_singleton] at hP
      (refine .inr (.inl ⟨_, _, (by (repeat' (first | exact Deep.refl _ | exact deepLL_all (by first | (simp; done) | (simp [i64s]; done)) | exact Deep.none _ | exact deep_row _ | exact DeepL.nil | exact DeepLL.nil | refine Deep.agg _ _ ?_ | refine Deep.tup _ _ ?_ | refine Deep.own _ _ _ _ _ _ _ _ rfl ?_ | refine Deep.loc _ _ _ _ _ rfl ?_ | refine Deep.ifc _ _ _ ?_ | refine Deep.fn _ _ _ _ _ ?_ ?_ | refine DeepL.cons _ _ _ _ ?_ ?_ | refine DeepLL.cons _ _ _ _ ?_ ?_ | exact deepLL_refl _))), (containsF_ltl P (by omega) (eqT t) 42 [.ipt (drow t)] (by simp [PureL, Pure, pure_drow]) fun a _ => el_same t hs a), rfl, ?_⟩); ((conv=>whnf);repeat(refine .intro rfl ?_;conv=>whnf)))
      cases r : P.any (eqT t)
      · have hP1 : addT P [t] = P ++ [t] := by rw [addT_one, if_neg (by rw [r]; decide)]
        ((conv=>whnf);repeat(refine .intro rfl ?_;conv=>whnf))
        refine ⟨(by unfold sliceAppend; simp only [ll]; omega), ?_⟩
        ((conv=>whnf);repeat(refine .intro rfl ?_;conv=>whnf))
        (refine ⟨by omega, (by first | omega | (simp; done) | (simp; omega) | (simp only [ll]; omega)), ?_⟩; ((conv=>whnf);repeat(refine .intro rfl ?_;conv=>whnf)))
        refine ⟨_, tsnoc_at P _, ?_⟩
        ((conv=>whnf);repeat(refine .intro rfl ?_;conv=>whnf))
        refine pwp_ghostB (leB_close 7 (env' := [(3, .loc 2 0), (4, .loc 5 0), (5, .sc (.int .i64 0))]) (H' := [.row true [.own 3 Q.length 0 Q.length], .row true [.own 4 (P.length + 1) 0 (P.length + 1)], .row true [.fn (.func 40) [] [.loc 0 0, .loc 1 0, .loc 2 0]], .vec true Q.length 3 (trows Q), .vec true (P.length + 1) 3 (trows (P ++ [t])), .row true (drow t), .vec true 0 3 [[.sc (.int .i64 0), .sc (.int .i64 0), .sc (.slice none 0 0)]]]) (by simp) rfl ?_ ?_) ?_
        · (repeat' (first | exact trivial | exact rfl | exact DeepM.refl _ | exact DeepML.refl _ | exact DeepMLL.refl _ | refine And.intro ?_ ?_ | (simp [Under, UnderL, UnderLL, -List.map_take, -List.map_drop]; done)))
        · (repeat' (first | exact trivial | exact rfl | exact DeepM.refl _ | exact DeepML.refl _ | exact DeepMLL.refl _ | refine And.intro ?_ ?_ | (simp [Under, UnderL, UnderLL, -List.map_take, -List.map_drop]; done)))
          all_goals first | exact underL_pure _ (pure_drow _) | exact deepMLL_eq (tsnoc_set P t _) | skip
        rw [show P.length + 1 = (P ++ [t]).length by simp, ← hP1]
        have lP : P.length + 1 + (partsF t.kids).length ≤ 1000 := by omega
        have lP1 : (addT P [t]).length ≤ P.length + 1 := by rw [hP1]; simp
        rw [eA, eP, addT_app]
        generalize addT P [t] = P1 at *
        refine pwp_forH [3, 4] (fun k : Nat => [(5, .sc (.int .i64 k))]) (fun k => eheap (Q ++ atomTs (atomsF (t.kids.take k))) (addT P1 (partsF (t.kids.take k))) ++ [.row true (drow t), .vec true 0 3 [[.sc (.int .i64 0), .sc (.int .i64 0), .sc (.slice none 0 0)]]]) (fun k => k ≤ t.width) (fun k => t.width - k) 0 ?_
        ((conv=>whnf);repeat(refine .intro rfl ?_;conv=>whnf))
        refine ⟨by omega, by (repeat' (first | exact trivial | refine And.intro rfl ?_)), by simp [eheap, atomTs, atomsF, partsF, addT], ?_⟩
        rintro k hk
        have lpk := addT_len (partsF (t.kids.take k)) P1
        unfold eheap
        ((conv=>whnf);repeat(refine .intro rfl ?_;conv=>whnf))
        (apply rd_sound; focus (repeat' constructor))
        ((conv=>whnf);repeat(refine .intro rfl ?_;conv=>whnf))
        (refine ifK_split (fun q0 => ?_) (fun q0 => ?_) <;> (rw [q0]; ((conv=>whnf);repeat(refine .intro rfl ?_;conv=>whnf))))
        · have q0 : k < t.width := by simpa [Tree.width] using q0
          refine ⟨by omega, _, kid_at q0, ?_⟩
          ((conv=>whnf);repeat(refine .intro rfl ?_;conv=>whnf))
          have eA2 := atomsF_take q0
          have eP2 := partsF_take q0
          have tA : (atomsF (t.kids.take k)).length + (atomsOf (t.kid k)).length ≤ (atomsF t.kids).length := atomsF_upto q0
          have tP : (partsF (t.kids.take k)).length + (partsOf (t.kid k)).length ≤ (partsF t.kids).length := partsF_upto q0
          have hG := acall_pre (ih k q0 (wf_kid hwf q0) (Q ++ atomTs (atomsF (t.kids.take k))) (addT P1 (partsF (t.kids.take k))) (by simp; omega) (by omega)) [.row true (drow t), .vec true 0 3 [[.sc (.int .i64 0), .sc (.int .i64 0), .sc (.slice none 0 0)]]] (by simp [eheap]) (by simp [eheap, UnderL, Under, under_pure _ (pure_dtree _)]) (underO_eheap (by simp [eheap]))
          rw [List.append_assoc, atomTs_app, ← addT_app, ← eA2, ← eP2] at hG
          unfold eheap at hG
          (refine .inr (.inr (.inr (.inl ⟨_, _, by simp [UnderL, UnderLL, UnderO, AObj.under, Under], by simp [UnderL, UnderLL, UnderO, AObj.under, Under], hG, ?_⟩))); ((conv=>whnf);repeat(refine .intro rfl ?_;conv=>whnf)))
          (refine .inl ⟨by (unfold InR; rw [IntKind.wrap_i64]; omega), ?_⟩; ((conv=>whnf);repeat(refine .intro rfl ?_;conv=>whnf)))
          refine ⟨k + 1, by omega, by dsimp only; omega, ?_⟩
          dsimp only
          (refine leB_close 7 (by simp) rfl ?_ ?_ <;> (repeat' (first | exact trivial | exact rfl | exact DeepM.refl _ | exact DeepML.refl _ | exact DeepMLL.refl _ | refine And.intro ?_ ?_ | (simp [Under, UnderL, UnderLL, -List.map_take, -List.map_drop]; done))))
          all_goals first | exact underL_pure _ (pure_drow _) | exact underLL_pure _ (pure_kids t) | exact underLL_pure _ (pure_trows _) | skip
        · have q0 : k = t.width := by have : ¬ k < t.width := by simpa [Tree.width] using q0
                                      omega
          subst q0
          rw [show t.kids.take t.width = t.kids from List.take_length]
          exact ⟨.refl _, closeH_same _ _ (under_eheap (Nat.le_refl _))⟩
      · have hP1 : addT P [t] = P := by rw [addT_one, if_pos r]
        ((conv=>whnf);repeat(refine .intro rfl ?_;conv=>whnf))
        have lP : P.length + (partsF t.kids).length ≤ 1000 := by omega
        rw [eA, eP, addT_app, hP1]
        refine pwp_forH [3, 4] (fun k : Nat => [(5, .sc (.int .i64 k))]) (fun k => eheap (Q ++ atomTs (atomsF (t.kids.take k))) (addT P (partsF (t.kids.take k))) ++ [.row true (drow t)]) (fun k => k ≤ t.width) (fun k => t.width - k) 0 ?_
        ((conv=>whnf);repeat(refine .intro rfl ?_;conv=>whnf))
        refine ⟨by omega, by (repeat' (first | exact trivial | refine And.intro rfl ?_)), by simp [eheap, atomTs, atomsF, partsF, addT], ?_⟩
        rintro k hk
        have lpk := addT_len (partsF (t.kids.take k)) P
        unfold eheap
        ((conv=>whnf);repeat(refine .intro rfl ?_;conv=>whnf))
        (apply rd_sound; focus (repeat' constructor))
        ((conv=>whnf);repeat(refine .intro rfl ?_;conv=>whnf))
        (refine ifK_split (fun q0 => ?_) (fun q0 => ?_) <;> (rw [q0]; ((conv=>whnf);repeat(refine .intro rfl ?_;conv=>whnf))))
        · have q0 : k < t.width := by simpa [Tree.width] using q0
          refine ⟨by omega, _, kid_at q0, ?_⟩
          ((conv=>whnf);repeat(refine .intro rfl ?_;conv=>whnf))
          have eA2 := atomsF_take q0
          have eP2 := partsF_take q0
          have tA : (atomsF (t.kids.take k)).length + (atomsOf (t.kid k)).length ≤ (atomsF t.kids).length := atomsF_upto q0
          have tP : (partsF (t.kids.take k)).length + (partsOf (t.kid k)).length ≤ (partsF t.kids).length := partsF_upto q0
          have hG := acall_pre (ih k q0 (wf_kid hwf q0) (Q ++ atomTs (atomsF (t.kids.take k))) (addT P (partsF (t.kids.take k))) (by simp; omega) (by omega)) [.row true (drow t)] (by simp [eheap]) (by simp [eheap, UnderL, Under, under_pure _ (pure_dtree _)]) (underO_eheap (by simp [eheap]))
          rw [List.append_assoc, atomTs_app, ← addT_app, ← eA2, ← eP2] at hG
          unfold eheap at hG
          (refine .inr (.inr (.inr (.inl ⟨_, _, by simp [UnderL, UnderLL, UnderO, AObj.under, Under], by simp [UnderL, UnderLL, UnderO, AObj.under, Under], hG, ?_⟩))); ((conv=>whnf);repeat(refine .intro rfl ?_;conv=>whnf)))
          (refine .inl ⟨by (unfold InR; rw [IntKind.wrap_i64]; omega), ?_⟩; ((conv=>whnf);repeat(refine .intro rfl ?_;conv=>whnf)))
          refine ⟨k + 1, by omega, by dsimp only; omega, ?_⟩
          dsimp only
          (refine leB_close 6 (by simp) rfl ?_ ?_ <;> (repeat' (first | exact trivial | exact rfl | exact DeepM.refl _ | exact DeepML.refl _ | exact DeepMLL.refl _ | refine And.intro ?_ ?_ | (simp [Under, UnderL, UnderLL, -List.map_take, -List.map_drop]; done))))
          all_goals first | exact underL_pure _ (pure_drow _) | exact underLL_pure _ (pure_kids t) | exact underLL_pure _ (pure_trows _) | skip
        · have q0 : k = t.width := by have : ¬ k < t.width := by simpa [Tree.width] using q0
                                      omega
          subst q0
          rw [show t.kids.take t.width = t.kids from List.take_length]
          exact ⟨.refl _, closeH_same _ _ (under_eheap (Nat.le_refl _))⟩
    (refine ifK_split (fun k9 => ?_) (fun k9 => ?_) <;> (rw [k9]; ((conv=>whnf);repeat(refine .intro rfl ?_;conv=>whnf))))
    · have k7 : t.kind = 7 ∨ t.kind = 8 ∨ t.kind = 9 := .inr (.inr (by simpa using k9))
      rw [if_pos k7] at eP
      rw [eP, List.length_append, List.length_singleton] at hP
      (refine .inr (.inl ⟨_, _, (by (repeat' (first | exact Deep.refl _ | exact deepLL_all (by first | (simp; done) | (simp [i64s]; done)) | exact Deep.none _ | exact deep_row _ | exact DeepL.nil | exact DeepLL.nil | refine Deep.agg _ _ ?_ | refine Deep.tup _ _ ?_ | refine Deep.own _ _ _ _ _ _ _ _ rfl ?_ | refine Deep.loc _ _ _ _ _ rfl ?_ | refine Deep.ifc _ _ _ ?_ | refine Deep.fn _ _ _ _ _ ?_ ?_ | refine DeepL.cons _ _ _ _ ?_ ?_ | refine DeepLL.cons _ _ _ _ ?_ ?_ | exact deepLL_refl _))), (containsF_ltl P (by omega) (eqT t) 42 [.ipt (drow t)] (by simp [PureL, Pure, pure_drow]) fun a _ => el_same t hs a), rfl, ?_⟩); ((conv=>whnf);repeat(refine .intro rfl ?_;conv=>whnf)))
      cases r : P.any (eqT t)
      · have hP1 : addT P [t] = P ++ [t] := by rw [addT_one, if_neg (by rw [r]; decide)]
        ((conv=>whnf);repeat(refine .intro rfl ?_;conv=>whnf))
        refine ⟨(by unfold sliceAppend; simp only [ll]; omega), ?_⟩
        ((conv=>whnf);repeat(refine .intro rfl ?_;conv=>whnf))
        (refine ⟨by omega, (by first | omega | (simp; done) | (simp; omega) | (simp only [ll]; omega)), ?_⟩; ((conv=>whnf);repeat(refine .intro rfl ?_;conv=>whnf)))
        refine ⟨_, tsnoc_at P _, ?_⟩
        ((conv=>whnf);repeat(refine .intro rfl ?_;conv=>whnf))
        refine pwp_ghostB (leB_close 7 (env' := [(3, .loc 2 0), (4, .loc 5 0), (5, .sc (.int .i64 0))]) (H' := [.row true [.own 3 Q.length 0 Q.length], .row true [.own 4 (P.length + 1) 0 (P.length + 1)], .row true [.fn (.func 40) [] [.loc 0 0, .loc 1 0, .loc 2 0]], .vec true Q.length 3 (trows Q), .vec true (P.length + 1) 3 (trows (P ++ [t])), .row true (drow t), .vec true 0 3 [[.sc (.int .i64 0), .sc (.int .i64 0), .sc (.slice none 0 0)]]]) (by simp) rfl ?_ ?_) ?_
        · (repeat' (first | exact trivial | exact rfl | exact DeepM.refl _ | exact DeepML.refl _ | exact DeepMLL.refl _ | refine And.intro ?_ ?_ | (simp [Under, UnderL, UnderLL, -List.map_take, -List.map_drop]; done)))
        · (repeat' (first | exact trivial | exact rfl | exact DeepM.refl _ | exact DeepML.refl _ | exact DeepMLL.refl _ | refine And.intro ?_ ?_ | (simp [Under, UnderL, UnderLL, -List.map_take, -List.map_drop]; done)))
          all_goals first | exact underL_pure _ (pure_drow _) | exact deepMLL_eq (tsnoc_set P t _) | skip
        rw [show P.length + 1 = (P ++ [t]).length by simp, ← hP1]
        have lP : P.length + 1 + (partsF t.kids).length ≤ 1000 := by omega
        have lP1 : (addT P [t]).length ≤ P.length + 1 := by rw [hP1]; simp
        rw [eA, eP, addT_app]
        generalize addT P [t] = P1 at *
        refine pwp_forH [3, 4] (fun k : Nat => [(5, .sc (.int .i64 k))]) (fun k => eheap (Q ++ atomTs (atomsF (t.kids.take k))) (addT P1 (partsF (t.kids.take k))) ++ [.row true (drow t), .vec true 0 3 [[.sc (.int .i64 0), .sc (.int .i64 0), .sc (.slice none 0 0)]]]) (fun k => k ≤ t.width) (fun k => t.width - k) 0 ?_
        ((conv=>whnf);repeat(refine .intro rfl ?_;conv=>whnf))
        refine ⟨by omega, by (repeat' (first | exact trivial | refine And.intro rfl ?_)), by simp [eheap, atomTs, atomsF, partsF, addT], ?_⟩
        rintro k hk
        have lpk := addT_len (partsF (t.kids.take k)) P1
        unfold eheap
        ((conv=>whnf);repeat(refine .intro rfl ?_;conv=>whnf))
        (apply rd_sound; focus (repeat' constructor))
        ((conv=>whnf);repeat(refine .intro rfl ?_;conv=>whnf))
        (refine ifK_split (fun q0 => ?_) (fun q0 => ?_) <;> (rw [q0]; ((conv=>whnf);repeat(refine .intro rfl ?_;conv=>whnf))))
        · have q0 : k < t.width := by simpa [Tree.width] using q0
          refine ⟨by omega, _, kid_at q0, ?_⟩
          ((conv=>whnf);repeat(refine .intro rfl ?_;conv=>whnf))
          have eA2 := atomsF_take q0
          have eP2 := partsF_take q0
          have tA : (atomsF (t.kids.take k)).length + (atomsOf (t.kid k)).length ≤ (atomsF t.kids).length := atomsF_upto q0
          have tP : (partsF (t.kids.take k)).length + (partsOf (t.kid k)).length ≤ (partsF t.kids).length := partsF_upto q0
          have hG := acall_pre (ih k q0 (wf_kid hwf q0) (Q ++ atomTs (atomsF (t.kids.take k))) (addT P1 (partsF (t.kids.take k))) (by simp; omega) (by omega)) [.row true (drow t), .vec true 0 3 [[.sc (.int .i64 0), .sc (.int .i64 0), .sc (.slice none 0 0)]]] (by simp [eheap]) (by simp [eheap, UnderL, Under, under_pure _ (pure_dtree _)]) (underO_eheap (by simp [eheap]))
          rw [List.append_assoc, atomTs_app, ← addT_app, ← eA2, ← eP2] at hG
          unfold eheap at hG
          (refine .inr (.inr (.inr (.inl ⟨_, _, by simp [UnderL, UnderLL, UnderO, AObj.under, Under], by simp [UnderL, UnderLL, UnderO, AObj.under, Under], hG, ?_⟩))); ((conv=>whnf);repeat(refine .intro rfl ?_;conv=>whnf)))
          (refine .inl ⟨by (unfold InR; rw [IntKind.wrap_i64]; omega), ?_⟩; ((conv=>whnf);repeat(refine .intro rfl ?_;conv=>whnf)))
          refine ⟨k + 1, by omega, by dsimp only; omega, ?_⟩
          dsimp only
          (refine leB_close 7 (by simp) rfl ?_ ?_ <;> (repeat' (first | exact trivial | exact rfl | exact DeepM.refl _ | exact DeepML.refl _ | exact DeepMLL.refl _ | refine And.intro ?_ ?_ | (simp [Under, UnderL, UnderLL, -List.map_take, -List.map_drop]; done))))
          all_goals first | exact underL_pure _ (pure_drow _) | exact underLL_pure _ (pure_kids t) | exact underLL_pure _ (pure_trows _) | skip
        · have q0 : k = t.width := by have : ¬ k < t.width := by simpa [Tree.width] using q0
                                      omega
          subst q0
          rw [show t.kids.take t.width = t.kids from List.take_length]
          exact ⟨.refl _, closeH_same _ _ (under_eheap (Nat.le_refl _))⟩
      · have hP1 : addT P [t] = P := by rw [addT_one, if_pos r]
        ((conv=>whnf);repeat(refine .intro rfl ?_;conv=>whnf))
        have lP : P.length + (partsF t.kids).length ≤ 1000 := by omega
        rw [eA, eP, addT_app, hP1]
        refine pwp_forH [3, 4] (fun k : Nat => [(5, .sc (.int .i64 k))]) (fun k => eheap (Q ++ atomTs (atomsF (t.kids.take k))) (addT P (partsF (t.kids.take k))) ++ [.row true (drow t)]) (fun k => k ≤ t.width) (fun k => t.width - k) 0 ?_
        ((conv=>whnf);repeat(refine .intro rfl ?_;conv=>whnf))
        refine ⟨by omega, by (repeat' (first | exact trivial | refine And.intro rfl ?_)), by simp [eheap, atomTs, atomsF, partsF, addT], ?_⟩
        rintro k hk
        have lpk := addT_len (partsF (t.kids.take k)) P
        unfold eheap
        ((conv=>whnf);repeat(refine .intro rfl ?_;conv=>whnf))
        (apply rd_sound; focus (repeat' constructor))
        ((conv=>whnf);repeat(refine .intro rfl ?_;conv=>whnf))
        (refine ifK_split (fun q0 => ?_) (fun q0 => ?_) <;> (rw [q0]; ((conv=>whnf);repeat(refine .intro rfl ?_;conv=>whnf))))
        · have q0 : k < t.width := by simpa [Tree.width] using q0
          refine ⟨by omega, _, kid_at q0, ?_⟩
          ((conv=>whnf);repeat(refine .intro rfl ?_;conv=>whnf))
          have eA2 := atomsF_take q0
          have eP2 := partsF_take q0
          have tA : (atomsF (t.kids.take k)).length + (atomsOf (t.kid k)).length ≤ (atomsF t.kids).length := atomsF_upto q0
          have tP : (partsF (t.kids.take k)).length + (partsOf (t.kid k)).length ≤ (partsF t.kids).length := partsF_upto q0
          have hG := acall_pre (ih k q0 (wf_kid hwf q0) (Q ++ atomTs (atomsF (t.kids.take k))) (addT P (partsF (t.kids.take k))) (by simp; omega) (by omega)) [.row true (drow t)] (by simp [eheap]) (by simp [eheap, UnderL, Under, under_pure _ (pure_dtree _)]) (underO_eheap (by simp [eheap]))
          rw [List.append_assoc, atomTs_app, ← addT_app, ← eA2, ← eP2] at hG
          unfold eheap at hG
          (refine .inr (.inr (.inr (.inl ⟨_, _, by simp [UnderL, UnderLL, UnderO, AObj.under, Under], by simp [UnderL, UnderLL, UnderO, AObj.under, Under], hG, ?_⟩))); ((conv=>whnf);repeat(refine .intro rfl ?_;conv=>whnf)))
          (refine .inl ⟨by (unfold InR; rw [IntKind.wrap_i64]; omega), ?_⟩; ((conv=>whnf);repeat(refine .intro rfl ?_;conv=>whnf)))
          refine ⟨k + 1, by omega, by dsimp only; omega, ?_⟩
          dsimp only
          (refine leB_close 6 (by simp) rfl ?_ ?_ <;> (repeat' (first | exact trivial | exact rfl | exact DeepM.refl _ | exact DeepML.refl _ | exact DeepMLL.refl _ | refine And.intro ?_ ?_ | (simp [Under, UnderL, UnderLL, -List.map_take, -List.map_drop]; done))))
          all_goals first | exact underL_pure _ (pure_drow _) | exact underLL_pure _ (pure_kids t) | exact underLL_pure _ (pure_trows _) | skip
        · have q0 : k = t.width := by have : ¬ k < t.width := by simpa [Tree.width] using q0
                                      omega
          subst q0
          rw [show t.kids.take t.width = t.kids from List.take_length]
          exact ⟨.refl _, closeH_same _ _ (under_eheap (Nat.le_refl _))⟩
    have k7 : ¬ (t.kind = 7 ∨ t.kind = 8 ∨ t.kind = 9) := by
      simp only [beq_eq_false_iff_ne] at k7 k8 k9
      omega
    rw [if_neg k7, List.nil_append] at eP
    rw [eP] at hP
    rw [eA, eP]
    have lP : P.length + (partsF t.kids).length ≤ 1000 := hP
    refine pwp_forH [3, 4] (fun k : Nat => [(5, .sc (.int .i64 k))]) (fun k => eheap (Q ++ atomTs (atomsF (t.kids.take k))) (addT P (partsF (t.kids.take k))) ++ [.row true (drow t)]) (fun k => k ≤ t.width) (fun k => t.width - k) 0 ?_
    ((conv=>whnf);repeat(refine .intro rfl ?_;conv=>whnf))
    refine ⟨by omega, by (repeat' (first | exact trivial | refine And.intro rfl ?_)), by simp [eheap, atomTs, atomsF, partsF, addT], ?_⟩
    rintro k hk
    have lpk := addT_len (partsF (t.kids.take k)) P
    unfold eheap
    ((conv=>whnf);repeat(refine .intro rfl ?_;conv=>whnf))
    (apply rd_sound; focus (repeat' constructor))
    ((conv=>whnf);repeat(refine .intro rfl ?_;conv=>whnf))
    (refine ifK_split (fun q0 => ?_) (fun q0 => ?_) <;> (rw [q0]; ((conv=>whnf);repeat(refine .intro rfl ?_;conv=>whnf))))
    · have q0 : k < t.width := by simpa [Tree.width] using q0
      refine ⟨by omega, _, kid_at q0, ?_⟩
      ((conv=>whnf);repeat(refine .intro rfl ?_;conv=>whnf))
      have eA2 := atomsF_take q0
      have eP2 := partsF_take q0
      have tA : (atomsF (t.kids.take k)).length + (atomsOf (t.kid k)).length ≤ (atomsF t.kids).length := atomsF_upto q0
      have tP : (partsF (t.kids.take k)).length + (partsOf (t.kid k)).length ≤ (partsF t.kids).length := partsF_upto q0
      have hG := acall_pre (ih k q0 (wf_kid hwf q0) (Q ++ atomTs (atomsF (t.kids.take k))) (addT P (partsF (t.kids.take k))) (by simp; omega) (by omega)) [.row true (drow t)] (by simp [eheap]) (by simp [eheap, UnderL, Under, under_pure _ (pure_dtree _)]) (underO_eheap (by simp [eheap]))
      rw [List.append_assoc, atomTs_app, ← addT_app, ← eA2, ← eP2] at hG
      unfold eheap at hG
      (refine .inr (.inr (.inr (.inl ⟨_, _, by simp [UnderL, UnderLL, UnderO, AObj.under, Under], by simp [UnderL, UnderLL, UnderO, AObj.under, Under], hG, ?_⟩))); ((conv=>whnf);repeat(refine .intro rfl ?_;conv=>whnf)))
      (refine .inl ⟨by (unfold InR; rw [IntKind.wrap_i64]; omega), ?_⟩; ((conv=>whnf);repeat(refine .intro rfl ?_;conv=>whnf)))
      refine ⟨k + 1, by omega, by dsimp only; omega, ?_⟩
      dsimp only
      (refine leB_close 6 (by simp) rfl ?_ ?_ <;> (repeat' (first | exact trivial | exact rfl | exact DeepM.refl _ | exact DeepML.refl _ | exact DeepMLL.refl _ | refine And.intro ?_ ?_ | (simp [Under, UnderL, UnderLL, -List.map_take, -List.map_drop]; done))))
      all_goals first | exact underL_pure _ (pure_drow _) | exact underLL_pure _ (pure_kids t) | exact underLL_pure _ (pure_trows _) | skip
    · have q0 : k = t.width := by have : ¬ k < t.width := by simpa [Tree.width] using q0
                                  omega
      subst q0
      rw [show t.kids.take t.width = t.kids from List.take_length]
      exact ⟨.refl _, closeH_same _ _ (under_eheap (Nat.le_refl _))⟩
def c26_1 : PC := .seq (.seq (.ops [⟨some 12,.load1 (.tmp 7),none,0⟩,
 ⟨some 13,.bin .lss (.tmp 12) (.const (.int .i64 64)),none,0⟩] false) (.cond (.tmp 13) (.skip) (.exit 0))) (.seq (.block 1 (.seq (.ops [⟨some 16,.load1 (.tmp 3),none,0⟩,
 ⟨some 17,.mkfn (.func 43) [] [(.tmp 7)],none,0⟩,
 ⟨some 18,.call 41 [(.tmp 16), (.tmp 17)],none,0⟩] false) (.cond (.tmp 18) (.ops [⟨some 19,.move (.tmp 6),none,0⟩,
 ⟨some 20,.load1 (.tmp 7),none,0⟩,
 ⟨some 21,.call 21 [(.const (.int .i64 3)), (.tmp 20)],none,0⟩,
 ⟨some 22,.bslice 3 1 [(.tmp 21)],none,0⟩,
 ⟨some 23,.append 3 40 (.tmp 19) (.tmp 22),none,0⟩,
 ⟨some 6,.move (.tmp 23),none,0⟩] false) (.skip)))) (.seq (.seq (.ops [⟨some 24,.load1 (.tmp 7),none,0⟩] false) (.ops [⟨some 7,.alloc [(.int .i64 0)],none,0⟩,
 ⟨none,.store 1 (.tmp 7) (.tmp 24),none,0⟩] false)) (.ops [⟨some 14,.load1 (.tmp 7),none,0⟩,
 ⟨some 15,.bin .add (.tmp 14) (.const (.int .i64 1)),none,0⟩,
 ⟨none,.store 1 (.tmp 7) (.tmp 15),none,0⟩] false)))
def c26 : PC := .seq (.ops [⟨some 1,.box (.tmp 0),none,0⟩,
 ⟨some 2,.move (.const (.slice none 0 0)),none,0⟩] false) (.seq (.ops [⟨some 3,.alloc [(.slice none 0 0)],none,0⟩,
 ⟨some 4,.alloc [(.slice none 0 0)],none,0⟩] false) (.seq (.ops [⟨some 5,.alloc [(.nilFunc)],none,0⟩] false) (.seq (.ops [⟨some 8,.mkfn (.func 40) [] [(.tmp 3), (.tmp 4), (.tmp 5)],none,0⟩,
 ⟨none,.store 1 (.tmp 5) (.tmp 8),none,0⟩] false) (.seq (.stop (.ops [⟨some 9,.load1 (.tmp 5),none,0⟩,
 ⟨some 10,.loadA 3 (.tmp 1),none,0⟩,
 ⟨some 11,.callv (.tmp 9) [(.tmp 10)],none,0⟩] false)) (.seq (.ops [⟨some 6,.move (.const (.slice none 0 0)),none,0⟩] false) (.seq (.seq (.ops [⟨some 7,.alloc [(.int .i64 0)],none,0⟩,
 ⟨none,.store 1 (.tmp 7) (.const (.int .i64 0)),none,0⟩] false) (.stop (.block 0 (.loop c26_1)))) (.seq (.ops [⟨some 25,.move (.tmp 6),none,0⟩,
 ⟨some 26,.load1 (.tmp 4),none,0⟩,
 ⟨some 27,.append 3 40 (.tmp 25) (.tmp 26),none,0⟩,
 ⟨some 2,.move (.tmp 27),none,0⟩] false) (.ret))))))))
set_option maxRecDepth 100000 in
theorem c26_ok : FunOK Try.prog 26 28 [.tmp 2] c26 := ⟨⟨Try.f26, Try.func26, rfl, by kernel_rfl, rfl, by kernel_rfl⟩⟩
/-- The elements told so far: the atoms below k. -/
def elK (f : Tree) (k : Nat) : List Tree := atomTs (numsF (fun n => (atomsOf f).contains (n : Int)) k)
theorem elK_succ (f : Tree) (k : Nat) : elK f (k + 1) = if (atomsOf f).contains (k : Int) = true then elK f k ++ [atomT k] else elK f k := by
  unfold elK
  rw [numsF_succ]
  split <;> simp [atomTs]
theorem elK_len (f : Tree) (k : Nat) : (elK f k).length ≤ k := by rw [elK, atomTs_len]; exact numsF_len _ _
theorem any_num (A : List Int) (n : Int) : (atomTs A).any (fun g => g.num == n) = A.contains n := by
  induction A with
  | nil => rfl
  | cons a r ih =>
    rw [show atomTs (a :: r) = atomT a :: atomTs r from rfl, List.any_cons, ih, List.contains_cons]
    congr 1
    rw [show (atomT a).num = a from rfl, Bool.eq_iff_iff, beq_iff_eq, beq_iff_eq]
    exact eq_comm
set_option maxRecDepth 100000 in
theorem ref_elements (f : Tree) (hw : f.wf lKids) (hsz : f.size ≤ 60) : PCall Try.prog 26 [dtree f] (.lst 3 (trows (elE f))) := by
  have hla := atoms_le f
  have hlp := parts_le f
  have hlP := addT_len (partsOf f) []
  have hL := el_look f hw [] [] (by simp; omega) (by simp; omega)
  rw [List.nil_append] at hL
  refine pcall_intro c26_ok (by simp) (by simp [PureL, pure_dtree]) ?_ (by simp only [Pure]; exact pure_trows _)
  (apply rd_sound; focus (repeat' constructor))
  ((conv=>whnf);repeat(refine .intro rfl ?_;conv=>whnf))
  refine pwp_ghostB (leB_trans (leB_nilc 1 0 3 (by simp) rfl rfl) (leB_nilc 2 0 3 (by simp) rfl rfl)) ?_
  (apply rd_sound; focus (repeat' constructor))
  ((conv=>whnf);repeat(refine .intro rfl ?_;conv=>whnf))
  have hE : elE f = elK f 64 ++ addT [] (partsOf f) := rfl
  have hK := elK_succ f
  have hKl := elK_len f
  have hany := any_num (atomsOf f)
  have hlT : (atomTs (atomsOf f)).length ≤ 60 := by simp; omega
  have hCo := fun n : Nat => containsF_ltl (atomTs (atomsOf f)) (by omega) (fun g => g.num == (n : Int)) 43 [.ipt [.sc (.int .i64 n)]] (by simp [PureL, Pure]) fun a _ => el_num a n
  rw [hE]
  generalize atomTs (atomsOf f) = Q at *
  generalize addT [] (partsOf f) = P at *
  have hL2 : ACall Try.prog 40 [dtree f, .loc 1 0, .loc 2 0, .loc 3 0] [.row true (drow f), .row true [.own 4 0 0 0], .row true [.own 5 0 0 0], .row true [.fn (.func 40) [] [.loc 1 0, .loc 2 0, .loc 3 0]], .vec true 0 3 [], .vec true 0 3 []] (.tup [])
      [.row true (drow f), .row true [.own 4 Q.length 0 Q.length], .row true [.own 5 P.length 0 P.length], .row true [.fn (.func 40) [] [.loc 1 0, .loc 2 0, .loc 3 0]], .vec true Q.length 3 (trows Q), .vec true P.length 3 (trows P)] := by
    refine acall_mid hL [.row true (drow f)] [] rfl (by simp [eheap, UnderL, Under, under_pure _ (pure_dtree _)]) (underO_eheap (by simp [eheap])) (by simp [renL, D.ren]) (by simp [D.ren, renL]) ?_ ?_
    · simp [eheap, AObj.ren, renL, D.ren, renLL, trows]
    · simp only [eheap, List.map_cons, List.map_nil, AObj.ren, renL, D.ren, List.length_cons, List.length_nil, renLL_trows]
      rfl
  (refine .inr (.inr (.inl ⟨rfl, _, _, hL2, ?_⟩)); ((conv=>whnf);repeat(refine .intro rfl ?_;conv=>whnf)))
  refine pwp_ghostB (leB_freeze (fun i => i == 1 || i == 2 || i == 4 || i == 5 || i == 6) (env' := [(3, .ipt [.lst 3 (trows Q)]), (4, .ipt [.lst 3 (trows P)]), (6, .sc (.slice none 0 0)), (7, .ipt [.sc (.int .i64 0)])]) (H' := [.row true (drow f), .row false [.lst 3 (trows Q)], .row false [.lst 3 (trows P)], .row true [.fn (.func 40) [] [.loc 1 0, .loc 2 0, .loc 3 0]], .vec false Q.length 3 (trows Q), .vec false P.length 3 (trows P), .row false [.sc (.int .i64 0)]]) ?_ ?_) ?_
  · refine ⟨DeepM.loc _ _ _ _ _ rfl rfl (.cons _ _ _ _ (.own _ _ _ _ _ _ _ _ rfl rfl ?_) (.refl _)), DeepM.loc _ _ _ _ _ rfl rfl (.cons _ _ _ _ (.own _ _ _ _ _ _ _ _ rfl rfl ?_) (.refl _)), .refl _, DeepM.loc _ _ _ _ _ rfl rfl (.refl _), trivial⟩
    · exact deepMLL_eq (drop_take_all (by simp))
    · exact deepMLL_eq (drop_take_all (by simp))
  · refine ⟨⟨.inl rfl, (fun h => by cases h), .refl _⟩, ⟨.inr ⟨rfl, rfl⟩, fun _ => rfl, .cons _ _ _ _ (.own _ _ _ _ _ _ _ _ rfl rfl ?_) (.refl _)⟩, ⟨.inr ⟨rfl, rfl⟩, fun _ => rfl, .cons _ _ _ _ (.own _ _ _ _ _ _ _ _ rfl rfl ?_) (.refl _)⟩, ⟨.inl rfl, (fun h => by cases h), .refl _⟩, ⟨.inr ⟨rfl, rfl⟩, fun _ => rfl, rfl, rfl, .refl _⟩, ⟨.inr ⟨rfl, rfl⟩, fun _ => rfl, rfl, rfl, .refl _⟩, ⟨.inr ⟨rfl, rfl⟩, fun _ => rfl, .refl _⟩, trivial⟩
    · exact deepMLL_eq (drop_take_all (by simp))
    · exact deepMLL_eq (drop_take_all (by simp))
  (apply rd_sound; focus (repeat' constructor))
  ((conv=>whnf);repeat(refine .intro rfl ?_;conv=>whnf))
  refine pwp_ghostB (leB_nil 6 3 (by simp) rfl) ?_
  refine pwp_forH [3, 4] (fun k : Nat => [(6, .own 7 (elK f k).length 0 (elK f k).length), (7, .ipt [.sc (.int .i64 k)])]) (fun k => [.row true (drow f), .row false [.lst 3 (trows Q)], .row false [.lst 3 (trows P)], .row true [.fn (.func 40) [] [.loc 1 0, .loc 2 0, .loc 3 0]], .vec false Q.length 3 (trows Q), .vec false P.length 3 (trows P), .row false [.sc (.int .i64 0)], .vec true (elK f k).length 3 (trows (elK f k))]) (fun k => k ≤ 64) (fun k => 64 - k) 0 ?_
  ((conv=>whnf);repeat(refine .intro rfl ?_;conv=>whnf))
  refine ⟨by omega, by (repeat' (first | exact trivial | refine And.intro rfl ?_)), rfl, ?_⟩
  rintro k hk
  have hkl := hKl k
  have hkc := hCo k
  have hka := hany k
  have hks := hK k
  ((conv=>whnf);repeat(refine .intro rfl ?_;conv=>whnf))
  (apply rd_sound; focus (repeat' constructor))
  ((conv=>whnf);repeat(refine .intro rfl ?_;conv=>whnf))
  (refine ifK_split (fun q0 => ?_) (fun q0 => ?_) <;> (rw [q0]; ((conv=>whnf);repeat(refine .intro rfl ?_;conv=>whnf))))
  · have q0 : k < 64 := by ((try simp only[oo,reduceCtorEq]at*)<;>omega)
    rw [hka] at hkc
    (refine .inl ⟨_, hkc, ?_⟩; ((conv=>whnf);repeat(refine .intro rfl ?_;conv=>whnf)))
    cases r : (atomsOf f).contains (k : Int)
    · rw [r, if_neg (by decide)] at hks
      ((conv=>whnf);repeat(refine .intro rfl ?_;conv=>whnf))
      (refine .inl ⟨by (unfold InR; rw [IntKind.wrap_i64]; omega), ?_⟩; ((conv=>whnf);repeat(refine .intro rfl ?_;conv=>whnf)))
      refine ⟨k + 1, by omega, by dsimp only; omega, ?_⟩
      dsimp only
      rw [hks]
      refine leB_close 8 (by simp) rfl ⟨.refl _, by simp [Under], DeepM.loc _ _ _ _ _ rfl rfl (.refl _), by simp [Under, UnderL], .refl _, by simp [Under, UnderL, underLL_pure _ (pure_trows _)], .refl _, by simp [Under, UnderL, underLL_pure _ (pure_trows _)], trivial⟩ ?_
      (repeat' (first | exact trivial | exact rfl | exact DeepM.refl _ | exact DeepML.refl _ | exact DeepMLL.refl _ | refine And.intro ?_ ?_ | (simp [Under, UnderL, UnderLL, -List.map_take, -List.map_drop]; done)))
      all_goals first | exact underL_pure _ (pure_drow _) | exact underLL_pure _ (pure_trows _) | exact deepM_atom _ _ | skip
    · rw [r, if_pos rfl] at hks
      ((conv=>whnf);repeat(refine .intro rfl ?_;conv=>whnf))
      (refine .inl ⟨_, (ref_leafm 3 k), ?_⟩; ((conv=>whnf);repeat(refine .intro rfl ?_;conv=>whnf)))
      refine ⟨(by unfold sliceAppend; simp only [ll]; omega), ?_⟩
      ((conv=>whnf);repeat(refine .intro rfl ?_;conv=>whnf))
      (refine .inl ⟨by (unfold InR; rw [IntKind.wrap_i64]; omega), ?_⟩; ((conv=>whnf);repeat(refine .intro rfl ?_;conv=>whnf)))
      refine ⟨k + 1, by omega, by dsimp only; omega, ?_⟩
      dsimp only
      rw [hks]
      rw [show (elK f k ++ [atomT k]).length = (elK f k).length + 1 by simp]
      refine leB_close 8 (by simp) rfl ⟨.refl _, by simp [Under], DeepM.loc _ _ _ _ _ rfl rfl (.refl _), by simp [Under, UnderL], .refl _, by simp [Under, UnderL, underLL_pure _ (pure_trows _)], .refl _, by simp [Under, UnderL, underLL_pure _ (pure_trows _)], trivial⟩ ?_
      (repeat' (first | exact trivial | exact rfl | exact DeepM.refl _ | exact DeepML.refl _ | exact DeepMLL.refl _ | refine And.intro ?_ ?_ | (simp [Under, UnderL, UnderLL, -List.map_take, -List.map_drop]; done)))
      all_goals first | exact underL_pure _ (pure_drow _) | exact underLL_pure _ (pure_trows _) | exact deepM_atom _ _ | skip
  · have q0 : k = 64 := by have : ¬ k < 64 := by ((try simp only[oo,reduceCtorEq]at*)<;>omega)
                           omega
    subst q0
    simp only [List.length_nil] at hlP
    refine ⟨by unfold sliceAppend; rw [trows_len]; omega, ?_⟩
    ((conv=>whnf);repeat(refine .intro rfl ?_;conv=>whnf))
    refine .own _ _ _ _ _ _ _ _ rfl ?_
    rw [show trows (elK f 64 ++ P) = trows (elK f 64) ++ trows P by simp [trows], drop_take_all (l := trows (elK f 64)) (by simp)]
    exact deepLL_all (by simp)
end Go.Proofs.Ytihgbinhidppdaa
