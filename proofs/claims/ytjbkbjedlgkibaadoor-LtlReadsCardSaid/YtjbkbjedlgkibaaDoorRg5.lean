/-
  watchref.ltlOf, readText, ReadLtl, over deep values. No statement is proved here.
-/
import Derived.Test.YtjbkbjedlgkibaaDoorRg4
import Derived.Test.YtjbkbjedlgkibaaDoorRl
namespace Go.Proofs.YtjbkbjedlgkibaaDoor
open Go.RowKit
set_option linter.unusedSimpArgs false
set_option linter.unusedVariables false
def sgnL : List ByteArray := [⟨#[]⟩, sTrue, sFalse, ⟨#[]⟩, one 33, one 38, one 47, one 88, one 85, one 82, one 70, one 71]
/-- The kind that the signs up to a place tell. -/
def kindTo (l : List ByteArray) (x : ByteArray) : Nat → Int
  | 0 => 3
  | n + 1 => if !(eqS (l.getD n ⟨#[]⟩) ⟨#[]⟩) && eqS (l.getD n ⟨#[]⟩) x then n else kindTo l x n
theorem eqS_data (a b : ByteArray) : eqS a b = (a.data.toList == b.data.toList) := by
  unfold eqS
  rw [ByteArray.toList_eq, ByteArray.toList_eq]
theorem kindTo_sgn (k : Int) (h : 1 ≤ k ∧ k ≤ 11) : kindTo sgnL (sgnC false k) 12 = k := by
  have : k = 1 ∨ k = 2 ∨ k = 3 ∨ k = 4 ∨ k = 5 ∨ k = 6 ∨ k = 7 ∨ k = 8 ∨ k = 9 ∨ k = 10 ∨ k = 11 := by omega
  rcases this with rfl | rfl | rfl | rfl | rfl | rfl | rfl | rfl | rfl | rfl | rfl <;> (simp only [kindTo, eqS_data]; decide)
def c13_1 : PC := .seq (.ops [q 11 (.bin .lss (.tmp 10) (.tmp 9))] false) (.seq (.cond (.tmp 11) (.skip) (.exit 0)) (.seq (.block 1 (.seq (.ops [qm 12 10,q 13 (.iaddr 1 (.tmp 8) (.tmp 10)),q 14 (.load1 (.tmp 13)),qm 4 12,qm 5 14] false) (.seq (.ops [qm 15 5,q 16 (.bin .neq (.tmp 15) (.const (.string ⟨#[]⟩))),qm 17 16,⟨some 18,.move (.tmp 5),some (17,true),0⟩,⟨some 19,.faddr 0 (.tmp 1),some (17,true),0⟩,⟨some 20,.load1 (.tmp 19),some (17,true),0⟩,⟨some 21,.bin .eql (.tmp 18) (.tmp 20),some (17,true),0⟩,q 22 (.pick (.tmp 17) (.tmp 21) (.const (.bool false)))] false) (.cond (.tmp 22) (.ops [qm 23 4,qm 3 23] false) (.skip))))) (.ops [q 24 (.bin .add (.tmp 10) (.const (.int .i64 1))),qm 10 24] false)))
def c13_2 : PC := .seq (.seq (.ops [qm 29 7,q 30 (.faddr 2 (.tmp 1)),q 31 (.load1 (.tmp 30)),q 32 (.len (.tmp 31)),q 33 (.bin .lss (.tmp 29) (.tmp 32))] false) (.cond (.tmp 33) (.skip) (.exit 2))) (.seq (.block 3 (.ops [q 36 (.faddr 2 (.tmp 6)),qd 37 (.load1 (.tmp 36)) 1,q 38 (.faddr 2 (.tmp 1)),qd 39 (.load1 (.tmp 38)) 4,qm 40 7,qd 41 (.iaddr 3 (.tmp 39) (.tmp 40)) 28,qd 42 (.loadA 3 (.tmp 41)) 60,qd 43 (.call 13 [(.tmp 42)]) 124,qd 44 (.bslice 3 1 [(.tmp 43)]) 252,qd 45 (.append 3 40 (.tmp 37) (.tmp 44)) 511,qd 46 (.faddr 2 (.tmp 6)) 1023,qk (.store 1 (.tmp 46) (.tmp 45)) 2047] true)) (.ops [qm 34 7,q 35 (.bin .add (.tmp 34) (.const (.int .i64 1))),qm 7 35] false))
def c13 : PC := .seq (.ops [q 1 (.box (.tmp 0)),q 2 (.alloc [(.int .i64 0), (.int .i64 0), (.slice none 0 0)])] false) (.seq (.ops [q 3 (.move (.const (.int .i64 3)))] false) (.seq (.seq (.ops [q 8 (.bslice 1 12 [(.const (.string ⟨#[]⟩)), (.const (.string ⟨#[116, 114, 117, 101]⟩)), (.const (.string ⟨#[102, 97, 108, 115, 101]⟩)), (.const (.string ⟨#[]⟩)), (.const (.string ⟨#[33]⟩)), (.const (.string ⟨#[38]⟩)), (.const (.string ⟨#[47]⟩)), (.const (.string ⟨#[88]⟩)), (.const (.string ⟨#[85]⟩)), (.const (.string ⟨#[82]⟩)), (.const (.string ⟨#[70]⟩)), (.const (.string ⟨#[71]⟩))]),q 9 (.len (.tmp 8)),q 10 (.move (.const (.int .i64 0)))] false) (.block 0 (.loop c13_1))) (.seq (.ops [qm 25 3,q 26 (.faddr 1 (.tmp 1)),q 27 (.load1 (.tmp 26)),q 28 (.build [(.int .i64 0), (.int .i64 0), (.slice none 0 0)] [(0, 1, (.tmp 25)), (1, 1, (.tmp 27))]),q 6 (.alloc [(.int .i64 0), (.int .i64 0), (.slice none 0 0)]),qn (.store 3 (.tmp 6) (.tmp 28))] false) (.seq (.seq (.ops [q 7 (.move (.const (.int .i64 0)))] false) (.block 2 (.loop c13_2))) (.seq (.ops [q 47 (.loadA 3 (.tmp 6)),qn (.store 3 (.tmp 2) (.tmp 47))] false) (.ret))))))
set_option maxRecDepth 100000 in
theorem c13_ok : FunOK Tryd.prog 13 48 [.agg 2 3] c13 := ⟨⟨Tryd.f13, Tryd.func13, rfl, by kernel_rfl, rfl, by kernel_rfl⟩⟩
theorem ref_ltlOf : ∀ t : Tree, KT false t → PCall Tryd.prog 13 [rtree false t] (dtree t) := by
  intro t
  induction t using Tree.ind with
  | h t ih =>
    intro hkt
    have hk : 1 ≤ t.kind ∧ t.kind ≤ 11 := by cases hkt with | mk _ h => exact h
    have hw2 : t.width ≤ 2 := by cases hkt with | mk _ _ h => exact h
    have hkid : ∀ j, j < t.width → KT false (t.kid j) := by cases hkt with | mk _ _ _ h => exact h
    refine pcall_intro c13_ok (by simp) (by simp [PureL, pure_rtree]) ?_ (pure_dtree _)
    (apply rd_sound; focus (repeat' constructor))
    ((conv=>whnf);repeat(refine⟨rfl,?_⟩;conv=>whnf))
    refine pwp_for [1, 2, 8, 9] (fun k : Nat => [(3, .sc (.int .i64 (kindTo sgnL (sgnC false t.kind) k))), (10, .sc (.int .i64 k))]) (fun _ => []) (fun k => k ≤ 12) (fun k => 12 - k) 0 ?_
    ((conv=>whnf);repeat(refine⟨rfl,?_⟩;conv=>whnf))
    refine ⟨by omega, by (repeat' (first | exact trivial | refine And.intro rfl ?_)), rfl, ?_⟩
    rintro k hk15
    ((conv=>whnf);repeat(refine⟨rfl,?_⟩;conv=>whnf))
    (apply rd_sound; focus (repeat' constructor))
    ((conv=>whnf);repeat(refine⟨rfl,?_⟩;conv=>whnf))
    (refine ifK_split (fun h1 => ?_) (fun h1 => ?_) <;> (rw [h1]; ((conv=>whnf);repeat(refine⟨rfl,?_⟩;conv=>whnf))))
    · have hk : k < 12 := by have : (k : Int) < 12 := by simpa using h1
                             omega
      (refine ⟨by omega, (by first | omega | (simp; done) | (simp; omega) | (simp only [ll]; omega)), ?_⟩; ((conv=>whnf);repeat(refine⟨rfl,?_⟩;conv=>whnf)))
      refine ⟨_, by rw [show 0 + (k : Int).toNat = k by omega]; exact str_at (l := sgnL) (show k < 12 by omega), ?_⟩
      ((conv=>whnf);repeat(refine⟨rfl,?_⟩;conv=>whnf))
      have hst : kindTo sgnL (sgnC false t.kind) (k + 1) = if !(eqS (sgnL.getD k ⟨#[]⟩) ⟨#[]⟩) && eqS (sgnL.getD k ⟨#[]⟩) (sgnC false t.kind) then (k : Int) else kindTo sgnL (sgnC false t.kind) k := rfl
      cases a1 : eqS (sgnL.getD k ⟨#[]⟩) ⟨#[]⟩ with
      | true =>
        rw [show ((sgnL.getD k ⟨#[]⟩).toList == (⟨#[]⟩ : ByteArray).toList) = true from a1]
        ((conv=>whnf);repeat(refine⟨rfl,?_⟩;conv=>whnf))
        (refine .inl ⟨by (unfold InR; rw [IntKind.wrap_i64]; omega), ?_⟩; ((conv=>whnf);repeat(refine⟨rfl,?_⟩;conv=>whnf)))
        exact ⟨k + 1, by omega, by dsimp only; omega, leB_envH (by dsimp only; rw [hst, a1]; (repeat' (first | exact trivial | refine And.intro rfl ?_))) rfl⟩
      | false =>
        rw [show ((sgnL.getD k ⟨#[]⟩).toList == (⟨#[]⟩ : ByteArray).toList) = false from a1]
        ((conv=>whnf);repeat(refine⟨rfl,?_⟩;conv=>whnf))
        cases a2 : eqS (sgnL.getD k ⟨#[]⟩) (sgnC false t.kind) with
        | true =>
          rw [show ((sgnL.getD k ⟨#[]⟩).toList == (sgnC false t.kind).toList) = true from a2]
          ((conv=>whnf);repeat(refine⟨rfl,?_⟩;conv=>whnf))
          (refine .inl ⟨by (unfold InR; rw [IntKind.wrap_i64]; omega), ?_⟩; ((conv=>whnf);repeat(refine⟨rfl,?_⟩;conv=>whnf)))
          exact ⟨k + 1, by omega, by dsimp only; omega, leB_envH (by dsimp only; rw [hst, a1, a2]; (repeat' (first | exact trivial | refine And.intro rfl ?_))) rfl⟩
        | false =>
          rw [show ((sgnL.getD k ⟨#[]⟩).toList == (sgnC false t.kind).toList) = false from a2]
          ((conv=>whnf);repeat(refine⟨rfl,?_⟩;conv=>whnf))
          (refine .inl ⟨by (unfold InR; rw [IntKind.wrap_i64]; omega), ?_⟩; ((conv=>whnf);repeat(refine⟨rfl,?_⟩;conv=>whnf)))
          exact ⟨k + 1, by omega, by dsimp only; omega, leB_envH (by dsimp only; rw [hst, a1, a2]; (repeat' (first | exact trivial | refine And.intro rfl ?_))) rfl⟩
    · have : k = 12 := by have : ¬ (k : Int) < 12 := by simpa using h1
                          omega
      subst this
      rw [kindTo_sgn t.kind hk]
      refine pwp_ghostB (leB_nilc 3 2 3 (by simp) rfl rfl) ?_
      refine pwp_for [1, 2, 6] (fun k : Nat => [(7, .sc (.int .i64 k))]) (fun k => [(3, .row true [.sc (.int .i64 t.kind), .sc (.int .i64 t.num), .own 4 k 0 k]), (4, .vec true k 3 ((t.kids.take k).map drow))]) (fun k => k ≤ t.width) (fun k => t.width - k) 0 ?_
      ((conv=>whnf);repeat(refine⟨rfl,?_⟩;conv=>whnf))
      refine ⟨by omega, by (repeat' (first | exact trivial | refine And.intro rfl ?_)), rfl, ?_⟩
      rintro k hk
      ((conv=>whnf);repeat(refine⟨rfl,?_⟩;conv=>whnf))
      (apply rd_sound; focus (repeat' constructor))
      ((conv=>whnf);repeat(refine⟨rfl,?_⟩;conv=>whnf))
      rw [List.length_map]
      (refine ifK_split (fun h2 => ?_) (fun h2 => ?_) <;> (rw [h2]; ((conv=>whnf);repeat(refine⟨rfl,?_⟩;conv=>whnf))))
      · have hk' : k < t.width := by unfold Tree.width; simpa using h2
        refine ⟨by omega, _, by rw [Int.toNat_natCast, List.getElem?_map, kid_get? hk', Option.map_some, rcells_eq], ?_⟩
        ((conv=>whnf);repeat(refine⟨rfl,?_⟩;conv=>whnf))
        (refine .inl ⟨_, (ih k hk' (hkid k hk')), ?_⟩; ((conv=>whnf);repeat(refine⟨rfl,?_⟩;conv=>whnf)))
        refine ⟨by unfold sliceAppend; simp only [List.drop_zero, List.take_succ_cons, List.take_zero, List.length_cons, List.length_nil]; omega, ?_⟩
        ((conv=>whnf);repeat(refine⟨rfl,?_⟩;conv=>whnf))
        refine .inl ⟨by unfold InR; rw [IntKind.wrap_i64]; omega, ?_⟩
        ((conv=>whnf);repeat(refine⟨rfl,?_⟩;conv=>whnf))
        refine ⟨k + 1, by omega, by dsimp only; omega, ?_⟩
        (refine leB_close 5 (by simp) rfl ?_ ?_ <;> (repeat' (first | exact trivial | exact rfl | exact DeepM.refl _ | exact DeepML.refl _ | exact DeepMLL.refl _ | refine And.intro ?_ ?_ | (simp [Under, UnderL, UnderLL, -List.map_take, -List.map_drop]; done))))
        all_goals first
          | exact deepMLL_eq (take_snoc _ (kid_get? hk'))
          | exact underLL_pure _ (pureLL_map _ (fun u => pure_drow _) _)
      · have hk' : k = t.width := by have : ¬ k < t.width := by unfold Tree.width; simpa using h2
                                     omega
        subst hk'
        refine .agg _ _ (.cons _ _ _ _ (.refl _) (.cons _ _ _ _ (.refl _) (.cons _ _ _ _ (.own 4 _ _ _ 3 true _ _ rfl ?_) .nil)))
        rw [List.drop_zero, Tree.width, List.take_length, List.take_of_length_le (by simp), show t.kids.map drow = t.kids.map dcells from List.map_congr_left fun u _ => (dcells_eq u).symm]
        exact deepLL_refl _
/-- Where and what is wrong behind the whole text. -/
def endR (s : ByteArray) : Res → Int × Int
  | .bad c m _ _ => (atT s m, c)
  | .ok _ m => if eqS (tokT s m) ⟨#[]⟩ = false then (atT s m, 3) else (0, 0)
def c12 : PC := .seq (.ops [q 6 (.alloc [(.string ⟨#[]⟩), (.int .i64 0), (.slice none 0 0)]),q 7 (.move (.const (.int .i64 0))),q 8 (.move (.const (.int .i64 0)))] false) (.seq (.seq (.ops [qm 11 0,q 12 (.slen (.tmp 11)),q 13 (.bin .gtr (.tmp 12) (.const (.int .i64 300)))] false) (.cond (.tmp 13) (.seq (.ops [q 14 (.build [(.string ⟨#[]⟩), (.int .i64 0), (.slice none 0 0)] []),qn (.store 3 (.tmp 6) (.tmp 14)),q 7 (.move (.const (.int .i64 0))),q 8 (.move (.const (.int .i64 2)))] false) (.ret)) (.skip))) (.seq (.ops [qm 15 0,q 16 (.call 27 [(.tmp 15)]),qm 17 1,qm 18 2,q 19 (.build [(.slice none 0 0), (.int .i64 0), (.int .i64 0), (.slice none 0 0), (.int .i64 0), (.int .i64 0), (.bool false)] [(0, 1, (.tmp 16)), (3, 1, (.tmp 17)), (6, 1, (.tmp 18))]),q 20 (.box (.tmp 19)),qm 9 20] false) (.seq (.ops [qm 21 9,q 22 (.call 28 [(.tmp 21)]),q 10 (.alloc [(.string ⟨#[]⟩), (.int .i64 0), (.slice none 0 0)]),qn (.store 3 (.tmp 10) (.tmp 22))] false) (.seq (.seq (.ops [qm 23 9,q 24 (.call 29 [(.tmp 23), (.const (.string ⟨#[]⟩))]),q 25 (.un .not (.tmp 24))] false) (.cond (.tmp 25) (.ops [qm 26 9,q 27 (.call 30 [(.tmp 26), (.const (.int .i64 3))])] false) (.skip))) (.seq (.ops [q 28 (.loadA 3 (.tmp 10)),qm 29 9,qd 30 (.nilchk (.tmp 29)) 2,qd 31 (.faddr 5 (.tmp 30)) 6,qd 32 (.load1 (.tmp 31)) 14,qm 33 9,qd 34 (.nilchk (.tmp 33)) 32,qd 35 (.faddr 4 (.tmp 34)) 96,qd 36 (.load1 (.tmp 35)) 224,qk (.store 3 (.tmp 6) (.tmp 28)) 1,qw 7 32 543,qw 8 36 2047] true) (.ret))))))
set_option maxRecDepth 100000 in
theorem c12_ok : FunOK Tryd.prog 12 37 [.agg 6 3, .tmp 7, .tmp 8] c12 := ⟨⟨Tryd.f12, Tryd.func12, rfl, by kernel_rfl, rfl, by kernel_rfl⟩⟩
theorem refL_readText (s : ByteArray) (hs : s.size ≤ 300) (names : List ByteArray) (hn : names.length ≤ 9223372036854775807) (r : Res) (hr : runR (tokT s) names false 3000 .formula 0 0 = some r) :
    PCall Tryd.prog 12 [.sc (.string s), dstrs names, .sc (.bool false)] (.tup [rtree false r.treeR, .sc (.int .i64 (endR s r).1), .sc (.int .i64 (endR s r).2)]) := by
  refine pcall_intro c12_ok (by simp) (by simp [PureL, Pure, pure_dstrs]) ?_ (by simp [Pure, PureL, pure_rtree])
  obtain ⟨K, hK1, hK, hlt⟩ := tok_end s
  have hT := ref_Tokens s hs K hK hlt hK1
  have hA : ACall Tryd.prog 28 [.loc 0 0] _ _ _ := (refL_reads s K names (by omega) hn hK (by omega) 3000 0 0 r (by omega) (Nat.zero_le _)).1 hr
  (apply rd_sound; focus (repeat' constructor))
  ((conv=>whnf);repeat(refine⟨rfl,?_⟩;conv=>whnf))
  refine ifK_f (by simp; omega) ?_
  ((conv=>whnf);repeat(refine⟨rfl,?_⟩;conv=>whnf))
  (refine .inl ⟨_, hT, ?_⟩; ((conv=>whnf);repeat(refine⟨rfl,?_⟩;conv=>whnf)))
  (refine .inr (.inr (.inl ⟨rfl, _, _, (acall_row (pre := []) (post := []) hA (by simp [PureL]) (by simp [PureL]) (pure_txt _ _ _ _ _ _ _ _) (pure_txt _ _ _ _ _ _ _ _) (pure_rtree _ _) rfl), ?_⟩)); ((conv=>whnf);repeat(refine⟨rfl,?_⟩;conv=>whnf)))
  cases r with
  | bad c m x y =>
    have hc : c ≠ 0 := runR_in hK _ _ _ _ _ (Nat.zero_le K) hr
    have hI := ref_isE s K names false m 0 c (atT s m) hc ⟨#[]⟩
    have hW := ref_wrongE s K names false m 0 c (atT s m) 3 hc
    (refine .inr (.inr (.inl ⟨rfl, _, _, (acall_row (pre := []) hI (by simp [PureL]) (by simp [PureL, Pure]) (pure_txt _ _ _ _ _ _ _ _) (pure_txt _ _ _ _ _ _ _ _) (by simp [Pure]) rfl), ?_⟩)); ((conv=>whnf);repeat(refine⟨rfl,?_⟩;conv=>whnf)))
    (refine .inr (.inr (.inl ⟨rfl, _, _, (acall_row (pre := []) hW (by simp [PureL]) (by simp [PureL, Pure]) (pure_txt _ _ _ _ _ _ _ _) (pure_txt _ _ _ _ _ _ _ _) (pure_rtree _ _) rfl), ?_⟩)); ((conv=>whnf);repeat(refine⟨rfl,?_⟩;conv=>whnf)))
    exact .refl _
  | ok a m =>
    have hm : m ≤ K := runR_in hK _ _ _ _ _ (Nat.zero_le K) hr
    have hI := ref_is s K names false m 0 hm 0 ⟨#[]⟩
    (refine .inr (.inr (.inl ⟨rfl, _, _, (acall_row (pre := []) hI (by simp [PureL]) (by simp [PureL, Pure]) (pure_txt _ _ _ _ _ _ _ _) (pure_txt _ _ _ _ _ _ _ _) (by simp [Pure]) rfl), ?_⟩)); ((conv=>whnf);repeat(refine⟨rfl,?_⟩;conv=>whnf)))
    cases hz : eqS (tokT s m) ⟨#[]⟩ with
    | true =>
      rw [show endR s (.ok a m) = (0, 0) from if_neg (by rw [hz]; simp)]
      ((conv=>whnf);repeat(refine⟨rfl,?_⟩;conv=>whnf))
      exact .refl _
    | false =>
      have hW := ref_wrong s K names false m 0 hm 3
      rw [show endR s (.ok a m) = ((atT s m : Int), 3) from if_pos hz]
      ((conv=>whnf);repeat(refine⟨rfl,?_⟩;conv=>whnf))
      (refine .inr (.inr (.inl ⟨rfl, _, _, (acall_row (pre := []) hW (by simp [PureL]) (by simp [PureL, Pure]) (pure_txt _ _ _ _ _ _ _ _) (pure_txt _ _ _ _ _ _ _ _) (pure_rtree _ _) rfl), ?_⟩)); ((conv=>whnf);repeat(refine⟨rfl,?_⟩;conv=>whnf)))
      exact .refl _
theorem refL_readText_large (s : ByteArray) (hs : ¬ s.size ≤ 300) (names : List ByteArray) : PCall Tryd.prog 12 [.sc (.string s), dstrs names, .sc (.bool false)] (.tup [rtree false (mk0 3 0), .sc (.int .i64 0), .sc (.int .i64 2)]) := by
  refine pcall_intro c12_ok (by simp) (by simp [PureL, Pure, pure_dstrs]) ?_ (by simp [Pure, PureL, pure_rtree])
  (apply rd_sound; focus (repeat' constructor))
  ((conv=>whnf);repeat(refine⟨rfl,?_⟩;conv=>whnf))
  refine ifK_t (by simp; omega) ?_
  ((conv=>whnf);repeat(refine⟨rfl,?_⟩;conv=>whnf))
  (repeat' (first | exact Deep.refl _ | exact Deep.none _ | exact deep_row _ | exact DeepL.nil | exact DeepLL.nil | refine Deep.agg _ _ ?_ | refine Deep.tup _ _ ?_ | refine Deep.own _ _ _ _ _ _ _ _ rfl ?_ | refine Deep.loc _ _ _ _ _ rfl ?_ | refine Deep.ifc _ _ _ ?_ | refine Deep.fn _ _ _ _ _ ?_ ?_ | refine DeepL.cons _ _ _ _ ?_ ?_ | refine DeepLL.cons _ _ _ _ ?_ ?_ | exact deepLL_refl _))
def dansR (x : Tree × Int × Int) : D := .tup [dtree x.1, .sc (.int .i64 x.2.1), .sc (.int .i64 x.2.2)]
theorem pure_dansR (x : Tree × Int × Int) : Pure (dansR x) := by simp [dansR, Pure, PureL, pure_dtree]
def c5 : PC := .seq (.ops [q 4 (.alloc [(.int .i64 0), (.int .i64 0), (.slice none 0 0)]),q 5 (.move (.const (.int .i64 0))),q 6 (.move (.const (.int .i64 0)))] false) (.seq (.ops [qm 13 0,qm 14 1,q 15 (.call 12 [(.tmp 13), (.tmp 14), (.const (.bool false))]),qm 12 15,q 16 (.ext 0 (.tmp 12)),q 17 (.ext 1 (.tmp 12)),q 18 (.ext 2 (.tmp 12)),q 7 (.alloc [(.string ⟨#[]⟩), (.int .i64 0), (.slice none 0 0)]),qn (.store 3 (.tmp 7) (.tmp 16)),qm 8 17,qm 9 18] false) (.seq (.seq (.ops [qm 19 9,q 20 (.bin .neq (.tmp 19) (.const (.int .i64 0)))] false) (.cond (.tmp 20) (.seq (.ops [q 21 (.build [(.int .i64 0), (.int .i64 0), (.slice none 0 0)] []),qm 22 8,qm 23 9,qn (.store 3 (.tmp 4) (.tmp 21)),qm 5 22,qm 6 23] false) (.ret)) (.skip))) (.seq (.ops [q 24 (.loadA 3 (.tmp 7)),q 25 (.call 13 [(.tmp 24)]),q 10 (.alloc [(.int .i64 0), (.int .i64 0), (.slice none 0 0)]),qn (.store 3 (.tmp 10) (.tmp 25))] false) (.seq (.seq (.ops [q 26 (.loadA 3 (.tmp 10)),q 27 (.call 14 [(.tmp 26)]),qm 11 27] false) (.seq (.ops [qm 28 11,q 29 (.bin .neq (.tmp 28) (.const (.int .i64 0)))] false) (.cond (.tmp 29) (.seq (.ops [q 30 (.build [(.int .i64 0), (.int .i64 0), (.slice none 0 0)] []),qm 31 0,q 32 (.slen (.tmp 31)),qm 33 11,qn (.store 3 (.tmp 4) (.tmp 30)),qm 5 32,qm 6 33] false) (.ret)) (.skip)))) (.seq (.ops [q 34 (.loadA 3 (.tmp 10)),qn (.store 3 (.tmp 4) (.tmp 34)),q 5 (.move (.const (.int .i64 0))),q 6 (.move (.const (.int .i64 0)))] false) (.ret))))))
set_option maxRecDepth 100000 in
theorem c5_ok : FunOK Tryd.prog 5 35 [.agg 4 3, .tmp 5, .tmp 6] c5 := ⟨⟨Tryd.f5, Tryd.func5, rfl, by kernel_rfl, rfl, by kernel_rfl⟩⟩
theorem ref_ReadLtl_large (s : ByteArray) (hs : ¬ s.size ≤ 300) (names : List ByteArray) : PCall Tryd.prog 5 [.sc (.string s), dstrs names] (dansR (mk0 0 0, 0, 2)) := by
  refine pcall_intro c5_ok (by simp) (by simp [PureL, Pure, pure_dstrs]) ?_ (pure_dansR _)
  (apply rd_sound; focus (repeat' constructor))
  ((conv=>whnf);repeat(refine⟨rfl,?_⟩;conv=>whnf))
  (refine .inl ⟨_, (refL_readText_large s hs names), ?_⟩; ((conv=>whnf);repeat(refine⟨rfl,?_⟩;conv=>whnf)))
  (repeat' (first | exact Deep.refl _ | exact Deep.none _ | exact deep_row _ | exact DeepL.nil | exact DeepLL.nil | refine Deep.agg _ _ ?_ | refine Deep.tup _ _ ?_ | refine Deep.own _ _ _ _ _ _ _ _ rfl ?_ | refine Deep.loc _ _ _ _ _ rfl ?_ | refine Deep.ifc _ _ _ ?_ | refine Deep.fn _ _ _ _ _ ?_ ?_ | refine DeepL.cons _ _ _ _ ?_ ?_ | refine DeepLL.cons _ _ _ _ ?_ ?_ | exact deepLL_refl _))
theorem ref_ReadLtl (s : ByteArray) (hs : s.size ≤ 300) (names : List ByteArray) (hn : names.length ≤ 9223372036854775807) (r : Res) (hr : runR (tokT s) names false 3000 .formula 0 0 = some r) (hk : ∀ a m, r = .ok a m → KT false a) (hcd : ∀ c m x y, r = .bad c m x y → c = 3 ∨ c = 4 ∨ c = 5) :
    PCall Tryd.prog 5 [.sc (.string s), dstrs names] (dansR (ansR lKids s r)) := by
  refine pcall_intro c5_ok (by simp) (by simp [PureL, Pure, pure_dstrs]) ?_ (pure_dansR _)
  have hT := refL_readText s hs names hn r hr
  cases r with
  | bad c m x y =>
    have hc := hcd c m x y rfl
    (apply rd_sound; focus (repeat' constructor))
    ((conv=>whnf);repeat(refine⟨rfl,?_⟩;conv=>whnf))
    (refine .inl ⟨_, hT, ?_⟩; ((conv=>whnf);repeat(refine⟨rfl,?_⟩;conv=>whnf)))
    refine ifK_t (by show (c != 0) = true; rw [bne_iff_ne]; omega) ?_
    ((conv=>whnf);repeat(refine⟨rfl,?_⟩;conv=>whnf))
    show Deep _ _ (.tup [dtree (mk0 0 0), .sc (.int .i64 (atT s m)), .sc (.int .i64 c)])
    (repeat' (first | exact Deep.refl _ | exact Deep.none _ | exact deep_row _ | exact DeepL.nil | exact DeepLL.nil | refine Deep.agg _ _ ?_ | refine Deep.tup _ _ ?_ | refine Deep.own _ _ _ _ _ _ _ _ rfl ?_ | refine Deep.loc _ _ _ _ _ rfl ?_ | refine Deep.ifc _ _ _ ?_ | refine Deep.fn _ _ _ _ _ ?_ ?_ | refine DeepL.cons _ _ _ _ ?_ ?_ | refine DeepLL.cons _ _ _ _ ?_ ?_ | exact deepLL_refl _))
  | ok a m =>
    cases hz : eqS (tokT s m) ⟨#[]⟩ with
    | false =>
      rw [show endR s (.ok a m) = ((atT s m : Int), 3) from if_pos hz] at hT
      rw [show ansR lKids s (.ok a m) = (mk0 0 0, (atT s m : Int), 3) from if_pos hz]
      (apply rd_sound; focus (repeat' constructor))
      ((conv=>whnf);repeat(refine⟨rfl,?_⟩;conv=>whnf))
      (refine .inl ⟨_, hT, ?_⟩; ((conv=>whnf);repeat(refine⟨rfl,?_⟩;conv=>whnf)))
      show Deep _ _ (.tup [dtree (mk0 0 0), .sc (.int .i64 (atT s m)), .sc (.int .i64 3)])
      (repeat' (first | exact Deep.refl _ | exact Deep.none _ | exact deep_row _ | exact DeepL.nil | exact DeepLL.nil | refine Deep.agg _ _ ?_ | refine Deep.tup _ _ ?_ | refine Deep.own _ _ _ _ _ _ _ _ rfl ?_ | refine Deep.loc _ _ _ _ _ rfl ?_ | refine Deep.ifc _ _ _ ?_ | refine Deep.fn _ _ _ _ _ ?_ ?_ | refine DeepL.cons _ _ _ _ ?_ ?_ | refine DeepLL.cons _ _ _ _ ?_ ?_ | exact deepLL_refl _))
    | true =>
      rw [show endR s (.ok a m) = (0, 0) from if_neg (by rw [hz]; simp)] at hT
      have hC := ref_ltlOf a (hk a m rfl)
      have hR := ref_Ltl a (hk a m rfl).small
      (apply rd_sound; focus (repeat' constructor))
      ((conv=>whnf);repeat(refine⟨rfl,?_⟩;conv=>whnf))
      (refine .inl ⟨_, hT, ?_⟩; ((conv=>whnf);repeat(refine⟨rfl,?_⟩;conv=>whnf)))
      (refine .inl ⟨_, hC, ?_⟩; ((conv=>whnf);repeat(refine⟨rfl,?_⟩;conv=>whnf)))
      (refine .inl ⟨_, hR, ?_⟩; ((conv=>whnf);repeat(refine⟨rfl,?_⟩;conv=>whnf)))
      (refine ifK_split (fun h1 => ?_) (fun h1 => ?_) <;> (rw [h1]; ((conv=>whnf);repeat(refine⟨rfl,?_⟩;conv=>whnf))))
      · have h1 : chk lKids a ≠ 0 := by simpa using h1
        rw [show ansR lKids s (.ok a m) = (mk0 0 0, (s.size : Int), chk lKids a) from (if_neg (by rw [hz]; simp)).trans (if_neg h1)]
        show Deep _ _ (.tup [dtree (mk0 0 0), .sc (.int .i64 s.size), .sc (.int .i64 (chk lKids a))])
        (repeat' (first | exact Deep.refl _ | exact Deep.none _ | exact deep_row _ | exact DeepL.nil | exact DeepLL.nil | refine Deep.agg _ _ ?_ | refine Deep.tup _ _ ?_ | refine Deep.own _ _ _ _ _ _ _ _ rfl ?_ | refine Deep.loc _ _ _ _ _ rfl ?_ | refine Deep.ifc _ _ _ ?_ | refine Deep.fn _ _ _ _ _ ?_ ?_ | refine DeepL.cons _ _ _ _ ?_ ?_ | refine DeepLL.cons _ _ _ _ ?_ ?_ | exact deepLL_refl _))
      · have h1 : chk lKids a = 0 := by simpa using h1
        rw [show ansR lKids s (.ok a m) = (a, 0, 0) from (if_neg (by rw [hz]; simp)).trans (if_pos h1)]
        show Deep _ _ (.tup [dtree a, .sc (.int .i64 0), .sc (.int .i64 0)])
        (repeat' (first | exact Deep.refl _ | exact Deep.none _ | exact deep_row _ | exact DeepL.nil | exact DeepLL.nil | refine Deep.agg _ _ ?_ | refine Deep.tup _ _ ?_ | refine Deep.own _ _ _ _ _ _ _ _ rfl ?_ | refine Deep.loc _ _ _ _ _ rfl ?_ | refine Deep.ifc _ _ _ ?_ | refine Deep.fn _ _ _ _ _ ?_ ?_ | refine DeepL.cons _ _ _ _ ?_ ?_ | refine DeepLL.cons _ _ _ _ ?_ ?_ | exact deepLL_refl _))
end Go.Proofs.YtjbkbjedlgkibaaDoor
