/-
  The reader of formulas of one way, over deep values: copies, sizes, signs, words. No statement is proved here.
-/
import Derived.Test.YtjbkbjedlgkibaaDoorLr2
import Derived.Test.YtjbkbjedlgkibaaDoorSlim
import Derived.Test.YtjbkbjedlgkibaaDoorRd1
namespace Go.Proofs.YtjbkbjedlgkibaaDoor
open Go.RowKit
set_option linter.unusedSimpArgs false
set_option linter.unusedVariables false
def c43_1 : PC := .seq (.ops [q 15 (.bin .lss (.tmp 14) (.tmp 13))] false) (.seq (.cond (.tmp 15) (.skip) (.exit 0)) (.seq (.block 1 (.seq (.ops [q 16 (.iaddr 3 (.tmp 12) (.tmp 14)),q 17 (.loadA 3 (.tmp 16)),q 5 (.alloc [(.int .i64 0), (.int .i64 0), (.slice none 0 0)]),qn (.store 3 (.tmp 5) (.tmp 17))] false) (.ops [q 18 (.faddr 2 (.tmp 3)),qd 19 (.load1 (.tmp 18)) 1,q 20 (.loadA 3 (.tmp 5)),qd 21 (.call 43 [(.tmp 20)]) 4,qd 22 (.bslice 3 1 [(.tmp 21)]) 12,qd 23 (.append 3 40 (.tmp 19) (.tmp 22)) 31,qd 24 (.faddr 2 (.tmp 3)) 63,qk (.store 1 (.tmp 24) (.tmp 23)) 127] true))) (.ops [q 25 (.bin .add (.tmp 14) (.const (.int .i64 1))),qm 14 25] false)))
def c43 : PC := .seq (.ops [q 1 (.box (.tmp 0)),q 2 (.alloc [(.int .i64 0), (.int .i64 0), (.slice none 0 0)])] false) (.seq (.ops [q 6 (.faddr 0 (.tmp 1)),q 7 (.load1 (.tmp 6)),q 8 (.faddr 1 (.tmp 1)),q 9 (.load1 (.tmp 8)),q 10 (.build [(.int .i64 0), (.int .i64 0), (.slice none 0 0)] [(0, 1, (.tmp 7)), (1, 1, (.tmp 9))]),q 3 (.alloc [(.int .i64 0), (.int .i64 0), (.slice none 0 0)]),qn (.store 3 (.tmp 3) (.tmp 10))] false) (.seq (.seq (.ops [q 11 (.faddr 2 (.tmp 1)),q 12 (.load1 (.tmp 11)),q 13 (.len (.tmp 12)),q 14 (.move (.const (.int .i64 0)))] false) (.block 0 (.loop c43_1))) (.seq (.ops [q 26 (.loadA 3 (.tmp 3)),qn (.store 3 (.tmp 2) (.tmp 26))] false) (.ret))))
set_option maxRecDepth 100000 in
theorem c43_ok : FunOK Tryd.prog 43 27 [.agg 2 3] c43 := ⟨⟨Tryd.f43, Tryd.func43, rfl, by kernel_rfl, rfl, by kernel_rfl⟩⟩
theorem ltl_copyOf : ∀ t : Tree, KT false t → PCall Tryd.prog 43 [dtree t] (dtree t) := by
  intro t
  induction t using Tree.ind with
  | h t ih =>
    intro hkt
    have hw2 : t.width ≤ 2 := by cases hkt with | mk _ _ h => exact h
    have hkid : ∀ j, j < t.width → KT false (t.kid j) := by cases hkt with | mk _ _ _ h => exact h
    refine pcall_intro c43_ok (by simp) (by simp [PureL, pure_dtree]) ?_ (pure_dtree _)
    (apply rd_sound; focus (repeat' constructor))
    ((conv=>whnf);repeat(refine⟨rfl,?_⟩;conv=>whnf))
    refine pwp_ghostB (leB_nilc 2 2 3 (by simp) rfl rfl) ?_
    refine pwp_for [2, 3, 12, 13] (fun k : Nat => [(14, .sc (.int .i64 k))]) (fun k => [(2, .row true [.sc (.int .i64 t.kind), .sc (.int .i64 t.num), .own 3 k 0 k]), (3, .vec true k 3 ((t.kids.take k).map drow))]) (fun k => k ≤ t.width) (fun k => t.width - k) 0 ?_
    ((conv=>whnf);repeat(refine⟨rfl,?_⟩;conv=>whnf))
    refine ⟨by omega, by (repeat' (first | exact trivial | refine And.intro rfl ?_)), rfl, ?_⟩
    rintro k hk
    ((conv=>whnf);repeat(refine⟨rfl,?_⟩;conv=>whnf))
    (apply rd_sound; focus (repeat' constructor))
    ((conv=>whnf);repeat(refine⟨rfl,?_⟩;conv=>whnf))
    (refine ifK_split (fun h2 => ?_) (fun h2 => ?_) <;> (rw [h2]; ((conv=>whnf);repeat(refine⟨rfl,?_⟩;conv=>whnf))))
    · have hk' : k < t.width := by simpa [Tree.width] using h2
      refine ⟨by omega, _, kid_at hk', ?_⟩
      ((conv=>whnf);repeat(refine⟨rfl,?_⟩;conv=>whnf))
      (refine .inl ⟨_, (ih k hk' (hkid k hk')), ?_⟩; ((conv=>whnf);repeat(refine⟨rfl,?_⟩;conv=>whnf)))
      refine ⟨by unfold sliceAppend; simp only [List.drop_zero, List.take_succ_cons, List.take_zero, List.length_cons, List.length_nil]; omega, ?_⟩
      ((conv=>whnf);repeat(refine⟨rfl,?_⟩;conv=>whnf))
      refine .inl ⟨by unfold InR; rw [IntKind.wrap_i64]; omega, ?_⟩
      ((conv=>whnf);repeat(refine⟨rfl,?_⟩;conv=>whnf))
      refine ⟨k + 1, by omega, by dsimp only; omega, ?_⟩
      (refine leB_close 4 (by simp) rfl ?_ ?_ <;> (repeat' (first | exact trivial | exact rfl | exact DeepM.refl _ | exact DeepML.refl _ | exact DeepMLL.refl _ | refine And.intro ?_ ?_ | (simp [Under, UnderL, UnderLL, -List.map_take, -List.map_drop]; done))))
      all_goals first
        | exact deepMLL_eq (take_snoc _ (kid_get? hk'))
        | exact underLL_pure _ (pureLL_map _ (fun u => pure_drow _) _)
    · have hk' : k = t.width := by have : ¬ k < t.width := by simpa [Tree.width] using h2
                                   omega
      subst hk'
      refine .agg _ _ (.cons _ _ _ _ (.refl _) (.cons _ _ _ _ (.refl _) (.cons _ _ _ _ (.own 3 _ _ _ 3 true _ _ rfl ?_) .nil)))
      rw [List.drop_zero, Tree.width, List.take_length, List.take_of_length_le (by simp), show t.kids.map drow = t.kids.map dcells from List.map_congr_left fun u _ => (dcells_eq u).symm]
      exact deepLL_refl _
/-- How many nodes, up to what is too large. -/
def szU (L : Nat) (t : Tree) (n : Nat) : Nat := min (n + t.size) (L + 1)
theorem sizes_kid {t : Tree} {j : Nat} (hj : j < t.width) : Tree.sizes (t.kids.drop j) = (t.kid j).size + Tree.sizes (t.kids.drop (j + 1)) := by
  rw [List.drop_eq_getElem_cons hj, Tree.sizes, Tree.kid_get hj]
theorem sizes_none (t : Tree) : Tree.sizes (t.kids.drop t.width) = 0 := by unfold Tree.width; rw [List.drop_length, Tree.sizes]
theorem size_kids (t : Tree) : t.size = 1 + Tree.sizes t.kids := by cases t; rw [Tree.size]; rfl
def c42_1 : PC := .seq (.ops [q 13 (.bin .lss (.tmp 12) (.tmp 11))] false) (.seq (.cond (.tmp 13) (.skip) (.exit 0)) (.seq (.block 1 (.seq (.ops [q 14 (.iaddr 3 (.tmp 10) (.tmp 12)),q 15 (.loadA 3 (.tmp 14)),q 6 (.alloc [(.int .i64 0), (.int .i64 0), (.slice none 0 0)]),qn (.store 3 (.tmp 6) (.tmp 15))] false) (.seq (.seq (.ops [qm 16 1,q 17 (.bin .gtr (.tmp 16) (.const (.int .i64 60)))] false) (.cond (.tmp 17) (.exit 0) (.skip))) (.ops [q 18 (.loadA 3 (.tmp 6)),qm 19 1,q 20 (.call 42 [(.tmp 18), (.tmp 19)]),qm 1 20] false)))) (.ops [q 21 (.bin .add (.tmp 12) (.const (.int .i64 1))),qm 12 21] false)))
def c42 : PC := .seq (.ops [q 2 (.box (.tmp 0)),q 4 (.move (.const (.int .i64 0)))] false) (.seq (.ops [qm 7 1,q 8 (.bin .add (.tmp 7) (.const (.int .i64 1))),qm 1 8] false) (.seq (.seq (.ops [q 9 (.faddr 2 (.tmp 2)),q 10 (.load1 (.tmp 9)),q 11 (.len (.tmp 10)),q 12 (.move (.const (.int .i64 0)))] false) (.block 0 (.loop c42_1))) (.seq (.ops [qm 22 1,qm 4 22] false) (.ret))))
set_option maxRecDepth 100000 in
theorem c42_ok : FunOK Tryd.prog 42 23 [.tmp 4] c42 := ⟨⟨Tryd.f42, Tryd.func42, rfl, by kernel_rfl, rfl, by kernel_rfl⟩⟩
theorem ltl_size : ∀ (t : Tree) (n : Nat), Small t → n ≤ 60 → PCall Tryd.prog 42 [dtree t, .sc (.int .i64 n)] (.sc (.int .i64 (szU 60 t n : Nat))) := by
  intro t
  induction t using Tree.ind with
  | h t ih =>
    intro n hs hn
    have hsz := hs.width
    refine pcall_intro c42_ok (by simp) (by simp [PureL, Pure, pure_dtree]) ?_ (by simp [Pure])
    have e0 := size_kids t
    (apply rd_sound; focus (repeat' constructor))
    ((conv=>whnf);repeat(refine⟨rfl,?_⟩;conv=>whnf))
    (refine .inl ⟨by (unfold InR; rw [IntKind.wrap_i64]; omega), ?_⟩; ((conv=>whnf);repeat(refine⟨rfl,?_⟩;conv=>whnf)))
    refine pwp_for [10, 11] (fun ((k, m) : Nat × Nat) => [(1, .sc (.int .i64 m)), (12, .sc (.int .i64 k))]) (fun _ => []) (fun (k, m) => k ≤ t.width ∧ m ≤ 61 ∧ min (m + Tree.sizes (t.kids.drop k)) 61 = szU 60 t n) (fun (k, m) => t.width - k) (0, n + 1) ?_
    ((conv=>whnf);repeat(refine⟨rfl,?_⟩;conv=>whnf))
    refine ⟨⟨by omega, by omega, by unfold szU; rw [List.drop_zero, e0]; omega⟩, by (repeat' (first | exact trivial | refine And.intro rfl ?_)), rfl, ?_⟩
    rintro ⟨k, m⟩ ⟨hk, hm, hF⟩
    ((conv=>whnf);repeat(refine⟨rfl,?_⟩;conv=>whnf))
    (apply rd_sound; focus (repeat' constructor))
    ((conv=>whnf);repeat(refine⟨rfl,?_⟩;conv=>whnf))
    (refine ifK_split (fun h4 => ?_) (fun h4 => ?_) <;> (rw [h4]; ((conv=>whnf);repeat(refine⟨rfl,?_⟩;conv=>whnf))))
    · have hk' : k < t.width := by simpa [Tree.width] using h4
      rw [sizes_kid hk'] at hF
      have hp := (t.kid k).size_pos
      refine ⟨by omega, _, kid_at hk', ?_⟩
      ((conv=>whnf);repeat(refine⟨rfl,?_⟩;conv=>whnf))
      (refine ifK_split (fun h5 => ?_) (fun h5 => ?_) <;> (rw [h5]; ((conv=>whnf);repeat(refine⟨rfl,?_⟩;conv=>whnf))))
      · have h6 : (60 : Int) < m := by simpa using h5
        rw [← hF, show min (m + ((t.kid k).size + Tree.sizes (t.kids.drop (k + 1)))) 61 = m by omega]
        (repeat' (first | exact Deep.refl _ | exact Deep.none _ | exact deep_row _ | exact DeepL.nil | exact DeepLL.nil | refine Deep.agg _ _ ?_ | refine Deep.tup _ _ ?_ | refine Deep.own _ _ _ _ _ _ _ _ rfl ?_ | refine Deep.loc _ _ _ _ _ rfl ?_ | refine Deep.ifc _ _ _ ?_ | refine Deep.fn _ _ _ _ _ ?_ ?_ | refine DeepL.cons _ _ _ _ ?_ ?_ | refine DeepLL.cons _ _ _ _ ?_ ?_ | exact deepLL_refl _))
      · have h5 : m ≤ 60 := by have : ¬ (60 : Int) < m := by simpa using h5
                               omega
        (refine .inl ⟨_, (ih k hk' m (hs.kid hk') h5), ?_⟩; ((conv=>whnf);repeat(refine⟨rfl,?_⟩;conv=>whnf)))
        refine .inl ⟨by unfold InR; rw [IntKind.wrap_i64]; unfold Tree.width at hk'; omega, ?_⟩
        ((conv=>whnf);repeat(refine⟨rfl,?_⟩;conv=>whnf))
        refine ⟨(k + 1, szU 60 (t.kid k) m), ⟨by omega, by unfold szU; omega, by rw [← hF]; unfold szU; omega⟩, by dsimp only; omega, ?_⟩
        (refine leB_close 1 (by simp) rfl ?_ ?_ <;> (repeat' (first | exact trivial | exact rfl | exact DeepM.refl _ | exact DeepML.refl _ | exact DeepMLL.refl _ | refine And.intro ?_ ?_ | (simp [Under, UnderL, UnderLL, -List.map_take, -List.map_drop]; done))))
    · have hk' : k = t.width := by have : ¬ k < t.width := by simpa [Tree.width] using h4
                                   omega
      rw [hk', sizes_none] at hF
      rw [← hF, show min (m + 0) 61 = m by omega]
      (repeat' (first | exact Deep.refl _ | exact Deep.none _ | exact deep_row _ | exact DeepL.nil | exact DeepLL.nil | refine Deep.agg _ _ ?_ | refine Deep.tup _ _ ?_ | refine Deep.own _ _ _ _ _ _ _ _ rfl ?_ | refine Deep.loc _ _ _ _ _ rfl ?_ | refine Deep.ifc _ _ _ ?_ | refine Deep.fn _ _ _ _ _ ?_ ?_ | refine DeepL.cons _ _ _ _ ?_ ?_ | refine DeepLL.cons _ _ _ _ ?_ ?_ | exact deepLL_refl _))
def c47 : PC := .seq (.ops [q 2 (.alloc [(.int .i64 0), (.int .i64 0), (.slice none 0 0)]),q 3 (.move (.const (.nilIface)))] false) (.seq (.ops [q 5 (.build [(.int .i64 0), (.int .i64 0), (.slice none 0 0)] [(0, 1, (.const (.int .i64 3)))]),q 4 (.alloc [(.int .i64 0), (.int .i64 0), (.slice none 0 0)]),qn (.store 3 (.tmp 4) (.tmp 5))] false) (.seq (.seq (.ops [qm 6 0,q 7 (.nilchk (.tmp 6)),q 8 (.faddr 2 (.tmp 7)),q 9 (.load1 (.tmp 8))] false) (.block 0 (.seq (.ops [q 44 (.bin .eql (.tmp 9) (.const (.string ⟨#[116, 114, 117, 101]⟩))),qm 43 44] false) (.cond (.tmp 43) (.ops [q 45 (.faddr 0 (.tmp 4)),qn (.store 1 (.tmp 45) (.const (.int .i64 1)))] false) (.seq (.ops [q 47 (.bin .eql (.tmp 9) (.const (.string ⟨#[102, 97, 108, 115, 101]⟩))),qm 46 47] false) (.cond (.tmp 46) (.ops [q 48 (.faddr 0 (.tmp 4)),qn (.store 1 (.tmp 48) (.const (.int .i64 2)))] false) (.seq (.ops [q 50 (.bin .eql (.tmp 9) (.const (.string ⟨#[115, 105, 108, 101, 110, 116]⟩))),qm 49 50] false) (.cond (.tmp 49) (.ops [q 51 (.faddr 1 (.tmp 4)),qn (.store 1 (.tmp 51) (.const (.int .i64 63)))] false) (.seq (.ops [qm 10 0,qd 11 (.nilchk (.tmp 10)) 1,qd 12 (.faddr 1 (.tmp 11)) 3,qd 13 (.load1 (.tmp 12)) 7,qm 14 0,qd 15 (.nilchk (.tmp 14)) 16,qd 16 (.faddr 2 (.tmp 15)) 48,qd 17 (.load1 (.tmp 16)) 112,qd 18 (.call 49 [(.tmp 13), (.tmp 17)]) 255,qd 19 (.faddr 1 (.tmp 4)) 511,qk (.store 1 (.tmp 19) (.tmp 18)) 1023] true) (.seq (.ops [q 20 (.faddr 1 (.tmp 4)),q 21 (.load1 (.tmp 20)),q 22 (.bin .lss (.tmp 21) (.const (.int .i64 0))),qm 23 22,⟨some 24,.faddr 1 (.tmp 4),some (23,false),0⟩,⟨some 25,.load1 (.tmp 24),some (23,false),0⟩,⟨some 26,.bin .geq (.tmp 25) (.const (.int .i64 63)),some (23,false),0⟩,q 27 (.pick (.tmp 23) (.const (.bool true)) (.tmp 26)),qm 28 27,⟨some 29,.move (.tmp 0),some (28,false),0⟩,⟨some 30,.nilchk (.tmp 29),some (28,false),0⟩,⟨some 31,.faddr 2 (.tmp 30),some (28,false),0⟩,⟨some 32,.load1 (.tmp 31),some (28,false),0⟩,⟨some 33,.call 50 [(.tmp 32)],some (28,false),0⟩,⟨some 34,.un .not (.tmp 33),some (28,false),0⟩,q 35 (.pick (.tmp 28) (.const (.bool true)) (.tmp 34))] false) (.cond (.tmp 35) (.seq (.ops [q 36 (.build [(.int .i64 0), (.int .i64 0), (.slice none 0 0)] []),q 37 (.load1 (.global 2)),qm 38 0,qd 39 (.nilchk (.tmp 38)) 4,qd 40 (.faddr 3 (.tmp 39)) 12,qd 41 (.load1 (.tmp 40)) 28,qd 42 (.call 9 [(.tmp 37), (.tmp 41)]) 62,qk (.store 3 (.tmp 2) (.tmp 36)) 127,qw 3 42 255] true) (.ret)) (.skip)))))))))))) (.seq (.ops [qm 52 0,q 53 (.call 7 [(.tmp 52)])] false) (.seq (.ops [q 54 (.loadA 3 (.tmp 4)),qn (.store 3 (.tmp 2) (.tmp 54)),q 3 (.move (.const (.nilIface)))] false) (.ret)))))
set_option maxRecDepth 100000 in
theorem c47_ok : FunOK Tryd.prog 47 55 [.agg 2 3, .tmp 3] c47 := ⟨⟨Tryd.f47, Tryd.func47, rfl, by kernel_rfl, rfl, by kernel_rfl⟩⟩
theorem ltl_word (s : ByteArray) (hs : s.size ≤ 1000000000) (names : List ByteArray) (hn : names.length ≤ 9223372036854775807) (n o : Nat) (hl : lowT (tokT s n) = true) :
    CAns s names 47 [.loc 0 0] n o (wordR (tokT s) names n) := by
  have hN := ltl_nextT s hs names n o
  have hz : (tokT s n).size ≤ 1000000000 := by rw [tokT_size]; have := (posT_next s n).2.1; omega
  have hI := index_str names (tokT s n) hn
  have hW := ltl_errWord (atT s n)
  have hNm := proc_Named (tokT s n) (by omega)
  unfold wordR
  rw [if_neg (by simp [hl])]
  by_cases e1 : eqS (tokT s n) sTrue = true
  · rw [if_pos e1]
    refine acall_introD c47_ok (by simp) (by simp) ?_ (under_pure _ (pure_ans _ _ _))
    unfold rdr rdB
    (apply rd_sound; focus (repeat' constructor))
    ((conv=>whnf);repeat(refine⟨rfl,?_⟩;conv=>whnf))
    (repeat (first | (refine ifK_t ‹_› ?_; ((conv=>whnf);repeat(refine⟨rfl,?_⟩;conv=>whnf))) | (refine ifK_f ‹_› ?_; ((conv=>whnf);repeat(refine⟨rfl,?_⟩;conv=>whnf)))))
    (refine .inr (.inr (.inl ⟨rfl, _, _, (rdrH hN (by simp [PureL]) (by simp [Pure, PureL]) rfl), ?_⟩)); ((conv=>whnf);repeat(refine⟨rfl,?_⟩;conv=>whnf)))
    exact ⟨by (repeat' (first | exact trivial | exact DeepM.none _ | refine And.intro ?_ ?_ | exact Or.inl rfl | exact Or.inr ⟨rfl, rfl⟩ | exact fun _ => rfl | exact (fun h => by cases h) | refine DeepM.loc _ _ _ _ _ rfl rfl ?_ | refine DeepM.own _ _ _ _ _ _ _ _ rfl rfl ?_ | refine DeepM.fn _ _ _ _ _ ?_ ?_ | refine DeepM.agg _ _ ?_ | refine DeepM.tup _ _ ?_ | refine DeepM.ifc _ _ _ ?_ | exact DeepM.refl _ | refine DeepML.cons _ _ _ _ ?_ ?_ | exact DeepML.refl _ | refine DeepMLL.cons _ _ _ _ ?_ ?_ | exact DeepMLL.refl _ | exact rfl)), close_one (pure_rdr s names (n + 1) o)⟩
  rw [if_neg e1]
  have e1 : eqS (tokT s n) sTrue = false := by simpa using e1
  by_cases e2 : eqS (tokT s n) sFalse = true
  · rw [if_pos e2]
    refine acall_introD c47_ok (by simp) (by simp) ?_ (under_pure _ (pure_ans _ _ _))
    unfold rdr rdB
    (apply rd_sound; focus (repeat' constructor))
    ((conv=>whnf);repeat(refine⟨rfl,?_⟩;conv=>whnf))
    (repeat (first | (refine ifK_t ‹_› ?_; ((conv=>whnf);repeat(refine⟨rfl,?_⟩;conv=>whnf))) | (refine ifK_f ‹_› ?_; ((conv=>whnf);repeat(refine⟨rfl,?_⟩;conv=>whnf)))))
    (refine .inr (.inr (.inl ⟨rfl, _, _, (rdrH hN (by simp [PureL]) (by simp [Pure, PureL]) rfl), ?_⟩)); ((conv=>whnf);repeat(refine⟨rfl,?_⟩;conv=>whnf)))
    exact ⟨by (repeat' (first | exact trivial | exact DeepM.none _ | refine And.intro ?_ ?_ | exact Or.inl rfl | exact Or.inr ⟨rfl, rfl⟩ | exact fun _ => rfl | exact (fun h => by cases h) | refine DeepM.loc _ _ _ _ _ rfl rfl ?_ | refine DeepM.own _ _ _ _ _ _ _ _ rfl rfl ?_ | refine DeepM.fn _ _ _ _ _ ?_ ?_ | refine DeepM.agg _ _ ?_ | refine DeepM.tup _ _ ?_ | refine DeepM.ifc _ _ _ ?_ | exact DeepM.refl _ | refine DeepML.cons _ _ _ _ ?_ ?_ | exact DeepML.refl _ | refine DeepMLL.cons _ _ _ _ ?_ ?_ | exact DeepMLL.refl _ | exact rfl)), close_one (pure_rdr s names (n + 1) o)⟩
  rw [if_neg e2]
  have e2 : eqS (tokT s n) sFalse = false := by simpa using e2
  by_cases e3 : eqS (tokT s n) sSilent = true
  · rw [if_pos e3]
    refine acall_introD c47_ok (by simp) (by simp) ?_ (under_pure _ (pure_ans _ _ _))
    unfold rdr rdB
    (apply rd_sound; focus (repeat' constructor))
    ((conv=>whnf);repeat(refine⟨rfl,?_⟩;conv=>whnf))
    (repeat (first | (refine ifK_t ‹_› ?_; ((conv=>whnf);repeat(refine⟨rfl,?_⟩;conv=>whnf))) | (refine ifK_f ‹_› ?_; ((conv=>whnf);repeat(refine⟨rfl,?_⟩;conv=>whnf)))))
    (refine .inr (.inr (.inl ⟨rfl, _, _, (rdrH hN (by simp [PureL]) (by simp [Pure, PureL]) rfl), ?_⟩)); ((conv=>whnf);repeat(refine⟨rfl,?_⟩;conv=>whnf)))
    exact ⟨by (repeat' (first | exact trivial | exact DeepM.none _ | refine And.intro ?_ ?_ | exact Or.inl rfl | exact Or.inr ⟨rfl, rfl⟩ | exact fun _ => rfl | exact (fun h => by cases h) | refine DeepM.loc _ _ _ _ _ rfl rfl ?_ | refine DeepM.own _ _ _ _ _ _ _ _ rfl rfl ?_ | refine DeepM.fn _ _ _ _ _ ?_ ?_ | refine DeepM.agg _ _ ?_ | refine DeepM.tup _ _ ?_ | refine DeepM.ifc _ _ _ ?_ | exact DeepM.refl _ | refine DeepML.cons _ _ _ _ ?_ ?_ | exact DeepML.refl _ | refine DeepMLL.cons _ _ _ _ ?_ ?_ | exact DeepMLL.refl _ | exact rfl)), close_one (pure_rdr s names (n + 1) o)⟩
  rw [if_neg e3]
  have e3 : eqS (tokT s n) sSilent = false := by simpa using e3
  cases hF : names.findIdx? (eqS (tokT s n)) with
  | none =>
    simp only [hF] at hI
    refine acall_introD c47_ok (by simp) (by simp) ?_ (under_pure _ (pure_ans _ _ _))
    unfold rdr rdB
    (apply rd_sound; focus (repeat' constructor))
    ((conv=>whnf);repeat(refine⟨rfl,?_⟩;conv=>whnf))
    (repeat (first | (refine ifK_t ‹_› ?_; ((conv=>whnf);repeat(refine⟨rfl,?_⟩;conv=>whnf))) | (refine ifK_f ‹_› ?_; ((conv=>whnf);repeat(refine⟨rfl,?_⟩;conv=>whnf)))))
    (refine .inl ⟨_, hI, ?_⟩; ((conv=>whnf);repeat(refine⟨rfl,?_⟩;conv=>whnf)))
    (refine .inl ⟨_, hW, ?_⟩; ((conv=>whnf);repeat(refine⟨rfl,?_⟩;conv=>whnf)))
    exact ⟨by (repeat' (first | exact trivial | exact DeepM.none _ | refine And.intro ?_ ?_ | exact Or.inl rfl | exact Or.inr ⟨rfl, rfl⟩ | exact fun _ => rfl | exact (fun h => by cases h) | refine DeepM.loc _ _ _ _ _ rfl rfl ?_ | refine DeepM.own _ _ _ _ _ _ _ _ rfl rfl ?_ | refine DeepM.fn _ _ _ _ _ ?_ ?_ | refine DeepM.agg _ _ ?_ | refine DeepM.tup _ _ ?_ | refine DeepM.ifc _ _ _ ?_ | exact DeepM.refl _ | refine DeepML.cons _ _ _ _ ?_ ?_ | exact DeepML.refl _ | refine DeepMLL.cons _ _ _ _ ?_ ?_ | exact DeepMLL.refl _ | exact rfl)), close_one (pure_rdr s names n o)⟩
  | some i =>
    simp only [hF] at hI
    have hi : ¬ ((i : Int) < 0) := by omega
    show CAns s names _ _ n o (if i < 63 ∧ namedB (tokT s n) = true then Res.ok (mk0 3 i) (n + 1) else noR 4 n)
    by_cases hc : i < 63 ∧ namedB (tokT s n) = true
    · rw [if_pos hc]
      refine acall_introD c47_ok (by simp) (by simp) ?_ (under_pure _ (pure_ans _ _ _))
      rw [hc.2] at hNm
      unfold rdr rdB
      (apply rd_sound; focus (repeat' constructor))
      ((conv=>whnf);repeat(refine⟨rfl,?_⟩;conv=>whnf))
      (repeat (first | (refine ifK_t ‹_› ?_; ((conv=>whnf);repeat(refine⟨rfl,?_⟩;conv=>whnf))) | (refine ifK_f ‹_› ?_; ((conv=>whnf);repeat(refine⟨rfl,?_⟩;conv=>whnf)))))
      (refine .inl ⟨_, hI, ?_⟩; ((conv=>whnf);repeat(refine⟨rfl,?_⟩;conv=>whnf)))
      rw [show decide ((i : Int) ≥ 63) = false by simp; omega]
      ((conv=>whnf);repeat(refine⟨rfl,?_⟩;conv=>whnf))
      (refine .inl ⟨_, hNm, ?_⟩; ((conv=>whnf);repeat(refine⟨rfl,?_⟩;conv=>whnf)))
      (refine .inr (.inr (.inl ⟨rfl, _, _, (rdrH hN (by simp [PureL]) (by simp [Pure, PureL]) rfl), ?_⟩)); ((conv=>whnf);repeat(refine⟨rfl,?_⟩;conv=>whnf)))
      exact ⟨by (repeat' (first | exact trivial | exact DeepM.none _ | refine And.intro ?_ ?_ | exact Or.inl rfl | exact Or.inr ⟨rfl, rfl⟩ | exact fun _ => rfl | exact (fun h => by cases h) | refine DeepM.loc _ _ _ _ _ rfl rfl ?_ | refine DeepM.own _ _ _ _ _ _ _ _ rfl rfl ?_ | refine DeepM.fn _ _ _ _ _ ?_ ?_ | refine DeepM.agg _ _ ?_ | refine DeepM.tup _ _ ?_ | refine DeepM.ifc _ _ _ ?_ | exact DeepM.refl _ | refine DeepML.cons _ _ _ _ ?_ ?_ | exact DeepML.refl _ | refine DeepMLL.cons _ _ _ _ ?_ ?_ | exact DeepMLL.refl _ | exact rfl)), close_one (pure_rdr s names (n + 1) o)⟩
    · rw [if_neg hc]
      refine acall_introD c47_ok (by simp) (by simp) ?_ (under_pure _ (pure_ans _ _ _))
      unfold rdr rdB
      (apply rd_sound; focus (repeat' constructor))
      ((conv=>whnf);repeat(refine⟨rfl,?_⟩;conv=>whnf))
      (repeat (first | (refine ifK_t ‹_› ?_; ((conv=>whnf);repeat(refine⟨rfl,?_⟩;conv=>whnf))) | (refine ifK_f ‹_› ?_; ((conv=>whnf);repeat(refine⟨rfl,?_⟩;conv=>whnf)))))
      (refine .inl ⟨_, hI, ?_⟩; ((conv=>whnf);repeat(refine⟨rfl,?_⟩;conv=>whnf)))
      (refine ifK_split (fun h1 => ?_) (fun h1 => ?_) <;> (rw [h1]; ((conv=>whnf);repeat(refine⟨rfl,?_⟩;conv=>whnf))))
      · (refine .inl ⟨_, hW, ?_⟩; ((conv=>whnf);repeat(refine⟨rfl,?_⟩;conv=>whnf)))
        exact ⟨by (repeat' (first | exact trivial | exact DeepM.none _ | refine And.intro ?_ ?_ | exact Or.inl rfl | exact Or.inr ⟨rfl, rfl⟩ | exact fun _ => rfl | exact (fun h => by cases h) | refine DeepM.loc _ _ _ _ _ rfl rfl ?_ | refine DeepM.own _ _ _ _ _ _ _ _ rfl rfl ?_ | refine DeepM.fn _ _ _ _ _ ?_ ?_ | refine DeepM.agg _ _ ?_ | refine DeepM.tup _ _ ?_ | refine DeepM.ifc _ _ _ ?_ | exact DeepM.refl _ | refine DeepML.cons _ _ _ _ ?_ ?_ | exact DeepML.refl _ | refine DeepMLL.cons _ _ _ _ ?_ ?_ | exact DeepMLL.refl _ | exact rfl)), close_one (pure_rdr s names n o)⟩
      · (refine .inl ⟨_, hNm, ?_⟩; ((conv=>whnf);repeat(refine⟨rfl,?_⟩;conv=>whnf)))
        refine ifK_t (by have : i < 63 := by ((try simp only[oo,reduceCtorEq]at*)<;>omega)
                         simp [show namedB (tokT s n) = false by cases h : namedB (tokT s n) with | false => rfl | true => exact absurd ⟨this, h⟩ hc]) ?_
        ((conv=>whnf);repeat(refine⟨rfl,?_⟩;conv=>whnf))
        (refine .inl ⟨_, hW, ?_⟩; ((conv=>whnf);repeat(refine⟨rfl,?_⟩;conv=>whnf)))
        exact ⟨by (repeat' (first | exact trivial | exact DeepM.none _ | refine And.intro ?_ ?_ | exact Or.inl rfl | exact Or.inr ⟨rfl, rfl⟩ | exact fun _ => rfl | exact (fun h => by cases h) | refine DeepM.loc _ _ _ _ _ rfl rfl ?_ | refine DeepM.own _ _ _ _ _ _ _ _ rfl rfl ?_ | refine DeepM.fn _ _ _ _ _ ?_ ?_ | refine DeepM.agg _ _ ?_ | refine DeepM.tup _ _ ?_ | refine DeepM.ifc _ _ _ ?_ | exact DeepM.refl _ | refine DeepML.cons _ _ _ _ ?_ ?_ | exact DeepML.refl _ | refine DeepMLL.cons _ _ _ _ ?_ ?_ | exact DeepMLL.refl _ | exact rfl)), close_one (pure_rdr s names n o)⟩
def c45 : PC := .seq (.ops [q 2 (.move (.const (.int .i64 0)))] false) (.seq (.seq (.ops [qm 3 0] false) (.block 0 (.seq (.ops [q 5 (.bin .eql (.tmp 3) (.const (.string ⟨#[33]⟩))),qm 4 5] false) (.cond (.tmp 4) (.seq (.ops [q 2 (.move (.const (.int .i64 4)))] false) (.ret)) (.seq (.ops [q 7 (.bin .eql (.tmp 3) (.const (.string ⟨#[88]⟩))),qm 6 7] false) (.cond (.tmp 6) (.seq (.ops [q 2 (.move (.const (.int .i64 7)))] false) (.ret)) (.seq (.ops [q 9 (.bin .eql (.tmp 3) (.const (.string ⟨#[70]⟩))),qm 8 9] false) (.cond (.tmp 8) (.seq (.ops [q 2 (.move (.const (.int .i64 10)))] false) (.ret)) (.seq (.ops [q 11 (.bin .eql (.tmp 3) (.const (.string ⟨#[71]⟩))),qm 10 11] false) (.cond (.tmp 10) (.seq (.ops [q 2 (.move (.const (.int .i64 11)))] false) (.ret)) (.skip))))))))))) (.seq (.ops [q 2 (.move (.const (.int .i64 0)))] false) (.ret)))
set_option maxRecDepth 100000 in
theorem c45_ok : FunOK Tryd.prog 45 12 [.tmp 2] c45 := ⟨⟨Tryd.f45, Tryd.func45, rfl, by kernel_rfl, rfl, by kernel_rfl⟩⟩
theorem ltl_prefix (t : ByteArray) : PCall Tryd.prog 45 [.sc (.string t)] (.sc (.int .i64 (preK false t))) := by
  refine pcall_intro c45_ok (by simp) (by simp [PureL, Pure]) ?_ (by simp [Pure])
  (apply rd_sound; focus (repeat' constructor))
  ((conv=>whnf);repeat(refine⟨rfl,?_⟩;conv=>whnf))
  cases e1 : eqS t (one 33) with
  | true =>
    (repeat (first | (refine ifK_t ‹_› ?_; ((conv=>whnf);repeat(refine⟨rfl,?_⟩;conv=>whnf))) | (refine ifK_f ‹_› ?_; ((conv=>whnf);repeat(refine⟨rfl,?_⟩;conv=>whnf)))))
    exact deep_eq (congrArg (fun k => D.sc (.int .i64 k)) (by simp_all [preK]))
  | false =>
  cases e2 : eqS t (one 88) with
  | true =>
    (repeat (first | (refine ifK_t ‹_› ?_; ((conv=>whnf);repeat(refine⟨rfl,?_⟩;conv=>whnf))) | (refine ifK_f ‹_› ?_; ((conv=>whnf);repeat(refine⟨rfl,?_⟩;conv=>whnf)))))
    exact deep_eq (congrArg (fun k => D.sc (.int .i64 k)) (by simp_all [preK]))
  | false =>
  cases e3 : eqS t (one 70) with
  | true =>
    (repeat (first | (refine ifK_t ‹_› ?_; ((conv=>whnf);repeat(refine⟨rfl,?_⟩;conv=>whnf))) | (refine ifK_f ‹_› ?_; ((conv=>whnf);repeat(refine⟨rfl,?_⟩;conv=>whnf)))))
    exact deep_eq (congrArg (fun k => D.sc (.int .i64 k)) (by simp_all [preK]))
  | false =>
  cases e4 : eqS t (one 71) with
  | true =>
    (repeat (first | (refine ifK_t ‹_› ?_; ((conv=>whnf);repeat(refine⟨rfl,?_⟩;conv=>whnf))) | (refine ifK_f ‹_› ?_; ((conv=>whnf);repeat(refine⟨rfl,?_⟩;conv=>whnf)))))
    exact deep_eq (congrArg (fun k => D.sc (.int .i64 k)) (by simp_all [preK]))
  | false =>
  (repeat (first | (refine ifK_t ‹_› ?_; ((conv=>whnf);repeat(refine⟨rfl,?_⟩;conv=>whnf))) | (refine ifK_f ‹_› ?_; ((conv=>whnf);repeat(refine⟨rfl,?_⟩;conv=>whnf)))))
  exact deep_eq (congrArg (fun k => D.sc (.int .i64 k)) (by simp_all [preK]))
end Go.Proofs.YtjbkbjedlgkibaaDoor
