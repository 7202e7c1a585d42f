/-
  ltl.Parse, over deep values. No statement is proved here.
-/
import Derived.Test.YtjbkbjedlgkibaaDoorLr4
import Derived.Test.YtjbkbjedlgkibaaDoorRd1
import Derived.Test.YtjbkbjedlgkibaaDoorErs
import Derived.Test.YtjbkbjedlgkibaaDoorCk
namespace Go.Proofs.YtjbkbjedlgkibaaDoor
open Go.RowKit
set_option linter.unusedSimpArgs false
set_option linter.unusedVariables false
def dans (x : Tree × Int × Int) : D := .tup [dtree x.1, .sc (.int .i64 x.2.1), .sc (.int .i64 x.2.2)]
theorem pure_dans (x : Tree × Int × Int) : Pure (dans x) := by simp [dans, Pure, PureL, pure_dtree]
def c4 : PC := .seq (.ops [q 4 (.alloc [(.int .i64 0), (.int .i64 0), (.slice none 0 0)]),q 5 (.move (.const (.int .i64 0))),q 6 (.move (.const (.int .i64 0)))] false) (.seq (.seq (.ops [qm 12 0,q 13 (.slen (.tmp 12)),q 14 (.bin .gtr (.tmp 13) (.const (.int .i64 300)))] false) (.cond (.tmp 14) (.seq (.ops [q 15 (.build [(.int .i64 0), (.int .i64 0), (.slice none 0 0)] []),qn (.store 3 (.tmp 4) (.tmp 15)),q 5 (.move (.const (.int .i64 0))),q 6 (.move (.const (.int .i64 2)))] false) (.ret)) (.skip))) (.seq (.ops [qm 16 0,qm 17 1,q 18 (.build [(.string ⟨#[]⟩), (.slice none 0 0), (.string ⟨#[]⟩), (.int .i64 0), (.int .i64 0), (.int .i64 0)] [(0, 1, (.tmp 16)), (1, 1, (.tmp 17))]),q 19 (.box (.tmp 18)),qm 7 19] false) (.seq (.ops [qm 20 7,q 21 (.call 7 [(.tmp 20)])] false) (.seq (.ops [qm 23 7,q 24 (.call 8 [(.tmp 23)]),qm 22 24,q 25 (.ext 0 (.tmp 22)),q 26 (.ext 1 (.tmp 22)),q 8 (.alloc [(.int .i64 0), (.int .i64 0), (.slice none 0 0)]),qn (.store 3 (.tmp 8) (.tmp 25)),qm 9 26] false) (.seq (.seq (.ops [qm 27 9,q 28 (.isnil 1 false (.tmp 27)),qm 29 28,⟨some 30,.move (.tmp 7),some (29,true),0⟩,⟨some 31,.nilchk (.tmp 30),some (29,true),0⟩,⟨some 32,.faddr 2 (.tmp 31),some (29,true),0⟩,⟨some 33,.load1 (.tmp 32),some (29,true),0⟩,⟨some 34,.bin .neq (.tmp 33) (.const (.string ⟨#[]⟩)),some (29,true),0⟩,q 35 (.pick (.tmp 29) (.tmp 34) (.const (.bool false)))] false) (.cond (.tmp 35) (.ops [q 36 (.load1 (.global 0)),qm 37 7,qd 38 (.nilchk (.tmp 37)) 2,qd 39 (.faddr 3 (.tmp 38)) 6,qd 40 (.load1 (.tmp 39)) 14,qd 41 (.call 9 [(.tmp 36), (.tmp 40)]) 31,qw 9 41 63] true) (.skip))) (.seq (.ops [q 10 (.alloc [(.pointer none)])] false) (.seq (.seq (.ops [qm 42 9,q 43 (.mkif 41 (.tmp 10)),q 44 (.call 10 [(.tmp 42), (.tmp 43)])] false) (.cond (.tmp 44) (.seq (.ops [q 45 (.build [(.int .i64 0), (.int .i64 0), (.slice none 0 0)] []),q 46 (.load1 (.tmp 10)),qd 47 (.nilchk (.tmp 46)) 2,qd 48 (.faddr 1 (.tmp 47)) 6,qd 49 (.load1 (.tmp 48)) 14,q 50 (.load1 (.tmp 10)),qd 51 (.nilchk (.tmp 50)) 32,qd 52 (.faddr 0 (.tmp 51)) 96,qd 53 (.load1 (.tmp 52)) 224,qk (.store 3 (.tmp 4) (.tmp 45)) 1,qw 5 49 543,qw 6 53 2047] true) (.ret)) (.skip))) (.seq (.seq (.ops [q 54 (.loadA 3 (.tmp 8)),q 55 (.call 11 [(.tmp 54)]),qm 11 55] false) (.seq (.ops [qm 56 11,q 57 (.bin .neq (.tmp 56) (.const (.int .i64 0)))] false) (.cond (.tmp 57) (.seq (.ops [q 58 (.build [(.int .i64 0), (.int .i64 0), (.slice none 0 0)] []),qm 59 0,q 60 (.slen (.tmp 59)),qm 61 11,qn (.store 3 (.tmp 4) (.tmp 58)),qm 5 60,qm 6 61] false) (.ret)) (.skip)))) (.seq (.ops [q 62 (.loadA 3 (.tmp 8)),qn (.store 3 (.tmp 4) (.tmp 62)),q 5 (.move (.const (.int .i64 0))),q 6 (.move (.const (.int .i64 0)))] false) (.ret))))))))))
set_option maxRecDepth 100000 in
theorem c4_ok : FunOK Tryd.prog 4 63 [.agg 4 3, .tmp 5, .tmp 6] c4 := ⟨⟨Tryd.f4, Tryd.func4, rfl, by kernel_rfl, rfl, by kernel_rfl⟩⟩
theorem ltl_Parse_large (s : ByteArray) (hs : ¬ s.size ≤ 300) (names : List ByteArray) : PCall Tryd.prog 4 [.sc (.string s), dstrs names] (dans (mk0 0 0, 0, 2)) := by
  refine pcall_intro c4_ok (by simp) (by simp [PureL, Pure, pure_dstrs]) ?_ (pure_dans _)
  (apply rd_sound; focus (repeat' constructor))
  ((conv=>whnf);repeat(refine⟨rfl,?_⟩;conv=>whnf))
  refine ifK_t (by simp; omega) ?_
  ((conv=>whnf);repeat(refine⟨rfl,?_⟩;conv=>whnf))
  (repeat' (first | exact Deep.refl _ | exact Deep.none _ | exact deep_row _ | exact DeepL.nil | exact DeepLL.nil | refine Deep.agg _ _ ?_ | refine Deep.tup _ _ ?_ | refine Deep.own _ _ _ _ _ _ _ _ rfl ?_ | refine Deep.loc _ _ _ _ _ rfl ?_ | refine Deep.ifc _ _ _ ?_ | refine Deep.fn _ _ _ _ _ ?_ ?_ | refine DeepL.cons _ _ _ _ ?_ ?_ | refine DeepLL.cons _ _ _ _ ?_ ?_ | exact deepLL_refl _))
theorem ltl_Parse (s : ByteArray) (hs : s.size ≤ 300) (names : List ByteArray) (hn : names.length ≤ 9223372036854775807) (r : Res) (hr : runR (tokT s) names false 3000 .formula 0 0 = some r) (hk : ∀ a m, r = .ok a m → KT false a) :
    PCall Tryd.prog 4 [.sc (.string s), dstrs names] (dans (ansR lKids s r)) := by
  refine pcall_intro c4_ok (by simp) (by simp [PureL, Pure, pure_dstrs]) ?_ (pure_dans _)
  have hN : ACall Tryd.prog 7 [.loc 0 0] [.row true (rdB s names ⟨#[]⟩ 0 0 0)] (.tup []) [.row true (rdr s names 0 0)] := ltl_next s (by omega) names ⟨#[]⟩ 0 0 0 (Nat.zero_le _)
  have hA : ACall Tryd.prog 8 [.loc 0 0] _ _ _ := (ltl_reads s (by omega) names hn 3000 (by omega) 0 0 r (by omega)).1 hr
  (apply rd_sound; focus (repeat' constructor))
  ((conv=>whnf);repeat(refine⟨rfl,?_⟩;conv=>whnf))
  refine ifK_f (by simp; omega) ?_
  ((conv=>whnf);repeat(refine⟨rfl,?_⟩;conv=>whnf))
  (refine .inr (.inr (.inl ⟨rfl, _, _, (acall_row (pre := []) (post := []) hN (by simp [PureL]) (by simp [PureL]) (pure_rdB _ _ _ _ _ _) (pure_rdr _ _ _ _) (by simp [Pure, PureL]) rfl), ?_⟩)); ((conv=>whnf);repeat(refine⟨rfl,?_⟩;conv=>whnf)))
  (refine .inr (.inr (.inl ⟨rfl, _, _, (rdrH hA (by simp [PureL]) (pure_ans _ _ _) rfl), ?_⟩)); ((conv=>whnf);repeat(refine⟨rfl,?_⟩;conv=>whnf)))
  cases r with
  | bad c m x y =>
    have hE := errors_As_hit (.sc (.pointer none)) [.sc (.int .i64 c), .sc (.int .i64 (atT s m)), .gv (if c = 3 then 0 else if c = 5 then 1 else 2)]
    ((conv=>whnf);repeat(refine⟨rfl,?_⟩;conv=>whnf))
    (refine .inr (.inr (.inl ⟨rfl, _, _, (acall_mid hE [_, _, _] [] rfl (by simp [UnderL, Under]) (by simp [UnderO, AObj.under, UnderL, Under]) rfl rfl rfl rfl), ?_⟩)); ((conv=>whnf);repeat(refine⟨rfl,?_⟩;conv=>whnf)))
    show Deep _ _ (.tup [dtree (mk0 0 0), .sc (.int .i64 (atT s m)), .sc (.int .i64 c)])
    (repeat' (first | exact Deep.refl _ | exact Deep.none _ | exact deep_row _ | exact DeepL.nil | exact DeepLL.nil | refine Deep.agg _ _ ?_ | refine Deep.tup _ _ ?_ | refine Deep.own _ _ _ _ _ _ _ _ rfl ?_ | refine Deep.loc _ _ _ _ _ rfl ?_ | refine Deep.ifc _ _ _ ?_ | refine Deep.fn _ _ _ _ _ ?_ ?_ | refine DeepL.cons _ _ _ _ ?_ ?_ | refine DeepLL.cons _ _ _ _ ?_ ?_ | exact deepLL_refl _))
  | ok a m =>
    cases hz : eqS (tokT s m) ⟨#[]⟩ with
    | false =>
      have hW := ltl_errStand (atT s m)
      have hE := errors_As_hit (.sc (.pointer none)) [.sc (.int .i64 3), .sc (.int .i64 (atT s m)), .gv 0]
      have e : ansR lKids s (.ok a m) = (mk0 0 0, (atT s m : Int), 3) := if_pos hz
      rw [e]
      ((conv=>whnf);repeat(refine⟨rfl,?_⟩;conv=>whnf))
      rw [show ((tokT s (Res.ok a m).pos).toList == (⟨#[]⟩ : ByteArray).toList) = false from hz]
      ((conv=>whnf);repeat(refine⟨rfl,?_⟩;conv=>whnf))
      (refine .inl ⟨_, hW, ?_⟩; ((conv=>whnf);repeat(refine⟨rfl,?_⟩;conv=>whnf)))
      (refine .inr (.inr (.inl ⟨rfl, _, _, (acall_mid hE [_, _, _] [] rfl (by simp [UnderL, Under]) (by simp [UnderO, AObj.under, UnderL, Under]) rfl rfl rfl rfl), ?_⟩)); ((conv=>whnf);repeat(refine⟨rfl,?_⟩;conv=>whnf)))
      show Deep _ _ (.tup [dtree (mk0 0 0), .sc (.int .i64 (atT s m)), .sc (.int .i64 3)])
      (repeat' (first | exact Deep.refl _ | exact Deep.none _ | exact deep_row _ | exact DeepL.nil | exact DeepLL.nil | refine Deep.agg _ _ ?_ | refine Deep.tup _ _ ?_ | refine Deep.own _ _ _ _ _ _ _ _ rfl ?_ | refine Deep.loc _ _ _ _ _ rfl ?_ | refine Deep.ifc _ _ _ ?_ | refine Deep.fn _ _ _ _ _ ?_ ?_ | refine DeepL.cons _ _ _ _ ?_ ?_ | refine DeepLL.cons _ _ _ _ ?_ ?_ | exact deepLL_refl _))
    | true =>
      have hE := errors_As_nil (.sc (.pointer none))
      have hC := ltl_Check a (hk a m rfl).small
      ((conv=>whnf);repeat(refine⟨rfl,?_⟩;conv=>whnf))
      rw [show ((tokT s (Res.ok a m).pos).toList == (⟨#[]⟩ : ByteArray).toList) = true from hz]
      ((conv=>whnf);repeat(refine⟨rfl,?_⟩;conv=>whnf))
      (refine .inr (.inr (.inl ⟨rfl, _, _, (acall_mid hE [_, _, _] [] rfl (by simp [UnderL, Under]) (by simp [UnderO, AObj.under, UnderL, Under]) rfl rfl rfl rfl), ?_⟩)); ((conv=>whnf);repeat(refine⟨rfl,?_⟩;conv=>whnf)))
      (refine .inl ⟨_, hC, ?_⟩; ((conv=>whnf);repeat(refine⟨rfl,?_⟩;conv=>whnf)))
      (refine ifK_split (fun h1 => ?_) (fun h1 => ?_) <;> (rw [h1]; ((conv=>whnf);repeat(refine⟨rfl,?_⟩;conv=>whnf))))
      · have h1 : chk lKids a ≠ 0 := by simpa using h1
        have e : ansR lKids s (.ok a m) = (mk0 0 0, (s.size : Int), chk lKids a) := (if_neg (by rw [hz]; simp)).trans (if_neg h1)
        rw [e]
        show Deep _ _ (.tup [dtree (mk0 0 0), .sc (.int .i64 s.size), .sc (.int .i64 (chk lKids a))])
        (repeat' (first | exact Deep.refl _ | exact Deep.none _ | exact deep_row _ | exact DeepL.nil | exact DeepLL.nil | refine Deep.agg _ _ ?_ | refine Deep.tup _ _ ?_ | refine Deep.own _ _ _ _ _ _ _ _ rfl ?_ | refine Deep.loc _ _ _ _ _ rfl ?_ | refine Deep.ifc _ _ _ ?_ | refine Deep.fn _ _ _ _ _ ?_ ?_ | refine DeepL.cons _ _ _ _ ?_ ?_ | refine DeepLL.cons _ _ _ _ ?_ ?_ | exact deepLL_refl _))
      · have h1 : chk lKids a = 0 := by simpa using h1
        have e : ansR lKids s (.ok a m) = (a, 0, 0) := (if_neg (by rw [hz]; simp)).trans (if_pos h1)
        rw [e]
        show Deep _ _ (.tup [dtree a, .sc (.int .i64 0), .sc (.int .i64 0)])
        (repeat' (first | exact Deep.refl _ | exact Deep.none _ | exact deep_row _ | exact DeepL.nil | exact DeepLL.nil | refine Deep.agg _ _ ?_ | refine Deep.tup _ _ ?_ | refine Deep.own _ _ _ _ _ _ _ _ rfl ?_ | refine Deep.loc _ _ _ _ _ rfl ?_ | refine Deep.ifc _ _ _ ?_ | refine Deep.fn _ _ _ _ _ ?_ ?_ | refine DeepL.cons _ _ _ _ ?_ ?_ | refine DeepLL.cons _ _ _ _ ?_ ?_ | exact deepLL_refl _))
end Go.Proofs.YtjbkbjedlgkibaaDoor
