/-
  The reference's reader of formulas of one way, over deep values: what stands alone; all together. No statement is proved here.
-/
import Derived.Test.YtjbkbjedlgkibaaDoorRg3
namespace Go.Proofs.YtjbkbjedlgkibaaDoor
open Go.RowKit
set_option linter.unusedSimpArgs false
set_option linter.unusedVariables false
theorem eqS_asR {x a : ByteArray} (h : eqS x a = true) (b : ByteArray) : eqS x b = eqS a b := by
  unfold eqS at *
  rw [beq_iff_eq.1 h]
theorem eqS_oneR {a b : UInt8} (h : (a == b) = false) : eqS (one a) (one b) = false := by
  unfold eqS one
  rw [ByteArray.toList_eq, ByteArray.toList_eq]
  show ([a] == [b]) = false
  simp [h]
/-- What a loop from the end finds: the first of the names, if it may be one. -/
def seekN (names : List ByteArray) (t : ByteArray) (j : Nat) : Int := match (names.drop j).findIdx? (eqS t) with
  | some i => if j + i < 63 ∧ namedB t = true then (j + i : Nat) else -1
  | none => -1
section
variable (s : ByteArray) (K : Nat) (names : List ByteArray)
def c51_1 : PC := .seq (.seq (.ops [qm 163 8,q 164 (.bin .geq (.tmp 163) (.const (.int .i64 0)))] false) (.cond (.tmp 164) (.skip) (.exit 1))) (.seq (.block 2 (.seq (.ops [qm 167 0,q 168 (.nilchk (.tmp 167)),q 169 (.faddr 3 (.tmp 168)),q 170 (.load1 (.tmp 169)),qm 171 8,q 172 (.iaddr 1 (.tmp 170) (.tmp 171)),q 173 (.load1 (.tmp 172)),qm 174 3,q 175 (.bin .eql (.tmp 173) (.tmp 174)),qm 176 175,⟨some 177,.move (.tmp 8),some (176,true),0⟩,⟨some 178,.bin .lss (.tmp 177) (.const (.int .i64 63)),some (176,true),0⟩,q 179 (.pick (.tmp 176) (.tmp 178) (.const (.bool false))),qm 180 179,⟨some 181,.move (.tmp 3),some (180,true),0⟩,⟨some 182,.call 55 [(.tmp 181)],some (180,true),0⟩,q 183 (.pick (.tmp 180) (.tmp 182) (.const (.bool false)))] false) (.cond (.tmp 183) (.ops [qm 184 8,qm 7 184] false) (.skip)))) (.ops [qm 165 8,q 166 (.bin .sub (.tmp 165) (.const (.int .i64 1))),qm 8 166] false))
def c51 : PC := .seq (.ops [q 2 (.alloc [(.string ⟨#[]⟩), (.int .i64 0), (.slice none 0 0)])] false) (.seq (.ops [qm 9 0,qd 10 (.nilchk (.tmp 9)) 1,qd 11 (.faddr 0 (.tmp 10)) 3,qd 12 (.load1 (.tmp 11)) 7,qm 13 0,qd 14 (.nilchk (.tmp 13)) 16,qd 15 (.faddr 1 (.tmp 14)) 48,qd 16 (.load1 (.tmp 15)) 112,qd 17 (.iaddr 2 (.tmp 12) (.tmp 16)) 255,qd 18 (.faddr 0 (.tmp 17)) 511,qd 19 (.load1 (.tmp 18)) 1023,qw 3 19 2047] true) (.seq (.seq (.ops [qm 20 0,q 21 (.nilchk (.tmp 20)),q 22 (.faddr 4 (.tmp 21)),q 23 (.load1 (.tmp 22)),q 24 (.bin .neq (.tmp 23) (.const (.int .i64 0)))] false) (.cond (.tmp 24) (.seq (.ops [q 25 (.build [(.string ⟨#[]⟩), (.int .i64 0), (.slice none 0 0)] []),qn (.store 3 (.tmp 2) (.tmp 25))] false) (.ret)) (.skip))) (.seq (.block 0 (.seq (.ops [qm 27 3,q 28 (.bin .eql (.tmp 27) (.const (.string ⟨#[40]⟩))),qm 26 28] false) (.cond (.tmp 26) (.seq (.seq (.ops [qm 29 0,q 30 (.call 53 [(.tmp 29)]),q 31 (.un .not (.tmp 30))] false) (.cond (.tmp 31) (.seq (.ops [q 32 (.build [(.string ⟨#[]⟩), (.int .i64 0), (.slice none 0 0)] []),qn (.store 3 (.tmp 2) (.tmp 32))] false) (.ret)) (.skip))) (.seq (.ops [qm 33 0,q 34 (.call 28 [(.tmp 33)]),q 4 (.alloc [(.string ⟨#[]⟩), (.int .i64 0), (.slice none 0 0)]),qn (.store 3 (.tmp 4) (.tmp 34))] false) (.seq (.ops [qm 35 0,q 36 (.nilchk (.tmp 35)),q 37 (.faddr 2 (.tmp 36)),q 38 (.load1 (.tmp 37)),q 39 (.bin .sub (.tmp 38) (.const (.int .i64 1))),q 40 (.nilchk (.tmp 35)),q 41 (.faddr 2 (.tmp 40)),qn (.store 1 (.tmp 41) (.tmp 39))] false) (.seq (.seq (.ops [qm 42 0,q 43 (.call 40 [(.tmp 42), (.const (.string ⟨#[41]⟩))]),q 44 (.un .not (.tmp 43))] false) (.cond (.tmp 44) (.seq (.ops [qm 45 0,q 46 (.call 30 [(.tmp 45), (.const (.int .i64 3))]),qn (.store 3 (.tmp 2) (.tmp 46))] false) (.ret)) (.skip))) (.seq (.ops [q 47 (.loadA 3 (.tmp 4)),qn (.store 3 (.tmp 2) (.tmp 47))] false) (.ret)))))) (.seq (.ops [qm 49 3,q 50 (.bin .eql (.tmp 49) (.const (.string ⟨#[33]⟩))),qm 51 50,⟨some 52,.move (.tmp 0),some (51,false),0⟩,⟨some 53,.nilchk (.tmp 52),some (51,false),0⟩,⟨some 54,.faddr 6 (.tmp 53),some (51,false),0⟩,⟨some 55,.load1 (.tmp 54),some (51,false),0⟩,⟨some 56,.un .not (.tmp 55),some (51,false),0⟩,⟨some 57,.move (.tmp 56),some (51,false),0⟩,⟨some 58,.move (.tmp 3),some (57,true),0⟩,⟨some 59,.bin .eql (.tmp 58) (.const (.string ⟨#[88]⟩)),some (57,true),0⟩,⟨some 60,.move (.tmp 59),some (57,true),0⟩,⟨some 61,.move (.tmp 3),some (60,false),0⟩,⟨some 62,.bin .eql (.tmp 61) (.const (.string ⟨#[70]⟩)),some (60,false),0⟩,⟨some 63,.pick (.tmp 60) (.const (.bool true)) (.tmp 62),some (57,true),0⟩,⟨some 64,.move (.tmp 63),some (57,true),0⟩,⟨some 65,.move (.tmp 3),some (64,false),0⟩,⟨some 66,.bin .eql (.tmp 65) (.const (.string ⟨#[71]⟩)),some (64,false),0⟩,⟨some 67,.pick (.tmp 64) (.const (.bool true)) (.tmp 66),some (57,true),0⟩,⟨some 68,.pick (.tmp 57) (.tmp 67) (.const (.bool false)),some (51,false),0⟩,q 69 (.pick (.tmp 51) (.const (.bool true)) (.tmp 68)),qm 48 69] false) (.cond (.tmp 48) (.seq (.seq (.ops [qm 70 0,q 71 (.call 53 [(.tmp 70)]),q 72 (.un .not (.tmp 71))] false) (.cond (.tmp 72) (.seq (.ops [q 73 (.build [(.string ⟨#[]⟩), (.int .i64 0), (.slice none 0 0)] []),qn (.store 3 (.tmp 2) (.tmp 73))] false) (.ret)) (.skip))) (.seq (.ops [qm 74 0,q 75 (.call 51 [(.tmp 74)]),q 5 (.alloc [(.string ⟨#[]⟩), (.int .i64 0), (.slice none 0 0)]),qn (.store 3 (.tmp 5) (.tmp 75))] false) (.seq (.ops [qm 76 0,q 77 (.nilchk (.tmp 76)),q 78 (.faddr 2 (.tmp 77)),q 79 (.load1 (.tmp 78)),q 80 (.bin .sub (.tmp 79) (.const (.int .i64 1))),q 81 (.nilchk (.tmp 76)),q 82 (.faddr 2 (.tmp 81)),qn (.store 1 (.tmp 82) (.tmp 80))] false) (.seq (.ops [qm 83 3,q 84 (.loadA 3 (.tmp 5)),q 85 (.bslice 3 1 [(.tmp 84)]),q 86 (.build [(.string ⟨#[]⟩), (.int .i64 0), (.slice none 0 0)] [(0, 1, (.tmp 83)), (1, 1, (.const (.int .i64 0))), (2, 1, (.tmp 85))]),qn (.store 3 (.tmp 2) (.tmp 86))] false) (.ret))))) (.seq (.ops [qm 88 0,q 89 (.nilchk (.tmp 88)),q 90 (.faddr 6 (.tmp 89)),q 91 (.load1 (.tmp 90)),qm 92 91,⟨some 93,.move (.tmp 3),some (92,true),0⟩,⟨some 94,.bin .eql (.tmp 93) (.const (.string ⟨#[69]⟩)),some (92,true),0⟩,⟨some 95,.move (.tmp 94),some (92,true),0⟩,⟨some 96,.move (.tmp 3),some (95,false),0⟩,⟨some 97,.bin .eql (.tmp 96) (.const (.string ⟨#[65]⟩)),some (95,false),0⟩,⟨some 98,.pick (.tmp 95) (.const (.bool true)) (.tmp 97),some (92,true),0⟩,q 99 (.pick (.tmp 92) (.tmp 98) (.const (.bool false))),qm 87 99] false) (.cond (.tmp 87) (.seq (.seq (.ops [qm 100 0,q 101 (.call 53 [(.tmp 100)]),q 102 (.un .not (.tmp 101))] false) (.cond (.tmp 102) (.seq (.ops [q 103 (.build [(.string ⟨#[]⟩), (.int .i64 0), (.slice none 0 0)] []),qn (.store 3 (.tmp 2) (.tmp 103))] false) (.ret)) (.skip))) (.seq (.ops [qm 104 0,qm 105 3,q 106 (.call 54 [(.tmp 104), (.tmp 105)]),q 6 (.alloc [(.string ⟨#[]⟩), (.int .i64 0), (.slice none 0 0)]),qn (.store 3 (.tmp 6) (.tmp 106))] false) (.seq (.ops [qm 107 0,q 108 (.nilchk (.tmp 107)),q 109 (.faddr 2 (.tmp 108)),q 110 (.load1 (.tmp 109)),q 111 (.bin .sub (.tmp 110) (.const (.int .i64 1))),q 112 (.nilchk (.tmp 107)),q 113 (.faddr 2 (.tmp 112)),qn (.store 1 (.tmp 113) (.tmp 111))] false) (.seq (.ops [q 114 (.loadA 3 (.tmp 6)),qn (.store 3 (.tmp 2) (.tmp 114))] false) (.ret))))) (.seq (.ops [qm 116 3,q 117 (.bin .eql (.tmp 116) (.const (.string ⟨#[]⟩))),qm 118 117,⟨some 119,.move (.tmp 3),some (118,false),0⟩,⟨some 120,.sidx (.tmp 119) (.const (.int .i64 0)),some (118,false),0⟩,⟨some 121,.bin .lss (.tmp 120) (.const (.int .u8 97)),some (118,false),0⟩,q 122 (.pick (.tmp 118) (.const (.bool true)) (.tmp 121)),qm 123 122,⟨some 124,.move (.tmp 3),some (123,false),0⟩,⟨some 125,.sidx (.tmp 124) (.const (.int .i64 0)),some (123,false),0⟩,⟨some 126,.bin .gtr (.tmp 125) (.const (.int .u8 122)),some (123,false),0⟩,q 127 (.pick (.tmp 123) (.const (.bool true)) (.tmp 126)),qm 115 127] false) (.cond (.tmp 115) (.seq (.ops [qm 128 0,q 129 (.call 30 [(.tmp 128), (.const (.int .i64 3))]),qn (.store 3 (.tmp 2) (.tmp 129))] false) (.ret)) (.seq (.ops [qm 131 3,q 132 (.bin .eql (.tmp 131) (.const (.string ⟨#[116, 114, 117, 101]⟩))),qm 133 132,⟨some 134,.move (.tmp 3),some (133,false),0⟩,⟨some 135,.bin .eql (.tmp 134) (.const (.string ⟨#[102, 97, 108, 115, 101]⟩)),some (133,false),0⟩,q 136 (.pick (.tmp 133) (.const (.bool true)) (.tmp 135)),qm 130 136] false) (.cond (.tmp 130) (.seq (.ops [qm 137 0,q 138 (.nilchk (.tmp 137)),q 139 (.faddr 1 (.tmp 138)),q 140 (.load1 (.tmp 139)),q 141 (.bin .add (.tmp 140) (.const (.int .i64 1))),q 142 (.nilchk (.tmp 137)),q 143 (.faddr 1 (.tmp 142)),qn (.store 1 (.tmp 143) (.tmp 141))] false) (.seq (.ops [qm 144 3,q 145 (.build [(.string ⟨#[]⟩), (.int .i64 0), (.slice none 0 0)] [(0, 1, (.tmp 144)), (1, 1, (.const (.int .i64 0))), (2, 1, (.const (.slice none 0 0)))]),qn (.store 3 (.tmp 2) (.tmp 145))] false) (.ret))) (.seq (.ops [qm 147 3,q 148 (.bin .eql (.tmp 147) (.const (.string ⟨#[115, 105, 108, 101, 110, 116]⟩))),qm 146 148] false) (.cond (.tmp 146) (.seq (.ops [qm 149 0,q 150 (.nilchk (.tmp 149)),q 151 (.faddr 1 (.tmp 150)),q 152 (.load1 (.tmp 151)),q 153 (.bin .add (.tmp 152) (.const (.int .i64 1))),q 154 (.nilchk (.tmp 149)),q 155 (.faddr 1 (.tmp 154)),qn (.store 1 (.tmp 155) (.tmp 153))] false) (.seq (.ops [q 156 (.build [(.string ⟨#[]⟩), (.int .i64 0), (.slice none 0 0)] [(0, 1, (.const (.string ⟨#[]⟩))), (1, 1, (.const (.int .i64 63))), (2, 1, (.const (.slice none 0 0)))]),qn (.store 3 (.tmp 2) (.tmp 156))] false) (.ret))) (.skip)))))))))))))) (.seq (.ops [q 7 (.move (.const (.int .i64 (-1))))] false) (.seq (.seq (.ops [qm 157 0,q 158 (.nilchk (.tmp 157)),q 159 (.faddr 3 (.tmp 158)),q 160 (.load1 (.tmp 159)),q 161 (.len (.tmp 160)),q 162 (.bin .sub (.tmp 161) (.const (.int .i64 1))),qm 8 162] false) (.block 1 (.loop c51_1))) (.seq (.seq (.ops [qm 185 7,q 186 (.bin .lss (.tmp 185) (.const (.int .i64 0)))] false) (.cond (.tmp 186) (.seq (.ops [qm 187 0,q 188 (.call 30 [(.tmp 187), (.const (.int .i64 4))]),qn (.store 3 (.tmp 2) (.tmp 188))] false) (.ret)) (.skip))) (.seq (.ops [qm 189 0,q 190 (.nilchk (.tmp 189)),q 191 (.faddr 1 (.tmp 190)),q 192 (.load1 (.tmp 191)),q 193 (.bin .add (.tmp 192) (.const (.int .i64 1))),q 194 (.nilchk (.tmp 189)),q 195 (.faddr 1 (.tmp 194)),qn (.store 1 (.tmp 195) (.tmp 193))] false) (.seq (.ops [qm 196 7,q 197 (.build [(.string ⟨#[]⟩), (.int .i64 0), (.slice none 0 0)] [(0, 1, (.const (.string ⟨#[]⟩))), (1, 1, (.tmp 196)), (2, 1, (.const (.slice none 0 0)))]),qn (.store 3 (.tmp 2) (.tmp 197))] false) (.ret)))))))))
set_option maxRecDepth 100000 in
theorem c51_ok : FunOK Tryd.prog 51 198 [.agg 2 3] c51 := ⟨⟨Tryd.f51, Tryd.func51, rfl, by kernel_rfl, rfl, by kernel_rfl⟩⟩
theorem seekN_step {names : List ByteArray} {t : ByteArray} {j : Nat} (hj : j < names.length) : seekN names t j = if eqS t names[j] = true ∧ j < 63 ∧ namedB t = true then (j : Int) else seekN names t (j + 1) := by
  unfold seekN
  rw [List.drop_eq_getElem_cons hj, List.findIdx?_cons]
  cases h : eqS t names[j] with
  | true =>
    simp only [if_true]
    by_cases h2 : j < 63 ∧ namedB t = true
    · rw [if_pos (by simpa using h2), if_pos ⟨trivial, h2⟩]; simp
    · rw [if_neg (by simpa using h2), if_neg (fun q => h2 q.2)]
      cases (names.drop (j + 1)).findIdx? (eqS t) with
      | none => rfl
      | some i => exact (if_neg (fun q => h2 ⟨by omega, q.2⟩)).symm
  | false =>
    rw [if_neg (by simp)]
    cases (names.drop (j + 1)).findIdx? (eqS t) with
    | none => simp
    | some i => simp [show j + (i + 1) = j + 1 + i by omega]
set_option maxHeartbeats 2000000 in
theorem refL_word (hs : s.size ≤ 1000000000) (hK : eqS (tokT s K) ⟨#[]⟩ = true) (hK3 : K ≤ 300) (hnm : names.length ≤ 9223372036854775807) (o n : Nat) (hn : n ≤ K) (r : Res) (hr : r = wordR (tokT s) names n) (g1 : eqS (tokT s n) (one 40) = false) (g2 : eqS (tokT s n) (one 33) = false) (gX : eqS (tokT s n) (one 88) = false) (gF : eqS (tokT s n) (one 70) = false) (gG : eqS (tokT s n) (one 71) = false) :
    RAns s K names false 51 [.loc 0 0] n o r := by
  by_cases hl : lowT (tokT s n) = true
  · have h0 : 0 < (tokT s n).size := by simp [lowT] at hl; omega
    obtain ⟨b, hb⟩ := byte_at h0
    have hc := chr_of hb
    have hlo : 97 ≤ b.toNat ∧ b.toNat ≤ 122 := by
      rw [← hc]
      unfold lowT at hl
      simp only [Bool.and_eq_true, decide_eq_true_eq] at hl
      exact ⟨hl.1.2, hl.2⟩
    have hz : eqS (tokT s n) ⟨#[]⟩ = false := by
      cases h : eqS (tokT s n) ⟨#[]⟩ with
      | false => rfl
      | true => rw [(eqS_empty _).1 h] at h0; omega
    unfold wordR at hr
    rw [if_neg (by simp [hl])] at hr
    refine acall_introD c51_ok (by simp) (by simp) ?_ (under_pure _ (pure_rtree _ _))
    (apply rd_sound; focus (repeat' constructor))
    ((conv=>whnf);repeat(refine⟨rfl,?_⟩;conv=>whnf))
    refine ⟨by omega, _, by rw [Int.toNat_natCast]; exact tokL_at s (show n < K + 1 by omega), ?_⟩
    ((conv=>whnf);repeat(refine⟨rfl,?_⟩;conv=>whnf))
    rw [show ((tokT s n).toList == (⟨#[40]⟩ : ByteArray).toList) = false from g1]
    ((conv=>whnf);repeat(refine⟨rfl,?_⟩;conv=>whnf))
    rw [show ((tokT s n).toList == (⟨#[33]⟩ : ByteArray).toList) = false from g2]
    ((conv=>whnf);repeat(refine⟨rfl,?_⟩;conv=>whnf))
    rw [show ((tokT s n).toList == (⟨#[88]⟩ : ByteArray).toList) = false from gX]
    ((conv=>whnf);repeat(refine⟨rfl,?_⟩;conv=>whnf))
    rw [show ((tokT s n).toList == (⟨#[70]⟩ : ByteArray).toList) = false from gF]
    ((conv=>whnf);repeat(refine⟨rfl,?_⟩;conv=>whnf))
    rw [show ((tokT s n).toList == (⟨#[71]⟩ : ByteArray).toList) = false from gG]
    ((conv=>whnf);repeat(refine⟨rfl,?_⟩;conv=>whnf))
    rw [show ((tokT s n).toList == (⟨#[]⟩ : ByteArray).toList) = false from hz]
    ((conv=>whnf);repeat(refine⟨rfl,?_⟩;conv=>whnf))
    refine ⟨by omega, b, hb, ?_⟩
    ((conv=>whnf);repeat(refine⟨rfl,?_⟩;conv=>whnf))
    rw [show decide ((b.toNat : Int) < 97) = false by simp; omega]
    ((conv=>whnf);repeat(refine⟨rfl,?_⟩;conv=>whnf))
    refine ⟨by omega, b, hb, ?_⟩
    ((conv=>whnf);repeat(refine⟨rfl,?_⟩;conv=>whnf))
    rw [show decide ((b.toNat : Int) > 122) = false by simp; omega]
    ((conv=>whnf);repeat(refine⟨rfl,?_⟩;conv=>whnf))
    by_cases e1 : eqS (tokT s n) sTrue = true
    · rw [if_pos e1] at hr
      subst hr
      rw [show ((tokT s n).toList == (⟨#[116, 114, 117, 101]⟩ : ByteArray).toList) = true from e1]
      ((conv=>whnf);repeat(refine⟨rfl,?_⟩;conv=>whnf))
      (refine .inl ⟨by (unfold InR; rw [IntKind.wrap_i64]; omega), ?_⟩; ((conv=>whnf);repeat(refine⟨rfl,?_⟩;conv=>whnf)))
      rw [show tokT s n = sTrue from eqS_eq e1]
      exact ⟨by (repeat' (first | exact trivial | exact DeepM.none _ | refine And.intro ?_ ?_ | exact Or.inl rfl | exact Or.inr ⟨rfl, rfl⟩ | exact fun _ => rfl | exact (fun h => by cases h) | refine DeepM.loc _ _ _ _ _ rfl rfl ?_ | refine DeepM.own _ _ _ _ _ _ _ _ rfl rfl ?_ | refine DeepM.fn _ _ _ _ _ ?_ ?_ | refine DeepM.agg _ _ ?_ | refine DeepM.tup _ _ ?_ | refine DeepM.ifc _ _ _ ?_ | exact DeepM.refl _ | refine DeepML.cons _ _ _ _ ?_ ?_ | exact DeepML.refl _ | refine DeepMLL.cons _ _ _ _ ?_ ?_ | exact DeepMLL.refl _ | exact rfl)), close_oneT (pure_txt s K names false (n + 1) o 0 0)⟩
    rw [if_neg e1] at hr
    have e1 : eqS (tokT s n) sTrue = false := by simpa using e1
    rw [show ((tokT s n).toList == (⟨#[116, 114, 117, 101]⟩ : ByteArray).toList) = false from e1]
    ((conv=>whnf);repeat(refine⟨rfl,?_⟩;conv=>whnf))
    by_cases e2 : eqS (tokT s n) sFalse = true
    · rw [if_pos e2] at hr
      subst hr
      rw [show ((tokT s n).toList == (⟨#[102, 97, 108, 115, 101]⟩ : ByteArray).toList) = true from e2]
      ((conv=>whnf);repeat(refine⟨rfl,?_⟩;conv=>whnf))
      (refine .inl ⟨by (unfold InR; rw [IntKind.wrap_i64]; omega), ?_⟩; ((conv=>whnf);repeat(refine⟨rfl,?_⟩;conv=>whnf)))
      rw [show tokT s n = sFalse from eqS_eq e2]
      exact ⟨by (repeat' (first | exact trivial | exact DeepM.none _ | refine And.intro ?_ ?_ | exact Or.inl rfl | exact Or.inr ⟨rfl, rfl⟩ | exact fun _ => rfl | exact (fun h => by cases h) | refine DeepM.loc _ _ _ _ _ rfl rfl ?_ | refine DeepM.own _ _ _ _ _ _ _ _ rfl rfl ?_ | refine DeepM.fn _ _ _ _ _ ?_ ?_ | refine DeepM.agg _ _ ?_ | refine DeepM.tup _ _ ?_ | refine DeepM.ifc _ _ _ ?_ | exact DeepM.refl _ | refine DeepML.cons _ _ _ _ ?_ ?_ | exact DeepML.refl _ | refine DeepMLL.cons _ _ _ _ ?_ ?_ | exact DeepMLL.refl _ | exact rfl)), close_oneT (pure_txt s K names false (n + 1) o 0 0)⟩
    rw [if_neg e2] at hr
    have e2 : eqS (tokT s n) sFalse = false := by simpa using e2
    rw [show ((tokT s n).toList == (⟨#[102, 97, 108, 115, 101]⟩ : ByteArray).toList) = false from e2]
    ((conv=>whnf);repeat(refine⟨rfl,?_⟩;conv=>whnf))
    by_cases e3 : eqS (tokT s n) sSilent = true
    · rw [if_pos e3] at hr
      subst hr
      rw [show ((tokT s n).toList == (⟨#[115, 105, 108, 101, 110, 116]⟩ : ByteArray).toList) = true from e3]
      ((conv=>whnf);repeat(refine⟨rfl,?_⟩;conv=>whnf))
      (refine .inl ⟨by (unfold InR; rw [IntKind.wrap_i64]; omega), ?_⟩; ((conv=>whnf);repeat(refine⟨rfl,?_⟩;conv=>whnf)))
      exact ⟨by (repeat' (first | exact trivial | exact DeepM.none _ | refine And.intro ?_ ?_ | exact Or.inl rfl | exact Or.inr ⟨rfl, rfl⟩ | exact fun _ => rfl | exact (fun h => by cases h) | refine DeepM.loc _ _ _ _ _ rfl rfl ?_ | refine DeepM.own _ _ _ _ _ _ _ _ rfl rfl ?_ | refine DeepM.fn _ _ _ _ _ ?_ ?_ | refine DeepM.agg _ _ ?_ | refine DeepM.tup _ _ ?_ | refine DeepM.ifc _ _ _ ?_ | exact DeepM.refl _ | refine DeepML.cons _ _ _ _ ?_ ?_ | exact DeepML.refl _ | refine DeepMLL.cons _ _ _ _ ?_ ?_ | exact DeepMLL.refl _ | exact rfl)), close_oneT (pure_txt s K names false (n + 1) o 0 0)⟩
    rw [if_neg e3] at hr
    have e3 : eqS (tokT s n) sSilent = false := by simpa using e3
    rw [show ((tokT s n).toList == (⟨#[115, 105, 108, 101, 110, 116]⟩ : ByteArray).toList) = false from e3]
    ((conv=>whnf);repeat(refine⟨rfl,?_⟩;conv=>whnf))
    rw [List.length_map]
    have hW := ref_wrong s K names false n o hn 4
    have hNm := ref_Named (tokT s n) (by rw [tokT_size]; have := (posT_next s n).2.1; omega)
    refine .inl ⟨by unfold InR; rw [IntKind.wrap_i64]; omega, ?_⟩
    ((conv=>whnf);repeat(refine⟨rfl,?_⟩;conv=>whnf))
    refine pwp_for [0, 2, 3] (fun j : Nat => [(7, .sc (.int .i64 (seekN names (tokT s n) j))), (8, .sc (.int .i64 ((j : Int) - 1)))]) (fun _ => []) (fun j => j ≤ names.length) (fun j => j) names.length ?_
    ((conv=>whnf);repeat(refine⟨rfl,?_⟩;conv=>whnf))
    refine ⟨Nat.le_refl _, by (have : seekN names (tokT s n) names.length = -1 := by simp [seekN]); rw [this]; (repeat' (first | exact trivial | refine And.intro rfl ?_)), rfl, ?_⟩
    rintro j hj
    ((conv=>whnf);repeat(refine⟨rfl,?_⟩;conv=>whnf))
    (apply rd_sound; focus (repeat' constructor))
    ((conv=>whnf);repeat(refine⟨rfl,?_⟩;conv=>whnf))
    (refine ifK_split (fun h1 => ?_) (fun h1 => ?_) <;> (rw [h1]; ((conv=>whnf);repeat(refine⟨rfl,?_⟩;conv=>whnf))))
    · obtain ⟨i, rfl⟩ : ∃ i, j = i + 1 := ⟨j - 1, by ((try simp only[oo,reduceCtorEq]at*)<;>omega)⟩
      rw [show (((i + 1 : Nat) : Int) - 1) = (i : Int) by omega]
      have hi : i < names.length := by omega
      have hg : names.getD i ⟨#[]⟩ = names[i] := by rw [List.getD_eq_getElem?_getD, List.getElem?_eq_getElem hi]; rfl
      have hst := seekN_step (t := tokT s n) hi
      refine ⟨by omega, _, by rw [Int.toNat_natCast]; exact str_at hi, ?_⟩
      ((conv=>whnf);repeat(refine⟨rfl,?_⟩;conv=>whnf))
      have no : ¬ (eqS (tokT s n) names[i] = true ∧ i < 63 ∧ namedB (tokT s n) = true) → seekN names (tokT s n) i = seekN names (tokT s n) (i + 1) := fun h => hst.trans (if_neg h)
      cases h2 : eqS (names.getD i ⟨#[]⟩) (tokT s n) with
      | false =>
        rw [show ((names.getD i ⟨#[]⟩).toList == (tokT s n).toList) = false from h2]
        ((conv=>whnf);repeat(refine⟨rfl,?_⟩;conv=>whnf))
        (refine .inl ⟨by (unfold InR; rw [IntKind.wrap_i64]; omega), ?_⟩; ((conv=>whnf);repeat(refine⟨rfl,?_⟩;conv=>whnf)))
        exact ⟨i, by omega, by dsimp only; omega, leB_envH (by dsimp only; rw [no (by rw [eqS_symm, ← hg, h2]; simp)]; (repeat' (first | exact trivial | refine And.intro rfl ?_))) rfl⟩
      | true =>
        rw [show ((names.getD i ⟨#[]⟩).toList == (tokT s n).toList) = true from h2]
        ((conv=>whnf);repeat(refine⟨rfl,?_⟩;conv=>whnf))
        (refine ifK_split (fun h3 => ?_) (fun h3 => ?_) <;> (rw [h3]; ((conv=>whnf);repeat(refine⟨rfl,?_⟩;conv=>whnf))))
        · have h3 : i < 63 := by ((try simp only[oo,reduceCtorEq]at*)<;>omega)
          (refine .inl ⟨_, hNm, ?_⟩; ((conv=>whnf);repeat(refine⟨rfl,?_⟩;conv=>whnf)))
          cases h4 : namedB (tokT s n) with
          | false =>
            ((conv=>whnf);repeat(refine⟨rfl,?_⟩;conv=>whnf))
            (refine .inl ⟨by (unfold InR; rw [IntKind.wrap_i64]; omega), ?_⟩; ((conv=>whnf);repeat(refine⟨rfl,?_⟩;conv=>whnf)))
            exact ⟨i, by omega, by dsimp only; omega, leB_envH (by dsimp only; rw [no (by rw [h4]; simp)]; (repeat' (first | exact trivial | refine And.intro rfl ?_))) rfl⟩
          | true =>
            ((conv=>whnf);repeat(refine⟨rfl,?_⟩;conv=>whnf))
            (refine .inl ⟨by (unfold InR; rw [IntKind.wrap_i64]; omega), ?_⟩; ((conv=>whnf);repeat(refine⟨rfl,?_⟩;conv=>whnf)))
            exact ⟨i, by omega, by dsimp only; omega, leB_envH (by dsimp only; rw [hst.trans (if_pos ⟨by rw [eqS_symm, ← hg]; exact h2, h3, h4⟩)]; (repeat' (first | exact trivial | refine And.intro rfl ?_))) rfl⟩
        · have h3 : ¬ i < 63 := by ((try simp only[oo,reduceCtorEq]at*)<;>omega)
          (refine .inl ⟨by (unfold InR; rw [IntKind.wrap_i64]; omega), ?_⟩; ((conv=>whnf);repeat(refine⟨rfl,?_⟩;conv=>whnf)))
          exact ⟨i, by omega, by dsimp only; omega, leB_envH (by dsimp only; rw [no (fun q => h3 q.2.1)]; (repeat' (first | exact trivial | refine And.intro rfl ?_))) rfl⟩
    · have : j = 0 := by ((try simp only[oo,reduceCtorEq]at*)<;>omega)
      subst this
      have hsk : seekN names (tokT s n) 0 = match names.findIdx? (eqS (tokT s n)) with
        | some i => if i < 63 ∧ namedB (tokT s n) = true then (i : Int) else -1
        | none => -1 := by
        unfold seekN
        rw [List.drop_zero]
        cases names.findIdx? (eqS (tokT s n)) with
        | none => rfl
        | some i => simp
      have key : (∃ i : Nat, seekN names (tokT s n) 0 = i ∧ r = .ok (mk0 3 i) (n + 1)) ∨ (seekN names (tokT s n) 0 = -1 ∧ r = noR 4 n) := by
        rw [hsk]
        cases h : names.findIdx? (eqS (tokT s n)) with
        | none => rw [h] at hr; exact .inr ⟨rfl, hr⟩
        | some i =>
          rw [h] at hr
          by_cases hc : i < 63 ∧ namedB (tokT s n) = true
          · exact .inl ⟨i, if_pos hc, hr.trans (if_pos hc)⟩
          · exact .inr ⟨if_neg hc, hr.trans (if_neg hc)⟩
      rcases key with ⟨i, e, rfl⟩ | ⟨e, rfl⟩
      · rw [e]
        ((conv=>whnf);repeat(refine⟨rfl,?_⟩;conv=>whnf))
        (refine .inl ⟨by (unfold InR; rw [IntKind.wrap_i64]; omega), ?_⟩; ((conv=>whnf);repeat(refine⟨rfl,?_⟩;conv=>whnf)))
        exact ⟨by (repeat' (first | exact trivial | exact DeepM.none _ | refine And.intro ?_ ?_ | exact Or.inl rfl | exact Or.inr ⟨rfl, rfl⟩ | exact fun _ => rfl | exact (fun h => by cases h) | refine DeepM.loc _ _ _ _ _ rfl rfl ?_ | refine DeepM.own _ _ _ _ _ _ _ _ rfl rfl ?_ | refine DeepM.fn _ _ _ _ _ ?_ ?_ | refine DeepM.agg _ _ ?_ | refine DeepM.tup _ _ ?_ | refine DeepM.ifc _ _ _ ?_ | exact DeepM.refl _ | refine DeepML.cons _ _ _ _ ?_ ?_ | exact DeepML.refl _ | refine DeepMLL.cons _ _ _ _ ?_ ?_ | exact DeepMLL.refl _ | exact rfl)), close_oneT (pure_txt s K names false (n + 1) o 0 0)⟩
      · rw [e]
        ((conv=>whnf);repeat(refine⟨rfl,?_⟩;conv=>whnf))
        (refine .inr (.inr (.inl ⟨rfl, _, _, (txtP hW (by simp [UnderL, Under]) _), ?_⟩)); ((conv=>whnf);repeat(refine⟨rfl,?_⟩;conv=>whnf)))
        exact ⟨by (repeat' (first | exact trivial | exact DeepM.none _ | refine And.intro ?_ ?_ | exact Or.inl rfl | exact Or.inr ⟨rfl, rfl⟩ | exact fun _ => rfl | exact (fun h => by cases h) | refine DeepM.loc _ _ _ _ _ rfl rfl ?_ | refine DeepM.own _ _ _ _ _ _ _ _ rfl rfl ?_ | refine DeepM.fn _ _ _ _ _ ?_ ?_ | refine DeepM.agg _ _ ?_ | refine DeepM.tup _ _ ?_ | refine DeepM.ifc _ _ _ ?_ | exact DeepM.refl _ | refine DeepML.cons _ _ _ _ ?_ ?_ | exact DeepML.refl _ | refine DeepMLL.cons _ _ _ _ ?_ ?_ | exact DeepMLL.refl _ | exact rfl)), close_oneT (pure_txt s K names false _ o _ _)⟩
  · have hl : lowT (tokT s n) = false := by simpa using hl
    have e : r = noR 3 n := hr.trans (if_pos hl)
    subst e
    have hW := ref_wrong s K names false n o hn 3
    refine acall_introD c51_ok (by simp) (by simp) ?_ (under_pure _ (pure_rtree _ _))
    (apply rd_sound; focus (repeat' constructor))
    ((conv=>whnf);repeat(refine⟨rfl,?_⟩;conv=>whnf))
    refine ⟨by omega, _, by rw [Int.toNat_natCast]; exact tokL_at s (show n < K + 1 by omega), ?_⟩
    ((conv=>whnf);repeat(refine⟨rfl,?_⟩;conv=>whnf))
    rw [show ((tokT s n).toList == (⟨#[40]⟩ : ByteArray).toList) = false from g1]
    ((conv=>whnf);repeat(refine⟨rfl,?_⟩;conv=>whnf))
    rw [show ((tokT s n).toList == (⟨#[33]⟩ : ByteArray).toList) = false from g2]
    ((conv=>whnf);repeat(refine⟨rfl,?_⟩;conv=>whnf))
    rw [show ((tokT s n).toList == (⟨#[88]⟩ : ByteArray).toList) = false from gX]
    ((conv=>whnf);repeat(refine⟨rfl,?_⟩;conv=>whnf))
    rw [show ((tokT s n).toList == (⟨#[70]⟩ : ByteArray).toList) = false from gF]
    ((conv=>whnf);repeat(refine⟨rfl,?_⟩;conv=>whnf))
    rw [show ((tokT s n).toList == (⟨#[71]⟩ : ByteArray).toList) = false from gG]
    ((conv=>whnf);repeat(refine⟨rfl,?_⟩;conv=>whnf))
    cases hz : eqS (tokT s n) ⟨#[]⟩ with
    | true =>
      rw [show ((tokT s n).toList == (⟨#[]⟩ : ByteArray).toList) = true from hz]
      ((conv=>whnf);repeat(refine⟨rfl,?_⟩;conv=>whnf))
      (refine .inr (.inr (.inl ⟨rfl, _, _, (txtP hW (by simp [UnderL, Under]) _), ?_⟩)); ((conv=>whnf);repeat(refine⟨rfl,?_⟩;conv=>whnf)))
      exact ⟨by (repeat' (first | exact trivial | exact DeepM.none _ | refine And.intro ?_ ?_ | exact Or.inl rfl | exact Or.inr ⟨rfl, rfl⟩ | exact fun _ => rfl | exact (fun h => by cases h) | refine DeepM.loc _ _ _ _ _ rfl rfl ?_ | refine DeepM.own _ _ _ _ _ _ _ _ rfl rfl ?_ | refine DeepM.fn _ _ _ _ _ ?_ ?_ | refine DeepM.agg _ _ ?_ | refine DeepM.tup _ _ ?_ | refine DeepM.ifc _ _ _ ?_ | exact DeepM.refl _ | refine DeepML.cons _ _ _ _ ?_ ?_ | exact DeepML.refl _ | refine DeepMLL.cons _ _ _ _ ?_ ?_ | exact DeepMLL.refl _ | exact rfl)), close_oneT (pure_txt s K names false _ o _ _)⟩
    | false =>
      have h0 : 0 < (tokT s n).size := by
        rcases Nat.eq_zero_or_pos (tokT s n).size with h | h
        · rw [(eqS_empty _).2 h] at hz; cases hz
        · exact h
      obtain ⟨b, hb⟩ := byte_at h0
      have hc := chr_of hb
      have hlo : ¬ (97 ≤ b.toNat ∧ b.toNat ≤ 122) := by
        rw [← hc]
        unfold lowT at hl
        rw [decide_eq_true h0, Bool.true_and] at hl
        intro q
        rw [decide_eq_true q.1, decide_eq_true q.2] at hl
        cases hl
      rw [show ((tokT s n).toList == (⟨#[]⟩ : ByteArray).toList) = false from hz]
      ((conv=>whnf);repeat(refine⟨rfl,?_⟩;conv=>whnf))
      refine ⟨by omega, b, hb, ?_⟩
      ((conv=>whnf);repeat(refine⟨rfl,?_⟩;conv=>whnf))
      (refine ifK_split (fun h1 => ?_) (fun h1 => ?_) <;> (rw [h1]; ((conv=>whnf);repeat(refine⟨rfl,?_⟩;conv=>whnf))))
      · (refine .inr (.inr (.inl ⟨rfl, _, _, (txtP hW (by simp [UnderL, Under]) _), ?_⟩)); ((conv=>whnf);repeat(refine⟨rfl,?_⟩;conv=>whnf)))
        exact ⟨by (repeat' (first | exact trivial | exact DeepM.none _ | refine And.intro ?_ ?_ | exact Or.inl rfl | exact Or.inr ⟨rfl, rfl⟩ | exact fun _ => rfl | exact (fun h => by cases h) | refine DeepM.loc _ _ _ _ _ rfl rfl ?_ | refine DeepM.own _ _ _ _ _ _ _ _ rfl rfl ?_ | refine DeepM.fn _ _ _ _ _ ?_ ?_ | refine DeepM.agg _ _ ?_ | refine DeepM.tup _ _ ?_ | refine DeepM.ifc _ _ _ ?_ | exact DeepM.refl _ | refine DeepML.cons _ _ _ _ ?_ ?_ | exact DeepML.refl _ | refine DeepMLL.cons _ _ _ _ ?_ ?_ | exact DeepMLL.refl _ | exact rfl)), close_oneT (pure_txt s K names false _ o _ _)⟩
      · refine ⟨by omega, b, hb, ?_⟩
        ((conv=>whnf);repeat(refine⟨rfl,?_⟩;conv=>whnf))
        refine ifK_t (by have : ¬ ((b.toNat : Int) < 97) := by ((try simp only[oo,reduceCtorEq]at*)<;>omega)
                         simp only [decide_eq_true_eq]; omega) ?_
        ((conv=>whnf);repeat(refine⟨rfl,?_⟩;conv=>whnf))
        (refine .inr (.inr (.inl ⟨rfl, _, _, (txtP hW (by simp [UnderL, Under]) _), ?_⟩)); ((conv=>whnf);repeat(refine⟨rfl,?_⟩;conv=>whnf)))
        exact ⟨by (repeat' (first | exact trivial | exact DeepM.none _ | refine And.intro ?_ ?_ | exact Or.inl rfl | exact Or.inr ⟨rfl, rfl⟩ | exact fun _ => rfl | exact (fun h => by cases h) | refine DeepM.loc _ _ _ _ _ rfl rfl ?_ | refine DeepM.own _ _ _ _ _ _ _ _ rfl rfl ?_ | refine DeepM.fn _ _ _ _ _ ?_ ?_ | refine DeepM.agg _ _ ?_ | refine DeepM.tup _ _ ?_ | refine DeepM.ifc _ _ _ ?_ | exact DeepM.refl _ | refine DeepML.cons _ _ _ _ ?_ ?_ | exact DeepML.refl _ | refine DeepMLL.cons _ _ _ _ ?_ ?_ | exact DeepMLL.refl _ | exact rfl)), close_oneT (pure_txt s K names false _ o _ _)⟩
set_option maxHeartbeats 2000000 in
theorem refL_single (hs : s.size ≤ 1000000000) (hnm : names.length ≤ 9223372036854775807) (hK : eqS (tokT s K) ⟨#[]⟩ = true) (hK3 : K ≤ 300) (o : Nat) (ho : o ≤ 20) (f : Nat)
    (hp : ∀ f' n r, f' < f → o < 20 → n ≤ K → runR (tokT s) names false f' .formula (o + 1) n = some r → RAns s K names false 28 [.loc 0 0] n (o + 1) r)
    (hq : ∀ f' n r, f' < f → o < 20 → n ≤ K → runR (tokT s) names false f' .single (o + 1) n = some r → RAns s K names false 51 [.loc 0 0] n (o + 1) r)
    (n : Nat) (hn : n ≤ K) (r : Res) (hr : runR (tokT s) names false f .single o n = some r) : RAns s K names false 51 [.loc 0 0] n o r := by
  cases f with
  | zero => simp [runR] at hr
  | succ f =>
    simp only [runR] at hr
    by_cases g1 : eqS (tokT s n) (one 40) = true
    · rw [if_pos g1] at hr
      have hn1 := notEnd hK hn g1 (by decide)
      by_cases h20 : o = 20
      · rw [if_pos h20] at hr
        cases hr
        subst h20
        have hO := ref_opens20 s K names false n hn
        refine acall_introD c51_ok (by simp) (by simp) ?_ (under_pure _ (pure_rtree _ _))
        (apply rd_sound; focus (repeat' constructor))
        ((conv=>whnf);repeat(refine⟨rfl,?_⟩;conv=>whnf))
        refine ⟨by omega, _, by rw [Int.toNat_natCast]; exact tokL_at s (show n < K + 1 by omega), ?_⟩
        ((conv=>whnf);repeat(refine⟨rfl,?_⟩;conv=>whnf))
        rw [show ((tokT s n).toList == (⟨#[40]⟩ : ByteArray).toList) = true from g1]
        ((conv=>whnf);repeat(refine⟨rfl,?_⟩;conv=>whnf))
        (refine .inr (.inr (.inl ⟨rfl, _, _, (txtP hO (by simp [UnderL, Under]) _), ?_⟩)); ((conv=>whnf);repeat(refine⟨rfl,?_⟩;conv=>whnf)))
        exact ⟨by (repeat' (first | exact trivial | exact DeepM.none _ | refine And.intro ?_ ?_ | exact Or.inl rfl | exact Or.inr ⟨rfl, rfl⟩ | exact fun _ => rfl | exact (fun h => by cases h) | refine DeepM.loc _ _ _ _ _ rfl rfl ?_ | refine DeepM.own _ _ _ _ _ _ _ _ rfl rfl ?_ | refine DeepM.fn _ _ _ _ _ ?_ ?_ | refine DeepM.agg _ _ ?_ | refine DeepM.tup _ _ ?_ | refine DeepM.ifc _ _ _ ?_ | exact DeepM.refl _ | refine DeepML.cons _ _ _ _ ?_ ?_ | exact DeepML.refl _ | refine DeepMLL.cons _ _ _ _ ?_ ?_ | exact DeepMLL.refl _ | exact rfl)), close_oneT (pure_txt s K names false _ _ _ _)⟩
      · rw [if_neg h20] at hr
        have hO := ref_opens s K names false hK3 n o hn (by omega)
        rcases bindR_some hr with ⟨a, m, h1, h2⟩ | ⟨c, m, t, y, h1, rfl⟩
        · have hm : m ≤ K := runR_in hK _ _ _ _ _ hn1 h1
          have hA : ACall Tryd.prog 28 _ _ _ _ := hp f _ _ (by omega) (by omega) hn1 h1
          have hT := ref_eat s K names false hK3 m o hm 0 (one 41)
          by_cases hu : eqS (tokT s m) (one 41) = true
          · rw [if_pos hu] at h2 hT
            rw [hu] at hT
            cases h2
            refine acall_introD c51_ok (by simp) (by simp) ?_ (under_pure _ (pure_rtree _ _))
            (apply rd_sound; focus (repeat' constructor))
            ((conv=>whnf);repeat(refine⟨rfl,?_⟩;conv=>whnf))
            refine ⟨by omega, _, by rw [Int.toNat_natCast]; exact tokL_at s (show n < K + 1 by omega), ?_⟩
            ((conv=>whnf);repeat(refine⟨rfl,?_⟩;conv=>whnf))
            rw [show ((tokT s n).toList == (⟨#[40]⟩ : ByteArray).toList) = true from g1]
            ((conv=>whnf);repeat(refine⟨rfl,?_⟩;conv=>whnf))
            (refine .inr (.inr (.inl ⟨rfl, _, _, (txtP hO (by simp [UnderL, Under]) _), ?_⟩)); ((conv=>whnf);repeat(refine⟨rfl,?_⟩;conv=>whnf)))
            (refine .inr (.inr (.inl ⟨rfl, _, _, (txtP hA (by simp [UnderL, Under]) _), ?_⟩)); ((conv=>whnf);repeat(refine⟨rfl,?_⟩;conv=>whnf)))
            refine .inl ⟨by unfold InR; rw [IntKind.wrap_i64]; omega, ?_⟩
            ((conv=>whnf);repeat(refine⟨rfl,?_⟩;conv=>whnf))
            rw [show (((o + 1 : Nat) : Int) - 1) = (o : Int) by omega]
            (refine .inr (.inr (.inl ⟨rfl, _, _, (txtP hT (by simp [UnderL, Under]) _), ?_⟩)); ((conv=>whnf);repeat(refine⟨rfl,?_⟩;conv=>whnf)))
            exact ⟨by (repeat' (first | exact trivial | exact DeepM.none _ | refine And.intro ?_ ?_ | exact Or.inl rfl | exact Or.inr ⟨rfl, rfl⟩ | exact fun _ => rfl | exact (fun h => by cases h) | refine DeepM.loc _ _ _ _ _ rfl rfl ?_ | refine DeepM.own _ _ _ _ _ _ _ _ rfl rfl ?_ | refine DeepM.fn _ _ _ _ _ ?_ ?_ | refine DeepM.agg _ _ ?_ | refine DeepM.tup _ _ ?_ | refine DeepM.ifc _ _ _ ?_ | exact DeepM.refl _ | refine DeepML.cons _ _ _ _ ?_ ?_ | exact DeepML.refl _ | refine DeepMLL.cons _ _ _ _ ?_ ?_ | exact DeepMLL.refl _ | exact rfl)), close_oneT (pure_txt s K names false _ _ _ _)⟩
          · rw [if_neg hu] at h2 hT
            rw [show eqS (tokT s m) (one 41) = false by simpa using hu] at hT
            have hW := ref_wrong s K names false m o hm 3
            cases h2
            refine acall_introD c51_ok (by simp) (by simp) ?_ (under_pure _ (pure_rtree _ _))
            (apply rd_sound; focus (repeat' constructor))
            ((conv=>whnf);repeat(refine⟨rfl,?_⟩;conv=>whnf))
            refine ⟨by omega, _, by rw [Int.toNat_natCast]; exact tokL_at s (show n < K + 1 by omega), ?_⟩
            ((conv=>whnf);repeat(refine⟨rfl,?_⟩;conv=>whnf))
            rw [show ((tokT s n).toList == (⟨#[40]⟩ : ByteArray).toList) = true from g1]
            ((conv=>whnf);repeat(refine⟨rfl,?_⟩;conv=>whnf))
            (refine .inr (.inr (.inl ⟨rfl, _, _, (txtP hO (by simp [UnderL, Under]) _), ?_⟩)); ((conv=>whnf);repeat(refine⟨rfl,?_⟩;conv=>whnf)))
            (refine .inr (.inr (.inl ⟨rfl, _, _, (txtP hA (by simp [UnderL, Under]) _), ?_⟩)); ((conv=>whnf);repeat(refine⟨rfl,?_⟩;conv=>whnf)))
            refine .inl ⟨by unfold InR; rw [IntKind.wrap_i64]; omega, ?_⟩
            ((conv=>whnf);repeat(refine⟨rfl,?_⟩;conv=>whnf))
            rw [show (((o + 1 : Nat) : Int) - 1) = (o : Int) by omega]
            (refine .inr (.inr (.inl ⟨rfl, _, _, (txtP hT (by simp [UnderL, Under]) _), ?_⟩)); ((conv=>whnf);repeat(refine⟨rfl,?_⟩;conv=>whnf)))
            (refine .inr (.inr (.inl ⟨rfl, _, _, (txtP hW (by simp [UnderL, Under]) _), ?_⟩)); ((conv=>whnf);repeat(refine⟨rfl,?_⟩;conv=>whnf)))
            exact ⟨by (repeat' (first | exact trivial | exact DeepM.none _ | refine And.intro ?_ ?_ | exact Or.inl rfl | exact Or.inr ⟨rfl, rfl⟩ | exact fun _ => rfl | exact (fun h => by cases h) | refine DeepM.loc _ _ _ _ _ rfl rfl ?_ | refine DeepM.own _ _ _ _ _ _ _ _ rfl rfl ?_ | refine DeepM.fn _ _ _ _ _ ?_ ?_ | refine DeepM.agg _ _ ?_ | refine DeepM.tup _ _ ?_ | refine DeepM.ifc _ _ _ ?_ | exact DeepM.refl _ | refine DeepML.cons _ _ _ _ ?_ ?_ | exact DeepML.refl _ | refine DeepMLL.cons _ _ _ _ ?_ ?_ | exact DeepMLL.refl _ | exact rfl)), close_oneT (pure_txt s K names false _ _ _ _)⟩
        · have hc : c ≠ 0 := runR_in hK _ _ _ _ _ hn1 h1
          have hA : ACall Tryd.prog 28 _ _ _ _ := hp f _ _ (by omega) (by omega) hn1 h1
          have hT := ref_eatE s K names false m o c (atT s m) hc (one 41)
          have hW := ref_wrongE s K names false m o c (atT s m) 3 hc
          refine acall_introD c51_ok (by simp) (by simp) ?_ (under_pure _ (pure_rtree _ _))
          (apply rd_sound; focus (repeat' constructor))
          ((conv=>whnf);repeat(refine⟨rfl,?_⟩;conv=>whnf))
          refine ⟨by omega, _, by rw [Int.toNat_natCast]; exact tokL_at s (show n < K + 1 by omega), ?_⟩
          ((conv=>whnf);repeat(refine⟨rfl,?_⟩;conv=>whnf))
          rw [show ((tokT s n).toList == (⟨#[40]⟩ : ByteArray).toList) = true from g1]
          ((conv=>whnf);repeat(refine⟨rfl,?_⟩;conv=>whnf))
          (refine .inr (.inr (.inl ⟨rfl, _, _, (txtP hO (by simp [UnderL, Under]) _), ?_⟩)); ((conv=>whnf);repeat(refine⟨rfl,?_⟩;conv=>whnf)))
          (refine .inr (.inr (.inl ⟨rfl, _, _, (txtP hA (by simp [UnderL, Under]) _), ?_⟩)); ((conv=>whnf);repeat(refine⟨rfl,?_⟩;conv=>whnf)))
          refine .inl ⟨by unfold InR; rw [IntKind.wrap_i64]; omega, ?_⟩
          ((conv=>whnf);repeat(refine⟨rfl,?_⟩;conv=>whnf))
          rw [show (((o + 1 : Nat) : Int) - 1) = (o : Int) by omega]
          (refine .inr (.inr (.inl ⟨rfl, _, _, (txtP hT (by simp [UnderL, Under]) _), ?_⟩)); ((conv=>whnf);repeat(refine⟨rfl,?_⟩;conv=>whnf)))
          (refine .inr (.inr (.inl ⟨rfl, _, _, (txtP hW (by simp [UnderL, Under]) _), ?_⟩)); ((conv=>whnf);repeat(refine⟨rfl,?_⟩;conv=>whnf)))
          exact ⟨by (repeat' (first | exact trivial | exact DeepM.none _ | refine And.intro ?_ ?_ | exact Or.inl rfl | exact Or.inr ⟨rfl, rfl⟩ | exact fun _ => rfl | exact (fun h => by cases h) | refine DeepM.loc _ _ _ _ _ rfl rfl ?_ | refine DeepM.own _ _ _ _ _ _ _ _ rfl rfl ?_ | refine DeepM.fn _ _ _ _ _ ?_ ?_ | refine DeepM.agg _ _ ?_ | refine DeepM.tup _ _ ?_ | refine DeepM.ifc _ _ _ ?_ | exact DeepM.refl _ | refine DeepML.cons _ _ _ _ ?_ ?_ | exact DeepML.refl _ | refine DeepMLL.cons _ _ _ _ ?_ ?_ | exact DeepMLL.refl _ | exact rfl)), close_oneT (pure_txt s K names false _ _ _ _)⟩
    rw [if_neg g1] at hr
    have g1 : eqS (tokT s n) (one 40) = false := by simpa using g1
    by_cases g2 : eqS (tokT s n) (one 33) = true
    · have e0 : preK false (tokT s n) = 4 := by simp_all [preK]
      rw [e0, if_pos (by decide)] at hr
      have hn1 := notEnd hK hn g2 (by decide)
      by_cases h20 : o = 20
      · rw [if_pos h20] at hr
        cases hr
        subst h20
        have hO := ref_opens20 s K names false n hn
        refine acall_introD c51_ok (by simp) (by simp) ?_ (under_pure _ (pure_rtree _ _))
        (apply rd_sound; focus (repeat' constructor))
        ((conv=>whnf);repeat(refine⟨rfl,?_⟩;conv=>whnf))
        refine ⟨by omega, _, by rw [Int.toNat_natCast]; exact tokL_at s (show n < K + 1 by omega), ?_⟩
        ((conv=>whnf);repeat(refine⟨rfl,?_⟩;conv=>whnf))
        rw [show ((tokT s n).toList == (⟨#[40]⟩ : ByteArray).toList) = false from g1]
        ((conv=>whnf);repeat(refine⟨rfl,?_⟩;conv=>whnf))
        rw [show ((tokT s n).toList == (⟨#[33]⟩ : ByteArray).toList) = true from g2]
        ((conv=>whnf);repeat(refine⟨rfl,?_⟩;conv=>whnf))
        (refine .inr (.inr (.inl ⟨rfl, _, _, (txtP hO (by simp [UnderL, Under]) _), ?_⟩)); ((conv=>whnf);repeat(refine⟨rfl,?_⟩;conv=>whnf)))
        exact ⟨by (repeat' (first | exact trivial | exact DeepM.none _ | refine And.intro ?_ ?_ | exact Or.inl rfl | exact Or.inr ⟨rfl, rfl⟩ | exact fun _ => rfl | exact (fun h => by cases h) | refine DeepM.loc _ _ _ _ _ rfl rfl ?_ | refine DeepM.own _ _ _ _ _ _ _ _ rfl rfl ?_ | refine DeepM.fn _ _ _ _ _ ?_ ?_ | refine DeepM.agg _ _ ?_ | refine DeepM.tup _ _ ?_ | refine DeepM.ifc _ _ _ ?_ | exact DeepM.refl _ | refine DeepML.cons _ _ _ _ ?_ ?_ | exact DeepML.refl _ | refine DeepMLL.cons _ _ _ _ ?_ ?_ | exact DeepMLL.refl _ | exact rfl)), close_oneT (pure_txt s K names false _ _ _ _)⟩
      · rw [if_neg h20] at hr
        have hO := ref_opens s K names false hK3 n o hn (by omega)
        obtain ⟨q, h1, e1, e2, e3, e4⟩ : ∃ q, runR (tokT s) names false f .single (o + 1) (n + 1) = some q ∧ r.treeR = mk1 4 q.treeR ∧ r.posR = q.posR ∧ r.code = q.code ∧ r.place s = q.place s := by
          rcases bindR_some hr with ⟨a, m, h1, h2⟩ | ⟨c, m, t, y, h1, rfl⟩
          · cases h2; exact ⟨_, h1, rfl, rfl, rfl, rfl⟩
          · exact ⟨_, h1, rfl, rfl, rfl, rfl⟩
        have hA : ACall Tryd.prog 51 _ _ _ _ := hq f _ _ (by omega) (by omega) hn1 h1
        unfold RAns
        rw [e1, e2, e3, e4]
        refine acall_introD c51_ok (by simp) (by simp) ?_ (under_pure _ (pure_rtree _ _))
        (apply rd_sound; focus (repeat' constructor))
        ((conv=>whnf);repeat(refine⟨rfl,?_⟩;conv=>whnf))
        refine ⟨by omega, _, by rw [Int.toNat_natCast]; exact tokL_at s (show n < K + 1 by omega), ?_⟩
        ((conv=>whnf);repeat(refine⟨rfl,?_⟩;conv=>whnf))
        rw [show ((tokT s n).toList == (⟨#[40]⟩ : ByteArray).toList) = false from g1]
        ((conv=>whnf);repeat(refine⟨rfl,?_⟩;conv=>whnf))
        rw [show ((tokT s n).toList == (⟨#[33]⟩ : ByteArray).toList) = true from g2]
        ((conv=>whnf);repeat(refine⟨rfl,?_⟩;conv=>whnf))
        (refine .inr (.inr (.inl ⟨rfl, _, _, (txtP hO (by simp [UnderL, Under]) _), ?_⟩)); ((conv=>whnf);repeat(refine⟨rfl,?_⟩;conv=>whnf)))
        (refine .inr (.inr (.inl ⟨rfl, _, _, (txtP hA (by simp [UnderL, Under]) _), ?_⟩)); ((conv=>whnf);repeat(refine⟨rfl,?_⟩;conv=>whnf)))
        refine .inl ⟨by unfold InR; rw [IntKind.wrap_i64]; omega, ?_⟩
        ((conv=>whnf);repeat(refine⟨rfl,?_⟩;conv=>whnf))
        rw [show (((o + 1 : Nat) : Int) - 1) = (o : Int) by omega]
        refine ⟨.agg _ _ ?_, close_oneT (pure_txt s K names false _ o _ _)⟩
        have hb : tokT s n = one 33 := eqS_eq g2
        rw [hb]
        (refine rr1 (a := q.treeR) (k := 4) (id := 3) false ?_ ?_ ?_) <;> rfl
    have g2 : eqS (tokT s n) (one 33) = false := by simpa using g2
    by_cases gX : eqS (tokT s n) (one 88) = true
    · have e0 : preK false (tokT s n) = 7 := by simp_all [preK]
      rw [e0, if_pos (by decide)] at hr
      have hn1 := notEnd hK hn gX (by decide)
      by_cases h20 : o = 20
      · rw [if_pos h20] at hr
        cases hr
        subst h20
        have hO := ref_opens20 s K names false n hn
        refine acall_introD c51_ok (by simp) (by simp) ?_ (under_pure _ (pure_rtree _ _))
        (apply rd_sound; focus (repeat' constructor))
        ((conv=>whnf);repeat(refine⟨rfl,?_⟩;conv=>whnf))
        refine ⟨by omega, _, by rw [Int.toNat_natCast]; exact tokL_at s (show n < K + 1 by omega), ?_⟩
        ((conv=>whnf);repeat(refine⟨rfl,?_⟩;conv=>whnf))
        rw [show ((tokT s n).toList == (⟨#[40]⟩ : ByteArray).toList) = false from g1]
        ((conv=>whnf);repeat(refine⟨rfl,?_⟩;conv=>whnf))
        rw [show ((tokT s n).toList == (⟨#[33]⟩ : ByteArray).toList) = false from g2]
        ((conv=>whnf);repeat(refine⟨rfl,?_⟩;conv=>whnf))
        rw [show ((tokT s n).toList == (⟨#[88]⟩ : ByteArray).toList) = true from gX]
        ((conv=>whnf);repeat(refine⟨rfl,?_⟩;conv=>whnf))
        (refine .inr (.inr (.inl ⟨rfl, _, _, (txtP hO (by simp [UnderL, Under]) _), ?_⟩)); ((conv=>whnf);repeat(refine⟨rfl,?_⟩;conv=>whnf)))
        exact ⟨by (repeat' (first | exact trivial | exact DeepM.none _ | refine And.intro ?_ ?_ | exact Or.inl rfl | exact Or.inr ⟨rfl, rfl⟩ | exact fun _ => rfl | exact (fun h => by cases h) | refine DeepM.loc _ _ _ _ _ rfl rfl ?_ | refine DeepM.own _ _ _ _ _ _ _ _ rfl rfl ?_ | refine DeepM.fn _ _ _ _ _ ?_ ?_ | refine DeepM.agg _ _ ?_ | refine DeepM.tup _ _ ?_ | refine DeepM.ifc _ _ _ ?_ | exact DeepM.refl _ | refine DeepML.cons _ _ _ _ ?_ ?_ | exact DeepML.refl _ | refine DeepMLL.cons _ _ _ _ ?_ ?_ | exact DeepMLL.refl _ | exact rfl)), close_oneT (pure_txt s K names false _ _ _ _)⟩
      · rw [if_neg h20] at hr
        have hO := ref_opens s K names false hK3 n o hn (by omega)
        obtain ⟨q, h1, e1, e2, e3, e4⟩ : ∃ q, runR (tokT s) names false f .single (o + 1) (n + 1) = some q ∧ r.treeR = mk1 7 q.treeR ∧ r.posR = q.posR ∧ r.code = q.code ∧ r.place s = q.place s := by
          rcases bindR_some hr with ⟨a, m, h1, h2⟩ | ⟨c, m, t, y, h1, rfl⟩
          · cases h2; exact ⟨_, h1, rfl, rfl, rfl, rfl⟩
          · exact ⟨_, h1, rfl, rfl, rfl, rfl⟩
        have hA : ACall Tryd.prog 51 _ _ _ _ := hq f _ _ (by omega) (by omega) hn1 h1
        unfold RAns
        rw [e1, e2, e3, e4]
        refine acall_introD c51_ok (by simp) (by simp) ?_ (under_pure _ (pure_rtree _ _))
        (apply rd_sound; focus (repeat' constructor))
        ((conv=>whnf);repeat(refine⟨rfl,?_⟩;conv=>whnf))
        refine ⟨by omega, _, by rw [Int.toNat_natCast]; exact tokL_at s (show n < K + 1 by omega), ?_⟩
        ((conv=>whnf);repeat(refine⟨rfl,?_⟩;conv=>whnf))
        rw [show ((tokT s n).toList == (⟨#[40]⟩ : ByteArray).toList) = false from g1]
        ((conv=>whnf);repeat(refine⟨rfl,?_⟩;conv=>whnf))
        rw [show ((tokT s n).toList == (⟨#[33]⟩ : ByteArray).toList) = false from g2]
        ((conv=>whnf);repeat(refine⟨rfl,?_⟩;conv=>whnf))
        rw [show ((tokT s n).toList == (⟨#[88]⟩ : ByteArray).toList) = true from gX]
        ((conv=>whnf);repeat(refine⟨rfl,?_⟩;conv=>whnf))
        (refine .inr (.inr (.inl ⟨rfl, _, _, (txtP hO (by simp [UnderL, Under]) _), ?_⟩)); ((conv=>whnf);repeat(refine⟨rfl,?_⟩;conv=>whnf)))
        (refine .inr (.inr (.inl ⟨rfl, _, _, (txtP hA (by simp [UnderL, Under]) _), ?_⟩)); ((conv=>whnf);repeat(refine⟨rfl,?_⟩;conv=>whnf)))
        refine .inl ⟨by unfold InR; rw [IntKind.wrap_i64]; omega, ?_⟩
        ((conv=>whnf);repeat(refine⟨rfl,?_⟩;conv=>whnf))
        rw [show (((o + 1 : Nat) : Int) - 1) = (o : Int) by omega]
        refine ⟨.agg _ _ ?_, close_oneT (pure_txt s K names false _ o _ _)⟩
        have hb : tokT s n = one 88 := eqS_eq gX
        rw [hb]
        (refine rr1 (a := q.treeR) (k := 7) (id := 3) false ?_ ?_ ?_) <;> rfl
    have gX : eqS (tokT s n) (one 88) = false := by simpa using gX
    by_cases gF : eqS (tokT s n) (one 70) = true
    · have e0 : preK false (tokT s n) = 10 := by simp_all [preK]
      rw [e0, if_pos (by decide)] at hr
      have hn1 := notEnd hK hn gF (by decide)
      by_cases h20 : o = 20
      · rw [if_pos h20] at hr
        cases hr
        subst h20
        have hO := ref_opens20 s K names false n hn
        refine acall_introD c51_ok (by simp) (by simp) ?_ (under_pure _ (pure_rtree _ _))
        (apply rd_sound; focus (repeat' constructor))
        ((conv=>whnf);repeat(refine⟨rfl,?_⟩;conv=>whnf))
        refine ⟨by omega, _, by rw [Int.toNat_natCast]; exact tokL_at s (show n < K + 1 by omega), ?_⟩
        ((conv=>whnf);repeat(refine⟨rfl,?_⟩;conv=>whnf))
        rw [show ((tokT s n).toList == (⟨#[40]⟩ : ByteArray).toList) = false from g1]
        ((conv=>whnf);repeat(refine⟨rfl,?_⟩;conv=>whnf))
        rw [show ((tokT s n).toList == (⟨#[33]⟩ : ByteArray).toList) = false from g2]
        ((conv=>whnf);repeat(refine⟨rfl,?_⟩;conv=>whnf))
        rw [show ((tokT s n).toList == (⟨#[88]⟩ : ByteArray).toList) = false from gX]
        ((conv=>whnf);repeat(refine⟨rfl,?_⟩;conv=>whnf))
        rw [show ((tokT s n).toList == (⟨#[70]⟩ : ByteArray).toList) = true from gF]
        ((conv=>whnf);repeat(refine⟨rfl,?_⟩;conv=>whnf))
        (refine .inr (.inr (.inl ⟨rfl, _, _, (txtP hO (by simp [UnderL, Under]) _), ?_⟩)); ((conv=>whnf);repeat(refine⟨rfl,?_⟩;conv=>whnf)))
        exact ⟨by (repeat' (first | exact trivial | exact DeepM.none _ | refine And.intro ?_ ?_ | exact Or.inl rfl | exact Or.inr ⟨rfl, rfl⟩ | exact fun _ => rfl | exact (fun h => by cases h) | refine DeepM.loc _ _ _ _ _ rfl rfl ?_ | refine DeepM.own _ _ _ _ _ _ _ _ rfl rfl ?_ | refine DeepM.fn _ _ _ _ _ ?_ ?_ | refine DeepM.agg _ _ ?_ | refine DeepM.tup _ _ ?_ | refine DeepM.ifc _ _ _ ?_ | exact DeepM.refl _ | refine DeepML.cons _ _ _ _ ?_ ?_ | exact DeepML.refl _ | refine DeepMLL.cons _ _ _ _ ?_ ?_ | exact DeepMLL.refl _ | exact rfl)), close_oneT (pure_txt s K names false _ _ _ _)⟩
      · rw [if_neg h20] at hr
        have hO := ref_opens s K names false hK3 n o hn (by omega)
        obtain ⟨q, h1, e1, e2, e3, e4⟩ : ∃ q, runR (tokT s) names false f .single (o + 1) (n + 1) = some q ∧ r.treeR = mk1 10 q.treeR ∧ r.posR = q.posR ∧ r.code = q.code ∧ r.place s = q.place s := by
          rcases bindR_some hr with ⟨a, m, h1, h2⟩ | ⟨c, m, t, y, h1, rfl⟩
          · cases h2; exact ⟨_, h1, rfl, rfl, rfl, rfl⟩
          · exact ⟨_, h1, rfl, rfl, rfl, rfl⟩
        have hA : ACall Tryd.prog 51 _ _ _ _ := hq f _ _ (by omega) (by omega) hn1 h1
        unfold RAns
        rw [e1, e2, e3, e4]
        refine acall_introD c51_ok (by simp) (by simp) ?_ (under_pure _ (pure_rtree _ _))
        (apply rd_sound; focus (repeat' constructor))
        ((conv=>whnf);repeat(refine⟨rfl,?_⟩;conv=>whnf))
        refine ⟨by omega, _, by rw [Int.toNat_natCast]; exact tokL_at s (show n < K + 1 by omega), ?_⟩
        ((conv=>whnf);repeat(refine⟨rfl,?_⟩;conv=>whnf))
        rw [show ((tokT s n).toList == (⟨#[40]⟩ : ByteArray).toList) = false from g1]
        ((conv=>whnf);repeat(refine⟨rfl,?_⟩;conv=>whnf))
        rw [show ((tokT s n).toList == (⟨#[33]⟩ : ByteArray).toList) = false from g2]
        ((conv=>whnf);repeat(refine⟨rfl,?_⟩;conv=>whnf))
        rw [show ((tokT s n).toList == (⟨#[88]⟩ : ByteArray).toList) = false from gX]
        ((conv=>whnf);repeat(refine⟨rfl,?_⟩;conv=>whnf))
        rw [show ((tokT s n).toList == (⟨#[70]⟩ : ByteArray).toList) = true from gF]
        ((conv=>whnf);repeat(refine⟨rfl,?_⟩;conv=>whnf))
        (refine .inr (.inr (.inl ⟨rfl, _, _, (txtP hO (by simp [UnderL, Under]) _), ?_⟩)); ((conv=>whnf);repeat(refine⟨rfl,?_⟩;conv=>whnf)))
        (refine .inr (.inr (.inl ⟨rfl, _, _, (txtP hA (by simp [UnderL, Under]) _), ?_⟩)); ((conv=>whnf);repeat(refine⟨rfl,?_⟩;conv=>whnf)))
        refine .inl ⟨by unfold InR; rw [IntKind.wrap_i64]; omega, ?_⟩
        ((conv=>whnf);repeat(refine⟨rfl,?_⟩;conv=>whnf))
        rw [show (((o + 1 : Nat) : Int) - 1) = (o : Int) by omega]
        refine ⟨.agg _ _ ?_, close_oneT (pure_txt s K names false _ o _ _)⟩
        have hb : tokT s n = one 70 := eqS_eq gF
        rw [hb]
        (refine rr1 (a := q.treeR) (k := 10) (id := 3) false ?_ ?_ ?_) <;> rfl
    have gF : eqS (tokT s n) (one 70) = false := by simpa using gF
    by_cases gG : eqS (tokT s n) (one 71) = true
    · have e0 : preK false (tokT s n) = 11 := by simp_all [preK]
      rw [e0, if_pos (by decide)] at hr
      have hn1 := notEnd hK hn gG (by decide)
      by_cases h20 : o = 20
      · rw [if_pos h20] at hr
        cases hr
        subst h20
        have hO := ref_opens20 s K names false n hn
        refine acall_introD c51_ok (by simp) (by simp) ?_ (under_pure _ (pure_rtree _ _))
        (apply rd_sound; focus (repeat' constructor))
        ((conv=>whnf);repeat(refine⟨rfl,?_⟩;conv=>whnf))
        refine ⟨by omega, _, by rw [Int.toNat_natCast]; exact tokL_at s (show n < K + 1 by omega), ?_⟩
        ((conv=>whnf);repeat(refine⟨rfl,?_⟩;conv=>whnf))
        rw [show ((tokT s n).toList == (⟨#[40]⟩ : ByteArray).toList) = false from g1]
        ((conv=>whnf);repeat(refine⟨rfl,?_⟩;conv=>whnf))
        rw [show ((tokT s n).toList == (⟨#[33]⟩ : ByteArray).toList) = false from g2]
        ((conv=>whnf);repeat(refine⟨rfl,?_⟩;conv=>whnf))
        rw [show ((tokT s n).toList == (⟨#[88]⟩ : ByteArray).toList) = false from gX]
        ((conv=>whnf);repeat(refine⟨rfl,?_⟩;conv=>whnf))
        rw [show ((tokT s n).toList == (⟨#[70]⟩ : ByteArray).toList) = false from gF]
        ((conv=>whnf);repeat(refine⟨rfl,?_⟩;conv=>whnf))
        rw [show ((tokT s n).toList == (⟨#[71]⟩ : ByteArray).toList) = true from gG]
        ((conv=>whnf);repeat(refine⟨rfl,?_⟩;conv=>whnf))
        (refine .inr (.inr (.inl ⟨rfl, _, _, (txtP hO (by simp [UnderL, Under]) _), ?_⟩)); ((conv=>whnf);repeat(refine⟨rfl,?_⟩;conv=>whnf)))
        exact ⟨by (repeat' (first | exact trivial | exact DeepM.none _ | refine And.intro ?_ ?_ | exact Or.inl rfl | exact Or.inr ⟨rfl, rfl⟩ | exact fun _ => rfl | exact (fun h => by cases h) | refine DeepM.loc _ _ _ _ _ rfl rfl ?_ | refine DeepM.own _ _ _ _ _ _ _ _ rfl rfl ?_ | refine DeepM.fn _ _ _ _ _ ?_ ?_ | refine DeepM.agg _ _ ?_ | refine DeepM.tup _ _ ?_ | refine DeepM.ifc _ _ _ ?_ | exact DeepM.refl _ | refine DeepML.cons _ _ _ _ ?_ ?_ | exact DeepML.refl _ | refine DeepMLL.cons _ _ _ _ ?_ ?_ | exact DeepMLL.refl _ | exact rfl)), close_oneT (pure_txt s K names false _ _ _ _)⟩
      · rw [if_neg h20] at hr
        have hO := ref_opens s K names false hK3 n o hn (by omega)
        obtain ⟨q, h1, e1, e2, e3, e4⟩ : ∃ q, runR (tokT s) names false f .single (o + 1) (n + 1) = some q ∧ r.treeR = mk1 11 q.treeR ∧ r.posR = q.posR ∧ r.code = q.code ∧ r.place s = q.place s := by
          rcases bindR_some hr with ⟨a, m, h1, h2⟩ | ⟨c, m, t, y, h1, rfl⟩
          · cases h2; exact ⟨_, h1, rfl, rfl, rfl, rfl⟩
          · exact ⟨_, h1, rfl, rfl, rfl, rfl⟩
        have hA : ACall Tryd.prog 51 _ _ _ _ := hq f _ _ (by omega) (by omega) hn1 h1
        unfold RAns
        rw [e1, e2, e3, e4]
        refine acall_introD c51_ok (by simp) (by simp) ?_ (under_pure _ (pure_rtree _ _))
        (apply rd_sound; focus (repeat' constructor))
        ((conv=>whnf);repeat(refine⟨rfl,?_⟩;conv=>whnf))
        refine ⟨by omega, _, by rw [Int.toNat_natCast]; exact tokL_at s (show n < K + 1 by omega), ?_⟩
        ((conv=>whnf);repeat(refine⟨rfl,?_⟩;conv=>whnf))
        rw [show ((tokT s n).toList == (⟨#[40]⟩ : ByteArray).toList) = false from g1]
        ((conv=>whnf);repeat(refine⟨rfl,?_⟩;conv=>whnf))
        rw [show ((tokT s n).toList == (⟨#[33]⟩ : ByteArray).toList) = false from g2]
        ((conv=>whnf);repeat(refine⟨rfl,?_⟩;conv=>whnf))
        rw [show ((tokT s n).toList == (⟨#[88]⟩ : ByteArray).toList) = false from gX]
        ((conv=>whnf);repeat(refine⟨rfl,?_⟩;conv=>whnf))
        rw [show ((tokT s n).toList == (⟨#[70]⟩ : ByteArray).toList) = false from gF]
        ((conv=>whnf);repeat(refine⟨rfl,?_⟩;conv=>whnf))
        rw [show ((tokT s n).toList == (⟨#[71]⟩ : ByteArray).toList) = true from gG]
        ((conv=>whnf);repeat(refine⟨rfl,?_⟩;conv=>whnf))
        (refine .inr (.inr (.inl ⟨rfl, _, _, (txtP hO (by simp [UnderL, Under]) _), ?_⟩)); ((conv=>whnf);repeat(refine⟨rfl,?_⟩;conv=>whnf)))
        (refine .inr (.inr (.inl ⟨rfl, _, _, (txtP hA (by simp [UnderL, Under]) _), ?_⟩)); ((conv=>whnf);repeat(refine⟨rfl,?_⟩;conv=>whnf)))
        refine .inl ⟨by unfold InR; rw [IntKind.wrap_i64]; omega, ?_⟩
        ((conv=>whnf);repeat(refine⟨rfl,?_⟩;conv=>whnf))
        rw [show (((o + 1 : Nat) : Int) - 1) = (o : Int) by omega]
        refine ⟨.agg _ _ ?_, close_oneT (pure_txt s K names false _ o _ _)⟩
        have hb : tokT s n = one 71 := eqS_eq gG
        rw [hb]
        (refine rr1 (a := q.treeR) (k := 11) (id := 3) false ?_ ?_ ?_) <;> rfl
    have gG : eqS (tokT s n) (one 71) = false := by simpa using gG
    have e0 : preK false (tokT s n) = 0 := by simp [preK, g2, gX, gF, gG]
    rw [e0, if_neg (by decide), if_neg (by simp)] at hr
    exact refL_word s K names hs hK hK3 hnm o n hn r (Option.some.inj hr).symm g1 g2 gX gF gG
/-- All of the reader. -/
theorem refL_reads (hs : s.size ≤ 1000000000) (hnm : names.length ≤ 9223372036854775807) (hK : eqS (tokT s K) ⟨#[]⟩ = true) (hK3 : K ≤ 300) : ∀ (f : Nat) (o n : Nat) (r : Res), o ≤ 20 → n ≤ K →
    (runR (tokT s) names false f .formula o n = some r → RAns s K names false 28 [.loc 0 0] n o r) ∧
    (runR (tokT s) names false f (.row true) o n = some r → RAns s K names false 39 [.loc 0 0] n o r) ∧
    (runR (tokT s) names false f (.row false) o n = some r → RAns s K names false 44 [.loc 0 0] n o r) ∧
    (runR (tokT s) names false f .way o n = some r → RAns s K names false 48 [.loc 0 0] n o r) ∧
    (runR (tokT s) names false f .single o n = some r → RAns s K names false 51 [.loc 0 0] n o r) := by
  intro f
  induction f using Nat.strongRecOn with
  | ind f ih =>
    intro o n r ho hn
    exact ⟨fun h => ref_formula s K names false hK hK3 o f (fun f' n r h1 hn h2 => (ih f' h1 o n r ho hn).2.1 h2) (fun f' n r h1 hn h2 => (ih f' h1 o n r ho hn).1 h2) n hn r h,
      fun h => ref_or s K names false hK hK3 o f (fun f' n r h1 hn h2 => (ih f' h1 o n r ho hn).2.2.1 h2) n hn r h,
      fun h => ref_and s K names false hK hK3 o f (fun f' n r h1 hn h2 => (ih f' h1 o n r ho hn).2.2.2.1 h2) n hn r h,
      fun h => refL_way s K names hK hK3 o f (fun f' n r h1 hn h2 => (ih f' h1 o n r ho hn).2.2.2.2 h2) (fun f' n r h1 hn h2 => (ih f' h1 o n r ho hn).2.2.2.1 h2) n hn r h,
      fun h => refL_single s K names hs hnm hK hK3 o ho f (fun f' n r h1 h2 hn h3 => (ih f' h1 (o + 1) n r (by omega) hn).1 h3) (fun f' n r h1 h2 hn h3 => (ih f' h1 (o + 1) n r (by omega) hn).2.2.2.2 h3) n hn r h⟩
end
end Go.Proofs.YtjbkbjedlgkibaaDoor
