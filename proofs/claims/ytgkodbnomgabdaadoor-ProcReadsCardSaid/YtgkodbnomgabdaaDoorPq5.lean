/-
  The reference's reader of processes, over deep values. No statement is proved here.
-/
import Derived.Test.YtgkodbnomgabdaaDoorPq3
import Derived.Test.YtgkodbnomgabdaaDoorPq4
namespace Go.Proofs.YtgkodbnomgabdaaDoor
open Go.RowKit
set_option linter.unusedSimpArgs false
set_option linter.unusedVariables false
theorem eqS_eq {x a : ByteArray} (h : eqS x a = true) : x = a := by
  unfold eqS at h
  have h := beq_iff_eq.1 h
  rw [ByteArray.toList_eq, ByteArray.toList_eq] at h
  exact ByteArray.ext (Array.ext' h)
theorem wordK_inj : ∀ i, i < 8 → ∀ j, j < 8 → wordK i = wordK j → i = j := by
  decide
theorem kindW_le (x : ByteArray) : ∀ n, kindW x n ≤ n ∧ (kindW x n ≠ 0 → eqS x (wordK (kindW x n)) = true)
  | 0 => ⟨Nat.le_refl _, fun h => absurd rfl h⟩
  | n + 1 => by
    have hn := kindW_le x n
    simp only [kindW]
    by_cases h : kindW x n ≠ 0
    · rw [if_pos h]; exact ⟨by omega, hn.2⟩
    · rw [if_neg h]
      by_cases e : eqS x (wordK (n + 1)) = true
      · rw [if_pos e]; exact ⟨Nat.le_refl _, fun _ => e⟩
      · rw [if_neg e]; exact ⟨by omega, fun q => absurd rfl q⟩
theorem kindW_last {x : ByteArray} {k : Nat} (hk : k < 7) : kindW x (k + 1) = if eqS x (wordK (k + 1)) = true then k + 1 else kindW x k := by
  by_cases h : kindW x k = 0
  · simp only [kindW]; rw [if_neg (by simp [h])]
    by_cases e : eqS x (wordK (k + 1)) = true
    · rw [if_pos e, if_pos e]
    · rw [if_neg e, if_neg e, h]
  · have hn := kindW_le x k
    have e2 := eqS_eq (hn.2 h)
    have : ¬ eqS x (wordK (k + 1)) = true := fun e => by
      have e3 := eqS_eq e
      rw [e2] at e3
      have := wordK_inj _ (by omega) _ (by omega) e3
      omega
    rw [if_neg this]
    simp only [kindW]; rw [if_pos h]
/-- What a loop from the end finds: the first of the nodes so named. -/
def seekI (nodes : List (ByteArray × Int)) (x : ByteArray) (j : Nat) : Int := match (nodes.drop j).findIdx? fun n => eqS n.1 x with
  | some i => ((j + i : Nat) : Int)
  | none => -1
theorem seekI_zero (nodes : List (ByteArray × Int)) (x : ByteArray) : seekI nodes x 0 = nodeZ nodes x := by
  unfold seekI nodeZ idxF
  rw [List.drop_zero]
  cases nodes.findIdx? fun n => eqS n.1 x with
  | none => rfl
  | some i => simp
theorem seekI_step {nodes : List (ByteArray × Int)} {x : ByteArray} {j : Nat} (hj : j < nodes.length) : seekI nodes x j = if eqS nodes[j].1 x = true then (j : Int) else seekI nodes x (j + 1) := by
  unfold seekI
  rw [List.drop_eq_getElem_cons hj, List.findIdx?_cons]
  cases h : eqS nodes[j].1 x with
  | true => simp
  | false =>
    rw [if_neg (by simp)]
    cases (nodes.drop (j + 1)).findIdx? fun n => eqS n.1 x with
    | none => simp
    | some i => simp [show j + (i + 1) = j + 1 + i by omega]
theorem seekI_end (nodes : List (ByteArray × Int)) (x : ByteArray) : seekI nodes x nodes.length = -1 := by simp [seekI]
def wrow (w : List ByteArray) : List D := [dstrs w]
theorem pure_wrow (w : List ByteArray) : PureL (wrow w) := by simp [wrow, PureL, pure_dstrs]
/-- The flows that words tell. -/
def FlOf (N : List (List ByteArray)) (fl : List (ByteArray × ByteArray × Int)) (at_ : Nat) : Prop :=
  N.length = fl.length ∧ ∀ k w, N[k]? = some w → w.length = 3 ∧ fl[k]? = some (w0 w 1, w0 w 2, ((at_ + k + 1 : Nat) : Int))
theorem FlOf.push {N : List (List ByteArray)} {fl : List (ByteArray × ByteArray × Int)} {a i : Nat} (h : FlOf N fl a) (ha : N ≠ [] → a + N.length = i) {w : List ByteArray} (hw : w.length = 3) :
    FlOf (N ++ [w]) (fl ++ [(w0 w 1, w0 w 2, ((i + 1 : Nat) : Int))]) (if N.length = 0 then i else a) := by
  refine ⟨by simp [h.1], fun k v hv => ?_⟩
  rcases Nat.lt_trichotomy k N.length with hk | hk | hk
  · rw [List.getElem?_append_left hk] at hv
    rw [if_neg (by omega), List.getElem?_append_left (by rw [← h.1]; exact hk)]
    exact h.2 k v hv
  · subst hk
    rw [List.getElem?_append_right (Nat.le_refl _), Nat.sub_self] at hv
    cases hv
    refine ⟨hw, ?_⟩
    rw [h.1, List.getElem?_append_right (Nat.le_refl _), Nat.sub_self]
    show some _ = some _
    have : (if fl.length = 0 then i else a) + fl.length + 1 = i + 1 := by
      split
      · omega
      · rename_i q; have := ha (fun e => by rw [e] at h; exact q h.1.symm); rw [h.1] at this; omega
    rw [this]
  · rw [List.getElem?_eq_none (by simp; omega)] at hv
    cases hv
theorem lns_drop {s : ByteArray} {i : Nat} {x : ByteArray} {r : List ByteArray} (h : (lns s 0).drop i = x :: r) : (lns s 0)[i]? = some x ∧ (lns s 0).drop (i + 1) = r ∧ i < (lns s 0).length := by
  have hi : i < (lns s 0).length := by
    rcases Nat.lt_or_ge i (lns s 0).length with h1 | h1
    · exact h1
    · rw [List.drop_of_length_le h1] at h; cases h
  rw [List.drop_eq_getElem_cons hi] at h
  obtain ⟨h1, h2⟩ := List.cons.inj h
  exact ⟨by rw [List.getElem?_eq_getElem hi, h1], h2, hi⟩
def c8_2 : PC := .seq (.seq (.ops [qm 55 13,q 56 (.bin .leq (.tmp 55) (.const (.int .i64 7)))] false) (.cond (.tmp 56) (.skip) (.exit 2))) (.seq (.block 3 (.seq (.ops [qm 59 11,qd 60 (.iaddr 1 (.tmp 59) (.const (.int .i64 0))) 1,qd 61 (.load1 (.tmp 60)) 3,qm 62 13,qd 63 (.call 15 [(.tmp 62)]) 8,qd 64 (.bin .eql (.tmp 61) (.tmp 63)) 31] true) (.cond (.tmp 64) (.ops [qm 65 13,qm 12 65] false) (.skip)))) (.ops [qm 57 13,q 58 (.bin .add (.tmp 57) (.const (.int .i64 1))),qm 13 58] false))
def c8_1 : PC := .seq (.seq (.ops [qm 24 9,qm 25 7,q 26 (.len (.tmp 25)),q 27 (.bin .lss (.tmp 24) (.tmp 26))] false) (.cond (.tmp 27) (.skip) (.exit 0))) (.seq (.block 1 (.seq (.ops [qm 30 7,qm 31 9,qd 32 (.iaddr 1 (.tmp 30) (.tmp 31)) 3,qd 33 (.load1 (.tmp 32)) 7,qm 34 7,qm 35 9,qd 36 (.iaddr 1 (.tmp 34) (.tmp 35)) 48,qd 37 (.load1 (.tmp 36)) 112,qd 38 (.slen (.tmp 37)) 240,qd 39 (.bin .sub (.tmp 38) (.const (.int .i64 1))) 496,qd 40 (.sidx (.tmp 33) (.tmp 39)) 1023,qd 41 (.bin .eql (.tmp 40) (.const (.int .u8 10))) 2047,qw 10 41 4095] true) (.seq (.seq (.ops [qm 42 10] false) (.cond (.tmp 42) (.seq (.ops [qm 43 7,qm 44 9,qd 45 (.iaddr 1 (.tmp 43) (.tmp 44)) 3,qd 46 (.load1 (.tmp 45)) 7,qm 47 7,qm 48 9,qd 49 (.iaddr 1 (.tmp 47) (.tmp 48)) 48,qd 50 (.load1 (.tmp 49)) 112,qd 51 (.slen (.tmp 50)) 240,qd 52 (.bin .sub (.tmp 51) (.const (.int .i64 1))) 496,qd 53 (.sslc (.tmp 46) none (some (.tmp 52))) 1023,qd 54 (.call 24 [(.tmp 53)]) 2047,qw 11 54 4095] true) (.seq (.ops [q 12 (.move (.const (.int .i64 0)))] false) (.seq (.seq (.ops [q 13 (.move (.const (.int .i64 1)))] false) (.block 2 (.loop c8_2))) (.block 4 (.seq (.ops [qm 67 11,q 68 (.iaddr 1 (.tmp 67) (.const (.int .i64 0))),q 69 (.load1 (.tmp 68)),q 70 (.bin .eql (.tmp 69) (.const (.string ⟨#[102, 108, 111, 119]⟩))),qm 66 70] false) (.cond (.tmp 66) (.seq (.ops [qm 71 11,q 72 (.len (.tmp 71)),q 73 (.bin .eql (.tmp 72) (.const (.int .i64 3))),qm 74 73,⟨some 75,.move (.tmp 11),some (74,true),0⟩,⟨some 76,.iaddr 1 (.tmp 75) (.const (.int .i64 1)),some (74,true),0⟩,⟨some 77,.load1 (.tmp 76),some (74,true),0⟩,⟨some 78,.call 10 [(.tmp 77)],some (74,true),0⟩,q 79 (.pick (.tmp 74) (.tmp 78) (.const (.bool false))),qm 80 79,⟨some 81,.move (.tmp 11),some (80,true),0⟩,⟨some 82,.iaddr 1 (.tmp 81) (.const (.int .i64 2)),some (80,true),0⟩,⟨some 83,.load1 (.tmp 82),some (80,true),0⟩,⟨some 84,.call 10 [(.tmp 83)],some (80,true),0⟩,q 85 (.pick (.tmp 80) (.tmp 84) (.const (.bool false))),qm 10 85] false) (.seq (.ops [qm 86 6,qm 87 11,q 88 (.bslice 1 1 [(.tmp 87)]),q 89 (.append 1 24 (.tmp 86) (.tmp 88)),qm 6 89] false) (.seq (.ops [qm 90 6,q 91 (.len (.tmp 90)),q 92 (.bin .eql (.tmp 91) (.const (.int .i64 1)))] false) (.cond (.tmp 92) (.ops [qm 93 9,qm 8 93] false) (.skip))))) (.seq (.ops [qm 95 12,q 96 (.bin .gtr (.tmp 95) (.const (.int .i64 0))),qm 94 96] false) (.cond (.tmp 94) (.seq (.ops [qm 97 11,q 98 (.len (.tmp 97)),q 99 (.bin .eql (.tmp 98) (.const (.int .i64 2))),qm 100 99,⟨some 101,.move (.tmp 11),some (100,true),0⟩,⟨some 102,.iaddr 1 (.tmp 101) (.const (.int .i64 1)),some (100,true),0⟩,⟨some 103,.load1 (.tmp 102),some (100,true),0⟩,⟨some 104,.call 10 [(.tmp 103)],some (100,true),0⟩,q 105 (.pick (.tmp 100) (.tmp 104) (.const (.bool false))),qm 106 105,⟨some 107,.move (.tmp 6),some (106,true),0⟩,⟨some 108,.len (.tmp 107),some (106,true),0⟩,⟨some 109,.bin .eql (.tmp 108) (.const (.int .i64 0)),some (106,true),0⟩,q 110 (.pick (.tmp 106) (.tmp 109) (.const (.bool false))),qm 10 110] false) (.seq (.ops [qm 111 10] false) (.cond (.tmp 111) (.ops [q 112 (.faddr 0 (.tmp 5)),qd 113 (.load1 (.tmp 112)) 1,qm 114 11,qd 115 (.iaddr 1 (.tmp 114) (.const (.int .i64 1))) 4,qd 116 (.load1 (.tmp 115)) 12,qm 117 12,qd 118 (.build [(.string ⟨#[]⟩), (.int .i64 0)] [(0, 1, (.tmp 116)), (1, 1, (.tmp 117))]) 60,qd 119 (.bslice 2 1 [(.tmp 118)]) 124,qd 120 (.append 2 24 (.tmp 113) (.tmp 119)) 255,qd 121 (.faddr 0 (.tmp 5)) 511,qk (.store 1 (.tmp 121) (.tmp 120)) 1023] true) (.skip)))) (.ops [q 10 (.move (.const (.bool false)))] false))))))))) (.skip))) (.seq (.ops [qm 122 10,q 123 (.un .not (.tmp 122))] false) (.cond (.tmp 123) (.seq (.ops [q 124 (.build [(.slice none 0 0), (.slice none 0 0)] []),qm 125 9,q 126 (.bin .add (.tmp 125) (.const (.int .i64 1))),qn (.store 2 (.tmp 2) (.tmp 124)),qm 3 126,q 4 (.move (.const (.int .i64 3)))] false) (.ret)) (.skip)))))) (.ops [qm 28 9,q 29 (.bin .add (.tmp 28) (.const (.int .i64 1))),qm 9 29] false))
def c8_4 : PC := .seq (.seq (.ops [qm 138 16,q 139 (.bin .geq (.tmp 138) (.const (.int .i64 0)))] false) (.cond (.tmp 139) (.skip) (.exit 7))) (.seq (.block 8 (.seq (.seq (.ops [q 142 (.faddr 0 (.tmp 5)),qd 143 (.load1 (.tmp 142)) 1,qm 144 16,qd 145 (.iaddr 2 (.tmp 143) (.tmp 144)) 7,qd 146 (.faddr 0 (.tmp 145)) 15,qd 147 (.load1 (.tmp 146)) 31,qm 148 6,qm 149 14,qd 150 (.iaddr 1 (.tmp 148) (.tmp 149)) 192,qd 151 (.load1 (.tmp 150)) 448,qd 152 (.iaddr 1 (.tmp 151) (.const (.int .i64 1))) 960,qd 153 (.load1 (.tmp 152)) 1984,qd 154 (.bin .eql (.tmp 147) (.tmp 153)) 4095] true) (.cond (.tmp 154) (.ops [qm 155 16,q 156 (.faddr 0 (.tmp 15)),qn (.store 1 (.tmp 156) (.tmp 155))] false) (.skip))) (.seq (.ops [q 157 (.faddr 0 (.tmp 5)),qd 158 (.load1 (.tmp 157)) 1,qm 159 16,qd 160 (.iaddr 2 (.tmp 158) (.tmp 159)) 7,qd 161 (.faddr 0 (.tmp 160)) 15,qd 162 (.load1 (.tmp 161)) 31,qm 163 6,qm 164 14,qd 165 (.iaddr 1 (.tmp 163) (.tmp 164)) 192,qd 166 (.load1 (.tmp 165)) 448,qd 167 (.iaddr 1 (.tmp 166) (.const (.int .i64 2))) 960,qd 168 (.load1 (.tmp 167)) 1984,qd 169 (.bin .eql (.tmp 162) (.tmp 168)) 4095] true) (.cond (.tmp 169) (.ops [qm 170 16,q 171 (.faddr 1 (.tmp 15)),qn (.store 1 (.tmp 171) (.tmp 170))] false) (.skip))))) (.ops [qm 140 16,q 141 (.bin .sub (.tmp 140) (.const (.int .i64 1))),qm 16 141] false))
def c8_3 : PC := .seq (.seq (.ops [qm 127 14,qm 128 6,q 129 (.len (.tmp 128)),q 130 (.bin .lss (.tmp 127) (.tmp 129))] false) (.cond (.tmp 130) (.skip) (.exit 5))) (.seq (.block 6 (.seq (.ops [q 133 (.build [(.int .i64 0), (.int .i64 0)] [(0, 1, (.const (.int .i64 (-1)))), (1, 1, (.const (.int .i64 (-1))))]),q 15 (.alloc [(.int .i64 0), (.int .i64 0)]),qn (.store 2 (.tmp 15) (.tmp 133))] false) (.seq (.seq (.ops [q 134 (.faddr 0 (.tmp 5)),q 135 (.load1 (.tmp 134)),q 136 (.len (.tmp 135)),q 137 (.bin .sub (.tmp 136) (.const (.int .i64 1))),qm 16 137] false) (.block 7 (.loop c8_4))) (.seq (.seq (.ops [q 172 (.faddr 0 (.tmp 15)),q 173 (.load1 (.tmp 172)),q 174 (.bin .lss (.tmp 173) (.const (.int .i64 0))),qm 175 174,⟨some 176,.faddr 1 (.tmp 15),some (175,false),0⟩,⟨some 177,.load1 (.tmp 176),some (175,false),0⟩,⟨some 178,.bin .lss (.tmp 177) (.const (.int .i64 0)),some (175,false),0⟩,q 179 (.pick (.tmp 175) (.const (.bool true)) (.tmp 178))] false) (.cond (.tmp 179) (.seq (.ops [q 180 (.build [(.slice none 0 0), (.slice none 0 0)] []),qm 181 8,qm 182 14,q 183 (.bin .add (.tmp 181) (.tmp 182)),q 184 (.bin .add (.tmp 183) (.const (.int .i64 1))),qn (.store 2 (.tmp 2) (.tmp 180)),qm 3 184,q 4 (.move (.const (.int .i64 4)))] false) (.ret)) (.skip))) (.ops [q 185 (.faddr 1 (.tmp 5)),q 186 (.load1 (.tmp 185)),q 187 (.loadA 2 (.tmp 15)),q 188 (.bslice 2 1 [(.tmp 187)]),q 189 (.append 2 16 (.tmp 186) (.tmp 188)),q 190 (.faddr 1 (.tmp 5)),qn (.store 1 (.tmp 190) (.tmp 189))] false))))) (.ops [qm 131 14,q 132 (.bin .add (.tmp 131) (.const (.int .i64 1))),qm 14 132] false))
def c8 : PC := .seq (.ops [q 2 (.alloc [(.slice none 0 0), (.slice none 0 0)]),q 3 (.move (.const (.int .i64 0))),q 4 (.move (.const (.int .i64 0)))] false) (.seq (.seq (.ops [qm 18 0,q 19 (.slen (.tmp 18)),q 20 (.bin .gtr (.tmp 19) (.const (.int .i64 4096)))] false) (.cond (.tmp 20) (.seq (.ops [q 21 (.build [(.slice none 0 0), (.slice none 0 0)] []),qn (.store 2 (.tmp 2) (.tmp 21)),q 3 (.move (.const (.int .i64 0))),q 4 (.move (.const (.int .i64 2)))] false) (.ret)) (.skip))) (.seq (.ops [q 5 (.alloc [(.slice none 0 0), (.slice none 0 0)])] false) (.seq (.ops [q 6 (.move (.const (.slice none 0 0)))] false) (.seq (.ops [qm 22 0,q 23 (.call 23 [(.tmp 22)]),qm 7 23] false) (.seq (.ops [q 8 (.move (.const (.int .i64 0)))] false) (.seq (.seq (.ops [q 9 (.move (.const (.int .i64 0)))] false) (.block 0 (.loop c8_1))) (.seq (.seq (.ops [q 14 (.move (.const (.int .i64 0)))] false) (.block 5 (.loop c8_3))) (.seq (.seq (.ops [q 191 (.loadA 2 (.tmp 5)),q 192 (.call 4 [(.tmp 191)]),qm 17 192] false) (.seq (.ops [qm 193 17,q 194 (.bin .neq (.tmp 193) (.const (.int .i64 0)))] false) (.cond (.tmp 194) (.seq (.ops [q 195 (.build [(.slice none 0 0), (.slice none 0 0)] []),qm 196 17,qn (.store 2 (.tmp 2) (.tmp 195)),q 3 (.move (.const (.int .i64 0))),qm 4 196] false) (.ret)) (.skip)))) (.seq (.ops [q 197 (.loadA 2 (.tmp 5)),qn (.store 2 (.tmp 2) (.tmp 197)),q 3 (.move (.const (.int .i64 0))),q 4 (.move (.const (.int .i64 0)))] false) (.ret))))))))))
set_option maxRecDepth 100000 in
theorem c8_ok : FunOK Tryd.prog 8 198 [.agg 2 2, .tmp 3, .tmp 4] c8 := ⟨⟨Tryd.f8, Tryd.func8, rfl, by kernel_rfl, rfl, by kernel_rfl⟩⟩
theorem ref_ReadProcess_large (s : ByteArray) (hs : ¬ s.size ≤ 4096) : PCall Tryd.prog 8 [.sc (.string s)] (dpans (⟨[], []⟩, 0, 2)) := by
  refine pcall_intro c8_ok (by simp) (by simp [PureL, Pure]) ?_ (pure_dpans _)
  (apply rd_sound; focus (repeat' constructor))
  ((conv=>whnf);repeat(refine⟨rfl,?_⟩;conv=>whnf))
  refine ifK_t (by simp; omega) ?_
  ((conv=>whnf);repeat(refine⟨rfl,?_⟩;conv=>whnf))
  (repeat' (first | exact Deep.refl _ | exact Deep.none _ | exact deep_row _ | exact DeepL.nil | exact DeepLL.nil | refine Deep.agg _ _ ?_ | refine Deep.tup _ _ ?_ | refine Deep.own _ _ _ _ _ _ _ _ rfl ?_ | refine Deep.loc _ _ _ _ _ rfl ?_ | refine Deep.ifc _ _ _ ?_ | refine Deep.fn _ _ _ _ _ ?_ ?_ | refine DeepL.cons _ _ _ _ ?_ ?_ | refine DeepLL.cons _ _ _ _ ?_ ?_ | exact deepLL_refl _))
set_option maxHeartbeats 4000000 in
theorem ref_ReadProcess (s : ByteArray) (hs : s.size ≤ 4096) : PCall Tryd.prog 8 [.sc (.string s)] (dpans (procR s)) := by
  refine pcall_intro c8_ok (by simp) (by simp [PureL, Pure]) ?_ (pure_dpans _)
  obtain ⟨R, hR⟩ : ∃ R, R = linesR s (s.size + 1) 0 1 ⟨[], []⟩ := ⟨_, rfl⟩
  obtain ⟨T, hT⟩ : ∃ T, T = procR s := ⟨_, rfl⟩
  rw [← hT]
  unfold procR at hT
  rw [← hR] at hT
  have hL := ref_Lines s (by omega)
  have hll := lns_len s _ 0 rfl
  (apply rd_sound; focus (repeat' constructor))
  ((conv=>whnf);repeat(refine⟨rfl,?_⟩;conv=>whnf))
  refine ifK_f (by simp; omega) ?_
  ((conv=>whnf);repeat(refine⟨rfl,?_⟩;conv=>whnf))
  (refine .inl ⟨_, hL, ?_⟩; ((conv=>whnf);repeat(refine⟨rfl,?_⟩;conv=>whnf)))
  refine pwp_ghostB (leB_trans (leB_nilc 1 0 2 (by simp) rfl rfl) (leB_nil 6 1 (by simp) rfl)) ?_
  refine pwp_for [2, 5, 7] (fun ((f, i, p, st, N, at_, m, c) : Nat × Nat × Nat × RdS × List (List ByteArray) × Nat × Nat × Nat) => [(6, .own 3 c 0 c), (8, .sc (.int .i64 at_)), (9, .sc (.int .i64 i))])
    (fun (f, i, p, st, N, at_, m, c) => [(1, .row true [.own 2 m 0 m, .sc (.slice none 0 0)]), (2, .vec true m 2 (st.nodes.map nrow)), (3, .vec true c 1 (N.map wrow))])
    (fun (f, i, p, st, N, at_, m, c) => R = linesR s f p ((i : Int) + 1) st ∧ p ≤ s.size ∧ s.size - p < f ∧ lns s p = (lns s 0).drop i ∧ i ≤ (lns s 0).length ∧ st.nodes.length ≤ i ∧ N.length ≤ i ∧ FlOf N st.flows at_ ∧ (N ≠ [] → at_ + N.length = i) ∧ at_ ≤ i ∧ (∀ x ∈ st.nodes, x.1.size ≤ 1000000) ∧ m = st.nodes.length ∧ c = N.length) (fun (f, i, p, st, N, at_, m, c) => f) (s.size + 1, 0, 0, ⟨[], []⟩, [], 0, 0, 0) ?_
  ((conv=>whnf);repeat(refine⟨rfl,?_⟩;conv=>whnf))
  refine ⟨⟨hR, Nat.zero_le _, by omega, rfl, Nat.zero_le _, Nat.le_refl _, Nat.le_refl _, ⟨rfl, fun k w h => by simp at h⟩, fun h => absurd rfl h, Nat.le_refl _, (fun x hx => by cases hx), rfl, rfl⟩, by (repeat' (first | exact trivial | refine And.intro rfl ?_)), rfl, ?_⟩
  rintro ⟨f, i, p, st, N, at_, m, c⟩ ⟨hR, hp, hf, hd, hil, hn, hNl, hfo, hat, hati, hnm, rfl, rfl⟩
  obtain ⟨f, rfl⟩ : ∃ g, f = g + 1 := ⟨f - 1, by omega⟩
  ((conv=>whnf);repeat(refine⟨rfl,?_⟩;conv=>whnf))
  (apply rd_sound; focus (repeat' constructor))
  ((conv=>whnf);repeat(refine⟨rfl,?_⟩;conv=>whnf))
  simp only [linesR] at hR
  rw [List.length_map]
  by_cases hps : p < s.size
  · rw [if_pos hps] at hR
    have hge := fndE_le (c := 10) (s := s) _ p rfl hp
    by_cases hnl : fndE 10 s p < s.size
    · rw [if_pos hnl] at hR
      rw [lns_more hnl] at hd
      obtain ⟨hx, hd, hi⟩ := lns_drop hd.symm
      refine ifK_t (by simp; omega) ?_
      ((conv=>whnf);repeat(refine⟨rfl,?_⟩;conv=>whnf))
      have hge' := hge.2.2 hnl
      generalize fndE 10 s p = e at *
      have hrow : ((lns s 0).map fun s => [D.sc (Value.string s)])[(i : Int).toNat]? = some [.sc (.string (s.extract p (e + 1)))] := by
        rw [Int.toNat_natCast, List.getElem?_map, hx]; rfl
      have hsz : (s.extract p (e + 1)).size = e + 1 - p := by rw [ByteArray.size_extract]; omega
      have hlast : (s.extract p (e + 1))[e - p]? = some 10 := by
        rw [getElem?_pos (s.extract p (e + 1)) (e - p) (by omega), ByteArray.getElem_extract]
        obtain ⟨b, hb⟩ := byte_at hnl
        have : b = 10 := by
          unfold chr at hge'
          rw [hb] at hge'
          exact UInt8.toNat_inj.1 hge'
        subst this
        rw [getElem?_pos s e hnl] at hb
        simp only [show p + (e - p) = e by omega]
        exact hb
      have hcut : (s.extract p (e + 1)).extract 0 (e - p) = s.extract p e := by
        rw [ByteArray.extract_extract]; congr 1 <;> omega
      refine ⟨by omega, _, hrow, ?_⟩
      ((conv=>whnf);repeat(refine⟨rfl,?_⟩;conv=>whnf))
      refine ⟨by omega, _, hrow, ?_⟩
      ((conv=>whnf);repeat(refine⟨rfl,?_⟩;conv=>whnf))
      rw [hsz]
      (refine .inl ⟨by (unfold InR; rw [IntKind.wrap_i64]; omega), ?_⟩; ((conv=>whnf);repeat(refine⟨rfl,?_⟩;conv=>whnf)))
      rw [show (((e + 1 - p : Nat) : Int) - 1) = ((e - p : Nat) : Int) by omega]
      refine ⟨by omega, _, by rw [Int.toNat_natCast]; exact hlast, ?_⟩
      ((conv=>whnf);repeat(refine⟨rfl,?_⟩;conv=>whnf))
      refine ⟨by omega, _, hrow, ?_⟩
      ((conv=>whnf);repeat(refine⟨rfl,?_⟩;conv=>whnf))
      refine ⟨by omega, _, hrow, ?_⟩
      ((conv=>whnf);repeat(refine⟨rfl,?_⟩;conv=>whnf))
      rw [hsz]
      (refine .inl ⟨by (unfold InR; rw [IntKind.wrap_i64]; omega), ?_⟩; ((conv=>whnf);repeat(refine⟨rfl,?_⟩;conv=>whnf)))
      rw [show (((e + 1 - p : Nat) : Int) - 1) = ((e - p : Nat) : Int) by omega]
      refine ⟨by omega, by omega, by omega, ?_⟩
      ((conv=>whnf);repeat(refine⟨rfl,?_⟩;conv=>whnf))
      rw [Int.toNat_natCast, hcut]
      have hlsz : (s.extract p e).size ≤ 4096 := by rw [ByteArray.size_extract]; omega
      (refine .inl ⟨_, (ref_Cut (s.extract p e) (by omega)), ?_⟩; ((conv=>whnf);repeat(refine⟨rfl,?_⟩;conv=>whnf)))
      have hpos := pcs_pos (s.extract p e) 0
      have hpl := pcs_len (s.extract p e) _ 0 rfl (Nat.zero_le _)
      have hnz : ∀ i, (w0 (pcs (s.extract p e) 0) i).size ≤ 4096 := fun i => by
        unfold w0
        rw [List.getD_eq_getElem?_getD]
        cases h : (pcs (s.extract p e) 0)[i]? with
        | none => show (0 : Nat) ≤ _; omega
        | some x => have := pcs_size (s.extract p e) _ 0 rfl (Nat.zero_le _) x (List.mem_of_getElem? h); simp; omega
      have n1 := ref_Named (w0 (pcs (s.extract p e) 0) 1) (by have := hnz 1; omega)
      have n2 := ref_Named (w0 (pcs (s.extract p e) 0) 2) (by have := hnz 2; omega)
      obtain ⟨L, hL⟩ : ∃ L, L = lineR st (s.extract p e) ((i : Int) + 1) := ⟨_, rfl⟩
      rw [← hL] at hR
      unfold lineR at hL
      generalize hw : pcs (s.extract p e) 0 = w at *
      refine pwp_for [2, 5, 6, 7, 8, 9, 11] (fun k : Nat => [(12, .sc (.int .i64 (kindW (w0 w 0) k))), (13, .sc (.int .i64 (k + 1)))]) (fun _ => []) (fun k => k ≤ 7) (fun k => 7 - k) 0 ?_
      ((conv=>whnf);repeat(refine⟨rfl,?_⟩;conv=>whnf))
      refine ⟨Nat.zero_le _, by (repeat' (first | exact trivial | refine And.intro rfl ?_)), rfl, ?_⟩
      rintro k hk
      ((conv=>whnf);repeat(refine⟨rfl,?_⟩;conv=>whnf))
      (apply rd_sound; focus (repeat' constructor))
      ((conv=>whnf);repeat(refine⟨rfl,?_⟩;conv=>whnf))
      (refine ifK_split (fun h5 => ?_) (fun h5 => ?_) <;> (rw [h5]; ((conv=>whnf);repeat(refine⟨rfl,?_⟩;conv=>whnf))))
      · have h5 : k < 7 := by ((try simp only[oo,reduceCtorEq]at*)<;>omega)
        have hW := ref_KindWord (k + 1) (by omega)
        have hkl := kindW_last (x := w0 w 0) h5
        refine ⟨by omega, _, w0_at (i := 0) (by omega), ?_⟩
        ((conv=>whnf);repeat(refine⟨rfl,?_⟩;conv=>whnf))
        rw [show ((k : Int) + 1) = ((k + 1 : Nat) : Int) by omega]
        (refine .inl ⟨_, hW, ?_⟩; ((conv=>whnf);repeat(refine⟨rfl,?_⟩;conv=>whnf)))
        cases he : eqS (w0 w 0) (wordK (k + 1)) with
        | false =>
          rw [he, if_neg (by simp)] at hkl
          rw [show ((w0 w 0).toList == (wordK (k + 1)).toList) = false from he]
          ((conv=>whnf);repeat(refine⟨rfl,?_⟩;conv=>whnf))
          (refine .inl ⟨by (unfold InR; rw [IntKind.wrap_i64]; omega), ?_⟩; ((conv=>whnf);repeat(refine⟨rfl,?_⟩;conv=>whnf)))
          exact ⟨k + 1, by omega, by dsimp only; omega, leB_envH (by dsimp only; rw [hkl]; (repeat' (first | exact trivial | refine And.intro rfl ?_))) rfl⟩
        | true =>
          rw [he, if_pos rfl] at hkl
          rw [show ((w0 w 0).toList == (wordK (k + 1)).toList) = true from he]
          ((conv=>whnf);repeat(refine⟨rfl,?_⟩;conv=>whnf))
          (refine .inl ⟨by (unfold InR; rw [IntKind.wrap_i64]; omega), ?_⟩; ((conv=>whnf);repeat(refine⟨rfl,?_⟩;conv=>whnf)))
          exact ⟨k + 1, by omega, by dsimp only; omega, leB_envH (by dsimp only; rw [hkl]; (repeat' (first | exact trivial | refine And.intro rfl ?_))) rfl⟩
      · have h5 : k = 7 := by ((try simp only[oo,reduceCtorEq]at*)<;>omega)
        subst h5
        ((conv=>whnf);repeat(refine⟨rfl,?_⟩;conv=>whnf))
        refine ⟨by omega, _, w0_at (i := 0) (by omega), ?_⟩
        ((conv=>whnf);repeat(refine⟨rfl,?_⟩;conv=>whnf))
        cases hf0 : eqS (w0 w 0) sFlow with
        | true =>
          rw [hf0, if_pos rfl] at hL
          rw [show ((w0 w 0).toList == (⟨#[102, 108, 111, 119]⟩ : ByteArray).toList) = true from hf0]
          ((conv=>whnf);repeat(refine⟨rfl,?_⟩;conv=>whnf))
          rw [List.length_map]
          by_cases hl : w.length = 3
          · rw [show ((w.length : Int) == 3) = true by rw [hl]; rfl]
            ((conv=>whnf);repeat(refine⟨rfl,?_⟩;conv=>whnf))
            refine ⟨by omega, _, w0_at (i := 1) (by omega), ?_⟩
            ((conv=>whnf);repeat(refine⟨rfl,?_⟩;conv=>whnf))
            cases h1 : namedB (w0 w 1) with
            | true =>
              rw [h1] at n1
              (refine .inl ⟨_, n1, ?_⟩; ((conv=>whnf);repeat(refine⟨rfl,?_⟩;conv=>whnf)))
              refine ⟨by omega, _, w0_at (i := 2) (by omega), ?_⟩
              ((conv=>whnf);repeat(refine⟨rfl,?_⟩;conv=>whnf))
              cases h2 : namedB (w0 w 2) with
              | true =>
                rw [h2] at n2
                (refine .inl ⟨_, n2, ?_⟩; ((conv=>whnf);repeat(refine⟨rfl,?_⟩;conv=>whnf)))
                refine ⟨(by unfold sliceAppend; simp only [ll]; omega), ?_⟩
                ((conv=>whnf);repeat(refine⟨rfl,?_⟩;conv=>whnf))
                rw [if_pos ⟨hl, h1, h2⟩] at hL
                subst hL
                have hpu := hfo.push hat hl
                (refine ifK_split (fun g1 => ?_) (fun g1 => ?_) <;> (rw [g1]; ((conv=>whnf);repeat(refine⟨rfl,?_⟩;conv=>whnf))))
                · have g1 : N.length = 0 := by simp at g1; omega
                  rw [if_pos g1] at hpu
                  (refine .inl ⟨by (unfold InR; rw [IntKind.wrap_i64]; omega), ?_⟩; ((conv=>whnf);repeat(refine⟨rfl,?_⟩;conv=>whnf)))
                  refine ⟨(f, i + 1, e + 1, ⟨st.nodes, st.flows ++ [(w0 w 1, w0 w 2, (i : Int) + 1)]⟩, N ++ [w], i, st.nodes.length, N.length + 1), ⟨by simpa using hR, by omega, by omega, hd.symm, by omega, by show st.nodes.length ≤ _; omega, by simp; omega, by simpa using hpu, fun _ => by simp [g1], by omega, hnm, rfl, by simp⟩, by dsimp only; omega, ?_⟩
                  (refine leB_close 4 (by simp) rfl ?_ ?_ <;> (repeat' (first | exact trivial | exact rfl | exact DeepM.refl _ | exact DeepML.refl _ | exact DeepMLL.refl _ | refine And.intro ?_ ?_ | (simp [Under, UnderL, UnderLL, -List.map_take, -List.map_drop]; done))))
                  all_goals first
                    | exact deepMLL_eq (by rw [List.drop_zero, List.take_of_length_le (by simp), List.map_append]; rfl)
                    | exact underLL_pure _ (pureLL_map _ pure_wrow _)
                    | exact underLL_pure _ (pureLL_map _ pure_nrow _)
                    | exact under_pure _ (pure_dstrs _)
                · have g1 : N.length ≠ 0 := by simp at g1; intro q; exact g1 (by simp [q])
                  rw [if_neg g1] at hpu
                  (refine .inl ⟨by (unfold InR; rw [IntKind.wrap_i64]; omega), ?_⟩; ((conv=>whnf);repeat(refine⟨rfl,?_⟩;conv=>whnf)))
                  refine ⟨(f, i + 1, e + 1, ⟨st.nodes, st.flows ++ [(w0 w 1, w0 w 2, (i : Int) + 1)]⟩, N ++ [w], at_, st.nodes.length, N.length + 1), ⟨by simpa using hR, by omega, by omega, hd.symm, by omega, by show st.nodes.length ≤ _; omega, by simp; omega, by simpa using hpu, fun _ => by have := hat (fun q => g1 (by rw [q]; rfl)); simp; omega, by omega, hnm, rfl, by simp⟩, by dsimp only; omega, ?_⟩
                  (refine leB_close 4 (by simp) rfl ?_ ?_ <;> (repeat' (first | exact trivial | exact rfl | exact DeepM.refl _ | exact DeepML.refl _ | exact DeepMLL.refl _ | refine And.intro ?_ ?_ | (simp [Under, UnderL, UnderLL, -List.map_take, -List.map_drop]; done))))
                  all_goals first
                    | exact deepMLL_eq (by rw [List.drop_zero, List.take_of_length_le (by simp), List.map_append]; rfl)
                    | exact underLL_pure _ (pureLL_map _ pure_wrow _)
                    | exact underLL_pure _ (pureLL_map _ pure_nrow _)
                    | exact under_pure _ (pure_dstrs _)
              | false =>
                rw [h2] at n2
                (refine .inl ⟨_, n2, ?_⟩; ((conv=>whnf);repeat(refine⟨rfl,?_⟩;conv=>whnf)))
                rw [if_neg (by simp [h2])] at hL
                refine ⟨(by unfold sliceAppend; simp only [ll]; omega), ?_⟩
                ((conv=>whnf);repeat(refine⟨rfl,?_⟩;conv=>whnf))
                (refine ifK_split (fun g1 => ?_) (fun g1 => ?_) <;> (rw [g1]; ((conv=>whnf);repeat(refine⟨rfl,?_⟩;conv=>whnf))))
                · subst hL
                  subst hR
                  simp only at hT
                  subst hT
                  (refine .inl ⟨by (unfold InR; rw [IntKind.wrap_i64]; omega), ?_⟩; ((conv=>whnf);repeat(refine⟨rfl,?_⟩;conv=>whnf)))
                  (repeat' (first | exact Deep.refl _ | exact Deep.none _ | exact deep_row _ | exact DeepL.nil | exact DeepLL.nil | refine Deep.agg _ _ ?_ | refine Deep.tup _ _ ?_ | refine Deep.own _ _ _ _ _ _ _ _ rfl ?_ | refine Deep.loc _ _ _ _ _ rfl ?_ | refine Deep.ifc _ _ _ ?_ | refine Deep.fn _ _ _ _ _ ?_ ?_ | refine DeepL.cons _ _ _ _ ?_ ?_ | refine DeepLL.cons _ _ _ _ ?_ ?_ | exact deepLL_refl _))
                · subst hL
                  subst hR
                  simp only at hT
                  subst hT
                  (refine .inl ⟨by (unfold InR; rw [IntKind.wrap_i64]; omega), ?_⟩; ((conv=>whnf);repeat(refine⟨rfl,?_⟩;conv=>whnf)))
                  (repeat' (first | exact Deep.refl _ | exact Deep.none _ | exact deep_row _ | exact DeepL.nil | exact DeepLL.nil | refine Deep.agg _ _ ?_ | refine Deep.tup _ _ ?_ | refine Deep.own _ _ _ _ _ _ _ _ rfl ?_ | refine Deep.loc _ _ _ _ _ rfl ?_ | refine Deep.ifc _ _ _ ?_ | refine Deep.fn _ _ _ _ _ ?_ ?_ | refine DeepL.cons _ _ _ _ ?_ ?_ | refine DeepLL.cons _ _ _ _ ?_ ?_ | exact deepLL_refl _))
            | false =>
              rw [h1] at n1
              (refine .inl ⟨_, n1, ?_⟩; ((conv=>whnf);repeat(refine⟨rfl,?_⟩;conv=>whnf)))
              rw [if_neg (by simp [h1])] at hL
              refine ⟨(by unfold sliceAppend; simp only [ll]; omega), ?_⟩
              ((conv=>whnf);repeat(refine⟨rfl,?_⟩;conv=>whnf))
              (refine ifK_split (fun g1 => ?_) (fun g1 => ?_) <;> (rw [g1]; ((conv=>whnf);repeat(refine⟨rfl,?_⟩;conv=>whnf))))
              · subst hL
                subst hR
                simp only at hT
                subst hT
                (refine .inl ⟨by (unfold InR; rw [IntKind.wrap_i64]; omega), ?_⟩; ((conv=>whnf);repeat(refine⟨rfl,?_⟩;conv=>whnf)))
                (repeat' (first | exact Deep.refl _ | exact Deep.none _ | exact deep_row _ | exact DeepL.nil | exact DeepLL.nil | refine Deep.agg _ _ ?_ | refine Deep.tup _ _ ?_ | refine Deep.own _ _ _ _ _ _ _ _ rfl ?_ | refine Deep.loc _ _ _ _ _ rfl ?_ | refine Deep.ifc _ _ _ ?_ | refine Deep.fn _ _ _ _ _ ?_ ?_ | refine DeepL.cons _ _ _ _ ?_ ?_ | refine DeepLL.cons _ _ _ _ ?_ ?_ | exact deepLL_refl _))
              · subst hL
                subst hR
                simp only at hT
                subst hT
                (refine .inl ⟨by (unfold InR; rw [IntKind.wrap_i64]; omega), ?_⟩; ((conv=>whnf);repeat(refine⟨rfl,?_⟩;conv=>whnf)))
                (repeat' (first | exact Deep.refl _ | exact Deep.none _ | exact deep_row _ | exact DeepL.nil | exact DeepLL.nil | refine Deep.agg _ _ ?_ | refine Deep.tup _ _ ?_ | refine Deep.own _ _ _ _ _ _ _ _ rfl ?_ | refine Deep.loc _ _ _ _ _ rfl ?_ | refine Deep.ifc _ _ _ ?_ | refine Deep.fn _ _ _ _ _ ?_ ?_ | refine DeepL.cons _ _ _ _ ?_ ?_ | refine DeepLL.cons _ _ _ _ ?_ ?_ | exact deepLL_refl _))
          · rw [if_neg (fun q => hl q.1)] at hL
            rw [show ((w.length : Int) == 3) = false by simpa using (by omega : (w.length : Int) ≠ 3)]
            ((conv=>whnf);repeat(refine⟨rfl,?_⟩;conv=>whnf))
            refine ⟨(by unfold sliceAppend; simp only [ll]; omega), ?_⟩
            ((conv=>whnf);repeat(refine⟨rfl,?_⟩;conv=>whnf))
            (refine ifK_split (fun g1 => ?_) (fun g1 => ?_) <;> (rw [g1]; ((conv=>whnf);repeat(refine⟨rfl,?_⟩;conv=>whnf))))
            · subst hL
              subst hR
              simp only at hT
              subst hT
              (refine .inl ⟨by (unfold InR; rw [IntKind.wrap_i64]; omega), ?_⟩; ((conv=>whnf);repeat(refine⟨rfl,?_⟩;conv=>whnf)))
              (repeat' (first | exact Deep.refl _ | exact Deep.none _ | exact deep_row _ | exact DeepL.nil | exact DeepLL.nil | refine Deep.agg _ _ ?_ | refine Deep.tup _ _ ?_ | refine Deep.own _ _ _ _ _ _ _ _ rfl ?_ | refine Deep.loc _ _ _ _ _ rfl ?_ | refine Deep.ifc _ _ _ ?_ | refine Deep.fn _ _ _ _ _ ?_ ?_ | refine DeepL.cons _ _ _ _ ?_ ?_ | refine DeepLL.cons _ _ _ _ ?_ ?_ | exact deepLL_refl _))
            · subst hL
              subst hR
              simp only at hT
              subst hT
              (refine .inl ⟨by (unfold InR; rw [IntKind.wrap_i64]; omega), ?_⟩; ((conv=>whnf);repeat(refine⟨rfl,?_⟩;conv=>whnf)))
              (repeat' (first | exact Deep.refl _ | exact Deep.none _ | exact deep_row _ | exact DeepL.nil | exact DeepLL.nil | refine Deep.agg _ _ ?_ | refine Deep.tup _ _ ?_ | refine Deep.own _ _ _ _ _ _ _ _ rfl ?_ | refine Deep.loc _ _ _ _ _ rfl ?_ | refine Deep.ifc _ _ _ ?_ | refine Deep.fn _ _ _ _ _ ?_ ?_ | refine DeepL.cons _ _ _ _ ?_ ?_ | refine DeepLL.cons _ _ _ _ ?_ ?_ | exact deepLL_refl _))
        | false =>
          rw [hf0, if_neg (by simp)] at hL
          rw [show ((w0 w 0).toList == (⟨#[102, 108, 111, 119]⟩ : ByteArray).toList) = false from hf0]
          ((conv=>whnf);repeat(refine⟨rfl,?_⟩;conv=>whnf))
          by_cases hk0 : kindW (w0 w 0) 7 = 0
          · rw [if_neg (by simp [hk0])] at hL
            rw [hk0]
            ((conv=>whnf);repeat(refine⟨rfl,?_⟩;conv=>whnf))
            subst hL
            subst hR
            simp only at hT
            subst hT
            (refine .inl ⟨by (unfold InR; rw [IntKind.wrap_i64]; omega), ?_⟩; ((conv=>whnf);repeat(refine⟨rfl,?_⟩;conv=>whnf)))
            (repeat' (first | exact Deep.refl _ | exact Deep.none _ | exact deep_row _ | exact DeepL.nil | exact DeepLL.nil | refine Deep.agg _ _ ?_ | refine Deep.tup _ _ ?_ | refine Deep.own _ _ _ _ _ _ _ _ rfl ?_ | refine Deep.loc _ _ _ _ _ rfl ?_ | refine Deep.ifc _ _ _ ?_ | refine Deep.fn _ _ _ _ _ ?_ ?_ | refine DeepL.cons _ _ _ _ ?_ ?_ | refine DeepLL.cons _ _ _ _ ?_ ?_ | exact deepLL_refl _))
          · rw [if_pos hk0] at hL
            refine ifK_t (by simp; omega) ?_
            ((conv=>whnf);repeat(refine⟨rfl,?_⟩;conv=>whnf))
            rw [List.length_map]
            by_cases hl : w.length = 2
            · rw [show ((w.length : Int) == 2) = true by rw [hl]; rfl]
              ((conv=>whnf);repeat(refine⟨rfl,?_⟩;conv=>whnf))
              refine ⟨by omega, _, w0_at (i := 1) (by omega), ?_⟩
              ((conv=>whnf);repeat(refine⟨rfl,?_⟩;conv=>whnf))
              cases h1 : namedB (w0 w 1) with
              | true =>
                rw [h1] at n1
                (refine .inl ⟨_, n1, ?_⟩; ((conv=>whnf);repeat(refine⟨rfl,?_⟩;conv=>whnf)))
                by_cases hN : N.length = 0
                · have hst : st.flows = [] := List.eq_nil_of_length_eq_zero (by rw [← hfo.1]; exact hN)
                  rw [if_pos ⟨hl, h1, hst⟩] at hL
                  subst hL
                  rw [show (((List.length N - 0 : Nat) : Int) == 0) = true by simp [hN]]
                  ((conv=>whnf);repeat(refine⟨rfl,?_⟩;conv=>whnf))
                  refine ⟨by omega, _, w0_at (i := 1) (by omega), ?_⟩
                  ((conv=>whnf);repeat(refine⟨rfl,?_⟩;conv=>whnf))
                  refine ⟨(by unfold sliceAppend; simp only [ll]; omega), ?_⟩
                  ((conv=>whnf);repeat(refine⟨rfl,?_⟩;conv=>whnf))
                  (refine .inl ⟨by (unfold InR; rw [IntKind.wrap_i64]; omega), ?_⟩; ((conv=>whnf);repeat(refine⟨rfl,?_⟩;conv=>whnf)))
                  refine ⟨(f, i + 1, e + 1, ⟨st.nodes ++ [(w0 w 1, ((kindW (w0 w 0) 7 : Nat) : Int))], st.flows⟩, N, at_, st.nodes.length + 1, N.length), ⟨hR, by omega, by omega, hd.symm, by omega, by simp; omega, by omega, hfo, fun q => absurd (by rw [List.length_eq_zero_iff.1 hN]) q, by omega, fun x hx => ?_, by simp, rfl⟩, by dsimp only; omega, ?_⟩
                  · rcases List.mem_append.1 hx with hx | hx
                    · exact hnm x hx
                    · rw [List.mem_singleton] at hx
                      subst hx
                      have := hnz 1
                      show (w0 w 1).size ≤ _
                      omega
                  (refine leB_close 4 (by simp) rfl ?_ ?_ <;> (repeat' (first | exact trivial | exact rfl | exact DeepM.refl _ | exact DeepML.refl _ | exact DeepMLL.refl _ | refine And.intro ?_ ?_ | (simp [Under, UnderL, UnderLL, -List.map_take, -List.map_drop]; done))))
                  all_goals first
                    | exact deepMLL_eq (by rw [List.drop_zero, List.take_of_length_le (by simp), List.map_append]; rfl)
                    | exact underLL_pure _ (pureLL_map _ pure_wrow _)
                    | exact underLL_pure _ (pureLL_map _ pure_nrow _)
                    | exact under_pure _ (pure_dstrs _)
                · have hst : st.flows ≠ [] := fun q => by have := hfo.1; rw [q] at this; exact hN this
                  rw [if_neg (fun q => hst q.2.2)] at hL
                  rw [show (((List.length N - 0 : Nat) : Int) == 0) = false by simpa using hN]
                  ((conv=>whnf);repeat(refine⟨rfl,?_⟩;conv=>whnf))
                  subst hL
                  subst hR
                  simp only at hT
                  subst hT
                  (refine .inl ⟨by (unfold InR; rw [IntKind.wrap_i64]; omega), ?_⟩; ((conv=>whnf);repeat(refine⟨rfl,?_⟩;conv=>whnf)))
                  (repeat' (first | exact Deep.refl _ | exact Deep.none _ | exact deep_row _ | exact DeepL.nil | exact DeepLL.nil | refine Deep.agg _ _ ?_ | refine Deep.tup _ _ ?_ | refine Deep.own _ _ _ _ _ _ _ _ rfl ?_ | refine Deep.loc _ _ _ _ _ rfl ?_ | refine Deep.ifc _ _ _ ?_ | refine Deep.fn _ _ _ _ _ ?_ ?_ | refine DeepL.cons _ _ _ _ ?_ ?_ | refine DeepLL.cons _ _ _ _ ?_ ?_ | exact deepLL_refl _))
              | false =>
                rw [h1] at n1
                (refine .inl ⟨_, n1, ?_⟩; ((conv=>whnf);repeat(refine⟨rfl,?_⟩;conv=>whnf)))
                rw [if_neg (by simp [h1])] at hL
                subst hL
                subst hR
                simp only at hT
                subst hT
                (refine .inl ⟨by (unfold InR; rw [IntKind.wrap_i64]; omega), ?_⟩; ((conv=>whnf);repeat(refine⟨rfl,?_⟩;conv=>whnf)))
                (repeat' (first | exact Deep.refl _ | exact Deep.none _ | exact deep_row _ | exact DeepL.nil | exact DeepLL.nil | refine Deep.agg _ _ ?_ | refine Deep.tup _ _ ?_ | refine Deep.own _ _ _ _ _ _ _ _ rfl ?_ | refine Deep.loc _ _ _ _ _ rfl ?_ | refine Deep.ifc _ _ _ ?_ | refine Deep.fn _ _ _ _ _ ?_ ?_ | refine DeepL.cons _ _ _ _ ?_ ?_ | refine DeepLL.cons _ _ _ _ ?_ ?_ | exact deepLL_refl _))
            · rw [if_neg (fun q => hl q.1)] at hL
              rw [show ((w.length : Int) == 2) = false by simpa using (by omega : (w.length : Int) ≠ 2)]
              ((conv=>whnf);repeat(refine⟨rfl,?_⟩;conv=>whnf))
              subst hL
              subst hR
              simp only at hT
              subst hT
              (refine .inl ⟨by (unfold InR; rw [IntKind.wrap_i64]; omega), ?_⟩; ((conv=>whnf);repeat(refine⟨rfl,?_⟩;conv=>whnf)))
              (repeat' (first | exact Deep.refl _ | exact Deep.none _ | exact deep_row _ | exact DeepL.nil | exact DeepLL.nil | refine Deep.agg _ _ ?_ | refine Deep.tup _ _ ?_ | refine Deep.own _ _ _ _ _ _ _ _ rfl ?_ | refine Deep.loc _ _ _ _ _ rfl ?_ | refine Deep.ifc _ _ _ ?_ | refine Deep.fn _ _ _ _ _ ?_ ?_ | refine DeepL.cons _ _ _ _ ?_ ?_ | refine DeepLL.cons _ _ _ _ ?_ ?_ | exact deepLL_refl _))
    · rw [if_neg hnl] at hR
      rw [lns_last hps hnl] at hd
      obtain ⟨hx, hd, hi⟩ := lns_drop hd.symm
      refine ifK_t (by simp; omega) ?_
      ((conv=>whnf);repeat(refine⟨rfl,?_⟩;conv=>whnf))
      have hrow : ((lns s 0).map fun s => [D.sc (Value.string s)])[(i : Int).toNat]? = some [.sc (.string (s.extract p s.size))] := by
        rw [Int.toNat_natCast, List.getElem?_map, hx]; rfl
      have hsz : (s.extract p s.size).size = s.size - p := by rw [ByteArray.size_extract]; omega
      obtain ⟨b, hb⟩ := byte_at (s := s) (k := s.size - 1) (by omega)
      have hb10 : b ≠ 10 := fun q => by
        have h1 := fndE_no (c := 10) (s := s) _ p rfl (s.size - 1) (by omega) (by omega)
        apply h1
        unfold chr
        rw [hb, q]; rfl
      have hlast : (s.extract p s.size)[s.size - 1 - p]? = some b := by
        rw [getElem?_pos (s.extract p s.size) (s.size - 1 - p) (by omega), ByteArray.getElem_extract]
        rw [getElem?_pos s (s.size - 1) (by omega)] at hb
        simp only [show p + (s.size - 1 - p) = s.size - 1 by omega]
        exact hb
      refine ⟨by omega, _, hrow, ?_⟩
      ((conv=>whnf);repeat(refine⟨rfl,?_⟩;conv=>whnf))
      refine ⟨by omega, _, hrow, ?_⟩
      ((conv=>whnf);repeat(refine⟨rfl,?_⟩;conv=>whnf))
      rw [hsz]
      (refine .inl ⟨by (unfold InR; rw [IntKind.wrap_i64]; omega), ?_⟩; ((conv=>whnf);repeat(refine⟨rfl,?_⟩;conv=>whnf)))
      rw [show (((s.size - p : Nat) : Int) - 1) = ((s.size - 1 - p : Nat) : Int) by omega]
      refine ⟨by omega, _, by rw [Int.toNat_natCast]; exact hlast, ?_⟩
      ((conv=>whnf);repeat(refine⟨rfl,?_⟩;conv=>whnf))
      have hbn : ((b.toNat : Int) == 10) = false := by
        have : b.toNat ≠ 10 := fun q => hb10 (UInt8.toNat_inj.1 q)
        simpa using (by omega : (b.toNat : Int) ≠ 10)
      rw [hbn]
      ((conv=>whnf);repeat(refine⟨rfl,?_⟩;conv=>whnf))
      subst hR
      simp only at hT
      subst hT
      (refine .inl ⟨by (unfold InR; rw [IntKind.wrap_i64]; omega), ?_⟩; ((conv=>whnf);repeat(refine⟨rfl,?_⟩;conv=>whnf)))
      (repeat' (first | exact Deep.refl _ | exact Deep.none _ | exact deep_row _ | exact DeepL.nil | exact DeepLL.nil | refine Deep.agg _ _ ?_ | refine Deep.tup _ _ ?_ | refine Deep.own _ _ _ _ _ _ _ _ rfl ?_ | refine Deep.loc _ _ _ _ _ rfl ?_ | refine Deep.ifc _ _ _ ?_ | refine Deep.fn _ _ _ _ _ ?_ ?_ | refine DeepL.cons _ _ _ _ ?_ ?_ | refine DeepLL.cons _ _ _ _ ?_ ?_ | exact deepLL_refl _))
  · rw [if_neg hps] at hR
    rw [lns_none hps] at hd
    have hi : i = (lns s 0).length := by have := congrArg List.length hd; simp at this; omega
    refine ifK_f (by simp; omega) ?_
    ((conv=>whnf);repeat(refine⟨rfl,?_⟩;conv=>whnf))
    subst hR
    simp only at hT
    obtain ⟨FR, hFR⟩ : ∃ FR, FR = flowsR st.nodes st.flows [] := ⟨_, rfl⟩
    rw [← hFR] at hT
    refine pwp_ghostB (leB_nilc 1 1 2 (by simp) rfl rfl) ?_
    refine pwp_for [2, 5, 6, 8] (fun ((k, c, out) : Nat × Nat × List (Int × Int)) => [(14, .sc (.int .i64 k))])
      (fun (k, c, out) => [(1, .row true [.own 2 st.nodes.length 0 st.nodes.length, .own 4 c 0 c]), (4, .vec true c 2 (out.map frow))])
      (fun (k, c, out) => FR = flowsR st.nodes (st.flows.drop k) out ∧ k ≤ N.length ∧ out.length = k ∧ c = out.length) (fun (k, c, out) => N.length - k) (0, 0, []) ?_
    ((conv=>whnf);repeat(refine⟨rfl,?_⟩;conv=>whnf))
    refine ⟨⟨by rw [List.drop_zero]; exact hFR, Nat.zero_le _, rfl, rfl⟩, by (repeat' (first | exact trivial | refine And.intro rfl ?_)), rfl, ?_⟩
    rintro ⟨k, c, out⟩ ⟨hR, hk, ho, rfl⟩
    ((conv=>whnf);repeat(refine⟨rfl,?_⟩;conv=>whnf))
    (apply rd_sound; focus (repeat' constructor))
    ((conv=>whnf);repeat(refine⟨rfl,?_⟩;conv=>whnf))
    (refine ifK_split (fun h6 => ?_) (fun h6 => ?_) <;> (rw [h6]; ((conv=>whnf);repeat(refine⟨rfl,?_⟩;conv=>whnf))))
    · have hk' : k < N.length := by ((try simp only[oo,reduceCtorEq]at*)<;>omega)
      obtain ⟨w, hw⟩ : ∃ w, N[k]? = some w := ⟨_, List.getElem?_eq_getElem hk'⟩
      obtain ⟨hw3, hfk⟩ := hfo.2 k w hw
      have hkf : k < st.flows.length := by rw [← hfo.1]; exact hk'
      have hat3 : (N.map wrow)[k]? = some (wrow w) := by rw [List.getElem?_map, hw]; rfl
      rw [List.getElem?_eq_getElem hkf] at hfk
      rw [List.drop_eq_getElem_cons hkf, Option.some.inj hfk] at hR
      simp only [flowsR] at hR
      (refine .inl ⟨by (unfold InR; rw [IntKind.wrap_i64]; omega), ?_⟩; ((conv=>whnf);repeat(refine⟨rfl,?_⟩;conv=>whnf)))
      rw [show (((st.nodes.length - 0 : Nat) : Int) - 1) = ((st.nodes.length : Int) - 1) by omega]
      refine pwp_for [2, 5, 6, 8, 14, 15] (fun j : Nat => [(16, .sc (.int .i64 ((j : Int) - 1)))]) (fun j => [(5, .row true [.sc (.int .i64 (seekI st.nodes (w0 w 1) j)), .sc (.int .i64 (seekI st.nodes (w0 w 2) j))])]) (fun j => j ≤ st.nodes.length) (fun j => j) st.nodes.length ?_
      ((conv=>whnf);repeat(refine⟨rfl,?_⟩;conv=>whnf))
      refine ⟨Nat.le_refl _, by (repeat' (first | exact trivial | refine And.intro rfl ?_)), by rw [seekI_end, seekI_end]; rfl, ?_⟩
      rintro j hj
      ((conv=>whnf);repeat(refine⟨rfl,?_⟩;conv=>whnf))
      (apply rd_sound; focus (repeat' constructor))
      ((conv=>whnf);repeat(refine⟨rfl,?_⟩;conv=>whnf))
      (refine ifK_split (fun h1 => ?_) (fun h1 => ?_) <;> (rw [h1]; ((conv=>whnf);repeat(refine⟨rfl,?_⟩;conv=>whnf))))
      · obtain ⟨l, rfl⟩ : ∃ l, j = l + 1 := ⟨j - 1, by ((try simp only[oo,reduceCtorEq]at*)<;>omega)⟩
        rw [show (((l + 1 : Nat) : Int) - 1) = (l : Int) by omega]
        have hl : l < st.nodes.length := by omega
        have hnd : (st.nodes.map nrow)[l]? = some (nrow st.nodes[l]) := by rw [List.getElem?_map, List.getElem?_eq_getElem hl]; rfl
        have s1 := seekI_step (x := w0 w 1) hl
        have s2 := seekI_step (x := w0 w 2) hl
        refine ⟨by omega, by omega, ?_⟩
        ((conv=>whnf);repeat(refine⟨rfl,?_⟩;conv=>whnf))
        refine ⟨_, by rw [show 0 + (l : Int).toNat = l by omega]; exact hnd, ?_⟩
        ((conv=>whnf);repeat(refine⟨rfl,?_⟩;conv=>whnf))
        refine ⟨by omega, by omega, ?_⟩
        ((conv=>whnf);repeat(refine⟨rfl,?_⟩;conv=>whnf))
        refine ⟨_, by rw [show 0 + (k : Int).toNat = k by omega]; exact hat3, ?_⟩
        ((conv=>whnf);repeat(refine⟨rfl,?_⟩;conv=>whnf))
        refine ⟨by omega, _, w0_at (i := 1) (by omega), ?_⟩
        ((conv=>whnf);repeat(refine⟨rfl,?_⟩;conv=>whnf))
        cases c1 : eqS st.nodes[l].1 (w0 w 1) with
        | true =>
          rw [c1, if_pos rfl] at s1
          rw [show (st.nodes[l].1.toList == (w0 w 1).toList) = true from c1]
          ((conv=>whnf);repeat(refine⟨rfl,?_⟩;conv=>whnf))
          refine ⟨by omega, by omega, ?_⟩
          ((conv=>whnf);repeat(refine⟨rfl,?_⟩;conv=>whnf))
          refine ⟨_, by rw [show 0 + (l : Int).toNat = l by omega]; exact hnd, ?_⟩
          ((conv=>whnf);repeat(refine⟨rfl,?_⟩;conv=>whnf))
          refine ⟨by omega, by omega, ?_⟩
          ((conv=>whnf);repeat(refine⟨rfl,?_⟩;conv=>whnf))
          refine ⟨_, by rw [show 0 + (k : Int).toNat = k by omega]; exact hat3, ?_⟩
          ((conv=>whnf);repeat(refine⟨rfl,?_⟩;conv=>whnf))
          refine ⟨by omega, _, w0_at (i := 2) (by omega), ?_⟩
          ((conv=>whnf);repeat(refine⟨rfl,?_⟩;conv=>whnf))
          cases c2 : eqS st.nodes[l].1 (w0 w 2) with
          | true =>
            rw [c2, if_pos rfl] at s2
            rw [show (st.nodes[l].1.toList == (w0 w 2).toList) = true from c2]
            ((conv=>whnf);repeat(refine⟨rfl,?_⟩;conv=>whnf))
            (refine .inl ⟨by (unfold InR; rw [IntKind.wrap_i64]; omega), ?_⟩; ((conv=>whnf);repeat(refine⟨rfl,?_⟩;conv=>whnf)))
            exact ⟨l, by omega, by dsimp only; omega, leB_envH (by (repeat' (first | exact trivial | refine And.intro rfl ?_))) (by dsimp only; rw [s1, s2]; rfl)⟩
          | false =>
            rw [c2, if_neg (by simp)] at s2
            rw [show (st.nodes[l].1.toList == (w0 w 2).toList) = false from c2]
            ((conv=>whnf);repeat(refine⟨rfl,?_⟩;conv=>whnf))
            (refine .inl ⟨by (unfold InR; rw [IntKind.wrap_i64]; omega), ?_⟩; ((conv=>whnf);repeat(refine⟨rfl,?_⟩;conv=>whnf)))
            exact ⟨l, by omega, by dsimp only; omega, leB_envH (by (repeat' (first | exact trivial | refine And.intro rfl ?_))) (by dsimp only; rw [s1, s2]; rfl)⟩
        | false =>
          rw [c1, if_neg (by simp)] at s1
          rw [show (st.nodes[l].1.toList == (w0 w 1).toList) = false from c1]
          ((conv=>whnf);repeat(refine⟨rfl,?_⟩;conv=>whnf))
          refine ⟨by omega, by omega, ?_⟩
          ((conv=>whnf);repeat(refine⟨rfl,?_⟩;conv=>whnf))
          refine ⟨_, by rw [show 0 + (l : Int).toNat = l by omega]; exact hnd, ?_⟩
          ((conv=>whnf);repeat(refine⟨rfl,?_⟩;conv=>whnf))
          refine ⟨by omega, by omega, ?_⟩
          ((conv=>whnf);repeat(refine⟨rfl,?_⟩;conv=>whnf))
          refine ⟨_, by rw [show 0 + (k : Int).toNat = k by omega]; exact hat3, ?_⟩
          ((conv=>whnf);repeat(refine⟨rfl,?_⟩;conv=>whnf))
          refine ⟨by omega, _, w0_at (i := 2) (by omega), ?_⟩
          ((conv=>whnf);repeat(refine⟨rfl,?_⟩;conv=>whnf))
          cases c2 : eqS st.nodes[l].1 (w0 w 2) with
          | true =>
            rw [c2, if_pos rfl] at s2
            rw [show (st.nodes[l].1.toList == (w0 w 2).toList) = true from c2]
            ((conv=>whnf);repeat(refine⟨rfl,?_⟩;conv=>whnf))
            (refine .inl ⟨by (unfold InR; rw [IntKind.wrap_i64]; omega), ?_⟩; ((conv=>whnf);repeat(refine⟨rfl,?_⟩;conv=>whnf)))
            exact ⟨l, by omega, by dsimp only; omega, leB_envH (by (repeat' (first | exact trivial | refine And.intro rfl ?_))) (by dsimp only; rw [s1, s2]; rfl)⟩
          | false =>
            rw [c2, if_neg (by simp)] at s2
            rw [show (st.nodes[l].1.toList == (w0 w 2).toList) = false from c2]
            ((conv=>whnf);repeat(refine⟨rfl,?_⟩;conv=>whnf))
            (refine .inl ⟨by (unfold InR; rw [IntKind.wrap_i64]; omega), ?_⟩; ((conv=>whnf);repeat(refine⟨rfl,?_⟩;conv=>whnf)))
            exact ⟨l, by omega, by dsimp only; omega, leB_envH (by (repeat' (first | exact trivial | refine And.intro rfl ?_))) (by dsimp only; rw [s1, s2]; rfl)⟩
      · have : j = 0 := by ((try simp only[oo,reduceCtorEq]at*)<;>omega)
        subst this
        ((conv=>whnf);repeat(refine⟨rfl,?_⟩;conv=>whnf))
        rw [seekI_zero, seekI_zero]
        cases hx1 : nodeI st.nodes (w0 w 1) with
        | none =>
          rw [hx1] at hR
          rw [show nodeZ st.nodes (w0 w 1) = -1 by unfold nodeZ idxF; unfold nodeI at hx1; rw [hx1]]
          subst hR
          simp only at hT
          subst hT
          ((conv=>whnf);repeat(refine⟨rfl,?_⟩;conv=>whnf))
          (refine .inl ⟨by (unfold InR; rw [IntKind.wrap_i64]; omega), ?_⟩; ((conv=>whnf);repeat(refine⟨rfl,?_⟩;conv=>whnf)))
          (refine .inl ⟨by (unfold InR; rw [IntKind.wrap_i64]; omega), ?_⟩; ((conv=>whnf);repeat(refine⟨rfl,?_⟩;conv=>whnf)))
          (repeat' (first | exact Deep.refl _ | exact Deep.none _ | exact deep_row _ | exact DeepL.nil | exact DeepLL.nil | refine Deep.agg _ _ ?_ | refine Deep.tup _ _ ?_ | refine Deep.own _ _ _ _ _ _ _ _ rfl ?_ | refine Deep.loc _ _ _ _ _ rfl ?_ | refine Deep.ifc _ _ _ ?_ | refine Deep.fn _ _ _ _ _ ?_ ?_ | refine DeepL.cons _ _ _ _ ?_ ?_ | refine DeepLL.cons _ _ _ _ ?_ ?_ | exact deepLL_refl _))
        | some i =>
          rw [hx1] at hR
          rw [show nodeZ st.nodes (w0 w 1) = (i : Int) by unfold nodeZ idxF; unfold nodeI at hx1; rw [hx1]]
          rw [show decide ((i : Int) < 0) = false by simp]
          ((conv=>whnf);repeat(refine⟨rfl,?_⟩;conv=>whnf))
          cases hy1 : nodeI st.nodes (w0 w 2) with
          | none =>
            rw [hy1] at hR
            rw [show nodeZ st.nodes (w0 w 2) = -1 by unfold nodeZ idxF; unfold nodeI at hy1; rw [hy1]]
            subst hR
            simp only at hT
            subst hT
            ((conv=>whnf);repeat(refine⟨rfl,?_⟩;conv=>whnf))
            (refine .inl ⟨by (unfold InR; rw [IntKind.wrap_i64]; omega), ?_⟩; ((conv=>whnf);repeat(refine⟨rfl,?_⟩;conv=>whnf)))
            (refine .inl ⟨by (unfold InR; rw [IntKind.wrap_i64]; omega), ?_⟩; ((conv=>whnf);repeat(refine⟨rfl,?_⟩;conv=>whnf)))
            (repeat' (first | exact Deep.refl _ | exact Deep.none _ | exact deep_row _ | exact DeepL.nil | exact DeepLL.nil | refine Deep.agg _ _ ?_ | refine Deep.tup _ _ ?_ | refine Deep.own _ _ _ _ _ _ _ _ rfl ?_ | refine Deep.loc _ _ _ _ _ rfl ?_ | refine Deep.ifc _ _ _ ?_ | refine Deep.fn _ _ _ _ _ ?_ ?_ | refine DeepL.cons _ _ _ _ ?_ ?_ | refine DeepLL.cons _ _ _ _ ?_ ?_ | exact deepLL_refl _))
          | some j =>
            rw [hy1] at hR
            rw [show nodeZ st.nodes (w0 w 2) = (j : Int) by unfold nodeZ idxF; unfold nodeI at hy1; rw [hy1]]
            rw [show decide ((j : Int) < 0) = false by simp]
            ((conv=>whnf);repeat(refine⟨rfl,?_⟩;conv=>whnf))
            refine ⟨(by unfold sliceAppend; simp only [ll]; omega), ?_⟩
            ((conv=>whnf);repeat(refine⟨rfl,?_⟩;conv=>whnf))
            (refine .inl ⟨by (unfold InR; rw [IntKind.wrap_i64]; omega), ?_⟩; ((conv=>whnf);repeat(refine⟨rfl,?_⟩;conv=>whnf)))
            refine ⟨(k + 1, out.length + 1, out ++ [((i : Int), (j : Int))]), ⟨hR, by omega, by simp [ho], by simp⟩, by dsimp only; omega, ?_⟩
            (refine leB_close 5 (by simp) rfl ?_ ?_ <;> (repeat' (first | exact trivial | exact rfl | exact DeepM.refl _ | exact DeepML.refl _ | exact DeepMLL.refl _ | refine And.intro ?_ ?_ | (simp [Under, UnderL, UnderLL, -List.map_take, -List.map_drop]; done))))
            all_goals first
              | exact deepMLL_eq (by rw [List.drop_zero, List.take_of_length_le (by simp), List.map_append]; rfl)
              | exact underLL_pure _ (pureLL_map _ pure_frow _)
              | exact underLL_pure _ (pureLL_map _ pure_nrow _)
              | exact underLL_pure _ (pureLL_map _ pure_wrow _)
              | exact under_pure _ (pure_dstrs _)
    · have hk' : k = N.length := by ((try simp only[oo,reduceCtorEq]at*)<;>omega)
      subst hk'
      rw [hfo.1, List.drop_length] at hR
      simp only [flowsR] at hR
      subst hR
      simp only at hT
      ((conv=>whnf);repeat(refine⟨rfl,?_⟩;conv=>whnf))
      have hC := ref_Process ⟨st.nodes, out⟩ ⟨by show st.nodes.length ≤ _; omega, by show out.length ≤ _; omega, fun x hx => by have := hnm x hx; omega⟩
      (refine .inr (.inl ⟨_, _, (by (repeat' (first | exact Deep.refl _ | exact deepLL_all (by first | (simp; done) | (simp [i64s]; done)) | exact Deep.none _ | exact deep_row _ | exact DeepL.nil | exact DeepLL.nil | refine Deep.agg _ _ ?_ | refine Deep.tup _ _ ?_ | refine Deep.own _ _ _ _ _ _ _ _ rfl ?_ | refine Deep.loc _ _ _ _ _ rfl ?_ | refine Deep.ifc _ _ _ ?_ | refine Deep.fn _ _ _ _ _ ?_ ?_ | refine DeepL.cons _ _ _ _ ?_ ?_ | refine DeepLL.cons _ _ _ _ ?_ ?_ | exact deepLL_refl _))), hC, rfl, ?_⟩); ((conv=>whnf);repeat(refine⟨rfl,?_⟩;conv=>whnf)))
      by_cases h0 : (ProcD.mk st.nodes out).chk = 0
      · rw [if_pos h0] at hT
        subst hT
        refine ifK_f (by simp [h0]) ?_
        ((conv=>whnf);repeat(refine⟨rfl,?_⟩;conv=>whnf))
        exact .tup _ _ (.cons _ _ _ _ (.agg _ _ (.cons _ _ _ _ (.own 2 _ _ _ 2 true _ _ rfl (deepLL_all (by simp))) (.cons _ _ _ _ (.own 4 _ _ _ 2 true _ _ rfl (deepLL_all (by simp))) .nil))) (.cons _ _ _ _ (.refl _) (.cons _ _ _ _ (.refl _) .nil)))
      · rw [if_neg h0] at hT
        subst hT
        refine ifK_t (by simpa using h0) ?_
        ((conv=>whnf);repeat(refine⟨rfl,?_⟩;conv=>whnf))
        (repeat' (first | exact Deep.refl _ | exact Deep.none _ | exact deep_row _ | exact DeepL.nil | exact DeepLL.nil | refine Deep.agg _ _ ?_ | refine Deep.tup _ _ ?_ | refine Deep.own _ _ _ _ _ _ _ _ rfl ?_ | refine Deep.loc _ _ _ _ _ rfl ?_ | refine Deep.ifc _ _ _ ?_ | refine Deep.fn _ _ _ _ _ ?_ ?_ | refine DeepL.cons _ _ _ _ ?_ ?_ | refine DeepLL.cons _ _ _ _ ?_ ?_ | exact deepLL_refl _))
end Go.Proofs.YtgkodbnomgabdaaDoor
