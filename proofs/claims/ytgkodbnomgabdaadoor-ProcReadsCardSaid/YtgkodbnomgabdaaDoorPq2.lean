/-
  The program's reader of processes, over deep values: words, lines. No statement is proved here.
-/
import Derived.Test.YtgkodbnomgabdaaDoorPq1
import Derived.Test.YtgkodbnomgabdaaDoorPrA
namespace Go.Proofs.YtgkodbnomgabdaaDoor
open Go.RowKit
set_option linter.unusedSimpArgs false
set_option linter.unusedVariables false
theorem wordK_at {k : Nat} (h : k < 8) : (wordsK.map fun s => D.sc (.string s))[k]? = some (.sc (.string (wordK k))) := by
  unfold wordK
  rw [List.getElem?_map, List.getD_eq_getElem?_getD]
  have : k < wordsK.length := h
  rw [List.getElem?_eq_getElem this]
  rfl
def c18 : PC := .seq (.ops [q 2 (.move (.const (.string ⟨#[]⟩)))] false) (.seq (.ops [q 3 (.build [(.string ⟨#[]⟩), (.string ⟨#[]⟩), (.string ⟨#[]⟩), (.string ⟨#[]⟩), (.string ⟨#[]⟩), (.string ⟨#[]⟩), (.string ⟨#[]⟩), (.string ⟨#[]⟩)] [(0, 1, (.const (.string ⟨#[]⟩))), (1, 1, (.const (.string ⟨#[115, 116, 97, 114, 116]⟩))), (2, 1, (.const (.string ⟨#[101, 110, 100]⟩))), (3, 1, (.const (.string ⟨#[115, 116, 111, 112]⟩))), (4, 1, (.const (.string ⟨#[116, 97, 115, 107]⟩))), (5, 1, (.const (.string ⟨#[120, 111, 114]⟩))), (6, 1, (.const (.string ⟨#[97, 110, 100]⟩))), (7, 1, (.const (.string ⟨#[111, 114]⟩)))]),qm 4 0,q 5 (.aidx 8 1 false (.tmp 3) (.tmp 4)),qm 2 5] false) (.ret))
set_option maxRecDepth 100000 in
theorem c18_ok : FunOK Tryd.prog 18 6 [.tmp 2] c18 := ⟨⟨Tryd.f18, Tryd.func18, rfl, by kernel_rfl, rfl, by kernel_rfl⟩⟩
theorem proc_word (k : Nat) (hk : k < 8) : PCall Tryd.prog 18 [.sc (.int .i64 k)] (.sc (.string (wordK k))) := by
  refine pcall_intro c18_ok (by simp) (by simp [PureL, Pure]) ?_ (by simp [Pure])
  (apply rd_sound; focus (repeat' constructor))
  ((conv=>whnf);repeat(refine⟨rfl,?_⟩;conv=>whnf))
  refine ⟨by omega, by omega, _, by rw [Int.toNat_natCast, Nat.mul_one]; exact wordK_at hk, ?_⟩
  ((conv=>whnf);repeat(refine⟨rfl,?_⟩;conv=>whnf))
  exact .refl _
def c15 : PC := .seq (.ops [q 2 (.move (.const (.string ⟨#[]⟩)))] false) (.seq (.ops [q 3 (.build [(.string ⟨#[]⟩), (.string ⟨#[]⟩), (.string ⟨#[]⟩), (.string ⟨#[]⟩), (.string ⟨#[]⟩), (.string ⟨#[]⟩), (.string ⟨#[]⟩), (.string ⟨#[]⟩)] [(0, 1, (.const (.string ⟨#[]⟩))), (1, 1, (.const (.string ⟨#[115, 116, 97, 114, 116]⟩))), (2, 1, (.const (.string ⟨#[101, 110, 100]⟩))), (3, 1, (.const (.string ⟨#[115, 116, 111, 112]⟩))), (4, 1, (.const (.string ⟨#[116, 97, 115, 107]⟩))), (5, 1, (.const (.string ⟨#[120, 111, 114]⟩))), (6, 1, (.const (.string ⟨#[97, 110, 100]⟩))), (7, 1, (.const (.string ⟨#[111, 114]⟩)))]),qm 4 0,q 5 (.aidx 8 1 false (.tmp 3) (.tmp 4)),qm 2 5] false) (.ret))
set_option maxRecDepth 100000 in
theorem c15_ok : FunOK Tryd.prog 15 6 [.tmp 2] c15 := ⟨⟨Tryd.f15, Tryd.func15, rfl, by kernel_rfl, rfl, by kernel_rfl⟩⟩
theorem ref_KindWord (k : Nat) (hk : k < 8) : PCall Tryd.prog 15 [.sc (.int .i64 k)] (.sc (.string (wordK k))) := by
  refine pcall_intro c15_ok (by simp) (by simp [PureL, Pure]) ?_ (by simp [Pure])
  (apply rd_sound; focus (repeat' constructor))
  ((conv=>whnf);repeat(refine⟨rfl,?_⟩;conv=>whnf))
  refine ⟨by omega, by omega, _, by rw [Int.toNat_natCast, Nat.mul_one]; exact wordK_at hk, ?_⟩
  ((conv=>whnf);repeat(refine⟨rfl,?_⟩;conv=>whnf))
  exact .refl _
theorem kindW_keep {x : ByteArray} {k : Nat} (h : kindW x k ≠ 0) : ∀ n, kindW x (k + n) = kindW x k
  | 0 => rfl
  | n + 1 => by
    show kindW x (k + n + 1) = _
    have := kindW_keep h n
    simp only [kindW]
    rw [this, if_pos h]
theorem kindW_hit {x : ByteArray} {k : Nat} (h : kindW x k = 0) (e : eqS x (wordK (k + 1)) = true) (hk : k + 1 ≤ 7) : kindW x 7 = k + 1 := by
  have h1 : kindW x (k + 1) = k + 1 := by simp only [kindW]; rw [if_neg (by simp [h]), if_pos e]
  have := kindW_keep (x := x) (k := k + 1) (by rw [h1]; omega) (7 - (k + 1))
  rw [show k + 1 + (7 - (k + 1)) = 7 by omega] at this
  rw [this, h1]
theorem kindW_miss {x : ByteArray} {k : Nat} (h : kindW x k = 0) (e : eqS x (wordK (k + 1)) = false) : kindW x (k + 1) = 0 := by
  simp only [kindW]; rw [if_neg (by simp [h]), if_neg (by simp [e])]
def flrow (x : ByteArray × ByteArray × Int) : List D := [.sc (.string x.1), .sc (.string x.2.1), .sc (.int .i64 x.2.2)]
/-- A reader's own memory. -/
def rdO (st : RdS) : List AObj := [.row true [.own 1 st.nodes.length 0 st.nodes.length, .sc (.slice none 0 0), .own 2 st.flows.length 0 st.flows.length], .vec true st.nodes.length 2 (st.nodes.map nrow), .vec true st.flows.length 3 (st.flows.map flrow)]
theorem w0_at {w : List ByteArray} {i : Nat} (h : i < w.length) : (w.map fun s => [D.sc (.string s)])[(i : Int).toNat]? = some [.sc (.string (w0 w i))] := by
  rw [Int.toNat_natCast, List.getElem?_map, List.getElem?_eq_getElem h]
  unfold w0
  rw [List.getD_eq_getElem?_getD, List.getElem?_eq_getElem h]
  rfl
theorem rdO_under (st : RdS) : UnderO 3 (rdO st) := by
  refine ⟨by simp [AObj.under, UnderL, Under], underLL_pure _ (pureLL_map _ pure_nrow _), underLL_pure _ (pureLL_map _ (fun x => by simp [flrow, PureL, Pure]) _), trivial⟩
theorem rdO_take (st : RdS) : ∀ o ∈ rdO st, o.under (rdO st).length := by
  intro o ho
  simp only [rdO, List.mem_cons, List.not_mem_nil, or_false] at ho
  rcases ho with rfl | rfl | rfl
  · simp [AObj.under, UnderL, Under, rdO]
  · exact underLL_pure _ (pureLL_map _ pure_nrow _)
  · exact underLL_pure _ (pureLL_map _ (fun x => by simp [flrow, PureL, Pure]) _)
def c21_1 : PC := .seq (.seq (.ops [qm 49 8,q 50 (.bin .leq (.tmp 49) (.const (.int .i64 7)))] false) (.cond (.tmp 50) (.skip) (.exit 0))) (.seq (.block 1 (.seq (.ops [qm 53 7,qd 54 (.iaddr 1 (.tmp 53) (.const (.int .i64 0))) 1,qd 55 (.load1 (.tmp 54)) 3,qm 56 8,qd 57 (.call 18 [(.tmp 56)]) 8,qd 58 (.bin .eql (.tmp 55) (.tmp 57)) 31] true) (.cond (.tmp 58) (.seq (.seq (.ops [qm 59 7,q 60 (.len (.tmp 59)),q 61 (.bin .neq (.tmp 60) (.const (.int .i64 2))),qm 62 61,⟨some 63,.move (.tmp 7),some (62,false),0⟩,⟨some 64,.iaddr 1 (.tmp 63) (.const (.int .i64 1)),some (62,false),0⟩,⟨some 65,.load1 (.tmp 64),some (62,false),0⟩,⟨some 66,.call 36 [(.tmp 65)],some (62,false),0⟩,⟨some 67,.un .not (.tmp 66),some (62,false),0⟩,q 68 (.pick (.tmp 62) (.const (.bool true)) (.tmp 67)),qm 69 68,⟨some 70,.move (.tmp 0),some (69,false),0⟩,⟨some 71,.nilchk (.tmp 70),some (69,false),0⟩,⟨some 72,.faddr 2 (.tmp 71),some (69,false),0⟩,⟨some 73,.load1 (.tmp 72),some (69,false),0⟩,⟨some 74,.len (.tmp 73),some (69,false),0⟩,⟨some 75,.bin .gtr (.tmp 74) (.const (.int .i64 0)),some (69,false),0⟩,q 76 (.pick (.tmp 69) (.const (.bool true)) (.tmp 75))] false) (.cond (.tmp 76) (.seq (.ops [q 6 (.move (.const (.bool false)))] false) (.ret)) (.skip))) (.seq (.ops [qm 77 0,qm 78 0,qd 79 (.nilchk (.tmp 78)) 2,qd 80 (.faddr 0 (.tmp 79)) 6,qd 81 (.faddr 0 (.tmp 80)) 14,qd 82 (.load1 (.tmp 81)) 30,qm 83 7,qd 84 (.iaddr 1 (.tmp 83) (.const (.int .i64 1))) 64,qd 85 (.load1 (.tmp 84)) 192,qm 86 8,qd 87 (.build [(.string ⟨#[]⟩), (.int .i64 0)] [(0, 1, (.tmp 85)), (1, 1, (.tmp 86))]) 960,qd 88 (.bslice 2 1 [(.tmp 87)]) 1984,qd 89 (.append 2 24 (.tmp 82) (.tmp 88)) 4094,qd 90 (.nilchk (.tmp 77)) 8191,qd 91 (.faddr 0 (.tmp 90)) 16383,qd 92 (.faddr 0 (.tmp 91)) 32767,qk (.store 1 (.tmp 92) (.tmp 89)) 65535] true) (.seq (.ops [q 6 (.move (.const (.bool true)))] false) (.ret)))) (.skip)))) (.ops [qm 51 8,q 52 (.bin .add (.tmp 51) (.const (.int .i64 1))),qm 8 52] false))
def c21 : PC := .seq (.ops [q 6 (.move (.const (.bool false)))] false) (.seq (.ops [qm 9 1,q 10 (.call 35 [(.tmp 9), (.const (.string ⟨#[32]⟩))]),qm 7 10] false) (.seq (.seq (.ops [qm 11 7,q 12 (.iaddr 1 (.tmp 11) (.const (.int .i64 0))),q 13 (.load1 (.tmp 12)),q 14 (.bin .eql (.tmp 13) (.const (.string ⟨#[102, 108, 111, 119]⟩)))] false) (.cond (.tmp 14) (.seq (.seq (.ops [qm 15 7,q 16 (.len (.tmp 15)),q 17 (.bin .neq (.tmp 16) (.const (.int .i64 3))),qm 18 17,⟨some 19,.move (.tmp 7),some (18,false),0⟩,⟨some 20,.iaddr 1 (.tmp 19) (.const (.int .i64 1)),some (18,false),0⟩,⟨some 21,.load1 (.tmp 20),some (18,false),0⟩,⟨some 22,.call 36 [(.tmp 21)],some (18,false),0⟩,⟨some 23,.un .not (.tmp 22),some (18,false),0⟩,q 24 (.pick (.tmp 18) (.const (.bool true)) (.tmp 23)),qm 25 24,⟨some 26,.move (.tmp 7),some (25,false),0⟩,⟨some 27,.iaddr 1 (.tmp 26) (.const (.int .i64 2)),some (25,false),0⟩,⟨some 28,.load1 (.tmp 27),some (25,false),0⟩,⟨some 29,.call 36 [(.tmp 28)],some (25,false),0⟩,⟨some 30,.un .not (.tmp 29),some (25,false),0⟩,q 31 (.pick (.tmp 25) (.const (.bool true)) (.tmp 30))] false) (.cond (.tmp 31) (.seq (.ops [q 6 (.move (.const (.bool false)))] false) (.ret)) (.skip))) (.seq (.ops [qm 32 0,qm 33 0,qd 34 (.nilchk (.tmp 33)) 2,qd 35 (.faddr 2 (.tmp 34)) 6,qd 36 (.load1 (.tmp 35)) 14,qm 37 7,qd 38 (.iaddr 1 (.tmp 37) (.const (.int .i64 1))) 32,qd 39 (.load1 (.tmp 38)) 96,qm 40 7,qd 41 (.iaddr 1 (.tmp 40) (.const (.int .i64 2))) 256,qd 42 (.load1 (.tmp 41)) 768,qm 43 2,qd 44 (.build [(.string ⟨#[]⟩), (.string ⟨#[]⟩), (.int .i64 0)] [(0, 1, (.tmp 39)), (1, 1, (.tmp 42)), (2, 1, (.tmp 43))]) 4064,qd 45 (.bslice 3 1 [(.tmp 44)]) 8160,qd 46 (.append 3 40 (.tmp 36) (.tmp 45)) 16382,qd 47 (.nilchk (.tmp 32)) 32767,qd 48 (.faddr 2 (.tmp 47)) 65535,qk (.store 1 (.tmp 48) (.tmp 46)) 131071] true) (.seq (.ops [q 6 (.move (.const (.bool true)))] false) (.ret)))) (.skip))) (.seq (.seq (.ops [q 8 (.move (.const (.int .i64 1)))] false) (.block 0 (.loop c21_1))) (.seq (.ops [q 6 (.move (.const (.bool false)))] false) (.ret)))))
set_option maxRecDepth 100000 in
theorem c21_ok : FunOK Tryd.prog 21 93 [.tmp 6] c21 := ⟨⟨Tryd.f21, Tryd.func21, rfl, by kernel_rfl, rfl, by kernel_rfl⟩⟩
theorem proc_line (st : RdS) (hst : st.nodes.length ≤ 100000000 ∧ st.flows.length ≤ 100000000) (ln : ByteArray) (hln : ln.size ≤ 100000000) (a : Int) :
    ACall Tryd.prog 21 [.loc 0 0, .sc (.string ln), .sc (.int .i64 a)] (rdO st) (.sc (.bool (lineR st ln a).isSome)) (rdO ((lineR st ln a).getD st)) := by
  have hS := strings_Split ln (by omega)
  have hpos := pcs_pos ln 0
  have hsz : ∀ i, (w0 (pcs ln 0) i).size ≤ 9223372036854775807 := fun i => by
    unfold w0
    rw [List.getD_eq_getElem?_getD]
    cases h : (pcs ln 0)[i]? with
    | none => show (0 : Nat) ≤ _; omega
    | some x => have := pcs_size ln _ 0 rfl (Nat.zero_le _) x (List.mem_of_getElem? h); simp; omega
  have hnm := fun i => proc_Named (w0 (pcs ln 0) i) (hsz i)
  obtain ⟨R, hL⟩ : ∃ R, R = lineR st ln a := ⟨_, rfl⟩
  rw [← hL]
  unfold lineR at hL
  generalize hw : pcs ln 0 = w at hS hpos hsz hnm hL
  have n1 := hnm 1
  have n2 := hnm 2
  by_cases hf : eqS (w0 w 0) sFlow = true
  · rw [if_pos hf] at hL
    by_cases hl : w.length = 3
    · cases h1 : namedB (w0 w 1) with
      | true =>
        rw [h1] at n1
        cases h2 : namedB (w0 w 2) with
        | true =>
          rw [h2] at n2
          rw [if_pos ⟨hl, h1, h2⟩] at hL
          subst hL
          refine acall_intro c21_ok (by simp) (by simp [rdO]) ?_ (by simp [Under]) (rdO_take _)
          unfold rdO
          (apply rd_sound; focus (repeat' constructor))
          ((conv=>whnf);repeat(refine⟨rfl,?_⟩;conv=>whnf))
          (refine .inl ⟨_, hS, ?_⟩; ((conv=>whnf);repeat(refine⟨rfl,?_⟩;conv=>whnf)))
          refine ⟨by omega, _, w0_at (i := 0) (by omega), ?_⟩
          ((conv=>whnf);repeat(refine⟨rfl,?_⟩;conv=>whnf))
          rw [show ((w0 w 0).toList == (⟨#[102, 108, 111, 119]⟩ : ByteArray).toList) = true from hf]
          ((conv=>whnf);repeat(refine⟨rfl,?_⟩;conv=>whnf))
          rw [List.length_map]
          rw [show ((w.length : Int) != 3) = false by rw [hl]; rfl]
          ((conv=>whnf);repeat(refine⟨rfl,?_⟩;conv=>whnf))
          refine ⟨by omega, _, w0_at (i := 1) (by omega), ?_⟩
          ((conv=>whnf);repeat(refine⟨rfl,?_⟩;conv=>whnf))
          (refine .inl ⟨_, n1, ?_⟩; ((conv=>whnf);repeat(refine⟨rfl,?_⟩;conv=>whnf)))
          refine ⟨by omega, _, w0_at (i := 2) (by omega), ?_⟩
          ((conv=>whnf);repeat(refine⟨rfl,?_⟩;conv=>whnf))
          (refine .inl ⟨_, n2, ?_⟩; ((conv=>whnf);repeat(refine⟨rfl,?_⟩;conv=>whnf)))
          refine ⟨by omega, _, w0_at (i := 1) (by omega), ?_⟩
          ((conv=>whnf);repeat(refine⟨rfl,?_⟩;conv=>whnf))
          refine ⟨by omega, _, w0_at (i := 2) (by omega), ?_⟩
          ((conv=>whnf);repeat(refine⟨rfl,?_⟩;conv=>whnf))
          refine ⟨(by unfold sliceAppend; simp only [ll]; omega), ?_⟩
          ((conv=>whnf);repeat(refine⟨rfl,?_⟩;conv=>whnf))
          exact ⟨by simp [flrow, List.take_of_length_le (l := List.map flrow st.flows) (i := st.flows.length) (by simp)], by simp⟩
        | false =>
          rw [h2] at n2
          rw [if_neg (by simp [h2])] at hL
          subst hL
          refine acall_intro c21_ok (by simp) (by simp [rdO]) ?_ (by simp [Under]) (rdO_take _)
          unfold rdO
          (apply rd_sound; focus (repeat' constructor))
          ((conv=>whnf);repeat(refine⟨rfl,?_⟩;conv=>whnf))
          (refine .inl ⟨_, hS, ?_⟩; ((conv=>whnf);repeat(refine⟨rfl,?_⟩;conv=>whnf)))
          refine ⟨by omega, _, w0_at (i := 0) (by omega), ?_⟩
          ((conv=>whnf);repeat(refine⟨rfl,?_⟩;conv=>whnf))
          rw [show ((w0 w 0).toList == (⟨#[102, 108, 111, 119]⟩ : ByteArray).toList) = true from hf]
          ((conv=>whnf);repeat(refine⟨rfl,?_⟩;conv=>whnf))
          rw [List.length_map]
          rw [show ((w.length : Int) != 3) = false by rw [hl]; rfl]
          ((conv=>whnf);repeat(refine⟨rfl,?_⟩;conv=>whnf))
          refine ⟨by omega, _, w0_at (i := 1) (by omega), ?_⟩
          ((conv=>whnf);repeat(refine⟨rfl,?_⟩;conv=>whnf))
          (refine .inl ⟨_, n1, ?_⟩; ((conv=>whnf);repeat(refine⟨rfl,?_⟩;conv=>whnf)))
          refine ⟨by omega, _, w0_at (i := 2) (by omega), ?_⟩
          ((conv=>whnf);repeat(refine⟨rfl,?_⟩;conv=>whnf))
          (refine .inl ⟨_, n2, ?_⟩; ((conv=>whnf);repeat(refine⟨rfl,?_⟩;conv=>whnf)))
          exact Nat.le_refl _
      | false =>
        rw [h1] at n1
        rw [if_neg (by simp [h1])] at hL
        subst hL
        refine acall_intro c21_ok (by simp) (by simp [rdO]) ?_ (by simp [Under]) (rdO_take _)
        unfold rdO
        (apply rd_sound; focus (repeat' constructor))
        ((conv=>whnf);repeat(refine⟨rfl,?_⟩;conv=>whnf))
        (refine .inl ⟨_, hS, ?_⟩; ((conv=>whnf);repeat(refine⟨rfl,?_⟩;conv=>whnf)))
        refine ⟨by omega, _, w0_at (i := 0) (by omega), ?_⟩
        ((conv=>whnf);repeat(refine⟨rfl,?_⟩;conv=>whnf))
        rw [show ((w0 w 0).toList == (⟨#[102, 108, 111, 119]⟩ : ByteArray).toList) = true from hf]
        ((conv=>whnf);repeat(refine⟨rfl,?_⟩;conv=>whnf))
        rw [List.length_map]
        rw [show ((w.length : Int) != 3) = false by rw [hl]; rfl]
        ((conv=>whnf);repeat(refine⟨rfl,?_⟩;conv=>whnf))
        refine ⟨by omega, _, w0_at (i := 1) (by omega), ?_⟩
        ((conv=>whnf);repeat(refine⟨rfl,?_⟩;conv=>whnf))
        (refine .inl ⟨_, n1, ?_⟩; ((conv=>whnf);repeat(refine⟨rfl,?_⟩;conv=>whnf)))
        exact Nat.le_refl _
    · rw [if_neg (fun q => hl q.1)] at hL
      subst hL
      refine acall_intro c21_ok (by simp) (by simp [rdO]) ?_ (by simp [Under]) (rdO_take _)
      unfold rdO
      (apply rd_sound; focus (repeat' constructor))
      ((conv=>whnf);repeat(refine⟨rfl,?_⟩;conv=>whnf))
      (refine .inl ⟨_, hS, ?_⟩; ((conv=>whnf);repeat(refine⟨rfl,?_⟩;conv=>whnf)))
      refine ⟨by omega, _, w0_at (i := 0) (by omega), ?_⟩
      ((conv=>whnf);repeat(refine⟨rfl,?_⟩;conv=>whnf))
      rw [show ((w0 w 0).toList == (⟨#[102, 108, 111, 119]⟩ : ByteArray).toList) = true from hf]
      ((conv=>whnf);repeat(refine⟨rfl,?_⟩;conv=>whnf))
      rw [List.length_map]
      rw [show ((w.length : Int) != 3) = true by simpa using (by omega : (w.length : Int) ≠ 3)]
      ((conv=>whnf);repeat(refine⟨rfl,?_⟩;conv=>whnf))
      exact Nat.le_refl _
  · rw [if_neg hf] at hL
    have hf : eqS (w0 w 0) sFlow = false := by simpa using hf
    refine acall_intro c21_ok (by simp) (by simp [rdO]) ?_ (by simp [Under]) (rdO_take _)
    unfold rdO
    (apply rd_sound; focus (repeat' constructor))
    ((conv=>whnf);repeat(refine⟨rfl,?_⟩;conv=>whnf))
    (refine .inl ⟨_, hS, ?_⟩; ((conv=>whnf);repeat(refine⟨rfl,?_⟩;conv=>whnf)))
    refine ⟨by omega, _, w0_at (i := 0) (by omega), ?_⟩
    ((conv=>whnf);repeat(refine⟨rfl,?_⟩;conv=>whnf))
    rw [show ((w0 w 0).toList == (⟨#[102, 108, 111, 119]⟩ : ByteArray).toList) = false from hf]
    ((conv=>whnf);repeat(refine⟨rfl,?_⟩;conv=>whnf))
    refine pwp_for [0, 7] (fun k : Nat => [(8, .sc (.int .i64 k))]) (fun _ => []) (fun k => 1 ≤ k ∧ k ≤ 8 ∧ kindW (w0 w 0) (k - 1) = 0) (fun k => 8 - k) 1 ?_
    ((conv=>whnf);repeat(refine⟨rfl,?_⟩;conv=>whnf))
    refine ⟨⟨Nat.le_refl _, by omega, rfl⟩, by (repeat' (first | exact trivial | refine And.intro rfl ?_)), rfl, ?_⟩
    rintro k ⟨hk1, hk8, hk0⟩
    obtain ⟨j, rfl⟩ : ∃ j, k = j + 1 := ⟨k - 1, by omega⟩
    have hk0 : kindW (w0 w 0) j = 0 := hk0
    have hW := fun h => proc_word (j + 1) h
    ((conv=>whnf);repeat(refine⟨rfl,?_⟩;conv=>whnf))
    (apply rd_sound; focus (repeat' constructor))
    ((conv=>whnf);repeat(refine⟨rfl,?_⟩;conv=>whnf))
    (refine ifK_split (fun h5 => ?_) (fun h5 => ?_) <;> (rw [h5]; ((conv=>whnf);repeat(refine⟨rfl,?_⟩;conv=>whnf))))
    · have h5 : j + 1 ≤ 7 := by ((try simp only[oo,reduceCtorEq]at*)<;>omega)
      refine ⟨by omega, _, w0_at (i := 0) (by omega), ?_⟩
      ((conv=>whnf);repeat(refine⟨rfl,?_⟩;conv=>whnf))
      (refine .inl ⟨_, (hW (by omega)), ?_⟩; ((conv=>whnf);repeat(refine⟨rfl,?_⟩;conv=>whnf)))
      cases he : eqS (w0 w 0) (wordK (j + 1)) with
      | false =>
        rw [show ((w0 w 0).toList == (wordK (j + 1)).toList) = false from he]
        ((conv=>whnf);repeat(refine⟨rfl,?_⟩;conv=>whnf))
        (refine .inl ⟨by (unfold InR; rw [IntKind.wrap_i64]; omega), ?_⟩; ((conv=>whnf);repeat(refine⟨rfl,?_⟩;conv=>whnf)))
        exact ⟨j + 2, ⟨by omega, by omega, kindW_miss hk0 he⟩, by dsimp only; omega, leB_envH (by (repeat' (first | exact trivial | refine And.intro rfl ?_))) rfl⟩
      | true =>
        rw [show ((w0 w 0).toList == (wordK (j + 1)).toList) = true from he]
        have hkd := kindW_hit hk0 he (by omega)
        rw [hkd, if_pos (by omega)] at hL
        ((conv=>whnf);repeat(refine⟨rfl,?_⟩;conv=>whnf))
        rw [List.length_map]
        by_cases hl : w.length = 2
        · rw [show ((w.length : Int) != 2) = false by rw [hl]; rfl]
          ((conv=>whnf);repeat(refine⟨rfl,?_⟩;conv=>whnf))
          refine ⟨by omega, _, w0_at (i := 1) (by omega), ?_⟩
          ((conv=>whnf);repeat(refine⟨rfl,?_⟩;conv=>whnf))
          cases h1 : namedB (w0 w 1) with
          | true =>
            rw [h1] at n1
            (refine .inl ⟨_, n1, ?_⟩; ((conv=>whnf);repeat(refine⟨rfl,?_⟩;conv=>whnf)))
            by_cases hfl : st.flows = []
            · rw [if_pos ⟨hl, h1, hfl⟩] at hL
              subst hL
              refine ifK_f (by rw [hfl]; rfl) ?_
              ((conv=>whnf);repeat(refine⟨rfl,?_⟩;conv=>whnf))
              refine ⟨by omega, _, w0_at (i := 1) (by omega), ?_⟩
              ((conv=>whnf);repeat(refine⟨rfl,?_⟩;conv=>whnf))
              refine ⟨(by unfold sliceAppend; simp only [ll]; omega), ?_⟩
              ((conv=>whnf);repeat(refine⟨rfl,?_⟩;conv=>whnf))
              exact ⟨by simp [nrow, List.take_of_length_le (l := List.map nrow st.nodes) (i := st.nodes.length) (by simp)], by simp⟩
            · rw [if_neg (fun q => hfl q.2.2)] at hL
              subst hL
              have : 0 < st.flows.length := List.length_pos_iff.2 hfl
              refine ifK_t (by simp; omega) ?_
              ((conv=>whnf);repeat(refine⟨rfl,?_⟩;conv=>whnf))
              exact Nat.le_refl _
          | false =>
            rw [h1] at n1
            rw [if_neg (by simp [h1])] at hL
            subst hL
            (refine .inl ⟨_, n1, ?_⟩; ((conv=>whnf);repeat(refine⟨rfl,?_⟩;conv=>whnf)))
            exact Nat.le_refl _
        · rw [if_neg (fun q => hl q.1)] at hL
          subst hL
          rw [show ((w.length : Int) != 2) = true by simpa using (by omega : (w.length : Int) ≠ 2)]
          ((conv=>whnf);repeat(refine⟨rfl,?_⟩;conv=>whnf))
          exact Nat.le_refl _
    · have h5 : j = 7 := by ((try simp only[oo,reduceCtorEq]at*)<;>omega)
      subst h5
      rw [hk0, if_neg (by simp)] at hL
      subst hL
      exact ⟨rfl, rfl, Nat.le_refl _⟩
end Go.Proofs.YtgkodbnomgabdaaDoor
