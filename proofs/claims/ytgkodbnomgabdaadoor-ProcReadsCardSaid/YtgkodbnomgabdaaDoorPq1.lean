/-
  The library's Index, Cut, Count and Split of a text at one byte, over deep values. No statement is proved here.
-/
import Derived.Test.YtgkodbnomgabdaaDoorPq0
import Derived.Test.YtgkodbnomgabdaaDoorTx
import Derived.Test.YtgkodbnomgabdaaDoorDl
import Derived.Test.YtgkodbnomgabdaaDoorDC
import Derived.Lib.Bytealg
import Derived.WalkKit
import Derived.RowKitTokens
namespace Go.Proofs.YtgkodbnomgabdaaDoor
open Go.RowKit
set_option linter.unusedSimpArgs false
set_option linter.unusedVariables false
/-- A text from a place on. -/
def sfx (s : ByteArray) (p : Nat) : ByteArray := s.extract p s.size
theorem sfx_size {s : ByteArray} {p : Nat} (h : p ≤ s.size) : (sfx s p).size = s.size - p := by unfold sfx; rw [ByteArray.size_extract]; omega
theorem sfx_zero (s : ByteArray) : sfx s 0 = s := by unfold sfx; exact ByteArray.extract_zero_size
theorem sfx_list (s : ByteArray) (p : Nat) : (sfx s p).data.toList = s.data.toList.drop p := by
  unfold sfx
  rw [ByteArray.data_extract, Array.toList_extract]
  simp [List.extract, List.take_of_length_le]
theorem sfx_front {s : ByteArray} {p m : Nat} (h : p + m ≤ s.size) : (sfx s p).extract 0 m = s.extract p (p + m) := by
  unfold sfx
  rw [ByteArray.extract_extract]
  congr 1 <;> omega
theorem sfx_rest {s : ByteArray} {p m : Nat} (h : p + m ≤ s.size) : (sfx s p).extract m (s.size - p) = sfx s (p + m) := by
  unfold sfx
  rw [ByteArray.extract_extract]
  congr 1
  omega
theorem drop_at {s : ByteArray} {p : Nat} (h : p < s.size) : ∃ b, s[p]? = some b ∧ s.data.toList.drop p = b :: s.data.toList.drop (p + 1) := by
  have hl : p < s.data.toList.length := by simpa using h
  exact ⟨s[p], by simp [getElem?_pos, h], by rw [List.drop_eq_getElem_cons hl]; rfl⟩
theorem byte_eq (b c : UInt8) : (b == c) = decide (b.toNat = c.toNat) := by
  by_cases h : b = c
  · subst h; simp
  · have : b.toNat ≠ c.toNat := fun e => h (UInt8.toNat.inj e)
    simp [h, this]
theorem indexByte_at (c : UInt8) (s : ByteArray) : ∀ (n p : Nat), s.size - p = n → p ≤ s.size → Lib.indexByte (s.data.toList.drop p) c = if fndE c.toNat s p < s.size then ((fndE c.toNat s p - p : Nat) : Int) else -1
  | 0, p, h, hp => by
    have : s.data.toList.drop p = [] := List.drop_of_length_le (by simp; omega)
    rw [this, fndE_out (by omega), if_neg (by omega)]
    rfl
  | n + 1, p, h, hp => by
    obtain ⟨b, hb, e⟩ := drop_at (s := s) (p := p) (by omega)
    have hc : chr s p = b.toNat := by simp only [chr, hb]
    rw [e]
    simp only [Lib.indexByte]
    rw [indexByte_at c s n (p + 1) (by omega) (by omega), byte_eq]
    by_cases hq : b.toNat = c.toNat
    · have e1 : fndE c.toNat s p = p := fndE_stop fun _ => by rw [hc, hq]
      rw [e1, if_pos (show p < s.size by omega), if_pos (by simpa using hq)]
      simp
    · have e1 : fndE c.toNat s p = fndE c.toNat s (p + 1) := fndE_step (by omega) (by rw [hc]; exact hq)
      have hg := fndE_ge (c := c.toNat) (s := s) (p + 1)
      rw [e1, if_neg (show ¬ decide (b.toNat = c.toNat) = true by simpa using hq)]
      by_cases h3 : fndE c.toNat s (p + 1) < s.size
      · rw [if_pos h3, if_pos h3, if_neg (by simp)]; omega
      · rw [if_neg h3, if_neg h3]; simp
theorem count_at (s : ByteArray) : ∀ (n p : Nat), s.size - p = n → p ≤ s.size → Lib.countByte (s.data.toList.drop p) 32 + 1 = (pcs s p).length
  | 0, p, h, hp => by
    have : s.data.toList.drop p = [] := List.drop_of_length_le (by simp; omega)
    rw [this, pcs_last (by rw [fndE_out (by omega)]; omega)]
    rfl
  | n + 1, p, h, hp => by
    obtain ⟨b, hb, e⟩ := drop_at (s := s) (p := p) (by omega)
    have hc : chr s p = b.toNat := by simp only [chr, hb]
    have ih := count_at s n (p + 1) (by omega) (by omega)
    rw [e]
    unfold Lib.countByte at ih ⊢
    rw [List.count_cons, byte_eq]
    by_cases hq : b.toNat = (32 : UInt8).toNat
    · have hq' : chr s p = 32 := by rw [hc, hq]; rfl
      have e1 : fndE 32 s p = p := fndE_stop fun _ => hq'
      rw [pcs_more (by rw [e1]; omega), e1, List.length_cons, ← ih]
      simp [hq]
    · have hq' : chr s p ≠ 32 := by rw [hc]; exact hq
      have e1 := fndE_step (s := s) (p := p) (by omega) hq'
      rw [if_neg (by simpa using hq), Nat.add_zero, ih]
      by_cases h3 : fndE 32 s p < s.size
      · rw [pcs_more h3, pcs_more (p := p + 1) (by rw [← e1]; exact h3), e1]; rfl
      · rw [pcs_last h3, pcs_last (p := p + 1) (by rw [← e1]; exact h3)]; rfl
theorem stringslite_IndexByte (s : ByteArray) (c : Int) : PCall Tryd.prog 50 [.sc (.string s), .sc (.int .u8 c)] (.sc (.int .i64 (Lib.indexByte s.data.toList c.toNat.toUInt8))) where
  ok := ⟨_, Tryd.func50, by kernel_rfl, by kernel_rfl⟩
  run J F w vs hF hR := by
    simp only [repL, rep] at hR
    obtain ⟨v, us, rfl, rfl, v2, us2, rfl, rfl, rfl⟩ := hR
    have h58 := @run_callFunc_extern Tryd.prog 58 _ Extern.BytealgIndexByte.indexByte Tryd.func58 (by kernel_rfl) (by kernel_rfl) (by kernel_rfl) (by kernel_rfl)
    have h59 := @Lib.run_indexByteString Tryd.prog s c
    go_enter Tryd.func50, Tryd.ntmps50
    go_wp2
    go_ret
    exact ⟨_, F, rfl, hF.lt, rfl, Ext.refl _ _ _⟩
theorem strings_Count1 (s : ByteArray) (c : UInt8) : PCall Tryd.prog 55 [.sc (.string s), .sc (.string ⟨#[c]⟩)] (.sc (.int .i64 (Lib.countByte s.data.toList c : Nat))) where
  ok := ⟨_, Tryd.func55, by kernel_rfl, by kernel_rfl⟩
  run J F w vs hF hR := by
    simp only [repL, rep] at hR
    obtain ⟨v, us, rfl, rfl, v2, us2, rfl, rfl, rfl⟩ := hR
    have h58 := @run_callFunc_extern Tryd.prog 62 _ Extern.BytealgCount.count Tryd.func62 (by kernel_rfl) (by kernel_rfl) (by kernel_rfl) (by kernel_rfl)
    have h59 := @Lib.run_countString Tryd.prog s
    have e1 : (⟨#[c]⟩ : ByteArray).size = 1 := rfl
    have e2 : (⟨#[c]⟩ : ByteArray)[0]? = some c := rfl
    go_enter Tryd.func55, Tryd.ntmps55
    go_wp2
    go_ret
    refine ⟨_, F, rfl, hF.lt, ?_, Ext.refl _ _ _⟩
    simp only [rep]
    rfl
def one1 (c : UInt8) : ByteArray := ⟨#[c]⟩
/-- Where a byte stands in what is left of a text. -/
def idxS (c : UInt8) (s : ByteArray) (p : Nat) : Int := if fndE c.toNat s p < s.size then ((fndE c.toNat s p - p : Nat) : Int) else -1
theorem stringslite_Index0 (s : ByteArray) (c : UInt8) : PCall Tryd.prog 45 [.sc (.string s), .sc (.string ⟨#[c]⟩)] (.sc (.int .i64 (Lib.indexByte s.data.toList c))) where
  ok := ⟨_, Tryd.func45, by kernel_rfl, by kernel_rfl⟩
  run J F w vs hF hR := by
    simp only [repL, rep] at hR
    obtain ⟨v, us, rfl, rfl, v2, us2, rfl, rfl, rfl⟩ := hR
    have h58 := @run_callFunc_extern Tryd.prog 58 _ Extern.BytealgIndexByte.indexByte Tryd.func58 (by kernel_rfl) (by kernel_rfl) (by kernel_rfl) (by kernel_rfl)
    have h59 := @Lib.run_indexByteString Tryd.prog s
    have e1 : (⟨#[c]⟩ : ByteArray).size = 1 := rfl
    have e2 : (⟨#[c]⟩ : ByteArray)[0]? = some c := rfl
    go_enter Tryd.func45, Tryd.ntmps45
    go_wp2
    · rename_i h
      have h : s.data.toList = [c] := by
        rw [ByteArray.toList_eq] at h
        exact (by simpa using h : [c] = s.data.toList).symm
      go_ret
      refine ⟨_, F, rfl, hF.lt, ?_, Ext.refl _ _ _⟩
      simp only [rep]
      show Value.int IntKind.i64 0 = _
      rw [h]
      simp [Lib.indexByte]
    · go_ret
      refine ⟨_, F, rfl, hF.lt, ?_, Ext.refl _ _ _⟩
      simp only [rep]
      rfl
theorem stringslite_Index (c : UInt8) (s : ByteArray) (p : Nat) (hp : p ≤ s.size) : PCall Tryd.prog 45 [.sc (.string (sfx s p)), .sc (.string (one1 c))] (.sc (.int .i64 (idxS c s p))) := by
  have hI := stringslite_Index0 (sfx s p) c
  rwa [sfx_list, indexByte_at _ s _ p rfl hp] at hI
def c34 : PC := .seq (.ops [q 4 (.move (.const (.string ⟨#[]⟩))),q 5 (.move (.const (.string ⟨#[]⟩))),q 6 (.move (.const (.bool false)))] false) (.seq (.seq (.ops [qm 8 0,qm 9 1,q 10 (.call 45 [(.tmp 8), (.tmp 9)]),qm 7 10] false) (.seq (.ops [qm 11 7,q 12 (.bin .geq (.tmp 11) (.const (.int .i64 0)))] false) (.cond (.tmp 12) (.seq (.ops [qm 13 0,qm 14 7,qd 15 (.sslc (.tmp 13) none (some (.tmp 14))) 3,qm 16 0,qm 17 7,qm 18 1,qd 19 (.slen (.tmp 18)) 32,qd 20 (.bin .add (.tmp 17) (.tmp 19)) 112,qd 21 (.sslc (.tmp 16) (some (.tmp 20)) none) 248,qw 4 15 7,qw 5 21 1023,qd 6 (.move (.const (.bool true))) 2047] true) (.ret)) (.skip)))) (.seq (.ops [qm 22 0,qm 4 22,q 5 (.move (.const (.string ⟨#[]⟩))),q 6 (.move (.const (.bool false)))] false) (.ret)))
set_option maxRecDepth 100000 in
theorem c34_ok : FunOK Tryd.prog 34 23 [.tmp 4, .tmp 5, .tmp 6] c34 := ⟨⟨Tryd.f34, Tryd.func34, rfl, by kernel_rfl, rfl, by kernel_rfl⟩⟩
theorem stringslite_Cut (c : UInt8) (s : ByteArray) (hs : s.size ≤ 1000000000) (p : Nat) (hp : p ≤ s.size) : PCall Tryd.prog 34 [.sc (.string (sfx s p)), .sc (.string (one1 c))]
    (if fndE c.toNat s p < s.size then .tup [.sc (.string (s.extract p (fndE c.toNat s p))), .sc (.string (sfx s (fndE c.toNat s p + 1))), .sc (.bool true)] else .tup [.sc (.string (sfx s p)), .sc (.string ⟨#[]⟩), .sc (.bool false)]) := by
  refine pcall_intro c34_ok (by simp) (by simp [PureL, Pure]) ?_ (by split <;> simp [PureL, Pure])
  have hI := stringslite_Index c s p hp
  have hg := fndE_ge (c := c.toNat) (s := s) p
  have hz := sfx_size hp
  (apply rd_sound; focus (repeat' constructor))
  ((conv=>whnf);repeat(refine⟨rfl,?_⟩;conv=>whnf))
  (refine .inl ⟨_, hI, ?_⟩; ((conv=>whnf);repeat(refine⟨rfl,?_⟩;conv=>whnf)))
  by_cases h : fndE c.toNat s p < s.size
  · rw [if_pos h]
    rw [show idxS c s p = ((fndE c.toNat s p - p : Nat) : Int) from if_pos h]
    ((conv=>whnf);repeat(refine⟨rfl,?_⟩;conv=>whnf))
    refine ⟨by omega, by omega, by omega, ?_⟩
    ((conv=>whnf);repeat(refine⟨rfl,?_⟩;conv=>whnf))
    have hcs : (one1 c).size = 1 := rfl
    refine .inl ⟨by (unfold InR; rw [IntKind.wrap_i64]; omega), ?_⟩
    ((conv=>whnf);repeat(refine⟨rfl,?_⟩;conv=>whnf))
    refine ⟨by omega, by omega, by omega, ?_⟩
    ((conv=>whnf);repeat(refine⟨rfl,?_⟩;conv=>whnf))
    refine deep_eq ?_
    have e1 := sfx_front (s := s) (p := p) (m := fndE c.toNat s p - p) (by omega)
    have e2 := sfx_rest (s := s) (p := p) (m := fndE c.toNat s p - p + 1) (by omega)
    rw [show p + (fndE c.toNat s p - p) = fndE c.toNat s p by omega] at e1
    rw [show p + (fndE c.toNat s p - p + 1) = fndE c.toNat s p + 1 by omega] at e2
    rw [hz, hcs, Int.toNat_natCast, show (((fndE c.toNat s p - p : Nat) : Int) + (1 : Nat)).toNat = fndE c.toNat s p - p + 1 by omega, e1, e2]
  · rw [if_neg h]
    rw [show idxS c s p = -1 from if_neg h]
    ((conv=>whnf);repeat(refine⟨rfl,?_⟩;conv=>whnf))
    (repeat' (first | exact Deep.refl _ | exact Deep.none _ | exact deep_row _ | exact DeepL.nil | exact DeepLL.nil | refine Deep.agg _ _ ?_ | refine Deep.tup _ _ ?_ | refine Deep.own _ _ _ _ _ _ _ _ rfl ?_ | refine Deep.loc _ _ _ _ _ rfl ?_ | refine Deep.ifc _ _ _ ?_ | refine Deep.fn _ _ _ _ _ ?_ ?_ | refine DeepL.cons _ _ _ _ ?_ ?_ | refine DeepLL.cons _ _ _ _ ?_ ?_ | exact deepLL_refl _))
def c20 : PC := .seq (.ops [q 4 (.move (.const (.string ⟨#[]⟩))),q 5 (.move (.const (.string ⟨#[]⟩))),q 6 (.move (.const (.bool false)))] false) (.seq (.ops [qm 7 0,qm 8 1,q 9 (.call 34 [(.tmp 7), (.tmp 8)]),q 10 (.ext 0 (.tmp 9)),q 11 (.ext 1 (.tmp 9)),q 12 (.ext 2 (.tmp 9)),qm 4 10,qm 5 11,qm 6 12] false) (.ret))
set_option maxRecDepth 100000 in
theorem c20_ok : FunOK Tryd.prog 20 13 [.tmp 4, .tmp 5, .tmp 6] c20 := ⟨⟨Tryd.f20, Tryd.func20, rfl, by kernel_rfl, rfl, by kernel_rfl⟩⟩
theorem strings_Cut (c : UInt8) (s : ByteArray) (hs : s.size ≤ 1000000000) (p : Nat) (hp : p ≤ s.size) : PCall Tryd.prog 20 [.sc (.string (sfx s p)), .sc (.string (one1 c))]
    (if fndE c.toNat s p < s.size then .tup [.sc (.string (s.extract p (fndE c.toNat s p))), .sc (.string (sfx s (fndE c.toNat s p + 1))), .sc (.bool true)] else .tup [.sc (.string (sfx s p)), .sc (.string ⟨#[]⟩), .sc (.bool false)]) := by
  have hC := stringslite_Cut c s hs p hp
  by_cases h : fndE c.toNat s p < s.size
  · rw [if_pos h] at hC ⊢
    refine pcall_intro c20_ok (by simp) (by simp [PureL, Pure]) ?_ (by simp [PureL, Pure])
    (apply rd_sound; focus (repeat' constructor))
    ((conv=>whnf);repeat(refine⟨rfl,?_⟩;conv=>whnf))
    (refine .inl ⟨_, hC, ?_⟩; ((conv=>whnf);repeat(refine⟨rfl,?_⟩;conv=>whnf)))
    exact .refl _
  · rw [if_neg h] at hC ⊢
    refine pcall_intro c20_ok (by simp) (by simp [PureL, Pure]) ?_ (by simp [PureL, Pure])
    (apply rd_sound; focus (repeat' constructor))
    ((conv=>whnf);repeat(refine⟨rfl,?_⟩;conv=>whnf))
    (refine .inl ⟨_, hC, ?_⟩; ((conv=>whnf);repeat(refine⟨rfl,?_⟩;conv=>whnf)))
    exact .refl _
def c56 : PC := .seq (.ops [q 4 (.move (.const (.int .i64 0)))] false) (.seq (.ops [qm 5 0,qm 6 1,q 7 (.call 45 [(.tmp 5), (.tmp 6)]),qm 4 7] false) (.ret))
set_option maxRecDepth 100000 in
theorem c56_ok : FunOK Tryd.prog 56 8 [.tmp 4] c56 := ⟨⟨Tryd.f56, Tryd.func56, rfl, by kernel_rfl, rfl, by kernel_rfl⟩⟩
theorem strings_Index (c : UInt8) (s : ByteArray) (p : Nat) (hp : p ≤ s.size) : PCall Tryd.prog 56 [.sc (.string (sfx s p)), .sc (.string (one1 c))] (.sc (.int .i64 (idxS c s p))) := by
  refine pcall_intro c56_ok (by simp) (by simp [PureL, Pure]) ?_ (by simp [Pure])
  (apply rd_sound; focus (repeat' constructor))
  ((conv=>whnf);repeat(refine⟨rfl,?_⟩;conv=>whnf))
  (refine .inl ⟨_, (stringslite_Index c s p hp), ?_⟩; ((conv=>whnf);repeat(refine⟨rfl,?_⟩;conv=>whnf)))
  exact .refl _
def srow (x : ByteArray) : List D := [.sc (.string x)]
theorem pure_srow (x : ByteArray) : PureL (srow x) := by simp [srow, PureL, Pure]
theorem dstrs_rows (l : List ByteArray) : dstrs l = .lst 1 (l.map srow) := rfl
theorem fill_set {L : List ByteArray} {i N : Nat} {x : ByteArray} {r : List ByteArray} (hN : L.length = N) (hd : L.drop i = x :: r) :
    (((L.take i).map srow ++ List.replicate (N - i) (srow ⟨#[]⟩)).set i (srow x)) = (L.take (i + 1)).map srow ++ List.replicate (N - (i + 1)) (srow ⟨#[]⟩) ∧ L.drop (i + 1) = r ∧ i < N := by
  have hi : i < L.length := by
    rcases Nat.lt_or_ge i L.length with h | h
    · exact h
    · rw [List.drop_of_length_le h] at hd; cases hd
  rw [List.drop_eq_getElem_cons hi] at hd
  obtain ⟨h1, h2⟩ := List.cons.inj hd
  refine ⟨?_, h2, by omega⟩
  rw [List.set_append_right _ _ (by simp; omega), show N - i = (N - (i + 1)) + 1 by omega, List.replicate_succ]
  rw [List.take_succ_eq_append_getElem hi, List.map_append, h1]
  simp [show i - min i L.length = 0 by omega]
def c46_1 : PC := .seq (.seq (.ops [qm 34 10,qm 35 3,q 36 (.bin .lss (.tmp 34) (.tmp 35))] false) (.cond (.tmp 36) (.skip) (.exit 0))) (.block 1 (.seq (.ops [qm 37 0,qm 38 1,q 39 (.call 56 [(.tmp 37), (.tmp 38)]),qm 11 39] false) (.seq (.seq (.ops [qm 40 11,q 41 (.bin .lss (.tmp 40) (.const (.int .i64 0)))] false) (.cond (.tmp 41) (.exit 0) (.skip))) (.seq (.ops [qm 42 9,qm 43 10,qm 44 0,qm 45 11,qm 46 2,q 47 (.bin .add (.tmp 45) (.tmp 46)),q 48 (.sslc (.tmp 44) none (some (.tmp 47))),q 49 (.iaddr 1 (.tmp 42) (.tmp 43)),qn (.store 1 (.tmp 49) (.tmp 48))] false) (.seq (.ops [qm 50 0,qm 51 11,qm 52 1,q 53 (.slen (.tmp 52)),q 54 (.bin .add (.tmp 51) (.tmp 53)),q 55 (.sslc (.tmp 50) (some (.tmp 54)) none),qm 0 55] false) (.ops [qm 56 10,q 57 (.bin .add (.tmp 56) (.const (.int .i64 1))),qm 10 57] false))))))
def c46 : PC := .seq (.ops [q 8 (.move (.const (.slice none 0 0)))] false) (.seq (.seq (.ops [qm 12 3,q 13 (.bin .eql (.tmp 12) (.const (.int .i64 0)))] false) (.cond (.tmp 13) (.seq (.ops [q 8 (.move (.const (.slice none 0 0)))] false) (.ret)) (.skip))) (.seq (.seq (.ops [qm 14 1,q 15 (.bin .eql (.tmp 14) (.const (.string ⟨#[]⟩)))] false) (.cond (.tmp 15) (.seq (.ops [qm 16 0,qm 17 3,q 18 (.call 54 [(.tmp 16), (.tmp 17)]),qm 8 18] false) (.ret)) (.skip))) (.seq (.seq (.ops [qm 19 3,q 20 (.bin .lss (.tmp 19) (.const (.int .i64 0)))] false) (.cond (.tmp 20) (.ops [qm 21 0,qm 22 1,q 23 (.call 55 [(.tmp 21), (.tmp 22)]),q 24 (.bin .add (.tmp 23) (.const (.int .i64 1))),qm 3 24] false) (.skip))) (.seq (.ops [qm 25 3,qm 26 0,q 27 (.slen (.tmp 26)),q 28 (.bin .add (.tmp 27) (.const (.int .i64 1))),q 29 (.mx false (.tmp 25) (.tmp 28)),qm 3 29] false) (.seq (.ops [qm 30 3,q 31 (.mslice 1 16 [(.string ⟨#[]⟩)] (.tmp 30) (.tmp 30)),qm 9 31] false) (.seq (.ops [qm 32 3,q 33 (.bin .sub (.tmp 32) (.const (.int .i64 1))),qm 3 33] false) (.seq (.ops [q 10 (.move (.const (.int .i64 0)))] false) (.seq (.block 0 (.loop c46_1)) (.seq (.ops [qm 58 9,qm 59 10,qm 60 0,q 61 (.iaddr 1 (.tmp 58) (.tmp 59)),qn (.store 1 (.tmp 61) (.tmp 60))] false) (.seq (.ops [qm 62 9,qm 63 10,q 64 (.bin .add (.tmp 63) (.const (.int .i64 1))),q 65 (.slc 1 (.tmp 62) none (some (.tmp 64)) none),qm 8 65] false) (.ret)))))))))))
set_option maxRecDepth 100000 in
theorem c46_ok : FunOK Tryd.prog 46 66 [.tmp 8] c46 := ⟨⟨Tryd.f46, Tryd.func46, rfl, by kernel_rfl, rfl, by kernel_rfl⟩⟩
theorem strings_genSplit (s : ByteArray) (hs : s.size ≤ 1000000000) : PCall Tryd.prog 46 [.sc (.string s), .sc (.string (one1 32)), .sc (.int .i64 0), .sc (.int .i64 (-1))] (dstrs (pcs s 0)) := by
  refine pcall_intro c46_ok (by simp) (by simp [PureL, Pure]) ?_ (pure_dstrs _)
  have hC := strings_Count1 s 32
  have hn := count_at s _ 0 rfl (Nat.zero_le _)
  rw [List.drop_zero] at hn
  have hl := pcs_len s _ 0 rfl (Nat.zero_le _)
  have hpos := pcs_pos s 0
  generalize hN : (pcs s 0).length = N at hn hl hpos
  have hk : Lib.countByte s.data.toList 32 = N - 1 := by omega
  rw [hk] at hC
  have hne : ((one1 32).toList == (⟨#[]⟩ : ByteArray).toList) = false := by rw [ByteArray.toList_eq, ByteArray.toList_eq]; rfl
  (apply rd_sound; focus (repeat' constructor))
  ((conv=>whnf);repeat(refine⟨rfl,?_⟩;conv=>whnf))
  rw [hne]
  ((conv=>whnf);repeat(refine⟨rfl,?_⟩;conv=>whnf))
  (refine .inl ⟨_, hC, ?_⟩; ((conv=>whnf);repeat(refine⟨rfl,?_⟩;conv=>whnf)))
  (refine .inl ⟨by (unfold InR; rw [IntKind.wrap_i64]; omega), ?_⟩; ((conv=>whnf);repeat(refine⟨rfl,?_⟩;conv=>whnf)))
  (refine .inl ⟨by (unfold InR; rw [IntKind.wrap_i64]; omega), ?_⟩; ((conv=>whnf);repeat(refine⟨rfl,?_⟩;conv=>whnf)))
  rw [show (((N - 1 : Nat) : Int) + 1) = (N : Int) by omega, show min (N : Int) ((s.size : Int) + 1) = (N : Int) by omega]
  refine ⟨by omega, by omega, by omega, ?_⟩
  ((conv=>whnf);repeat(refine⟨rfl,?_⟩;conv=>whnf))
  (refine .inl ⟨by (unfold InR; rw [IntKind.wrap_i64]; omega), ?_⟩; ((conv=>whnf);repeat(refine⟨rfl,?_⟩;conv=>whnf)))
  rw [show ((N : Int) - 1) = ((N - 1 : Nat) : Int) by omega, Int.toNat_natCast]
  refine pwp_for [1, 2, 3, 9] (fun ((i, p) : Nat × Nat) => [(0, .sc (.string (sfx s p))), (10, .sc (.int .i64 i))]) (fun (i, p) => [(0, .vec true 0 1 (((pcs s 0).take i).map srow ++ List.replicate (N - i) (srow ⟨#[]⟩)))])
    (fun (i, p) => i < N ∧ p ≤ s.size ∧ pcs s p = (pcs s 0).drop i) (fun (i, p) => N - i) (0, 0) ?_
  ((conv=>whnf);repeat(refine⟨rfl,?_⟩;conv=>whnf))
  refine ⟨⟨hpos, Nat.zero_le _, rfl⟩, by dsimp only; rw [sfx_zero]; (repeat' (first | exact trivial | refine And.intro rfl ?_)), rfl, ?_⟩
  rintro ⟨i, p⟩ ⟨hi, hp, hd⟩
  have hI := strings_Index 32 s p hp
  have hz := sfx_size hp
  have hlen : (pcs s p).length = N - i := by rw [hd, List.length_drop, hN]
  ((conv=>whnf);repeat(refine⟨rfl,?_⟩;conv=>whnf))
  (apply rd_sound; focus (repeat' constructor))
  ((conv=>whnf);repeat(refine⟨rfl,?_⟩;conv=>whnf))
  (refine ifK_split (fun h1 => ?_) (fun h1 => ?_) <;> (rw [h1]; ((conv=>whnf);repeat(refine⟨rfl,?_⟩;conv=>whnf))))
  · have h1 : i < N - 1 := by ((try simp only[oo,reduceCtorEq]at*)<;>omega)
    have hm : fndE 32 s p < s.size := by
      rcases Nat.lt_or_ge (fndE 32 s p) s.size with h | h
      · exact h
      · rw [pcs_last (by omega)] at hlen; simp at hlen; omega
    have hg := fndE_ge (c := 32) (s := s) p
    have e0 : idxS 32 s p = ((fndE 32 s p - p : Nat) : Int) := if_pos hm
    rw [e0] at hI
    have e1 := sfx_front (s := s) (p := p) (m := fndE 32 s p - p) (by omega)
    have e2 := sfx_rest (s := s) (p := p) (m := fndE 32 s p - p + 1) (by omega)
    rw [show p + (fndE 32 s p - p) = fndE 32 s p by omega] at e1
    rw [show p + (fndE 32 s p - p + 1) = fndE 32 s p + 1 by omega] at e2
    have hcs : (one1 32).size = 1 := rfl
    have hll : (((pcs s 0).take i).map srow ++ List.replicate (N - i) (srow ⟨#[]⟩)).length = N := by simp [hN]; omega
    have hri : (((pcs s 0).take i).map srow ++ List.replicate (N - i) (srow ⟨#[]⟩))[i]? = some (srow ⟨#[]⟩) := by
      rw [List.getElem?_append_right (by simp; omega), List.length_map, List.length_take, hN, show min i N = i by omega, Nat.sub_self, show N - i = (N - i - 1) + 1 by omega, List.replicate_succ]
      rfl
    (refine .inl ⟨_, hI, ?_⟩; ((conv=>whnf);repeat(refine⟨rfl,?_⟩;conv=>whnf)))
    (refine .inl ⟨by (unfold InR; rw [IntKind.wrap_i64]; omega), ?_⟩; ((conv=>whnf);repeat(refine⟨rfl,?_⟩;conv=>whnf)))
    rw [Int.add_zero]
    refine ⟨by omega, by omega, by omega, ?_⟩
    ((conv=>whnf);repeat(refine⟨rfl,?_⟩;conv=>whnf))
    rw [Int.toNat_natCast, e1]
    refine ⟨by omega, by omega, ?_⟩
    ((conv=>whnf);repeat(refine⟨rfl,?_⟩;conv=>whnf))
    refine ⟨_, by rw [show 0 + (i : Int).toNat = i by omega]; exact hri, ?_⟩
    ((conv=>whnf);repeat(refine⟨rfl,?_⟩;conv=>whnf))
    refine .inl ⟨by (unfold InR; rw [IntKind.wrap_i64]; omega), ?_⟩
    ((conv=>whnf);repeat(refine⟨rfl,?_⟩;conv=>whnf))
    refine ⟨by omega, by omega, Nat.le_refl _, ?_⟩
    rw [hz, hcs, show (((fndE 32 s p - p : Nat) : Int) + (1 : Nat)).toNat = fndE 32 s p - p + 1 by omega, e2]
    ((conv=>whnf);repeat(refine⟨rfl,?_⟩;conv=>whnf))
    (refine .inl ⟨by (unfold InR; rw [IntKind.wrap_i64]; omega), ?_⟩; ((conv=>whnf);repeat(refine⟨rfl,?_⟩;conv=>whnf)))
    rw [pcs_more hm] at hd
    obtain ⟨q1, q2, q3⟩ := fill_set hN hd.symm
    refine ⟨(i + 1, fndE 32 s p + 1), ⟨by omega, by omega, q2.symm⟩, by dsimp only; omega, leB_envH (by (repeat' (first | exact trivial | refine And.intro rfl ?_))) ?_⟩
    show [AObj.vec true 0 1 (List.set (((pcs s 0).take i).map srow ++ List.replicate (N - i) (srow ⟨#[]⟩)) (0 + (i : Int).toNat) (srow (s.extract p (fndE 32 s p))))] = [_]
    rw [show 0 + (i : Int).toNat = i by omega, q1]
  · have h1 : i = N - 1 := by ((try simp only[oo,reduceCtorEq]at*)<;>omega)
    have hm : ¬ fndE 32 s p < s.size := fun h => by
      rw [pcs_more h, List.length_cons] at hlen
      have := pcs_pos s (fndE 32 s p + 1)
      omega
    have hg := fndE_le (c := 32) (s := s) _ p rfl hp
    have e1 : s.extract p (fndE 32 s p) = sfx s p := by unfold sfx; congr 1; omega
    rw [pcs_last hm, e1] at hd
    have hri : (((pcs s 0).take i).map srow ++ List.replicate (N - i) (srow ⟨#[]⟩))[i]? = some (srow ⟨#[]⟩) := by
      rw [List.getElem?_append_right (by simp; omega), List.length_map, List.length_take, hN, show min i N = i by omega, Nat.sub_self, show N - i = (N - i - 1) + 1 by omega, List.replicate_succ]
      rfl
    obtain ⟨q1, q2, q3⟩ := fill_set hN hd.symm
    refine ⟨by omega, by omega, ?_⟩
    ((conv=>whnf);repeat(refine⟨rfl,?_⟩;conv=>whnf))
    refine ⟨_, by rw [show 0 + (i : Int).toNat = i by omega]; exact hri, ?_⟩
    ((conv=>whnf);repeat(refine⟨rfl,?_⟩;conv=>whnf))
    (refine .inl ⟨by (unfold InR; rw [IntKind.wrap_i64]; omega), ?_⟩; ((conv=>whnf);repeat(refine⟨rfl,?_⟩;conv=>whnf)))
    refine ⟨by omega, by omega, by omega, ?_⟩
    ((conv=>whnf);repeat(refine⟨rfl,?_⟩;conv=>whnf))
    rw [dstrs_rows]
    refine .own 0 0 _ _ 1 true _ _ rfl ?_
    show DeepLL _ (((List.set (((pcs s 0).take i).map srow ++ List.replicate (N - i) (srow ⟨#[]⟩)) (0 + (i : Int).toNat) (srow (sfx s p))).take (0 + ((i : Int) + 1).toNat)).drop (0 + 0)) _
    rw [show 0 + (i : Int).toNat = i by omega, q1, show 0 + ((i : Int) + 1).toNat = N by omega, show i + 1 = N by omega, Nat.sub_self, List.replicate_zero, List.append_nil, List.take_of_length_le (i := N) (l := pcs s 0) (by omega), List.drop_zero, List.take_of_length_le (i := N) (by simp [hN])]
    exact deepLL_refl _
def c35 : PC := .seq (.ops [q 4 (.move (.const (.slice none 0 0)))] false) (.seq (.ops [qm 5 0,qm 6 1,q 7 (.call 46 [(.tmp 5), (.tmp 6), (.const (.int .i64 0)), (.const (.int .i64 (-1)))]),qm 4 7] false) (.ret))
set_option maxRecDepth 100000 in
theorem c35_ok : FunOK Tryd.prog 35 8 [.tmp 4] c35 := ⟨⟨Tryd.f35, Tryd.func35, rfl, by kernel_rfl, rfl, by kernel_rfl⟩⟩
theorem strings_Split (s : ByteArray) (hs : s.size ≤ 1000000000) : PCall Tryd.prog 35 [.sc (.string s), .sc (.string (one1 32))] (dstrs (pcs s 0)) := by
  refine pcall_intro c35_ok (by simp) (by simp [PureL, Pure]) ?_ (pure_dstrs _)
  (apply rd_sound; focus (repeat' constructor))
  ((conv=>whnf);repeat(refine⟨rfl,?_⟩;conv=>whnf))
  (refine .inl ⟨_, (strings_genSplit s hs), ?_⟩; ((conv=>whnf);repeat(refine⟨rfl,?_⟩;conv=>whnf)))
  exact .refl _
end Go.Proofs.YtgkodbnomgabdaaDoor
