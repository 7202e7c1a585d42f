/-
  Formulas as texts, over deep values. No statement is proved here.
-/
import Derived.Test.YtgkodbnomgabdaaDoorDk2
import Derived.Test.YtgkodbnomgabdaaDoorTxp
import Derived.Test.YtgkodbnomgabdaaDoorProg
namespace Go.Proofs.YtgkodbnomgabdaaDoor
open Go.RowKit
set_option linter.unusedSimpArgs false
def dstr (s : ByteArray) : D := .sc (.string s)
def dstrs (l : List ByteArray) : D := .lst 1 (l.map fun s => [.sc (.string s)])
theorem pure_dstrs (l : List ByteArray) : Pure (dstrs l) := by
  simp only [dstrs, Pure]; exact pureLL_map _ (fun s => by simp [PureL, Pure]) l
/-- Texts that can be counted. -/
def SmallS (l : List ByteArray) : Prop := l.length ≤ 9223372036854775807 ∧ ∀ s ∈ l, s.size ≤ 9223372036854775807
theorem str_at {l : List ByteArray} {k : Nat} (h : k < l.length) : (l.map fun s => [D.sc (.string s)])[k]? = some [.sc (.string (l.getD k ⟨#[]⟩))] := by
  rw [List.getElem?_map, List.getElem?_eq_getElem h, List.getD_eq_getElem?_getD, List.getElem?_eq_getElem h]; rfl
theorem SmallS.at {l : List ByteArray} (h : SmallS l) {k : Nat} (hk : k < l.length) : (l.getD k ⟨#[]⟩).size ≤ 9223372036854775807 := by
  rw [List.getD_eq_getElem?_getD, List.getElem?_eq_getElem hk]
  exact h.2 _ (List.getElem_mem _)
theorem byte_at {s : ByteArray} {k : Nat} (h : k < s.size) : ∃ b, s[k]? = some b := ⟨s[k], by simp [getElem?_pos, h]⟩

def c36_1 : PC := .seq (.ops [q 26 (.bin .lss (.tmp 25) (.tmp 24))] false) (.seq (.cond (.tmp 26) (.skip) (.exit 0)) (.seq (.block 1 (.seq (.ops [qm 27 25,qm 3 27] false) (.seq (.ops [qm 28 0,qm 29 3,q 30 (.sidx (.tmp 28) (.tmp 29)),q 31 (.bin .lss (.tmp 30) (.const (.int .u8 97))),qm 32 31,⟨some 33,.move (.tmp 0),some (32,false),0⟩,⟨some 34,.move (.tmp 3),some (32,false),0⟩,⟨some 35,.sidx (.tmp 33) (.tmp 34),some (32,false),0⟩,⟨some 36,.bin .gtr (.tmp 35) (.const (.int .u8 122)),some (32,false),0⟩,q 37 (.pick (.tmp 32) (.const (.bool true)) (.tmp 36))] false) (.cond (.tmp 37) (.seq (.ops [q 2 (.move (.const (.bool false)))] false) (.ret)) (.skip))))) (.ops [q 38 (.bin .add (.tmp 25) (.const (.int .i64 1))),qm 25 38] false)))
def c36 : PC := .seq (.ops [q 2 (.move (.const (.bool false)))] false) (.seq (.seq (.ops [qm 4 0,q 5 (.bin .eql (.tmp 4) (.const (.string ⟨#[]⟩))),qm 6 5,⟨some 7,.move (.tmp 0),some (6,false),0⟩,⟨some 8,.slen (.tmp 7),some (6,false),0⟩,⟨some 9,.bin .gtr (.tmp 8) (.const (.int .i64 8)),some (6,false),0⟩,q 10 (.pick (.tmp 6) (.const (.bool true)) (.tmp 9)),qm 11 10,⟨some 12,.move (.tmp 0),some (11,false),0⟩,⟨some 13,.bin .eql (.tmp 12) (.const (.string ⟨#[116, 114, 117, 101]⟩)),some (11,false),0⟩,q 14 (.pick (.tmp 11) (.const (.bool true)) (.tmp 13)),qm 15 14,⟨some 16,.move (.tmp 0),some (15,false),0⟩,⟨some 17,.bin .eql (.tmp 16) (.const (.string ⟨#[102, 97, 108, 115, 101]⟩)),some (15,false),0⟩,q 18 (.pick (.tmp 15) (.const (.bool true)) (.tmp 17)),qm 19 18,⟨some 20,.move (.tmp 0),some (19,false),0⟩,⟨some 21,.bin .eql (.tmp 20) (.const (.string ⟨#[115, 105, 108, 101, 110, 116]⟩)),some (19,false),0⟩,q 22 (.pick (.tmp 19) (.const (.bool true)) (.tmp 21))] false) (.cond (.tmp 22) (.seq (.ops [q 2 (.move (.const (.bool false)))] false) (.ret)) (.skip))) (.seq (.seq (.ops [qm 23 0,q 24 (.slen (.tmp 23)),q 25 (.move (.const (.int .i64 0)))] false) (.block 0 (.loop c36_1))) (.seq (.ops [q 2 (.move (.const (.bool true)))] false) (.ret))))
set_option maxRecDepth 100000 in
theorem c36_ok : FunOK Tryd.prog 36 39 [.tmp 2] c36 := ⟨⟨Tryd.f36, Tryd.func36, rfl, by kernel_rfl, rfl, by kernel_rfl⟩⟩
def c10_1 : PC := .seq (.seq (.ops [qm 4 3,qm 5 0,q 6 (.slen (.tmp 5)),q 7 (.bin .lss (.tmp 4) (.tmp 6))] false) (.cond (.tmp 7) (.skip) (.exit 0))) (.seq (.block 1 (.seq (.ops [qm 10 0,qm 11 3,q 12 (.sidx (.tmp 10) (.tmp 11)),q 13 (.bin .lss (.tmp 12) (.const (.int .u8 97))),qm 14 13,⟨some 15,.move (.tmp 0),some (14,false),0⟩,⟨some 16,.move (.tmp 3),some (14,false),0⟩,⟨some 17,.sidx (.tmp 15) (.tmp 16),some (14,false),0⟩,⟨some 18,.bin .gtr (.tmp 17) (.const (.int .u8 122)),some (14,false),0⟩,q 19 (.pick (.tmp 14) (.const (.bool true)) (.tmp 18))] false) (.cond (.tmp 19) (.seq (.ops [q 2 (.move (.const (.bool false)))] false) (.ret)) (.skip)))) (.ops [qm 8 3,q 9 (.bin .add (.tmp 8) (.const (.int .i64 1))),qm 3 9] false))
def c10 : PC := .seq (.ops [q 2 (.move (.const (.bool false)))] false) (.seq (.seq (.ops [q 3 (.move (.const (.int .i64 0)))] false) (.block 0 (.loop c10_1))) (.seq (.ops [qm 20 0,q 21 (.slen (.tmp 20)),q 22 (.bin .geq (.tmp 21) (.const (.int .i64 1))),qm 23 22,⟨some 24,.move (.tmp 0),some (23,true),0⟩,⟨some 25,.slen (.tmp 24),some (23,true),0⟩,⟨some 26,.bin .leq (.tmp 25) (.const (.int .i64 8)),some (23,true),0⟩,q 27 (.pick (.tmp 23) (.tmp 26) (.const (.bool false))),qm 28 27,⟨some 29,.move (.tmp 0),some (28,true),0⟩,⟨some 30,.bin .neq (.tmp 29) (.const (.string ⟨#[116, 114, 117, 101]⟩)),some (28,true),0⟩,q 31 (.pick (.tmp 28) (.tmp 30) (.const (.bool false))),qm 32 31,⟨some 33,.move (.tmp 0),some (32,true),0⟩,⟨some 34,.bin .neq (.tmp 33) (.const (.string ⟨#[102, 97, 108, 115, 101]⟩)),some (32,true),0⟩,q 35 (.pick (.tmp 32) (.tmp 34) (.const (.bool false))),qm 36 35,⟨some 37,.move (.tmp 0),some (36,true),0⟩,⟨some 38,.bin .neq (.tmp 37) (.const (.string ⟨#[115, 105, 108, 101, 110, 116]⟩)),some (36,true),0⟩,q 39 (.pick (.tmp 36) (.tmp 38) (.const (.bool false))),qm 2 39] false) (.ret)))
set_option maxRecDepth 100000 in
theorem c10_ok : FunOK Tryd.prog 10 40 [.tmp 2] c10 := ⟨⟨Tryd.f10, Tryd.func10, rfl, by kernel_rfl, rfl, by kernel_rfl⟩⟩
theorem proc_Named (s : ByteArray) (hs : s.size ≤ 9223372036854775807) : PCall Tryd.prog 36 [.sc (.string s)] (.sc (.bool (namedB s))) := by
  refine pcall_intro c36_ok (by simp) (by simp [PureL, Pure]) ?_ (by simp [Pure])
  (apply rd_sound; focus (repeat' constructor))
  ((conv=>whnf);repeat(refine⟨rfl,?_⟩;conv=>whnf))
  (refine ifK_split (fun h1 => ?_) (fun h1 => ?_) <;> (rw [h1]; ((conv=>whnf);repeat(refine⟨rfl,?_⟩;conv=>whnf))))
  · exact deep_eq (congrArg (fun b => D.sc (.bool b)) (by have : eqS s ⟨#[]⟩ = true := h1; simp [namedB, this]))
  (refine ifK_split (fun h2 => ?_) (fun h2 => ?_) <;> (rw [h2]; ((conv=>whnf);repeat(refine⟨rfl,?_⟩;conv=>whnf))))
  · exact deep_eq (congrArg (fun b => D.sc (.bool b)) (by have : ¬ s.size ≤ 8 := by ((try simp only[oo,reduceCtorEq]at*)<;>omega)
                                                          simp [namedB, this]))
  (refine ifK_split (fun h3 => ?_) (fun h3 => ?_) <;> (rw [h3]; ((conv=>whnf);repeat(refine⟨rfl,?_⟩;conv=>whnf))))
  · exact deep_eq (congrArg (fun b => D.sc (.bool b)) (by have : eqS s sTrue = true := h3; simp [namedB, this]))
  (refine ifK_split (fun h4 => ?_) (fun h4 => ?_) <;> (rw [h4]; ((conv=>whnf);repeat(refine⟨rfl,?_⟩;conv=>whnf))))
  · exact deep_eq (congrArg (fun b => D.sc (.bool b)) (by have : eqS s sFalse = true := h4; simp [namedB, this]))
  (refine ifK_split (fun h5 => ?_) (fun h5 => ?_) <;> (rw [h5]; ((conv=>whnf);repeat(refine⟨rfl,?_⟩;conv=>whnf))))
  · exact deep_eq (congrArg (fun b => D.sc (.bool b)) (by have : eqS s sSilent = true := h5; simp [namedB, this]))
  have hn : namedB s = lowB s := by
    have g1 : eqS s ⟨#[]⟩ = false := h1
    have g2 : s.size ≤ 8 := by ((try simp only[oo,reduceCtorEq]at*)<;>omega)
    have g3 : eqS s sTrue = false := h3
    have g4 : eqS s sFalse = false := h4
    have g5 : eqS s sSilent = false := h5
    simp [namedB, g1, g2, g3, g4, g5]
  rw [hn]
  clear hn h1 h2 h3 h4 h5
  refine pwp_loop (fun k : Nat => [(0, .sc (.string s)), (24, .sc (.int .i64 s.size)), (25, .sc (.int .i64 k))]) (fun _ => [])
    (fun k => k ≤ s.size ∧ ∀ j, j < k → lowAt s j = true) (fun k => s.size - k) 0 ⟨by omega, fun j h => by omega⟩ (le_env ⟨rfl, rfl, rfl, trivial⟩) ?_
  rintro k ⟨hk, hall⟩
  (apply rd_sound; focus (repeat' constructor))
  ((conv=>whnf);repeat(refine⟨rfl,?_⟩;conv=>whnf))
  (refine ifK_split (fun h1 => ?_) (fun h1 => ?_) <;> (rw [h1]; ((conv=>whnf);repeat(refine⟨rfl,?_⟩;conv=>whnf))))
  · have hk' : k < s.size := by ((try simp only[oo,reduceCtorEq]at*)<;>omega)
    obtain ⟨b, hb⟩ := byte_at hk'
    refine ⟨by omega, b, hb, ?_⟩
    ((conv=>whnf);repeat(refine⟨rfl,?_⟩;conv=>whnf))
    (refine ifK_split (fun h2 => ?_) (fun h2 => ?_) <;> (rw [h2]; ((conv=>whnf);repeat(refine⟨rfl,?_⟩;conv=>whnf))))
    · exact deep_eq (congrArg (fun b => D.sc (.bool b)) (lowB_false hk' (by simp only [lowAt, hb]; simp only [decide_eq_true_eq] at h2; simp; omega)).symm)
    refine ⟨by omega, b, hb, ?_⟩
    ((conv=>whnf);repeat(refine⟨rfl,?_⟩;conv=>whnf))
    (refine ifK_split (fun h3 => ?_) (fun h3 => ?_) <;> (rw [h3]; ((conv=>whnf);repeat(refine⟨rfl,?_⟩;conv=>whnf))))
    · exact deep_eq (congrArg (fun b => D.sc (.bool b)) (lowB_false hk' (by simp only [lowAt, hb]; simp only [decide_eq_true_eq] at h3; simp; omega)).symm)
    refine .inl ⟨by unfold InR; rw [IntKind.wrap_i64]; omega, ?_⟩
    ((conv=>whnf);repeat(refine⟨rfl,?_⟩;conv=>whnf))
    refine ⟨k + 1, ⟨by omega, fun j hj => ?_⟩, by dsimp only; omega, le_env ⟨rfl, rfl, rfl, trivial⟩⟩
    by_cases e : j = k
    · subst e; simp only [lowAt, hb]; simp only [decide_eq_false_iff_not] at h2 h3; simp; omega
    · exact hall j (by omega)
  · have hk' : ¬ k < s.size := by ((try simp only[oo,reduceCtorEq]at*)<;>omega)
    exact deep_eq (congrArg (fun b => D.sc (.bool b)) (lowB_true fun i hi => hall i (by omega)).symm)
theorem ref_Named (s : ByteArray) (hs : s.size ≤ 9223372036854775807) : PCall Tryd.prog 10 [.sc (.string s)] (.sc (.bool (namedB s))) := by
  refine pcall_intro c10_ok (by simp) (by simp [PureL, Pure]) ?_ (by simp [Pure])
  (apply rd_sound; focus (repeat' constructor))
  ((conv=>whnf);repeat(refine⟨rfl,?_⟩;conv=>whnf))
  refine pwp_loop (fun k : Nat => [(0, .sc (.string s)), (3, .sc (.int .i64 k))]) (fun _ => [])
    (fun k => k ≤ s.size ∧ ∀ j, j < k → lowAt s j = true) (fun k => s.size - k) 0 ⟨by omega, fun j h => by omega⟩ (le_env ⟨rfl, rfl, trivial⟩) ?_
  rintro k ⟨hk, hall⟩
  (apply rd_sound; focus (repeat' constructor))
  ((conv=>whnf);repeat(refine⟨rfl,?_⟩;conv=>whnf))
  have low : ∀ {i : Nat}, i < s.size → lowAt s i = false → false = namedB s := fun hi h => by simp [namedB, lowB_false hi h]
  (refine ifK_split (fun h1 => ?_) (fun h1 => ?_) <;> (rw [h1]; ((conv=>whnf);repeat(refine⟨rfl,?_⟩;conv=>whnf))))
  · have hk' : k < s.size := by ((try simp only[oo,reduceCtorEq]at*)<;>omega)
    obtain ⟨b, hb⟩ := byte_at hk'
    refine ⟨by omega, b, hb, ?_⟩
    ((conv=>whnf);repeat(refine⟨rfl,?_⟩;conv=>whnf))
    (refine ifK_split (fun h2 => ?_) (fun h2 => ?_) <;> (rw [h2]; ((conv=>whnf);repeat(refine⟨rfl,?_⟩;conv=>whnf))))
    · exact deep_eq (congrArg (fun b => D.sc (.bool b)) (low hk' (by simp only [lowAt, hb]; simp only [decide_eq_true_eq] at h2; simp; omega)))
    refine ⟨by omega, b, hb, ?_⟩
    ((conv=>whnf);repeat(refine⟨rfl,?_⟩;conv=>whnf))
    (refine ifK_split (fun h3 => ?_) (fun h3 => ?_) <;> (rw [h3]; ((conv=>whnf);repeat(refine⟨rfl,?_⟩;conv=>whnf))))
    · exact deep_eq (congrArg (fun b => D.sc (.bool b)) (low hk' (by simp only [lowAt, hb]; simp only [decide_eq_true_eq] at h3; simp; omega)))
    refine .inl ⟨by unfold InR; rw [IntKind.wrap_i64]; omega, ?_⟩
    ((conv=>whnf);repeat(refine⟨rfl,?_⟩;conv=>whnf))
    refine ⟨k + 1, ⟨by omega, fun j hj => ?_⟩, by dsimp only; omega, le_env ⟨rfl, rfl, trivial⟩⟩
    by_cases e : j = k
    · subst e; simp only [lowAt, hb]; simp only [decide_eq_false_iff_not] at h2 h3; simp; omega
    · exact hall j (by omega)
  · have hk' : ¬ k < s.size := by ((try simp only[oo,reduceCtorEq]at*)<;>omega)
    have hl : lowB s = true := lowB_true fun i hi => hall i (by omega)
    have he := eqS_empty s
    clear low h1
    repeat' (first
      | (refine ifK_split (fun h => ?_) (fun h => ?_) <;> (rw [h]; ((conv=>whnf);repeat(refine⟨rfl,?_⟩;conv=>whnf))))
      | exact deep_eq (congrArg (fun b => D.sc (.bool b)) (by
          unfold namedB
          rw [hl]
          have e0 : eqS s ⟨#[]⟩ = decide (s.size = 0) := by rw [Bool.eq_iff_iff, he]; simp
          rw [e0]
          simp_all [eqS, sTrue, sFalse, sSilent, -ByteArray.size_eq_zero_iff]
          try omega)))
/-- The first of its like. -/
theorem idx_dup {l : List ByteArray} {n : Nat} (hn : n < l.length) : ((match l.findIdx? (eqS (l.getD n ⟨#[]⟩)) with | some i => (i : Int) | none => -1) : Int) ≠ (n : Int) ↔ dupB l n (l.getD n ⟨#[]⟩) = true := by
  have hg : ∀ j (h : j < l.length), l.getD j ⟨#[]⟩ = l[j] := fun j h => by rw [List.getD_eq_getElem?_getD, List.getElem?_eq_getElem h]; rfl
  cases h : l.findIdx? (eqS (l.getD n ⟨#[]⟩)) with
  | none =>
    rw [List.findIdx?_eq_none_iff] at h
    have := h l[n] (List.getElem_mem _)
    rw [hg n hn] at this
    simp at this
  | some i =>
    rw [List.findIdx?_eq_some_iff_getElem] at h
    obtain ⟨h1, h2, h3⟩ := h
    constructor
    · intro hne
      have hne : (i : Int) ≠ n := hne
      have : i < n := by
        rcases Nat.lt_trichotomy i n with q | q | q
        · exact q
        · omega
        · have := h3 n q
          rw [hg n hn] at this
          simp at this
      exact dupB_true this (by rw [eqS_symm, hg i h1]; exact h2)
    · intro hd
      show (i : Int) ≠ n
      unfold dupB at hd
      rw [List.any_eq_true] at hd
      obtain ⟨j, hj, hd⟩ := hd
      rw [List.mem_range] at hj
      rintro e
      have := h3 j (by omega)
      rw [← hg j (by omega), eqS_symm, hd] at this
      simp at this
end Go.Proofs.YtgkodbnomgabdaaDoor
