/-
  Formulas as texts, over deep values. No statement is proved here.
-/
import Derived.Test.YtjnfahdolkgnoaaQDk2
import Derived.Test.YtjnfahdolkgnoaaQTxp
import Derived.Test.YtjnfahdolkgnoaaProg
namespace Go.Proofs.Ytjnfahdolkgnoaa
open Go.RowKit
set_option linter.unusedSimpArgs false
/-- Texts that can be counted. -/
def SmallS (l : List ByteArray) : Prop := l.length ≤ 9223372036854775807 ∧ ∀ s ∈ l, s.size ≤ 9223372036854775807
theorem SmallS.at {l : List ByteArray} (h : SmallS l) {k : Nat} (hk : k < l.length) : (l.getD k ⟨#[]⟩).size ≤ 9223372036854775807 := by
  rw [List.getD_eq_getElem?_getD, List.getElem?_eq_getElem hk]
  exact h.2 _ (List.getElem_mem _)
theorem byte_at {s : ByteArray} {k : Nat} (h : k < s.size) : ∃ b, s[k]? = some b := ⟨s[k], by simp [getElem?_pos, h]⟩

def c107_1 : PC := .seq (.ops [⟨(some 26), .bin .lss (.tmp 25) (.tmp 24), none, 0⟩] false) (.seq (.cond (.tmp 26) (.skip) (.exit 0)) (.seq (.block 1 (.seq (.ops [⟨(some 27), .move (.tmp 25), none, 0⟩,
    ⟨(some 3), .move (.tmp 27), none, 0⟩] false) (.seq (.ops [⟨(some 28), .move (.tmp 0), none, 0⟩,
    ⟨(some 29), .move (.tmp 3), none, 0⟩,
    ⟨(some 30), .sidx (.tmp 28) (.tmp 29), none, 0⟩,
    ⟨(some 31), .bin .lss (.tmp 30) (.const (.int .u8 97)), none, 0⟩,
    ⟨(some 32), .move (.tmp 31), none, 0⟩,
    ⟨(some 33), .move (.tmp 0), (some (32, false)), 0⟩,
    ⟨(some 34), .move (.tmp 3), (some (32, false)), 0⟩,
    ⟨(some 35), .sidx (.tmp 33) (.tmp 34), (some (32, false)), 0⟩,
    ⟨(some 36), .bin .gtr (.tmp 35) (.const (.int .u8 122)), (some (32, false)), 0⟩,
    ⟨(some 37), .pick (.tmp 32) (.const (.bool true)) (.tmp 36), none, 0⟩] false) (.cond (.tmp 37) (.seq (.ops [⟨(some 2), .move (.const (.bool false)), none, 0⟩] false) (.ret)) (.skip))))) (.ops [⟨(some 38), .bin .add (.tmp 25) (.const (.int .i64 1)), none, 0⟩,
    ⟨(some 25), .move (.tmp 38), none, 0⟩] false)))
def c107 : PC := .seq (.ops [⟨(some 2), .move (.const (.bool false)), none, 0⟩] false) (.seq (.seq (.ops [⟨(some 4), .move (.tmp 0), none, 0⟩,
    ⟨(some 5), .bin .eql (.tmp 4) (.const (.string ⟨#[]⟩)), none, 0⟩,
    ⟨(some 6), .move (.tmp 5), none, 0⟩,
    ⟨(some 7), .move (.tmp 0), (some (6, false)), 0⟩,
    ⟨(some 8), .slen (.tmp 7), (some (6, false)), 0⟩,
    ⟨(some 9), .bin .gtr (.tmp 8) (.const (.int .i64 8)), (some (6, false)), 0⟩,
    ⟨(some 10), .pick (.tmp 6) (.const (.bool true)) (.tmp 9), none, 0⟩,
    ⟨(some 11), .move (.tmp 10), none, 0⟩,
    ⟨(some 12), .move (.tmp 0), (some (11, false)), 0⟩,
    ⟨(some 13), .bin .eql (.tmp 12) (.const (.string ⟨#[116, 114, 117, 101]⟩)), (some (11, false)), 0⟩,
    ⟨(some 14), .pick (.tmp 11) (.const (.bool true)) (.tmp 13), none, 0⟩,
    ⟨(some 15), .move (.tmp 14), none, 0⟩,
    ⟨(some 16), .move (.tmp 0), (some (15, false)), 0⟩,
    ⟨(some 17), .bin .eql (.tmp 16) (.const (.string ⟨#[102, 97, 108, 115, 101]⟩)), (some (15, false)), 0⟩,
    ⟨(some 18), .pick (.tmp 15) (.const (.bool true)) (.tmp 17), none, 0⟩,
    ⟨(some 19), .move (.tmp 18), none, 0⟩,
    ⟨(some 20), .move (.tmp 0), (some (19, false)), 0⟩,
    ⟨(some 21), .bin .eql (.tmp 20) (.const (.string ⟨#[115, 105, 108, 101, 110, 116]⟩)), (some (19, false)), 0⟩,
    ⟨(some 22), .pick (.tmp 19) (.const (.bool true)) (.tmp 21), none, 0⟩] false) (.cond (.tmp 22) (.seq (.ops [⟨(some 2), .move (.const (.bool false)), none, 0⟩] false) (.ret)) (.skip))) (.seq (.seq (.ops [⟨(some 23), .move (.tmp 0), none, 0⟩,
    ⟨(some 24), .slen (.tmp 23), none, 0⟩,
    ⟨(some 25), .move (.const (.int .i64 0)), none, 0⟩] false) (.block 0 (.loop c107_1))) (.seq (.ops [⟨(some 2), .move (.const (.bool true)), none, 0⟩] false) (.ret))))
set_option maxRecDepth 100000 in
theorem c107_ok : FunOK Try.prog 107 39 [.tmp 2] c107 := ⟨⟨Try.f107, Try.func107, rfl, by kernel_rfl, rfl, by kernel_rfl⟩⟩
def c90_1 : PC := .seq (.seq (.ops [⟨(some 4), .move (.tmp 3), none, 0⟩,
    ⟨(some 5), .move (.tmp 0), none, 0⟩,
    ⟨(some 6), .slen (.tmp 5), none, 0⟩,
    ⟨(some 7), .bin .lss (.tmp 4) (.tmp 6), none, 0⟩] false) (.cond (.tmp 7) (.skip) (.exit 0))) (.seq (.block 1 (.seq (.ops [⟨(some 10), .move (.tmp 0), none, 0⟩,
    ⟨(some 11), .move (.tmp 3), none, 0⟩,
    ⟨(some 12), .sidx (.tmp 10) (.tmp 11), none, 0⟩,
    ⟨(some 13), .bin .lss (.tmp 12) (.const (.int .u8 97)), none, 0⟩,
    ⟨(some 14), .move (.tmp 13), none, 0⟩,
    ⟨(some 15), .move (.tmp 0), (some (14, false)), 0⟩,
    ⟨(some 16), .move (.tmp 3), (some (14, false)), 0⟩,
    ⟨(some 17), .sidx (.tmp 15) (.tmp 16), (some (14, false)), 0⟩,
    ⟨(some 18), .bin .gtr (.tmp 17) (.const (.int .u8 122)), (some (14, false)), 0⟩,
    ⟨(some 19), .pick (.tmp 14) (.const (.bool true)) (.tmp 18), none, 0⟩] false) (.cond (.tmp 19) (.seq (.ops [⟨(some 2), .move (.const (.bool false)), none, 0⟩] false) (.ret)) (.skip)))) (.ops [⟨(some 8), .move (.tmp 3), none, 0⟩,
    ⟨(some 9), .bin .add (.tmp 8) (.const (.int .i64 1)), none, 0⟩,
    ⟨(some 3), .move (.tmp 9), none, 0⟩] false))
def c90 : PC := .seq (.ops [⟨(some 2), .move (.const (.bool false)), none, 0⟩] false) (.seq (.seq (.ops [⟨(some 3), .move (.const (.int .i64 0)), none, 0⟩] false) (.block 0 (.loop c90_1))) (.seq (.ops [⟨(some 20), .move (.tmp 0), none, 0⟩,
    ⟨(some 21), .slen (.tmp 20), none, 0⟩,
    ⟨(some 22), .bin .geq (.tmp 21) (.const (.int .i64 1)), none, 0⟩,
    ⟨(some 23), .move (.tmp 22), none, 0⟩,
    ⟨(some 24), .move (.tmp 0), (some (23, true)), 0⟩,
    ⟨(some 25), .slen (.tmp 24), (some (23, true)), 0⟩,
    ⟨(some 26), .bin .leq (.tmp 25) (.const (.int .i64 8)), (some (23, true)), 0⟩,
    ⟨(some 27), .pick (.tmp 23) (.tmp 26) (.const (.bool false)), none, 0⟩,
    ⟨(some 28), .move (.tmp 27), none, 0⟩,
    ⟨(some 29), .move (.tmp 0), (some (28, true)), 0⟩,
    ⟨(some 30), .bin .neq (.tmp 29) (.const (.string ⟨#[116, 114, 117, 101]⟩)), (some (28, true)), 0⟩,
    ⟨(some 31), .pick (.tmp 28) (.tmp 30) (.const (.bool false)), none, 0⟩,
    ⟨(some 32), .move (.tmp 31), none, 0⟩,
    ⟨(some 33), .move (.tmp 0), (some (32, true)), 0⟩,
    ⟨(some 34), .bin .neq (.tmp 33) (.const (.string ⟨#[102, 97, 108, 115, 101]⟩)), (some (32, true)), 0⟩,
    ⟨(some 35), .pick (.tmp 32) (.tmp 34) (.const (.bool false)), none, 0⟩,
    ⟨(some 36), .move (.tmp 35), none, 0⟩,
    ⟨(some 37), .move (.tmp 0), (some (36, true)), 0⟩,
    ⟨(some 38), .bin .neq (.tmp 37) (.const (.string ⟨#[115, 105, 108, 101, 110, 116]⟩)), (some (36, true)), 0⟩,
    ⟨(some 39), .pick (.tmp 36) (.tmp 38) (.const (.bool false)), none, 0⟩,
    ⟨(some 2), .move (.tmp 39), none, 0⟩] false) (.ret)))
set_option maxRecDepth 100000 in
theorem c90_ok : FunOK Try.prog 90 40 [.tmp 2] c90 := ⟨⟨Try.f90, Try.func90, rfl, by kernel_rfl, rfl, by kernel_rfl⟩⟩
theorem proc_Named (s : ByteArray) (hs : s.size ≤ 9223372036854775807) : PCall Try.prog 107 [.sc (.string s)] (.sc (.bool (namedB s))) := by
  refine pcall_intro c107_ok (by simp) (by simp [PureL, Pure]) ?_ (by simp [Pure])
  (apply rd_sound; focus (repeat' constructor))
  ((conv=>whnf);repeat(refine And.intro rfl ?_;(conv=>whnf)))
  (refine ifK_split (fun h1 => ?_) (fun h1 => ?_) <;> (rw [h1]; ((conv=>whnf);repeat(refine And.intro rfl ?_;(conv=>whnf)))))
  · exact deep_eq (congrArg (fun b => D.sc (.bool b)) (by have : eqS s ⟨#[]⟩ = true := h1; simp [namedB, this]))
  (refine ifK_split (fun h2 => ?_) (fun h2 => ?_) <;> (rw [h2]; ((conv=>whnf);repeat(refine And.intro rfl ?_;(conv=>whnf)))))
  · exact deep_eq (congrArg (fun b => D.sc (.bool b)) (by have : ¬ s.size ≤ 8 := by ((try simp only [oo, reduceCtorEq] at *) <;> omega)
                                                          simp [namedB, this]))
  (refine ifK_split (fun h3 => ?_) (fun h3 => ?_) <;> (rw [h3]; ((conv=>whnf);repeat(refine And.intro rfl ?_;(conv=>whnf)))))
  · exact deep_eq (congrArg (fun b => D.sc (.bool b)) (by have : eqS s sTrue = true := h3; simp [namedB, this]))
  (refine ifK_split (fun h4 => ?_) (fun h4 => ?_) <;> (rw [h4]; ((conv=>whnf);repeat(refine And.intro rfl ?_;(conv=>whnf)))))
  · exact deep_eq (congrArg (fun b => D.sc (.bool b)) (by have : eqS s sFalse = true := h4; simp [namedB, this]))
  (refine ifK_split (fun h5 => ?_) (fun h5 => ?_) <;> (rw [h5]; ((conv=>whnf);repeat(refine And.intro rfl ?_;(conv=>whnf)))))
  · exact deep_eq (congrArg (fun b => D.sc (.bool b)) (by have : eqS s sSilent = true := h5; simp [namedB, this]))
  have hn : namedB s = lowB s := by
    have g1 : eqS s ⟨#[]⟩ = false := h1
    have g2 : s.size ≤ 8 := by ((try simp only [oo, reduceCtorEq] at *) <;> omega)
    have g3 : eqS s sTrue = false := h3
    have g4 : eqS s sFalse = false := h4
    have g5 : eqS s sSilent = false := h5
    simp [namedB, g1, g2, g3, g4, g5]
  rw [hn]
  clear hn h1 h2 h3 h4 h5
  refine pwp_loop (fun k : Nat => [(0, .sc (.string s)), (24, .sc (.int .i64 s.size)), (25, .sc (.int .i64 k))]) (fun _ => [])
    (fun k => k ≤ s.size ∧ ∀ j, j < k → lowAt s j = true) (fun k => s.size - k) 0 ⟨by omega, fun j h => by omega⟩ (le_env ⟨rfl, rfl, rfl, trivial⟩) ?_
  rintro k ⟨hk, hall⟩
  (apply rd_sound; focus (repeat' constructor))
  ((conv=>whnf);repeat(refine And.intro rfl ?_;(conv=>whnf)))
  (refine ifK_split (fun h1 => ?_) (fun h1 => ?_) <;> (rw [h1]; ((conv=>whnf);repeat(refine And.intro rfl ?_;(conv=>whnf)))))
  · have hk' : k < s.size := by ((try simp only [oo, reduceCtorEq] at *) <;> omega)
    obtain ⟨b, hb⟩ := byte_at hk'
    refine ⟨by omega, b, hb, ?_⟩
    ((conv=>whnf);repeat(refine And.intro rfl ?_;(conv=>whnf)))
    (refine ifK_split (fun h2 => ?_) (fun h2 => ?_) <;> (rw [h2]; ((conv=>whnf);repeat(refine And.intro rfl ?_;(conv=>whnf)))))
    · exact deep_eq (congrArg (fun b => D.sc (.bool b)) (lowB_false hk' (by simp only [lowAt, hb]; simp only [decide_eq_true_eq] at h2; simp; omega)).symm)
    refine ⟨by omega, b, hb, ?_⟩
    ((conv=>whnf);repeat(refine And.intro rfl ?_;(conv=>whnf)))
    (refine ifK_split (fun h3 => ?_) (fun h3 => ?_) <;> (rw [h3]; ((conv=>whnf);repeat(refine And.intro rfl ?_;(conv=>whnf)))))
    · exact deep_eq (congrArg (fun b => D.sc (.bool b)) (lowB_false hk' (by simp only [lowAt, hb]; simp only [decide_eq_true_eq] at h3; simp; omega)).symm)
    refine .inl ⟨by unfold InR; rw [IntKind.wrap_i64]; omega, ?_⟩
    ((conv=>whnf);repeat(refine And.intro rfl ?_;(conv=>whnf)))
    refine ⟨k + 1, ⟨by omega, fun j hj => ?_⟩, by dsimp only; omega, le_env ⟨rfl, rfl, rfl, trivial⟩⟩
    by_cases e : j = k
    · subst e; simp only [lowAt, hb]; simp only [decide_eq_false_iff_not] at h2 h3; simp; omega
    · exact hall j (by omega)
  · have hk' : ¬ k < s.size := by ((try simp only [oo, reduceCtorEq] at *) <;> omega)
    exact deep_eq (congrArg (fun b => D.sc (.bool b)) (lowB_true fun i hi => hall i (by omega)).symm)
theorem ref_Named (s : ByteArray) (hs : s.size ≤ 9223372036854775807) : PCall Try.prog 90 [.sc (.string s)] (.sc (.bool (namedB s))) := by
  refine pcall_intro c90_ok (by simp) (by simp [PureL, Pure]) ?_ (by simp [Pure])
  (apply rd_sound; focus (repeat' constructor))
  ((conv=>whnf);repeat(refine And.intro rfl ?_;(conv=>whnf)))
  refine pwp_loop (fun k : Nat => [(0, .sc (.string s)), (3, .sc (.int .i64 k))]) (fun _ => [])
    (fun k => k ≤ s.size ∧ ∀ j, j < k → lowAt s j = true) (fun k => s.size - k) 0 ⟨by omega, fun j h => by omega⟩ (le_env ⟨rfl, rfl, trivial⟩) ?_
  rintro k ⟨hk, hall⟩
  (apply rd_sound; focus (repeat' constructor))
  ((conv=>whnf);repeat(refine And.intro rfl ?_;(conv=>whnf)))
  have low : ∀ {i : Nat}, i < s.size → lowAt s i = false → false = namedB s := fun hi h => by simp [namedB, lowB_false hi h]
  (refine ifK_split (fun h1 => ?_) (fun h1 => ?_) <;> (rw [h1]; ((conv=>whnf);repeat(refine And.intro rfl ?_;(conv=>whnf)))))
  · have hk' : k < s.size := by ((try simp only [oo, reduceCtorEq] at *) <;> omega)
    obtain ⟨b, hb⟩ := byte_at hk'
    refine ⟨by omega, b, hb, ?_⟩
    ((conv=>whnf);repeat(refine And.intro rfl ?_;(conv=>whnf)))
    (refine ifK_split (fun h2 => ?_) (fun h2 => ?_) <;> (rw [h2]; ((conv=>whnf);repeat(refine And.intro rfl ?_;(conv=>whnf)))))
    · exact deep_eq (congrArg (fun b => D.sc (.bool b)) (low hk' (by simp only [lowAt, hb]; simp only [decide_eq_true_eq] at h2; simp; omega)))
    refine ⟨by omega, b, hb, ?_⟩
    ((conv=>whnf);repeat(refine And.intro rfl ?_;(conv=>whnf)))
    (refine ifK_split (fun h3 => ?_) (fun h3 => ?_) <;> (rw [h3]; ((conv=>whnf);repeat(refine And.intro rfl ?_;(conv=>whnf)))))
    · exact deep_eq (congrArg (fun b => D.sc (.bool b)) (low hk' (by simp only [lowAt, hb]; simp only [decide_eq_true_eq] at h3; simp; omega)))
    refine .inl ⟨by unfold InR; rw [IntKind.wrap_i64]; omega, ?_⟩
    ((conv=>whnf);repeat(refine And.intro rfl ?_;(conv=>whnf)))
    refine ⟨k + 1, ⟨by omega, fun j hj => ?_⟩, by dsimp only; omega, le_env ⟨rfl, rfl, trivial⟩⟩
    by_cases e : j = k
    · subst e; simp only [lowAt, hb]; simp only [decide_eq_false_iff_not] at h2 h3; simp; omega
    · exact hall j (by omega)
  · have hk' : ¬ k < s.size := by ((try simp only [oo, reduceCtorEq] at *) <;> omega)
    have hl : lowB s = true := lowB_true fun i hi => hall i (by omega)
    have he := eqS_empty s
    clear low h1
    repeat' (first
      | (refine ifK_split (fun h => ?_) (fun h => ?_) <;> (rw [h]; ((conv=>whnf);repeat(refine And.intro rfl ?_;(conv=>whnf)))))
      | exact deep_eq (congrArg (fun b => D.sc (.bool b)) (by
          unfold namedB
          rw [hl]
          have e0 : eqS s ⟨#[]⟩ = decide (s.size = 0) := by rw [Bool.eq_iff_iff, he]; simp
          rw [e0]
          simp_all [eqS, sTrue, sFalse, sSilent, -ByteArray.size_eq_zero_iff]
          try omega)))
end Go.Proofs.Ytjnfahdolkgnoaa
