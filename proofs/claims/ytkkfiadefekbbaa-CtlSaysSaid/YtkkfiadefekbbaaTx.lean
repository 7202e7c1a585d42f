/-
  Formulas as texts, over deep values. No statement is proved here.
-/
import Derived.Test.YtkkfiadefekbbaaDk2
import Derived.Test.YtkkfiadefekbbaaTxp
import Derived.Test.YtkkfiadefekbbaaProg
namespace Go.Proofs.Ytkkfiadefekbbaa
open Go.RowKit
set_option linter.unusedSimpArgs false
def dstr (s : ByteArray) : D := .sc (.string s)
def dstrs (l : List ByteArray) : D := .lst 1 (l.map fun s => [.sc (.string s)])
theorem pure_dstrs (l : List ByteArray) : Pure (dstrs l) := by
  simp only [dstrs, Pure]; exact pureLL_map _ (fun s => by simp [PureL, Pure]) l
/-- Texts that can be counted. -/
def SmallS (l : List ByteArray) : Prop := l.length ≤ 9223372036854775807 ∧ ∀ s ∈ l, s.size ≤ 9223372036854775807
theorem str_at {l : List ByteArray} {k : Nat} (h : k < l.length) : (l.map fun s => [D.sc (.string s)])[k]? = some [.sc (.string (l.getD k ⟨#[]⟩))] := by
  rw [List.getElem?_map, List.getElem?_eq_getElem h, List.getD_eq_getElem?_getD, List.getElem?_eq_getElem h]; rfl
theorem SmallS.at {l : List ByteArray} (h : SmallS l) {k : Nat} (hk : k < l.length) : (l.getD k ⟨#[]⟩).size ≤ 9223372036854775807 := by
  rw [List.getD_eq_getElem?_getD, List.getElem?_eq_getElem hk]
  exact h.2 _ (List.getElem_mem _)
theorem byte_at {s : ByteArray} {k : Nat} (h : k < s.size) : ∃ b, s[k]? = some b := ⟨s[k], by simp [getElem?_pos, h]⟩

def c152_1 : PC := .seq (.ops [⟨(some 26), .bin .lss (.tmp 25) (.tmp 24), none, 0⟩] false) (.seq (.cond (.tmp 26) (.skip) (.exit 0)) (.seq (.block 1 (.seq (.ops [⟨(some 27), .move (.tmp 25), none, 0⟩,
    ⟨(some 3), .move (.tmp 27), none, 0⟩] false) (.seq (.ops [⟨(some 28), .move (.tmp 0), none, 0⟩,
    ⟨(some 29), .move (.tmp 3), none, 0⟩,
    ⟨(some 30), .sidx (.tmp 28) (.tmp 29), none, 0⟩,
    ⟨(some 31), .bin .lss (.tmp 30) (.const (.int .u8 97)), none, 0⟩,
    ⟨(some 32), .move (.tmp 31), none, 0⟩,
    ⟨(some 33), .move (.tmp 0), (some (32, false)), 0⟩,
    ⟨(some 34), .move (.tmp 3), (some (32, false)), 0⟩,
    ⟨(some 35), .sidx (.tmp 33) (.tmp 34), (some (32, false)), 0⟩,
    ⟨(some 36), .bin .gtr (.tmp 35) (.const (.int .u8 122)), (some (32, false)), 0⟩,
    ⟨(some 37), .pick (.tmp 32) (.const (.bool true)) (.tmp 36), none, 0⟩] false) (.cond (.tmp 37) (.seq (.ops [⟨(some 2), .move (.const (.bool false)), none, 0⟩] false) (.ret)) (.skip))))) (.ops [⟨(some 38), .bin .add (.tmp 25) (.const (.int .i64 1)), none, 0⟩,
    ⟨(some 25), .move (.tmp 38), none, 0⟩] false)))
def c152 : PC := .seq (.ops [⟨(some 2), .move (.const (.bool false)), none, 0⟩] false) (.seq (.seq (.ops [⟨(some 4), .move (.tmp 0), none, 0⟩,
    ⟨(some 5), .bin .eql (.tmp 4) (.const (.string ⟨#[]⟩)), none, 0⟩,
    ⟨(some 6), .move (.tmp 5), none, 0⟩,
    ⟨(some 7), .move (.tmp 0), (some (6, false)), 0⟩,
    ⟨(some 8), .slen (.tmp 7), (some (6, false)), 0⟩,
    ⟨(some 9), .bin .gtr (.tmp 8) (.const (.int .i64 8)), (some (6, false)), 0⟩,
    ⟨(some 10), .pick (.tmp 6) (.const (.bool true)) (.tmp 9), none, 0⟩,
    ⟨(some 11), .move (.tmp 10), none, 0⟩,
    ⟨(some 12), .move (.tmp 0), (some (11, false)), 0⟩,
    ⟨(some 13), .bin .eql (.tmp 12) (.const (.string ⟨#[116, 114, 117, 101]⟩)), (some (11, false)), 0⟩,
    ⟨(some 14), .pick (.tmp 11) (.const (.bool true)) (.tmp 13), none, 0⟩,
    ⟨(some 15), .move (.tmp 14), none, 0⟩,
    ⟨(some 16), .move (.tmp 0), (some (15, false)), 0⟩,
    ⟨(some 17), .bin .eql (.tmp 16) (.const (.string ⟨#[102, 97, 108, 115, 101]⟩)), (some (15, false)), 0⟩,
    ⟨(some 18), .pick (.tmp 15) (.const (.bool true)) (.tmp 17), none, 0⟩,
    ⟨(some 19), .move (.tmp 18), none, 0⟩,
    ⟨(some 20), .move (.tmp 0), (some (19, false)), 0⟩,
    ⟨(some 21), .bin .eql (.tmp 20) (.const (.string ⟨#[115, 105, 108, 101, 110, 116]⟩)), (some (19, false)), 0⟩,
    ⟨(some 22), .pick (.tmp 19) (.const (.bool true)) (.tmp 21), none, 0⟩] false) (.cond (.tmp 22) (.seq (.ops [⟨(some 2), .move (.const (.bool false)), none, 0⟩] false) (.ret)) (.skip))) (.seq (.seq (.ops [⟨(some 23), .move (.tmp 0), none, 0⟩,
    ⟨(some 24), .slen (.tmp 23), none, 0⟩,
    ⟨(some 25), .move (.const (.int .i64 0)), none, 0⟩] false) (.block 0 (.loop c152_1))) (.seq (.ops [⟨(some 2), .move (.const (.bool true)), none, 0⟩] false) (.ret))))
set_option maxRecDepth 100000 in
theorem c152_ok : FunOK Try.prog 152 39 [.tmp 2] c152 := ⟨⟨Try.f152, Try.func152, rfl, by kernel_rfl, rfl, by kernel_rfl⟩⟩
def c125_1 : PC := .seq (.seq (.ops [⟨(some 4), .move (.tmp 3), none, 0⟩,
    ⟨(some 5), .move (.tmp 0), none, 0⟩,
    ⟨(some 6), .slen (.tmp 5), none, 0⟩,
    ⟨(some 7), .bin .lss (.tmp 4) (.tmp 6), none, 0⟩] false) (.cond (.tmp 7) (.skip) (.exit 0))) (.seq (.block 1 (.seq (.ops [⟨(some 10), .move (.tmp 0), none, 0⟩,
    ⟨(some 11), .move (.tmp 3), none, 0⟩,
    ⟨(some 12), .sidx (.tmp 10) (.tmp 11), none, 0⟩,
    ⟨(some 13), .bin .lss (.tmp 12) (.const (.int .u8 97)), none, 0⟩,
    ⟨(some 14), .move (.tmp 13), none, 0⟩,
    ⟨(some 15), .move (.tmp 0), (some (14, false)), 0⟩,
    ⟨(some 16), .move (.tmp 3), (some (14, false)), 0⟩,
    ⟨(some 17), .sidx (.tmp 15) (.tmp 16), (some (14, false)), 0⟩,
    ⟨(some 18), .bin .gtr (.tmp 17) (.const (.int .u8 122)), (some (14, false)), 0⟩,
    ⟨(some 19), .pick (.tmp 14) (.const (.bool true)) (.tmp 18), none, 0⟩] false) (.cond (.tmp 19) (.seq (.ops [⟨(some 2), .move (.const (.bool false)), none, 0⟩] false) (.ret)) (.skip)))) (.ops [⟨(some 8), .move (.tmp 3), none, 0⟩,
    ⟨(some 9), .bin .add (.tmp 8) (.const (.int .i64 1)), none, 0⟩,
    ⟨(some 3), .move (.tmp 9), none, 0⟩] false))
def c125 : PC := .seq (.ops [⟨(some 2), .move (.const (.bool false)), none, 0⟩] false) (.seq (.seq (.ops [⟨(some 3), .move (.const (.int .i64 0)), none, 0⟩] false) (.block 0 (.loop c125_1))) (.seq (.ops [⟨(some 20), .move (.tmp 0), none, 0⟩,
    ⟨(some 21), .slen (.tmp 20), none, 0⟩,
    ⟨(some 22), .bin .geq (.tmp 21) (.const (.int .i64 1)), none, 0⟩,
    ⟨(some 23), .move (.tmp 22), none, 0⟩,
    ⟨(some 24), .move (.tmp 0), (some (23, true)), 0⟩,
    ⟨(some 25), .slen (.tmp 24), (some (23, true)), 0⟩,
    ⟨(some 26), .bin .leq (.tmp 25) (.const (.int .i64 8)), (some (23, true)), 0⟩,
    ⟨(some 27), .pick (.tmp 23) (.tmp 26) (.const (.bool false)), none, 0⟩,
    ⟨(some 28), .move (.tmp 27), none, 0⟩,
    ⟨(some 29), .move (.tmp 0), (some (28, true)), 0⟩,
    ⟨(some 30), .bin .neq (.tmp 29) (.const (.string ⟨#[116, 114, 117, 101]⟩)), (some (28, true)), 0⟩,
    ⟨(some 31), .pick (.tmp 28) (.tmp 30) (.const (.bool false)), none, 0⟩,
    ⟨(some 32), .move (.tmp 31), none, 0⟩,
    ⟨(some 33), .move (.tmp 0), (some (32, true)), 0⟩,
    ⟨(some 34), .bin .neq (.tmp 33) (.const (.string ⟨#[102, 97, 108, 115, 101]⟩)), (some (32, true)), 0⟩,
    ⟨(some 35), .pick (.tmp 32) (.tmp 34) (.const (.bool false)), none, 0⟩,
    ⟨(some 36), .move (.tmp 35), none, 0⟩,
    ⟨(some 37), .move (.tmp 0), (some (36, true)), 0⟩,
    ⟨(some 38), .bin .neq (.tmp 37) (.const (.string ⟨#[115, 105, 108, 101, 110, 116]⟩)), (some (36, true)), 0⟩,
    ⟨(some 39), .pick (.tmp 36) (.tmp 38) (.const (.bool false)), none, 0⟩,
    ⟨(some 2), .move (.tmp 39), none, 0⟩] false) (.ret)))
set_option maxRecDepth 100000 in
theorem c125_ok : FunOK Try.prog 125 40 [.tmp 2] c125 := ⟨⟨Try.f125, Try.func125, rfl, by kernel_rfl, rfl, by kernel_rfl⟩⟩
theorem proc_Named (s : ByteArray) (hs : s.size ≤ 9223372036854775807) : PCall Try.prog 152 [.sc (.string s)] (.sc (.bool (namedB s))) := by
  refine pcall_intro c152_ok (by simp) (by simp [PureL, Pure]) ?_ (by simp [Pure])
  (apply red_sound; focus (repeat' (first | exact Red.skip | exact Red.ret | exact RedO.nil | exact RedD.nil | exact Red.exit _ | exact Red.loop _ | exact Red.stop _ | apply Red.ops | apply Red.draw | apply Red.seq | apply Red.cond | apply Red.block | apply RedO.cons | apply RedD.cons | exact (0 : Nat))))
  ((conv => whnf); repeat (refine And.intro rfl ?_; (conv => whnf)))
  (refine ifK_split (fun h1 => ?_) (fun h1 => ?_) <;> (rw [h1]; ((conv => whnf); repeat (refine And.intro rfl ?_; (conv => whnf)))))
  · exact deep_eq (congrArg (fun b => D.sc (.bool b)) (by have : eqS s ⟨#[]⟩ = true := h1; simp [namedB, this]))
  (refine ifK_split (fun h2 => ?_) (fun h2 => ?_) <;> (rw [h2]; ((conv => whnf); repeat (refine And.intro rfl ?_; (conv => whnf)))))
  · exact deep_eq (congrArg (fun b => D.sc (.bool b)) (by have : ¬ s.size ≤ 8 := by ((try simp only [bne_iff_ne, ne_eq, bne_eq_false_iff_eq, beq_iff_eq, beq_eq_false_iff_ne, decide_eq_true_eq, decide_eq_false_iff_not, List.length_map, Bool.not_eq_true, Bool.not_eq_false, Bool.and_eq_true, Bool.or_eq_true, Bool.and_eq_false_iff, Bool.or_eq_false_iff, Bool.not_eq_true', Bool.not_eq_false', Bool.not_true, Bool.not_false, Bool.not_eq_eq_eq_not, not_true_eq_false, not_false_eq_true, reduceCtorEq, Bool.true_or, Bool.false_or, Bool.or_true, Bool.or_false, Bool.true_and, Bool.and_true, Bool.false_and, Bool.and_false, true_and, and_true, or_false, false_or, true_or, or_true, false_and, and_false, Bool.true_eq_false, Bool.false_eq_true] at *) <;> omega)
                                                          simp [namedB, this]))
  (refine ifK_split (fun h3 => ?_) (fun h3 => ?_) <;> (rw [h3]; ((conv => whnf); repeat (refine And.intro rfl ?_; (conv => whnf)))))
  · exact deep_eq (congrArg (fun b => D.sc (.bool b)) (by have : eqS s sTrue = true := h3; simp [namedB, this]))
  (refine ifK_split (fun h4 => ?_) (fun h4 => ?_) <;> (rw [h4]; ((conv => whnf); repeat (refine And.intro rfl ?_; (conv => whnf)))))
  · exact deep_eq (congrArg (fun b => D.sc (.bool b)) (by have : eqS s sFalse = true := h4; simp [namedB, this]))
  (refine ifK_split (fun h5 => ?_) (fun h5 => ?_) <;> (rw [h5]; ((conv => whnf); repeat (refine And.intro rfl ?_; (conv => whnf)))))
  · exact deep_eq (congrArg (fun b => D.sc (.bool b)) (by have : eqS s sSilent = true := h5; simp [namedB, this]))
  have hn : namedB s = lowB s := by
    have g1 : eqS s ⟨#[]⟩ = false := h1
    have g2 : s.size ≤ 8 := by ((try simp only [bne_iff_ne, ne_eq, bne_eq_false_iff_eq, beq_iff_eq, beq_eq_false_iff_ne, decide_eq_true_eq, decide_eq_false_iff_not, List.length_map, Bool.not_eq_true, Bool.not_eq_false, Bool.and_eq_true, Bool.or_eq_true, Bool.and_eq_false_iff, Bool.or_eq_false_iff, Bool.not_eq_true', Bool.not_eq_false', Bool.not_true, Bool.not_false, Bool.not_eq_eq_eq_not, not_true_eq_false, not_false_eq_true, reduceCtorEq, Bool.true_or, Bool.false_or, Bool.or_true, Bool.or_false, Bool.true_and, Bool.and_true, Bool.false_and, Bool.and_false, true_and, and_true, or_false, false_or, true_or, or_true, false_and, and_false, Bool.true_eq_false, Bool.false_eq_true] at *) <;> omega)
    have g3 : eqS s sTrue = false := h3
    have g4 : eqS s sFalse = false := h4
    have g5 : eqS s sSilent = false := h5
    simp [namedB, g1, g2, g3, g4, g5]
  rw [hn]
  clear hn h1 h2 h3 h4 h5
  refine pwp_loop (fun k : Nat => [(0, .sc (.string s)), (24, .sc (.int .i64 s.size)), (25, .sc (.int .i64 k))]) (fun _ => [])
    (fun k => k ≤ s.size ∧ ∀ j, j < k → lowAt s j = true) (fun k => s.size - k) 0 ⟨by omega, fun j h => by omega⟩ (le_env ⟨rfl, rfl, rfl, trivial⟩) ?_
  rintro k ⟨hk, hall⟩
  (apply red_sound; focus (repeat' (first | exact Red.skip | exact Red.ret | exact RedO.nil | exact RedD.nil | exact Red.exit _ | exact Red.loop _ | exact Red.stop _ | apply Red.ops | apply Red.draw | apply Red.seq | apply Red.cond | apply Red.block | apply RedO.cons | apply RedD.cons | exact (0 : Nat))))
  ((conv => whnf); repeat (refine And.intro rfl ?_; (conv => whnf)))
  (refine ifK_split (fun h1 => ?_) (fun h1 => ?_) <;> (rw [h1]; ((conv => whnf); repeat (refine And.intro rfl ?_; (conv => whnf)))))
  · have hk' : k < s.size := by ((try simp only [bne_iff_ne, ne_eq, bne_eq_false_iff_eq, beq_iff_eq, beq_eq_false_iff_ne, decide_eq_true_eq, decide_eq_false_iff_not, List.length_map, Bool.not_eq_true, Bool.not_eq_false, Bool.and_eq_true, Bool.or_eq_true, Bool.and_eq_false_iff, Bool.or_eq_false_iff, Bool.not_eq_true', Bool.not_eq_false', Bool.not_true, Bool.not_false, Bool.not_eq_eq_eq_not, not_true_eq_false, not_false_eq_true, reduceCtorEq, Bool.true_or, Bool.false_or, Bool.or_true, Bool.or_false, Bool.true_and, Bool.and_true, Bool.false_and, Bool.and_false, true_and, and_true, or_false, false_or, true_or, or_true, false_and, and_false, Bool.true_eq_false, Bool.false_eq_true] at *) <;> omega)
    obtain ⟨b, hb⟩ := byte_at hk'
    refine ⟨by omega, b, hb, ?_⟩
    ((conv => whnf); repeat (refine And.intro rfl ?_; (conv => whnf)))
    (refine ifK_split (fun h2 => ?_) (fun h2 => ?_) <;> (rw [h2]; ((conv => whnf); repeat (refine And.intro rfl ?_; (conv => whnf)))))
    · exact deep_eq (congrArg (fun b => D.sc (.bool b)) (lowB_false hk' (by simp only [lowAt, hb]; simp only [decide_eq_true_eq] at h2; simp; omega)).symm)
    refine ⟨by omega, b, hb, ?_⟩
    ((conv => whnf); repeat (refine And.intro rfl ?_; (conv => whnf)))
    (refine ifK_split (fun h3 => ?_) (fun h3 => ?_) <;> (rw [h3]; ((conv => whnf); repeat (refine And.intro rfl ?_; (conv => whnf)))))
    · exact deep_eq (congrArg (fun b => D.sc (.bool b)) (lowB_false hk' (by simp only [lowAt, hb]; simp only [decide_eq_true_eq] at h3; simp; omega)).symm)
    refine .inl ⟨by unfold InR; rw [IntKind.wrap_i64]; omega, ?_⟩
    ((conv => whnf); repeat (refine And.intro rfl ?_; (conv => whnf)))
    refine ⟨k + 1, ⟨by omega, fun j hj => ?_⟩, by dsimp only; omega, le_env ⟨rfl, rfl, rfl, trivial⟩⟩
    by_cases e : j = k
    · subst e; simp only [lowAt, hb]; simp only [decide_eq_false_iff_not] at h2 h3; simp; omega
    · exact hall j (by omega)
  · have hk' : ¬ k < s.size := by ((try simp only [bne_iff_ne, ne_eq, bne_eq_false_iff_eq, beq_iff_eq, beq_eq_false_iff_ne, decide_eq_true_eq, decide_eq_false_iff_not, List.length_map, Bool.not_eq_true, Bool.not_eq_false, Bool.and_eq_true, Bool.or_eq_true, Bool.and_eq_false_iff, Bool.or_eq_false_iff, Bool.not_eq_true', Bool.not_eq_false', Bool.not_true, Bool.not_false, Bool.not_eq_eq_eq_not, not_true_eq_false, not_false_eq_true, reduceCtorEq, Bool.true_or, Bool.false_or, Bool.or_true, Bool.or_false, Bool.true_and, Bool.and_true, Bool.false_and, Bool.and_false, true_and, and_true, or_false, false_or, true_or, or_true, false_and, and_false, Bool.true_eq_false, Bool.false_eq_true] at *) <;> omega)
    exact deep_eq (congrArg (fun b => D.sc (.bool b)) (lowB_true fun i hi => hall i (by omega)).symm)
theorem ref_Named (s : ByteArray) (hs : s.size ≤ 9223372036854775807) : PCall Try.prog 125 [.sc (.string s)] (.sc (.bool (namedB s))) := by
  refine pcall_intro c125_ok (by simp) (by simp [PureL, Pure]) ?_ (by simp [Pure])
  (apply red_sound; focus (repeat' (first | exact Red.skip | exact Red.ret | exact RedO.nil | exact RedD.nil | exact Red.exit _ | exact Red.loop _ | exact Red.stop _ | apply Red.ops | apply Red.draw | apply Red.seq | apply Red.cond | apply Red.block | apply RedO.cons | apply RedD.cons | exact (0 : Nat))))
  ((conv => whnf); repeat (refine And.intro rfl ?_; (conv => whnf)))
  refine pwp_loop (fun k : Nat => [(0, .sc (.string s)), (3, .sc (.int .i64 k))]) (fun _ => [])
    (fun k => k ≤ s.size ∧ ∀ j, j < k → lowAt s j = true) (fun k => s.size - k) 0 ⟨by omega, fun j h => by omega⟩ (le_env ⟨rfl, rfl, trivial⟩) ?_
  rintro k ⟨hk, hall⟩
  (apply red_sound; focus (repeat' (first | exact Red.skip | exact Red.ret | exact RedO.nil | exact RedD.nil | exact Red.exit _ | exact Red.loop _ | exact Red.stop _ | apply Red.ops | apply Red.draw | apply Red.seq | apply Red.cond | apply Red.block | apply RedO.cons | apply RedD.cons | exact (0 : Nat))))
  ((conv => whnf); repeat (refine And.intro rfl ?_; (conv => whnf)))
  have low : ∀ {i : Nat}, i < s.size → lowAt s i = false → false = namedB s := fun hi h => by simp [namedB, lowB_false hi h]
  (refine ifK_split (fun h1 => ?_) (fun h1 => ?_) <;> (rw [h1]; ((conv => whnf); repeat (refine And.intro rfl ?_; (conv => whnf)))))
  · have hk' : k < s.size := by ((try simp only [bne_iff_ne, ne_eq, bne_eq_false_iff_eq, beq_iff_eq, beq_eq_false_iff_ne, decide_eq_true_eq, decide_eq_false_iff_not, List.length_map, Bool.not_eq_true, Bool.not_eq_false, Bool.and_eq_true, Bool.or_eq_true, Bool.and_eq_false_iff, Bool.or_eq_false_iff, Bool.not_eq_true', Bool.not_eq_false', Bool.not_true, Bool.not_false, Bool.not_eq_eq_eq_not, not_true_eq_false, not_false_eq_true, reduceCtorEq, Bool.true_or, Bool.false_or, Bool.or_true, Bool.or_false, Bool.true_and, Bool.and_true, Bool.false_and, Bool.and_false, true_and, and_true, or_false, false_or, true_or, or_true, false_and, and_false, Bool.true_eq_false, Bool.false_eq_true] at *) <;> omega)
    obtain ⟨b, hb⟩ := byte_at hk'
    refine ⟨by omega, b, hb, ?_⟩
    ((conv => whnf); repeat (refine And.intro rfl ?_; (conv => whnf)))
    (refine ifK_split (fun h2 => ?_) (fun h2 => ?_) <;> (rw [h2]; ((conv => whnf); repeat (refine And.intro rfl ?_; (conv => whnf)))))
    · exact deep_eq (congrArg (fun b => D.sc (.bool b)) (low hk' (by simp only [lowAt, hb]; simp only [decide_eq_true_eq] at h2; simp; omega)))
    refine ⟨by omega, b, hb, ?_⟩
    ((conv => whnf); repeat (refine And.intro rfl ?_; (conv => whnf)))
    (refine ifK_split (fun h3 => ?_) (fun h3 => ?_) <;> (rw [h3]; ((conv => whnf); repeat (refine And.intro rfl ?_; (conv => whnf)))))
    · exact deep_eq (congrArg (fun b => D.sc (.bool b)) (low hk' (by simp only [lowAt, hb]; simp only [decide_eq_true_eq] at h3; simp; omega)))
    refine .inl ⟨by unfold InR; rw [IntKind.wrap_i64]; omega, ?_⟩
    ((conv => whnf); repeat (refine And.intro rfl ?_; (conv => whnf)))
    refine ⟨k + 1, ⟨by omega, fun j hj => ?_⟩, by dsimp only; omega, le_env ⟨rfl, rfl, trivial⟩⟩
    by_cases e : j = k
    · subst e; simp only [lowAt, hb]; simp only [decide_eq_false_iff_not] at h2 h3; simp; omega
    · exact hall j (by omega)
  · have hk' : ¬ k < s.size := by ((try simp only [bne_iff_ne, ne_eq, bne_eq_false_iff_eq, beq_iff_eq, beq_eq_false_iff_ne, decide_eq_true_eq, decide_eq_false_iff_not, List.length_map, Bool.not_eq_true, Bool.not_eq_false, Bool.and_eq_true, Bool.or_eq_true, Bool.and_eq_false_iff, Bool.or_eq_false_iff, Bool.not_eq_true', Bool.not_eq_false', Bool.not_true, Bool.not_false, Bool.not_eq_eq_eq_not, not_true_eq_false, not_false_eq_true, reduceCtorEq, Bool.true_or, Bool.false_or, Bool.or_true, Bool.or_false, Bool.true_and, Bool.and_true, Bool.false_and, Bool.and_false, true_and, and_true, or_false, false_or, true_or, or_true, false_and, and_false, Bool.true_eq_false, Bool.false_eq_true] at *) <;> omega)
    have hl : lowB s = true := lowB_true fun i hi => hall i (by omega)
    have he := eqS_empty s
    clear low h1
    repeat' (first
      | (refine ifK_split (fun h => ?_) (fun h => ?_) <;> (rw [h]; ((conv => whnf); repeat (refine And.intro rfl ?_; (conv => whnf)))))
      | exact deep_eq (congrArg (fun b => D.sc (.bool b)) (by
          unfold namedB
          rw [hl]
          have e0 : eqS s ⟨#[]⟩ = decide (s.size = 0) := by rw [Bool.eq_iff_iff, he]; simp
          rw [e0]
          simp_all [eqS, sTrue, sFalse, sSilent, -ByteArray.size_eq_zero_iff]
          try omega)))
def c153_1 : PC := .seq (.ops [⟨(some 9), .bin .lss (.tmp 8) (.tmp 7), none, 0⟩] false) (.seq (.cond (.tmp 9) (.skip) (.exit 0)) (.seq (.block 1 (.seq (.ops [⟨(some 10), .move (.tmp 8), none, 0⟩,
    ⟨(some 5), .move (.tmp 10), none, 0⟩] false) (.seq (.ops [⟨(some 11), .move (.tmp 1), none, 0⟩,
    ⟨(some 12), .move (.tmp 0), none, 0⟩,
    ⟨(some 13), .move (.tmp 5), none, 0⟩,
    ⟨(some 14), .iaddr 1 (.tmp 12) (.tmp 13), none, 0⟩,
    ⟨(some 15), .load1 (.tmp 14), none, 0⟩,
    ⟨(some 16), .bin .eql (.tmp 11) (.tmp 15), none, 0⟩] false) (.cond (.tmp 16) (.seq (.ops [⟨(some 17), .move (.tmp 5), none, 0⟩,
    ⟨(some 4), .move (.tmp 17), none, 0⟩] false) (.ret)) (.skip))))) (.ops [⟨(some 18), .bin .add (.tmp 8) (.const (.int .i64 1)), none, 0⟩,
    ⟨(some 8), .move (.tmp 18), none, 0⟩] false)))
def c153 : PC := .seq (.ops [⟨(some 4), .move (.const (.int .i64 0)), none, 0⟩] false) (.seq (.seq (.ops [⟨(some 6), .move (.tmp 0), none, 0⟩,
    ⟨(some 7), .len (.tmp 6), none, 0⟩,
    ⟨(some 8), .move (.const (.int .i64 0)), none, 0⟩] false) (.block 0 (.loop c153_1))) (.seq (.ops [⟨(some 4), .move (.const (.int .i64 (-1))), none, 0⟩] false) (.ret)))
set_option maxRecDepth 100000 in
theorem c153_ok : FunOK Try.prog 153 19 [.tmp 4] c153 := ⟨⟨Try.f153, Try.func153, rfl, by kernel_rfl, rfl, by kernel_rfl⟩⟩
theorem index_str (l : List ByteArray) (s : ByteArray) (hl : l.length ≤ 9223372036854775807) : PCall Try.prog 153 [dstrs l, .sc (.string s)] (.sc (.int .i64 (match l.findIdx? (eqS s) with | some i => (i : Int) | none => -1))) := by
  refine pcall_intro c153_ok (by simp) (by simp [PureL, Pure, pure_dstrs]) ?_ (by simp [Pure])
  unfold dstrs
  (apply red_sound; focus (repeat' (first | exact Red.skip | exact Red.ret | exact RedO.nil | exact RedD.nil | exact Red.exit _ | exact Red.loop _ | exact Red.stop _ | apply Red.ops | apply Red.draw | apply Red.seq | apply Red.cond | apply Red.block | apply RedO.cons | apply RedD.cons | exact (0 : Nat))))
  ((conv => whnf); repeat (refine And.intro rfl ?_; (conv => whnf)))
  rw [List.length_map]
  refine pwp_loop (fun k : Nat => [(0, dstrs l), (1, .sc (.string s)), (7, .sc (.int .i64 l.length)), (8, .sc (.int .i64 k))]) (fun _ => []) (fun k => k ≤ l.length ∧ ∀ j (h : j < k) (h2 : j < l.length), eqS s l[j] = false) (fun k => l.length - k) 0 ⟨by omega, fun _ h => by omega⟩
    (le_env ⟨rfl, rfl, rfl, rfl, trivial⟩) ?_
  rintro k ⟨hk, hno⟩
  unfold dstrs
  (apply red_sound; focus (repeat' (first | exact Red.skip | exact Red.ret | exact RedO.nil | exact RedD.nil | exact Red.exit _ | exact Red.loop _ | exact Red.stop _ | apply Red.ops | apply Red.draw | apply Red.seq | apply Red.cond | apply Red.block | apply RedO.cons | apply RedD.cons | exact (0 : Nat))))
  ((conv => whnf); repeat (refine And.intro rfl ?_; (conv => whnf)))
  (refine ifK_split (fun h => ?_) (fun h => ?_) <;> (rw [h]; ((conv => whnf); repeat (refine And.intro rfl ?_; (conv => whnf)))))
  · have hk' : k < l.length := by ((try simp only [bne_iff_ne, ne_eq, bne_eq_false_iff_eq, beq_iff_eq, beq_eq_false_iff_ne, decide_eq_true_eq, decide_eq_false_iff_not, List.length_map, Bool.not_eq_true, Bool.not_eq_false, Bool.and_eq_true, Bool.or_eq_true, Bool.and_eq_false_iff, Bool.or_eq_false_iff, Bool.not_eq_true', Bool.not_eq_false', Bool.not_true, Bool.not_false, Bool.not_eq_eq_eq_not, not_true_eq_false, not_false_eq_true, reduceCtorEq, Bool.true_or, Bool.false_or, Bool.or_true, Bool.or_false, Bool.true_and, Bool.and_true, Bool.false_and, Bool.and_false, true_and, and_true, or_false, false_or, true_or, or_true, false_and, and_false, Bool.true_eq_false, Bool.false_eq_true] at *) <;> omega)
    refine ⟨by omega, _, str_at hk', ?_⟩
    ((conv => whnf); repeat (refine And.intro rfl ?_; (conv => whnf)))
    have hg : l.getD k ⟨#[]⟩ = l[k] := by rw [List.getD_eq_getElem?_getD, List.getElem?_eq_getElem hk']; rfl
    (refine ifK_split (fun h2 => ?_) (fun h2 => ?_) <;> (rw [h2]; ((conv => whnf); repeat (refine And.intro rfl ?_; (conv => whnf)))))
    · have : l.findIdx? (eqS s) = some k := by
        rw [List.findIdx?_eq_some_iff_getElem]
        exact ⟨by omega, by rw [← hg]; exact h2, fun j hj => by simp [hno j hj (by omega)]⟩
      rw [this]
      exact Deep.refl _
    · refine .inl ⟨by unfold InR; rw [IntKind.wrap_i64]; omega, ?_⟩
      ((conv => whnf); repeat (refine And.intro rfl ?_; (conv => whnf)))
      refine ⟨k + 1, ⟨by omega, fun j hj hl => ?_⟩, by dsimp only; omega, le_env ⟨rfl, rfl, rfl, rfl, trivial⟩⟩
      by_cases e : j = k
      · subst e; rw [← hg]; exact h2
      · exact hno j (by omega) hl
  · have : l.findIdx? (eqS s) = none := by
      have hk' : ¬ k < l.length := by ((try simp only [bne_iff_ne, ne_eq, bne_eq_false_iff_eq, beq_iff_eq, beq_eq_false_iff_ne, decide_eq_true_eq, decide_eq_false_iff_not, List.length_map, Bool.not_eq_true, Bool.not_eq_false, Bool.and_eq_true, Bool.or_eq_true, Bool.and_eq_false_iff, Bool.or_eq_false_iff, Bool.not_eq_true', Bool.not_eq_false', Bool.not_true, Bool.not_false, Bool.not_eq_eq_eq_not, not_true_eq_false, not_false_eq_true, reduceCtorEq, Bool.true_or, Bool.false_or, Bool.or_true, Bool.or_false, Bool.true_and, Bool.and_true, Bool.false_and, Bool.and_false, true_and, and_true, or_false, false_or, true_or, or_true, false_and, and_false, Bool.true_eq_false, Bool.false_eq_true] at *) <;> omega)
      rw [List.findIdx?_eq_none_iff]
      intro x hx
      obtain ⟨j, hj, rfl⟩ := List.mem_iff_getElem.1 hx
      simp [hno j (by omega) hj]
    rw [this]
    exact Deep.refl _
/-- The first of its like. -/
theorem idx_dup {l : List ByteArray} {n : Nat} (hn : n < l.length) : ((match l.findIdx? (eqS (l.getD n ⟨#[]⟩)) with | some i => (i : Int) | none => -1) : Int) ≠ (n : Int) ↔ dupB l n (l.getD n ⟨#[]⟩) = true := by
  have hg : ∀ j (h : j < l.length), l.getD j ⟨#[]⟩ = l[j] := fun j h => by rw [List.getD_eq_getElem?_getD, List.getElem?_eq_getElem h]; rfl
  cases h : l.findIdx? (eqS (l.getD n ⟨#[]⟩)) with
  | none =>
    rw [List.findIdx?_eq_none_iff] at h
    have := h l[n] (List.getElem_mem _)
    rw [hg n hn] at this
    simp at this
  | some i =>
    rw [List.findIdx?_eq_some_iff_getElem] at h
    obtain ⟨h1, h2, h3⟩ := h
    constructor
    · intro hne
      have hne : (i : Int) ≠ n := hne
      have : i < n := by
        rcases Nat.lt_trichotomy i n with q | q | q
        · exact q
        · omega
        · have := h3 n q
          rw [hg n hn] at this
          simp at this
      exact dupB_true this (by rw [eqS_symm, hg i h1]; exact h2)
    · intro hd
      show (i : Int) ≠ n
      unfold dupB at hd
      rw [List.any_eq_true] at hd
      obtain ⟨j, hj, hd⟩ := hd
      rw [List.mem_range] at hj
      rintro e
      have := h3 j (by omega)
      rw [← hg j (by omega), eqS_symm, hd] at this
      simp at this
def c126 : PC := .seq (.ops [⟨(some 4), .move (.const (.string ⟨#[]⟩)), none, 0⟩] false) (.seq (.seq (.ops [⟨(some 5), .move (.tmp 0), none, 0⟩,
    ⟨(some 6), .bin .eql (.tmp 5) (.const (.int .i64 63)), none, 0⟩] false) (.cond (.tmp 6) (.seq (.ops [⟨(some 4), .move (.const (.string ⟨#[115, 105, 108, 101, 110, 116]⟩)), none, 0⟩] false) (.ret)) (.skip))) (.seq (.seq (.ops [⟨(some 7), .move (.tmp 0), none, 0⟩,
    ⟨(some 8), .move (.tmp 1), none, 0⟩,
    ⟨(some 9), .len (.tmp 8), none, 0⟩,
    ⟨(some 10), .bin .geq (.tmp 7) (.tmp 9), none, 0⟩,
    ⟨(some 11), .move (.tmp 10), none, 0⟩,
    ⟨(some 12), .move (.tmp 1), (some (11, false)), 0⟩,
    ⟨(some 13), .move (.tmp 0), (some (11, false)), 0⟩,
    ⟨(some 14), .iaddr 1 (.tmp 12) (.tmp 13), (some (11, false)), 0⟩,
    ⟨(some 15), .load1 (.tmp 14), (some (11, false)), 0⟩,
    ⟨(some 16), .call 152 [(.tmp 15)], (some (11, false)), 0⟩,
    ⟨(some 17), .un .not (.tmp 16), (some (11, false)), 0⟩,
    ⟨(some 18), .pick (.tmp 11) (.const (.bool true)) (.tmp 17), none, 0⟩,
    ⟨(some 19), .move (.tmp 18), none, 0⟩,
    ⟨(some 20), .move (.tmp 1), (some (19, false)), 0⟩,
    ⟨(some 21), .move (.tmp 1), (some (19, false)), 0⟩,
    ⟨(some 22), .move (.tmp 0), (some (19, false)), 0⟩,
    ⟨(some 23), .iaddr 1 (.tmp 21) (.tmp 22), (some (19, false)), 0⟩,
    ⟨(some 24), .load1 (.tmp 23), (some (19, false)), 0⟩,
    ⟨(some 25), .call 153 [(.tmp 20), (.tmp 24)], (some (19, false)), 0⟩,
    ⟨(some 26), .move (.tmp 0), (some (19, false)), 0⟩,
    ⟨(some 27), .bin .neq (.tmp 25) (.tmp 26), (some (19, false)), 0⟩,
    ⟨(some 28), .pick (.tmp 19) (.const (.bool true)) (.tmp 27), none, 0⟩] false) (.cond (.tmp 28) (.seq (.ops [⟨(some 4), .move (.const (.string ⟨#[]⟩)), none, 0⟩] false) (.ret)) (.skip))) (.seq (.ops [⟨(some 29), .move (.tmp 1), none, 0⟩,
    ⟨(some 30), .move (.tmp 0), none, 0⟩,
    ⟨(some 31), .iaddr 1 (.tmp 29) (.tmp 30), none, 0⟩,
    ⟨(some 32), .load1 (.tmp 31), none, 0⟩,
    ⟨(some 4), .move (.tmp 32), none, 0⟩] false) (.ret))))
set_option maxRecDepth 100000 in
theorem c126_ok : FunOK Try.prog 126 33 [.tmp 4] c126 := ⟨⟨Try.f126, Try.func126, rfl, by kernel_rfl, rfl, by kernel_rfl⟩⟩
theorem ltl_name (names : List ByteArray) (hs : SmallS names) (n : Int) (hn : 0 ≤ n) : PCall Try.prog 126 [.sc (.int .i64 n), dstrs names] (.sc (.string (nm names n))) := by
  refine pcall_intro c126_ok (by simp) (by simp [PureL, Pure, pure_dstrs]) ?_ (by simp [Pure])
  unfold dstrs
  (apply red_sound; focus (repeat' (first | exact Red.skip | exact Red.ret | exact RedO.nil | exact RedD.nil | exact Red.exit _ | exact Red.loop _ | exact Red.stop _ | apply Red.ops | apply Red.draw | apply Red.seq | apply Red.cond | apply Red.block | apply RedO.cons | apply RedD.cons | exact (0 : Nat))))
  ((conv => whnf); repeat (refine And.intro rfl ?_; (conv => whnf)))
  have eq : ∀ {s : ByteArray}, s = nm names n → Deep [] (D.sc (.string s)) (.sc (.string (nm names n))) := fun h => h ▸ .refl _
  (refine ifK_split (fun h1 => ?_) (fun h1 => ?_) <;> (rw [h1]; ((conv => whnf); repeat (refine And.intro rfl ?_; (conv => whnf)))))
  · exact eq (by simp only [beq_iff_eq] at h1; simp [nm, h1, sSilent])
  have h1 : n ≠ 63 := by ((try simp only [bne_iff_ne, ne_eq, bne_eq_false_iff_eq, beq_iff_eq, beq_eq_false_iff_ne, decide_eq_true_eq, decide_eq_false_iff_not, List.length_map, Bool.not_eq_true, Bool.not_eq_false, Bool.and_eq_true, Bool.or_eq_true, Bool.and_eq_false_iff, Bool.or_eq_false_iff, Bool.not_eq_true', Bool.not_eq_false', Bool.not_true, Bool.not_false, Bool.not_eq_eq_eq_not, not_true_eq_false, not_false_eq_true, reduceCtorEq, Bool.true_or, Bool.false_or, Bool.or_true, Bool.or_false, Bool.true_and, Bool.and_true, Bool.false_and, Bool.and_false, true_and, and_true, or_false, false_or, true_or, or_true, false_and, and_false, Bool.true_eq_false, Bool.false_eq_true] at *) <;> omega)
  rw [List.length_map]
  (refine ifK_split (fun h2 => ?_) (fun h2 => ?_) <;> (rw [h2]; ((conv => whnf); repeat (refine And.intro rfl ?_; (conv => whnf)))))
  · exact eq (by have : (names.length : Int) ≤ n := by ((try simp only [bne_iff_ne, ne_eq, bne_eq_false_iff_eq, beq_iff_eq, beq_eq_false_iff_ne, decide_eq_true_eq, decide_eq_false_iff_not, List.length_map, Bool.not_eq_true, Bool.not_eq_false, Bool.and_eq_true, Bool.or_eq_true, Bool.and_eq_false_iff, Bool.or_eq_false_iff, Bool.not_eq_true', Bool.not_eq_false', Bool.not_true, Bool.not_false, Bool.not_eq_eq_eq_not, not_true_eq_false, not_false_eq_true, reduceCtorEq, Bool.true_or, Bool.false_or, Bool.or_true, Bool.or_false, Bool.true_and, Bool.and_true, Bool.false_and, Bool.and_false, true_and, and_true, or_false, false_or, true_or, or_true, false_and, and_false, Bool.true_eq_false, Bool.false_eq_true] at *) <;> omega)
                 simp [nm, h1, this])
  have h2 : ¬ (names.length : Int) ≤ n := by ((try simp only [bne_iff_ne, ne_eq, bne_eq_false_iff_eq, beq_iff_eq, beq_eq_false_iff_ne, decide_eq_true_eq, decide_eq_false_iff_not, List.length_map, Bool.not_eq_true, Bool.not_eq_false, Bool.and_eq_true, Bool.or_eq_true, Bool.and_eq_false_iff, Bool.or_eq_false_iff, Bool.not_eq_true', Bool.not_eq_false', Bool.not_true, Bool.not_false, Bool.not_eq_eq_eq_not, not_true_eq_false, not_false_eq_true, reduceCtorEq, Bool.true_or, Bool.false_or, Bool.or_true, Bool.or_false, Bool.true_and, Bool.and_true, Bool.false_and, Bool.and_false, true_and, and_true, or_false, false_or, true_or, or_true, false_and, and_false, Bool.true_eq_false, Bool.false_eq_true] at *) <;> omega)
  have hk : n.toNat < names.length := by omega
  refine ⟨hn, _, str_at hk, ?_⟩
  ((conv => whnf); repeat (refine And.intro rfl ?_; (conv => whnf)))
  (refine .inl ⟨_, (proc_Named _ (hs.at hk)), ?_⟩; ((conv => whnf); repeat (refine And.intro rfl ?_; (conv => whnf))))
  (refine ifK_split (fun h3 => ?_) (fun h3 => ?_) <;> (rw [h3]; ((conv => whnf); repeat (refine And.intro rfl ?_; (conv => whnf)))))
  · exact eq (by have : namedB (names.getD n.toNat ⟨#[]⟩) = false := by simpa using h3
                 unfold nm; rw [if_neg h1, if_neg h2, if_pos this])
  have h3 : ¬ namedB (names.getD n.toNat ⟨#[]⟩) = false := by simpa using h3
  refine ⟨hn, _, str_at hk, ?_⟩
  ((conv => whnf); repeat (refine And.intro rfl ?_; (conv => whnf)))
  (refine .inl ⟨_, (index_str names _ hs.1), ?_⟩; ((conv => whnf); repeat (refine And.intro rfl ?_; (conv => whnf))))
  have hd := idx_dup hk
  rw [show (n.toNat : Int) = n by omega] at hd
  (refine ifK_split (fun h4 => ?_) (fun h4 => ?_) <;> (rw [h4]; ((conv => whnf); repeat (refine And.intro rfl ?_; (conv => whnf)))))
  · exact eq (by have : dupB names n.toNat (names.getD n.toNat ⟨#[]⟩) = true := hd.1 (by simpa using h4)
                 unfold nm; rw [if_neg h1, if_neg h2, if_neg h3, if_pos this])
  · refine ⟨hn, _, str_at hk, ?_⟩
    ((conv => whnf); repeat (refine And.intro rfl ?_; (conv => whnf)))
    exact eq (by have : ¬ dupB names n.toNat (names.getD n.toNat ⟨#[]⟩) = true := fun h => hd.2 h (by simpa using h4)
                 unfold nm; rw [if_neg h1, if_neg h2, if_neg h3, if_neg this])
def c75_1 : PC := .seq (.seq (.ops [⟨(some 24), .move (.tmp 5), none, 0⟩,
    ⟨(some 25), .move (.tmp 0), none, 0⟩,
    ⟨(some 26), .bin .lss (.tmp 24) (.tmp 25), none, 0⟩] false) (.cond (.tmp 26) (.skip) (.exit 0))) (.seq (.block 1 (.seq (.ops [⟨(some 29), .move (.tmp 1), none, 0⟩,
    ⟨(some 30), .move (.tmp 5), none, 0⟩,
    ⟨(some 31), .iaddr 1 (.tmp 29) (.tmp 30), none, 3⟩,
    ⟨(some 32), .load1 (.tmp 31), none, 7⟩,
    ⟨(some 33), .move (.tmp 1), none, 0⟩,
    ⟨(some 34), .move (.tmp 0), none, 0⟩,
    ⟨(some 35), .iaddr 1 (.tmp 33) (.tmp 34), none, 48⟩,
    ⟨(some 36), .load1 (.tmp 35), none, 112⟩,
    ⟨(some 37), .bin .eql (.tmp 32) (.tmp 36), none, 255⟩] true) (.cond (.tmp 37) (.seq (.ops [⟨(some 4), .move (.const (.string ⟨#[]⟩)), none, 0⟩] false) (.ret)) (.skip)))) (.ops [⟨(some 27), .move (.tmp 5), none, 0⟩,
    ⟨(some 28), .bin .add (.tmp 27) (.const (.int .i64 1)), none, 0⟩,
    ⟨(some 5), .move (.tmp 28), none, 0⟩] false))
def c75 : PC := .seq (.ops [⟨(some 4), .move (.const (.string ⟨#[]⟩)), none, 0⟩] false) (.seq (.seq (.ops [⟨(some 6), .move (.tmp 0), none, 0⟩,
    ⟨(some 7), .bin .eql (.tmp 6) (.const (.int .i64 63)), none, 0⟩] false) (.cond (.tmp 7) (.seq (.ops [⟨(some 4), .move (.const (.string ⟨#[115, 105, 108, 101, 110, 116]⟩)), none, 0⟩] false) (.ret)) (.skip))) (.seq (.seq (.ops [⟨(some 8), .move (.tmp 0), none, 0⟩,
    ⟨(some 9), .bin .lss (.tmp 8) (.const (.int .i64 0)), none, 0⟩,
    ⟨(some 10), .move (.tmp 9), none, 0⟩,
    ⟨(some 11), .move (.tmp 0), (some (10, false)), 0⟩,
    ⟨(some 12), .move (.tmp 1), (some (10, false)), 0⟩,
    ⟨(some 13), .len (.tmp 12), (some (10, false)), 0⟩,
    ⟨(some 14), .bin .geq (.tmp 11) (.tmp 13), (some (10, false)), 0⟩,
    ⟨(some 15), .pick (.tmp 10) (.const (.bool true)) (.tmp 14), none, 0⟩,
    ⟨(some 16), .move (.tmp 15), none, 0⟩,
    ⟨(some 17), .move (.tmp 1), (some (16, false)), 0⟩,
    ⟨(some 18), .move (.tmp 0), (some (16, false)), 0⟩,
    ⟨(some 19), .iaddr 1 (.tmp 17) (.tmp 18), (some (16, false)), 0⟩,
    ⟨(some 20), .load1 (.tmp 19), (some (16, false)), 0⟩,
    ⟨(some 21), .call 125 [(.tmp 20)], (some (16, false)), 0⟩,
    ⟨(some 22), .un .not (.tmp 21), (some (16, false)), 0⟩,
    ⟨(some 23), .pick (.tmp 16) (.const (.bool true)) (.tmp 22), none, 0⟩] false) (.cond (.tmp 23) (.seq (.ops [⟨(some 4), .move (.const (.string ⟨#[]⟩)), none, 0⟩] false) (.ret)) (.skip))) (.seq (.seq (.ops [⟨(some 5), .move (.const (.int .i64 0)), none, 0⟩] false) (.block 0 (.loop c75_1))) (.seq (.ops [⟨(some 38), .move (.tmp 1), none, 0⟩,
    ⟨(some 39), .move (.tmp 0), none, 0⟩,
    ⟨(some 40), .iaddr 1 (.tmp 38) (.tmp 39), none, 0⟩,
    ⟨(some 41), .load1 (.tmp 40), none, 0⟩,
    ⟨(some 4), .move (.tmp 41), none, 0⟩] false) (.ret)))))
set_option maxRecDepth 100000 in
theorem c75_ok : FunOK Try.prog 75 42 [.tmp 4] c75 := ⟨⟨Try.f75, Try.func75, rfl, by kernel_rfl, rfl, by kernel_rfl⟩⟩
theorem ref_NameOf (names : List ByteArray) (hs : SmallS names) (n : Int) (hn : 0 ≤ n) : PCall Try.prog 75 [.sc (.int .i64 n), dstrs names] (.sc (.string (nm names n))) := by
  refine pcall_intro c75_ok (by simp) (by simp [PureL, Pure, pure_dstrs]) ?_ (by simp [Pure])
  unfold dstrs
  (apply red_sound; focus (repeat' (first | exact Red.skip | exact Red.ret | exact RedO.nil | exact RedD.nil | exact Red.exit _ | exact Red.loop _ | exact Red.stop _ | apply Red.ops | apply Red.draw | apply Red.seq | apply Red.cond | apply Red.block | apply RedO.cons | apply RedD.cons | exact (0 : Nat))))
  ((conv => whnf); repeat (refine And.intro rfl ?_; (conv => whnf)))
  have eq : ∀ {s : ByteArray}, s = nm names n → Deep [] (D.sc (.string s)) (.sc (.string (nm names n))) := fun h => h ▸ .refl _
  (refine ifK_split (fun h1 => ?_) (fun h1 => ?_) <;> (rw [h1]; ((conv => whnf); repeat (refine And.intro rfl ?_; (conv => whnf)))))
  · exact eq (by simp only [beq_iff_eq] at h1; simp [nm, h1, sSilent])
  have h1 : n ≠ 63 := by ((try simp only [bne_iff_ne, ne_eq, bne_eq_false_iff_eq, beq_iff_eq, beq_eq_false_iff_ne, decide_eq_true_eq, decide_eq_false_iff_not, List.length_map, Bool.not_eq_true, Bool.not_eq_false, Bool.and_eq_true, Bool.or_eq_true, Bool.and_eq_false_iff, Bool.or_eq_false_iff, Bool.not_eq_true', Bool.not_eq_false', Bool.not_true, Bool.not_false, Bool.not_eq_eq_eq_not, not_true_eq_false, not_false_eq_true, reduceCtorEq, Bool.true_or, Bool.false_or, Bool.or_true, Bool.or_false, Bool.true_and, Bool.and_true, Bool.false_and, Bool.and_false, true_and, and_true, or_false, false_or, true_or, or_true, false_and, and_false, Bool.true_eq_false, Bool.false_eq_true] at *) <;> omega)
  (refine ifK_split (fun h0 => ?_) (fun h0 => ?_) <;> (rw [h0]; ((conv => whnf); repeat (refine And.intro rfl ?_; (conv => whnf)))))
  · exfalso; ((try simp only [bne_iff_ne, ne_eq, bne_eq_false_iff_eq, beq_iff_eq, beq_eq_false_iff_ne, decide_eq_true_eq, decide_eq_false_iff_not, List.length_map, Bool.not_eq_true, Bool.not_eq_false, Bool.and_eq_true, Bool.or_eq_true, Bool.and_eq_false_iff, Bool.or_eq_false_iff, Bool.not_eq_true', Bool.not_eq_false', Bool.not_true, Bool.not_false, Bool.not_eq_eq_eq_not, not_true_eq_false, not_false_eq_true, reduceCtorEq, Bool.true_or, Bool.false_or, Bool.or_true, Bool.or_false, Bool.true_and, Bool.and_true, Bool.false_and, Bool.and_false, true_and, and_true, or_false, false_or, true_or, or_true, false_and, and_false, Bool.true_eq_false, Bool.false_eq_true] at *) <;> omega)
  rw [List.length_map]
  (refine ifK_split (fun h2 => ?_) (fun h2 => ?_) <;> (rw [h2]; ((conv => whnf); repeat (refine And.intro rfl ?_; (conv => whnf)))))
  · exact eq (by have : (names.length : Int) ≤ n := by ((try simp only [bne_iff_ne, ne_eq, bne_eq_false_iff_eq, beq_iff_eq, beq_eq_false_iff_ne, decide_eq_true_eq, decide_eq_false_iff_not, List.length_map, Bool.not_eq_true, Bool.not_eq_false, Bool.and_eq_true, Bool.or_eq_true, Bool.and_eq_false_iff, Bool.or_eq_false_iff, Bool.not_eq_true', Bool.not_eq_false', Bool.not_true, Bool.not_false, Bool.not_eq_eq_eq_not, not_true_eq_false, not_false_eq_true, reduceCtorEq, Bool.true_or, Bool.false_or, Bool.or_true, Bool.or_false, Bool.true_and, Bool.and_true, Bool.false_and, Bool.and_false, true_and, and_true, or_false, false_or, true_or, or_true, false_and, and_false, Bool.true_eq_false, Bool.false_eq_true] at *) <;> omega)
                 simp [nm, h1, this])
  have h2 : ¬ (names.length : Int) ≤ n := by ((try simp only [bne_iff_ne, ne_eq, bne_eq_false_iff_eq, beq_iff_eq, beq_eq_false_iff_ne, decide_eq_true_eq, decide_eq_false_iff_not, List.length_map, Bool.not_eq_true, Bool.not_eq_false, Bool.and_eq_true, Bool.or_eq_true, Bool.and_eq_false_iff, Bool.or_eq_false_iff, Bool.not_eq_true', Bool.not_eq_false', Bool.not_true, Bool.not_false, Bool.not_eq_eq_eq_not, not_true_eq_false, not_false_eq_true, reduceCtorEq, Bool.true_or, Bool.false_or, Bool.or_true, Bool.or_false, Bool.true_and, Bool.and_true, Bool.false_and, Bool.and_false, true_and, and_true, or_false, false_or, true_or, or_true, false_and, and_false, Bool.true_eq_false, Bool.false_eq_true] at *) <;> omega)
  have hk : n.toNat < names.length := by omega
  refine ⟨hn, _, str_at hk, ?_⟩
  ((conv => whnf); repeat (refine And.intro rfl ?_; (conv => whnf)))
  (refine .inl ⟨_, (ref_Named _ (hs.at hk)), ?_⟩; ((conv => whnf); repeat (refine And.intro rfl ?_; (conv => whnf))))
  (refine ifK_split (fun h3 => ?_) (fun h3 => ?_) <;> (rw [h3]; ((conv => whnf); repeat (refine And.intro rfl ?_; (conv => whnf)))))
  · exact eq (by have : namedB (names.getD n.toNat ⟨#[]⟩) = false := by simpa using h3
                 unfold nm; rw [if_neg h1, if_neg h2, if_pos this])
  have h3 : ¬ namedB (names.getD n.toNat ⟨#[]⟩) = false := by simpa using h3
  have hl := hs.1
  clear h0
  refine pwp_loop (fun k : Nat => [(0, .sc (.int .i64 n)), (1, dstrs names), (5, .sc (.int .i64 k))]) (fun _ => []) (fun k => k ≤ n.toNat ∧ ∀ j, j < k → eqS (names.getD j ⟨#[]⟩) (names.getD n.toNat ⟨#[]⟩) = false) (fun k => n.toNat - k) 0 ⟨by omega, fun j h => by omega⟩ (le_env ⟨rfl, rfl, rfl, trivial⟩) ?_
  rintro k ⟨hk2, hall⟩
  unfold dstrs
  (apply red_sound; focus (repeat' (first | exact Red.skip | exact Red.ret | exact RedO.nil | exact RedD.nil | exact Red.exit _ | exact Red.loop _ | exact Red.stop _ | apply Red.ops | apply Red.draw | apply Red.seq | apply Red.cond | apply Red.block | apply RedO.cons | apply RedD.cons | exact (0 : Nat))))
  ((conv => whnf); repeat (refine And.intro rfl ?_; (conv => whnf)))
  (refine ifK_split (fun h4 => ?_) (fun h4 => ?_) <;> (rw [h4]; ((conv => whnf); repeat (refine And.intro rfl ?_; (conv => whnf)))))
  · have hk3 : k < n.toNat := by ((try simp only [bne_iff_ne, ne_eq, bne_eq_false_iff_eq, beq_iff_eq, beq_eq_false_iff_ne, decide_eq_true_eq, decide_eq_false_iff_not, List.length_map, Bool.not_eq_true, Bool.not_eq_false, Bool.and_eq_true, Bool.or_eq_true, Bool.and_eq_false_iff, Bool.or_eq_false_iff, Bool.not_eq_true', Bool.not_eq_false', Bool.not_true, Bool.not_false, Bool.not_eq_eq_eq_not, not_true_eq_false, not_false_eq_true, reduceCtorEq, Bool.true_or, Bool.false_or, Bool.or_true, Bool.or_false, Bool.true_and, Bool.and_true, Bool.false_and, Bool.and_false, true_and, and_true, or_false, false_or, true_or, or_true, false_and, and_false, Bool.true_eq_false, Bool.false_eq_true] at *) <;> omega)
    refine ⟨by omega, _, str_at (by omega), ?_⟩
    ((conv => whnf); repeat (refine And.intro rfl ?_; (conv => whnf)))
    refine ⟨by omega, _, str_at hk, ?_⟩
    ((conv => whnf); repeat (refine And.intro rfl ?_; (conv => whnf)))
    (refine ifK_split (fun h5 => ?_) (fun h5 => ?_) <;> (rw [h5]; ((conv => whnf); repeat (refine And.intro rfl ?_; (conv => whnf)))))
    · exact eq (by have : dupB names n.toNat (names.getD n.toNat ⟨#[]⟩) = true := dupB_true hk3 h5
                   unfold nm; rw [if_neg h1, if_neg h2, if_neg h3, if_pos this])
    refine .inl ⟨by unfold InR; rw [IntKind.wrap_i64]; omega, ?_⟩
    ((conv => whnf); repeat (refine And.intro rfl ?_; (conv => whnf)))
    refine ⟨k + 1, ⟨by omega, fun j hj => ?_⟩, by dsimp only; omega, le_env ⟨rfl, rfl, rfl, trivial⟩⟩
    by_cases e : j = k
    · subst e; exact h5
    · exact hall j (by omega)
  · have hk3 : ¬ k < n.toNat := by ((try simp only [bne_iff_ne, ne_eq, bne_eq_false_iff_eq, beq_iff_eq, beq_eq_false_iff_ne, decide_eq_true_eq, decide_eq_false_iff_not, List.length_map, Bool.not_eq_true, Bool.not_eq_false, Bool.and_eq_true, Bool.or_eq_true, Bool.and_eq_false_iff, Bool.or_eq_false_iff, Bool.not_eq_true', Bool.not_eq_false', Bool.not_true, Bool.not_false, Bool.not_eq_eq_eq_not, not_true_eq_false, not_false_eq_true, reduceCtorEq, Bool.true_or, Bool.false_or, Bool.or_true, Bool.or_false, Bool.true_and, Bool.and_true, Bool.false_and, Bool.and_false, true_and, and_true, or_false, false_or, true_or, or_true, false_and, and_false, Bool.true_eq_false, Bool.false_eq_true] at *) <;> omega)
    refine ⟨hn, _, str_at hk, ?_⟩
    ((conv => whnf); repeat (refine And.intro rfl ?_; (conv => whnf)))
    exact eq (by have : ¬ dupB names n.toNat (names.getD n.toNat ⟨#[]⟩) = true := by rw [dupB_false fun i hi => hall i (by omega)]; simp
                 unfold nm; rw [if_neg h1, if_neg h2, if_neg h3, if_neg this])
end Go.Proofs.Ytkkfiadefekbbaa
