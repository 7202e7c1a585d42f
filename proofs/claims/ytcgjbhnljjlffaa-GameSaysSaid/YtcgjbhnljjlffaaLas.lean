/-
  Words that go round, over deep values. No statement is proved here.
-/
import Derived.Test.YtcgjbhnljjlffaaDk2
import Derived.Test.YtcgjbhnljjlffaaLw
import Derived.Test.YtcgjbhnljjlffaaProg
namespace Go.Proofs.Ytcgjbhnljjlffaa
open Go.RowKit
set_option linter.unusedSimpArgs false
def du (n : Int) : D := .sc (.int .u64 n)
def dlet (l : List Int) : D := .lst 1 (l.map fun n => [.sc (.int .u64 n)])
def wcells (s l : List Int) : List D := [dlet s, dlet l]
def dword (s l : List Int) : D := .agg (wcells s l)
theorem pure_dlet (l : List Int) : Pure (dlet l) := by
  simp only [dlet, Pure]; exact pureLL_map _ (fun n => by simp [PureL, Pure]) l
theorem pure_wcells (s l : List Int) : PureL (wcells s l) := by simp [wcells, PureL, pure_dlet]
theorem pure_dword (s l : List Int) : Pure (dword s l) := by simp [dword, Pure, pure_wcells]
theorem let_at {l : List Int} {k : Nat} (h : k < l.length) : (l.map fun n => [D.sc (.int .u64 n)])[k]? = some [.sc (.int .u64 (l.getD k 0))] := by
  rw [List.getElem?_map, List.getElem?_eq_getElem h, List.getD_eq_getElem?_getD, List.getElem?_eq_getElem h]; rfl
theorem let_atZ {l : List Int} {z : Int} (k : Nat) (hz : z = k) (h : k < l.length) : 0 ≤ z ∧ (l.map fun n => [D.sc (.int .u64 n)])[z.toNat]? = some [.sc (.int .u64 (l.getD k 0))] := by
  subst hz
  exact ⟨by omega, let_at h⟩
/-- What is wrong with a word. -/
def wchk (s l : List Int) : Int := if 60 < s.length ∨ 60 < s.length + l.length then 2 else if l.length = 0 then 1 else 0
theorem wchk_zero (s l : List Int) : wchk s l = 0 ↔ s.length + l.length ≤ 60 ∧ 1 ≤ l.length := by
  unfold wchk
  split
  · omega
  · split <;> omega
def c83 : PC := .seq (.ops [⟨(some 1), .box (.tmp 0), none, 0⟩,
    ⟨(some 2), .move (.const (.int .i64 0)), none, 0⟩] false) (.seq (.block 0 (.seq (.ops [⟨(some 4), .faddr 0 (.tmp 1), none, 0⟩,
    ⟨(some 5), .load1 (.tmp 4), none, 0⟩,
    ⟨(some 6), .len (.tmp 5), none, 0⟩,
    ⟨(some 7), .bin .gtr (.tmp 6) (.const (.int .i64 60)), none, 0⟩,
    ⟨(some 8), .move (.tmp 7), none, 0⟩,
    ⟨(some 9), .faddr 1 (.tmp 1), (some (8, false)), 0⟩,
    ⟨(some 10), .load1 (.tmp 9), (some (8, false)), 0⟩,
    ⟨(some 11), .len (.tmp 10), (some (8, false)), 0⟩,
    ⟨(some 12), .faddr 0 (.tmp 1), (some (8, false)), 0⟩,
    ⟨(some 13), .load1 (.tmp 12), (some (8, false)), 0⟩,
    ⟨(some 14), .len (.tmp 13), (some (8, false)), 0⟩,
    ⟨(some 15), .bin .sub (.const (.int .i64 60)) (.tmp 14), (some (8, false)), 0⟩,
    ⟨(some 16), .bin .gtr (.tmp 11) (.tmp 15), (some (8, false)), 0⟩,
    ⟨(some 17), .pick (.tmp 8) (.const (.bool true)) (.tmp 16), none, 0⟩,
    ⟨(some 3), .move (.tmp 17), none, 0⟩] false) (.cond (.tmp 3) (.seq (.ops [⟨(some 2), .move (.const (.int .i64 2)), none, 0⟩] false) (.ret)) (.seq (.ops [⟨(some 19), .faddr 1 (.tmp 1), none, 0⟩,
    ⟨(some 20), .load1 (.tmp 19), none, 0⟩,
    ⟨(some 21), .len (.tmp 20), none, 0⟩,
    ⟨(some 22), .bin .eql (.tmp 21) (.const (.int .i64 0)), none, 0⟩,
    ⟨(some 18), .move (.tmp 22), none, 0⟩] false) (.cond (.tmp 18) (.seq (.ops [⟨(some 2), .move (.const (.int .i64 1)), none, 0⟩] false) (.ret)) (.skip)))))) (.seq (.ops [⟨(some 2), .move (.const (.int .i64 0)), none, 0⟩] false) (.ret)))
set_option maxRecDepth 100000 in
theorem c83_ok : FunOK Try.prog 83 23 [.tmp 2] c83 := ⟨⟨Try.f83, Try.func83, rfl, by kernel_rfl, rfl, by kernel_rfl⟩⟩
theorem las_Check (s l : List Int) : PCall Try.prog 83 [dword s l] (.sc (.int .i64 (wchk s l))) := by
  refine pcall_intro c83_ok (by simp) (by simp [PureL, pure_dword]) ?_ (by simp [Pure])
  unfold dword wcells dlet
  (apply red_sound; focus (repeat' (first | exact Red.skip | exact Red.ret | exact RedO.nil | exact RedD.nil | exact Red.exit _ | exact Red.loop _ | exact Red.stop _ | apply Red.ops | apply Red.draw | apply Red.seq | apply Red.cond | apply Red.block | apply RedO.cons | apply RedD.cons | exact (0 : Nat))))
  ((conv => whnf); repeat (refine And.intro rfl ?_; (conv => whnf)))
  rw [List.length_map]
  have fin : ∀ {n : Int}, n = wchk s l → Deep [AObj.row true [.lst 1 (s.map fun n => [.sc (.int .u64 n)]), .lst 1 (l.map fun n => [.sc (.int .u64 n)])]] (.sc (.int .i64 n)) (.sc (.int .i64 (wchk s l))) := fun h => h ▸ .refl _
  (refine ifK_split (fun h1 => ?_) (fun h1 => ?_) <;> (rw [h1]; ((conv => whnf); repeat (refine And.intro rfl ?_; (conv => whnf)))))
  · exact fin (by unfold wchk; rw [if_pos (by ((try simp only [bne_iff_ne, ne_eq, bne_eq_false_iff_eq, beq_iff_eq, beq_eq_false_iff_ne, decide_eq_true_eq, decide_eq_false_iff_not, List.length_map, Bool.not_eq_true, Bool.not_eq_false, Bool.and_eq_true, Bool.or_eq_true, Bool.and_eq_false_iff, Bool.or_eq_false_iff, Bool.not_eq_true', Bool.not_eq_false', Bool.not_true, Bool.not_false, Bool.not_eq_eq_eq_not, not_true_eq_false, not_false_eq_true, reduceCtorEq, Bool.true_or, Bool.false_or, Bool.or_true, Bool.or_false, Bool.true_and, Bool.and_true, Bool.false_and, Bool.and_false, true_and, and_true, or_false, false_or, true_or, or_true, false_and, and_false, Bool.true_eq_false, Bool.false_eq_true] at *) <;> omega))])
  · refine .inl ⟨by unfold InR; rw [IntKind.wrap_i64]; ((try simp only [bne_iff_ne, ne_eq, bne_eq_false_iff_eq, beq_iff_eq, beq_eq_false_iff_ne, decide_eq_true_eq, decide_eq_false_iff_not, List.length_map, Bool.not_eq_true, Bool.not_eq_false, Bool.and_eq_true, Bool.or_eq_true, Bool.and_eq_false_iff, Bool.or_eq_false_iff, Bool.not_eq_true', Bool.not_eq_false', Bool.not_true, Bool.not_false, Bool.not_eq_eq_eq_not, not_true_eq_false, not_false_eq_true, reduceCtorEq, Bool.true_or, Bool.false_or, Bool.or_true, Bool.or_false, Bool.true_and, Bool.and_true, Bool.false_and, Bool.and_false, true_and, and_true, or_false, false_or, true_or, or_true, false_and, and_false, Bool.true_eq_false, Bool.false_eq_true] at *) <;> omega), ?_⟩
    rw [List.length_map]
    ((conv => whnf); repeat (refine And.intro rfl ?_; (conv => whnf)))
    (refine ifK_split (fun h2 => ?_) (fun h2 => ?_) <;> (rw [h2]; ((conv => whnf); repeat (refine And.intro rfl ?_; (conv => whnf)))))
    · exact fin (by unfold wchk; rw [if_pos (by ((try simp only [bne_iff_ne, ne_eq, bne_eq_false_iff_eq, beq_iff_eq, beq_eq_false_iff_ne, decide_eq_true_eq, decide_eq_false_iff_not, List.length_map, Bool.not_eq_true, Bool.not_eq_false, Bool.and_eq_true, Bool.or_eq_true, Bool.and_eq_false_iff, Bool.or_eq_false_iff, Bool.not_eq_true', Bool.not_eq_false', Bool.not_true, Bool.not_false, Bool.not_eq_eq_eq_not, not_true_eq_false, not_false_eq_true, reduceCtorEq, Bool.true_or, Bool.false_or, Bool.or_true, Bool.or_false, Bool.true_and, Bool.and_true, Bool.false_and, Bool.and_false, true_and, and_true, or_false, false_or, true_or, or_true, false_and, and_false, Bool.true_eq_false, Bool.false_eq_true] at *) <;> omega))])
    · rw [List.length_map]
      (refine ifK_split (fun h3 => ?_) (fun h3 => ?_) <;> (rw [h3]; ((conv => whnf); repeat (refine And.intro rfl ?_; (conv => whnf)))))
      · exact fin (by unfold wchk; rw [if_neg (by ((try simp only [bne_iff_ne, ne_eq, bne_eq_false_iff_eq, beq_iff_eq, beq_eq_false_iff_ne, decide_eq_true_eq, decide_eq_false_iff_not, List.length_map, Bool.not_eq_true, Bool.not_eq_false, Bool.and_eq_true, Bool.or_eq_true, Bool.and_eq_false_iff, Bool.or_eq_false_iff, Bool.not_eq_true', Bool.not_eq_false', Bool.not_true, Bool.not_false, Bool.not_eq_eq_eq_not, not_true_eq_false, not_false_eq_true, reduceCtorEq, Bool.true_or, Bool.false_or, Bool.or_true, Bool.or_false, Bool.true_and, Bool.and_true, Bool.false_and, Bool.and_false, true_and, and_true, or_false, false_or, true_or, or_true, false_and, and_false, Bool.true_eq_false, Bool.false_eq_true] at *) <;> omega)), if_pos (by ((try simp only [bne_iff_ne, ne_eq, bne_eq_false_iff_eq, beq_iff_eq, beq_eq_false_iff_ne, decide_eq_true_eq, decide_eq_false_iff_not, List.length_map, Bool.not_eq_true, Bool.not_eq_false, Bool.and_eq_true, Bool.or_eq_true, Bool.and_eq_false_iff, Bool.or_eq_false_iff, Bool.not_eq_true', Bool.not_eq_false', Bool.not_true, Bool.not_false, Bool.not_eq_eq_eq_not, not_true_eq_false, not_false_eq_true, reduceCtorEq, Bool.true_or, Bool.false_or, Bool.or_true, Bool.or_false, Bool.true_and, Bool.and_true, Bool.false_and, Bool.and_false, true_and, and_true, or_false, false_or, true_or, or_true, false_and, and_false, Bool.true_eq_false, Bool.false_eq_true] at *) <;> omega))])
      · exact fin (by unfold wchk; rw [if_neg (by ((try simp only [bne_iff_ne, ne_eq, bne_eq_false_iff_eq, beq_iff_eq, beq_eq_false_iff_ne, decide_eq_true_eq, decide_eq_false_iff_not, List.length_map, Bool.not_eq_true, Bool.not_eq_false, Bool.and_eq_true, Bool.or_eq_true, Bool.and_eq_false_iff, Bool.or_eq_false_iff, Bool.not_eq_true', Bool.not_eq_false', Bool.not_true, Bool.not_false, Bool.not_eq_eq_eq_not, not_true_eq_false, not_false_eq_true, reduceCtorEq, Bool.true_or, Bool.false_or, Bool.or_true, Bool.or_false, Bool.true_and, Bool.and_true, Bool.false_and, Bool.and_false, true_and, and_true, or_false, false_or, true_or, or_true, false_and, and_false, Bool.true_eq_false, Bool.false_eq_true] at *) <;> omega)), if_neg (by ((try simp only [bne_iff_ne, ne_eq, bne_eq_false_iff_eq, beq_iff_eq, beq_eq_false_iff_ne, decide_eq_true_eq, decide_eq_false_iff_not, List.length_map, Bool.not_eq_true, Bool.not_eq_false, Bool.and_eq_true, Bool.or_eq_true, Bool.and_eq_false_iff, Bool.or_eq_false_iff, Bool.not_eq_true', Bool.not_eq_false', Bool.not_true, Bool.not_false, Bool.not_eq_eq_eq_not, not_true_eq_false, not_false_eq_true, reduceCtorEq, Bool.true_or, Bool.false_or, Bool.or_true, Bool.or_false, Bool.true_and, Bool.and_true, Bool.false_and, Bool.and_false, true_and, and_true, or_false, false_or, true_or, or_true, false_and, and_false, Bool.true_eq_false, Bool.false_eq_true] at *) <;> omega))])
def c23 : PC := .seq (.ops [⟨(some 1), .box (.tmp 0), none, 0⟩,
    ⟨(some 2), .move (.const (.int .i64 0)), none, 0⟩] false) (.seq (.seq (.ops [⟨(some 3), .faddr 0 (.tmp 1), none, 0⟩,
    ⟨(some 4), .load1 (.tmp 3), none, 0⟩,
    ⟨(some 5), .len (.tmp 4), none, 0⟩,
    ⟨(some 6), .bin .gtr (.tmp 5) (.const (.int .i64 60)), none, 0⟩,
    ⟨(some 7), .move (.tmp 6), none, 0⟩,
    ⟨(some 8), .faddr 1 (.tmp 1), (some (7, false)), 0⟩,
    ⟨(some 9), .load1 (.tmp 8), (some (7, false)), 0⟩,
    ⟨(some 10), .len (.tmp 9), (some (7, false)), 0⟩,
    ⟨(some 11), .faddr 0 (.tmp 1), (some (7, false)), 0⟩,
    ⟨(some 12), .load1 (.tmp 11), (some (7, false)), 0⟩,
    ⟨(some 13), .len (.tmp 12), (some (7, false)), 0⟩,
    ⟨(some 14), .bin .sub (.const (.int .i64 60)) (.tmp 13), (some (7, false)), 0⟩,
    ⟨(some 15), .bin .gtr (.tmp 10) (.tmp 14), (some (7, false)), 0⟩,
    ⟨(some 16), .pick (.tmp 7) (.const (.bool true)) (.tmp 15), none, 0⟩] false) (.cond (.tmp 16) (.seq (.ops [⟨(some 2), .move (.const (.int .i64 2)), none, 0⟩] false) (.ret)) (.skip))) (.seq (.seq (.ops [⟨(some 17), .faddr 1 (.tmp 1), none, 0⟩,
    ⟨(some 18), .load1 (.tmp 17), none, 0⟩,
    ⟨(some 19), .len (.tmp 18), none, 0⟩,
    ⟨(some 20), .bin .eql (.tmp 19) (.const (.int .i64 0)), none, 0⟩] false) (.cond (.tmp 20) (.seq (.ops [⟨(some 2), .move (.const (.int .i64 1)), none, 0⟩] false) (.ret)) (.skip))) (.seq (.ops [⟨(some 2), .move (.const (.int .i64 0)), none, 0⟩] false) (.ret))))
set_option maxRecDepth 100000 in
theorem c23_ok : FunOK Try.prog 23 21 [.tmp 2] c23 := ⟨⟨Try.f23, Try.func23, rfl, by kernel_rfl, rfl, by kernel_rfl⟩⟩
theorem ref_Word (s l : List Int) : PCall Try.prog 23 [dword s l] (.sc (.int .i64 (wchk s l))) := by
  refine pcall_intro c23_ok (by simp) (by simp [PureL, pure_dword]) ?_ (by simp [Pure])
  unfold dword wcells dlet
  (apply red_sound; focus (repeat' (first | exact Red.skip | exact Red.ret | exact RedO.nil | exact RedD.nil | exact Red.exit _ | exact Red.loop _ | exact Red.stop _ | apply Red.ops | apply Red.draw | apply Red.seq | apply Red.cond | apply Red.block | apply RedO.cons | apply RedD.cons | exact (0 : Nat))))
  ((conv => whnf); repeat (refine And.intro rfl ?_; (conv => whnf)))
  rw [List.length_map]
  have fin : ∀ {n : Int}, n = wchk s l → Deep [AObj.row true [.lst 1 (s.map fun n => [.sc (.int .u64 n)]), .lst 1 (l.map fun n => [.sc (.int .u64 n)])]] (.sc (.int .i64 n)) (.sc (.int .i64 (wchk s l))) := fun h => h ▸ .refl _
  (refine ifK_split (fun h1 => ?_) (fun h1 => ?_) <;> (rw [h1]; ((conv => whnf); repeat (refine And.intro rfl ?_; (conv => whnf)))))
  · exact fin (by unfold wchk; rw [if_pos (by ((try simp only [bne_iff_ne, ne_eq, bne_eq_false_iff_eq, beq_iff_eq, beq_eq_false_iff_ne, decide_eq_true_eq, decide_eq_false_iff_not, List.length_map, Bool.not_eq_true, Bool.not_eq_false, Bool.and_eq_true, Bool.or_eq_true, Bool.and_eq_false_iff, Bool.or_eq_false_iff, Bool.not_eq_true', Bool.not_eq_false', Bool.not_true, Bool.not_false, Bool.not_eq_eq_eq_not, not_true_eq_false, not_false_eq_true, reduceCtorEq, Bool.true_or, Bool.false_or, Bool.or_true, Bool.or_false, Bool.true_and, Bool.and_true, Bool.false_and, Bool.and_false, true_and, and_true, or_false, false_or, true_or, or_true, false_and, and_false, Bool.true_eq_false, Bool.false_eq_true] at *) <;> omega))])
  · refine .inl ⟨by unfold InR; rw [IntKind.wrap_i64]; ((try simp only [bne_iff_ne, ne_eq, bne_eq_false_iff_eq, beq_iff_eq, beq_eq_false_iff_ne, decide_eq_true_eq, decide_eq_false_iff_not, List.length_map, Bool.not_eq_true, Bool.not_eq_false, Bool.and_eq_true, Bool.or_eq_true, Bool.and_eq_false_iff, Bool.or_eq_false_iff, Bool.not_eq_true', Bool.not_eq_false', Bool.not_true, Bool.not_false, Bool.not_eq_eq_eq_not, not_true_eq_false, not_false_eq_true, reduceCtorEq, Bool.true_or, Bool.false_or, Bool.or_true, Bool.or_false, Bool.true_and, Bool.and_true, Bool.false_and, Bool.and_false, true_and, and_true, or_false, false_or, true_or, or_true, false_and, and_false, Bool.true_eq_false, Bool.false_eq_true] at *) <;> omega), ?_⟩
    rw [List.length_map]
    ((conv => whnf); repeat (refine And.intro rfl ?_; (conv => whnf)))
    (refine ifK_split (fun h2 => ?_) (fun h2 => ?_) <;> (rw [h2]; ((conv => whnf); repeat (refine And.intro rfl ?_; (conv => whnf)))))
    · exact fin (by unfold wchk; rw [if_pos (by ((try simp only [bne_iff_ne, ne_eq, bne_eq_false_iff_eq, beq_iff_eq, beq_eq_false_iff_ne, decide_eq_true_eq, decide_eq_false_iff_not, List.length_map, Bool.not_eq_true, Bool.not_eq_false, Bool.and_eq_true, Bool.or_eq_true, Bool.and_eq_false_iff, Bool.or_eq_false_iff, Bool.not_eq_true', Bool.not_eq_false', Bool.not_true, Bool.not_false, Bool.not_eq_eq_eq_not, not_true_eq_false, not_false_eq_true, reduceCtorEq, Bool.true_or, Bool.false_or, Bool.or_true, Bool.or_false, Bool.true_and, Bool.and_true, Bool.false_and, Bool.and_false, true_and, and_true, or_false, false_or, true_or, or_true, false_and, and_false, Bool.true_eq_false, Bool.false_eq_true] at *) <;> omega))])
    · rw [List.length_map]
      (refine ifK_split (fun h3 => ?_) (fun h3 => ?_) <;> (rw [h3]; ((conv => whnf); repeat (refine And.intro rfl ?_; (conv => whnf)))))
      · exact fin (by unfold wchk; rw [if_neg (by ((try simp only [bne_iff_ne, ne_eq, bne_eq_false_iff_eq, beq_iff_eq, beq_eq_false_iff_ne, decide_eq_true_eq, decide_eq_false_iff_not, List.length_map, Bool.not_eq_true, Bool.not_eq_false, Bool.and_eq_true, Bool.or_eq_true, Bool.and_eq_false_iff, Bool.or_eq_false_iff, Bool.not_eq_true', Bool.not_eq_false', Bool.not_true, Bool.not_false, Bool.not_eq_eq_eq_not, not_true_eq_false, not_false_eq_true, reduceCtorEq, Bool.true_or, Bool.false_or, Bool.or_true, Bool.or_false, Bool.true_and, Bool.and_true, Bool.false_and, Bool.and_false, true_and, and_true, or_false, false_or, true_or, or_true, false_and, and_false, Bool.true_eq_false, Bool.false_eq_true] at *) <;> omega)), if_pos (by ((try simp only [bne_iff_ne, ne_eq, bne_eq_false_iff_eq, beq_iff_eq, beq_eq_false_iff_ne, decide_eq_true_eq, decide_eq_false_iff_not, List.length_map, Bool.not_eq_true, Bool.not_eq_false, Bool.and_eq_true, Bool.or_eq_true, Bool.and_eq_false_iff, Bool.or_eq_false_iff, Bool.not_eq_true', Bool.not_eq_false', Bool.not_true, Bool.not_false, Bool.not_eq_eq_eq_not, not_true_eq_false, not_false_eq_true, reduceCtorEq, Bool.true_or, Bool.false_or, Bool.or_true, Bool.or_false, Bool.true_and, Bool.and_true, Bool.false_and, Bool.and_false, true_and, and_true, or_false, false_or, true_or, or_true, false_and, and_false, Bool.true_eq_false, Bool.false_eq_true] at *) <;> omega))])
      · exact fin (by unfold wchk; rw [if_neg (by ((try simp only [bne_iff_ne, ne_eq, bne_eq_false_iff_eq, beq_iff_eq, beq_eq_false_iff_ne, decide_eq_true_eq, decide_eq_false_iff_not, List.length_map, Bool.not_eq_true, Bool.not_eq_false, Bool.and_eq_true, Bool.or_eq_true, Bool.and_eq_false_iff, Bool.or_eq_false_iff, Bool.not_eq_true', Bool.not_eq_false', Bool.not_true, Bool.not_false, Bool.not_eq_eq_eq_not, not_true_eq_false, not_false_eq_true, reduceCtorEq, Bool.true_or, Bool.false_or, Bool.or_true, Bool.or_false, Bool.true_and, Bool.and_true, Bool.false_and, Bool.and_false, true_and, and_true, or_false, false_or, true_or, or_true, false_and, and_false, Bool.true_eq_false, Bool.false_eq_true] at *) <;> omega)), if_neg (by ((try simp only [bne_iff_ne, ne_eq, bne_eq_false_iff_eq, beq_iff_eq, beq_eq_false_iff_ne, decide_eq_true_eq, decide_eq_false_iff_not, List.length_map, Bool.not_eq_true, Bool.not_eq_false, Bool.and_eq_true, Bool.or_eq_true, Bool.and_eq_false_iff, Bool.or_eq_false_iff, Bool.not_eq_true', Bool.not_eq_false', Bool.not_true, Bool.not_false, Bool.not_eq_eq_eq_not, not_true_eq_false, not_false_eq_true, reduceCtorEq, Bool.true_or, Bool.false_or, Bool.or_true, Bool.or_false, Bool.true_and, Bool.and_true, Bool.false_and, Bool.and_false, true_and, and_true, or_false, false_or, true_or, or_true, false_and, and_false, Bool.true_eq_false, Bool.false_eq_true] at *) <;> omega))])
def c192 : PC := .seq (.ops [⟨(some 2), .move (.const (.slice none 0 0)), none, 0⟩] false) (.seq (.seq (.ops [⟨(some 3), .move (.tmp 0), none, 0⟩,
    ⟨(some 4), .isnil 3 false (.tmp 3), none, 0⟩] false) (.cond (.tmp 4) (.seq (.ops [⟨(some 2), .move (.const (.slice none 0 0)), none, 0⟩] false) (.ret)) (.skip))) (.seq (.ops [⟨(some 5), .bslice 1 0 [], none, 0⟩,
    ⟨(some 6), .move (.tmp 0), none, 0⟩,
    ⟨(some 7), .append 1 8 (.tmp 5) (.tmp 6), none, 0⟩,
    ⟨(some 2), .move (.tmp 7), none, 0⟩] false) (.ret)))
set_option maxRecDepth 100000 in
theorem c192_ok : FunOK Try.prog 192 8 [.tmp 2] c192 := ⟨⟨Try.f192, Try.func192, rfl, by kernel_rfl, rfl, by kernel_rfl⟩⟩
theorem clone_u64 (l : List Int) (hl : l.length ≤ 1000000000) : PCall Try.prog 192 [dlet l] (dlet l) := by
  refine pcall_intro c192_ok (by simp) (by simp [PureL, pure_dlet]) ?_ (pure_dlet _)
  unfold dlet
  (apply red_sound; focus (repeat' (first | exact Red.skip | exact Red.ret | exact RedO.nil | exact RedD.nil | exact Red.exit _ | exact Red.loop _ | exact Red.stop _ | apply Red.ops | apply Red.draw | apply Red.seq | apply Red.cond | apply Red.block | apply RedO.cons | apply RedD.cons | exact (0 : Nat))))
  ((conv => whnf); repeat (refine And.intro rfl ?_; (conv => whnf)))
  intro b hb
  cases b
  · ((conv => whnf); repeat (refine And.intro rfl ?_; (conv => whnf)))
    refine ⟨by unfold sliceAppend; simp only [List.length_map]; omega, ?_⟩
    ((conv => whnf); repeat (refine And.intro rfl ?_; (conv => whnf)))
    refine .own _ _ _ _ _ _ _ _ rfl ?_
    simp only [List.length_map, List.nil_append, List.take_nil, List.drop_nil]
    rw [List.drop_zero, List.take_of_length_le (by simp)]
    exact deepLL_refl _
  · ((conv => whnf); repeat (refine And.intro rfl ?_; (conv => whnf)))
    rw [hb rfl]
    exact .none _
def c251_1 : PC := .seq (.seq (.ops [⟨(some 7), .move (.tmp 5), none, 0⟩,
    ⟨(some 8), .move (.tmp 0), none, 0⟩,
    ⟨(some 9), .len (.tmp 8), none, 0⟩,
    ⟨(some 10), .bin .lss (.tmp 7) (.tmp 9), none, 0⟩] false) (.cond (.tmp 10) (.skip) (.exit 0))) (.seq (.block 1 (.seq (.ops [⟨(some 13), .move (.tmp 0), none, 0⟩,
    ⟨(some 14), .move (.tmp 5), none, 0⟩,
    ⟨(some 15), .iaddr 1 (.tmp 13) (.tmp 14), none, 3⟩,
    ⟨(some 16), .load1 (.tmp 15), none, 7⟩,
    ⟨(some 17), .move (.tmp 0), none, 0⟩,
    ⟨(some 18), .move (.tmp 5), none, 0⟩,
    ⟨(some 19), .move (.tmp 1), none, 0⟩,
    ⟨(some 20), .bin .sub (.tmp 18) (.tmp 19), none, 96⟩,
    ⟨(some 21), .iaddr 1 (.tmp 17) (.tmp 20), none, 240⟩,
    ⟨(some 22), .load1 (.tmp 21), none, 496⟩,
    ⟨(some 23), .bin .neq (.tmp 16) (.tmp 22), none, 1023⟩] true) (.cond (.tmp 23) (.seq (.ops [⟨(some 4), .move (.const (.bool false)), none, 0⟩] false) (.ret)) (.skip)))) (.ops [⟨(some 11), .move (.tmp 5), none, 0⟩,
    ⟨(some 12), .bin .add (.tmp 11) (.const (.int .i64 1)), none, 0⟩,
    ⟨(some 5), .move (.tmp 12), none, 0⟩] false))
def c251 : PC := .seq (.ops [⟨(some 4), .move (.const (.bool false)), none, 0⟩] false) (.seq (.seq (.ops [⟨(some 6), .move (.tmp 1), none, 0⟩,
    ⟨(some 5), .move (.tmp 6), none, 0⟩] false) (.block 0 (.loop c251_1))) (.seq (.ops [⟨(some 4), .move (.const (.bool true)), none, 0⟩] false) (.ret)))
set_option maxRecDepth 100000 in
theorem c251_ok : FunOK Try.prog 251 24 [.tmp 4] c251 := ⟨⟨Try.f251, Try.func251, rfl, by kernel_rfl, rfl, by kernel_rfl⟩⟩
def turnsB (l : List Int) (n : Nat) : Bool := (List.range l.length).all fun i => decide (i < n) || l.getD i 0 == l.getD (i - n) 0
theorem turnsB_iff {l : List Int} {n : Nat} : turnsB l n = true ↔ Turns l n := by
  unfold turnsB Turns
  rw [List.all_eq_true]
  constructor
  · intro h i h1 h2
    have := h i (List.mem_range.2 h2)
    simp only [Bool.or_eq_true, decide_eq_true_eq, beq_iff_eq] at this
    omega
  · intro h i hi
    have hi := List.mem_range.1 hi
    simp only [Bool.or_eq_true, decide_eq_true_eq, beq_iff_eq]
    by_cases q : i < n
    · exact .inl q
    · exact .inr (h i (by omega) hi)
theorem las_turns (l : List Int) (n : Nat) (hl : l.length ≤ 1000000000) (hn : n ≤ l.length) : PCall Try.prog 251 [dlet l, .sc (.int .i64 n)] (.sc (.bool (turnsB l n))) := by
  refine pcall_intro c251_ok (by simp) (by simp [PureL, Pure, pure_dlet]) ?_ (by simp [Pure])
  (apply red_sound; focus (repeat' (first | exact Red.skip | exact Red.ret | exact RedO.nil | exact RedD.nil | exact Red.exit _ | exact Red.loop _ | exact Red.stop _ | apply Red.ops | apply Red.draw | apply Red.seq | apply Red.cond | apply Red.block | apply RedO.cons | apply RedD.cons | exact (0 : Nat))))
  ((conv => whnf); repeat (refine And.intro rfl ?_; (conv => whnf)))
  refine pwp_loop (fun k : Nat => [(0, dlet l), (1, .sc (.int .i64 n)), (5, .sc (.int .i64 k))]) (fun _ => [])
    (fun k => n ≤ k ∧ k ≤ l.length ∧ ∀ j, n ≤ j → j < k → l.getD j 0 = l.getD (j - n) 0) (fun k => l.length - k) n ⟨by omega, hn, fun j h => by omega⟩ (le_env ⟨rfl, rfl, rfl, trivial⟩) ?_
  rintro k ⟨hk, hk2, hall⟩
  unfold dlet
  (apply red_sound; focus (repeat' (first | exact Red.skip | exact Red.ret | exact RedO.nil | exact RedD.nil | exact Red.exit _ | exact Red.loop _ | exact Red.stop _ | apply Red.ops | apply Red.draw | apply Red.seq | apply Red.cond | apply Red.block | apply RedO.cons | apply RedD.cons | exact (0 : Nat))))
  ((conv => whnf); repeat (refine And.intro rfl ?_; (conv => whnf)))
  rw [List.length_map]
  have fin : ∀ {b : Bool}, b = turnsB l n → Deep [] (.sc (.bool b)) (.sc (.bool (turnsB l n))) := fun h => h ▸ .refl _
  (refine ifK_split (fun h1 => ?_) (fun h1 => ?_) <;> (rw [h1]; ((conv => whnf); repeat (refine And.intro rfl ?_; (conv => whnf)))))
  · have hk' : k < l.length := by ((try simp only [bne_iff_ne, ne_eq, bne_eq_false_iff_eq, beq_iff_eq, beq_eq_false_iff_ne, decide_eq_true_eq, decide_eq_false_iff_not, List.length_map, Bool.not_eq_true, Bool.not_eq_false, Bool.and_eq_true, Bool.or_eq_true, Bool.and_eq_false_iff, Bool.or_eq_false_iff, Bool.not_eq_true', Bool.not_eq_false', Bool.not_true, Bool.not_false, Bool.not_eq_eq_eq_not, not_true_eq_false, not_false_eq_true, reduceCtorEq, Bool.true_or, Bool.false_or, Bool.or_true, Bool.or_false, Bool.true_and, Bool.and_true, Bool.false_and, Bool.and_false, true_and, and_true, or_false, false_or, true_or, or_true, false_and, and_false, Bool.true_eq_false, Bool.false_eq_true] at *) <;> omega)
    refine ⟨by omega, _, let_at hk', ?_⟩
    ((conv => whnf); repeat (refine And.intro rfl ?_; (conv => whnf)))
    refine .inl ⟨by unfold InR; rw [IntKind.wrap_i64]; omega, ?_⟩
    ((conv => whnf); repeat (refine And.intro rfl ?_; (conv => whnf)))
    obtain ⟨q1, q2⟩ := let_atZ (l := l) (z := (k : Int) - n) (k - n) (by omega) (by omega)
    refine ⟨q1, _, q2, ?_⟩
    ((conv => whnf); repeat (refine And.intro rfl ?_; (conv => whnf)))
    (refine ifK_split (fun h2 => ?_) (fun h2 => ?_) <;> (rw [h2]; ((conv => whnf); repeat (refine And.intro rfl ?_; (conv => whnf)))))
    · refine fin ?_
      rw [eq_comm, ← Bool.not_eq_true, turnsB_iff]
      intro h; have := h k hk hk'; simp only [bne_iff_ne, ne_eq] at h2; exact h2 this
    · refine .inl ⟨by unfold InR; rw [IntKind.wrap_i64]; omega, ?_⟩
      ((conv => whnf); repeat (refine And.intro rfl ?_; (conv => whnf)))
      refine ⟨k + 1, ⟨by omega, by omega, fun j hj1 hj => ?_⟩, by dsimp only; omega, le_env ⟨rfl, rfl, rfl, trivial⟩⟩
      by_cases e : j = k
      · subst e; simpa using h2
      · exact hall j hj1 (by omega)
  · refine fin (turnsB_iff.2 fun i q1 q2 => hall i q1 ?_).symm
    have : ¬ k < l.length := by ((try simp only [bne_iff_ne, ne_eq, bne_eq_false_iff_eq, beq_iff_eq, beq_eq_false_iff_ne, decide_eq_true_eq, decide_eq_false_iff_not, List.length_map, Bool.not_eq_true, Bool.not_eq_false, Bool.and_eq_true, Bool.or_eq_true, Bool.and_eq_false_iff, Bool.or_eq_false_iff, Bool.not_eq_true', Bool.not_eq_false', Bool.not_true, Bool.not_false, Bool.not_eq_eq_eq_not, not_true_eq_false, not_false_eq_true, reduceCtorEq, Bool.true_or, Bool.false_or, Bool.or_true, Bool.or_false, Bool.true_and, Bool.and_true, Bool.false_and, Bool.and_false, true_and, and_true, or_false, false_or, true_or, or_true, false_and, and_false, Bool.true_eq_false, Bool.false_eq_true] at *) <;> omega)
    omega
def c71_1 : PC := .seq (.ops [⟨(some 14), .bin .lss (.tmp 13) (.tmp 12), none, 0⟩] false) (.seq (.cond (.tmp 14) (.skip) (.exit 0)) (.seq (.block 1 (.seq (.ops [⟨(some 15), .move (.tmp 13), none, 0⟩,
    ⟨(some 5), .move (.tmp 15), none, 0⟩] false) (.seq (.ops [⟨(some 16), .move (.tmp 0), none, 0⟩,
    ⟨(some 17), .move (.tmp 5), none, 0⟩,
    ⟨(some 18), .iaddr 1 (.tmp 16) (.tmp 17), none, 3⟩,
    ⟨(some 19), .load1 (.tmp 18), none, 7⟩,
    ⟨(some 20), .move (.tmp 1), none, 0⟩,
    ⟨(some 21), .move (.tmp 5), none, 0⟩,
    ⟨(some 22), .iaddr 1 (.tmp 20) (.tmp 21), none, 48⟩,
    ⟨(some 23), .load1 (.tmp 22), none, 112⟩,
    ⟨(some 24), .bin .neq (.tmp 19) (.tmp 23), none, 255⟩] true) (.cond (.tmp 24) (.seq (.ops [⟨(some 4), .move (.const (.bool false)), none, 0⟩] false) (.ret)) (.skip))))) (.ops [⟨(some 25), .bin .add (.tmp 13) (.const (.int .i64 1)), none, 0⟩,
    ⟨(some 13), .move (.tmp 25), none, 0⟩] false)))
def c71 : PC := .seq (.ops [⟨(some 4), .move (.const (.bool false)), none, 0⟩] false) (.seq (.seq (.ops [⟨(some 6), .move (.tmp 0), none, 0⟩,
    ⟨(some 7), .len (.tmp 6), none, 0⟩,
    ⟨(some 8), .move (.tmp 1), none, 0⟩,
    ⟨(some 9), .len (.tmp 8), none, 0⟩,
    ⟨(some 10), .bin .neq (.tmp 7) (.tmp 9), none, 0⟩] false) (.cond (.tmp 10) (.seq (.ops [⟨(some 4), .move (.const (.bool false)), none, 0⟩] false) (.ret)) (.skip))) (.seq (.seq (.ops [⟨(some 11), .move (.tmp 0), none, 0⟩,
    ⟨(some 12), .len (.tmp 11), none, 0⟩,
    ⟨(some 13), .move (.const (.int .i64 0)), none, 0⟩] false) (.block 0 (.loop c71_1))) (.seq (.ops [⟨(some 4), .move (.const (.bool true)), none, 0⟩] false) (.ret))))
set_option maxRecDepth 100000 in
theorem c71_ok : FunOK Try.prog 71 26 [.tmp 4] c71 := ⟨⟨Try.f71, Try.func71, rfl, by kernel_rfl, rfl, by kernel_rfl⟩⟩
theorem eq_u64 (a b : List Int) (ha : a.length ≤ 9223372036854775807) : PCall Try.prog 71 [dlet a, dlet b] (.sc (.bool (decide (a = b)))) := by
  refine pcall_intro c71_ok (by simp) (by simp [PureL, Pure, pure_dlet]) ?_ (by simp [Pure])
  unfold dlet
  (apply red_sound; focus (repeat' (first | exact Red.skip | exact Red.ret | exact RedO.nil | exact RedD.nil | exact Red.exit _ | exact Red.loop _ | exact Red.stop _ | apply Red.ops | apply Red.draw | apply Red.seq | apply Red.cond | apply Red.block | apply RedO.cons | apply RedD.cons | exact (0 : Nat))))
  ((conv => whnf); repeat (refine And.intro rfl ?_; (conv => whnf)))
  rw [List.length_map, List.length_map]
  have fin : ∀ {c : Bool}, c = decide (a = b) → Deep [] (.sc (.bool c)) (.sc (.bool (decide (a = b)))) := fun h => h ▸ .refl _
  (refine ifK_split (fun h1 => ?_) (fun h1 => ?_) <;> (rw [h1]; ((conv => whnf); repeat (refine And.intro rfl ?_; (conv => whnf)))))
  · exact fin (by rw [eq_comm, decide_eq_false_iff_not]; rintro rfl; simp at h1)
  have hl : a.length = b.length := by ((try simp only [bne_iff_ne, ne_eq, bne_eq_false_iff_eq, beq_iff_eq, beq_eq_false_iff_ne, decide_eq_true_eq, decide_eq_false_iff_not, List.length_map, Bool.not_eq_true, Bool.not_eq_false, Bool.and_eq_true, Bool.or_eq_true, Bool.and_eq_false_iff, Bool.or_eq_false_iff, Bool.not_eq_true', Bool.not_eq_false', Bool.not_true, Bool.not_false, Bool.not_eq_eq_eq_not, not_true_eq_false, not_false_eq_true, reduceCtorEq, Bool.true_or, Bool.false_or, Bool.or_true, Bool.or_false, Bool.true_and, Bool.and_true, Bool.false_and, Bool.and_false, true_and, and_true, or_false, false_or, true_or, or_true, false_and, and_false, Bool.true_eq_false, Bool.false_eq_true] at *) <;> omega)
  rw [List.length_map]
  refine pwp_loop (fun k : Nat => [(0, dlet a), (1, dlet b), (12, .sc (.int .i64 a.length)), (13, .sc (.int .i64 k))]) (fun _ => [])
    (fun k => k ≤ a.length ∧ ∀ j, j < k → a.getD j 0 = b.getD j 0) (fun k => a.length - k) 0 ⟨by omega, fun j h => by omega⟩ (le_env ⟨rfl, rfl, rfl, rfl, trivial⟩) ?_
  rintro k ⟨hk, hall⟩
  unfold dlet
  (apply red_sound; focus (repeat' (first | exact Red.skip | exact Red.ret | exact RedO.nil | exact RedD.nil | exact Red.exit _ | exact Red.loop _ | exact Red.stop _ | apply Red.ops | apply Red.draw | apply Red.seq | apply Red.cond | apply Red.block | apply RedO.cons | apply RedD.cons | exact (0 : Nat))))
  ((conv => whnf); repeat (refine And.intro rfl ?_; (conv => whnf)))
  (refine ifK_split (fun h2 => ?_) (fun h2 => ?_) <;> (rw [h2]; ((conv => whnf); repeat (refine And.intro rfl ?_; (conv => whnf)))))
  · have hk' : k < a.length := by ((try simp only [bne_iff_ne, ne_eq, bne_eq_false_iff_eq, beq_iff_eq, beq_eq_false_iff_ne, decide_eq_true_eq, decide_eq_false_iff_not, List.length_map, Bool.not_eq_true, Bool.not_eq_false, Bool.and_eq_true, Bool.or_eq_true, Bool.and_eq_false_iff, Bool.or_eq_false_iff, Bool.not_eq_true', Bool.not_eq_false', Bool.not_true, Bool.not_false, Bool.not_eq_eq_eq_not, not_true_eq_false, not_false_eq_true, reduceCtorEq, Bool.true_or, Bool.false_or, Bool.or_true, Bool.or_false, Bool.true_and, Bool.and_true, Bool.false_and, Bool.and_false, true_and, and_true, or_false, false_or, true_or, or_true, false_and, and_false, Bool.true_eq_false, Bool.false_eq_true] at *) <;> omega)
    refine ⟨by omega, _, let_at hk', ?_⟩
    ((conv => whnf); repeat (refine And.intro rfl ?_; (conv => whnf)))
    refine ⟨by omega, _, let_at (l := b) (by omega), ?_⟩
    ((conv => whnf); repeat (refine And.intro rfl ?_; (conv => whnf)))
    (refine ifK_split (fun h3 => ?_) (fun h3 => ?_) <;> (rw [h3]; ((conv => whnf); repeat (refine And.intro rfl ?_; (conv => whnf)))))
    · exact fin (by rw [eq_comm, decide_eq_false_iff_not]; rintro rfl; simp at h3)
    · refine .inl ⟨by unfold InR; rw [IntKind.wrap_i64]; omega, ?_⟩
      ((conv => whnf); repeat (refine And.intro rfl ?_; (conv => whnf)))
      refine ⟨k + 1, ⟨by omega, fun j hj => ?_⟩, by dsimp only; omega, le_env ⟨rfl, rfl, rfl, rfl, trivial⟩⟩
      by_cases e : j = k
      · subst e; simpa using h3
      · exact hall j (by omega)
  · refine fin ?_
    rw [eq_comm, decide_eq_true_eq]
    have hk' : ¬ k < a.length := by ((try simp only [bne_iff_ne, ne_eq, bne_eq_false_iff_eq, beq_iff_eq, beq_eq_false_iff_ne, decide_eq_true_eq, decide_eq_false_iff_not, List.length_map, Bool.not_eq_true, Bool.not_eq_false, Bool.and_eq_true, Bool.or_eq_true, Bool.and_eq_false_iff, Bool.or_eq_false_iff, Bool.not_eq_true', Bool.not_eq_false', Bool.not_true, Bool.not_false, Bool.not_eq_eq_eq_not, not_true_eq_false, not_false_eq_true, reduceCtorEq, Bool.true_or, Bool.false_or, Bool.or_true, Bool.or_false, Bool.true_and, Bool.and_true, Bool.false_and, Bool.and_false, true_and, and_true, or_false, false_or, true_or, or_true, false_and, and_false, Bool.true_eq_false, Bool.false_eq_true] at *) <;> omega)
    refine List.ext_getElem hl fun i h1 h2 => ?_
    have := hall i (by omega)
    rwa [List.getD_eq_getElem?_getD, List.getD_eq_getElem?_getD, List.getElem?_eq_getElem h1, List.getElem?_eq_getElem h2] at this
end Go.Proofs.Ytcgjbhnljjlffaa
