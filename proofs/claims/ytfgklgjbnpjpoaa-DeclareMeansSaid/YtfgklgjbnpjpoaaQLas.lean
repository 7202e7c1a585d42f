/-
  Words that go round, over deep values. No statement is proved here.
-/
import Derived.Test.YtfgklgjbnpjpoaaQDk2
import Derived.Test.YtfgklgjbnpjpoaaQLw
import Derived.Test.YtfgklgjbnpjpoaaProg
namespace Go.Proofs.Ytfgklgjbnpjpoaa
open Go.RowKit
set_option linter.unusedSimpArgs false
def du (n : Int) : D := .sc (.int .u64 n)
def dlet (l : List Int) : D := .lst 1 (l.map fun n => [.sc (.int .u64 n)])
def wcells (s l : List Int) : List D := [dlet s, dlet l]
def dword (s l : List Int) : D := .agg (wcells s l)
theorem pure_dlet (l : List Int) : Pure (dlet l) := by
  simp only [dlet, Pure]; exact pureLL_map _ (fun n => by simp [PureL, Pure]) l
theorem pure_wcells (s l : List Int) : PureL (wcells s l) := by simp [wcells, PureL, pure_dlet]
theorem pure_dword (s l : List Int) : Pure (dword s l) := by simp [dword, Pure, pure_wcells]
theorem let_at {l : List Int} {k : Nat} (h : k < l.length) : (l.map fun n => [D.sc (.int .u64 n)])[k]? = some [.sc (.int .u64 (l.getD k 0))] := by
  rw [List.getElem?_map, List.getElem?_eq_getElem h, List.getD_eq_getElem?_getD, List.getElem?_eq_getElem h]; rfl
theorem let_atZ {l : List Int} {z : Int} (k : Nat) (hz : z = k) (h : k < l.length) : 0 ≤ z ∧ (l.map fun n => [D.sc (.int .u64 n)])[z.toNat]? = some [.sc (.int .u64 (l.getD k 0))] := by
  subst hz
  exact ⟨by omega, let_at h⟩
/-- What is wrong with a word. -/
def wchk (s l : List Int) : Int := if 60 < s.length ∨ 60 < s.length + l.length then 2 else if l.length = 0 then 1 else 0
theorem wchk_zero (s l : List Int) : wchk s l = 0 ↔ s.length + l.length ≤ 60 ∧ 1 ≤ l.length := by
  unfold wchk
  split
  · omega
  · split <;> omega
def c73 : PC := .seq (.ops [⟨(some 1), .box (.tmp 0), none, 0⟩,
    ⟨(some 2), .move (.const (.int .i64 0)), none, 0⟩] false) (.seq (.block 0 (.seq (.ops [⟨(some 4), .faddr 0 (.tmp 1), none, 0⟩,
    ⟨(some 5), .load1 (.tmp 4), none, 0⟩,
    ⟨(some 6), .len (.tmp 5), none, 0⟩,
    ⟨(some 7), .bin .gtr (.tmp 6) (.const (.int .i64 60)), none, 0⟩,
    ⟨(some 8), .move (.tmp 7), none, 0⟩,
    ⟨(some 9), .faddr 1 (.tmp 1), (some (8, false)), 0⟩,
    ⟨(some 10), .load1 (.tmp 9), (some (8, false)), 0⟩,
    ⟨(some 11), .len (.tmp 10), (some (8, false)), 0⟩,
    ⟨(some 12), .faddr 0 (.tmp 1), (some (8, false)), 0⟩,
    ⟨(some 13), .load1 (.tmp 12), (some (8, false)), 0⟩,
    ⟨(some 14), .len (.tmp 13), (some (8, false)), 0⟩,
    ⟨(some 15), .bin .sub (.const (.int .i64 60)) (.tmp 14), (some (8, false)), 0⟩,
    ⟨(some 16), .bin .gtr (.tmp 11) (.tmp 15), (some (8, false)), 0⟩,
    ⟨(some 17), .pick (.tmp 8) (.const (.bool true)) (.tmp 16), none, 0⟩,
    ⟨(some 3), .move (.tmp 17), none, 0⟩] false) (.cond (.tmp 3) (.seq (.ops [⟨(some 2), .move (.const (.int .i64 2)), none, 0⟩] false) (.ret)) (.seq (.ops [⟨(some 19), .faddr 1 (.tmp 1), none, 0⟩,
    ⟨(some 20), .load1 (.tmp 19), none, 0⟩,
    ⟨(some 21), .len (.tmp 20), none, 0⟩,
    ⟨(some 22), .bin .eql (.tmp 21) (.const (.int .i64 0)), none, 0⟩,
    ⟨(some 18), .move (.tmp 22), none, 0⟩] false) (.cond (.tmp 18) (.seq (.ops [⟨(some 2), .move (.const (.int .i64 1)), none, 0⟩] false) (.ret)) (.skip)))))) (.seq (.ops [⟨(some 2), .move (.const (.int .i64 0)), none, 0⟩] false) (.ret)))
set_option maxRecDepth 100000 in
theorem c73_ok : FunOK Try.prog 73 23 [.tmp 2] c73 := ⟨⟨Try.f73, Try.func73, rfl, by kernel_rfl, rfl, by kernel_rfl⟩⟩
theorem las_Check (s l : List Int) : PCall Try.prog 73 [dword s l] (.sc (.int .i64 (wchk s l))) := by
  refine pcall_intro c73_ok (by simp) (by simp [PureL, pure_dword]) ?_ (by simp [Pure])
  unfold dword wcells dlet
  (apply rd_sound; focus (repeat' constructor))
  ((conv=>whnf);repeat(refine And.intro rfl ?_;(conv=>whnf)))
  rw [List.length_map]
  have fin : ∀ {n : Int}, n = wchk s l → Deep [AObj.row true [.lst 1 (s.map fun n => [.sc (.int .u64 n)]), .lst 1 (l.map fun n => [.sc (.int .u64 n)])]] (.sc (.int .i64 n)) (.sc (.int .i64 (wchk s l))) := fun h => h ▸ .refl _
  (refine ifK_split (fun h1 => ?_) (fun h1 => ?_) <;> (rw [h1]; ((conv=>whnf);repeat(refine And.intro rfl ?_;(conv=>whnf)))))
  · exact fin (by unfold wchk; rw [if_pos (by ((try simp only [oo, reduceCtorEq] at *) <;> omega))])
  · refine .inl ⟨by unfold InR; rw [IntKind.wrap_i64]; ((try simp only [oo, reduceCtorEq] at *) <;> omega), ?_⟩
    rw [List.length_map]
    ((conv=>whnf);repeat(refine And.intro rfl ?_;(conv=>whnf)))
    (refine ifK_split (fun h2 => ?_) (fun h2 => ?_) <;> (rw [h2]; ((conv=>whnf);repeat(refine And.intro rfl ?_;(conv=>whnf)))))
    · exact fin (by unfold wchk; rw [if_pos (by ((try simp only [oo, reduceCtorEq] at *) <;> omega))])
    · rw [List.length_map]
      (refine ifK_split (fun h3 => ?_) (fun h3 => ?_) <;> (rw [h3]; ((conv=>whnf);repeat(refine And.intro rfl ?_;(conv=>whnf)))))
      · exact fin (by unfold wchk; rw [if_neg (by ((try simp only [oo, reduceCtorEq] at *) <;> omega)), if_pos (by ((try simp only [oo, reduceCtorEq] at *) <;> omega))])
      · exact fin (by unfold wchk; rw [if_neg (by ((try simp only [oo, reduceCtorEq] at *) <;> omega)), if_neg (by ((try simp only [oo, reduceCtorEq] at *) <;> omega))])
def c29 : PC := .seq (.ops [⟨(some 1), .box (.tmp 0), none, 0⟩,
    ⟨(some 2), .move (.const (.int .i64 0)), none, 0⟩] false) (.seq (.seq (.ops [⟨(some 3), .faddr 0 (.tmp 1), none, 0⟩,
    ⟨(some 4), .load1 (.tmp 3), none, 0⟩,
    ⟨(some 5), .len (.tmp 4), none, 0⟩,
    ⟨(some 6), .bin .gtr (.tmp 5) (.const (.int .i64 60)), none, 0⟩,
    ⟨(some 7), .move (.tmp 6), none, 0⟩,
    ⟨(some 8), .faddr 1 (.tmp 1), (some (7, false)), 0⟩,
    ⟨(some 9), .load1 (.tmp 8), (some (7, false)), 0⟩,
    ⟨(some 10), .len (.tmp 9), (some (7, false)), 0⟩,
    ⟨(some 11), .faddr 0 (.tmp 1), (some (7, false)), 0⟩,
    ⟨(some 12), .load1 (.tmp 11), (some (7, false)), 0⟩,
    ⟨(some 13), .len (.tmp 12), (some (7, false)), 0⟩,
    ⟨(some 14), .bin .sub (.const (.int .i64 60)) (.tmp 13), (some (7, false)), 0⟩,
    ⟨(some 15), .bin .gtr (.tmp 10) (.tmp 14), (some (7, false)), 0⟩,
    ⟨(some 16), .pick (.tmp 7) (.const (.bool true)) (.tmp 15), none, 0⟩] false) (.cond (.tmp 16) (.seq (.ops [⟨(some 2), .move (.const (.int .i64 2)), none, 0⟩] false) (.ret)) (.skip))) (.seq (.seq (.ops [⟨(some 17), .faddr 1 (.tmp 1), none, 0⟩,
    ⟨(some 18), .load1 (.tmp 17), none, 0⟩,
    ⟨(some 19), .len (.tmp 18), none, 0⟩,
    ⟨(some 20), .bin .eql (.tmp 19) (.const (.int .i64 0)), none, 0⟩] false) (.cond (.tmp 20) (.seq (.ops [⟨(some 2), .move (.const (.int .i64 1)), none, 0⟩] false) (.ret)) (.skip))) (.seq (.ops [⟨(some 2), .move (.const (.int .i64 0)), none, 0⟩] false) (.ret))))
set_option maxRecDepth 100000 in
theorem c29_ok : FunOK Try.prog 29 21 [.tmp 2] c29 := ⟨⟨Try.f29, Try.func29, rfl, by kernel_rfl, rfl, by kernel_rfl⟩⟩
theorem ref_Word (s l : List Int) : PCall Try.prog 29 [dword s l] (.sc (.int .i64 (wchk s l))) := by
  refine pcall_intro c29_ok (by simp) (by simp [PureL, pure_dword]) ?_ (by simp [Pure])
  unfold dword wcells dlet
  (apply rd_sound; focus (repeat' constructor))
  ((conv=>whnf);repeat(refine And.intro rfl ?_;(conv=>whnf)))
  rw [List.length_map]
  have fin : ∀ {n : Int}, n = wchk s l → Deep [AObj.row true [.lst 1 (s.map fun n => [.sc (.int .u64 n)]), .lst 1 (l.map fun n => [.sc (.int .u64 n)])]] (.sc (.int .i64 n)) (.sc (.int .i64 (wchk s l))) := fun h => h ▸ .refl _
  (refine ifK_split (fun h1 => ?_) (fun h1 => ?_) <;> (rw [h1]; ((conv=>whnf);repeat(refine And.intro rfl ?_;(conv=>whnf)))))
  · exact fin (by unfold wchk; rw [if_pos (by ((try simp only [oo, reduceCtorEq] at *) <;> omega))])
  · refine .inl ⟨by unfold InR; rw [IntKind.wrap_i64]; ((try simp only [oo, reduceCtorEq] at *) <;> omega), ?_⟩
    rw [List.length_map]
    ((conv=>whnf);repeat(refine And.intro rfl ?_;(conv=>whnf)))
    (refine ifK_split (fun h2 => ?_) (fun h2 => ?_) <;> (rw [h2]; ((conv=>whnf);repeat(refine And.intro rfl ?_;(conv=>whnf)))))
    · exact fin (by unfold wchk; rw [if_pos (by ((try simp only [oo, reduceCtorEq] at *) <;> omega))])
    · rw [List.length_map]
      (refine ifK_split (fun h3 => ?_) (fun h3 => ?_) <;> (rw [h3]; ((conv=>whnf);repeat(refine And.intro rfl ?_;(conv=>whnf)))))
      · exact fin (by unfold wchk; rw [if_neg (by ((try simp only [oo, reduceCtorEq] at *) <;> omega)), if_pos (by ((try simp only [oo, reduceCtorEq] at *) <;> omega))])
      · exact fin (by unfold wchk; rw [if_neg (by ((try simp only [oo, reduceCtorEq] at *) <;> omega)), if_neg (by ((try simp only [oo, reduceCtorEq] at *) <;> omega))])
end Go.Proofs.Ytfgklgjbnpjpoaa
