/-
  Words that go round, over deep values. No statement is proved here.
-/
import Derived.Test.YtihgbinhidppdaaDk2
import Derived.Test.YtihgbinhidppdaaLw
import Derived.Test.YtihgbinhidppdaaProg
namespace Go.Proofs.Ytihgbinhidppdaa
open Go.RowKit
set_option linter.unusedSimpArgs false
def du (n : Int) : D := .sc (.int .u64 n)
def dlet (l : List Int) : D := .lst 1 (l.map fun n => [.sc (.int .u64 n)])
def wcells (s l : List Int) : List D := [dlet s, dlet l]
def dword (s l : List Int) : D := .agg (wcells s l)
theorem pure_dlet (l : List Int) : Pure (dlet l) := by
  simp only [dlet, Pure]; exact pureLL_map _ (fun n => by simp [PureL, Pure]) l
theorem pure_wcells (s l : List Int) : PureL (wcells s l) := by simp [wcells, PureL, pure_dlet]
theorem pure_dword (s l : List Int) : Pure (dword s l) := by simp [dword, Pure, pure_wcells]
theorem let_at {l : List Int} {k : Nat} (h : k < l.length) : (l.map fun n => [D.sc (.int .u64 n)])[k]? = some [.sc (.int .u64 (l.getD k 0))] := by
  rw [List.getElem?_map, List.getElem?_eq_getElem h, List.getD_eq_getElem?_getD, List.getElem?_eq_getElem h]; rfl
theorem let_atZ {l : List Int} {z : Int} (k : Nat) (hz : z = k) (h : k < l.length) : 0 ≤ z ∧ (l.map fun n => [D.sc (.int .u64 n)])[z.toNat]? = some [.sc (.int .u64 (l.getD k 0))] := by
  subst hz
  exact ⟨by omega, let_at h⟩
/-- What is wrong with a word. -/
def wchk (s l : List Int) : Int := if 60 < s.length ∨ 60 < s.length + l.length then 2 else if l.length = 0 then 1 else 0
theorem wchk_zero (s l : List Int) : wchk s l = 0 ↔ s.length + l.length ≤ 60 ∧ 1 ≤ l.length := by
  unfold wchk
  split
  · omega
  · split <;> omega
def c25_1 : PC := .seq (.ops [⟨some 14,.bin .lss (.tmp 13) (.tmp 12),none,0⟩] false) (.seq (.cond (.tmp 14) (.skip) (.exit 0)) (.seq (.block 1 (.seq (.ops [⟨some 15,.move (.tmp 13),none,0⟩,
 ⟨some 5,.move (.tmp 15),none,0⟩] false) (.seq (.ops [⟨some 16,.move (.tmp 0),none,0⟩,
 ⟨some 17,.move (.tmp 5),none,0⟩,
 ⟨some 18,.iaddr 1 (.tmp 16) (.tmp 17),none,3⟩,
 ⟨some 19,.load1 (.tmp 18),none,7⟩,
 ⟨some 20,.move (.tmp 1),none,0⟩,
 ⟨some 21,.move (.tmp 5),none,0⟩,
 ⟨some 22,.iaddr 1 (.tmp 20) (.tmp 21),none,48⟩,
 ⟨some 23,.load1 (.tmp 22),none,112⟩,
 ⟨some 24,.bin .neq (.tmp 19) (.tmp 23),none,255⟩] true) (.cond (.tmp 24) (.seq (.ops [⟨some 4,.move (.const (.bool false)),none,0⟩] false) (.ret)) (.skip))))) (.ops [⟨some 25,.bin .add (.tmp 13) (.const (.int .i64 1)),none,0⟩,
 ⟨some 13,.move (.tmp 25),none,0⟩] false)))
def c25 : PC := .seq (.ops [⟨some 4,.move (.const (.bool false)),none,0⟩] false) (.seq (.seq (.ops [⟨some 6,.move (.tmp 0),none,0⟩,
 ⟨some 7,.len (.tmp 6),none,0⟩,
 ⟨some 8,.move (.tmp 1),none,0⟩,
 ⟨some 9,.len (.tmp 8),none,0⟩,
 ⟨some 10,.bin .neq (.tmp 7) (.tmp 9),none,0⟩] false) (.cond (.tmp 10) (.seq (.ops [⟨some 4,.move (.const (.bool false)),none,0⟩] false) (.ret)) (.skip))) (.seq (.seq (.ops [⟨some 11,.move (.tmp 0),none,0⟩,
 ⟨some 12,.len (.tmp 11),none,0⟩,
 ⟨some 13,.move (.const (.int .i64 0)),none,0⟩] false) (.block 0 (.loop c25_1))) (.seq (.ops [⟨some 4,.move (.const (.bool true)),none,0⟩] false) (.ret))))
set_option maxRecDepth 100000 in
theorem c25_ok : FunOK Try.prog 25 26 [.tmp 4] c25 := ⟨⟨Try.f25, Try.func25, rfl, by kernel_rfl, rfl, by kernel_rfl⟩⟩
theorem eq_u64 (a b : List Int) (ha : a.length ≤ 9223372036854775807) : PCall Try.prog 25 [dlet a, dlet b] (.sc (.bool (decide (a = b)))) := by
  refine pcall_intro c25_ok (by simp) (by simp [PureL, Pure, pure_dlet]) ?_ (by simp [Pure])
  unfold dlet
  (apply rd_sound; focus (repeat' constructor))
  ((conv=>whnf);repeat(refine .intro rfl ?_;conv=>whnf))
  rw [List.length_map, List.length_map]
  have fin : ∀ {c : Bool}, c = decide (a = b) → Deep [] (.sc (.bool c)) (.sc (.bool (decide (a = b)))) := fun h => h ▸ .refl _
  (refine ifK_split (fun h1 => ?_) (fun h1 => ?_) <;> (rw [h1]; ((conv=>whnf);repeat(refine .intro rfl ?_;conv=>whnf))))
  · exact fin (by rw [eq_comm, decide_eq_false_iff_not]; rintro rfl; simp at h1)
  have hl : a.length = b.length := by ((try simp only[oo,reduceCtorEq]at*)<;>omega)
  rw [List.length_map]
  refine pwp_loop (fun k : Nat => [(0, dlet a), (1, dlet b), (12, .sc (.int .i64 a.length)), (13, .sc (.int .i64 k))]) (fun _ => [])
    (fun k => k ≤ a.length ∧ ∀ j, j < k → a.getD j 0 = b.getD j 0) (fun k => a.length - k) 0 ⟨by omega, fun j h => by omega⟩ (le_env ⟨rfl, rfl, rfl, rfl, trivial⟩) ?_
  rintro k ⟨hk, hall⟩
  unfold dlet
  (apply rd_sound; focus (repeat' constructor))
  ((conv=>whnf);repeat(refine .intro rfl ?_;conv=>whnf))
  (refine ifK_split (fun h2 => ?_) (fun h2 => ?_) <;> (rw [h2]; ((conv=>whnf);repeat(refine .intro rfl ?_;conv=>whnf))))
  · have hk' : k < a.length := by ((try simp only[oo,reduceCtorEq]at*)<;>omega)
    refine ⟨by omega, _, let_at hk', ?_⟩
    ((conv=>whnf);repeat(refine .intro rfl ?_;conv=>whnf))
    refine ⟨by omega, _, let_at (l := b) (by omega), ?_⟩
    ((conv=>whnf);repeat(refine .intro rfl ?_;conv=>whnf))
    (refine ifK_split (fun h3 => ?_) (fun h3 => ?_) <;> (rw [h3]; ((conv=>whnf);repeat(refine .intro rfl ?_;conv=>whnf))))
    · exact fin (by rw [eq_comm, decide_eq_false_iff_not]; rintro rfl; simp at h3)
    · refine .inl ⟨by unfold InR; rw [IntKind.wrap_i64]; omega, ?_⟩
      ((conv=>whnf);repeat(refine .intro rfl ?_;conv=>whnf))
      refine ⟨k + 1, ⟨by omega, fun j hj => ?_⟩, by dsimp only; omega, le_env ⟨rfl, rfl, rfl, rfl, trivial⟩⟩
      by_cases e : j = k
      · subst e; simpa using h3
      · exact hall j (by omega)
  · refine fin ?_
    rw [eq_comm, decide_eq_true_eq]
    have hk' : ¬ k < a.length := by ((try simp only[oo,reduceCtorEq]at*)<;>omega)
    refine List.ext_getElem hl fun i h1 h2 => ?_
    have := hall i (by omega)
    rwa [List.getD_eq_getElem?_getD, List.getD_eq_getElem?_getD, List.getElem?_eq_getElem h1, List.getElem?_eq_getElem h2] at this
end Go.Proofs.Ytihgbinhidppdaa
