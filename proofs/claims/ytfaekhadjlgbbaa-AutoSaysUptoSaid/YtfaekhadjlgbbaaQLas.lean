/-
  Words that go round, over deep values. No statement is proved here.
-/
import Derived.Test.YtfaekhadjlgbbaaQDk2
import Derived.Test.YtfaekhadjlgbbaaQLw
import Derived.Test.YtfaekhadjlgbbaaProg
namespace Go.Proofs.Ytfaekhadjlgbbaa
open Go.RowKit
set_option linter.unusedSimpArgs false
def du (n : Int) : D := .sc (.int .u64 n)
def dlet (l : List Int) : D := .lst 1 (l.map fun n => [.sc (.int .u64 n)])
def wcells (s l : List Int) : List D := [dlet s, dlet l]
def dword (s l : List Int) : D := .agg (wcells s l)
theorem pure_dlet (l : List Int) : Pure (dlet l) := by
  simp only [dlet, Pure]; exact pureLL_map _ (fun n => by simp [PureL, Pure]) l
theorem pure_wcells (s l : List Int) : PureL (wcells s l) := by simp [wcells, PureL, pure_dlet]
theorem pure_dword (s l : List Int) : Pure (dword s l) := by simp [dword, Pure, pure_wcells]
theorem let_at {l : List Int} {k : Nat} (h : k < l.length) : (l.map fun n => [D.sc (.int .u64 n)])[k]? = some [.sc (.int .u64 (l.getD k 0))] := by
  rw [List.getElem?_map, List.getElem?_eq_getElem h, List.getD_eq_getElem?_getD, List.getElem?_eq_getElem h]; rfl
theorem let_atZ {l : List Int} {z : Int} (k : Nat) (hz : z = k) (h : k < l.length) : 0 ≤ z ∧ (l.map fun n => [D.sc (.int .u64 n)])[z.toNat]? = some [.sc (.int .u64 (l.getD k 0))] := by
  subst hz
  exact ⟨by omega, let_at h⟩
/-- What is wrong with a word. -/
def wchk (s l : List Int) : Int := if 60 < s.length ∨ 60 < s.length + l.length then 2 else if l.length = 0 then 1 else 0
theorem wchk_zero (s l : List Int) : wchk s l = 0 ↔ s.length + l.length ≤ 60 ∧ 1 ≤ l.length := by
  unfold wchk
  split
  · omega
  · split <;> omega
def c26 : PC := .seq (.ops [⟨some 1,.box (.tmp 0),none,0⟩,
 ⟨some 2,.move (.const (.int .i64 0)),none,0⟩] false) (.seq (.block 0 (.seq (.ops [⟨some 4,.faddr 0 (.tmp 1),none,0⟩,
 ⟨some 5,.load1 (.tmp 4),none,0⟩,
 ⟨some 6,.len (.tmp 5),none,0⟩,
 ⟨some 7,.bin .gtr (.tmp 6) (.const (.int .i64 60)),none,0⟩,
 ⟨some 8,.move (.tmp 7),none,0⟩,
 ⟨some 9,.faddr 1 (.tmp 1),some (8,false),0⟩,
 ⟨some 10,.load1 (.tmp 9),some (8,false),0⟩,
 ⟨some 11,.len (.tmp 10),some (8,false),0⟩,
 ⟨some 12,.faddr 0 (.tmp 1),some (8,false),0⟩,
 ⟨some 13,.load1 (.tmp 12),some (8,false),0⟩,
 ⟨some 14,.len (.tmp 13),some (8,false),0⟩,
 ⟨some 15,.bin .sub (.const (.int .i64 60)) (.tmp 14),some (8,false),0⟩,
 ⟨some 16,.bin .gtr (.tmp 11) (.tmp 15),some (8,false),0⟩,
 ⟨some 17,.pick (.tmp 8) (.const (.bool true)) (.tmp 16),none,0⟩,
 ⟨some 3,.move (.tmp 17),none,0⟩] false) (.cond (.tmp 3) (.seq (.ops [⟨some 2,.move (.const (.int .i64 2)),none,0⟩] false) (.ret)) (.seq (.ops [⟨some 19,.faddr 1 (.tmp 1),none,0⟩,
 ⟨some 20,.load1 (.tmp 19),none,0⟩,
 ⟨some 21,.len (.tmp 20),none,0⟩,
 ⟨some 22,.bin .eql (.tmp 21) (.const (.int .i64 0)),none,0⟩,
 ⟨some 18,.move (.tmp 22),none,0⟩] false) (.cond (.tmp 18) (.seq (.ops [⟨some 2,.move (.const (.int .i64 1)),none,0⟩] false) (.ret)) (.skip)))))) (.seq (.ops [⟨some 2,.move (.const (.int .i64 0)),none,0⟩] false) (.ret)))
set_option maxRecDepth 100000 in
theorem c26_ok : FunOK Try.prog 26 23 [.tmp 2] c26 := ⟨⟨Try.f26, Try.func26, rfl, by kernel_rfl, rfl, by kernel_rfl⟩⟩
theorem las_Check (s l : List Int) : PCall Try.prog 26 [dword s l] (.sc (.int .i64 (wchk s l))) := by
  refine pcall_intro c26_ok (by simp) (by simp [PureL, pure_dword]) ?_ (by simp [Pure])
  unfold dword wcells dlet
  (apply rd_sound; focus (repeat' constructor))
  ((conv=>whnf);repeat(refine .intro rfl ?_;conv=>whnf))
  rw [List.length_map]
  have fin : ∀ {n : Int}, n = wchk s l → Deep [AObj.row true [.lst 1 (s.map fun n => [.sc (.int .u64 n)]), .lst 1 (l.map fun n => [.sc (.int .u64 n)])]] (.sc (.int .i64 n)) (.sc (.int .i64 (wchk s l))) := fun h => h ▸ .refl _
  (refine ifK_split (fun h1 => ?_) (fun h1 => ?_) <;> (rw [h1]; ((conv=>whnf);repeat(refine .intro rfl ?_;conv=>whnf))))
  · exact fin (by unfold wchk; rw [if_pos (by ((try simp only[oo,reduceCtorEq]at*)<;>omega))])
  · refine .inl ⟨by unfold InR; rw [IntKind.wrap_i64]; ((try simp only[oo,reduceCtorEq]at*)<;>omega), ?_⟩
    rw [List.length_map]
    ((conv=>whnf);repeat(refine .intro rfl ?_;conv=>whnf))
    (refine ifK_split (fun h2 => ?_) (fun h2 => ?_) <;> (rw [h2]; ((conv=>whnf);repeat(refine .intro rfl ?_;conv=>whnf))))
    · exact fin (by unfold wchk; rw [if_pos (by ((try simp only[oo,reduceCtorEq]at*)<;>omega))])
    · rw [List.length_map]
      (refine ifK_split (fun h3 => ?_) (fun h3 => ?_) <;> (rw [h3]; ((conv=>whnf);repeat(refine .intro rfl ?_;conv=>whnf))))
      · exact fin (by unfold wchk; rw [if_neg (by ((try simp only[oo,reduceCtorEq]at*)<;>omega)), if_pos (by ((try simp only[oo,reduceCtorEq]at*)<;>omega))])
      · exact fin (by unfold wchk; rw [if_neg (by ((try simp only[oo,reduceCtorEq]at*)<;>omega)), if_neg (by ((try simp only[oo,reduceCtorEq]at*)<;>omega))])
def c11 : PC := .seq (.ops [⟨some 1,.box (.tmp 0),none,0⟩,
 ⟨some 2,.move (.const (.int .i64 0)),none,0⟩] false) (.seq (.seq (.ops [⟨some 3,.faddr 0 (.tmp 1),none,0⟩,
 ⟨some 4,.load1 (.tmp 3),none,0⟩,
 ⟨some 5,.len (.tmp 4),none,0⟩,
 ⟨some 6,.bin .gtr (.tmp 5) (.const (.int .i64 60)),none,0⟩,
 ⟨some 7,.move (.tmp 6),none,0⟩,
 ⟨some 8,.faddr 1 (.tmp 1),some (7,false),0⟩,
 ⟨some 9,.load1 (.tmp 8),some (7,false),0⟩,
 ⟨some 10,.len (.tmp 9),some (7,false),0⟩,
 ⟨some 11,.faddr 0 (.tmp 1),some (7,false),0⟩,
 ⟨some 12,.load1 (.tmp 11),some (7,false),0⟩,
 ⟨some 13,.len (.tmp 12),some (7,false),0⟩,
 ⟨some 14,.bin .sub (.const (.int .i64 60)) (.tmp 13),some (7,false),0⟩,
 ⟨some 15,.bin .gtr (.tmp 10) (.tmp 14),some (7,false),0⟩,
 ⟨some 16,.pick (.tmp 7) (.const (.bool true)) (.tmp 15),none,0⟩] false) (.cond (.tmp 16) (.seq (.ops [⟨some 2,.move (.const (.int .i64 2)),none,0⟩] false) (.ret)) (.skip))) (.seq (.seq (.ops [⟨some 17,.faddr 1 (.tmp 1),none,0⟩,
 ⟨some 18,.load1 (.tmp 17),none,0⟩,
 ⟨some 19,.len (.tmp 18),none,0⟩,
 ⟨some 20,.bin .eql (.tmp 19) (.const (.int .i64 0)),none,0⟩] false) (.cond (.tmp 20) (.seq (.ops [⟨some 2,.move (.const (.int .i64 1)),none,0⟩] false) (.ret)) (.skip))) (.seq (.ops [⟨some 2,.move (.const (.int .i64 0)),none,0⟩] false) (.ret))))
set_option maxRecDepth 100000 in
theorem c11_ok : FunOK Try.prog 11 21 [.tmp 2] c11 := ⟨⟨Try.f11, Try.func11, rfl, by kernel_rfl, rfl, by kernel_rfl⟩⟩
theorem ref_Word (s l : List Int) : PCall Try.prog 11 [dword s l] (.sc (.int .i64 (wchk s l))) := by
  refine pcall_intro c11_ok (by simp) (by simp [PureL, pure_dword]) ?_ (by simp [Pure])
  unfold dword wcells dlet
  (apply rd_sound; focus (repeat' constructor))
  ((conv=>whnf);repeat(refine .intro rfl ?_;conv=>whnf))
  rw [List.length_map]
  have fin : ∀ {n : Int}, n = wchk s l → Deep [AObj.row true [.lst 1 (s.map fun n => [.sc (.int .u64 n)]), .lst 1 (l.map fun n => [.sc (.int .u64 n)])]] (.sc (.int .i64 n)) (.sc (.int .i64 (wchk s l))) := fun h => h ▸ .refl _
  (refine ifK_split (fun h1 => ?_) (fun h1 => ?_) <;> (rw [h1]; ((conv=>whnf);repeat(refine .intro rfl ?_;conv=>whnf))))
  · exact fin (by unfold wchk; rw [if_pos (by ((try simp only[oo,reduceCtorEq]at*)<;>omega))])
  · refine .inl ⟨by unfold InR; rw [IntKind.wrap_i64]; ((try simp only[oo,reduceCtorEq]at*)<;>omega), ?_⟩
    rw [List.length_map]
    ((conv=>whnf);repeat(refine .intro rfl ?_;conv=>whnf))
    (refine ifK_split (fun h2 => ?_) (fun h2 => ?_) <;> (rw [h2]; ((conv=>whnf);repeat(refine .intro rfl ?_;conv=>whnf))))
    · exact fin (by unfold wchk; rw [if_pos (by ((try simp only[oo,reduceCtorEq]at*)<;>omega))])
    · rw [List.length_map]
      (refine ifK_split (fun h3 => ?_) (fun h3 => ?_) <;> (rw [h3]; ((conv=>whnf);repeat(refine .intro rfl ?_;conv=>whnf))))
      · exact fin (by unfold wchk; rw [if_neg (by ((try simp only[oo,reduceCtorEq]at*)<;>omega)), if_pos (by ((try simp only[oo,reduceCtorEq]at*)<;>omega))])
      · exact fin (by unfold wchk; rw [if_neg (by ((try simp only[oo,reduceCtorEq]at*)<;>omega)), if_neg (by ((try simp only[oo,reduceCtorEq]at*)<;>omega))])
def c88 : PC := .seq (.ops [⟨some 2,.move (.const (.slice none 0 0)),none,0⟩] false) (.seq (.seq (.ops [⟨some 3,.move (.tmp 0),none,0⟩,
 ⟨some 4,.isnil 3 false (.tmp 3),none,0⟩] false) (.cond (.tmp 4) (.seq (.ops [⟨some 2,.move (.const (.slice none 0 0)),none,0⟩] false) (.ret)) (.skip))) (.seq (.ops [⟨some 5,.bslice 1 0 [],none,0⟩,
 ⟨some 6,.move (.tmp 0),none,0⟩,
 ⟨some 7,.append 1 8 (.tmp 5) (.tmp 6),none,0⟩,
 ⟨some 2,.move (.tmp 7),none,0⟩] false) (.ret)))
set_option maxRecDepth 100000 in
theorem c88_ok : FunOK Try.prog 88 8 [.tmp 2] c88 := ⟨⟨Try.f88, Try.func88, rfl, by kernel_rfl, rfl, by kernel_rfl⟩⟩
theorem clone_u64 (l : List Int) (hl : l.length ≤ 1000000000) : PCall Try.prog 88 [dlet l] (dlet l) := by
  refine pcall_intro c88_ok (by simp) (by simp [PureL, pure_dlet]) ?_ (pure_dlet _)
  unfold dlet
  (apply rd_sound; focus (repeat' constructor))
  ((conv=>whnf);repeat(refine .intro rfl ?_;conv=>whnf))
  intro b hb
  cases b
  · ((conv=>whnf);repeat(refine .intro rfl ?_;conv=>whnf))
    refine ⟨by unfold sliceAppend; simp only [List.length_map]; omega, ?_⟩
    ((conv=>whnf);repeat(refine .intro rfl ?_;conv=>whnf))
    refine .own _ _ _ _ _ _ _ _ rfl ?_
    simp only [List.length_map, List.nil_append, List.take_nil, List.drop_nil]
    rw [List.drop_zero, List.take_of_length_le (by simp)]
    exact deepLL_refl _
  · ((conv=>whnf);repeat(refine .intro rfl ?_;conv=>whnf))
    rw [hb rfl]
    exact .none _
def c126_1 : PC := .seq (.seq (.ops [⟨some 7,.move (.tmp 5),none,0⟩,
 ⟨some 8,.move (.tmp 0),none,0⟩,
 ⟨some 9,.len (.tmp 8),none,0⟩,
 ⟨some 10,.bin .lss (.tmp 7) (.tmp 9),none,0⟩] false) (.cond (.tmp 10) (.skip) (.exit 0))) (.seq (.block 1 (.seq (.ops [⟨some 13,.move (.tmp 0),none,0⟩,
 ⟨some 14,.move (.tmp 5),none,0⟩,
 ⟨some 15,.iaddr 1 (.tmp 13) (.tmp 14),none,3⟩,
 ⟨some 16,.load1 (.tmp 15),none,7⟩,
 ⟨some 17,.move (.tmp 0),none,0⟩,
 ⟨some 18,.move (.tmp 5),none,0⟩,
 ⟨some 19,.move (.tmp 1),none,0⟩,
 ⟨some 20,.bin .sub (.tmp 18) (.tmp 19),none,96⟩,
 ⟨some 21,.iaddr 1 (.tmp 17) (.tmp 20),none,240⟩,
 ⟨some 22,.load1 (.tmp 21),none,496⟩,
 ⟨some 23,.bin .neq (.tmp 16) (.tmp 22),none,1023⟩] true) (.cond (.tmp 23) (.seq (.ops [⟨some 4,.move (.const (.bool false)),none,0⟩] false) (.ret)) (.skip)))) (.ops [⟨some 11,.move (.tmp 5),none,0⟩,
 ⟨some 12,.bin .add (.tmp 11) (.const (.int .i64 1)),none,0⟩,
 ⟨some 5,.move (.tmp 12),none,0⟩] false))
def c126 : PC := .seq (.ops [⟨some 4,.move (.const (.bool false)),none,0⟩] false) (.seq (.seq (.ops [⟨some 6,.move (.tmp 1),none,0⟩,
 ⟨some 5,.move (.tmp 6),none,0⟩] false) (.block 0 (.loop c126_1))) (.seq (.ops [⟨some 4,.move (.const (.bool true)),none,0⟩] false) (.ret)))
set_option maxRecDepth 100000 in
theorem c126_ok : FunOK Try.prog 126 24 [.tmp 4] c126 := ⟨⟨Try.f126, Try.func126, rfl, by kernel_rfl, rfl, by kernel_rfl⟩⟩
def turnsB (l : List Int) (n : Nat) : Bool := (List.range l.length).all fun i => decide (i < n) || l.getD i 0 == l.getD (i - n) 0
theorem turnsB_iff {l : List Int} {n : Nat} : turnsB l n = true ↔ Turns l n := by
  unfold turnsB Turns
  rw [List.all_eq_true]
  constructor
  · intro h i h1 h2
    have := h i (List.mem_range.2 h2)
    simp only [Bool.or_eq_true, decide_eq_true_eq, beq_iff_eq] at this
    omega
  · intro h i hi
    have hi := List.mem_range.1 hi
    simp only [Bool.or_eq_true, decide_eq_true_eq, beq_iff_eq]
    by_cases q : i < n
    · exact .inl q
    · exact .inr (h i (by omega) hi)
theorem las_turns (l : List Int) (n : Nat) (hl : l.length ≤ 1000000000) (hn : n ≤ l.length) : PCall Try.prog 126 [dlet l, .sc (.int .i64 n)] (.sc (.bool (turnsB l n))) := by
  refine pcall_intro c126_ok (by simp) (by simp [PureL, Pure, pure_dlet]) ?_ (by simp [Pure])
  (apply rd_sound; focus (repeat' constructor))
  ((conv=>whnf);repeat(refine .intro rfl ?_;conv=>whnf))
  refine pwp_loop (fun k : Nat => [(0, dlet l), (1, .sc (.int .i64 n)), (5, .sc (.int .i64 k))]) (fun _ => [])
    (fun k => n ≤ k ∧ k ≤ l.length ∧ ∀ j, n ≤ j → j < k → l.getD j 0 = l.getD (j - n) 0) (fun k => l.length - k) n ⟨by omega, hn, fun j h => by omega⟩ (le_env ⟨rfl, rfl, rfl, trivial⟩) ?_
  rintro k ⟨hk, hk2, hall⟩
  unfold dlet
  (apply rd_sound; focus (repeat' constructor))
  ((conv=>whnf);repeat(refine .intro rfl ?_;conv=>whnf))
  rw [List.length_map]
  have fin : ∀ {b : Bool}, b = turnsB l n → Deep [] (.sc (.bool b)) (.sc (.bool (turnsB l n))) := fun h => h ▸ .refl _
  (refine ifK_split (fun h1 => ?_) (fun h1 => ?_) <;> (rw [h1]; ((conv=>whnf);repeat(refine .intro rfl ?_;conv=>whnf))))
  · have hk' : k < l.length := by ((try simp only[oo,reduceCtorEq]at*)<;>omega)
    refine ⟨by omega, _, let_at hk', ?_⟩
    ((conv=>whnf);repeat(refine .intro rfl ?_;conv=>whnf))
    refine .inl ⟨by unfold InR; rw [IntKind.wrap_i64]; omega, ?_⟩
    ((conv=>whnf);repeat(refine .intro rfl ?_;conv=>whnf))
    obtain ⟨q1, q2⟩ := let_atZ (l := l) (z := (k : Int) - n) (k - n) (by omega) (by omega)
    refine ⟨q1, _, q2, ?_⟩
    ((conv=>whnf);repeat(refine .intro rfl ?_;conv=>whnf))
    (refine ifK_split (fun h2 => ?_) (fun h2 => ?_) <;> (rw [h2]; ((conv=>whnf);repeat(refine .intro rfl ?_;conv=>whnf))))
    · refine fin ?_
      rw [eq_comm, ← Bool.not_eq_true, turnsB_iff]
      intro h; have := h k hk hk'; simp only [bne_iff_ne, ne_eq] at h2; exact h2 this
    · refine .inl ⟨by unfold InR; rw [IntKind.wrap_i64]; omega, ?_⟩
      ((conv=>whnf);repeat(refine .intro rfl ?_;conv=>whnf))
      refine ⟨k + 1, ⟨by omega, by omega, fun j hj1 hj => ?_⟩, by dsimp only; omega, le_env ⟨rfl, rfl, rfl, trivial⟩⟩
      by_cases e : j = k
      · subst e; simpa using h2
      · exact hall j hj1 (by omega)
  · refine fin (turnsB_iff.2 fun i q1 q2 => hall i q1 ?_).symm
    have : ¬ k < l.length := by ((try simp only[oo,reduceCtorEq]at*)<;>omega)
    omega
end Go.Proofs.Ytfaekhadjlgbbaa
