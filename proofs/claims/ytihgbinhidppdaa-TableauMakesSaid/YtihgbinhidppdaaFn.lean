/-
  Functions of package slices over deep values: looks for an element. No statement is proved here.
-/
import Derived.Test.YtihgbinhidppdaaDk2
import Derived.Test.YtihgbinhidppdaaDl
import Derived.Test.YtihgbinhidppdaaProg
namespace Go.Proofs.Ytihgbinhidppdaa
open Go.RowKit
set_option linter.unusedSimpArgs false
set_option linter.unusedVariables false
/-- The first place that is so; -1: none. -/
def idxF {α : Type} (p : α → Bool) (l : List α) : Int := match l.findIdx? p with | some i => (i : Int) | none => -1
theorem idxF_hit {α : Type} {p : α → Bool} {l : List α} {k : Nat} (hk : k < l.length) (h : p l[k] = true) (no : ∀ j (hj : j < k), p (l[j]'(by omega)) = false) : idxF p l = k := by
  have : l.findIdx? p = some k := by
    rw [List.findIdx?_eq_some_iff_getElem]
    exact ⟨hk, h, fun j hj => by simp [no j hj]⟩
  unfold idxF
  rw [this]
theorem idxF_none {α : Type} {p : α → Bool} {l : List α} (no : ∀ j (hj : j < l.length), p l[j] = false) : idxF p l = -1 := by
  have : l.findIdx? p = none := by
    rw [List.findIdx?_eq_none_iff]
    intro x hx
    obtain ⟨j, hj, rfl⟩ := List.mem_iff_getElem.1 hx
    exact no j hj
  unfold idxF
  rw [this]
theorem idxF_any {α : Type} (p : α → Bool) (l : List α) : decide (idxF p l ≥ 0) = l.any p := by
  unfold idxF
  cases e : l.findIdx? p with
  | none =>
    rw [List.findIdx?_eq_none_iff] at e
    have : l.any p = false := by rw [List.any_eq_false]; intro x hx; simp [e x hx]
    rw [this]; rfl
  | some i =>
    rw [List.findIdx?_eq_some_iff_getElem] at e
    obtain ⟨h1, h2, _⟩ := e
    have : l.any p = true := by rw [List.any_eq_true]; exact ⟨_, List.getElem_mem h1, h2⟩
    rw [this]
    exact decide_eq_true (by show (0 : Int) ≤ (i : Int); omega)
theorem idxF_lt {α : Type} {p : α → Bool} {l : List α} (h : 0 ≤ idxF p l) : ∃ k : Nat, idxF p l = (k : Int) ∧ ∃ hk : k < l.length, p l[k] = true ∧ ∀ j (hj : j < k), p (l[j]'(by omega)) = false := by
  unfold idxF at h ⊢
  cases e : l.findIdx? p with
  | none => rw [e] at h; exact absurd h (by decide)
  | some i =>
    rw [List.findIdx?_eq_some_iff_getElem] at e
    obtain ⟨h1, h2, h3⟩ := e
    exact ⟨i, rfl, h1, h2, fun j hj => by simpa using h3 j hj⟩
theorem one_at {α : Type} {c : α → D} {l : List α} {z k : Nat} (hz : z = k) (h : k < l.length) : (l.map fun a => [c a])[z]? = some [c l[k]] := by
  subst hz
  rw [List.getElem?_map, List.getElem?_eq_getElem h]
  rfl
theorem inr_succ {k n : Nat} (h : k < n) (hn : n ≤ 9223372036854775807) : InR .i64 ((k : Int) + 1) := by unfold InR; rw [IntKind.wrap_i64]; omega
@[simp] theorem underLL_map {α : Type} {m : Nat} (f : α → List D) (l : List α) : UnderLL m (l.map f) ↔ ∀ a ∈ l, UnderL m (f a) := by
  induction l with
  | nil => simp [UnderLL]
  | cons a r ih => simp [UnderLL, ih]
@[simp] theorem pureLL_mapI {α : Type} (f : α → List D) (l : List α) : PureLL (l.map f) ↔ ∀ a ∈ l, PureL (f a) := by
  induction l with
  | nil => simp [PureLL]
  | cons a r ih => simp [PureLL, ih]
@[simp] theorem renLL_map {α : Type} {ρ : Nat → Nat} (f : α → List D) (l : List α) : renLL ρ (l.map f) = l.map fun a => renL ρ (f a) := by
  induction l with
  | nil => simp [renLL]
  | cons a r ih => simp [renLL, ih]
@[simp] theorem under_dints {m : Nat} (l : List Int) : Under m (dints l) ↔ True := ⟨fun _ => trivial, fun _ => under_pure _ (pure_dints l)⟩
@[simp] theorem under_dgrid {m : Nat} (l : List (List Int)) : Under m (dgrid l) ↔ True := ⟨fun _ => trivial, fun _ => under_pure _ (pure_dgrid l)⟩
@[simp] theorem ren_dints {ρ : Nat → Nat} (l : List Int) : D.ren ρ (dints l) = dints l := ren_pure _ (pure_dints l)
@[simp] theorem ren_dgrid {ρ : Nat → Nat} (l : List (List Int)) : D.ren ρ (dgrid l) = dgrid l := ren_pure _ (pure_dgrid l)
theorem app_map {α : Type} (f : α → List D) (s l : List α) : List.drop 0 (List.take s.length (s.map f)) ++ l.map f = (s ++ l).map f := by
  rw [List.drop_zero, List.take_of_length_le (by simp), List.map_append]
theorem drop_take_all {α : Type} {n : Nat} {l : List α} (h : l.length ≤ n) : List.drop 0 (List.take n l) = l := by rw [List.drop_zero, List.take_of_length_le h]
/-- Copies: of one's own. -/
def c14o : PC := .seq (.ops [⟨some 2,.move (.const (.slice none 0 0)),none,0⟩] false) (.seq (.seq (.ops [⟨some 3,.move (.tmp 0),none,0⟩,
 ⟨some 4,.isnil 3 false (.tmp 3),none,0⟩] false) (.cond (.tmp 4) (.seq (.stop (.ops [⟨some 2,.move (.const (.slice none 0 0)),none,0⟩] false)) (.ret)) (.skip))) (.seq (.ops [⟨some 5,.bslice 1 0 [],none,0⟩,
 ⟨some 6,.move (.tmp 0),none,0⟩,
 ⟨some 7,.append 1 8 (.tmp 5) (.tmp 6),none,0⟩,
 ⟨some 2,.move (.tmp 7),none,0⟩] false) (.ret)))
set_option maxRecDepth 100000 in
theorem c14o_ok : FunOK Try.prog 14 8 [.tmp 2] c14o := ⟨⟨Try.f14, Try.func14, rfl, by kernel_rfl, rfl, by kernel_rfl⟩⟩
theorem cloneO_int (l : List Int) (hl : l.length ≤ 17592186044416) : ACall Try.prog 14 [.lst 1 (l.map fun n => [.sc (.int .i64 n)])] [] (.own 0 1 0 l.length) [.vec true 1 1 (l.map fun n => [.sc (.int .i64 n)])] := by
  refine acall_intro c14o_ok (by simp) (by simp) ?_ (by simp [Under]) (by simp [AObj.under, UnderL, Under])
  (apply rd_sound; focus (repeat' constructor))
  ((conv=>whnf);repeat(refine .intro rfl ?_;conv=>whnf))
  intro b hb
  cases b
  · ((conv=>whnf);repeat(refine .intro rfl ?_;conv=>whnf))
    refine ⟨(by unfold sliceAppend; simp only [ll]; omega), ?_⟩
    ((conv=>whnf);repeat(refine .intro rfl ?_;conv=>whnf))
    simp
  · ((conv=>whnf);repeat(refine .intro rfl ?_;conv=>whnf))
    have hb := hb rfl
    obtain rfl : l = [] := by simpa using hb
    refine pwp_cut (fun _ : Unit => [(2, .own 0 1 0 0)]) (fun _ => [.vec true 1 1 []]) (fun _ => True) ?_ ?_
    · (apply rd_sound; focus (repeat' constructor))
      ((conv=>whnf);repeat(refine .intro rfl ?_;conv=>whnf))
      exact ⟨(), trivial, leB_trans (leB_nilV 2 1 1 (by simp) rfl) (leB_env (by (repeat' (first | exact trivial | refine And.intro rfl ?_))))⟩
    · rintro _ _
      ((conv=>whnf);repeat(refine .intro rfl ?_;conv=>whnf))
      simp
def c47_1 : PC := .seq (.ops [⟨some 9,.bin .lss (.tmp 8) (.tmp 7),none,0⟩] false) (.seq (.cond (.tmp 9) (.skip) (.exit 0)) (.seq (.block 1 (.seq (.ops [⟨some 10,.move (.tmp 8),none,0⟩,
 ⟨some 5,.move (.tmp 10),none,0⟩] false) (.seq (.ops [⟨some 11,.move (.tmp 1),none,0⟩,
 ⟨some 12,.move (.tmp 0),none,0⟩,
 ⟨some 13,.move (.tmp 5),none,0⟩,
 ⟨some 14,.iaddr 1 (.tmp 12) (.tmp 13),none,0⟩,
 ⟨some 15,.load1 (.tmp 14),none,0⟩,
 ⟨some 16,.bin .eql (.tmp 11) (.tmp 15),none,0⟩] false) (.cond (.tmp 16) (.seq (.ops [⟨some 17,.move (.tmp 5),none,0⟩,
 ⟨some 4,.move (.tmp 17),none,0⟩] false) (.ret)) (.skip))))) (.ops [⟨some 18,.bin .add (.tmp 8) (.const (.int .i64 1)),none,0⟩,
 ⟨some 8,.move (.tmp 18),none,0⟩] false)))
def c47 : PC := .seq (.ops [⟨some 4,.move (.const (.int .i64 0)),none,0⟩] false) (.seq (.seq (.ops [⟨some 6,.move (.tmp 0),none,0⟩,
 ⟨some 7,.len (.tmp 6),none,0⟩,
 ⟨some 8,.move (.const (.int .i64 0)),none,0⟩] false) (.block 0 (.loop c47_1))) (.seq (.ops [⟨some 4,.move (.const (.int .i64 (-1))),none,0⟩] false) (.ret)))
set_option maxRecDepth 100000 in
theorem c47_ok : FunOK Try.prog 47 19 [.tmp 4] c47 := ⟨⟨Try.f47, Try.func47, rfl, by kernel_rfl, rfl, by kernel_rfl⟩⟩
theorem index_int (l : List Int) (hl : l.length ≤ 9223372036854775807) (b : Int) :
    PCall Try.prog 47 [.lst 1 (l.map fun a => [.sc (.int .i64 a)]), .sc (.int .i64 b)] (.sc (.int .i64 (idxF (fun a => b == a) l))) := by
  have hpl : PureLL (l.map fun a => [D.sc (.int .i64 a)]) := pureLL_map _ (fun a => by simp [PureL, Pure]) l
  refine pcall_intro c47_ok (by simp) (by simp [PureL, Pure, hpl]) ?_ (by simp [Pure])
  (apply rd_sound; focus (repeat' constructor))
  ((conv=>whnf);repeat(refine .intro rfl ?_;conv=>whnf))
  rw [List.length_map]
  have fin : ∀ {z : Int}, z = idxF (fun a => b == a) l → Deep [] (.sc (.int .i64 z)) (.sc (.int .i64 (idxF (fun a => b == a) l))) := fun h => h ▸ .refl _
  refine pwp_for [0, 1, 7] (fun k : Nat => [(8, .sc (.int .i64 k))]) (fun _ => []) (fun k => k ≤ l.length ∧ ∀ j (hj : j < k) (hl : j < l.length), (b == l[j]) = false) (fun k => l.length - k) 0 ?_
  ((conv=>whnf);repeat(refine .intro rfl ?_;conv=>whnf))
  refine ⟨⟨by omega, fun j hj => by omega⟩, by (repeat' (first | exact trivial | refine And.intro rfl ?_)), rfl, ?_⟩
  rintro k ⟨hk, hno⟩
  ((conv=>whnf);repeat(refine .intro rfl ?_;conv=>whnf))
  (apply rd_sound; focus (repeat' constructor))
  ((conv=>whnf);repeat(refine .intro rfl ?_;conv=>whnf))
  (refine ifK_split (fun h => ?_) (fun h => ?_) <;> (rw [h]; ((conv=>whnf);repeat(refine .intro rfl ?_;conv=>whnf))))
  · have hk' : k < l.length := by ((try simp only[oo,reduceCtorEq]at*)<;>omega)
    refine ⟨by omega, _, one_at (c := fun a => .sc (.int .i64 a)) (k := k) (by omega) hk', ?_⟩
    ((conv=>whnf);repeat(refine .intro rfl ?_;conv=>whnf))
    (refine ifK_split (fun h2 => ?_) (fun h2 => ?_) <;> (rw [h2]; ((conv=>whnf);repeat(refine .intro rfl ?_;conv=>whnf))))
    · exact fin (idxF_hit hk' h2 fun j hj => hno j hj (by omega)).symm
    · (refine .inl ⟨by (unfold InR; rw [IntKind.wrap_i64]; omega), ?_⟩; ((conv=>whnf);repeat(refine .intro rfl ?_;conv=>whnf)))
      refine ⟨k + 1, ⟨by omega, fun j hj hl => ?_⟩, by dsimp only; omega, leB_envH (by (repeat' (first | exact trivial | refine And.intro rfl ?_))) rfl⟩
      by_cases e : j = k
      · subst e; exact h2
      · exact hno j (by omega) hl
  · have hk' : ¬ k < l.length := by ((try simp only[oo,reduceCtorEq]at*)<;>omega)
    exact fin (idxF_none fun j hj => hno j (by omega) hj).symm
def c35 : PC := .seq (.ops [⟨some 4,.move (.const (.bool false)),none,0⟩] false) (.seq (.ops [⟨some 5,.move (.tmp 0),none,0⟩,
 ⟨some 6,.move (.tmp 1),none,0⟩,
 ⟨some 7,.call 47 [(.tmp 5), (.tmp 6)],none,0⟩,
 ⟨some 8,.bin .geq (.tmp 7) (.const (.int .i64 0)),none,0⟩,
 ⟨some 4,.move (.tmp 8),none,0⟩] false) (.ret))
set_option maxRecDepth 100000 in
theorem c35_ok : FunOK Try.prog 35 9 [.tmp 4] c35 := ⟨⟨Try.f35, Try.func35, rfl, by kernel_rfl, rfl, by kernel_rfl⟩⟩
theorem contains_int (l : List Int) (hl : l.length ≤ 9223372036854775807) (b : Int) :
    PCall Try.prog 35 [.lst 1 (l.map fun a => [.sc (.int .i64 a)]), .sc (.int .i64 b)] (.sc (.bool (l.contains b))) := by
  have hpl : PureLL (l.map fun a => [D.sc (.int .i64 a)]) := pureLL_map _ (fun a => by simp [PureL, Pure]) l
  refine pcall_intro c35_ok (by simp) (by simp [PureL, Pure, hpl]) ?_ (by simp [Pure])
  (apply rd_sound; focus (repeat' constructor))
  ((conv=>whnf);repeat(refine .intro rfl ?_;conv=>whnf))
  (refine .inl ⟨_, (index_int l hl b), ?_⟩; ((conv=>whnf);repeat(refine .intro rfl ?_;conv=>whnf)))
  rw [idxF_any]
  exact deep_eq (by rw [List.contains_eq_any_beq])
def c24_1 : PC := .seq (.ops [⟨some 14,.bin .lss (.tmp 13) (.tmp 12),none,0⟩] false) (.seq (.cond (.tmp 14) (.skip) (.exit 0)) (.seq (.block 1 (.seq (.ops [⟨some 15,.move (.tmp 13),none,0⟩,
 ⟨some 5,.move (.tmp 15),none,0⟩] false) (.seq (.ops [⟨some 16,.move (.tmp 0),none,0⟩,
 ⟨some 17,.move (.tmp 5),none,0⟩,
 ⟨some 18,.iaddr 1 (.tmp 16) (.tmp 17),none,3⟩,
 ⟨some 19,.load1 (.tmp 18),none,7⟩,
 ⟨some 20,.move (.tmp 1),none,0⟩,
 ⟨some 21,.move (.tmp 5),none,0⟩,
 ⟨some 22,.iaddr 1 (.tmp 20) (.tmp 21),none,48⟩,
 ⟨some 23,.load1 (.tmp 22),none,112⟩,
 ⟨some 24,.bin .neq (.tmp 19) (.tmp 23),none,255⟩] true) (.cond (.tmp 24) (.seq (.ops [⟨some 4,.move (.const (.bool false)),none,0⟩] false) (.ret)) (.skip))))) (.ops [⟨some 25,.bin .add (.tmp 13) (.const (.int .i64 1)),none,0⟩,
 ⟨some 13,.move (.tmp 25),none,0⟩] false)))
def c24 : PC := .seq (.ops [⟨some 4,.move (.const (.bool false)),none,0⟩] false) (.seq (.seq (.ops [⟨some 6,.move (.tmp 0),none,0⟩,
 ⟨some 7,.len (.tmp 6),none,0⟩,
 ⟨some 8,.move (.tmp 1),none,0⟩,
 ⟨some 9,.len (.tmp 8),none,0⟩,
 ⟨some 10,.bin .neq (.tmp 7) (.tmp 9),none,0⟩] false) (.cond (.tmp 10) (.seq (.ops [⟨some 4,.move (.const (.bool false)),none,0⟩] false) (.ret)) (.skip))) (.seq (.seq (.ops [⟨some 11,.move (.tmp 0),none,0⟩,
 ⟨some 12,.len (.tmp 11),none,0⟩,
 ⟨some 13,.move (.const (.int .i64 0)),none,0⟩] false) (.block 0 (.loop c24_1))) (.seq (.ops [⟨some 4,.move (.const (.bool true)),none,0⟩] false) (.ret))))
set_option maxRecDepth 100000 in
theorem c24_ok : FunOK Try.prog 24 26 [.tmp 4] c24 := ⟨⟨Try.f24, Try.func24, rfl, by kernel_rfl, rfl, by kernel_rfl⟩⟩
theorem equal_int (a b : List Int) (ha : a.length ≤ 9223372036854775807) : PCall Try.prog 24 [dints a, dints b] (.sc (.bool (decide (a = b)))) := by
  refine pcall_intro c24_ok (by simp) (by simp [PureL, Pure, pure_dints]) ?_ (by simp [Pure])
  unfold dints
  (apply rd_sound; focus (repeat' constructor))
  ((conv=>whnf);repeat(refine .intro rfl ?_;conv=>whnf))
  rw [List.length_map, List.length_map]
  have fin : ∀ {c : Bool}, c = decide (a = b) → Deep [] (.sc (.bool c)) (.sc (.bool (decide (a = b)))) := fun h => h ▸ .refl _
  (refine ifK_split (fun h1 => ?_) (fun h1 => ?_) <;> (rw [h1]; ((conv=>whnf);repeat(refine .intro rfl ?_;conv=>whnf))))
  · exact fin (by rw [eq_comm, decide_eq_false_iff_not]; rintro rfl; simp at h1)
  have hl : a.length = b.length := by ((try simp only[oo,reduceCtorEq]at*)<;>omega)
  rw [List.length_map]
  refine pwp_for [0, 1, 12] (fun k : Nat => [(13, .sc (.int .i64 k))]) (fun _ => []) (fun k => k ≤ a.length ∧ ∀ j (hj : j < k) (h1 : j < a.length) (h2 : j < b.length), a[j] = b[j]) (fun k => a.length - k) 0 ?_
  ((conv=>whnf);repeat(refine .intro rfl ?_;conv=>whnf))
  refine ⟨⟨by omega, fun j h => by omega⟩, by (repeat' (first | exact trivial | refine And.intro rfl ?_)), rfl, ?_⟩
  rintro k ⟨hk, hall⟩
  ((conv=>whnf);repeat(refine .intro rfl ?_;conv=>whnf))
  (apply rd_sound; focus (repeat' constructor))
  ((conv=>whnf);repeat(refine .intro rfl ?_;conv=>whnf))
  (refine ifK_split (fun h2 => ?_) (fun h2 => ?_) <;> (rw [h2]; ((conv=>whnf);repeat(refine .intro rfl ?_;conv=>whnf))))
  · have hk' : k < a.length := by ((try simp only[oo,reduceCtorEq]at*)<;>omega)
    refine ⟨by omega, _, one_at (c := fun n => .sc (.int .i64 n)) (k := k) (by omega) hk', ?_⟩
    ((conv=>whnf);repeat(refine .intro rfl ?_;conv=>whnf))
    refine ⟨by omega, _, one_at (c := fun n => .sc (.int .i64 n)) (l := b) (k := k) (by omega) (by omega), ?_⟩
    ((conv=>whnf);repeat(refine .intro rfl ?_;conv=>whnf))
    (refine ifK_split (fun h3 => ?_) (fun h3 => ?_) <;> (rw [h3]; ((conv=>whnf);repeat(refine .intro rfl ?_;conv=>whnf))))
    · exact fin (by rw [eq_comm, decide_eq_false_iff_not]; rintro rfl; simp at h3)
    · (refine .inl ⟨by (unfold InR; rw [IntKind.wrap_i64]; omega), ?_⟩; ((conv=>whnf);repeat(refine .intro rfl ?_;conv=>whnf)))
      refine ⟨k + 1, ⟨by omega, fun j hj h1 h2 => ?_⟩, by dsimp only; omega, leB_envH (by (repeat' (first | exact trivial | refine And.intro rfl ?_))) rfl⟩
      by_cases e : j = k
      · subst e; simpa using h3
      · exact hall j (by omega) h1 h2
  · refine fin ?_
    rw [eq_comm, decide_eq_true_eq]
    have hk' : ¬ k < a.length := by ((try simp only[oo,reduceCtorEq]at*)<;>omega)
    exact List.ext_getElem hl fun i h1 h2 => hall i (by omega) h1 h2
end Go.Proofs.Ytihgbinhidppdaa
