/-
  Functions of package slices over deep values: looks for an element. No statement is proved here.
-/
import Derived.Test.YtgkodbnomgabdaaDoorDk2
import Derived.Test.YtgkodbnomgabdaaDoorDl
import Derived.Test.YtgkodbnomgabdaaDoorProg
namespace Go.Proofs.YtgkodbnomgabdaaDoor
open Go.RowKit
set_option linter.unusedSimpArgs false
set_option linter.unusedVariables false
/-- The first place that is so; -1: none. -/
def idxF {α : Type} (p : α → Bool) (l : List α) : Int := match l.findIdx? p with | some i => (i : Int) | none => -1
theorem idxF_hit {α : Type} {p : α → Bool} {l : List α} {k : Nat} (hk : k < l.length) (h : p l[k] = true) (no : ∀ j (hj : j < k), p (l[j]'(by omega)) = false) : idxF p l = k := by
  have : l.findIdx? p = some k := by
    rw [List.findIdx?_eq_some_iff_getElem]
    exact ⟨hk, h, fun j hj => by simp [no j hj]⟩
  unfold idxF
  rw [this]
theorem idxF_none {α : Type} {p : α → Bool} {l : List α} (no : ∀ j (hj : j < l.length), p l[j] = false) : idxF p l = -1 := by
  have : l.findIdx? p = none := by
    rw [List.findIdx?_eq_none_iff]
    intro x hx
    obtain ⟨j, hj, rfl⟩ := List.mem_iff_getElem.1 hx
    exact no j hj
  unfold idxF
  rw [this]
theorem idxF_any {α : Type} (p : α → Bool) (l : List α) : decide (idxF p l ≥ 0) = l.any p := by
  unfold idxF
  cases e : l.findIdx? p with
  | none =>
    rw [List.findIdx?_eq_none_iff] at e
    have : l.any p = false := by rw [List.any_eq_false]; intro x hx; simp [e x hx]
    rw [this]; rfl
  | some i =>
    rw [List.findIdx?_eq_some_iff_getElem] at e
    obtain ⟨h1, h2, _⟩ := e
    have : l.any p = true := by rw [List.any_eq_true]; exact ⟨_, List.getElem_mem h1, h2⟩
    rw [this]
    exact decide_eq_true (by show (0 : Int) ≤ (i : Int); omega)
theorem idxF_lt {α : Type} {p : α → Bool} {l : List α} (h : 0 ≤ idxF p l) : ∃ k : Nat, idxF p l = (k : Int) ∧ ∃ hk : k < l.length, p l[k] = true ∧ ∀ j (hj : j < k), p (l[j]'(by omega)) = false := by
  unfold idxF at h ⊢
  cases e : l.findIdx? p with
  | none => rw [e] at h; exact absurd h (by decide)
  | some i =>
    rw [List.findIdx?_eq_some_iff_getElem] at e
    obtain ⟨h1, h2, h3⟩ := e
    exact ⟨i, rfl, h1, h2, fun j hj => by simpa using h3 j hj⟩
theorem one_at {α : Type} {c : α → D} {l : List α} {z k : Nat} (hz : z = k) (h : k < l.length) : (l.map fun a => [c a])[z]? = some [c l[k]] := by
  subst hz
  rw [List.getElem?_map, List.getElem?_eq_getElem h]
  rfl
theorem inr_succ {k n : Nat} (h : k < n) (hn : n ≤ 9223372036854775807) : InR .i64 ((k : Int) + 1) := by unfold InR; rw [IntKind.wrap_i64]; omega
@[simp] theorem underLL_map {α : Type} {m : Nat} (f : α → List D) (l : List α) : UnderLL m (l.map f) ↔ ∀ a ∈ l, UnderL m (f a) := by
  induction l with
  | nil => simp [UnderLL]
  | cons a r ih => simp [UnderLL, ih]
@[simp] theorem pureLL_mapI {α : Type} (f : α → List D) (l : List α) : PureLL (l.map f) ↔ ∀ a ∈ l, PureL (f a) := by
  induction l with
  | nil => simp [PureLL]
  | cons a r ih => simp [PureLL, ih]
@[simp] theorem renLL_map {α : Type} {ρ : Nat → Nat} (f : α → List D) (l : List α) : renLL ρ (l.map f) = l.map fun a => renL ρ (f a) := by
  induction l with
  | nil => simp [renLL]
  | cons a r ih => simp [renLL, ih]
@[simp] theorem under_dints {m : Nat} (l : List Int) : Under m (dints l) ↔ True := ⟨fun _ => trivial, fun _ => under_pure _ (pure_dints l)⟩
@[simp] theorem under_dgrid {m : Nat} (l : List (List Int)) : Under m (dgrid l) ↔ True := ⟨fun _ => trivial, fun _ => under_pure _ (pure_dgrid l)⟩
@[simp] theorem ren_dints {ρ : Nat → Nat} (l : List Int) : D.ren ρ (dints l) = dints l := ren_pure _ (pure_dints l)
@[simp] theorem ren_dgrid {ρ : Nat → Nat} (l : List (List Int)) : D.ren ρ (dgrid l) = dgrid l := ren_pure _ (pure_dgrid l)
theorem app_map {α : Type} (f : α → List D) (s l : List α) : List.drop 0 (List.take s.length (s.map f)) ++ l.map f = (s ++ l).map f := by
  rw [List.drop_zero, List.take_of_length_le (by simp), List.map_append]
theorem drop_take_all {α : Type} {n : Nat} {l : List α} (h : l.length ≤ n) : List.drop 0 (List.take n l) = l := by rw [List.drop_zero, List.take_of_length_le h]
/-- Copies: of one's own. -/
def c49o : PC := .seq (.ops [q 2 (.move (.const (.slice none 0 0)))] false) (.seq (.seq (.ops [qm 3 0,q 4 (.isnil 3 false (.tmp 3))] false) (.cond (.tmp 4) (.seq (.stop (.ops [q 2 (.move (.const (.slice none 0 0)))] false)) (.ret)) (.skip))) (.seq (.ops [q 5 (.bslice 1 0 []),qm 6 0,q 7 (.append 1 8 (.tmp 5) (.tmp 6)),qm 2 7] false) (.ret)))
set_option maxRecDepth 100000 in
theorem c49o_ok : FunOK Tryd.prog 49 8 [.tmp 2] c49o := ⟨⟨Tryd.f49, Tryd.func49, rfl, by kernel_rfl, rfl, by kernel_rfl⟩⟩
theorem cloneO_int (l : List Int) (hl : l.length ≤ 17592186044416) : ACall Tryd.prog 49 [.lst 1 (l.map fun n => [.sc (.int .i64 n)])] [] (.own 0 1 0 l.length) [.vec true 1 1 (l.map fun n => [.sc (.int .i64 n)])] := by
  refine acall_intro c49o_ok (by simp) (by simp) ?_ (by simp [Under]) (by simp [AObj.under, UnderL, Under])
  (apply rd_sound; focus (repeat' constructor))
  ((conv=>whnf);repeat(refine⟨rfl,?_⟩;conv=>whnf))
  intro b hb
  cases b
  · ((conv=>whnf);repeat(refine⟨rfl,?_⟩;conv=>whnf))
    refine ⟨(by unfold sliceAppend; simp only [ll]; omega), ?_⟩
    ((conv=>whnf);repeat(refine⟨rfl,?_⟩;conv=>whnf))
    simp
  · ((conv=>whnf);repeat(refine⟨rfl,?_⟩;conv=>whnf))
    have hb := hb rfl
    obtain rfl : l = [] := by simpa using hb
    refine pwp_cut (fun _ : Unit => [(2, .own 0 1 0 0)]) (fun _ => [.vec true 1 1 []]) (fun _ => True) ?_ ?_
    · (apply rd_sound; focus (repeat' constructor))
      ((conv=>whnf);repeat(refine⟨rfl,?_⟩;conv=>whnf))
      exact ⟨(), trivial, leB_trans (leB_nilV 2 1 1 (by simp) rfl) (leB_env (by (repeat' (first | exact trivial | refine And.intro rfl ?_))))⟩
    · rintro _ _
      ((conv=>whnf);repeat(refine⟨rfl,?_⟩;conv=>whnf))
      simp
def c57_1 : PC := .seq (.ops [q 9 (.bin .lss (.tmp 8) (.tmp 7))] false) (.seq (.cond (.tmp 9) (.skip) (.exit 0)) (.seq (.block 1 (.seq (.ops [qm 10 8,qm 5 10] false) (.seq (.ops [qm 11 1,qm 12 0,qm 13 5,q 14 (.iaddr 1 (.tmp 12) (.tmp 13)),q 15 (.load1 (.tmp 14)),q 16 (.callv (.tmp 11) [(.tmp 15)])] false) (.cond (.tmp 16) (.seq (.ops [qm 17 5,qm 4 17] false) (.ret)) (.skip))))) (.ops [q 18 (.bin .add (.tmp 8) (.const (.int .i64 1))),qm 8 18] false)))
def c57 : PC := .seq (.ops [q 4 (.move (.const (.int .i64 0)))] false) (.seq (.seq (.ops [qm 6 0,q 7 (.len (.tmp 6)),q 8 (.move (.const (.int .i64 0)))] false) (.block 0 (.loop c57_1))) (.seq (.ops [q 4 (.move (.const (.int .i64 (-1))))] false) (.ret)))
set_option maxRecDepth 100000 in
theorem c57_ok : FunOK Tryd.prog 57 19 [.tmp 4] c57 := ⟨⟨Tryd.f57, Tryd.func57, rfl, by kernel_rfl, rfl, by kernel_rfl⟩⟩
theorem indexF_int {α : Type} (c : α → D) (hcp : ∀ a, Pure (c a)) (l : List α) (hl : l.length ≤ 9223372036854775807) (p : α → Bool) (cl : FuncId) (cap : List D) (hp : PureL cap) (hc : ∀ a ∈ l, PCall Tryd.prog cl (c a :: cap) (.sc (.bool (p a)))) :
    PCall Tryd.prog 57 [.lst 1 (l.map fun a => [c a]), .fn (.func cl) [] cap] (.sc (.int .i64 (idxF p l))) := by
  have hpl : PureLL (l.map fun a => [c a]) := pureLL_map _ (fun a => by simp [PureL, hcp]) l
  refine pcall_intro c57_ok (by simp) (by simp [PureL, Pure, hp, hpl]) ?_ (by simp [Pure])
  (apply rd_sound; focus (repeat' constructor))
  ((conv=>whnf);repeat(refine⟨rfl,?_⟩;conv=>whnf))
  rw [List.length_map]
  have fin : ∀ {z : Int}, z = idxF p l → Deep [] (.sc (.int .i64 z)) (.sc (.int .i64 (idxF p l))) := fun h => h ▸ .refl _
  refine pwp_for [0, 1, 7] (fun k : Nat => [(8, .sc (.int .i64 k))]) (fun _ => []) (fun k => k ≤ l.length ∧ ∀ j (hj : j < k) (hl : j < l.length), p l[j] = false) (fun k => l.length - k) 0 ?_
  ((conv=>whnf);repeat(refine⟨rfl,?_⟩;conv=>whnf))
  refine ⟨⟨by omega, fun j hj => by omega⟩, by (repeat' (first | exact trivial | refine And.intro rfl ?_)), rfl, ?_⟩
  rintro k ⟨hk, hno⟩
  ((conv=>whnf);repeat(refine⟨rfl,?_⟩;conv=>whnf))
  (apply rd_sound; focus (repeat' constructor))
  ((conv=>whnf);repeat(refine⟨rfl,?_⟩;conv=>whnf))
  (refine ifK_split (fun h => ?_) (fun h => ?_) <;> (rw [h]; ((conv=>whnf);repeat(refine⟨rfl,?_⟩;conv=>whnf))))
  · have hk' : k < l.length := by ((try simp only[oo,reduceCtorEq]at*)<;>omega)
    refine ⟨by omega, _, one_at (k := k) (by omega) hk', ?_⟩
    ((conv=>whnf);repeat(refine⟨rfl,?_⟩;conv=>whnf))
    (refine .inl ⟨_, (hc _ (List.getElem_mem hk')), ?_⟩; ((conv=>whnf);repeat(refine⟨rfl,?_⟩;conv=>whnf)))
    (refine ifK_split (fun h2 => ?_) (fun h2 => ?_) <;> (rw [h2]; ((conv=>whnf);repeat(refine⟨rfl,?_⟩;conv=>whnf))))
    · exact fin (idxF_hit hk' h2 fun j hj => hno j hj (by omega)).symm
    · (refine .inl ⟨by (unfold InR; rw [IntKind.wrap_i64]; omega), ?_⟩; ((conv=>whnf);repeat(refine⟨rfl,?_⟩;conv=>whnf)))
      refine ⟨k + 1, ⟨by omega, fun j hj hl => ?_⟩, by dsimp only; omega, leB_envH (by (repeat' (first | exact trivial | refine And.intro rfl ?_))) rfl⟩
      by_cases e : j = k
      · subst e; exact h2
      · exact hno j (by omega) hl
  · have hk' : ¬ k < l.length := by ((try simp only[oo,reduceCtorEq]at*)<;>omega)
    exact fin (idxF_none fun j hj => hno j (by omega) hj).symm
def c47 : PC := .seq (.ops [q 4 (.move (.const (.bool false)))] false) (.seq (.ops [qm 5 0,qm 6 1,q 7 (.call 57 [(.tmp 5), (.tmp 6)]),q 8 (.bin .geq (.tmp 7) (.const (.int .i64 0))),qm 4 8] false) (.ret))
set_option maxRecDepth 100000 in
theorem c47_ok : FunOK Tryd.prog 47 9 [.tmp 4] c47 := ⟨⟨Tryd.f47, Tryd.func47, rfl, by kernel_rfl, rfl, by kernel_rfl⟩⟩
theorem containsF_int {α : Type} (c : α → D) (hcp : ∀ a, Pure (c a)) (l : List α) (hl : l.length ≤ 9223372036854775807) (p : α → Bool) (cl : FuncId) (cap : List D) (hp : PureL cap) (hc : ∀ a ∈ l, PCall Tryd.prog cl (c a :: cap) (.sc (.bool (p a)))) :
    PCall Tryd.prog 47 [.lst 1 (l.map fun a => [c a]), .fn (.func cl) [] cap] (.sc (.bool (l.any p))) := by
  have hpl : PureLL (l.map fun a => [c a]) := pureLL_map _ (fun a => by simp [PureL, hcp]) l
  refine pcall_intro c47_ok (by simp) (by simp [PureL, Pure, hp, hpl]) ?_ (by simp [Pure])
  (apply rd_sound; focus (repeat' constructor))
  ((conv=>whnf);repeat(refine⟨rfl,?_⟩;conv=>whnf))
  (refine .inl ⟨_, (indexF_int c hcp l hl p cl cap hp hc), ?_⟩; ((conv=>whnf);repeat(refine⟨rfl,?_⟩;conv=>whnf)))
  rw [idxF_any]
  exact .refl _
def c27_1 : PC := .seq (.ops [q 9 (.bin .lss (.tmp 8) (.tmp 7))] false) (.seq (.cond (.tmp 9) (.skip) (.exit 0)) (.seq (.block 1 (.seq (.ops [qm 10 8,qm 5 10] false) (.seq (.ops [qm 11 1,qm 12 0,qm 13 5,q 14 (.iaddr 1 (.tmp 12) (.tmp 13)),q 15 (.load1 (.tmp 14)),q 16 (.eqb false (.tmp 11) (.tmp 15))] false) (.cond (.tmp 16) (.seq (.ops [qm 17 5,qm 4 17] false) (.ret)) (.skip))))) (.ops [q 18 (.bin .add (.tmp 8) (.const (.int .i64 1))),qm 8 18] false)))
def c27 : PC := .seq (.ops [q 4 (.move (.const (.int .i64 0)))] false) (.seq (.seq (.ops [qm 6 0,q 7 (.len (.tmp 6)),q 8 (.move (.const (.int .i64 0)))] false) (.block 0 (.loop c27_1))) (.seq (.ops [q 4 (.move (.const (.int .i64 (-1))))] false) (.ret)))
set_option maxRecDepth 100000 in
theorem c27_ok : FunOK Tryd.prog 27 19 [.tmp 4] c27 := ⟨⟨Tryd.f27, Tryd.func27, rfl, by kernel_rfl, rfl, by kernel_rfl⟩⟩
theorem index_bool (l : List Bool) (hl : l.length ≤ 9223372036854775807) (b : Bool) :
    PCall Tryd.prog 27 [.lst 1 (l.map fun a => [.sc (.bool a)]), .sc (.bool b)] (.sc (.int .i64 (idxF (fun a => b == a) l))) := by
  have hpl : PureLL (l.map fun a => [D.sc (.bool a)]) := pureLL_map _ (fun a => by simp [PureL, Pure]) l
  refine pcall_intro c27_ok (by simp) (by simp [PureL, Pure, hpl]) ?_ (by simp [Pure])
  (apply rd_sound; focus (repeat' constructor))
  ((conv=>whnf);repeat(refine⟨rfl,?_⟩;conv=>whnf))
  rw [List.length_map]
  have fin : ∀ {z : Int}, z = idxF (fun a => b == a) l → Deep [] (.sc (.int .i64 z)) (.sc (.int .i64 (idxF (fun a => b == a) l))) := fun h => h ▸ .refl _
  refine pwp_for [0, 1, 7] (fun k : Nat => [(8, .sc (.int .i64 k))]) (fun _ => []) (fun k => k ≤ l.length ∧ ∀ j (hj : j < k) (hl : j < l.length), (b == l[j]) = false) (fun k => l.length - k) 0 ?_
  ((conv=>whnf);repeat(refine⟨rfl,?_⟩;conv=>whnf))
  refine ⟨⟨by omega, fun j hj => by omega⟩, by (repeat' (first | exact trivial | refine And.intro rfl ?_)), rfl, ?_⟩
  rintro k ⟨hk, hno⟩
  ((conv=>whnf);repeat(refine⟨rfl,?_⟩;conv=>whnf))
  (apply rd_sound; focus (repeat' constructor))
  ((conv=>whnf);repeat(refine⟨rfl,?_⟩;conv=>whnf))
  (refine ifK_split (fun h => ?_) (fun h => ?_) <;> (rw [h]; ((conv=>whnf);repeat(refine⟨rfl,?_⟩;conv=>whnf))))
  · have hk' : k < l.length := by ((try simp only[oo,reduceCtorEq]at*)<;>omega)
    refine ⟨by omega, _, one_at (c := fun a => .sc (.bool a)) (k := k) (by omega) hk', ?_⟩
    ((conv=>whnf);repeat(refine⟨rfl,?_⟩;conv=>whnf))
    (refine ifK_split (fun h2 => ?_) (fun h2 => ?_) <;> (rw [h2]; ((conv=>whnf);repeat(refine⟨rfl,?_⟩;conv=>whnf))))
    · exact fin (idxF_hit hk' h2 fun j hj => hno j hj (by omega)).symm
    · (refine .inl ⟨by (unfold InR; rw [IntKind.wrap_i64]; omega), ?_⟩; ((conv=>whnf);repeat(refine⟨rfl,?_⟩;conv=>whnf)))
      refine ⟨k + 1, ⟨by omega, fun j hj hl => ?_⟩, by dsimp only; omega, leB_envH (by (repeat' (first | exact trivial | refine And.intro rfl ?_))) rfl⟩
      by_cases e : j = k
      · subst e; exact h2
      · exact hno j (by omega) hl
  · have hk' : ¬ k < l.length := by ((try simp only[oo,reduceCtorEq]at*)<;>omega)
    exact fin (idxF_none fun j hj => hno j (by omega) hj).symm
def c14 : PC := .seq (.ops [q 4 (.move (.const (.bool false)))] false) (.seq (.ops [qm 5 0,qm 6 1,q 7 (.call 27 [(.tmp 5), (.tmp 6)]),q 8 (.bin .geq (.tmp 7) (.const (.int .i64 0))),qm 4 8] false) (.ret))
set_option maxRecDepth 100000 in
theorem c14_ok : FunOK Tryd.prog 14 9 [.tmp 4] c14 := ⟨⟨Tryd.f14, Tryd.func14, rfl, by kernel_rfl, rfl, by kernel_rfl⟩⟩
theorem contains_bool (l : List Bool) (hl : l.length ≤ 9223372036854775807) (b : Bool) :
    PCall Tryd.prog 14 [.lst 1 (l.map fun a => [.sc (.bool a)]), .sc (.bool b)] (.sc (.bool (l.contains b))) := by
  have hpl : PureLL (l.map fun a => [D.sc (.bool a)]) := pureLL_map _ (fun a => by simp [PureL, Pure]) l
  refine pcall_intro c14_ok (by simp) (by simp [PureL, Pure, hpl]) ?_ (by simp [Pure])
  (apply rd_sound; focus (repeat' constructor))
  ((conv=>whnf);repeat(refine⟨rfl,?_⟩;conv=>whnf))
  (refine .inl ⟨_, (index_bool l hl b), ?_⟩; ((conv=>whnf);repeat(refine⟨rfl,?_⟩;conv=>whnf)))
  rw [idxF_any]
  exact deep_eq (by rw [List.contains_eq_any_beq])
end Go.Proofs.YtgkodbnomgabdaaDoor
