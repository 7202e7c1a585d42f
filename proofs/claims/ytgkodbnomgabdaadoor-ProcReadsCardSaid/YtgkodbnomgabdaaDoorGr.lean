/-
  What comes from some nodes of a graph. Plain Lean. No statement is proved here.
-/
import Derived.WalkKit
namespace Go.Proofs.YtgkodbnomgabdaaDoor

def sumTo (f : Nat → Nat) : Nat → Nat
  | 0 => 0
  | n + 1 => sumTo f n + f n
theorem sumTo_congr {f f' : Nat → Nat} : ∀ n, (∀ j, j < n → f j = f' j) → sumTo f n = sumTo f' n
  | 0, _ => rfl
  | n + 1, h => by simp only [sumTo]; rw [sumTo_congr n fun j hj => h j (by omega), h n (by omega)]
theorem sumTo_upd {f f' : Nat → Nat} {i : Nat} : ∀ n, i < n → (∀ j, j < n → j ≠ i → f' j = f j) → sumTo f' n + f i = sumTo f n + f' i
  | 0, h, _ => by omega
  | n + 1, h, k => by
    simp only [sumTo]
    by_cases e : i = n
    · subst e
      rw [sumTo_congr i fun j hj => k j (by omega) (by omega)]
      omega
    · have := sumTo_upd n (by omega) fun j hj hne => k j (by omega) hne
      rw [k n (by omega) (fun q => e q.symm)]
      omega
theorem sumTo_le {f f' : Nat → Nat} : ∀ n, (∀ j, j < n → f j ≤ f' j) → sumTo f n ≤ sumTo f' n
  | 0, _ => Nat.le_refl _
  | n + 1, h => by simp only [sumTo]; have := sumTo_le n fun j hj => h j (by omega); have := h n (by omega); omega
theorem sumTo_lt {f f' : Nat → Nat} {i : Nat} : ∀ n, i < n → (∀ j, j < n → f j ≤ f' j) → f i < f' i → sumTo f n < sumTo f' n
  | 0, h, _, _ => by omega
  | n + 1, h, k, q => by
    simp only [sumTo]
    have := k n (by omega)
    by_cases e : i = n
    · subst e; have := sumTo_le i fun j hj => k j (by omega); omega
    · have := sumTo_lt n (by omega) (fun j hj => k j (by omega)) q; omega
/-- How many are not so. -/
def unseen (s : Nat → Bool) (n : Nat) : Nat := sumTo (fun i => if s i then 0 else 1) n
theorem unseen_le (s : Nat → Bool) : ∀ n, unseen s n ≤ n
  | 0 => Nat.le_refl _
  | n + 1 => by unfold unseen; simp only [sumTo]; have := unseen_le s n; unfold unseen at this; split <;> omega
theorem unseen_mono {s s' : Nat → Bool} {n : Nat} (h : ∀ j, j < n → s j = true → s' j = true) : unseen s' n ≤ unseen s n := sumTo_le n fun j hj => by
  cases e : s j with
  | true => simp [h j hj e]
  | false => split <;> simp
theorem unseen_lt {s s' : Nat → Bool} {n i : Nat} (hi : i < n) (h : ∀ j, j < n → s j = true → s' j = true) (h1 : s i = false) (h2 : s' i = true) : unseen s' n < unseen s n := sumTo_lt n hi (fun j hj => by
  cases e : s j with
  | true => simp [h j hj e]
  | false => split <;> simp) (by simp [h1, h2])
/-- A node more is marked. -/
def mark (s : Nat → Bool) (v : Nat) : Nat → Bool := fun i => if i = v then true else s i
@[simp] theorem mark_self (s : Nat → Bool) (v : Nat) : mark s v v = true := by simp [mark]
theorem mark_ne {s : Nat → Bool} {v i : Nat} (h : i ≠ v) : mark s v i = s i := by simp [mark, h]
theorem mark_of {s : Nat → Bool} {v i : Nat} (h : s i = true) : mark s v i = true := by unfold mark; split <;> simp [h]
theorem mark_iff {s : Nat → Bool} {v i : Nat} : mark s v i = true ↔ i = v ∨ s i = true := by
  unfold mark
  split
  · rename_i h; simp [h]
  · rename_i h; simp [h]
/-- Nodes that come from some. -/
inductive Rch (g : List (List Int)) (from_ : List Int) : Nat → Prop
  | base {x : Int} (h : x ∈ from_) : Rch g from_ x.toNat
  | step {u : Nat} {x : Int} (h : Rch g from_ u) (k : x ∈ g.getD u []) : Rch g from_ x.toNat
/-- Marks that hold all that comes. -/
theorem rch_closed {g : List (List Int)} {from_ : List Int} {s : Nat → Bool} (h0 : ∀ x ∈ from_, s x.toNat = true) (h1 : ∀ v, s v = true → ∀ x ∈ g.getD v [], s x.toNat = true) : ∀ v, Rch g from_ v → s v = true := by
  intro v h
  induction h with
  | base h => exact h0 _ h
  | step _ k ih => exact h1 _ ih _ k
open Classical in
noncomputable def rchB (g : List (List Int)) (from_ : List Int) (v : Nat) : Bool := decide (Rch g from_ v)
theorem rchB_iff {g : List (List Int)} {from_ : List Int} {v : Nat} : rchB g from_ v = true ↔ Rch g from_ v := by unfold rchB; simp
theorem rchB_eq {g : List (List Int)} {from_ : List Int} {s : Nat → Bool} {v : Nat} (h : s v = true ↔ Rch g from_ v) : s v = rchB g from_ v := by
  rw [Bool.eq_iff_iff, h, rchB_iff]
theorem mem_getD {l : List Int} {k : Nat} (h : k < l.length) : l.getD k 0 ∈ l := by
  rw [List.getD_eq_getElem?_getD, List.getElem?_eq_getElem h]; exact List.getElem_mem h
theorem getD_mem {l : List Int} {x : Int} (h : x ∈ l) : ∃ k, k < l.length ∧ l.getD k 0 = x := by
  obtain ⟨k, hk, rfl⟩ := List.mem_iff_getElem.1 h
  exact ⟨k, hk, by rw [List.getD_eq_getElem?_getD, List.getElem?_eq_getElem hk]; rfl⟩
/-- How much there is still to look at. -/
def potG (g : List (List Int)) (s : Nat → Bool) : Nat := sumTo (fun v => if s v then 0 else (g.getD v []).length) g.length
theorem potG_mark {g : List (List Int)} {s : Nat → Bool} {v : Nat} (hv : v < g.length) (h : s v = false) : potG g (mark s v) + (g.getD v []).length = potG g s := by
  have := sumTo_upd (f := fun v => if s v then 0 else (g.getD v []).length) (f' := fun w => if mark s v w then 0 else (g.getD w []).length) g.length hv fun j _ hne => by rw [mark_ne hne]
  unfold potG
  simp only [mark_self, h, if_true, Bool.false_eq_true, if_false] at this
  omega
theorem potG_le (g : List (List Int)) (s : Nat → Bool) : potG g s ≤ potG g fun _ => false := sumTo_le _ fun j _ => by
  show (if s j then 0 else (g.getD j []).length) ≤ (if false = true then 0 else (g.getD j []).length)
  split
  · exact Nat.zero_le _
  · simp
end Go.Proofs.YtgkodbnomgabdaaDoor
