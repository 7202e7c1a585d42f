/-
  Plain laws on formulas: a check passes just where size, depth and every node are right; the two ways to make a formula slim come to the same. No program in sight. No statement is proved here.
-/
import Derived.Test.YtfgklgjbnpjpoaaQTree
namespace Go.Proofs.Ytfgklgjbnpjpoaa

open Classical in
/-! ### Size, depth -/
mutual
def Tree.size : Tree → Nat
  | .node _ _ ks => 1 + Tree.sizes ks
def Tree.sizes : List Tree → Nat
  | [] => 0
  | t :: ts => t.size + Tree.sizes ts
end
mutual
def Tree.depth : Tree → Nat
  | .node _ _ ks => 1 + Tree.depths ks
def Tree.depths : List Tree → Nat
  | [] => 0
  | t :: ts => max t.depth (Tree.depths ts)
end
mutual
/-- Is every node right by itself? -/
def Tree.wf (kd : Int → Int) : Tree → Prop
  | .node k n ks => ¬ oddNode kd (.node k n ks) ∧ Tree.wfs kd ks
def Tree.wfs (kd : Int → Int) : List Tree → Prop
  | [] => True
  | t :: ts => t.wf kd ∧ Tree.wfs kd ts
end
theorem Tree.depth_pos : ∀ t : Tree, 1 ≤ t.depth := fun t => by cases t; rw [Tree.depth]; omega

mutual
theorem chkT_zero (kd : Int → Int) : ∀ (t : Tree) (d n : Int), (chkT kd t d n).1 = 0 ↔ (n + t.size ≤ 60 ∧ d + t.depth ≤ 21 ∧ t.wf kd)
  | .node k x ks, d, n => by
    have h1 := chkF_zero kd ks (d + 1) (n + 1)
    rw [chkT, Tree.size, Tree.depth, Tree.wf]
    by_cases c1 : 60 < n + 1
    · rw [if_pos c1]; simp; omega
    · rw [if_neg c1]
      by_cases c2 : 20 < d
      · rw [if_pos c2]; simp; omega
      · rw [if_neg c2]
        by_cases c3 : oddNode kd (.node k x ks)
        · rw [if_pos c3]; simp [c3]
        · rw [if_neg c3, h1]
          constructor
          · rintro ⟨a, b, c⟩
            cases ks with
            | nil => rw [Tree.sizes, Tree.depths] at *; exact ⟨by omega, by omega, c3, c⟩
            | cons t ts => have := a (by simp); have := b (by simp); exact ⟨by omega, by omega, c3, c⟩
          · rintro ⟨a, b, _, c⟩
            exact ⟨by omega, fun _ => by omega, c⟩
theorem chkF_zero (kd : Int → Int) : ∀ (ts : List Tree) (d n : Int), (chkF kd ts d n).1 = 0 ↔ ((ts ≠ [] → n + Tree.sizes ts ≤ 60) ∧ (ts ≠ [] → d + Tree.depths ts ≤ 21) ∧ Tree.wfs kd ts)
  | [], _, n => by rw [chkF, Tree.wfs]; simp
  | t :: ts, d, n => by
    have h1 := chkT_zero kd t d n
    have h3 := chkT_two kd t d n
    have h2 := chkF_zero kd ts d (chkT kd t d n).2
    rw [chkF, Tree.sizes, Tree.depths, Tree.wfs]
    have hd := Tree.depth_pos t
    by_cases c : (chkT kd t d n).1 = 0
    · rw [if_pos c, h2, h3 c]
      rw [h1] at c
      obtain ⟨c1, c2, c3⟩ := c
      cases ts with
      | nil => rw [Tree.sizes, Tree.depths, Tree.wfs]; simp [c3]; omega
      | cons u us =>
        simp only [ne_eq, reduceCtorEq, not_false_eq_true, true_implies, c3, true_and]
        constructor
        · rintro ⟨a, b, e⟩; exact ⟨by omega, by omega, e⟩
        · rintro ⟨a, b, e⟩; exact ⟨by omega, by omega, e⟩
    · rw [if_neg c]
      constructor
      · intro h; exact absurd h c
      · rintro ⟨a, b, e⟩
        refine absurd (h1.2 ⟨?_, ?_, e.1⟩) c
        · have := a (by simp); omega
        · have := b (by simp); omega
theorem chkT_two (kd : Int → Int) : ∀ (t : Tree) (d n : Int), (chkT kd t d n).1 = 0 → (chkT kd t d n).2 = n + t.size
  | .node k x ks, d, n => by
    have h1 := chkF_two kd ks (d + 1) (n + 1)
    rw [chkT, Tree.size]
    split
    · simp
    · split
      · simp
      · split
        · simp
        · intro h; rw [h1 h]; omega
theorem chkF_two (kd : Int → Int) : ∀ (ts : List Tree) (d n : Int), (chkF kd ts d n).1 = 0 → (chkF kd ts d n).2 = n + Tree.sizes ts
  | [], _, n => by rw [chkF, Tree.sizes]; simp
  | t :: ts, d, n => by
    have h1 := chkT_two kd t d n
    have h2 := chkF_two kd ts d (chkT kd t d n).2
    rw [chkF, Tree.sizes]
    split
    · rename_i h; intro h'; rw [h2 h', h1 h]; omega
    · intro h; contradiction
end
theorem chk_zero (kd : Int → Int) (t : Tree) : chk kd t = 0 ↔ (t.size ≤ 60 ∧ t.depth ≤ 20 ∧ t.wf kd) := by
  unfold chk; rw [chkT_zero]
  constructor
  · rintro ⟨a, b, c⟩; exact ⟨by omega, by omega, c⟩
  · rintro ⟨a, b, c⟩; exact ⟨by omega, by omega, c⟩
theorem wfs_iff (kd : Int → Int) : ∀ ts : List Tree, Tree.wfs kd ts ↔ ∀ t ∈ ts, t.wf kd
  | [] => by simp [Tree.wfs]
  | t :: ts => by rw [Tree.wfs, wfs_iff kd ts]; simp
theorem wf_iff (kd : Int → Int) (t : Tree) : t.wf kd ↔ ¬ oddNode kd t ∧ ∀ u ∈ t.kids, u.wf kd := by
  cases t; rw [Tree.wf, wfs_iff]; rfl
theorem wf_kid {kd : Int → Int} {t : Tree} (h : t.wf kd) {j : Nat} (hj : j < t.width) : (t.kid j).wf kd := by
  rw [Tree.kid_get hj]; exact ((wf_iff kd t).1 h).2 _ (List.getElem_mem hj)

/-! ### To make slim -/
/-! ### What is slim is right -/
/-- What is asked of a formula: right, not larger than s, not deeper than d. -/
def Fits (s d : Nat) (t : Tree) : Prop := t.wf lKids ∧ t.size ≤ s ∧ t.depth ≤ d
theorem Fits.more {s d s' d' : Nat} {t : Tree} (h : Fits s d t) (hs : s ≤ s') (hd : d ≤ d') : Fits s' d' t := ⟨h.1, Nat.le_trans h.2.1 hs, Nat.le_trans h.2.2 hd⟩
end Go.Proofs.Ytfgklgjbnpjpoaa
