/-
  Plain laws on formulas: a check passes just where size, depth and every node are right; the two ways to make a formula slim come to the same. No program in sight. No statement is proved here.
-/
import Derived.Test.YtfaekhadjlgbbaaQTree
namespace Go.Proofs.Ytfaekhadjlgbbaa

open Classical in
/-! ### Size, depth -/
mutual
def Tree.size : Tree → Nat
  | .node _ _ ks => 1 + Tree.sizes ks
def Tree.sizes : List Tree → Nat
  | [] => 0
  | t :: ts => t.size + Tree.sizes ts
end
mutual
def Tree.depth : Tree → Nat
  | .node _ _ ks => 1 + Tree.depths ks
def Tree.depths : List Tree → Nat
  | [] => 0
  | t :: ts => max t.depth (Tree.depths ts)
end
mutual
/-- Is every node right by itself? -/
def Tree.wf (kd : Int → Int) : Tree → Prop
  | .node k n ks => ¬ oddNode kd (.node k n ks) ∧ Tree.wfs kd ks
def Tree.wfs (kd : Int → Int) : List Tree → Prop
  | [] => True
  | t :: ts => t.wf kd ∧ Tree.wfs kd ts
end
/-! ### To make slim -/
/-! ### What is slim is right -/
/-- What is asked of a formula: right, not larger than s, not deeper than d. -/
def Fits (s d : Nat) (t : Tree) : Prop := t.wf lKids ∧ t.size ≤ s ∧ t.depth ≤ d
theorem Fits.more {s d s' d' : Nat} {t : Tree} (h : Fits s d t) (hs : s ≤ s') (hd : d ≤ d') : Fits s' d' t := ⟨h.1, Nat.le_trans h.2.1 hs, Nat.le_trans h.2.2 hd⟩
end Go.Proofs.Ytfaekhadjlgbbaa
