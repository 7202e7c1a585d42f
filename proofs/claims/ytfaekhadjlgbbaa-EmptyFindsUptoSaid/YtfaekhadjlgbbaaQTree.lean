/-
  Formulas as trees in memory: 'TreeIn'; blocks known whole: 'Blk'; what a check of a formula answers. No program in sight. No statement is proved here.
-/
import Derived.Test.YtfaekhadjlgbbaaQBase
import Derived.Laws.Rows
namespace Go.Proofs.Ytfaekhadjlgbbaa
open Go.RowKit

/-! ### Blocks known whole -/
def Blk (w : World) (g : Nat) (t : TypeId) (cs : Array Value) : Prop := w.heap[g]? = some (.cells cs t (0, 0))
section
variable {w w' : World} {g : Nat} {t : TypeId} {cs : Array Value}
theorem Blk.lt (h : Blk w g t cs) : g < w.heap.size := by
  rcases Nat.lt_or_ge g w.heap.size with hlt | hge
  · exact hlt
  · unfold Blk at h; rw [Array.getElem?_eq_none hge] at h; cases h
theorem Blk.cell (h : Blk w g t cs) (i : Nat) : w.cell? ⟨g, i, none⟩ = cs[i]? := cell_of_row w g i cs t (0, 0) h
theorem Blk.frozen (h : Blk w g t cs) (i : Nat) : w.frozen? ⟨g, i, none⟩ = false := by
  unfold Blk at h
  simp [World.frozen?, h]
theorem Blk.new (w : World) (t : TypeId) (cs : Array Value) : Blk (w.alloc (.cells cs t)) w.heap.size t cs := heap_alloc_new w _
theorem Blk.drew (h : Blk w g t cs) : Blk w.drew g t cs := h
theorem Blk.alloc (h : Blk w g t cs) (o : Obj) : Blk (w.alloc o) g t cs := (Below.heap_alloc w o g h.lt).trans h
end

/-! ### Only one block has turned, and what is new -/
/-! ### Trees -/
inductive Tree where
  | node (kind n : Int) (kids : List Tree)
namespace Tree
instance : Inhabited Tree := ⟨.node 0 0 []⟩
def kind : Tree → Int | .node k _ _ => k
def num : Tree → Int | .node _ n _ => n
def kids : Tree → List Tree | .node _ _ ks => ks
def kid (t : Tree) (j : Nat) : Tree := t.kids.getD j default
def width (t : Tree) : Nat := t.kids.length
theorem kid_get {t : Tree} {j : Nat} (h : j < t.kids.length) : t.kid j = t.kids[j] := by simp [kid, List.getD, List.getElem?_eq_getElem h]
theorem ind {p : Tree → Prop} (h : ∀ t : Tree, (∀ j, j < t.width → p (t.kid j)) → p t) : ∀ t, p t := by
  intro t
  refine Tree.rec (motive_1 := p) (motive_2 := fun ks => ∀ t ∈ ks, p t) ?_ ?_ ?_ t
  · intro k n ks ih
    refine h _ fun j hj => ?_
    rw [kid_get (t := .node k n ks) hj]
    exact ih _ (List.getElem_mem hj)
  · intro t ht; cases ht
  · intro t ts h1 h2 u hu
    rcases List.mem_cons.1 hu with rfl | hu
    · exact h1
    · exact h2 u hu
end Tree

/-- The tree t lies in w, in blocks of S, its kids behind address A: each three cells: kind, number, the slice of its kids. -/
inductive TreeS (w : World) (S : Nat → Prop) : Tree → Option Addr → Prop where
  | mk (t : Tree) (A : Option Addr) (As : Nat → Option Addr) (Cs : Nat → Nat) (hlen : t.width ≤ 9223372036854775807)
      (hA : 0 < t.width → ∃ ad, A = some ad ∧ S ad.block ∧ ∀ j, j < t.width → w.cell? (ad.add (j * 3)) = some (.int .i64 (t.kid j).kind) ∧ w.cell? ((ad.add (j * 3)).add 1) = some (.int .i64 (t.kid j).num) ∧
        w.cell? ((ad.add (j * 3)).add 2) = some (.slice (As j) (t.kid j).width (Cs j)))
      (hk : ∀ j, j < t.width → TreeS w S (t.kid j) (As j)) : TreeS w S t A
/-- .. below block B. -/
def TreeIn (w : World) (B : Nat) (t : Tree) (A : Option Addr) : Prop := TreeS w (fun b => b < B) t A

theorem TreeS.small {w : World} {S : Nat → Prop} {t : Tree} {A : Option Addr} (h : TreeS w S t A) : t.width ≤ 9223372036854775807 := by cases h; assumption
theorem TreeS.at_ {w : World} {S : Nat → Prop} {t : Tree} {A : Option Addr} (h : TreeS w S t A) {j : Nat} (hj : j < t.width) :
    ∃ ad A' c', A = some ad ∧ S ad.block ∧ w.cell? (ad.add (j * 3)) = some (.int .i64 (t.kid j).kind) ∧ w.cell? ⟨(ad.add (j * 3)).block, (ad.add (j * 3)).off + 1, none⟩ = some (.int .i64 (t.kid j).num) ∧
      w.cell? ⟨(ad.add (j * 3)).block, (ad.add (j * 3)).off + 2, none⟩ = some (.slice A' (t.kid j).width c') ∧ TreeS w S (t.kid j) A' := by
  cases h with
  | mk _ _ As Cs hlen hA hk =>
    obtain ⟨ad, rfl, hb, hc⟩ := hA (by omega)
    exact ⟨ad, _, _, rfl, hb, (hc j hj).1, by simpa [Addr.add] using (hc j hj).2.1, by simpa [Addr.add] using (hc j hj).2.2, hk j hj⟩
theorem TreeS.keep {w w' : World} {S : Nat → Prop} {t : Tree} {A : Option Addr} (h : TreeS w S t A) (hk : ∀ p : Addr, S p.block → w'.cell? p = w.cell? p) : TreeS w' S t A := by
  induction h with
  | mk t A As Cs hlen hA hkids ih =>
    refine .mk t A As Cs hlen (fun h => ?_) ih
    obtain ⟨ad, e, hb, hc⟩ := hA h
    refine ⟨ad, e, hb, fun j hj => ?_⟩
    obtain ⟨c1, c2, c3⟩ := hc j hj
    exact ⟨(hk _ (by rw [block_of_add]; exact hb)).trans c1, (hk _ (by rw [block_of_add, block_of_add]; exact hb)).trans c2, (hk _ (by rw [block_of_add, block_of_add]; exact hb)).trans c3⟩
theorem TreeS.mono {w : World} {S S' : Nat → Prop} {t : Tree} {A : Option Addr} (h : TreeS w S t A) (hS : ∀ b, b < w.heap.size → S b → S' b) : TreeS w S' t A := by
  induction h with
  | mk t A As Cs hlen hA hkids ih =>
    refine .mk t A As Cs hlen (fun h => ?_) ih
    obtain ⟨ad, e, hb, hc⟩ := hA h
    refine ⟨ad, e, hS _ ?_ hb, hc⟩
    have := World.block_lt_of_cell? _ _ (hc 0 h).1
    rwa [block_of_add] at this
theorem TreeIn.small {w : World} {B : Nat} {t : Tree} {A : Option Addr} (h : TreeIn w B t A) : t.width ≤ 9223372036854775807 := TreeS.small h
theorem TreeIn.at_ {w : World} {B : Nat} {t : Tree} {A : Option Addr} (h : TreeIn w B t A) {j : Nat} (hj : j < t.width) :
    ∃ ad A' c', A = some ad ∧ ad.block < B ∧ w.cell? (ad.add (j * 3)) = some (.int .i64 (t.kid j).kind) ∧ w.cell? ⟨(ad.add (j * 3)).block, (ad.add (j * 3)).off + 1, none⟩ = some (.int .i64 (t.kid j).num) ∧
      w.cell? ⟨(ad.add (j * 3)).block, (ad.add (j * 3)).off + 2, none⟩ = some (.slice A' (t.kid j).width c') ∧ TreeIn w B (t.kid j) A' := TreeS.at_ h hj
theorem TreeIn.keep {w w' : World} {B : Nat} {t : Tree} {A : Option Addr} (h : TreeIn w B t A) (hk : ∀ p : Addr, p.block < B → w'.cell? p = w.cell? p) : TreeIn w' B t A := TreeS.keep h hk
theorem TreeIn.under {w w' : World} {B : Nat} {t : Tree} {A : Option Addr} (h : TreeIn w B t A) (hb : Below B w w') : TreeIn w' B t A := h.keep fun _ hp => hb.cell hp
theorem TreeIn.more {w : World} {B B' : Nat} {t : Tree} {A : Option Addr} (h : TreeIn w B t A) (hB : B ≤ B') : TreeIn w B' t A := TreeS.mono h fun _ _ hb => Nat.lt_of_lt_of_le hb hB
theorem TreeIn.all {w : World} {B : Nat} {t : Tree} {A : Option Addr} (h : TreeIn w B t A) : TreeS w (fun _ => True) t A := TreeS.mono h fun _ _ _ => trivial

/-! ### What a check answers -/
/-- How many kids a kind of formula has: LTL's, CTL's. -/
def lKids (k : Int) : Int := if k = 1 ∨ k = 2 ∨ k = 3 then 0 else if k = 4 ∨ k = 7 ∨ k = 10 ∨ k = 11 then 1 else if k = 5 ∨ k = 6 ∨ k = 8 ∨ k = 9 then 2 else -1
/-- Is a node wrong by itself? -/
def oddNode (kd : Int → Int) (t : Tree) : Prop := kd t.kind ≠ (t.width : Int) ∨ t.num < 0 ∨ 63 < t.num ∨ (t.kind ≠ 3 ∧ t.num ≠ 0)
instance (kd : Int → Int) (t : Tree) : Decidable (oddNode kd t) := by unfold oddNode; infer_instance

mutual
/-- The error, and how many nodes have been looked at. -/
def chkT (kd : Int → Int) : Tree → Int → Int → Int × Int
  | .node k x ks, d, n =>
    if 60 < n + 1 then (2, n + 1) else if 20 < d then (5, n + 1) else if oddNode kd (.node k x ks) then (1, n + 1) else chkF kd ks (d + 1) (n + 1)
def chkF (kd : Int → Int) : List Tree → Int → Int → Int × Int
  | [], _, n => (0, n)
  | t :: ts, d, n => if (chkT kd t d n).1 = 0 then chkF kd ts d (chkT kd t d n).2 else chkT kd t d n
end
/-- What is wrong with a formula: 0: nothing. -/
def chk (kd : Int → Int) (t : Tree) : Int := (chkT kd t 1 0).1

end Go.Proofs.Ytfaekhadjlgbbaa
