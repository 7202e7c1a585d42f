/-
  Formulas as trees in memory: 'TreeIn'; blocks known whole: 'Blk'; what a check of a formula answers. No program in sight. No statement is proved here.
-/
import Derived.Test.YtgkodbnomgabdaaDoorBase
import Derived.Laws.Rows
namespace Go.Proofs.YtgkodbnomgabdaaDoor
open Go.RowKit

/-! ### Blocks known whole -/
def Blk (w : World) (g : Nat) (t : TypeId) (cs : Array Value) : Prop := w.heap[g]? = some (.cells cs t (0, 0))
section
variable {w w' : World} {g : Nat} {t : TypeId} {cs : Array Value}
theorem Blk.lt (h : Blk w g t cs) : g < w.heap.size := by
  rcases Nat.lt_or_ge g w.heap.size with hlt | hge
  · exact hlt
  · unfold Blk at h; rw [Array.getElem?_eq_none hge] at h; cases h
theorem Blk.cell (h : Blk w g t cs) (i : Nat) : w.cell? ⟨g, i, none⟩ = cs[i]? := cell_of_row w g i cs t (0, 0) h
theorem Blk.frozen (h : Blk w g t cs) (i : Nat) : w.frozen? ⟨g, i, none⟩ = false := by
  unfold Blk at h
  simp [World.frozen?, h]
theorem Blk.new (w : World) (t : TypeId) (cs : Array Value) : Blk (w.alloc (.cells cs t)) w.heap.size t cs := heap_alloc_new w _
theorem Blk.drew (h : Blk w g t cs) : Blk w.drew g t cs := h
theorem Blk.drewN (h : Blk w g t cs) (n : Nat) : Blk (w.drewN n) g t cs := h
theorem Blk.alloc (h : Blk w g t cs) (o : Obj) : Blk (w.alloc o) g t cs := (Below.heap_alloc w o g h.lt).trans h
theorem Blk.set_ (h : Blk w g t cs) (i : Nat) (u : Value) : Blk (w.setCell ⟨g, i, none⟩ u) g t (cs.setIfInBounds i u) := by
  unfold Blk at h ⊢
  simp [World.setCell, Array.getElem?_modify, h]
theorem Blk.far (h : Blk w g t cs) {p : Addr} (hp : g ≠ p.block) (u : Value) : Blk (w.setCell p u) g t cs := (Below.heap_setCell w p u g hp).trans h
theorem Blk.below {B : Nat} (h : Blk w g t cs) (hb : Below B w w') (hg : g < B) : Blk w' g t cs := (hb.block g hg).trans h
theorem Blk.grown {row : Option Nat} (h : Blk w g t cs) (hb : w.grownBy w' row) (hg : some g ≠ row) : Blk w' g t cs := (hb.block g h.lt hg).trans h
end

/-! ### Only one block has turned, and what is new -/
theorem only_refl (w : World) (row : Option Nat) : w.grownBy w row := ⟨rfl, rfl, rfl, Nat.le_refl _, fun _ _ _ => rfl⟩
theorem only_trans {a b c : World} {row : Option Nat} (h : a.grownBy b row) (k : b.grownBy c row) : a.grownBy c row :=
  ⟨k.os.trans h.os, k.tape.trans h.tape, k.output.trans h.output, Nat.le_trans h.size k.size, fun i hi hne => (k.block i (Nat.lt_of_lt_of_le hi h.size) hne).trans (h.block i hi hne)⟩
theorem only_drewN {a w : World} {row : Option Nat} (h : a.grownBy w row) (n : Nat) : a.grownBy (w.drewN n) row := ⟨h.os, h.tape, h.output, h.size, h.block⟩
theorem only_drew {a w : World} {row : Option Nat} (h : a.grownBy w row) : a.grownBy w.drew row := ⟨h.os, h.tape, h.output, h.size, h.block⟩
theorem only_alloc {a w : World} {row : Option Nat} (h : a.grownBy w row) (o : Obj) : a.grownBy (w.alloc o) row :=
  ⟨h.os, h.tape, h.output, Nat.le_trans h.size (by simp), fun i hi hne => (Below.heap_alloc w o i (Nat.lt_of_lt_of_le hi h.size)).trans (h.block i hi hne)⟩
theorem only_setCell {a w : World} {g : Nat} (h : a.grownBy w (some g)) {p : Addr} (hp : p.block = g ∨ a.heap.size ≤ p.block) (u : Value) : a.grownBy (w.setCell p u) (some g) :=
  ⟨h.os, h.tape, h.output, by simpa [World.setCell] using h.size, fun i hi hne => (Below.heap_setCell w p u i (by
    rintro rfl
    rcases hp with hp | hp
    · exact hne (by rw [hp])
    · omega)).trans (h.block i hi hne)⟩
theorem only_of_below {a w : World} (h : Below a.heap.size a w) (row : Option Nat) : a.grownBy w row := ⟨h.os, h.tape, h.output, h.size, fun i hi _ => h.block i hi⟩
theorem below_of_only {a w : World} {b B : Nat} (h : a.grownBy w (some b)) (hB : B ≤ a.heap.size) (hb : B ≤ b) : Below B a w :=
  ⟨h.os, h.tape, h.output, h.size, fun i hi => h.block i (by omega) (fun e => by injection e with e; omega)⟩

/-! ### Trees -/
inductive Tree where
  | node (kind n : Int) (kids : List Tree)
namespace Tree
instance : Inhabited Tree := ⟨.node 0 0 []⟩
def kind : Tree → Int | .node k _ _ => k
def num : Tree → Int | .node _ n _ => n
def kids : Tree → List Tree | .node _ _ ks => ks
def kid (t : Tree) (j : Nat) : Tree := t.kids.getD j default
def width (t : Tree) : Nat := t.kids.length
theorem kid_get {t : Tree} {j : Nat} (h : j < t.kids.length) : t.kid j = t.kids[j] := by simp [kid, List.getD, List.getElem?_eq_getElem h]
theorem eta (t : Tree) : Tree.node t.kind t.num t.kids = t := by cases t; rfl

theorem ind {p : Tree → Prop} (h : ∀ t : Tree, (∀ j, j < t.width → p (t.kid j)) → p t) : ∀ t, p t := by
  intro t
  refine Tree.rec (motive_1 := p) (motive_2 := fun ks => ∀ t ∈ ks, p t) ?_ ?_ ?_ t
  · intro k n ks ih
    refine h _ fun j hj => ?_
    rw [kid_get (t := .node k n ks) hj]
    exact ih _ (List.getElem_mem hj)
  · intro t ht; cases ht
  · intro t ts h1 h2 u hu
    rcases List.mem_cons.1 hu with rfl | hu
    · exact h1
    · exact h2 u hu
end Tree

/-- The tree t lies in w, in blocks of S, its kids behind address A: each three cells: kind, number, the slice of its kids. -/
inductive TreeS (w : World) (S : Nat → Prop) : Tree → Option Addr → Prop where
  | mk (t : Tree) (A : Option Addr) (As : Nat → Option Addr) (Cs : Nat → Nat) (hlen : t.width ≤ 9223372036854775807)
      (hA : 0 < t.width → ∃ ad, A = some ad ∧ S ad.block ∧ ∀ j, j < t.width → w.cell? (ad.add (j * 3)) = some (.int .i64 (t.kid j).kind) ∧ w.cell? ((ad.add (j * 3)).add 1) = some (.int .i64 (t.kid j).num) ∧
        w.cell? ((ad.add (j * 3)).add 2) = some (.slice (As j) (t.kid j).width (Cs j)))
      (hk : ∀ j, j < t.width → TreeS w S (t.kid j) (As j)) : TreeS w S t A
/-- .. below block B. -/
def TreeIn (w : World) (B : Nat) (t : Tree) (A : Option Addr) : Prop := TreeS w (fun b => b < B) t A

theorem TreeS.small {w : World} {S : Nat → Prop} {t : Tree} {A : Option Addr} (h : TreeS w S t A) : t.width ≤ 9223372036854775807 := by cases h; assumption
theorem TreeS.at_ {w : World} {S : Nat → Prop} {t : Tree} {A : Option Addr} (h : TreeS w S t A) {j : Nat} (hj : j < t.width) :
    ∃ ad A' c', A = some ad ∧ S ad.block ∧ w.cell? (ad.add (j * 3)) = some (.int .i64 (t.kid j).kind) ∧ w.cell? ⟨(ad.add (j * 3)).block, (ad.add (j * 3)).off + 1, none⟩ = some (.int .i64 (t.kid j).num) ∧
      w.cell? ⟨(ad.add (j * 3)).block, (ad.add (j * 3)).off + 2, none⟩ = some (.slice A' (t.kid j).width c') ∧ TreeS w S (t.kid j) A' := by
  cases h with
  | mk _ _ As Cs hlen hA hk =>
    obtain ⟨ad, rfl, hb, hc⟩ := hA (by omega)
    exact ⟨ad, _, _, rfl, hb, (hc j hj).1, by simpa [Addr.add] using (hc j hj).2.1, by simpa [Addr.add] using (hc j hj).2.2, hk j hj⟩
theorem TreeS.keep {w w' : World} {S : Nat → Prop} {t : Tree} {A : Option Addr} (h : TreeS w S t A) (hk : ∀ p : Addr, S p.block → w'.cell? p = w.cell? p) : TreeS w' S t A := by
  induction h with
  | mk t A As Cs hlen hA hkids ih =>
    refine .mk t A As Cs hlen (fun h => ?_) ih
    obtain ⟨ad, e, hb, hc⟩ := hA h
    refine ⟨ad, e, hb, fun j hj => ?_⟩
    obtain ⟨c1, c2, c3⟩ := hc j hj
    exact ⟨(hk _ (by rw [block_of_add]; exact hb)).trans c1, (hk _ (by rw [block_of_add, block_of_add]; exact hb)).trans c2, (hk _ (by rw [block_of_add, block_of_add]; exact hb)).trans c3⟩
theorem TreeS.mono {w : World} {S S' : Nat → Prop} {t : Tree} {A : Option Addr} (h : TreeS w S t A) (hS : ∀ b, b < w.heap.size → S b → S' b) : TreeS w S' t A := by
  induction h with
  | mk t A As Cs hlen hA hkids ih =>
    refine .mk t A As Cs hlen (fun h => ?_) ih
    obtain ⟨ad, e, hb, hc⟩ := hA h
    refine ⟨ad, e, hS _ ?_ hb, hc⟩
    have := World.block_lt_of_cell? _ _ (hc 0 h).1
    rwa [block_of_add] at this
theorem TreeS.later {w w' : World} {S : Nat → Prop} {t : Tree} {A : Option Addr} (h : TreeS w S t A) (hb : Below w.heap.size w w') : TreeS w' S t A :=
  ((h.mono (S' := fun b => S b ∧ b < w.heap.size) fun _ hb hs => ⟨hs, hb⟩).keep fun _ hp => hb.cell hp.2).mono fun _ _ hs => hs.1
theorem TreeS.leaf (w : World) (S : Nat → Prop) (k n : Int) (A : Option Addr) : TreeS w S (.node k n []) A := .mk _ _ (fun _ => none) (fun _ => 0) (Nat.zero_le _) (fun h => absurd h (Nat.lt_irrefl _)) (fun _ h => absurd h (Nat.not_lt_zero _))

theorem TreeIn.small {w : World} {B : Nat} {t : Tree} {A : Option Addr} (h : TreeIn w B t A) : t.width ≤ 9223372036854775807 := TreeS.small h
theorem TreeIn.at_ {w : World} {B : Nat} {t : Tree} {A : Option Addr} (h : TreeIn w B t A) {j : Nat} (hj : j < t.width) :
    ∃ ad A' c', A = some ad ∧ ad.block < B ∧ w.cell? (ad.add (j * 3)) = some (.int .i64 (t.kid j).kind) ∧ w.cell? ⟨(ad.add (j * 3)).block, (ad.add (j * 3)).off + 1, none⟩ = some (.int .i64 (t.kid j).num) ∧
      w.cell? ⟨(ad.add (j * 3)).block, (ad.add (j * 3)).off + 2, none⟩ = some (.slice A' (t.kid j).width c') ∧ TreeIn w B (t.kid j) A' := TreeS.at_ h hj
theorem TreeIn.keep {w w' : World} {B : Nat} {t : Tree} {A : Option Addr} (h : TreeIn w B t A) (hk : ∀ p : Addr, p.block < B → w'.cell? p = w.cell? p) : TreeIn w' B t A := TreeS.keep h hk
theorem TreeIn.under {w w' : World} {B : Nat} {t : Tree} {A : Option Addr} (h : TreeIn w B t A) (hb : Below B w w') : TreeIn w' B t A := h.keep fun _ hp => hb.cell hp
theorem TreeIn.more {w : World} {B B' : Nat} {t : Tree} {A : Option Addr} (h : TreeIn w B t A) (hB : B ≤ B') : TreeIn w B' t A := TreeS.mono h fun _ _ hb => Nat.lt_of_lt_of_le hb hB
theorem TreeIn.later {w w' : World} {t : Tree} {A : Option Addr} (h : TreeIn w w.heap.size t A) (hb : Below w.heap.size w w') : TreeIn w' w'.heap.size t A := (h.under hb).more hb.size
theorem TreeIn.leaf (w : World) (B : Nat) (k n : Int) (A : Option Addr) : TreeIn w B (.node k n []) A := TreeS.leaf _ _ _ _ _
theorem TreeS.tree {w : World} {S : Nat → Prop} {t : Tree} {A : Option Addr} (h : TreeS w S t A) : TreeIn w w.heap.size t A := h.mono fun _ hb _ => hb
theorem TreeIn.all {w : World} {B : Nat} {t : Tree} {A : Option Addr} (h : TreeIn w B t A) : TreeS w (fun _ => True) t A := TreeS.mono h fun _ _ _ => trivial

/-! ### What a check answers -/
/-- How many kids a kind of formula has: LTL's, CTL's. -/
def lKids (k : Int) : Int := if k = 1 ∨ k = 2 ∨ k = 3 then 0 else if k = 4 ∨ k = 7 ∨ k = 10 ∨ k = 11 then 1 else if k = 5 ∨ k = 6 ∨ k = 8 ∨ k = 9 then 2 else -1
def cKids (k : Int) : Int := if k = 1 ∨ k = 2 ∨ k = 3 then 0 else if k = 4 ∨ k = 7 ∨ k = 8 ∨ k = 9 ∨ k = 11 ∨ k = 12 ∨ k = 13 then 1 else if k = 5 ∨ k = 6 ∨ k = 10 ∨ k = 14 then 2 else -1
/-- Is a node wrong by itself? -/
def oddNode (kd : Int → Int) (t : Tree) : Prop := kd t.kind ≠ (t.width : Int) ∨ t.num < 0 ∨ 63 < t.num ∨ (t.kind ≠ 3 ∧ t.num ≠ 0)
instance (kd : Int → Int) (t : Tree) : Decidable (oddNode kd t) := by unfold oddNode; infer_instance

mutual
/-- The error, and how many nodes have been looked at. -/
def chkT (kd : Int → Int) : Tree → Int → Int → Int × Int
  | .node k x ks, d, n =>
    if 60 < n + 1 then (2, n + 1) else if 20 < d then (5, n + 1) else if oddNode kd (.node k x ks) then (1, n + 1) else chkF kd ks (d + 1) (n + 1)
def chkF (kd : Int → Int) : List Tree → Int → Int → Int × Int
  | [], _, n => (0, n)
  | t :: ts, d, n => if (chkT kd t d n).1 = 0 then chkF kd ts d (chkT kd t d n).2 else chkT kd t d n
end
theorem chkT_eq (kd : Int → Int) (t : Tree) (d n : Int) :
    chkT kd t d n = if 60 < n + 1 then (2, n + 1) else if 20 < d then (5, n + 1) else if oddNode kd t then (1, n + 1) else chkF kd t.kids (d + 1) (n + 1) := by
  cases t; rw [chkT]; rfl
theorem chkF_drop (kd : Int → Int) {t : Tree} {j : Nat} (hj : j < t.width) (d n : Int) :
    chkF kd (t.kids.drop j) d n = if (chkT kd (t.kid j) d n).1 = 0 then chkF kd (t.kids.drop (j + 1)) d (chkT kd (t.kid j) d n).2 else chkT kd (t.kid j) d n := by
  rw [List.drop_eq_getElem_cons hj, chkF, Tree.kid_get hj]
theorem chkF_done (kd : Int → Int) (t : Tree) (d n : Int) : chkF kd (t.kids.drop t.width) d n = (0, n) := by
  rw [Tree.width, List.drop_length, chkF]
/-- What is wrong with a formula: 0: nothing. -/
def chk (kd : Int → Int) (t : Tree) : Int := (chkT kd t 1 0).1

mutual
theorem chkT_mono (kd : Int → Int) : ∀ (t : Tree) (d n : Int), n + 1 ≤ (chkT kd t d n).2 ∧ (n ≤ 60 → (chkT kd t d n).2 ≤ 61)
  | .node k x ks, d, n => by
    have := chkF_mono kd ks (d + 1) (n + 1)
    rw [chkT]
    split
    · simp; omega
    · split
      · simp; omega
      · split
        · simp; omega
        · omega
theorem chkF_mono (kd : Int → Int) : ∀ (ts : List Tree) (d n : Int), n ≤ (chkF kd ts d n).2 ∧ (n ≤ 60 → (chkF kd ts d n).2 ≤ 61)
  | [], _, n => by rw [chkF]; simp; omega
  | t :: ts, d, n => by
    have h1 := chkT_mono kd t d n
    have h2 := chkF_mono kd ts d (chkT kd t d n).2
    have h3 := chkT_ok kd t d n
    rw [chkF]
    split
    · rename_i h
      have := h3 h
      omega
    · omega
theorem chkT_ok (kd : Int → Int) : ∀ (t : Tree) (d n : Int), (chkT kd t d n).1 = 0 → (chkT kd t d n).2 ≤ 60
  | .node k x ks, d, n => by
    have := chkF_ok kd ks (d + 1) (n + 1)
    rw [chkT]
    split
    · simp
    · split
      · simp
      · split
        · simp
        · intro h; exact this (by omega) h
theorem chkF_ok (kd : Int → Int) : ∀ (ts : List Tree) (d n : Int), n ≤ 60 → (chkF kd ts d n).1 = 0 → (chkF kd ts d n).2 ≤ 60
  | [], _, n => by rw [chkF]; simp
  | t :: ts, d, n => by
    have h1 := chkT_ok kd t d n
    have h2 := chkF_ok kd ts d (chkT kd t d n).2
    intro hn
    rw [chkF]
    split
    · rename_i h
      exact h2 (h1 h)
    · intro h; contradiction
end
end Go.Proofs.YtgkodbnomgabdaaDoor
