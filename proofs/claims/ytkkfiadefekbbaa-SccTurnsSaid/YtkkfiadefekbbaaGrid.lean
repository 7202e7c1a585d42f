/-
  A slice of slices that the call itself makes and fills: 'OwnGrid'. No program in sight. No statement is proved here.
-/
import Derived.Test.YtkkfiadefekbbaaEq
import Derived.Deep.OwnRows
import Derived.Maps.AppendAt
import Derived.OwnWalk
namespace Go.Proofs.Ytkkfiadefekbbaa
open Go.RowKit

theorem below_more {B : Nat} {a b c : World} (h : Below B a b) (k : Below b.heap.size b c) (hB : B ≤ b.heap.size) : Below B a c := h.trans (k.mono hB)
theorem own_below {w w' : World} {base : Nat} {e : TypeId} {size n : Nat} {v : Value} {xs : List Value} (h : w.ownsRow base e size v n xs) (hb : Below w.heap.size w w') : w'.ownsRow base e size v n xs := by
  obtain ⟨h1, h2⟩ := h
  refine ⟨h1, ?_⟩
  rcases h2 with h2 | ⟨g, cap, cur, hv, hg, hh, r⟩
  · exact Or.inl h2
  · refine Or.inr ⟨g, cap, cur, hv, hg, ?_, r⟩
    have hlt : g < w.heap.size := by
      rcases Nat.lt_or_ge g w.heap.size with hlt | hge
      · exact hlt
      · rw [Array.getElem?_eq_none hge] at hh; cases hh
    rw [hb.block g hlt]; exact hh
theorem own_setCell {w : World} {base : Nat} {e : TypeId} {size n : Nat} {v : Value} {xs : List Value} (h : w.ownsRow base e size v n xs) {a : Addr} (ha : v.ownBlock ≠ some a.block) (u : Value) : (w.setCell a u).ownsRow base e size v n xs := by
  obtain ⟨h1, h2⟩ := h
  refine ⟨h1, ?_⟩
  rcases h2 with h2 | ⟨g, cap, cur, hv, hg, hh, r⟩
  · exact Or.inl h2
  · refine Or.inr ⟨g, cap, cur, hv, hg, ?_, r⟩
    subst hv
    rw [Below.heap_setCell _ _ _ _ (fun e => ha (by rw [← e]; rfl))]; exact hh
theorem own_slice {w : World} {base : Nat} {e : TypeId} {size n : Nat} {v : Value} {xs : List Value} (h : w.ownsRow base e size v n xs) :
    ∃ A c, v = .slice A n c ∧ n ≤ c ∧ c ≤ maxLen ∧ (0 < n → ∃ g, A = some ⟨g, 0, none⟩ ∧ base ≤ g ∧ g < w.heap.size) := by
  rcases h.2 with ⟨rfl, rfl⟩ | ⟨g, cap, cur, rfl, hg, hh, h1, h2, _⟩
  · exact ⟨none, 0, rfl, Nat.le_refl _, Nat.zero_le _, fun h => absurd h (by omega)⟩
  · refine ⟨_, cap, rfl, h1, h2, fun _ => ⟨g, rfl, hg, ?_⟩⟩
    rcases Nat.lt_or_ge g w.heap.size with hlt | hge
    · exact hlt
    · rw [Array.getElem?_eq_none hge] at hh; cases hh

theorem one_new (w : World) (v : Value) (t : TypeId) : ∀ j u, [v][j]? = some u → (w.alloc (.cells #[v] t)).cell? ((⟨w.heap.size, 0, none⟩ : Addr).add j) = some u := by
  intro j u hj
  match j, hj with
  | 0, hj => simp at hj; subst hj; simp [Addr.add]
theorem one_cell (k : IntKind) (x : Int) : ∀ u ∈ [Value.int k x], u.oneCell' = true := by
  intro u hu; simp at hu; subst hu; rfl

/-- BLOCK g IS A ROW OF n SLICES (element type te), slice i OWNING the cells R i (element type e, one cell each); no two of them in one block; all from block 'base' on. -/
structure OwnGrid (w : World) (base g : Nat) (te e : TypeId) (n : Nat) (V : Nat → Value) (R : Nat → List Value) : Prop where
  top : w.rowIs g te n V
  own : ∀ i, i < n → w.ownsRow base e 1 (V i) (R i).length (R i)
  ge : base ≤ g
  gne : ∀ i, i < n → (V i).ownBlock ≠ some g
  dis : ∀ i j, i < n → j < n → i ≠ j → (V i).ownBlock = none ∨ (V i).ownBlock ≠ (V j).ownBlock

theorem OwnGrid.made (w : World) (te e : TypeId) (n base : Nat) (hb : base ≤ w.heap.size) : OwnGrid (w.alloc (.cells (madeCells #[.slice none 0 0] n) te)) base w.heap.size te e n (fun _ => .slice none 0 0) (fun _ => []) :=
  ⟨World.rowIs_made _ _ _ _, fun _ _ => World.ownsRow_nil _ _ _ _, hb, fun _ _ => by simp [Value.ownBlock], fun _ _ _ _ _ => .inl rfl⟩

theorem OwnGrid.drewN {w : World} {base g : Nat} {te e : TypeId} {n : Nat} {V : Nat → Value} {R : Nat → List Value} (h : OwnGrid w base g te e n V R) (q : Nat) : OwnGrid (w.drewN q) base g te e n V R :=
  ⟨h.top, h.own, h.ge, h.gne, h.dis⟩
theorem OwnGrid.below {w w' : World} {base g : Nat} {te e : TypeId} {n : Nat} {V : Nat → Value} {R : Nat → List Value} (h : OwnGrid w base g te e n V R) (hb : Below w.heap.size w w') : OwnGrid w' base g te e n V R :=
  ⟨h.top.of_block (hb.block g h.top.lt), fun i hi => own_below (h.own i hi) hb, h.ge, h.gne, h.dis⟩
theorem OwnGrid.congr {w : World} {base g : Nat} {te e : TypeId} {n : Nat} {V : Nat → Value} {R R' : Nat → List Value} (h : OwnGrid w base g te e n V R) (hr : ∀ i, i < n → R i = R' i) : OwnGrid w base g te e n V R' :=
  ⟨h.top, fun i hi => by rw [← hr i hi]; exact h.own i hi, h.ge, h.gne, h.dis⟩

/-- 'out[i] = append(out[i], x)': behind the one-element slice (one block), the append (its law's word) and the store. -/
theorem OwnGrid.push {w w1 : World} {base g : Nat} {te e : TypeId} {n : Nat} {V : Nat → Value} {R : Nat → List Value} (h : OwnGrid w base g te e n V R) {o : Obj} {i : Nat} (hi : i < n) {v' : Value} {xs : List Value} {m : Nat}
    (hm : m = (R i ++ xs).length)
    (hown : w1.ownsRow base e 1 v' m (R i ++ xs)) (hg : (w.alloc o).grownBy w1 (V i).ownBlock) (hat : v'.ownBlock = (V i).ownBlock ∨ v'.ownBlock = some (w.alloc o).heap.size) :
    OwnGrid (w1.setCell ⟨g, i, none⟩ v') base g te e n (fun j => if j = i then v' else V j) (fun j => if j = i then R i ++ xs else R j) := by
  subst hm
  have hgl := h.top.lt
  have hlt : ∀ j, j < n → ∀ k, (V j).ownBlock = some k → k < w.heap.size := fun j hj k hk => ((h.own j hj).lt k hk).2
  have hsz : (w.alloc o).heap.size = w.heap.size + 1 := by simp
  have htop1 : w1.rowIs g te n V := (h.top.alloc o).of_block (hg.block g (by rw [hsz]; omega) (fun e => h.gne i hi e.symm))
  have hv'g : v'.ownBlock ≠ some g := by
    rcases hat with e | e
    · rw [e]; exact h.gne i hi
    · rw [e, hsz]; intro e'; injection e' with e'; omega
  refine ⟨htop1.set i v', fun j hj => ?_, h.ge, fun j hj => ?_, fun j k hj hk hne => ?_⟩
  · by_cases e : j = i
    · subst e; simp only [if_true]; exact own_setCell hown hv'g _
    · simp only [if_neg e]
      refine own_setCell (((h.own j hj).alloc o).kept hg ?_) (h.gne j hj) _
      rcases h.dis j i hj hi e with h0 | h0
      · exact .inl h0
      · exact .inr h0
  · by_cases e : j = i
    · subst e; simp only [if_true]; exact hv'g
    · simp only [if_neg e]; exact h.gne j hj
  · have hnew : ∀ q, q < n → (V q).ownBlock ≠ some (w.alloc o).heap.size := fun q hq e => by have := hlt q hq _ e; omega
    by_cases e1 : j = i
    · by_cases e2 : k = i
      · exact absurd (e1.trans e2.symm) hne
      · simp only [if_pos e1, if_neg e2]
        rcases hat with e | e
        · rw [e]; subst e1; exact h.dis j k hj hk hne
        · rw [e]; exact .inr (fun e' => hnew k hk e'.symm)
    · by_cases e2 : k = i
      · simp only [if_neg e1, if_pos e2]
        rcases hat with e | e
        · rw [e]; subst e2; exact h.dis j k hj hk hne
        · rw [e]; exact .inr (hnew j hj)
      · simp only [if_neg e1, if_neg e2]; exact h.dis j k hj hk hne

/-- Behind the append: the row of slices stands as it stood. -/
theorem OwnGrid.top_after {w w1 : World} {base g : Nat} {te e : TypeId} {n : Nat} {V : Nat → Value} {R : Nat → List Value} (h : OwnGrid w base g te e n V R) {o : Obj} {i : Nat} (hi : i < n) (hg : (w.alloc o).grownBy w1 (V i).ownBlock) : w1.rowIs g te n V :=
  (h.top.alloc o).of_block (hg.block g (by have := h.top.lt; simp; omega) (fun e => h.gne i hi e.symm))

/-- A function's end: a slice of slices that reads as G, in memory of its own. -/
def RetGrid (w : World) (n : Nat) (G : List (List Int)) (e : Ending) (w' : World) : Prop := ∃ A c a L C, e = .returned (.slice A n c) ∧ Grid w' A n G a L C ∧ Below w.heap.size w w'

/-- What 'push' leaves below: nothing that was there when the call began has turned. -/
theorem OwnGrid.push_below {w0 w w1 : World} {base g : Nat} {te e : TypeId} {n : Nat} {V : Nat → Value} {R : Nat → List Value} (h : OwnGrid w base g te e n V R) {o : Obj} {i : Nat} (hi : i < n) (v' : Value)
    (hb : Below base w0 w) (hsz : base ≤ w.heap.size) (hg : (w.alloc o).grownBy w1 (V i).ownBlock) : Below base w0 (w1.setCell ⟨g, i, none⟩ v') :=
  (Below.grown (hb.alloc hsz o) hg (by simp; omega) (fun k hk => ((h.own i hi).lt k hk).1)).setCell h.ge _

/-- What has been built, read. -/
theorem OwnGrid.grid {w : World} {base g : Nat} {te e : TypeId} {n : Nat} {V : Nat → Value} {G : Nat → List Int} (h : OwnGrid w base g te e n V (fun i => ints (G i))) :
    ∃ a L C, Grid w (some ⟨g, 0, none⟩) n ((List.range n).map G) a L C := by
  have hsl : ∀ i, i < n → ∃ A c, V i = .slice A (G i).length c ∧ (G i).length ≤ c ∧ c ≤ maxLen := fun i hi => by
    obtain ⟨A, c, h1, h2, h3, _⟩ := own_slice (h.own i hi)
    exact ⟨A, c, by rw [h1]; simp [ints], by simpa [ints] using h2, h3⟩
  have hget : ∀ i, i < n → rowAt ((List.range n).map G) i = G i := fun i hi => by simp [rowAt, List.getD, hi]
  refine ⟨fun i => match V i with | .slice A _ _ => A | _ => none, fun i => (G i).length, fun i => match V i with | .slice _ _ c => c | _ => 0, by simp, ⟨by simp, fun hn => ⟨_, rfl, h.top.lt, fun j u hu => ?_⟩⟩, fun i hi => ?_, fun i hi => ?_⟩
  · have hj : j < n := by
      rcases Nat.lt_or_ge j n with hj | hj
      · exact hj
      · rw [List.getElem?_map, List.getElem?_eq_none (by simpa using hj)] at hu; cases hu
    rw [List.getElem?_map, List.getElem?_range hj] at hu
    simp only [Option.map_some, Option.some.injEq] at hu
    obtain ⟨A, c, hv, _, _⟩ := hsl j hj
    rw [hv] at hu
    have := h.top.cell hj
    rw [hv] at this
    rw [← hu]
    by_cases e : j = 0
    · subst e; simpa [Addr.add] using this
    · simpa [Addr.add, e] using this
  · rw [hget i hi]
    obtain ⟨A, c, hv, _, _⟩ := hsl i hi
    have ho := h.own i hi
    rw [hv] at ho
    have := Reads.of_own (by simpa [ints] using ho : w.ownsRow base e 1 (.slice A (G i).length c) (G i).length (ints (G i)))
    rw [hv]; exact this
  · obtain ⟨A, c, hv, h1, h2⟩ := hsl i hi
    unfold maxLen at h2
    show (G i).length ≤ _
    omega

end Go.Proofs.Ytkkfiadefekbbaa
