/-
  Processes: what is wrong with one. Plain Lean. No statement is proved here.
-/
import Derived.Test.YtikdngjdhncioaaGr
import Derived.Test.YtikdngjdhncioaaTxp
namespace Go.Proofs.Ytikdngjdhncioaa

structure ProcD where
  nodes : List (ByteArray × Int)
  flows : List (Int × Int)
namespace ProcD
def name (P : ProcD) (i : Nat) : ByteArray := (P.nodes.getD i (⟨#[]⟩, 0)).1
def kind (P : ProcD) (i : Nat) : Int := (P.nodes.getD i (⟨#[]⟩, 0)).2
def src (P : ProcD) (i : Nat) : Int := (P.flows.getD i (0, 0)).1
def dst (P : ProcD) (i : Nat) : Int := (P.flows.getD i (0, 0)).2
/-- What is wrong with a node by itself. -/
def nodeE (P : ProcD) (i : Nat) : Int :=
  if namedB (P.name i) = false ∨ P.kind i < 1 ∨ 7 < P.kind i then 1
  else if (List.range i).any (fun k => eqS (P.name k) (P.name i)) = true then 4 else 0
/-- The first of some errors. -/
def firstE (f : Nat → Int) : Nat → Int
  | 0 => 0
  | n + 1 => if firstE f n ≠ 0 then firstE f n else f n
theorem firstE_zero {f : Nat → Int} : ∀ {n : Nat}, firstE f n = 0 ↔ ∀ i, i < n → f i = 0
  | 0 => ⟨fun _ i h => by omega, fun _ => rfl⟩
  | n + 1 => by
    simp only [firstE]
    constructor
    · intro h
      split at h
      · exact absurd h (by assumption)
      · rename_i q
        have q := Classical.not_not.1 q
        intro i hi
        by_cases e : i = n
        · subst e; exact h
        · exact firstE_zero.1 q i (by omega)
    · intro h
      have : firstE f n = 0 := firstE_zero.2 fun i hi => h i (by omega)
      rw [if_neg (by simp [this])]
      exact h n (by omega)
theorem firstE_hit {f : Nat → Int} {k : Nat} : ∀ {n : Nat}, k < n → (∀ i, i < k → f i = 0) → f k ≠ 0 → firstE f n = f k
  | 0, h, _, _ => by omega
  | n + 1, h, h1, h2 => by
    simp only [firstE]
    by_cases e : k = n
    · subst e
      rw [if_neg (by simp [firstE_zero.2 h1])]
    · rw [firstE_hit (n := n) (by omega) h1 h2, if_pos h2]
def nodesE (P : ProcD) : Int := firstE P.nodeE P.nodes.length
/-- Numbers of flows that are so. -/
def pick (p : Nat → Bool) : Nat → List Int
  | 0 => []
  | n + 1 => if p n then pick p n ++ [(n : Int)] else pick p n
theorem pick_mem {p : Nat → Bool} {x : Int} : ∀ {n : Nat}, x ∈ pick p n ↔ ∃ i, i < n ∧ p i = true ∧ x = (i : Int)
  | 0 => by simp [pick]
  | n + 1 => by
    simp only [pick]
    split
    · rename_i h
      rw [List.mem_append, pick_mem, List.mem_singleton]
      constructor
      · rintro (⟨i, h1, h2, h3⟩ | h1)
        · exact ⟨i, by omega, h2, h3⟩
        · exact ⟨n, by omega, h, h1⟩
      · rintro ⟨i, h1, h2, h3⟩
        by_cases e : i = n
        · subst e; exact .inr h3
        · exact .inl ⟨i, by omega, h2, h3⟩
    · rename_i h
      rw [pick_mem]
      constructor
      · rintro ⟨i, h1, h2, h3⟩; exact ⟨i, by omega, h2, h3⟩
      · rintro ⟨i, h1, h2, h3⟩
        refine ⟨i, ?_, h2, h3⟩
        by_cases e : i = n
        · subst e; exact absurd h2 h
        · omega
theorem pick_len (p : Nat → Bool) : ∀ n, (pick p n).length ≤ n
  | 0 => by simp [pick]
  | n + 1 => by simp only [pick]; have := pick_len p n; split <;> simp <;> omega
def inL (P : ProcD) (v : Int) : List Int := pick (fun i => P.dst i == v) P.flows.length
def outL (P : ProcD) (v : Int) : List Int := pick (fun i => P.src i == v) P.flows.length
/-- The same, of the first flows. -/
def inL' (P : ProcD) (k : Nat) (v : Int) : List Int := pick (fun i => P.dst i == v) k
def outL' (P : ProcD) (k : Nat) (v : Int) : List Int := pick (fun i => P.src i == v) k
theorem inL_len (P : ProcD) (v : Int) : (P.inL v).length ≤ P.flows.length := pick_len _ _
theorem outL_len (P : ProcD) (v : Int) : (P.outL v).length ≤ P.flows.length := pick_len _ _
/-- A flow between nodes. -/
def flowOK (P : ProcD) (i : Nat) : Bool := decide (0 ≤ P.src i) && decide (P.src i < P.nodes.length) && decide (0 ≤ P.dst i) && decide (P.dst i < P.nodes.length)
def starts (P : ProcD) : Nat → Int
  | 0 => 0
  | n + 1 => if P.kind n = 1 then P.starts n + 1 else P.starts n
def startI (P : ProcD) : Nat → Int
  | 0 => -1
  | n + 1 => if P.kind n = 1 then (n : Int) else P.startI n
theorem starts_le (P : ProcD) : ∀ n, 0 ≤ P.starts n ∧ P.starts n ≤ n
  | 0 => by simp [starts]
  | n + 1 => by simp only [starts]; have := starts_le P n; split <;> omega
theorem startI_pos (P : ProcD) : ∀ n, 0 < P.starts n → 0 ≤ P.startI n ∧ P.startI n < n
  | 0, h => by simp [starts] at h
  | n + 1, h => by
    simp only [starts, startI] at h ⊢
    split
    · omega
    · rename_i e
      rw [if_neg e] at h
      have := startI_pos P n h
      omega
/-- Has a node as many flows as its kind asks? -/
def countsB (k i o : Int) : Bool :=
  if k = 1 then i == 0 && o == 1
  else if k = 2 ∨ k = 3 then decide (i > 0) && o == 0
  else if k = 4 then decide (i > 0) && o == 1
  else if k = 7 then decide (o ≤ 4) && (decide (i > 0) && decide (o > 0))
  else if k = 5 ∨ k = 6 then decide (i > 0) && decide (o > 0)
  else false
def nodeOK (P : ProcD) (i : Nat) : Bool := countsB (P.kind i) (P.inL i).length (P.outL i).length
/-- Where one may go from each node, by the first flows. -/
def graph (P : ProcD) : Nat → List (List Int)
  | 0 => List.replicate P.nodes.length []
  | k + 1 => (P.graph k).set (P.src k).toNat ((P.graph k).getD (P.src k).toNat [] ++ [P.dst k])
theorem graph_len (P : ProcD) : ∀ k, (P.graph k).length = P.nodes.length
  | 0 => by simp [graph]
  | k + 1 => by simp only [graph, List.length_set]; exact graph_len P k
theorem getD_set' {α : Type} {L : List α} {i j : Nat} {d l : α} (h : i < L.length) : (L.set i l).getD j d = if j = i then l else L.getD j d := by
  rw [List.getD_eq_getElem?_getD, List.getElem?_set]
  by_cases e : i = j
  · subst e; simp [h]
  · rw [if_neg e, if_neg (fun q => e q.symm), List.getD_eq_getElem?_getD]
theorem flowOK_iff {P : ProcD} {i : Nat} : P.flowOK i = true ↔ 0 ≤ P.src i ∧ P.src i < P.nodes.length ∧ 0 ≤ P.dst i ∧ P.dst i < P.nodes.length := by
  unfold flowOK
  simp only [Bool.and_eq_true, decide_eq_true_eq]
  omega
theorem graph_mem {P : ProcD} {u : Nat} {x : Int} : ∀ {k : Nat}, (∀ i, i < k → P.flowOK i = true) → (x ∈ (P.graph k).getD u [] ↔ ∃ i, i < k ∧ P.src i = u ∧ P.dst i = x)
  | 0, _ => by
    simp only [graph]
    rw [List.getD_eq_getElem?_getD, List.getElem?_replicate]
    constructor
    · intro h; split at h <;> simp at h
    · rintro ⟨i, h, _⟩; omega
  | k + 1, hf => by
    have ih := graph_mem (P := P) (u := u) (x := x) (k := k) fun i hi => hf i (by omega)
    have hk := flowOK_iff.1 (hf k (by omega))
    simp only [graph]
    rw [getD_set' (by rw [graph_len]; omega)]
    split
    · rename_i e
      subst e
      rw [List.mem_append, ih, List.mem_singleton]
      constructor
      · rintro (⟨i, h1, h2, h3⟩ | h)
        · exact ⟨i, by omega, h2, h3⟩
        · exact ⟨k, by omega, by omega, h.symm⟩
      · rintro ⟨i, h1, h2, h3⟩
        by_cases e : i = k
        · subst e; exact .inr h3.symm
        · exact .inl ⟨i, by omega, h2, h3⟩
    · rename_i e
      rw [ih]
      constructor
      · rintro ⟨i, h1, h2, h3⟩; exact ⟨i, by omega, h2, h3⟩
      · rintro ⟨i, h1, h2, h3⟩
        refine ⟨i, ?_, h2, h3⟩
        by_cases q : i = k
        · subst q; omega
        · omega
theorem graph_row (P : ProcD) : ∀ (k u : Nat), (P.graph k).getD u [] = (P.graph k).getD u [] ∧ ((P.graph k).getD u []).length ≤ k
  | 0, u => ⟨rfl, by
    simp only [graph]
    rw [List.getD_eq_getElem?_getD, List.getElem?_replicate]
    split <;> simp⟩
  | k + 1, u => ⟨rfl, by
    have h1 := (graph_row P k u).2
    have h2 := (graph_row P k (P.src k).toNat).2
    simp only [graph]
    by_cases q : (P.src k).toNat < (P.graph k).length
    · rw [getD_set' q]
      split
      · rw [List.length_append, List.length_singleton]; omega
      · omega
    · rw [List.set_eq_of_length_le (by omega)]; omega⟩
/-- Nodes that come from the start. -/
def Come (P : ProcD) (v : Nat) : Prop := Rch (P.graph P.flows.length) [P.startI P.nodes.length] v
open Classical in
/-- What is wrong with a process. -/
noncomputable def chk (P : ProcD) : Int :=
  if 20 < P.nodes.length ∨ 30 < P.flows.length then 2
  else if P.nodesE ≠ 0 then P.nodesE
  else if ¬ ∀ i, i < P.flows.length → P.flowOK i = true then 1
  else if P.starts P.nodes.length ≠ 1 then 1
  else if ¬ ∀ i, i < P.nodes.length → P.nodeOK i = true then 1
  else if ¬ ∀ v, v < P.nodes.length → P.Come v then 6
  else 0
end ProcD
end Go.Proofs.Ytikdngjdhncioaa
