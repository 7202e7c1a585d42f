/-
  Pr0 Pr1 Pr2 Pr3 Pr4 joined. No statement is proved here.
-/
import Derived.Test.YtgkodbnomgabdaaDoorGr
import Derived.Test.YtgkodbnomgabdaaDoorTxp
import Derived.Test.YtgkodbnomgabdaaDoorTx
import Derived.Test.YtgkodbnomgabdaaDoorSc2
namespace Go.Proofs.YtgkodbnomgabdaaDoor
/-! ### XPr0 -/
section

structure ProcD where
  nodes : List (ByteArray × Int)
  flows : List (Int × Int)
namespace ProcD
def name (P : ProcD) (i : Nat) : ByteArray := (P.nodes.getD i (⟨#[]⟩, 0)).1
def kind (P : ProcD) (i : Nat) : Int := (P.nodes.getD i (⟨#[]⟩, 0)).2
def src (P : ProcD) (i : Nat) : Int := (P.flows.getD i (0, 0)).1
def dst (P : ProcD) (i : Nat) : Int := (P.flows.getD i (0, 0)).2
/-- What is wrong with a node by itself. -/
def nodeE (P : ProcD) (i : Nat) : Int :=
  if namedB (P.name i) = false ∨ P.kind i < 1 ∨ 7 < P.kind i then 1
  else if (List.range i).any (fun k => eqS (P.name k) (P.name i)) = true then 4 else 0
/-- The first of some errors. -/
def firstE (f : Nat → Int) : Nat → Int
  | 0 => 0
  | n + 1 => if firstE f n ≠ 0 then firstE f n else f n
theorem firstE_zero {f : Nat → Int} : ∀ {n : Nat}, firstE f n = 0 ↔ ∀ i, i < n → f i = 0
  | 0 => ⟨fun _ i h => by omega, fun _ => rfl⟩
  | n + 1 => by
    simp only [firstE]
    constructor
    · intro h
      split at h
      · exact absurd h (by assumption)
      · rename_i q
        have q := Classical.not_not.1 q
        intro i hi
        by_cases e : i = n
        · subst e; exact h
        · exact firstE_zero.1 q i (by omega)
    · intro h
      have : firstE f n = 0 := firstE_zero.2 fun i hi => h i (by omega)
      rw [if_neg (by simp [this])]
      exact h n (by omega)
theorem firstE_hit {f : Nat → Int} {k : Nat} : ∀ {n : Nat}, k < n → (∀ i, i < k → f i = 0) → f k ≠ 0 → firstE f n = f k
  | 0, h, _, _ => by omega
  | n + 1, h, h1, h2 => by
    simp only [firstE]
    by_cases e : k = n
    · subst e
      rw [if_neg (by simp [firstE_zero.2 h1])]
    · rw [firstE_hit (n := n) (by omega) h1 h2, if_pos h2]
def nodesE (P : ProcD) : Int := firstE P.nodeE P.nodes.length
/-- Numbers of flows that are so. -/
def pick (p : Nat → Bool) : Nat → List Int
  | 0 => []
  | n + 1 => if p n then pick p n ++ [(n : Int)] else pick p n
theorem pick_mem {p : Nat → Bool} {x : Int} : ∀ {n : Nat}, x ∈ pick p n ↔ ∃ i, i < n ∧ p i = true ∧ x = (i : Int)
  | 0 => by simp [pick]
  | n + 1 => by
    simp only [pick]
    split
    · rename_i h
      rw [List.mem_append, pick_mem, List.mem_singleton]
      constructor
      · rintro (⟨i, h1, h2, h3⟩ | h1)
        · exact ⟨i, by omega, h2, h3⟩
        · exact ⟨n, by omega, h, h1⟩
      · rintro ⟨i, h1, h2, h3⟩
        by_cases e : i = n
        · subst e; exact .inr h3
        · exact .inl ⟨i, by omega, h2, h3⟩
    · rename_i h
      rw [pick_mem]
      constructor
      · rintro ⟨i, h1, h2, h3⟩; exact ⟨i, by omega, h2, h3⟩
      · rintro ⟨i, h1, h2, h3⟩
        refine ⟨i, ?_, h2, h3⟩
        by_cases e : i = n
        · subst e; exact absurd h2 h
        · omega
theorem pick_len (p : Nat → Bool) : ∀ n, (pick p n).length ≤ n
  | 0 => by simp [pick]
  | n + 1 => by simp only [pick]; have := pick_len p n; split <;> simp <;> omega
def inL (P : ProcD) (v : Int) : List Int := pick (fun i => P.dst i == v) P.flows.length
def outL (P : ProcD) (v : Int) : List Int := pick (fun i => P.src i == v) P.flows.length
/-- The same, of the first flows. -/
def inL' (P : ProcD) (k : Nat) (v : Int) : List Int := pick (fun i => P.dst i == v) k
def outL' (P : ProcD) (k : Nat) (v : Int) : List Int := pick (fun i => P.src i == v) k
theorem inL_len (P : ProcD) (v : Int) : (P.inL v).length ≤ P.flows.length := pick_len _ _
theorem outL_len (P : ProcD) (v : Int) : (P.outL v).length ≤ P.flows.length := pick_len _ _
/-- A flow between nodes. -/
def flowOK (P : ProcD) (i : Nat) : Bool := decide (0 ≤ P.src i) && decide (P.src i < P.nodes.length) && decide (0 ≤ P.dst i) && decide (P.dst i < P.nodes.length)
def starts (P : ProcD) : Nat → Int
  | 0 => 0
  | n + 1 => if P.kind n = 1 then P.starts n + 1 else P.starts n
def startI (P : ProcD) : Nat → Int
  | 0 => -1
  | n + 1 => if P.kind n = 1 then (n : Int) else P.startI n
theorem starts_le (P : ProcD) : ∀ n, 0 ≤ P.starts n ∧ P.starts n ≤ n
  | 0 => by simp [starts]
  | n + 1 => by simp only [starts]; have := starts_le P n; split <;> omega
theorem startI_pos (P : ProcD) : ∀ n, 0 < P.starts n → 0 ≤ P.startI n ∧ P.startI n < n
  | 0, h => by simp [starts] at h
  | n + 1, h => by
    simp only [starts, startI] at h ⊢
    split
    · omega
    · rename_i e
      rw [if_neg e] at h
      have := startI_pos P n h
      omega
/-- Has a node as many flows as its kind asks? -/
def countsB (k i o : Int) : Bool :=
  if k = 1 then i == 0 && o == 1
  else if k = 2 ∨ k = 3 then decide (i > 0) && o == 0
  else if k = 4 then decide (i > 0) && o == 1
  else if k = 7 then decide (o ≤ 4) && (decide (i > 0) && decide (o > 0))
  else if k = 5 ∨ k = 6 then decide (i > 0) && decide (o > 0)
  else false
def nodeOK (P : ProcD) (i : Nat) : Bool := countsB (P.kind i) (P.inL i).length (P.outL i).length
/-- Where one may go from each node, by the first flows. -/
def graph (P : ProcD) : Nat → List (List Int)
  | 0 => List.replicate P.nodes.length []
  | k + 1 => (P.graph k).set (P.src k).toNat ((P.graph k).getD (P.src k).toNat [] ++ [P.dst k])
theorem graph_len (P : ProcD) : ∀ k, (P.graph k).length = P.nodes.length
  | 0 => by simp [graph]
  | k + 1 => by simp only [graph, List.length_set]; exact graph_len P k
theorem getD_set' {α : Type} {L : List α} {i j : Nat} {d l : α} (h : i < L.length) : (L.set i l).getD j d = if j = i then l else L.getD j d := by
  rw [List.getD_eq_getElem?_getD, List.getElem?_set]
  by_cases e : i = j
  · subst e; simp [h]
  · rw [if_neg e, if_neg (fun q => e q.symm), List.getD_eq_getElem?_getD]
theorem flowOK_iff {P : ProcD} {i : Nat} : P.flowOK i = true ↔ 0 ≤ P.src i ∧ P.src i < P.nodes.length ∧ 0 ≤ P.dst i ∧ P.dst i < P.nodes.length := by
  unfold flowOK
  simp only [Bool.and_eq_true, decide_eq_true_eq]
  omega
theorem graph_mem {P : ProcD} {u : Nat} {x : Int} : ∀ {k : Nat}, (∀ i, i < k → P.flowOK i = true) → (x ∈ (P.graph k).getD u [] ↔ ∃ i, i < k ∧ P.src i = u ∧ P.dst i = x)
  | 0, _ => by
    simp only [graph]
    rw [List.getD_eq_getElem?_getD, List.getElem?_replicate]
    constructor
    · intro h; split at h <;> simp at h
    · rintro ⟨i, h, _⟩; omega
  | k + 1, hf => by
    have ih := graph_mem (P := P) (u := u) (x := x) (k := k) fun i hi => hf i (by omega)
    have hk := flowOK_iff.1 (hf k (by omega))
    simp only [graph]
    rw [getD_set' (by rw [graph_len]; omega)]
    split
    · rename_i e
      subst e
      rw [List.mem_append, ih, List.mem_singleton]
      constructor
      · rintro (⟨i, h1, h2, h3⟩ | h)
        · exact ⟨i, by omega, h2, h3⟩
        · exact ⟨k, by omega, by omega, h.symm⟩
      · rintro ⟨i, h1, h2, h3⟩
        by_cases e : i = k
        · subst e; exact .inr h3.symm
        · exact .inl ⟨i, by omega, h2, h3⟩
    · rename_i e
      rw [ih]
      constructor
      · rintro ⟨i, h1, h2, h3⟩; exact ⟨i, by omega, h2, h3⟩
      · rintro ⟨i, h1, h2, h3⟩
        refine ⟨i, ?_, h2, h3⟩
        by_cases q : i = k
        · subst q; omega
        · omega
theorem graph_row (P : ProcD) : ∀ (k u : Nat), (P.graph k).getD u [] = (P.graph k).getD u [] ∧ ((P.graph k).getD u []).length ≤ k
  | 0, u => ⟨rfl, by
    simp only [graph]
    rw [List.getD_eq_getElem?_getD, List.getElem?_replicate]
    split <;> simp⟩
  | k + 1, u => ⟨rfl, by
    have h1 := (graph_row P k u).2
    have h2 := (graph_row P k (P.src k).toNat).2
    simp only [graph]
    by_cases q : (P.src k).toNat < (P.graph k).length
    · rw [getD_set' q]
      split
      · rw [List.length_append, List.length_singleton]; omega
      · omega
    · rw [List.set_eq_of_length_le (by omega)]; omega⟩
/-- Nodes that come from the start. -/
def Come (P : ProcD) (v : Nat) : Prop := Rch (P.graph P.flows.length) [P.startI P.nodes.length] v
open Classical in
/-- What is wrong with a process. -/
noncomputable def chk (P : ProcD) : Int :=
  if 20 < P.nodes.length ∨ 30 < P.flows.length then 2
  else if P.nodesE ≠ 0 then P.nodesE
  else if ¬ ∀ i, i < P.flows.length → P.flowOK i = true then 1
  else if P.starts P.nodes.length ≠ 1 then 1
  else if ¬ ∀ i, i < P.nodes.length → P.nodeOK i = true then 1
  else if ¬ ∀ v, v < P.nodes.length → P.Come v then 6
  else 0
end ProcD
end

/-! ### XPr1 -/
section
open Go.RowKit
set_option linter.unusedSimpArgs false
set_option linter.unusedVariables false
def nrow (x : ByteArray × Int) : List D := [.sc (.string x.1), .sc (.int .i64 x.2)]
def frow (x : Int × Int) : List D := [.sc (.int .i64 x.1), .sc (.int .i64 x.2)]
def ProcD.cells (P : ProcD) : List D := [.lst 2 (P.nodes.map nrow), .lst 2 (P.flows.map frow)]
def dproc (P : ProcD) : D := .agg P.cells
theorem pure_nrow (x : ByteArray × Int) : PureL (nrow x) := by simp [nrow, PureL, Pure]
theorem pure_frow (x : Int × Int) : PureL (frow x) := by simp [frow, PureL, Pure]
theorem pure_pcells' (P : ProcD) : PureL P.cells := by simp [ProcD.cells, PureL, Pure, pure_nrow, pure_frow]
theorem pure_dproc (P : ProcD) : Pure (dproc P) := by simp [dproc, Pure, pure_pcells']
@[simp] theorem underL_proc {m : Nat} (P : ProcD) : UnderL m P.cells ↔ True := ⟨fun _ => trivial, fun _ => underL_pure _ (pure_pcells' P)⟩
@[simp] theorem underL_nrow {m : Nat} (x : ByteArray × Int) : UnderL m (nrow x) ↔ True := ⟨fun _ => trivial, fun _ => underL_pure _ (pure_nrow x)⟩
@[simp] theorem underL_frow {m : Nat} (x : Int × Int) : UnderL m (frow x) ↔ True := ⟨fun _ => trivial, fun _ => underL_pure _ (pure_frow x)⟩
theorem node_at (P : ProcD) {z k : Nat} (hz : z = k) (h : k < P.nodes.length) : (P.nodes.map nrow)[z]? = some [.sc (.string (P.name k)), .sc (.int .i64 (P.kind k))] := by
  subst hz
  rw [List.getElem?_map, List.getElem?_eq_getElem h]
  unfold ProcD.name ProcD.kind
  rw [List.getD_eq_getElem?_getD, List.getElem?_eq_getElem h]
  rfl
theorem flow_at (P : ProcD) {z k : Nat} (hz : z = k) (h : k < P.flows.length) : (P.flows.map frow)[z]? = some [.sc (.int .i64 (P.src k)), .sc (.int .i64 (P.dst k))] := by
  subst hz
  rw [List.getElem?_map, List.getElem?_eq_getElem h]
  unfold ProcD.src ProcD.dst
  rw [List.getD_eq_getElem?_getD, List.getElem?_eq_getElem h]
  rfl
/-- What can be counted. -/
structure ProcD.Fits (P : ProcD) : Prop where
  nodes : P.nodes.length ≤ 9223372036854775807
  flows : P.flows.length ≤ 9223372036854775807
  name : ∀ x ∈ P.nodes, x.1.size ≤ 9223372036854775807
theorem ProcD.Fits.at {P : ProcD} (h : P.Fits) {i : Nat} (hi : i < P.nodes.length) : (P.name i).size ≤ 9223372036854775807 := by
  unfold ProcD.name
  rw [List.getD_eq_getElem?_getD, List.getElem?_eq_getElem hi]
  exact h.name _ (List.getElem_mem hi)
theorem i64s_snoc {l : List Int} {c : Nat} {x : Int} (h : c = l.length) : List.drop 0 (List.take c (i64s l)) ++ [[D.sc (.int .i64 x)]] = i64s (l ++ [x]) := by
  subst h
  rw [drop_take_all (by simp [i64s])]
  simp [i64s]
theorem deep_ints {H : List AObj} {id v n : Nat} {q : Bool} {l : List Int} (hn : n = l.length) (h : H[id]? = some (.vec q v 1 (i64s l))) : Deep H (.own id v 0 n) (dints l) := by
  subst hn
  exact .own _ _ _ _ _ _ _ _ h (by rw [drop_take_all (by simp [i64s])]; exact deepLL_refl _)
/-! ### Flows in and out -/
def c30_1 : PC := .seq (.ops [q 12 (.bin .lss (.tmp 11) (.tmp 10))] false) (.seq (.cond (.tmp 12) (.skip) (.exit 0)) (.seq (.block 1 (.seq (.ops [qm 13 11,q 14 (.iaddr 2 (.tmp 9) (.tmp 11)),q 15 (.loadA 2 (.tmp 14)),q 7 (.alloc [(.int .i64 0), (.int .i64 0)]),qm 6 13,qn (.store 2 (.tmp 7) (.tmp 15))] false) (.seq (.ops [q 16 (.faddr 1 (.tmp 7)),q 17 (.load1 (.tmp 16)),qm 18 1,q 19 (.bin .eql (.tmp 17) (.tmp 18))] false) (.cond (.tmp 19) (.ops [qm 20 5,qm 21 6,q 22 (.bslice 1 1 [(.tmp 21)]),q 23 (.append 1 8 (.tmp 20) (.tmp 22)),qm 5 23] false) (.skip))))) (.ops [q 24 (.bin .add (.tmp 11) (.const (.int .i64 1))),qm 11 24] false)))
def c30 : PC := .seq (.ops [q 2 (.box (.tmp 0)),q 4 (.move (.const (.slice none 0 0)))] false) (.seq (.ops [q 5 (.move (.const (.slice none 0 0)))] false) (.seq (.seq (.ops [q 8 (.faddr 1 (.tmp 2)),q 9 (.load1 (.tmp 8)),q 10 (.len (.tmp 9)),q 11 (.move (.const (.int .i64 0)))] false) (.block 0 (.loop c30_1))) (.seq (.ops [qm 25 5,qm 4 25] false) (.ret))))
set_option maxRecDepth 100000 in
theorem c30_ok : FunOK Tryd.prog 30 26 [.tmp 4] c30 := ⟨⟨Tryd.f30, Tryd.func30, rfl, by kernel_rfl, rfl, by kernel_rfl⟩⟩
theorem proc_ins (P : ProcD) (hP : P.Fits) (hf : P.flows.length ≤ 1000) (v : Int) : PCall Tryd.prog 30 [dproc P, .sc (.int .i64 v)] (dints (P.inL v)) := by
  have b := hP.flows
  refine pcall_intro c30_ok (by simp) (by simp [PureL, Pure, pure_dproc]) ?_ (pure_dints _)
  (apply rd_sound; focus (repeat' constructor))
  ((conv=>whnf);repeat(refine⟨rfl,?_⟩;conv=>whnf))
  rw [List.length_map]
  refine pwp_ghostB (leB_nil 5 1 (by simp) rfl) ?_
  refine pwp_for [1, 9, 10] (fun ((k, c, l) : Nat × Nat × List Int) => [(5, .own 1 c 0 c), (11, .sc (.int .i64 k))]) (fun (k, c, l) => [(1, .vec true c 1 (i64s l))]) (fun (k, c, l) => k ≤ P.flows.length ∧ c = l.length ∧ c ≤ k ∧ l = ProcD.pick (fun i => P.dst i == v) k) (fun (k, c, l) => P.flows.length - k) (0, 0, []) ?_
  ((conv=>whnf);repeat(refine⟨rfl,?_⟩;conv=>whnf))
  refine ⟨⟨by omega, rfl, by omega, rfl⟩, by (repeat' (first | exact trivial | refine And.intro rfl ?_)), rfl, ?_⟩
  rintro ⟨k, c, l⟩ ⟨hk, hc, hck, hl⟩
  ((conv=>whnf);repeat(refine⟨rfl,?_⟩;conv=>whnf))
  (apply rd_sound; focus (repeat' constructor))
  ((conv=>whnf);repeat(refine⟨rfl,?_⟩;conv=>whnf))
  (refine ifK_split (fun h => ?_) (fun h => ?_) <;> (rw [h]; ((conv=>whnf);repeat(refine⟨rfl,?_⟩;conv=>whnf))))
  · have hk' : k < P.flows.length := by ((try simp only[oo,reduceCtorEq]at*)<;>omega)
    refine ⟨by omega, _, flow_at P (k := k) (by omega) hk', ?_⟩
    ((conv=>whnf);repeat(refine⟨rfl,?_⟩;conv=>whnf))
    (refine ifK_split (fun h2 => ?_) (fun h2 => ?_) <;> (rw [h2]; ((conv=>whnf);repeat(refine⟨rfl,?_⟩;conv=>whnf))))
    · refine ⟨(by unfold sliceAppend; simp only [ll]; omega), ?_⟩
      ((conv=>whnf);repeat(refine⟨rfl,?_⟩;conv=>whnf))
      (refine .inl ⟨by (unfold InR; rw [IntKind.wrap_i64]; omega), ?_⟩; ((conv=>whnf);repeat(refine⟨rfl,?_⟩;conv=>whnf)))
      refine ⟨(k + 1, c + 1, l ++ [(k : Int)]), ⟨by omega, by simp [hc], by omega, by rw [hl]; simp [ProcD.pick, h2]⟩, by dsimp only; omega, ?_⟩
      (refine leB_close 2 (by simp) rfl ?_ ?_ <;> (repeat' (first | exact trivial | exact rfl | exact DeepM.refl _ | exact DeepML.refl _ | exact DeepMLL.refl _ | refine And.intro ?_ ?_ | (simp [Under, UnderL, UnderLL, -List.map_take, -List.map_drop]; done))))
      exact deepMLL_eq (i64s_snoc hc)
    · (refine .inl ⟨by (unfold InR; rw [IntKind.wrap_i64]; omega), ?_⟩; ((conv=>whnf);repeat(refine⟨rfl,?_⟩;conv=>whnf)))
      refine ⟨(k + 1, c, l), ⟨by omega, hc, by omega, by rw [hl]; simp [ProcD.pick, h2]⟩, by dsimp only; omega, ?_⟩
      (refine leB_close 2 (by simp) rfl ?_ ?_ <;> (repeat' (first | exact trivial | exact rfl | exact DeepM.refl _ | exact DeepML.refl _ | exact DeepMLL.refl _ | refine And.intro ?_ ?_ | (simp [Under, UnderL, UnderLL, -List.map_take, -List.map_drop]; done))))
  · have hk' : k = P.flows.length := by have : ¬ k < P.flows.length := by ((try simp only[oo,reduceCtorEq]at*)<;>omega)
                                        omega
    subst hk'
    subst hl
    exact deep_ints hc rfl
def c31_1 : PC := .seq (.ops [q 12 (.bin .lss (.tmp 11) (.tmp 10))] false) (.seq (.cond (.tmp 12) (.skip) (.exit 0)) (.seq (.block 1 (.seq (.ops [qm 13 11,q 14 (.iaddr 2 (.tmp 9) (.tmp 11)),q 15 (.loadA 2 (.tmp 14)),q 7 (.alloc [(.int .i64 0), (.int .i64 0)]),qm 6 13,qn (.store 2 (.tmp 7) (.tmp 15))] false) (.seq (.ops [q 16 (.faddr 0 (.tmp 7)),q 17 (.load1 (.tmp 16)),qm 18 1,q 19 (.bin .eql (.tmp 17) (.tmp 18))] false) (.cond (.tmp 19) (.ops [qm 20 5,qm 21 6,q 22 (.bslice 1 1 [(.tmp 21)]),q 23 (.append 1 8 (.tmp 20) (.tmp 22)),qm 5 23] false) (.skip))))) (.ops [q 24 (.bin .add (.tmp 11) (.const (.int .i64 1))),qm 11 24] false)))
def c31 : PC := .seq (.ops [q 2 (.box (.tmp 0)),q 4 (.move (.const (.slice none 0 0)))] false) (.seq (.ops [q 5 (.move (.const (.slice none 0 0)))] false) (.seq (.seq (.ops [q 8 (.faddr 1 (.tmp 2)),q 9 (.load1 (.tmp 8)),q 10 (.len (.tmp 9)),q 11 (.move (.const (.int .i64 0)))] false) (.block 0 (.loop c31_1))) (.seq (.ops [qm 25 5,qm 4 25] false) (.ret))))
set_option maxRecDepth 100000 in
theorem c31_ok : FunOK Tryd.prog 31 26 [.tmp 4] c31 := ⟨⟨Tryd.f31, Tryd.func31, rfl, by kernel_rfl, rfl, by kernel_rfl⟩⟩
theorem proc_outs (P : ProcD) (hP : P.Fits) (hf : P.flows.length ≤ 1000) (v : Int) : PCall Tryd.prog 31 [dproc P, .sc (.int .i64 v)] (dints (P.outL v)) := by
  have b := hP.flows
  refine pcall_intro c31_ok (by simp) (by simp [PureL, Pure, pure_dproc]) ?_ (pure_dints _)
  (apply rd_sound; focus (repeat' constructor))
  ((conv=>whnf);repeat(refine⟨rfl,?_⟩;conv=>whnf))
  rw [List.length_map]
  refine pwp_ghostB (leB_nil 5 1 (by simp) rfl) ?_
  refine pwp_for [1, 9, 10] (fun ((k, c, l) : Nat × Nat × List Int) => [(5, .own 1 c 0 c), (11, .sc (.int .i64 k))]) (fun (k, c, l) => [(1, .vec true c 1 (i64s l))]) (fun (k, c, l) => k ≤ P.flows.length ∧ c = l.length ∧ c ≤ k ∧ l = ProcD.pick (fun i => P.src i == v) k) (fun (k, c, l) => P.flows.length - k) (0, 0, []) ?_
  ((conv=>whnf);repeat(refine⟨rfl,?_⟩;conv=>whnf))
  refine ⟨⟨by omega, rfl, by omega, rfl⟩, by (repeat' (first | exact trivial | refine And.intro rfl ?_)), rfl, ?_⟩
  rintro ⟨k, c, l⟩ ⟨hk, hc, hck, hl⟩
  ((conv=>whnf);repeat(refine⟨rfl,?_⟩;conv=>whnf))
  (apply rd_sound; focus (repeat' constructor))
  ((conv=>whnf);repeat(refine⟨rfl,?_⟩;conv=>whnf))
  (refine ifK_split (fun h => ?_) (fun h => ?_) <;> (rw [h]; ((conv=>whnf);repeat(refine⟨rfl,?_⟩;conv=>whnf))))
  · have hk' : k < P.flows.length := by ((try simp only[oo,reduceCtorEq]at*)<;>omega)
    refine ⟨by omega, _, flow_at P (k := k) (by omega) hk', ?_⟩
    ((conv=>whnf);repeat(refine⟨rfl,?_⟩;conv=>whnf))
    (refine ifK_split (fun h2 => ?_) (fun h2 => ?_) <;> (rw [h2]; ((conv=>whnf);repeat(refine⟨rfl,?_⟩;conv=>whnf))))
    · refine ⟨(by unfold sliceAppend; simp only [ll]; omega), ?_⟩
      ((conv=>whnf);repeat(refine⟨rfl,?_⟩;conv=>whnf))
      (refine .inl ⟨by (unfold InR; rw [IntKind.wrap_i64]; omega), ?_⟩; ((conv=>whnf);repeat(refine⟨rfl,?_⟩;conv=>whnf)))
      refine ⟨(k + 1, c + 1, l ++ [(k : Int)]), ⟨by omega, by simp [hc], by omega, by rw [hl]; simp [ProcD.pick, h2]⟩, by dsimp only; omega, ?_⟩
      (refine leB_close 2 (by simp) rfl ?_ ?_ <;> (repeat' (first | exact trivial | exact rfl | exact DeepM.refl _ | exact DeepML.refl _ | exact DeepMLL.refl _ | refine And.intro ?_ ?_ | (simp [Under, UnderL, UnderLL, -List.map_take, -List.map_drop]; done))))
      exact deepMLL_eq (i64s_snoc hc)
    · (refine .inl ⟨by (unfold InR; rw [IntKind.wrap_i64]; omega), ?_⟩; ((conv=>whnf);repeat(refine⟨rfl,?_⟩;conv=>whnf)))
      refine ⟨(k + 1, c, l), ⟨by omega, hc, by omega, by rw [hl]; simp [ProcD.pick, h2]⟩, by dsimp only; omega, ?_⟩
      (refine leB_close 2 (by simp) rfl ?_ ?_ <;> (repeat' (first | exact trivial | exact rfl | exact DeepM.refl _ | exact DeepML.refl _ | exact DeepMLL.refl _ | refine And.intro ?_ ?_ | (simp [Under, UnderL, UnderLL, -List.map_take, -List.map_drop]; done))))
  · have hk' : k = P.flows.length := by have : ¬ k < P.flows.length := by ((try simp only[oo,reduceCtorEq]at*)<;>omega)
                                        omega
    subst hk'
    subst hl
    exact deep_ints hc rfl
def c12_1 : PC := .seq (.seq (.ops [qm 7 6,q 8 (.faddr 1 (.tmp 2)),q 9 (.load1 (.tmp 8)),q 10 (.len (.tmp 9)),q 11 (.bin .lss (.tmp 7) (.tmp 10))] false) (.cond (.tmp 11) (.skip) (.exit 0))) (.seq (.block 1 (.seq (.ops [q 14 (.faddr 1 (.tmp 2)),q 15 (.load1 (.tmp 14)),qm 16 6,q 17 (.iaddr 2 (.tmp 15) (.tmp 16)),q 18 (.faddr 1 (.tmp 17)),q 19 (.load1 (.tmp 18)),qm 20 1,q 21 (.bin .eql (.tmp 19) (.tmp 20))] false) (.cond (.tmp 21) (.ops [qm 22 5,qm 23 6,q 24 (.bslice 1 1 [(.tmp 23)]),q 25 (.append 1 8 (.tmp 22) (.tmp 24)),qm 5 25] false) (.skip)))) (.ops [qm 12 6,q 13 (.bin .add (.tmp 12) (.const (.int .i64 1))),qm 6 13] false))
def c12 : PC := .seq (.ops [q 2 (.box (.tmp 0)),q 4 (.move (.const (.slice none 0 0)))] false) (.seq (.ops [q 5 (.move (.const (.slice none 0 0)))] false) (.seq (.seq (.ops [q 6 (.move (.const (.int .i64 0)))] false) (.block 0 (.loop c12_1))) (.seq (.ops [qm 26 5,qm 4 26] false) (.ret))))
set_option maxRecDepth 100000 in
theorem c12_ok : FunOK Tryd.prog 12 27 [.tmp 4] c12 := ⟨⟨Tryd.f12, Tryd.func12, rfl, by kernel_rfl, rfl, by kernel_rfl⟩⟩
theorem ref_FlowsIn (P : ProcD) (hP : P.Fits) (hf : P.flows.length ≤ 1000) (v : Int) : PCall Tryd.prog 12 [dproc P, .sc (.int .i64 v)] (dints (P.inL v)) := by
  have b := hP.flows
  refine pcall_intro c12_ok (by simp) (by simp [PureL, Pure, pure_dproc]) ?_ (pure_dints _)
  (apply rd_sound; focus (repeat' constructor))
  ((conv=>whnf);repeat(refine⟨rfl,?_⟩;conv=>whnf))
  refine pwp_ghostB (leB_nil 5 1 (by simp) rfl) ?_
  refine pwp_for [1, 2] (fun ((k, c, l) : Nat × Nat × List Int) => [(5, .own 1 c 0 c), (6, .sc (.int .i64 k))]) (fun (k, c, l) => [(1, .vec true c 1 (i64s l))]) (fun (k, c, l) => k ≤ P.flows.length ∧ c = l.length ∧ c ≤ k ∧ l = ProcD.pick (fun i => P.dst i == v) k) (fun (k, c, l) => P.flows.length - k) (0, 0, []) ?_
  ((conv=>whnf);repeat(refine⟨rfl,?_⟩;conv=>whnf))
  refine ⟨⟨by omega, rfl, by omega, rfl⟩, by (repeat' (first | exact trivial | refine And.intro rfl ?_)), rfl, ?_⟩
  rintro ⟨k, c, l⟩ ⟨hk, hc, hck, hl⟩
  ((conv=>whnf);repeat(refine⟨rfl,?_⟩;conv=>whnf))
  (apply rd_sound; focus (repeat' constructor))
  ((conv=>whnf);repeat(refine⟨rfl,?_⟩;conv=>whnf))
  rw [List.length_map]
  (refine ifK_split (fun h => ?_) (fun h => ?_) <;> (rw [h]; ((conv=>whnf);repeat(refine⟨rfl,?_⟩;conv=>whnf))))
  · have hk' : k < P.flows.length := by ((try simp only[oo,reduceCtorEq]at*)<;>omega)
    refine ⟨by omega, _, flow_at P (k := k) (by omega) hk', ?_⟩
    ((conv=>whnf);repeat(refine⟨rfl,?_⟩;conv=>whnf))
    (refine ifK_split (fun h2 => ?_) (fun h2 => ?_) <;> (rw [h2]; ((conv=>whnf);repeat(refine⟨rfl,?_⟩;conv=>whnf))))
    · refine ⟨(by unfold sliceAppend; simp only [ll]; omega), ?_⟩
      ((conv=>whnf);repeat(refine⟨rfl,?_⟩;conv=>whnf))
      (refine .inl ⟨by (unfold InR; rw [IntKind.wrap_i64]; omega), ?_⟩; ((conv=>whnf);repeat(refine⟨rfl,?_⟩;conv=>whnf)))
      refine ⟨(k + 1, c + 1, l ++ [(k : Int)]), ⟨by omega, by simp [hc], by omega, by rw [hl]; simp [ProcD.pick, h2]⟩, by dsimp only; omega, ?_⟩
      (refine leB_close 2 (by simp) rfl ?_ ?_ <;> (repeat' (first | exact trivial | exact rfl | exact DeepM.refl _ | exact DeepML.refl _ | exact DeepMLL.refl _ | refine And.intro ?_ ?_ | (simp [Under, UnderL, UnderLL, -List.map_take, -List.map_drop]; done))))
      exact deepMLL_eq (i64s_snoc hc)
    · (refine .inl ⟨by (unfold InR; rw [IntKind.wrap_i64]; omega), ?_⟩; ((conv=>whnf);repeat(refine⟨rfl,?_⟩;conv=>whnf)))
      refine ⟨(k + 1, c, l), ⟨by omega, hc, by omega, by rw [hl]; simp [ProcD.pick, h2]⟩, by dsimp only; omega, ?_⟩
      (refine leB_close 2 (by simp) rfl ?_ ?_ <;> (repeat' (first | exact trivial | exact rfl | exact DeepM.refl _ | exact DeepML.refl _ | exact DeepMLL.refl _ | refine And.intro ?_ ?_ | (simp [Under, UnderL, UnderLL, -List.map_take, -List.map_drop]; done))))
  · have hk' : k = P.flows.length := by have : ¬ k < P.flows.length := by ((try simp only[oo,reduceCtorEq]at*)<;>omega)
                                        omega
    subst hk'
    subst hl
    exact deep_ints hc rfl
def c13_1 : PC := .seq (.seq (.ops [qm 7 6,q 8 (.faddr 1 (.tmp 2)),q 9 (.load1 (.tmp 8)),q 10 (.len (.tmp 9)),q 11 (.bin .lss (.tmp 7) (.tmp 10))] false) (.cond (.tmp 11) (.skip) (.exit 0))) (.seq (.block 1 (.seq (.ops [q 14 (.faddr 1 (.tmp 2)),q 15 (.load1 (.tmp 14)),qm 16 6,q 17 (.iaddr 2 (.tmp 15) (.tmp 16)),q 18 (.faddr 0 (.tmp 17)),q 19 (.load1 (.tmp 18)),qm 20 1,q 21 (.bin .eql (.tmp 19) (.tmp 20))] false) (.cond (.tmp 21) (.ops [qm 22 5,qm 23 6,q 24 (.bslice 1 1 [(.tmp 23)]),q 25 (.append 1 8 (.tmp 22) (.tmp 24)),qm 5 25] false) (.skip)))) (.ops [qm 12 6,q 13 (.bin .add (.tmp 12) (.const (.int .i64 1))),qm 6 13] false))
def c13 : PC := .seq (.ops [q 2 (.box (.tmp 0)),q 4 (.move (.const (.slice none 0 0)))] false) (.seq (.ops [q 5 (.move (.const (.slice none 0 0)))] false) (.seq (.seq (.ops [q 6 (.move (.const (.int .i64 0)))] false) (.block 0 (.loop c13_1))) (.seq (.ops [qm 26 5,qm 4 26] false) (.ret))))
set_option maxRecDepth 100000 in
theorem c13_ok : FunOK Tryd.prog 13 27 [.tmp 4] c13 := ⟨⟨Tryd.f13, Tryd.func13, rfl, by kernel_rfl, rfl, by kernel_rfl⟩⟩
theorem ref_FlowsOut (P : ProcD) (hP : P.Fits) (hf : P.flows.length ≤ 1000) (v : Int) : PCall Tryd.prog 13 [dproc P, .sc (.int .i64 v)] (dints (P.outL v)) := by
  have b := hP.flows
  refine pcall_intro c13_ok (by simp) (by simp [PureL, Pure, pure_dproc]) ?_ (pure_dints _)
  (apply rd_sound; focus (repeat' constructor))
  ((conv=>whnf);repeat(refine⟨rfl,?_⟩;conv=>whnf))
  refine pwp_ghostB (leB_nil 5 1 (by simp) rfl) ?_
  refine pwp_for [1, 2] (fun ((k, c, l) : Nat × Nat × List Int) => [(5, .own 1 c 0 c), (6, .sc (.int .i64 k))]) (fun (k, c, l) => [(1, .vec true c 1 (i64s l))]) (fun (k, c, l) => k ≤ P.flows.length ∧ c = l.length ∧ c ≤ k ∧ l = ProcD.pick (fun i => P.src i == v) k) (fun (k, c, l) => P.flows.length - k) (0, 0, []) ?_
  ((conv=>whnf);repeat(refine⟨rfl,?_⟩;conv=>whnf))
  refine ⟨⟨by omega, rfl, by omega, rfl⟩, by (repeat' (first | exact trivial | refine And.intro rfl ?_)), rfl, ?_⟩
  rintro ⟨k, c, l⟩ ⟨hk, hc, hck, hl⟩
  ((conv=>whnf);repeat(refine⟨rfl,?_⟩;conv=>whnf))
  (apply rd_sound; focus (repeat' constructor))
  ((conv=>whnf);repeat(refine⟨rfl,?_⟩;conv=>whnf))
  rw [List.length_map]
  (refine ifK_split (fun h => ?_) (fun h => ?_) <;> (rw [h]; ((conv=>whnf);repeat(refine⟨rfl,?_⟩;conv=>whnf))))
  · have hk' : k < P.flows.length := by ((try simp only[oo,reduceCtorEq]at*)<;>omega)
    refine ⟨by omega, _, flow_at P (k := k) (by omega) hk', ?_⟩
    ((conv=>whnf);repeat(refine⟨rfl,?_⟩;conv=>whnf))
    (refine ifK_split (fun h2 => ?_) (fun h2 => ?_) <;> (rw [h2]; ((conv=>whnf);repeat(refine⟨rfl,?_⟩;conv=>whnf))))
    · refine ⟨(by unfold sliceAppend; simp only [ll]; omega), ?_⟩
      ((conv=>whnf);repeat(refine⟨rfl,?_⟩;conv=>whnf))
      (refine .inl ⟨by (unfold InR; rw [IntKind.wrap_i64]; omega), ?_⟩; ((conv=>whnf);repeat(refine⟨rfl,?_⟩;conv=>whnf)))
      refine ⟨(k + 1, c + 1, l ++ [(k : Int)]), ⟨by omega, by simp [hc], by omega, by rw [hl]; simp [ProcD.pick, h2]⟩, by dsimp only; omega, ?_⟩
      (refine leB_close 2 (by simp) rfl ?_ ?_ <;> (repeat' (first | exact trivial | exact rfl | exact DeepM.refl _ | exact DeepML.refl _ | exact DeepMLL.refl _ | refine And.intro ?_ ?_ | (simp [Under, UnderL, UnderLL, -List.map_take, -List.map_drop]; done))))
      exact deepMLL_eq (i64s_snoc hc)
    · (refine .inl ⟨by (unfold InR; rw [IntKind.wrap_i64]; omega), ?_⟩; ((conv=>whnf);repeat(refine⟨rfl,?_⟩;conv=>whnf)))
      refine ⟨(k + 1, c, l), ⟨by omega, hc, by omega, by rw [hl]; simp [ProcD.pick, h2]⟩, by dsimp only; omega, ?_⟩
      (refine leB_close 2 (by simp) rfl ?_ ?_ <;> (repeat' (first | exact trivial | exact rfl | exact DeepM.refl _ | exact DeepML.refl _ | exact DeepMLL.refl _ | refine And.intro ?_ ?_ | (simp [Under, UnderL, UnderLL, -List.map_take, -List.map_drop]; done))))
  · have hk' : k = P.flows.length := by have : ¬ k < P.flows.length := by ((try simp only[oo,reduceCtorEq]at*)<;>omega)
                                        omega
    subst hk'
    subst hl
    exact deep_ints hc rfl
def c29 : PC := .seq (.ops [q 6 (.move (.const (.bool false)))] false) (.seq (.seq (.ops [qm 7 0] false) (.block 0 (.seq (.block 5 (.seq (.block 4 (.seq (.block 3 (.seq (.block 2 (.seq (.block 1 (.seq (.seq (.seq (.ops [q 9 (.bin .eql (.tmp 7) (.const (.int .i64 1))),qm 8 9] false) (.cond (.tmp 8) (.exit 1) (.skip))) (.seq (.seq (.seq (.ops [q 11 (.bin .eql (.tmp 7) (.const (.int .i64 2))),qm 10 11] false) (.cond (.tmp 10) (.skip) (.ops [q 12 (.bin .eql (.tmp 7) (.const (.int .i64 3))),qm 10 12] false))) (.cond (.tmp 10) (.exit 2) (.skip))) (.seq (.seq (.ops [q 14 (.bin .eql (.tmp 7) (.const (.int .i64 4))),qm 13 14] false) (.cond (.tmp 13) (.exit 3) (.skip))) (.seq (.seq (.ops [q 16 (.bin .eql (.tmp 7) (.const (.int .i64 7))),qm 15 16] false) (.cond (.tmp 15) (.exit 4) (.skip))) (.seq (.seq (.ops [q 18 (.bin .eql (.tmp 7) (.const (.int .i64 5))),qm 17 18] false) (.cond (.tmp 17) (.skip) (.ops [q 19 (.bin .eql (.tmp 7) (.const (.int .i64 6))),qm 17 19] false))) (.cond (.tmp 17) (.exit 5) (.skip))))))) (.exit 0))) (.seq (.seq (.ops [qm 20 1,q 21 (.bin .eql (.tmp 20) (.const (.int .i64 0))),qm 22 21,⟨some 23,.move (.tmp 2),some (22,true),0⟩,⟨some 24,.bin .eql (.tmp 23) (.const (.int .i64 1)),some (22,true),0⟩,q 25 (.pick (.tmp 22) (.tmp 24) (.const (.bool false))),qm 6 25] false) (.ret)) (.exit 0)))) (.seq (.seq (.ops [qm 26 1,q 27 (.bin .gtr (.tmp 26) (.const (.int .i64 0))),qm 28 27,⟨some 29,.move (.tmp 2),some (28,true),0⟩,⟨some 30,.bin .eql (.tmp 29) (.const (.int .i64 0)),some (28,true),0⟩,q 31 (.pick (.tmp 28) (.tmp 30) (.const (.bool false))),qm 6 31] false) (.ret)) (.exit 0)))) (.seq (.seq (.ops [qm 32 1,q 33 (.bin .gtr (.tmp 32) (.const (.int .i64 0))),qm 34 33,⟨some 35,.move (.tmp 2),some (34,true),0⟩,⟨some 36,.bin .eql (.tmp 35) (.const (.int .i64 1)),some (34,true),0⟩,q 37 (.pick (.tmp 34) (.tmp 36) (.const (.bool false))),qm 6 37] false) (.ret)) (.exit 0)))) (.seq (.ops [qm 38 2,q 39 (.bin .gtr (.tmp 38) (.const (.int .i64 4)))] false) (.cond (.tmp 39) (.seq (.ops [q 6 (.move (.const (.bool false)))] false) (.ret)) (.skip))))) (.seq (.seq (.ops [qm 40 1,q 41 (.bin .gtr (.tmp 40) (.const (.int .i64 0))),qm 42 41,⟨some 43,.move (.tmp 2),some (42,true),0⟩,⟨some 44,.bin .gtr (.tmp 43) (.const (.int .i64 0)),some (42,true),0⟩,q 45 (.pick (.tmp 42) (.tmp 44) (.const (.bool false))),qm 6 45] false) (.ret)) (.exit 0))))) (.seq (.ops [q 6 (.move (.const (.bool false)))] false) (.ret)))
set_option maxRecDepth 100000 in
theorem c29_ok : FunOK Tryd.prog 29 46 [.tmp 6] c29 := ⟨⟨Tryd.f29, Tryd.func29, rfl, by kernel_rfl, rfl, by kernel_rfl⟩⟩
theorem proc_counts (k i o : Int) : PCall Tryd.prog 29 [.sc (.int .i64 k), .sc (.int .i64 i), .sc (.int .i64 o)] (.sc (.bool (ProcD.countsB k i o))) := by
  refine pcall_intro c29_ok (by simp) (by simp [PureL, Pure]) ?_ (by simp [Pure])
  (apply rd_sound; focus (repeat' constructor))
  ((conv=>whnf);repeat(refine⟨rfl,?_⟩;conv=>whnf))
  repeat' (first | (refine ifK_split (fun h => ?_) (fun h => ?_) <;> (rw [h]; ((conv=>whnf);repeat(refine⟨rfl,?_⟩;conv=>whnf)))) | exact deep_eq (by unfold ProcD.countsB; simp_all; try omega))
def c37_1 : PC := .seq (.ops [q 9 (.bin .lss (.tmp 8) (.tmp 7))] false) (.seq (.cond (.tmp 9) (.skip) (.exit 0)) (.seq (.block 1 (.seq (.ops [qm 10 8,qm 5 10] false) (.seq (.ops [qm 11 1,qm 12 0,qm 13 5,q 14 (.iaddr 2 (.tmp 12) (.tmp 13)),q 15 (.loadA 2 (.tmp 14)),q 16 (.callv (.tmp 11) [(.tmp 15)])] false) (.cond (.tmp 16) (.seq (.ops [qm 17 5,qm 4 17] false) (.ret)) (.skip))))) (.ops [q 18 (.bin .add (.tmp 8) (.const (.int .i64 1))),qm 8 18] false)))
def c37 : PC := .seq (.ops [q 4 (.move (.const (.int .i64 0)))] false) (.seq (.seq (.ops [qm 6 0,q 7 (.len (.tmp 6)),q 8 (.move (.const (.int .i64 0)))] false) (.block 0 (.loop c37_1))) (.seq (.ops [q 4 (.move (.const (.int .i64 (-1))))] false) (.ret)))
set_option maxRecDepth 100000 in
theorem c37_ok : FunOK Tryd.prog 37 19 [.tmp 4] c37 := ⟨⟨Tryd.f37, Tryd.func37, rfl, by kernel_rfl, rfl, by kernel_rfl⟩⟩
def c39 : PC := .seq (.ops [q 4 (.move (.const (.bool false)))] false) (.seq (.ops [qm 5 0,qm 6 1,q 7 (.call 37 [(.tmp 5), (.tmp 6)]),q 8 (.bin .geq (.tmp 7) (.const (.int .i64 0))),qm 4 8] false) (.ret))
set_option maxRecDepth 100000 in
theorem c39_ok : FunOK Tryd.prog 39 9 [.tmp 4] c39 := ⟨⟨Tryd.f39, Tryd.func39, rfl, by kernel_rfl, rfl, by kernel_rfl⟩⟩
theorem indexF_node (l : List (ByteArray × Int)) (hl : l.length ≤ 9223372036854775807) (p : ByteArray × Int → Bool) (cl : FuncId) (cap : List D) (hp : PureL cap) (hc : ∀ a ∈ l, PCall Tryd.prog cl (.agg (nrow a) :: cap) (.sc (.bool (p a)))) :
    PCall Tryd.prog 37 [.lst 2 (l.map nrow), .fn (.func cl) [] cap] (.sc (.int .i64 (idxF p l))) := by
  refine pcall_intro c37_ok (by simp) (by simp [PureL, Pure, hp, pure_nrow]) ?_ (by simp [Pure])
  (apply rd_sound; focus (repeat' constructor))
  ((conv=>whnf);repeat(refine⟨rfl,?_⟩;conv=>whnf))
  rw [List.length_map]
  have fin : ∀ {z : Int}, z = idxF p l → Deep [] (.sc (.int .i64 z)) (.sc (.int .i64 (idxF p l))) := fun h => h ▸ .refl _
  refine pwp_for [0, 1, 7] (fun k : Nat => [(8, .sc (.int .i64 k))]) (fun _ => []) (fun k => k ≤ l.length ∧ ∀ j (hj : j < k) (hl : j < l.length), p l[j] = false) (fun k => l.length - k) 0 ?_
  ((conv=>whnf);repeat(refine⟨rfl,?_⟩;conv=>whnf))
  refine ⟨⟨by omega, fun j hj => by omega⟩, by (repeat' (first | exact trivial | refine And.intro rfl ?_)), rfl, ?_⟩
  rintro k ⟨hk, hno⟩
  ((conv=>whnf);repeat(refine⟨rfl,?_⟩;conv=>whnf))
  (apply rd_sound; focus (repeat' constructor))
  ((conv=>whnf);repeat(refine⟨rfl,?_⟩;conv=>whnf))
  (refine ifK_split (fun h => ?_) (fun h => ?_) <;> (rw [h]; ((conv=>whnf);repeat(refine⟨rfl,?_⟩;conv=>whnf))))
  · have hk' : k < l.length := by ((try simp only[oo,reduceCtorEq]at*)<;>omega)
    refine ⟨by omega, nrow l[k], by rw [List.getElem?_map, Int.toNat_natCast, List.getElem?_eq_getElem hk']; rfl, ?_⟩
    ((conv=>whnf);repeat(refine⟨rfl,?_⟩;conv=>whnf))
    (refine .inl ⟨_, (hc _ (List.getElem_mem hk')), ?_⟩; ((conv=>whnf);repeat(refine⟨rfl,?_⟩;conv=>whnf)))
    (refine ifK_split (fun h2 => ?_) (fun h2 => ?_) <;> (rw [h2]; ((conv=>whnf);repeat(refine⟨rfl,?_⟩;conv=>whnf))))
    · exact fin (idxF_hit hk' h2 fun j hj => hno j hj (by omega)).symm
    · (refine .inl ⟨by (unfold InR; rw [IntKind.wrap_i64]; omega), ?_⟩; ((conv=>whnf);repeat(refine⟨rfl,?_⟩;conv=>whnf)))
      refine ⟨k + 1, ⟨by omega, fun j hj hl => ?_⟩, by dsimp only; omega, leB_envH (by (repeat' (first | exact trivial | refine And.intro rfl ?_))) rfl⟩
      by_cases e : j = k
      · subst e; exact h2
      · exact hno j (by omega) hl
  · have hk' : ¬ k < l.length := by ((try simp only[oo,reduceCtorEq]at*)<;>omega)
    exact fin (idxF_none fun j hj => hno j (by omega) hj).symm
theorem containsF_node (l : List (ByteArray × Int)) (hl : l.length ≤ 9223372036854775807) (p : ByteArray × Int → Bool) (cl : FuncId) (cap : List D) (hp : PureL cap) (hc : ∀ a ∈ l, PCall Tryd.prog cl (.agg (nrow a) :: cap) (.sc (.bool (p a)))) :
    PCall Tryd.prog 39 [.lst 2 (l.map nrow), .fn (.func cl) [] cap] (.sc (.bool (l.any p))) := by
  refine pcall_intro c39_ok (by simp) (by simp [PureL, Pure, hp, pure_nrow]) ?_ (by simp [Pure])
  (apply rd_sound; focus (repeat' constructor))
  ((conv=>whnf);repeat(refine⟨rfl,?_⟩;conv=>whnf))
  (refine .inl ⟨_, (indexF_node l hl p cl cap hp hc), ?_⟩; ((conv=>whnf);repeat(refine⟨rfl,?_⟩;conv=>whnf)))
  rw [idxF_any]
  exact .refl _
theorem take_any (P : ProcD) (f : ByteArray → Bool) : ∀ i, i ≤ P.nodes.length → ((P.nodes.take i).any fun m => f m.1) = (List.range i).any fun k => f (P.name k)
  | 0, _ => rfl
  | i + 1, h => by
    rw [List.take_succ_eq_append_getElem (by omega), List.any_append, take_any P f i (by omega), List.range_succ, List.any_append]
    congr 1
    simp only [List.any_cons, List.any_nil, Bool.or_false]
    unfold ProcD.name
    rw [List.getD_eq_getElem?_getD, List.getElem?_eq_getElem (by omega)]
    rfl
def c40 : PC := .seq (.ops [q 2 (.box (.tmp 0)),q 3 (.move (.const (.bool false)))] false) (.seq (.ops [q 4 (.faddr 0 (.tmp 2)),q 5 (.load1 (.tmp 4)),q 6 (.faddr 0 (.tmp 1)),q 7 (.load1 (.tmp 6)),q 8 (.bin .eql (.tmp 5) (.tmp 7)),qm 3 8] false) (.ret))
set_option maxRecDepth 100000 in
theorem c40_ok : FunOK Tryd.prog 40 9 [.tmp 3] c40 := ⟨⟨Tryd.f40, Tryd.func40, rfl, by kernel_rfl, rfl, by kernel_rfl⟩⟩
def c28_1 : PC := .seq (.ops [q 9 (.bin .lss (.tmp 8) (.tmp 7))] false) (.seq (.cond (.tmp 9) (.skip) (.exit 0)) (.seq (.block 1 (.seq (.ops [qm 10 8,q 11 (.iaddr 2 (.tmp 6) (.tmp 8)),q 12 (.loadA 2 (.tmp 11)),q 4 (.alloc [(.string ⟨#[]⟩), (.int .i64 0)]),qm 3 10,qn (.store 2 (.tmp 4) (.tmp 12))] false) (.seq (.seq (.ops [q 13 (.faddr 0 (.tmp 4)),q 14 (.load1 (.tmp 13)),q 15 (.call 36 [(.tmp 14)]),q 16 (.un .not (.tmp 15)),qm 17 16,⟨some 18,.faddr 1 (.tmp 4),some (17,false),0⟩,⟨some 19,.load1 (.tmp 18),some (17,false),0⟩,⟨some 20,.bin .lss (.tmp 19) (.const (.int .i64 1)),some (17,false),0⟩,q 21 (.pick (.tmp 17) (.const (.bool true)) (.tmp 20)),qm 22 21,⟨some 23,.faddr 1 (.tmp 4),some (22,false),0⟩,⟨some 24,.load1 (.tmp 23),some (22,false),0⟩,⟨some 25,.bin .gtr (.tmp 24) (.const (.int .i64 7)),some (22,false),0⟩,q 26 (.pick (.tmp 22) (.const (.bool true)) (.tmp 25))] false) (.cond (.tmp 26) (.seq (.ops [q 2 (.move (.const (.int .i64 1)))] false) (.ret)) (.skip))) (.seq (.ops [q 27 (.faddr 0 (.tmp 1)),q 28 (.load1 (.tmp 27)),qm 29 3,q 30 (.slc 2 (.tmp 28) none (some (.tmp 29)) none),q 31 (.mkfn (.func 40) [] [(.tmp 4)]),q 32 (.call 39 [(.tmp 30), (.tmp 31)])] false) (.cond (.tmp 32) (.seq (.ops [q 2 (.move (.const (.int .i64 4)))] false) (.ret)) (.skip)))))) (.ops [q 33 (.bin .add (.tmp 8) (.const (.int .i64 1))),qm 8 33] false)))
def c28 : PC := .seq (.ops [q 1 (.box (.tmp 0)),q 2 (.move (.const (.int .i64 0)))] false) (.seq (.seq (.ops [q 5 (.faddr 0 (.tmp 1)),q 6 (.load1 (.tmp 5)),q 7 (.len (.tmp 6)),q 8 (.move (.const (.int .i64 0)))] false) (.block 0 (.loop c28_1))) (.seq (.ops [q 2 (.move (.const (.int .i64 0)))] false) (.ret)))
set_option maxRecDepth 100000 in
theorem c28_ok : FunOK Tryd.prog 28 34 [.tmp 2] c28 := ⟨⟨Tryd.f28, Tryd.func28, rfl, by kernel_rfl, rfl, by kernel_rfl⟩⟩
theorem proc_nodes1 (m n : ByteArray × Int) : PCall Tryd.prog 40 [.agg (nrow m), .ipt (nrow n)] (.sc (.bool (eqS m.1 n.1))) := by
  refine pcall_intro c40_ok (by simp) (by simp [PureL, Pure, pure_nrow]) ?_ (by simp [Pure])
  (apply rd_sound; focus (repeat' constructor))
  ((conv=>whnf);repeat(refine⟨rfl,?_⟩;conv=>whnf))
  exact .refl _
theorem proc_nodes (P : ProcD) (hP : P.Fits) : PCall Tryd.prog 28 [dproc P] (.sc (.int .i64 P.nodesE)) := by
  have b := hP.nodes
  refine pcall_intro c28_ok (by simp) (by simp [PureL, Pure, pure_dproc]) ?_ (by simp [Pure])
  (apply rd_sound; focus (repeat' constructor))
  ((conv=>whnf);repeat(refine⟨rfl,?_⟩;conv=>whnf))
  rw [List.length_map]
  have hit : ∀ {H : List AObj} {z : Int} (k : Nat), k < P.nodes.length → (∀ j, j < k → P.nodeE j = 0) → P.nodeE k = z → z ≠ 0 → Deep H (.sc (.int .i64 z)) (.sc (.int .i64 P.nodesE)) := fun k h1 h2 h3 h4 => by
    unfold ProcD.nodesE
    rw [ProcD.firstE_hit h1 h2 (by rw [h3]; exact h4), h3]
    exact .refl _
  refine pwp_for [1, 6, 7] (fun k : Nat => [(8, .sc (.int .i64 k))]) (fun _ => []) (fun k => k ≤ P.nodes.length ∧ ∀ j, j < k → P.nodeE j = 0) (fun k => P.nodes.length - k) 0 ?_
  ((conv=>whnf);repeat(refine⟨rfl,?_⟩;conv=>whnf))
  refine ⟨⟨by omega, fun j hj => by omega⟩, by (repeat' (first | exact trivial | refine And.intro rfl ?_)), rfl, ?_⟩
  rintro k ⟨hk, hall⟩
  ((conv=>whnf);repeat(refine⟨rfl,?_⟩;conv=>whnf))
  (apply rd_sound; focus (repeat' constructor))
  ((conv=>whnf);repeat(refine⟨rfl,?_⟩;conv=>whnf))
  (refine ifK_split (fun h => ?_) (fun h => ?_) <;> (rw [h]; ((conv=>whnf);repeat(refine⟨rfl,?_⟩;conv=>whnf))))
  · have hk' : k < P.nodes.length := by ((try simp only[oo,reduceCtorEq]at*)<;>omega)
    refine ⟨by omega, _, node_at P (k := k) (by omega) hk', ?_⟩
    ((conv=>whnf);repeat(refine⟨rfl,?_⟩;conv=>whnf))
    (refine .inl ⟨_, (proc_Named (P.name k) (hP.at hk')), ?_⟩; ((conv=>whnf);repeat(refine⟨rfl,?_⟩;conv=>whnf)))
    (refine ifK_split (fun h1 => ?_) (fun h1 => ?_) <;> (rw [h1]; ((conv=>whnf);repeat(refine⟨rfl,?_⟩;conv=>whnf))))
    · exact hit k hk' hall (by unfold ProcD.nodeE; rw [if_pos (.inl (by simpa using h1))]) (by decide)
    have h1 : namedB (P.name k) = true := by simpa using h1
    (refine ifK_split (fun h2 => ?_) (fun h2 => ?_) <;> (rw [h2]; ((conv=>whnf);repeat(refine⟨rfl,?_⟩;conv=>whnf))))
    · exact hit k hk' hall (by unfold ProcD.nodeE; rw [if_pos (.inr (.inl (by ((try simp only[oo,reduceCtorEq]at*)<;>omega))))]) (by decide)
    (refine ifK_split (fun h3 => ?_) (fun h3 => ?_) <;> (rw [h3]; ((conv=>whnf);repeat(refine⟨rfl,?_⟩;conv=>whnf))))
    · exact hit k hk' hall (by unfold ProcD.nodeE; rw [if_pos (.inr (.inr (by ((try simp only[oo,reduceCtorEq]at*)<;>omega))))]) (by decide)
    have c1 : ¬ (namedB (P.name k) = false ∨ P.kind k < 1 ∨ 7 < P.kind k) := by
      rintro (q | q | q)
      · rw [h1] at q; cases q
      · ((try simp only[oo,reduceCtorEq]at*)<;>omega)
      · ((try simp only[oo,reduceCtorEq]at*)<;>omega)
    refine ⟨by omega, by omega, by rw [List.length_map]; omega, ?_⟩
    ((conv=>whnf);repeat(refine⟨rfl,?_⟩;conv=>whnf))
    rw [List.drop_zero, Int.toNat_natCast, ← List.map_take]
    (refine .inr (.inl ⟨_, _, (by (repeat' (first | exact Deep.refl _ | exact Deep.none _ | exact deep_row _ | exact DeepL.nil | exact DeepLL.nil | refine Deep.agg _ _ ?_ | refine Deep.tup _ _ ?_ | refine Deep.own _ _ _ _ _ _ _ _ rfl ?_ | refine Deep.loc _ _ _ _ _ rfl ?_ | refine Deep.ifc _ _ _ ?_ | refine Deep.fn _ _ _ _ _ ?_ ?_ | refine DeepL.cons _ _ _ _ ?_ ?_ | refine DeepLL.cons _ _ _ _ ?_ ?_ | exact deepLL_refl _))), (containsF_node (P.nodes.take k) (by rw [List.length_take]; omega) (fun m => eqS m.1 (P.name k)) 40 [.ipt (nrow (P.name k, P.kind k))] (by simp [PureL, Pure, pure_nrow]) fun a _ => proc_nodes1 a _), rfl, ?_⟩); ((conv=>whnf);repeat(refine⟨rfl,?_⟩;conv=>whnf)))
    rw [take_any P (fun s => eqS s (P.name k)) k (by omega)]
    (refine ifK_split (fun h4 => ?_) (fun h4 => ?_) <;> (rw [h4]; ((conv=>whnf);repeat(refine⟨rfl,?_⟩;conv=>whnf))))
    · exact hit k hk' hall (by unfold ProcD.nodeE; rw [if_neg c1, if_pos h4]) (by decide)
    · (refine .inl ⟨by (unfold InR; rw [IntKind.wrap_i64]; omega), ?_⟩; ((conv=>whnf);repeat(refine⟨rfl,?_⟩;conv=>whnf)))
      refine ⟨k + 1, ⟨by omega, fun j hj => ?_⟩, by dsimp only; omega, ?_⟩
      · by_cases e : j = k
        · subst e; unfold ProcD.nodeE; rw [if_neg c1, if_neg (by rw [h4]; simp)]
        · exact hall j (by omega)
      · (refine leB_close 1 (by simp) rfl ?_ ?_ <;> (repeat' (first | exact trivial | exact rfl | exact DeepM.refl _ | exact DeepML.refl _ | exact DeepMLL.refl _ | refine And.intro ?_ ?_ | (simp [Under, UnderL, UnderLL, -List.map_take, -List.map_drop]; done))))
  · have hk' : k = P.nodes.length := by have : ¬ k < P.nodes.length := by ((try simp only[oo,reduceCtorEq]at*)<;>omega)
                                        omega
    subst hk'
    have e : P.nodesE = 0 := ProcD.firstE_zero.2 hall
    rw [e]
    exact .refl _
end

/-! ### XPr2 -/
section
open Go.RowKit
set_option linter.unusedSimpArgs false
set_option linter.unusedVariables false
def icell (n : Int) : List D := [.sc (.int .i64 n)]
theorem under_icell {m : Nat} (n : Int) : UnderL m (icell n) := by simp [icell, UnderL, Under]
theorem sumTo_const {f : Nat → Nat} {c : Nat} : ∀ n, (∀ j, j < n → f j ≤ c) → sumTo f n ≤ n * c
  | 0, _ => by simp [sumTo]
  | n + 1, h => by
    simp only [sumTo]
    have h1 := sumTo_const n fun j hj => h j (by omega)
    have h2 := h n (by omega)
    rw [Nat.add_mul]
    omega
theorem og_put2 {α : Type} {esz : Nat} {c : α → List D} {L : List (List α)} {T : List AObj} {a b : AObj} {K : List AObj → Prop} {i : Nat} {o : AObj} (l : List α) (h : i < L.length) (ho : o = .vec true l.length esz (l.map c)) (k : K (a :: b :: (ogObjs esz c (L.set i l) ++ T))) : hputK (a :: b :: (ogObjs esz c L ++ T)) (i + 2) o K := by
  subst ho
  rw [hputK_iff]
  refine ⟨by simp; omega, ?_⟩
  rw [List.set_cons_succ, List.set_cons_succ, List.set_append_left _ _ (by simpa using h), ogObjs_set]
  exact k
theorem graph_fine (P : ProcD) (h1 : P.nodes.length ≤ 20) (h2 : P.flows.length ≤ 30) (hf : ∀ i, i < P.flows.length → P.flowOK i = true) :
    chkG (P.graph P.flows.length) = 0 ∧ FitsG (P.graph P.flows.length) ∧ potG (P.graph P.flows.length) (fun _ => false) ≤ 600 := by
  have hl := P.graph_len P.flows.length
  have row : ∀ l ∈ P.graph P.flows.length, ∃ u, l = (P.graph P.flows.length).getD u [] := fun l hl => by
    obtain ⟨u, hu, rfl⟩ := List.mem_iff_getElem.1 hl
    exact ⟨u, by rw [List.getD_eq_getElem?_getD, List.getElem?_eq_getElem hu]; rfl⟩
  refine ⟨chkG_zero.2 ⟨by omega, fun l h => ?_⟩, ⟨by omega, fun l h => ?_⟩, ?_⟩
  · obtain ⟨u, rfl⟩ := row l h
    refine inB_of fun x hx => ?_
    obtain ⟨i, q1, _, q3⟩ := (ProcD.graph_mem hf).1 hx
    have := ProcD.flowOK_iff.1 (hf i q1)
    rw [hl]
    omega
  · obtain ⟨u, rfl⟩ := row l h
    have := (P.graph_row P.flows.length u).2
    omega
  · have := sumTo_const (f := fun v => if false = true then 0 else ((P.graph P.flows.length).getD v []).length) (c := 30) (P.graph P.flows.length).length fun j _ => by
      have := (P.graph_row P.flows.length j).2
      simp only [Bool.false_eq_true, if_false]
      omega
    unfold potG
    refine Nat.le_trans this ?_
    rw [hl]
    omega
theorem deep_gridV {H : List AObj} {id v n : Nat} {q : Bool} {L : List (List Int)} (h : H[id]? = some (.vec q v 1 (L.map fun l => [dints l]))) (hn : n = L.length) : Deep H (.own id v 0 n) (dgrid L) := by
  subst hn
  exact .own _ _ _ _ _ _ _ _ h (by rw [drop_take_all (by simp)]; exact deepLL_refl _)
def c16_1 : PC := .seq (.ops [q 38 (.bin .lss (.tmp 37) (.tmp 36))] false) (.seq (.cond (.tmp 38) (.skip) (.exit 0)) (.seq (.block 1 (.seq (.ops [q 39 (.iaddr 2 (.tmp 35) (.tmp 37)),q 40 (.loadA 2 (.tmp 39)),q 6 (.alloc [(.int .i64 0), (.int .i64 0)]),qn (.store 2 (.tmp 6) (.tmp 40))] false) (.seq (.seq (.ops [q 41 (.faddr 0 (.tmp 6)),q 42 (.load1 (.tmp 41)),q 43 (.bin .lss (.tmp 42) (.const (.int .i64 0))),qm 44 43,⟨some 45,.faddr 0 (.tmp 6),some (44,false),0⟩,⟨some 46,.load1 (.tmp 45),some (44,false),0⟩,⟨some 47,.move (.tmp 4),some (44,false),0⟩,⟨some 48,.len (.tmp 47),some (44,false),0⟩,⟨some 49,.bin .geq (.tmp 46) (.tmp 48),some (44,false),0⟩,q 50 (.pick (.tmp 44) (.const (.bool true)) (.tmp 49)),qm 51 50,⟨some 52,.faddr 1 (.tmp 6),some (51,false),0⟩,⟨some 53,.load1 (.tmp 52),some (51,false),0⟩,⟨some 54,.bin .lss (.tmp 53) (.const (.int .i64 0)),some (51,false),0⟩,q 55 (.pick (.tmp 51) (.const (.bool true)) (.tmp 54)),qm 56 55,⟨some 57,.faddr 1 (.tmp 6),some (56,false),0⟩,⟨some 58,.load1 (.tmp 57),some (56,false),0⟩,⟨some 59,.move (.tmp 4),some (56,false),0⟩,⟨some 60,.len (.tmp 59),some (56,false),0⟩,⟨some 61,.bin .geq (.tmp 58) (.tmp 60),some (56,false),0⟩,q 62 (.pick (.tmp 56) (.const (.bool true)) (.tmp 61))] false) (.cond (.tmp 62) (.seq (.ops [q 2 (.move (.const (.int .i64 1)))] false) (.ret)) (.skip))) (.ops [qm 63 4,q 64 (.faddr 0 (.tmp 6)),qd 65 (.load1 (.tmp 64)) 2,qm 66 4,q 67 (.faddr 0 (.tmp 6)),qd 68 (.load1 (.tmp 67)) 16,qd 69 (.iaddr 1 (.tmp 66) (.tmp 68)) 56,qd 70 (.load1 (.tmp 69)) 120,q 71 (.faddr 1 (.tmp 6)),qd 72 (.load1 (.tmp 71)) 256,qd 73 (.bslice 1 1 [(.tmp 72)]) 768,qd 74 (.append 1 8 (.tmp 70) (.tmp 73)) 2040,qd 75 (.iaddr 1 (.tmp 63) (.tmp 65)) 4095,qk (.store 1 (.tmp 75) (.tmp 74)) 8191] true)))) (.ops [q 76 (.bin .add (.tmp 37) (.const (.int .i64 1))),qm 37 76] false)))
def c16_2 : PC := .seq (.ops [q 81 (.bin .lss (.tmp 80) (.tmp 79))] false) (.seq (.cond (.tmp 81) (.skip) (.exit 2)) (.seq (.block 3 (.seq (.ops [qm 82 80,q 83 (.iaddr 2 (.tmp 78) (.tmp 80)),q 84 (.loadA 2 (.tmp 83)),q 10 (.alloc [(.string ⟨#[]⟩), (.int .i64 0)]),qm 9 82,qn (.store 2 (.tmp 10) (.tmp 84))] false) (.seq (.ops [q 85 (.faddr 1 (.tmp 10)),q 86 (.load1 (.tmp 85)),q 87 (.bin .eql (.tmp 86) (.const (.int .i64 1)))] false) (.cond (.tmp 87) (.seq (.ops [qm 88 9,qm 7 88] false) (.ops [qm 89 8,q 90 (.bin .add (.tmp 89) (.const (.int .i64 1))),qm 8 90] false)) (.skip))))) (.ops [q 91 (.bin .add (.tmp 80) (.const (.int .i64 1))),qm 80 91] false)))
def c16_3 : PC := .seq (.ops [q 98 (.bin .lss (.tmp 97) (.tmp 96))] false) (.seq (.cond (.tmp 98) (.skip) (.exit 4)) (.seq (.block 5 (.seq (.ops [qm 99 97,q 100 (.iaddr 2 (.tmp 95) (.tmp 97)),q 101 (.loadA 2 (.tmp 100)),q 12 (.alloc [(.string ⟨#[]⟩), (.int .i64 0)]),qm 11 99,qn (.store 2 (.tmp 12) (.tmp 101))] false) (.seq (.ops [q 102 (.faddr 1 (.tmp 12)),qd 103 (.load1 (.tmp 102)) 1,q 104 (.loadA 2 (.tmp 1)),qm 105 11,qd 106 (.call 30 [(.tmp 104), (.tmp 105)]) 12,qd 107 (.len (.tmp 106)) 28,q 108 (.loadA 2 (.tmp 1)),qm 109 11,qd 110 (.call 31 [(.tmp 108), (.tmp 109)]) 220,qd 111 (.len (.tmp 110)) 476,qd 112 (.call 29 [(.tmp 103), (.tmp 107), (.tmp 111)]) 1023,qd 113 (.un .not (.tmp 112)) 2047] true) (.cond (.tmp 113) (.seq (.ops [q 2 (.move (.const (.int .i64 1)))] false) (.ret)) (.skip))))) (.ops [q 114 (.bin .add (.tmp 97) (.const (.int .i64 1))),qm 97 114] false)))
def c16 : PC := .seq (.ops [q 1 (.box (.tmp 0)),q 2 (.move (.const (.int .i64 0)))] false) (.seq (.seq (.ops [q 15 (.faddr 0 (.tmp 1)),q 16 (.load1 (.tmp 15)),q 17 (.len (.tmp 16)),q 18 (.bin .gtr (.tmp 17) (.const (.int .i64 20))),qm 19 18,⟨some 20,.faddr 1 (.tmp 1),some (19,false),0⟩,⟨some 21,.load1 (.tmp 20),some (19,false),0⟩,⟨some 22,.len (.tmp 21),some (19,false),0⟩,⟨some 23,.bin .gtr (.tmp 22) (.const (.int .i64 30)),some (19,false),0⟩,q 24 (.pick (.tmp 19) (.const (.bool true)) (.tmp 23))] false) (.cond (.tmp 24) (.seq (.ops [q 2 (.move (.const (.int .i64 2)))] false) (.ret)) (.skip))) (.seq (.seq (.ops [q 25 (.loadA 2 (.tmp 1)),q 26 (.call 28 [(.tmp 25)]),qm 3 26] false) (.seq (.ops [qm 27 3,q 28 (.bin .neq (.tmp 27) (.const (.int .i64 0)))] false) (.cond (.tmp 28) (.seq (.ops [qm 29 3,qm 2 29] false) (.ret)) (.skip)))) (.seq (.ops [q 30 (.faddr 0 (.tmp 1)),q 31 (.load1 (.tmp 30)),q 32 (.len (.tmp 31)),q 33 (.mslice 1 24 [(.slice none 0 0)] (.tmp 32) (.tmp 32)),qm 4 33] false) (.seq (.seq (.ops [q 34 (.faddr 1 (.tmp 1)),q 35 (.load1 (.tmp 34)),q 36 (.len (.tmp 35)),q 37 (.move (.const (.int .i64 0)))] false) (.stop (.block 0 (.loop c16_1)))) (.seq (.ops [q 7 (.move (.const (.int .i64 (-1)))),q 8 (.move (.const (.int .i64 0)))] false) (.seq (.seq (.ops [q 77 (.faddr 0 (.tmp 1)),q 78 (.load1 (.tmp 77)),q 79 (.len (.tmp 78)),q 80 (.move (.const (.int .i64 0)))] false) (.block 2 (.loop c16_2))) (.seq (.seq (.ops [qm 92 8,q 93 (.bin .neq (.tmp 92) (.const (.int .i64 1)))] false) (.cond (.tmp 93) (.seq (.ops [q 2 (.move (.const (.int .i64 1)))] false) (.ret)) (.skip))) (.seq (.seq (.ops [q 94 (.faddr 0 (.tmp 1)),q 95 (.load1 (.tmp 94)),q 96 (.len (.tmp 95)),q 97 (.move (.const (.int .i64 0)))] false) (.block 4 (.loop c16_3))) (.seq (.seq (.ops [qm 116 4,qm 117 7,q 118 (.bslice 1 1 [(.tmp 117)]),q 119 (.call 32 [(.tmp 116), (.tmp 118)]),qm 115 119,q 120 (.ext 0 (.tmp 115)),q 121 (.ext 1 (.tmp 115)),qm 13 120,qm 14 121] false) (.seq (.ops [qm 122 13,q 123 (.call 14 [(.tmp 122), (.const (.bool false))])] false) (.cond (.tmp 123) (.seq (.ops [q 2 (.move (.const (.int .i64 6)))] false) (.ret)) (.skip)))) (.seq (.ops [q 2 (.move (.const (.int .i64 0)))] false) (.ret)))))))))))
set_option maxRecDepth 100000 in
theorem c16_ok : FunOK Tryd.prog 16 124 [.tmp 2] c16 := ⟨⟨Tryd.f16, Tryd.func16, rfl, by kernel_rfl, rfl, by kernel_rfl⟩⟩
set_option maxRecDepth 100000 in
theorem proc_Check (P : ProcD) (hP : P.Fits) : PCall Tryd.prog 16 [dproc P] (.sc (.int .i64 P.chk)) := by
  have b1 := hP.nodes
  have b2 := hP.flows
  refine pcall_intro c16_ok (by simp) (by simp [PureL, Pure, pure_dproc]) ?_ (by simp [Pure])
  (apply rd_sound; focus (repeat' constructor))
  ((conv=>whnf);repeat(refine⟨rfl,?_⟩;conv=>whnf))
  rw [List.length_map]
  have fin : ∀ {H : List AObj} {z : Int}, z = P.chk → Deep H (.sc (.int .i64 z)) (.sc (.int .i64 P.chk)) := fun h => h ▸ .refl _
  (refine ifK_split (fun h1 => ?_) (fun h1 => ?_) <;> (rw [h1]; ((conv=>whnf);repeat(refine⟨rfl,?_⟩;conv=>whnf))))
  · exact fin (by unfold ProcD.chk; rw [if_pos (.inl (by ((try simp only[oo,reduceCtorEq]at*)<;>omega)))])
  rw [List.length_map]
  (refine ifK_split (fun h2 => ?_) (fun h2 => ?_) <;> (rw [h2]; ((conv=>whnf);repeat(refine⟨rfl,?_⟩;conv=>whnf))))
  · exact fin (by unfold ProcD.chk; rw [if_pos (.inr (by ((try simp only[oo,reduceCtorEq]at*)<;>omega)))])
  have c1 : ¬ (20 < P.nodes.length ∨ 30 < P.flows.length) := by ((try simp only[oo,reduceCtorEq]at*)<;>omega)
  (refine .inl ⟨_, (proc_nodes P hP), ?_⟩; ((conv=>whnf);repeat(refine⟨rfl,?_⟩;conv=>whnf)))
  (refine ifK_split (fun h3 => ?_) (fun h3 => ?_) <;> (rw [h3]; ((conv=>whnf);repeat(refine⟨rfl,?_⟩;conv=>whnf))))
  · have h3 : P.nodesE ≠ 0 := by ((try simp only[oo,reduceCtorEq]at*)<;>omega)
    exact fin (by unfold ProcD.chk; rw [if_neg c1, if_pos h3])
  have c2 : ¬ P.nodesE ≠ 0 := by ((try simp only[oo,reduceCtorEq]at*)<;>omega)
  rw [List.length_map]
  refine ⟨by omega, by omega, by omega, ?_⟩
  rw [Int.toNat_natCast]
  ((conv=>whnf);repeat(refine⟨rfl,?_⟩;conv=>whnf))
  rw [List.length_map]
  refine pwp_cut (fun _ : Unit => [(1, .loc 0 0), (4, .own 1 0 0 P.nodes.length)]) (fun _ => [.row true P.cells, .vec true 0 1 ((P.graph P.flows.length).map fun l => [dints l])]) (fun _ => ∀ i, i < P.flows.length → P.flowOK i = true) ?_ ?_
  · (apply rd_sound; focus (repeat' constructor))
    ((conv=>whnf);repeat(refine⟨rfl,?_⟩;conv=>whnf))
    refine pwp_ghostB (leB_nils 1 1 P.nodes.length 0 (by simp) rfl) ?_
    refine pwp_forH [1, 4, 35, 36] (fun k : Nat => [(37, .sc (.int .i64 k))]) (fun k => .row true P.cells :: .vec true 0 1 (ogRows 2 (P.graph k)) :: ogObjs 1 icell (P.graph k)) (fun k => k ≤ P.flows.length ∧ ∀ i, i < k → P.flowOK i = true) (fun k => P.flows.length - k) 0 ?_
    ((conv=>whnf);repeat(refine⟨rfl,?_⟩;conv=>whnf))
    refine ⟨⟨by omega, fun i hi => by omega⟩, by (repeat' (first | exact trivial | refine And.intro rfl ?_)), ?_, ?_⟩
    · show _ :: _ :: _ = _ :: _ :: _
      rw [ogObjs_nils 1 _ icell]
      exact congrArg (fun x => AObj.row true P.cells :: AObj.vec true 0 1 x :: _) (ogRows_nils (α := Int) 2 _)
    rintro k ⟨hk, hall⟩
    have hgl := P.graph_len k
    ((conv=>whnf);repeat(refine⟨rfl,?_⟩;conv=>whnf))
    (apply rd_sound; focus (repeat' constructor))
    ((conv=>whnf);repeat(refine⟨rfl,?_⟩;conv=>whnf))
    (refine ifK_split (fun h => ?_) (fun h => ?_) <;> (rw [h]; ((conv=>whnf);repeat(refine⟨rfl,?_⟩;conv=>whnf))))
    · have hk' : k < P.flows.length := by ((try simp only[oo,reduceCtorEq]at*)<;>omega)
      refine ⟨by omega, _, flow_at P (k := k) (by omega) hk', ?_⟩
      ((conv=>whnf);repeat(refine⟨rfl,?_⟩;conv=>whnf))
      refine og_push ?_
      ((conv=>whnf);repeat(refine⟨rfl,?_⟩;conv=>whnf))
      (repeat (first | (refine og_getE 0 rfl ?_; ((conv=>whnf);repeat(refine⟨rfl,?_⟩;conv=>whnf))) | (refine og_putE 0 rfl ?_; ((conv=>whnf);repeat(refine⟨rfl,?_⟩;conv=>whnf))) | (refine og_getE 1 rfl ?_; ((conv=>whnf);repeat(refine⟨rfl,?_⟩;conv=>whnf))) | (refine og_putE 1 rfl ?_; ((conv=>whnf);repeat(refine⟨rfl,?_⟩;conv=>whnf)))))
      have bad : ∀ {H : List AObj}, P.flowOK k = false → Deep H (.sc (.int .i64 1)) (.sc (.int .i64 P.chk)) := fun h => fin (by
        unfold ProcD.chk
        rw [if_neg c1, if_neg c2, if_pos]
        intro q
        rw [q k hk'] at h; cases h)
      have nok : ¬ (0 ≤ P.src k ∧ P.src k < P.nodes.length ∧ 0 ≤ P.dst k ∧ P.dst k < P.nodes.length) → P.flowOK k = false := fun h => by rw [← Bool.not_eq_true, ProcD.flowOK_iff]; exact h
      (refine ifK_split (fun h4 => ?_) (fun h4 => ?_) <;> (rw [h4]; ((conv=>whnf);repeat(refine⟨rfl,?_⟩;conv=>whnf))))
      · exact bad (nok (by ((try simp only[oo,reduceCtorEq]at*)<;>omega)))
      (repeat (first | (refine og_getE 0 rfl ?_; ((conv=>whnf);repeat(refine⟨rfl,?_⟩;conv=>whnf))) | (refine og_putE 0 rfl ?_; ((conv=>whnf);repeat(refine⟨rfl,?_⟩;conv=>whnf))) | (refine og_getE 1 rfl ?_; ((conv=>whnf);repeat(refine⟨rfl,?_⟩;conv=>whnf))) | (refine og_putE 1 rfl ?_; ((conv=>whnf);repeat(refine⟨rfl,?_⟩;conv=>whnf)))))
      (refine ifK_split (fun h5 => ?_) (fun h5 => ?_) <;> (rw [h5]; ((conv=>whnf);repeat(refine⟨rfl,?_⟩;conv=>whnf))))
      · exact bad (nok (by ((try simp only[oo,reduceCtorEq]at*)<;>omega)))
      (repeat (first | (refine og_getE 0 rfl ?_; ((conv=>whnf);repeat(refine⟨rfl,?_⟩;conv=>whnf))) | (refine og_putE 0 rfl ?_; ((conv=>whnf);repeat(refine⟨rfl,?_⟩;conv=>whnf))) | (refine og_getE 1 rfl ?_; ((conv=>whnf);repeat(refine⟨rfl,?_⟩;conv=>whnf))) | (refine og_putE 1 rfl ?_; ((conv=>whnf);repeat(refine⟨rfl,?_⟩;conv=>whnf)))))
      (refine ifK_split (fun h6 => ?_) (fun h6 => ?_) <;> (rw [h6]; ((conv=>whnf);repeat(refine⟨rfl,?_⟩;conv=>whnf))))
      · exact bad (nok (by ((try simp only[oo,reduceCtorEq]at*)<;>omega)))
      (repeat (first | (refine og_getE 0 rfl ?_; ((conv=>whnf);repeat(refine⟨rfl,?_⟩;conv=>whnf))) | (refine og_putE 0 rfl ?_; ((conv=>whnf);repeat(refine⟨rfl,?_⟩;conv=>whnf))) | (refine og_getE 1 rfl ?_; ((conv=>whnf);repeat(refine⟨rfl,?_⟩;conv=>whnf))) | (refine og_putE 1 rfl ?_; ((conv=>whnf);repeat(refine⟨rfl,?_⟩;conv=>whnf)))))
      (refine ifK_split (fun h7 => ?_) (fun h7 => ?_) <;> (rw [h7]; ((conv=>whnf);repeat(refine⟨rfl,?_⟩;conv=>whnf))))
      · exact bad (nok (by ((try simp only[oo,reduceCtorEq]at*)<;>omega)))
      have hok : P.flowOK k = true := ProcD.flowOK_iff.2 (by ((try simp only[oo,reduceCtorEq]at*)<;>omega))
      have ho := ProcD.flowOK_iff.1 hok
      have hrow := (P.graph_row k (P.src k).toNat).2
      (repeat (first | (refine og_getE 0 rfl ?_; ((conv=>whnf);repeat(refine⟨rfl,?_⟩;conv=>whnf))) | (refine og_putE 0 rfl ?_; ((conv=>whnf);repeat(refine⟨rfl,?_⟩;conv=>whnf))) | (refine og_getE 1 rfl ?_; ((conv=>whnf);repeat(refine⟨rfl,?_⟩;conv=>whnf))) | (refine og_putE 1 rfl ?_; ((conv=>whnf);repeat(refine⟨rfl,?_⟩;conv=>whnf)))))
      (refine ⟨by omega, (by first | omega | (simp; done) | (simp; omega) | (simp only [ll]; omega)), ?_⟩; ((conv=>whnf);repeat(refine⟨rfl,?_⟩;conv=>whnf)))
      refine ⟨_, ogRows_at (i := (P.src k).toNat) (by omega) (by omega), ?_⟩
      ((conv=>whnf);repeat(refine⟨rfl,?_⟩;conv=>whnf))
      (repeat (first | (refine og_getE 0 rfl ?_; ((conv=>whnf);repeat(refine⟨rfl,?_⟩;conv=>whnf))) | (refine og_putE 0 rfl ?_; ((conv=>whnf);repeat(refine⟨rfl,?_⟩;conv=>whnf))) | (refine og_getE 1 rfl ?_; ((conv=>whnf);repeat(refine⟨rfl,?_⟩;conv=>whnf))) | (refine og_putE 1 rfl ?_; ((conv=>whnf);repeat(refine⟨rfl,?_⟩;conv=>whnf)))))
      refine og_pushT ?_
      ((conv=>whnf);repeat(refine⟨rfl,?_⟩;conv=>whnf))
      (repeat (first | (refine og_getE 0 rfl ?_; ((conv=>whnf);repeat(refine⟨rfl,?_⟩;conv=>whnf))) | (refine og_putE 0 rfl ?_; ((conv=>whnf);repeat(refine⟨rfl,?_⟩;conv=>whnf))) | (refine og_getE 1 rfl ?_; ((conv=>whnf);repeat(refine⟨rfl,?_⟩;conv=>whnf))) | (refine og_putE 1 rfl ?_; ((conv=>whnf);repeat(refine⟨rfl,?_⟩;conv=>whnf)))))
      refine og_getT (by omega) ?_
      ((conv=>whnf);repeat(refine⟨rfl,?_⟩;conv=>whnf))
      refine ⟨by unfold sliceAppend; simp only [List.length_drop, List.length_take, List.length_cons, List.length_nil]; omega, ?_⟩
      refine og_put2 (((P.graph k).getD (P.src k).toNat []) ++ [P.dst k]) (by omega) ?_ ?_
      · exact og_app
      ((conv=>whnf);repeat(refine⟨rfl,?_⟩;conv=>whnf))
      (refine ⟨by omega, (by first | omega | (simp; done) | (simp; omega) | (simp only [ll]; omega)), ?_⟩; ((conv=>whnf);repeat(refine⟨rfl,?_⟩;conv=>whnf)))
      refine ⟨_, ogRows_at (i := (P.src k).toNat) (by omega) (by omega), ?_⟩
      ((conv=>whnf);repeat(refine⟨rfl,?_⟩;conv=>whnf))
      have hne : (P.src k).toNat ≠ (P.graph k).length := by omega
      (refine mem_ok (by dsimp only [q, qm, qw, qd, qn, qk]; simp [memOK, traceOK, clash, meets_cons, meets_nil, memb_cons, memb_nil, bitOf, matchB, hne]) ?_; ((conv=>whnf);repeat(refine⟨rfl,?_⟩;conv=>whnf)))
      (refine .inl ⟨by (unfold InR; rw [IntKind.wrap_i64]; omega), ?_⟩; ((conv=>whnf);repeat(refine⟨rfl,?_⟩;conv=>whnf)))
      refine ⟨k + 1, ⟨by omega, fun i hi => ?_⟩, by dsimp only; omega, ?_⟩
      · by_cases e : i = k
        · subst e; exact hok
        · exact hall i (by omega)
      refine leB_close (P.nodes.length + 2) (by simp) (by simp [hgl, ProcD.graph_len]) (by (repeat' (first | exact trivial | exact rfl | exact DeepM.refl _ | exact DeepML.refl _ | exact DeepMLL.refl _ | refine And.intro ?_ ?_ | (simp [Under, UnderL, UnderLL, -List.map_take, -List.map_drop]; done)))) ⟨⟨rfl, .refl _, by simp⟩, ⟨rfl, rfl, rfl, deepMLL_eq ?_, underLL_ogRows (by rw [ProcD.graph_len]; omega)⟩, closeH_og under_icell⟩
      exact ogRows_set (by omega) (by omega) _ (by simp)
    have hkn : k = P.flows.length := by have : ¬ k < P.flows.length := by ((try simp only[oo,reduceCtorEq]at*)<;>omega)
                                        omega
    subst hkn
    refine ⟨(), hall, leB_close 2 (by simp) rfl (by (repeat' (first | exact trivial | exact rfl | exact DeepM.refl _ | exact DeepML.refl _ | exact DeepMLL.refl _ | refine And.intro ?_ ?_ | (simp [Under, UnderL, UnderLL, -List.map_take, -List.map_drop]; done)))) ⟨⟨rfl, .refl _, by simp⟩, ⟨rfl, rfl, rfl, deepM_ogRows (c := icell) (fun i hi => by simp [fromN]) (fun i hi => ?_), by simp [UnderL]⟩, closeH_nil _⟩⟩
    show (ogObjs 1 icell (P.graph P.flows.length))[i]? = _
    exact ogObjs_at hi
  rintro _ hall
  ((conv=>whnf);repeat(refine⟨rfl,?_⟩;conv=>whnf))
  rw [List.length_map]
  have c3 : ¬ ¬ ∀ i, i < P.flows.length → P.flowOK i = true := fun q => q hall
  refine pwp_for [1, 4, 78, 79] (fun ((k, s, m) : Nat × Int × Int) => [(7, .sc (.int .i64 s)), (8, .sc (.int .i64 m)), (80, .sc (.int .i64 k))]) (fun _ => []) (fun (k, s, m) => k ≤ P.nodes.length ∧ s = P.startI k ∧ m = P.starts k) (fun (k, s, m) => P.nodes.length - k) (0, -1, 0) ?_
  ((conv=>whnf);repeat(refine⟨rfl,?_⟩;conv=>whnf))
  refine ⟨⟨by omega, rfl, rfl⟩, by (repeat' (first | exact trivial | refine And.intro rfl ?_)), rfl, ?_⟩
  rintro ⟨k, s, m⟩ ⟨hk, hs, hm⟩
  ((conv=>whnf);repeat(refine⟨rfl,?_⟩;conv=>whnf))
  (apply rd_sound; focus (repeat' constructor))
  ((conv=>whnf);repeat(refine⟨rfl,?_⟩;conv=>whnf))
  (refine ifK_split (fun h => ?_) (fun h => ?_) <;> (rw [h]; ((conv=>whnf);repeat(refine⟨rfl,?_⟩;conv=>whnf))))
  · have hk' : k < P.nodes.length := by ((try simp only[oo,reduceCtorEq]at*)<;>omega)
    have hle := P.starts_le k
    refine ⟨by omega, _, node_at P (k := k) (by omega) hk', ?_⟩
    ((conv=>whnf);repeat(refine⟨rfl,?_⟩;conv=>whnf))
    (refine ifK_split (fun h4 => ?_) (fun h4 => ?_) <;> (rw [h4]; ((conv=>whnf);repeat(refine⟨rfl,?_⟩;conv=>whnf))))
    · have h4 : P.kind k = 1 := by ((try simp only[oo,reduceCtorEq]at*)<;>omega)
      (refine .inl ⟨by (unfold InR; rw [IntKind.wrap_i64]; omega), ?_⟩; ((conv=>whnf);repeat(refine⟨rfl,?_⟩;conv=>whnf)))
      (refine .inl ⟨by (unfold InR; rw [IntKind.wrap_i64]; omega), ?_⟩; ((conv=>whnf);repeat(refine⟨rfl,?_⟩;conv=>whnf)))
      refine ⟨(k + 1, k, m + 1), ⟨by omega, by simp [ProcD.startI, h4], by simp [ProcD.starts, h4, hm]⟩, by dsimp only; omega, ?_⟩
      (refine leB_close 2 (by simp) rfl ?_ ?_ <;> (repeat' (first | exact trivial | exact rfl | exact DeepM.refl _ | exact DeepML.refl _ | exact DeepMLL.refl _ | refine And.intro ?_ ?_ | (simp [Under, UnderL, UnderLL, -List.map_take, -List.map_drop]; done))))
    · have h4 : P.kind k ≠ 1 := by ((try simp only[oo,reduceCtorEq]at*)<;>omega)
      (refine .inl ⟨by (unfold InR; rw [IntKind.wrap_i64]; omega), ?_⟩; ((conv=>whnf);repeat(refine⟨rfl,?_⟩;conv=>whnf)))
      refine ⟨(k + 1, s, m), ⟨by omega, by simp [ProcD.startI, h4, hs], by simp [ProcD.starts, h4, hm]⟩, by dsimp only; omega, ?_⟩
      (refine leB_close 2 (by simp) rfl ?_ ?_ <;> (repeat' (first | exact trivial | exact rfl | exact DeepM.refl _ | exact DeepML.refl _ | exact DeepMLL.refl _ | refine And.intro ?_ ?_ | (simp [Under, UnderL, UnderLL, -List.map_take, -List.map_drop]; done))))
  have hkn : k = P.nodes.length := by have : ¬ k < P.nodes.length := by ((try simp only[oo,reduceCtorEq]at*)<;>omega)
                                      omega
  subst hs hm
  subst hkn
  clear h hk
  (refine ifK_split (fun h4 => ?_) (fun h4 => ?_) <;> (rw [h4]; ((conv=>whnf);repeat(refine⟨rfl,?_⟩;conv=>whnf))))
  · have h4 : P.starts P.nodes.length ≠ 1 := by ((try simp only[oo,reduceCtorEq]at*)<;>omega)
    exact fin (by unfold ProcD.chk; rw [if_neg c1, if_neg c2, if_neg c3, if_pos h4])
  have h4 : P.starts P.nodes.length = 1 := by ((try simp only[oo,reduceCtorEq]at*)<;>omega)
  have hst := P.startI_pos P.nodes.length (by omega)
  have c4 : ¬ P.starts P.nodes.length ≠ 1 := fun q => q h4
  rw [List.length_map]
  refine pwp_for [1, 4, 7, 95, 96] (fun k : Nat => [(97, .sc (.int .i64 k))]) (fun _ => []) (fun k => k ≤ P.nodes.length ∧ ∀ i, i < k → P.nodeOK i = true) (fun k => P.nodes.length - k) 0 ?_
  ((conv=>whnf);repeat(refine⟨rfl,?_⟩;conv=>whnf))
  refine ⟨⟨by omega, fun i hi => by omega⟩, by (repeat' (first | exact trivial | refine And.intro rfl ?_)), rfl, ?_⟩
  rintro k ⟨hk, hok⟩
  ((conv=>whnf);repeat(refine⟨rfl,?_⟩;conv=>whnf))
  (apply rd_sound; focus (repeat' constructor))
  ((conv=>whnf);repeat(refine⟨rfl,?_⟩;conv=>whnf))
  (refine ifK_split (fun h => ?_) (fun h => ?_) <;> (rw [h]; ((conv=>whnf);repeat(refine⟨rfl,?_⟩;conv=>whnf))))
  · have hk' : k < P.nodes.length := by ((try simp only[oo,reduceCtorEq]at*)<;>omega)
    refine ⟨by omega, _, node_at P (k := k) (by omega) hk', ?_⟩
    ((conv=>whnf);repeat(refine⟨rfl,?_⟩;conv=>whnf))
    (refine .inl ⟨_, (proc_ins P hP (by omega) k), ?_⟩; ((conv=>whnf);repeat(refine⟨rfl,?_⟩;conv=>whnf)))
    (refine .inl ⟨_, (proc_outs P hP (by omega) k), ?_⟩; ((conv=>whnf);repeat(refine⟨rfl,?_⟩;conv=>whnf)))
    rw [List.length_map, List.length_map]
    (refine .inl ⟨_, (proc_counts (P.kind k) (P.inL k).length (P.outL k).length), ?_⟩; ((conv=>whnf);repeat(refine⟨rfl,?_⟩;conv=>whnf)))
    (refine ifK_split (fun h5 => ?_) (fun h5 => ?_) <;> (rw [h5]; ((conv=>whnf);repeat(refine⟨rfl,?_⟩;conv=>whnf))))
    · exact fin (by
        unfold ProcD.chk
        rw [if_neg c1, if_neg c2, if_neg c3, if_neg c4, if_pos]
        intro q
        have := q k hk'
        unfold ProcD.nodeOK at this
        rw [this] at h5; cases h5)
    · (refine .inl ⟨by (unfold InR; rw [IntKind.wrap_i64]; omega), ?_⟩; ((conv=>whnf);repeat(refine⟨rfl,?_⟩;conv=>whnf)))
      refine ⟨k + 1, ⟨by omega, fun i hi => ?_⟩, by dsimp only; omega, ?_⟩
      · by_cases e : i = k
        · subst e; unfold ProcD.nodeOK; simpa using h5
        · exact hok i (by omega)
      (refine leB_close 2 (by simp) rfl ?_ ?_ <;> (repeat' (first | exact trivial | exact rfl | exact DeepM.refl _ | exact DeepML.refl _ | exact DeepMLL.refl _ | refine And.intro ?_ ?_ | (simp [Under, UnderL, UnderLL, -List.map_take, -List.map_drop]; done))))
  have hkn : k = P.nodes.length := by have : ¬ k < P.nodes.length := by ((try simp only[oo,reduceCtorEq]at*)<;>omega)
                                      omega
  subst hkn
  have c5 : ¬ ¬ ∀ i, i < P.nodes.length → P.nodeOK i = true := fun q => q hok
  obtain ⟨g1, g2, g3⟩ := graph_fine P (by omega) (by omega) hall
  have hlen := P.graph_len P.flows.length
  refine .inr (.inr (.inr (.inr (.inr (.inl ⟨rfl, _, _, .cons _ _ _ _ (deep_gridV rfl hlen.symm) (.cons _ _ _ _ (deep_ints (l := [P.startI P.nodes.length]) rfl rfl) .nil),
    scc_Reach (P.graph P.flows.length) g1 g2 [P.startI P.nodes.length] (inB_of fun x hx => by rw [List.mem_singleton] at hx; subst hx; omega) (by simp; omega), ?_⟩)))))
  ((conv=>whnf);repeat(refine⟨rfl,?_⟩;conv=>whnf))
  (refine .inl ⟨_, (contains_truth _ (rchB (P.graph P.flows.length) [P.startI P.nodes.length]) (by omega) false), ?_⟩; ((conv=>whnf);repeat(refine⟨rfl,?_⟩;conv=>whnf)))
  rw [hlen]
  (refine ifK_split (fun h6 => ?_) (fun h6 => ?_) <;> (rw [h6]; ((conv=>whnf);repeat(refine⟨rfl,?_⟩;conv=>whnf))))
  · obtain ⟨v, q1, q2⟩ := contains_truth_iff.1 h6
    exact fin (by
      unfold ProcD.chk
      rw [if_neg c1, if_neg c2, if_neg c3, if_neg c4, if_neg c5, if_pos]
      intro q
      rw [rchB_iff.2 (q v q1)] at q2; cases q2)
  · exact fin (by
      unfold ProcD.chk
      rw [if_neg c1, if_neg c2, if_neg c3, if_neg c4, if_neg c5, if_neg]
      intro q
      refine q fun v hv => ?_
      unfold ProcD.Come
      rw [← rchB_iff, ← Bool.not_eq_false]
      intro q2
      rw [contains_truth_iff.2 ⟨v, hv, q2⟩] at h6; cases h6)
end

/-! ### XPr3 -/
section
open Go.RowKit
set_option linter.unusedSimpArgs false
set_option linter.unusedVariables false
theorem inB_flow (P : ProcD) (i : Nat) : inB [P.src i, P.dst i] P.nodes.length = P.flowOK i := by
  unfold inB ProcD.flowOK
  simp only [List.all_cons, List.all_nil, Bool.and_true]
  rw [← Bool.and_assoc]
theorem nodeE_zero {P : ProcD} {i : Nat} (h : P.nodeE i = 0) : 1 ≤ P.kind i ∧ P.kind i ≤ 7 := by
  unfold ProcD.nodeE at h
  split at h
  · exact absurd h (by decide)
  · rename_i q
    omega
def FClosed (P : ProcD) (s : Nat → Bool) : Prop := ∀ i, i < P.flows.length → s (P.src i).toNat = true → s (P.dst i).toNat = true
theorem mark_same {s : Nat → Bool} {v : Nat} (h : s v = true) : mark s v = s := by
  funext i
  unfold mark
  split
  · rename_i e; subst e; exact h.symm
  · rfl
theorem fclosed_come {P : ProcD} (hf : ∀ i, i < P.flows.length → P.flowOK i = true) {s : Nat → Bool} (h0 : s (P.startI P.nodes.length).toNat = true) (hc : FClosed P s) (hs : ∀ v, s v = true → P.Come v) (v : Nat) : s v = rchB (P.graph P.flows.length) [P.startI P.nodes.length] v :=
  rchB_eq ⟨hs v, rch_closed (fun x hx => by rw [List.mem_singleton] at hx; subst hx; exact h0) (fun v hv x hx => by
    obtain ⟨i, q1, q2, q3⟩ := (ProcD.graph_mem hf).1 hx
    have := hc i q1 (by rw [q2]; exact hv)
    rwa [q3] at this) v⟩
def c4_2 : PC := .seq (.seq (.ops [qm 58 7,qm 59 6,q 60 (.bin .lss (.tmp 58) (.tmp 59))] false) (.cond (.tmp 60) (.skip) (.exit 2))) (.seq (.block 3 (.seq (.ops [q 63 (.faddr 0 (.tmp 1)),qd 64 (.load1 (.tmp 63)) 1,qm 65 7,qd 66 (.iaddr 2 (.tmp 64) (.tmp 65)) 7,qd 67 (.faddr 0 (.tmp 66)) 15,qd 68 (.load1 (.tmp 67)) 31,q 69 (.faddr 0 (.tmp 1)),qd 70 (.load1 (.tmp 69)) 64,qm 71 6,qd 72 (.iaddr 2 (.tmp 70) (.tmp 71)) 448,qd 73 (.faddr 0 (.tmp 72)) 960,qd 74 (.load1 (.tmp 73)) 1984,qd 75 (.bin .eql (.tmp 68) (.tmp 74)) 4095] true) (.cond (.tmp 75) (.seq (.ops [q 2 (.move (.const (.int .i64 4)))] false) (.ret)) (.skip)))) (.ops [qm 61 7,q 62 (.bin .add (.tmp 61) (.const (.int .i64 1))),qm 7 62] false))
def c4_1 : PC := .seq (.seq (.ops [qm 27 6,qm 28 3,q 29 (.bin .lss (.tmp 27) (.tmp 28))] false) (.cond (.tmp 29) (.skip) (.exit 0))) (.seq (.block 1 (.seq (.seq (.ops [q 32 (.faddr 0 (.tmp 1)),q 33 (.load1 (.tmp 32)),qm 34 6,q 35 (.iaddr 2 (.tmp 33) (.tmp 34)),q 36 (.faddr 0 (.tmp 35)),q 37 (.load1 (.tmp 36)),q 38 (.call 10 [(.tmp 37)]),q 39 (.un .not (.tmp 38)),qm 40 39,⟨some 41,.faddr 0 (.tmp 1),some (40,false),0⟩,⟨some 42,.load1 (.tmp 41),some (40,false),0⟩,⟨some 43,.move (.tmp 6),some (40,false),0⟩,⟨some 44,.iaddr 2 (.tmp 42) (.tmp 43),some (40,false),0⟩,⟨some 45,.faddr 1 (.tmp 44),some (40,false),0⟩,⟨some 46,.load1 (.tmp 45),some (40,false),0⟩,⟨some 47,.bin .lss (.tmp 46) (.const (.int .i64 1)),some (40,false),0⟩,q 48 (.pick (.tmp 40) (.const (.bool true)) (.tmp 47)),qm 49 48,⟨some 50,.faddr 0 (.tmp 1),some (49,false),0⟩,⟨some 51,.load1 (.tmp 50),some (49,false),0⟩,⟨some 52,.move (.tmp 6),some (49,false),0⟩,⟨some 53,.iaddr 2 (.tmp 51) (.tmp 52),some (49,false),0⟩,⟨some 54,.faddr 1 (.tmp 53),some (49,false),0⟩,⟨some 55,.load1 (.tmp 54),some (49,false),0⟩,⟨some 56,.bin .gtr (.tmp 55) (.const (.int .i64 7)),some (49,false),0⟩,q 57 (.pick (.tmp 49) (.const (.bool true)) (.tmp 56))] false) (.cond (.tmp 57) (.seq (.ops [q 2 (.move (.const (.int .i64 1)))] false) (.ret)) (.skip))) (.seq (.seq (.ops [q 7 (.move (.const (.int .i64 0)))] false) (.block 2 (.loop c4_2))) (.seq (.ops [q 76 (.faddr 0 (.tmp 1)),q 77 (.load1 (.tmp 76)),qm 78 6,q 79 (.iaddr 2 (.tmp 77) (.tmp 78)),q 80 (.faddr 1 (.tmp 79)),q 81 (.load1 (.tmp 80)),q 82 (.bin .eql (.tmp 81) (.const (.int .i64 1)))] false) (.cond (.tmp 82) (.seq (.ops [qm 83 6,qm 4 83] false) (.ops [qm 84 5,q 85 (.bin .add (.tmp 84) (.const (.int .i64 1))),qm 5 85] false)) (.skip)))))) (.ops [qm 30 6,q 31 (.bin .add (.tmp 30) (.const (.int .i64 1))),qm 6 31] false))
def c4_3 : PC := .seq (.seq (.ops [qm 86 8,q 87 (.faddr 1 (.tmp 1)),q 88 (.load1 (.tmp 87)),q 89 (.len (.tmp 88)),q 90 (.bin .lss (.tmp 86) (.tmp 89))] false) (.cond (.tmp 90) (.skip) (.exit 4))) (.seq (.block 5 (.seq (.ops [q 93 (.faddr 1 (.tmp 1)),qd 94 (.load1 (.tmp 93)) 1,qm 95 8,qd 96 (.iaddr 2 (.tmp 94) (.tmp 95)) 7,qd 97 (.faddr 0 (.tmp 96)) 15,qd 98 (.load1 (.tmp 97)) 31,q 99 (.faddr 1 (.tmp 1)),qd 100 (.load1 (.tmp 99)) 64,qm 101 8,qd 102 (.iaddr 2 (.tmp 100) (.tmp 101)) 448,qd 103 (.faddr 1 (.tmp 102)) 960,qd 104 (.load1 (.tmp 103)) 1984,qd 105 (.bslice 1 2 [(.tmp 98), (.tmp 104)]) 4095,qm 106 3,qd 107 (.call 11 [(.tmp 105), (.tmp 106)]) 16383,qd 108 (.un .not (.tmp 107)) 32767] true) (.cond (.tmp 108) (.seq (.ops [q 2 (.move (.const (.int .i64 1)))] false) (.ret)) (.skip)))) (.ops [qm 91 8,q 92 (.bin .add (.tmp 91) (.const (.int .i64 1))),qm 8 92] false))
def c4_4 : PC := .seq (.seq (.ops [qm 111 9,qm 112 3,q 113 (.bin .lss (.tmp 111) (.tmp 112))] false) (.cond (.tmp 113) (.skip) (.exit 6))) (.seq (.block 7 (.seq (.ops [q 116 (.loadA 2 (.tmp 1)),qm 117 9,qd 118 (.call 12 [(.tmp 116), (.tmp 117)]) 3,qd 119 (.len (.tmp 118)) 7,q 120 (.loadA 2 (.tmp 1)),qm 121 9,qd 122 (.call 13 [(.tmp 120), (.tmp 121)]) 55,qd 123 (.len (.tmp 122)) 119,qw 10 119 127,qw 11 123 511] true) (.seq (.ops [qm 124 10,q 125 (.bin .gtr (.tmp 124) (.const (.int .i64 0))),qm 126 125,⟨some 127,.move (.tmp 11),some (126,true),0⟩,⟨some 128,.bin .gtr (.tmp 127) (.const (.int .i64 0)),some (126,true),0⟩,q 129 (.pick (.tmp 126) (.tmp 128) (.const (.bool false))),qm 12 129] false) (.seq (.seq (.ops [q 130 (.faddr 0 (.tmp 1)),q 131 (.load1 (.tmp 130)),qm 132 9,q 133 (.iaddr 2 (.tmp 131) (.tmp 132)),q 134 (.faddr 1 (.tmp 133)),q 135 (.load1 (.tmp 134))] false) (.block 8 (.seq (.ops [q 137 (.bin .eql (.tmp 135) (.const (.int .i64 1))),qm 136 137] false) (.cond (.tmp 136) (.ops [qm 138 10,q 139 (.bin .eql (.tmp 138) (.const (.int .i64 0))),qm 140 139,⟨some 141,.move (.tmp 11),some (140,true),0⟩,⟨some 142,.bin .eql (.tmp 141) (.const (.int .i64 1)),some (140,true),0⟩,q 143 (.pick (.tmp 140) (.tmp 142) (.const (.bool false))),qm 12 143] false) (.seq (.seq (.ops [q 145 (.bin .eql (.tmp 135) (.const (.int .i64 2))),qm 144 145] false) (.cond (.tmp 144) (.skip) (.ops [q 146 (.bin .eql (.tmp 135) (.const (.int .i64 3))),qm 144 146] false))) (.cond (.tmp 144) (.ops [qm 147 10,q 148 (.bin .gtr (.tmp 147) (.const (.int .i64 0))),qm 149 148,⟨some 150,.move (.tmp 11),some (149,true),0⟩,⟨some 151,.bin .eql (.tmp 150) (.const (.int .i64 0)),some (149,true),0⟩,q 152 (.pick (.tmp 149) (.tmp 151) (.const (.bool false))),qm 12 152] false) (.seq (.ops [q 154 (.bin .eql (.tmp 135) (.const (.int .i64 4))),qm 153 154] false) (.cond (.tmp 153) (.ops [qm 155 10,q 156 (.bin .gtr (.tmp 155) (.const (.int .i64 0))),qm 157 156,⟨some 158,.move (.tmp 11),some (157,true),0⟩,⟨some 159,.bin .eql (.tmp 158) (.const (.int .i64 1)),some (157,true),0⟩,q 160 (.pick (.tmp 157) (.tmp 159) (.const (.bool false))),qm 12 160] false) (.seq (.ops [q 162 (.bin .eql (.tmp 135) (.const (.int .i64 7))),qm 161 162] false) (.cond (.tmp 161) (.ops [qm 163 10,q 164 (.bin .gtr (.tmp 163) (.const (.int .i64 0))),qm 165 164,⟨some 166,.move (.tmp 11),some (165,true),0⟩,⟨some 167,.bin .gtr (.tmp 166) (.const (.int .i64 0)),some (165,true),0⟩,q 168 (.pick (.tmp 165) (.tmp 167) (.const (.bool false))),qm 169 168,⟨some 170,.move (.tmp 11),some (169,true),0⟩,⟨some 171,.bin .leq (.tmp 170) (.const (.int .i64 4)),some (169,true),0⟩,q 172 (.pick (.tmp 169) (.tmp 171) (.const (.bool false))),qm 12 172] false) (.skip))))))))))) (.seq (.ops [qm 173 12,q 174 (.un .not (.tmp 173))] false) (.cond (.tmp 174) (.seq (.ops [q 2 (.move (.const (.int .i64 1)))] false) (.ret)) (.skip))))))) (.ops [qm 114 9,q 115 (.bin .add (.tmp 114) (.const (.int .i64 1))),qm 9 115] false))
def c4_6 : PC := .seq (.seq (.ops [qm 185 15,q 186 (.faddr 1 (.tmp 1)),q 187 (.load1 (.tmp 186)),q 188 (.len (.tmp 187)),q 189 (.bin .lss (.tmp 185) (.tmp 188))] false) (.cond (.tmp 189) (.skip) (.exit 11))) (.seq (.block 12 (.seq (.ops [qm 192 13,q 193 (.faddr 1 (.tmp 1)),q 194 (.load1 (.tmp 193)),qm 195 15,q 196 (.iaddr 2 (.tmp 194) (.tmp 195)),q 197 (.faddr 0 (.tmp 196)),q 198 (.load1 (.tmp 197)),q 199 (.iaddr 1 (.tmp 192) (.tmp 198)),q 200 (.load1 (.tmp 199))] false) (.cond (.tmp 200) (.ops [qm 201 13,q 202 (.faddr 1 (.tmp 1)),q 203 (.load1 (.tmp 202)),qm 204 15,q 205 (.iaddr 2 (.tmp 203) (.tmp 204)),q 206 (.faddr 1 (.tmp 205)),q 207 (.load1 (.tmp 206)),q 208 (.iaddr 1 (.tmp 201) (.tmp 207)),qn (.store 1 (.tmp 208) (.const (.bool true)))] false) (.skip)))) (.ops [qm 190 15,q 191 (.bin .add (.tmp 190) (.const (.int .i64 1))),qm 15 191] false))
def c4_5 : PC := .seq (.seq (.ops [qm 180 14,qm 181 3,q 182 (.bin .lss (.tmp 180) (.tmp 181))] false) (.cond (.tmp 182) (.skip) (.exit 9))) (.seq (.block 10 (.seq (.ops [q 15 (.move (.const (.int .i64 0)))] false) (.block 11 (.loop c4_6)))) (.ops [qm 183 14,q 184 (.bin .add (.tmp 183) (.const (.int .i64 1))),qm 14 184] false))
def c4 : PC := .seq (.ops [q 1 (.box (.tmp 0)),q 2 (.move (.const (.int .i64 0)))] false) (.seq (.ops [q 16 (.faddr 0 (.tmp 1)),q 17 (.load1 (.tmp 16)),q 18 (.len (.tmp 17)),qm 3 18] false) (.seq (.seq (.ops [qm 19 3,q 20 (.bin .gtr (.tmp 19) (.const (.int .i64 20))),qm 21 20,⟨some 22,.faddr 1 (.tmp 1),some (21,false),0⟩,⟨some 23,.load1 (.tmp 22),some (21,false),0⟩,⟨some 24,.len (.tmp 23),some (21,false),0⟩,⟨some 25,.bin .gtr (.tmp 24) (.const (.int .i64 30)),some (21,false),0⟩,q 26 (.pick (.tmp 21) (.const (.bool true)) (.tmp 25))] false) (.cond (.tmp 26) (.seq (.ops [q 2 (.move (.const (.int .i64 2)))] false) (.ret)) (.skip))) (.seq (.ops [q 4 (.move (.const (.int .i64 (-1))))] false) (.seq (.ops [q 5 (.move (.const (.int .i64 0)))] false) (.seq (.seq (.ops [q 6 (.move (.const (.int .i64 0)))] false) (.block 0 (.loop c4_1))) (.seq (.seq (.ops [q 8 (.move (.const (.int .i64 0)))] false) (.block 4 (.loop c4_3))) (.seq (.seq (.ops [qm 109 5,q 110 (.bin .neq (.tmp 109) (.const (.int .i64 1)))] false) (.cond (.tmp 110) (.seq (.ops [q 2 (.move (.const (.int .i64 1)))] false) (.ret)) (.skip))) (.seq (.seq (.ops [q 9 (.move (.const (.int .i64 0)))] false) (.block 6 (.loop c4_4))) (.seq (.ops [qm 175 3,q 176 (.mslice 1 1 [(.bool false)] (.tmp 175) (.tmp 175)),qm 13 176] false) (.seq (.ops [qm 177 13,qm 178 4,q 179 (.iaddr 1 (.tmp 177) (.tmp 178)),qn (.store 1 (.tmp 179) (.const (.bool true)))] false) (.seq (.seq (.ops [q 14 (.move (.const (.int .i64 0)))] false) (.block 9 (.loop c4_5))) (.seq (.seq (.ops [qm 209 13,q 210 (.call 14 [(.tmp 209), (.const (.bool false))])] false) (.cond (.tmp 210) (.seq (.ops [q 2 (.move (.const (.int .i64 6)))] false) (.ret)) (.skip))) (.seq (.ops [q 2 (.move (.const (.int .i64 0)))] false) (.ret))))))))))))))
set_option maxRecDepth 100000 in
theorem c4_ok : FunOK Tryd.prog 4 211 [.tmp 2] c4 := ⟨⟨Tryd.f4, Tryd.func4, rfl, by kernel_rfl, rfl, by kernel_rfl⟩⟩
set_option maxRecDepth 100000 in
theorem ref_Process (P : ProcD) (hP : P.Fits) : PCall Tryd.prog 4 [dproc P] (.sc (.int .i64 P.chk)) := by
  have b1 := hP.nodes
  have b2 := hP.flows
  refine pcall_intro c4_ok (by simp) (by simp [PureL, Pure, pure_dproc]) ?_ (by simp [Pure])
  (apply rd_sound; focus (repeat' constructor))
  ((conv=>whnf);repeat(refine⟨rfl,?_⟩;conv=>whnf))
  rw [List.length_map]
  have fin : ∀ {H : List AObj} {z : Int}, z = P.chk → Deep H (.sc (.int .i64 z)) (.sc (.int .i64 P.chk)) := fun h => h ▸ .refl _
  (refine ifK_split (fun h1 => ?_) (fun h1 => ?_) <;> (rw [h1]; ((conv=>whnf);repeat(refine⟨rfl,?_⟩;conv=>whnf))))
  · exact fin (by unfold ProcD.chk; rw [if_pos (.inl (by ((try simp only[oo,reduceCtorEq]at*)<;>omega)))])
  rw [List.length_map]
  (refine ifK_split (fun h2 => ?_) (fun h2 => ?_) <;> (rw [h2]; ((conv=>whnf);repeat(refine⟨rfl,?_⟩;conv=>whnf))))
  · exact fin (by unfold ProcD.chk; rw [if_pos (.inr (by ((try simp only[oo,reduceCtorEq]at*)<;>omega)))])
  have c1 : ¬ (20 < P.nodes.length ∨ 30 < P.flows.length) := by ((try simp only[oo,reduceCtorEq]at*)<;>omega)
  have hit : ∀ {H : List AObj} {z : Int} (k : Nat), k < P.nodes.length → (∀ j, j < k → P.nodeE j = 0) → P.nodeE k = z → z ≠ 0 → Deep H (.sc (.int .i64 z)) (.sc (.int .i64 P.chk)) := fun k h1 h2 h3 h4 => fin (by
    have e : P.nodesE = P.nodeE k := ProcD.firstE_hit h1 h2 (by rw [h3]; exact h4)
    unfold ProcD.chk
    rw [if_neg c1, if_pos (by rw [e, h3]; exact h4), e, h3])
  refine pwp_for [1, 3] (fun ((k, s, m) : Nat × Int × Int) => [(4, .sc (.int .i64 s)), (5, .sc (.int .i64 m)), (6, .sc (.int .i64 k))]) (fun _ => []) (fun (k, s, m) => k ≤ P.nodes.length ∧ s = P.startI k ∧ m = P.starts k ∧ ∀ j, j < k → P.nodeE j = 0) (fun (k, s, m) => P.nodes.length - k) (0, -1, 0) ?_
  ((conv=>whnf);repeat(refine⟨rfl,?_⟩;conv=>whnf))
  refine ⟨⟨by omega, rfl, rfl, fun j hj => by omega⟩, by (repeat' (first | exact trivial | refine And.intro rfl ?_)), rfl, ?_⟩
  rintro ⟨k, s, m⟩ ⟨hk, hs, hm, hall⟩
  ((conv=>whnf);repeat(refine⟨rfl,?_⟩;conv=>whnf))
  (apply rd_sound; focus (repeat' constructor))
  ((conv=>whnf);repeat(refine⟨rfl,?_⟩;conv=>whnf))
  (refine ifK_split (fun h => ?_) (fun h => ?_) <;> (rw [h]; ((conv=>whnf);repeat(refine⟨rfl,?_⟩;conv=>whnf))))
  · have hk' : k < P.nodes.length := by ((try simp only[oo,reduceCtorEq]at*)<;>omega)
    have hle := P.starts_le k
    refine ⟨by omega, _, node_at P (k := k) (by omega) hk', ?_⟩
    ((conv=>whnf);repeat(refine⟨rfl,?_⟩;conv=>whnf))
    (refine .inl ⟨_, (ref_Named (P.name k) (hP.at hk')), ?_⟩; ((conv=>whnf);repeat(refine⟨rfl,?_⟩;conv=>whnf)))
    (refine ifK_split (fun h3 => ?_) (fun h3 => ?_) <;> (rw [h3]; ((conv=>whnf);repeat(refine⟨rfl,?_⟩;conv=>whnf))))
    · exact hit k hk' hall (by unfold ProcD.nodeE; rw [if_pos (.inl (by simpa using h3))]) (by decide)
    have h3 : namedB (P.name k) = true := by simpa using h3
    refine ⟨by omega, _, node_at P (k := k) (by omega) hk', ?_⟩
    ((conv=>whnf);repeat(refine⟨rfl,?_⟩;conv=>whnf))
    (refine ifK_split (fun h4 => ?_) (fun h4 => ?_) <;> (rw [h4]; ((conv=>whnf);repeat(refine⟨rfl,?_⟩;conv=>whnf))))
    · exact hit k hk' hall (by unfold ProcD.nodeE; rw [if_pos (.inr (.inl (by ((try simp only[oo,reduceCtorEq]at*)<;>omega))))]) (by decide)
    refine ⟨by omega, _, node_at P (k := k) (by omega) hk', ?_⟩
    ((conv=>whnf);repeat(refine⟨rfl,?_⟩;conv=>whnf))
    (refine ifK_split (fun h5 => ?_) (fun h5 => ?_) <;> (rw [h5]; ((conv=>whnf);repeat(refine⟨rfl,?_⟩;conv=>whnf))))
    · exact hit k hk' hall (by unfold ProcD.nodeE; rw [if_pos (.inr (.inr (by ((try simp only[oo,reduceCtorEq]at*)<;>omega))))]) (by decide)
    have d1 : ¬ (namedB (P.name k) = false ∨ P.kind k < 1 ∨ 7 < P.kind k) := by
      rintro (q | q | q)
      · rw [h3] at q; cases q
      · ((try simp only[oo,reduceCtorEq]at*)<;>omega)
      · ((try simp only[oo,reduceCtorEq]at*)<;>omega)
    refine pwp_for [1, 3, 4, 5, 6] (fun j : Nat => [(7, .sc (.int .i64 j))]) (fun _ => []) (fun j => j ≤ k ∧ ∀ i, i < j → eqS (P.name i) (P.name k) = false) (fun j => k - j) 0 ?_
    ((conv=>whnf);repeat(refine⟨rfl,?_⟩;conv=>whnf))
    refine ⟨⟨by omega, fun j hj => by omega⟩, by (repeat' (first | exact trivial | refine And.intro rfl ?_)), rfl, ?_⟩
    rintro j ⟨hj, hno⟩
    ((conv=>whnf);repeat(refine⟨rfl,?_⟩;conv=>whnf))
    (apply rd_sound; focus (repeat' constructor))
    ((conv=>whnf);repeat(refine⟨rfl,?_⟩;conv=>whnf))
    (refine ifK_split (fun h6 => ?_) (fun h6 => ?_) <;> (rw [h6]; ((conv=>whnf);repeat(refine⟨rfl,?_⟩;conv=>whnf))))
    · have hj' : j < k := by ((try simp only[oo,reduceCtorEq]at*)<;>omega)
      refine ⟨by omega, _, node_at P (k := j) (by omega) (by omega), ?_⟩
      ((conv=>whnf);repeat(refine⟨rfl,?_⟩;conv=>whnf))
      refine ⟨by omega, _, node_at P (k := k) (by omega) hk', ?_⟩
      ((conv=>whnf);repeat(refine⟨rfl,?_⟩;conv=>whnf))
      (refine ifK_split (fun h7 => ?_) (fun h7 => ?_) <;> (rw [h7]; ((conv=>whnf);repeat(refine⟨rfl,?_⟩;conv=>whnf))))
      · exact hit k hk' hall (by
          unfold ProcD.nodeE
          rw [if_neg d1, if_pos]
          rw [List.any_eq_true]
          exact ⟨j, List.mem_range.2 hj', h7⟩) (by decide)
      · (refine .inl ⟨by (unfold InR; rw [IntKind.wrap_i64]; omega), ?_⟩; ((conv=>whnf);repeat(refine⟨rfl,?_⟩;conv=>whnf)))
        refine ⟨j + 1, ⟨by omega, fun i hi => ?_⟩, by dsimp only; omega, leB_envH (by (repeat' (first | exact trivial | refine And.intro rfl ?_))) rfl⟩
        by_cases e : i = j
        · subst e; exact h7
        · exact hno i (by omega)
    have hjk : j = k := by have : ¬ j < k := by ((try simp only[oo,reduceCtorEq]at*)<;>omega)
                           omega
    subst hjk
    have hz : P.nodeE j = 0 := by
      unfold ProcD.nodeE
      rw [if_neg d1, if_neg]
      rw [List.any_eq_true]
      rintro ⟨i, q1, q2⟩
      rw [hno i (List.mem_range.1 q1)] at q2; cases q2
    have hall' : ∀ i, i < j + 1 → P.nodeE i = 0 := fun i hi => by
      by_cases e : i = j
      · subst e; exact hz
      · exact hall i (by omega)
    refine ⟨by omega, _, node_at P (k := j) (by omega) hk', ?_⟩
    ((conv=>whnf);repeat(refine⟨rfl,?_⟩;conv=>whnf))
    (refine ifK_split (fun h8 => ?_) (fun h8 => ?_) <;> (rw [h8]; ((conv=>whnf);repeat(refine⟨rfl,?_⟩;conv=>whnf))))
    · have h8 : P.kind j = 1 := by ((try simp only[oo,reduceCtorEq]at*)<;>omega)
      (refine .inl ⟨by (unfold InR; rw [IntKind.wrap_i64]; omega), ?_⟩; ((conv=>whnf);repeat(refine⟨rfl,?_⟩;conv=>whnf)))
      (refine .inl ⟨by (unfold InR; rw [IntKind.wrap_i64]; omega), ?_⟩; ((conv=>whnf);repeat(refine⟨rfl,?_⟩;conv=>whnf)))
      exact ⟨(j + 1, j, m + 1), ⟨by omega, by simp [ProcD.startI, h8], by simp [ProcD.starts, h8, hm], hall'⟩, by dsimp only; omega, leB_envH (by (repeat' (first | exact trivial | refine And.intro rfl ?_))) rfl⟩
    · have h8 : P.kind j ≠ 1 := by ((try simp only[oo,reduceCtorEq]at*)<;>omega)
      (refine .inl ⟨by (unfold InR; rw [IntKind.wrap_i64]; omega), ?_⟩; ((conv=>whnf);repeat(refine⟨rfl,?_⟩;conv=>whnf)))
      exact ⟨(j + 1, s, m), ⟨by omega, by simp [ProcD.startI, h8, hs], by simp [ProcD.starts, h8, hm], hall'⟩, by dsimp only; omega, leB_envH (by (repeat' (first | exact trivial | refine And.intro rfl ?_))) rfl⟩
  have hkn : k = P.nodes.length := by have : ¬ k < P.nodes.length := by ((try simp only[oo,reduceCtorEq]at*)<;>omega)
                                      omega
  subst hs hm
  subst hkn
  clear h hk
  have c2 : ¬ P.nodesE ≠ 0 := fun q => q (ProcD.firstE_zero.2 hall)
  clear hall
  refine pwp_for [1, 3, 4, 5] (fun k : Nat => [(8, .sc (.int .i64 k))]) (fun _ => []) (fun k => k ≤ P.flows.length ∧ ∀ i, i < k → P.flowOK i = true) (fun k => P.flows.length - k) 0 ?_
  ((conv=>whnf);repeat(refine⟨rfl,?_⟩;conv=>whnf))
  refine ⟨⟨by omega, fun i hi => by omega⟩, by (repeat' (first | exact trivial | refine And.intro rfl ?_)), rfl, ?_⟩
  rintro k ⟨hk, hall⟩
  ((conv=>whnf);repeat(refine⟨rfl,?_⟩;conv=>whnf))
  (apply rd_sound; focus (repeat' constructor))
  ((conv=>whnf);repeat(refine⟨rfl,?_⟩;conv=>whnf))
  rw [List.length_map]
  (refine ifK_split (fun h => ?_) (fun h => ?_) <;> (rw [h]; ((conv=>whnf);repeat(refine⟨rfl,?_⟩;conv=>whnf))))
  · have hk' : k < P.flows.length := by ((try simp only[oo,reduceCtorEq]at*)<;>omega)
    refine ⟨by omega, _, flow_at P (k := k) (by omega) hk', ?_⟩
    ((conv=>whnf);repeat(refine⟨rfl,?_⟩;conv=>whnf))
    refine ⟨by omega, _, flow_at P (k := k) (by omega) hk', ?_⟩
    ((conv=>whnf);repeat(refine⟨rfl,?_⟩;conv=>whnf))
    refine .inr (.inl ⟨_, _, .cons _ _ _ _ (deep_ints (l := [P.src k, P.dst k]) rfl rfl) (.cons _ _ _ _ (.refl _) .nil), ref_In [P.src k, P.dst k] (by simp) P.nodes.length, rfl, ?_⟩)
    ((conv=>whnf);repeat(refine⟨rfl,?_⟩;conv=>whnf))
    rw [inB_flow]
    (refine ifK_split (fun h3 => ?_) (fun h3 => ?_) <;> (rw [h3]; ((conv=>whnf);repeat(refine⟨rfl,?_⟩;conv=>whnf))))
    · exact fin (by
        unfold ProcD.chk
        rw [if_neg c1, if_neg c2, if_pos]
        intro q
        rw [q k hk'] at h3; cases h3)
    · (refine .inl ⟨by (unfold InR; rw [IntKind.wrap_i64]; omega), ?_⟩; ((conv=>whnf);repeat(refine⟨rfl,?_⟩;conv=>whnf)))
      refine ⟨k + 1, ⟨by omega, fun i hi => ?_⟩, by dsimp only; omega, ?_⟩
      · by_cases e : i = k
        · subst e; simpa using h3
        · exact hall i (by omega)
      (refine leB_close 1 (by simp) rfl ?_ ?_ <;> (repeat' (first | exact trivial | exact rfl | exact DeepM.refl _ | exact DeepML.refl _ | exact DeepMLL.refl _ | refine And.intro ?_ ?_ | (simp [Under, UnderL, UnderLL, -List.map_take, -List.map_drop]; done))))
  have hkn : k = P.flows.length := by have : ¬ k < P.flows.length := by ((try simp only[oo,reduceCtorEq]at*)<;>omega)
                                      omega
  subst hkn
  have c3 : ¬ ¬ ∀ i, i < P.flows.length → P.flowOK i = true := fun q => q hall
  (refine ifK_split (fun h4 => ?_) (fun h4 => ?_) <;> (rw [h4]; ((conv=>whnf);repeat(refine⟨rfl,?_⟩;conv=>whnf))))
  · have h4 : P.starts P.nodes.length ≠ 1 := by ((try simp only[oo,reduceCtorEq]at*)<;>omega)
    exact fin (by unfold ProcD.chk; rw [if_neg c1, if_neg c2, if_neg c3, if_pos h4])
  have h4 : P.starts P.nodes.length = 1 := by ((try simp only[oo,reduceCtorEq]at*)<;>omega)
  have hst := P.startI_pos P.nodes.length (by omega)
  have c4 : ¬ P.starts P.nodes.length ≠ 1 := fun q => q h4
  clear h hk
  refine pwp_for [1, 3, 4] (fun k : Nat => [(9, .sc (.int .i64 k))]) (fun _ => []) (fun k => k ≤ P.nodes.length ∧ ∀ i, i < k → P.nodeOK i = true) (fun k => P.nodes.length - k) 0 ?_
  ((conv=>whnf);repeat(refine⟨rfl,?_⟩;conv=>whnf))
  refine ⟨⟨by omega, fun i hi => by omega⟩, by (repeat' (first | exact trivial | refine And.intro rfl ?_)), rfl, ?_⟩
  rintro k ⟨hk, hok⟩
  ((conv=>whnf);repeat(refine⟨rfl,?_⟩;conv=>whnf))
  (apply rd_sound; focus (repeat' constructor))
  ((conv=>whnf);repeat(refine⟨rfl,?_⟩;conv=>whnf))
  (refine ifK_split (fun h => ?_) (fun h => ?_) <;> (rw [h]; ((conv=>whnf);repeat(refine⟨rfl,?_⟩;conv=>whnf))))
  · have hk' : k < P.nodes.length := by ((try simp only[oo,reduceCtorEq]at*)<;>omega)
    (refine .inl ⟨_, (ref_FlowsIn P hP (by omega) k), ?_⟩; ((conv=>whnf);repeat(refine⟨rfl,?_⟩;conv=>whnf)))
    (refine .inl ⟨_, (ref_FlowsOut P hP (by omega) k), ?_⟩; ((conv=>whnf);repeat(refine⟨rfl,?_⟩;conv=>whnf)))
    rw [List.length_map, List.length_map]
    have no : P.nodeOK k = false → Deep [AObj.row true P.cells] (.sc (.int .i64 1)) (.sc (.int .i64 P.chk)) := fun h5 => fin (by
        unfold ProcD.chk
        rw [if_neg c1, if_neg c2, if_neg c3, if_neg c4, if_pos]
        intro q
        rw [q k hk'] at h5; cases h5)
    have yes : P.nodeOK k = true → ∀ i, i < k + 1 → P.nodeOK i = true := fun h5 i hi => by
      by_cases e : i = k
      · subst e; exact h5
      · exact hok i (by omega)
    have eOK : P.nodeOK k = ProcD.countsB (P.kind k) (P.inL k).length (P.outL k).length := rfl
    generalize (P.inL k).length = a at eOK ⊢
    generalize (P.outL k).length = b at eOK ⊢
    have hi : InR .i64 ((k : Int) + 1) := inr_succ hk' (by omega)
    have hkr : 1 ≤ P.kind k ∧ P.kind k ≤ 7 := nodeE_zero (ProcD.firstE_zero.1 (Classical.not_not.1 c2) k hk')
    generalize hK : P.kind k = K at eOK hkr
    have hn : ∀ {z : Nat}, z = k → (P.nodes.map nrow)[z]? = some [.sc (.string (P.name k)), .sc (.int .i64 K)] := fun h => hK ▸ node_at P h hk'
    generalize P.nodeOK k = ok at eOK no yes
    have yes' : ok = true → k + 1 ≤ P.nodes.length ∧ ∀ i, i < k + 1 → P.nodeOK i = true := fun h => ⟨by omega, yes h⟩
    clear hit h1 h2 c1 c2 c3 c4 h4 hst hok hall fin b1 b2 yes hK h hP
    repeat' (first
      | (refine ⟨by omega, _, hn (by omega), ?_⟩; ((conv=>whnf);repeat(refine⟨rfl,?_⟩;conv=>whnf)))
      | (refine ifK_split (fun h => ?_) (fun h => ?_) <;> (rw [h]; ((conv=>whnf);repeat(refine⟨rfl,?_⟩;conv=>whnf))))
      | exact no (by rw [eOK]; clear no yes' hn eOK hk hk' hi; unfold ProcD.countsB; simp_all; try omega)
      | (refine .inl ⟨hi, ?_⟩; ((conv=>whnf);repeat(refine⟨rfl,?_⟩;conv=>whnf)))
      | exact ⟨k + 1, yes' (by rw [eOK]; clear no yes' hn eOK hk hk' hi; unfold ProcD.countsB; simp_all; try omega), by dsimp only; omega, leB_envH (by (repeat' (first | exact trivial | refine And.intro rfl ?_))) rfl⟩)
  have hkn : k = P.nodes.length := by have : ¬ k < P.nodes.length := by ((try simp only[oo,reduceCtorEq]at*)<;>omega)
                                      omega
  subst hkn
  have c5 : ¬ ¬ ∀ i, i < P.nodes.length → P.nodeOK i = true := fun q => q hok
  clear h hk hok
  refine ⟨by omega, by omega, by omega, ?_⟩
  rw [Int.toNat_natCast, show List.replicate P.nodes.length (List.map D.sc [Value.bool false]) = rbl P.nodes.length (fun _ => false) from rbl_rep _]
  ((conv=>whnf);repeat(refine⟨rfl,?_⟩;conv=>whnf))
  (refine ⟨by omega, (by first | omega | (simp; done) | (simp; omega) | (simp only [ll]; omega)), ?_⟩; ((conv=>whnf);repeat(refine⟨rfl,?_⟩;conv=>whnf)))
  refine ⟨_, rbl_atN (P.startI P.nodes.length).toNat (by omega) (by omega), ?_⟩
  ((conv=>whnf);repeat(refine⟨rfl,?_⟩;conv=>whnf))
  rw [rbl_mark (v := (P.startI P.nodes.length).toNat) (by omega)]
  have s0 : unseen (mark (fun _ => false) (P.startI P.nodes.length).toNat) P.nodes.length + 1 ≤ P.nodes.length := by
    have := unseen_lt (s := fun _ => false) (s' := mark (fun _ => false) (P.startI P.nodes.length).toNat) (n := P.nodes.length) (i := (P.startI P.nodes.length).toNat) (by omega) (fun j _ h => by cases h) rfl (mark_self _ _)
    have := unseen_le (fun _ => false) P.nodes.length
    omega
  refine pwp_for [1, 3, 13] (fun ((r, s) : Nat × (Nat → Bool)) => [(14, .sc (.int .i64 r))]) (fun (r, s) => [(1, .vec true 0 1 (rbl P.nodes.length s))]) (fun (r, s) => r ≤ P.nodes.length ∧ s (P.startI P.nodes.length).toNat = true ∧ (∀ v, s v = true → P.Come v) ∧ (FClosed P s ∨ unseen s P.nodes.length + r + 1 ≤ P.nodes.length)) (fun (r, s) => P.nodes.length - r) (0, mark (fun _ => false) (P.startI P.nodes.length).toNat) ?_
  ((conv=>whnf);repeat(refine⟨rfl,?_⟩;conv=>whnf))
  refine ⟨⟨by omega, mark_self _ _, fun v hv => ?_, .inr (by omega)⟩, by (repeat' (first | exact trivial | refine And.intro rfl ?_)), rfl, ?_⟩
  · rcases mark_iff.1 hv with q | q
    · subst q; exact .base (by simp)
    · cases q
  rintro ⟨r, s⟩ ⟨hr, hs0, hsc, hcl⟩
  ((conv=>whnf);repeat(refine⟨rfl,?_⟩;conv=>whnf))
  (apply rd_sound; focus (repeat' constructor))
  ((conv=>whnf);repeat(refine⟨rfl,?_⟩;conv=>whnf))
  (refine ifK_split (fun h => ?_) (fun h => ?_) <;> (rw [h]; ((conv=>whnf);repeat(refine⟨rfl,?_⟩;conv=>whnf))))
  · have hr' : r < P.nodes.length := by ((try simp only[oo,reduceCtorEq]at*)<;>omega)
    refine pwp_for [1, 3, 13, 14] (fun ((j, s') : Nat × (Nat → Bool)) => [(15, .sc (.int .i64 j))]) (fun (j, s') => [(1, .vec true 0 1 (rbl P.nodes.length s'))]) (fun (j, s') => j ≤ P.flows.length ∧ s' (P.startI P.nodes.length).toNat = true ∧ (∀ v, s' v = true → P.Come v) ∧ (FClosed P s → s' = s) ∧ ((s' = s ∧ ∀ i, i < j → s (P.src i).toNat = true → s (P.dst i).toNat = true) ∨ unseen s' P.nodes.length < unseen s P.nodes.length)) (fun (j, s') => P.flows.length - j) (0, s) ?_
    ((conv=>whnf);repeat(refine⟨rfl,?_⟩;conv=>whnf))
    refine ⟨⟨by omega, hs0, hsc, fun _ => rfl, .inl ⟨rfl, fun i hi => by omega⟩⟩, by (repeat' (first | exact trivial | refine And.intro rfl ?_)), rfl, ?_⟩
    rintro ⟨j, s'⟩ ⟨hj, hs0', hsc', heq, hdo⟩
    ((conv=>whnf);repeat(refine⟨rfl,?_⟩;conv=>whnf))
    (apply rd_sound; focus (repeat' constructor))
    ((conv=>whnf);repeat(refine⟨rfl,?_⟩;conv=>whnf))
    rw [List.length_map]
    (refine ifK_split (fun h6 => ?_) (fun h6 => ?_) <;> (rw [h6]; ((conv=>whnf);repeat(refine⟨rfl,?_⟩;conv=>whnf))))
    · have hj' : j < P.flows.length := by ((try simp only[oo,reduceCtorEq]at*)<;>omega)
      have ho := ProcD.flowOK_iff.1 (hall j hj')
      refine ⟨by omega, _, flow_at P (k := j) (by omega) hj', ?_⟩
      ((conv=>whnf);repeat(refine⟨rfl,?_⟩;conv=>whnf))
      (refine ⟨by omega, (by first | omega | (simp; done) | (simp; omega) | (simp only [ll]; omega)), ?_⟩; ((conv=>whnf);repeat(refine⟨rfl,?_⟩;conv=>whnf)))
      refine ⟨_, rbl_atN (P.src j).toNat (by omega) (by omega), ?_⟩
      ((conv=>whnf);repeat(refine⟨rfl,?_⟩;conv=>whnf))
      (refine ifK_split (fun h7 => ?_) (fun h7 => ?_) <;> (rw [h7]; ((conv=>whnf);repeat(refine⟨rfl,?_⟩;conv=>whnf))))
      · refine ⟨by omega, _, flow_at P (k := j) (by omega) hj', ?_⟩
        ((conv=>whnf);repeat(refine⟨rfl,?_⟩;conv=>whnf))
        (refine ⟨by omega, (by first | omega | (simp; done) | (simp; omega) | (simp only [ll]; omega)), ?_⟩; ((conv=>whnf);repeat(refine⟨rfl,?_⟩;conv=>whnf)))
        refine ⟨_, rbl_atN (P.dst j).toNat (by omega) (by omega), ?_⟩
        ((conv=>whnf);repeat(refine⟨rfl,?_⟩;conv=>whnf))
        (refine .inl ⟨by (unfold InR; rw [IntKind.wrap_i64]; omega), ?_⟩; ((conv=>whnf);repeat(refine⟨rfl,?_⟩;conv=>whnf)))
        refine ⟨(j + 1, mark s' (P.dst j).toNat), ⟨by omega, mark_of hs0', fun v hv => ?_, fun hc => ?_, ?_⟩, by dsimp only; omega, leB_envH (by (repeat' (first | exact trivial | refine And.intro rfl ?_))) ?_⟩
        · rcases mark_iff.1 hv with q | q
          · subst q
            exact .step (hsc' _ h7) ((ProcD.graph_mem hall).2 ⟨j, hj', by omega, rfl⟩)
          · exact hsc' v q
        · have e := heq hc
          subst e
          exact mark_same (hc j hj' h7)
        · cases hd : s' (P.dst j).toNat with
          | true =>
            rw [mark_same hd]
            refine hdo.imp_left fun ⟨q1, q2⟩ => ⟨q1, fun i hi => ?_⟩
            by_cases e : i = j
            · subst e; subst q1; exact fun _ => hd
            · exact q2 i (by omega)
          | false =>
            refine .inr ?_
            have := unseen_lt (s := s') (s' := mark s' (P.dst j).toNat) (n := P.nodes.length) (i := (P.dst j).toNat) (by omega) (fun _ _ h => mark_of h) hd (mark_self _ _)
            rcases hdo with ⟨q, _⟩ | q
            · subst q; exact this
            · omega
        · rw [rbl_mark (v := (P.dst j).toNat) (by omega)]
          rfl
      · (refine .inl ⟨by (unfold InR; rw [IntKind.wrap_i64]; omega), ?_⟩; ((conv=>whnf);repeat(refine⟨rfl,?_⟩;conv=>whnf)))
        refine ⟨(j + 1, s'), ⟨by omega, hs0', hsc', heq, hdo.imp_left fun ⟨q1, q2⟩ => ⟨q1, fun i hi => ?_⟩⟩, by dsimp only; omega, leB_envH (by (repeat' (first | exact trivial | refine And.intro rfl ?_))) rfl⟩
        by_cases e : i = j
        · subst e; subst q1; intro q; rw [q] at h7; cases h7
        · exact q2 i (by omega)
    · have hjn : j = P.flows.length := by have : ¬ j < P.flows.length := by ((try simp only[oo,reduceCtorEq]at*)<;>omega)
                                          omega
      subst hjn
      (refine .inl ⟨by (unfold InR; rw [IntKind.wrap_i64]; omega), ?_⟩; ((conv=>whnf);repeat(refine⟨rfl,?_⟩;conv=>whnf)))
      refine ⟨(r + 1, s'), ⟨by omega, hs0', hsc', ?_⟩, by dsimp only; omega, leB_envH (by (repeat' (first | exact trivial | refine And.intro rfl ?_))) rfl⟩
      rcases hdo with ⟨q1, q2⟩ | q
      · subst q1; exact .inl q2
      · rcases hcl with hc | hc
        · have e := heq hc
          subst e
          exact .inl hc
        · exact .inr (by omega)
  have hrn : r = P.nodes.length := by have : ¬ r < P.nodes.length := by ((try simp only[oo,reduceCtorEq]at*)<;>omega)
                                      omega
  subst hrn
  have hc : FClosed P s := hcl.resolve_right (by omega)
  have hB := fun v => fclosed_come hall hs0 hc hsc v
  rw [rbl_congr (g' := rchB (P.graph P.flows.length) [P.startI P.nodes.length]) fun i _ => hB i]
  refine .inr (.inl ⟨_, _, .cons _ _ _ _ (deep_vec rfl) (.cons _ _ _ _ (.refl _) .nil), contains_truth _ (rchB (P.graph P.flows.length) [P.startI P.nodes.length]) (by omega) false, rfl, ?_⟩)
  ((conv=>whnf);repeat(refine⟨rfl,?_⟩;conv=>whnf))
  (refine ifK_split (fun h6 => ?_) (fun h6 => ?_) <;> (rw [h6]; ((conv=>whnf);repeat(refine⟨rfl,?_⟩;conv=>whnf))))
  · obtain ⟨v, q1, q2⟩ := contains_truth_iff.1 h6
    exact fin (by
      unfold ProcD.chk
      rw [if_neg c1, if_neg c2, if_neg c3, if_neg c4, if_neg c5, if_pos]
      intro q
      rw [rchB_iff.2 (q v q1)] at q2; cases q2)
  · exact fin (by
      unfold ProcD.chk
      rw [if_neg c1, if_neg c2, if_neg c3, if_neg c4, if_neg c5, if_neg]
      intro q
      refine q fun v hv => ?_
      unfold ProcD.Come
      rw [← rchB_iff, ← Bool.not_eq_false]
      intro q2
      rw [contains_truth_iff.2 ⟨v, hv, q2⟩] at h6; cases h6)
end

/-! ### XPr4 -/
section
open Go.RowKit
set_option linter.unusedSimpArgs false
set_option linter.unusedVariables false
noncomputable def ProcD.listE (P : ProcD) (n : Int) : Int := if P.chk ≠ 0 then P.chk else if n < 0 ∨ (P.nodes.length : Int) ≤ n then 1 else 0
theorem chk_small {P : ProcD} (h : P.chk = 0) : P.nodes.length ≤ 20 ∧ P.flows.length ≤ 30 := by
  unfold ProcD.chk at h
  split at h
  · exact absurd h (by decide)
  · omega
end

end Go.Proofs.YtgkodbnomgabdaaDoor
