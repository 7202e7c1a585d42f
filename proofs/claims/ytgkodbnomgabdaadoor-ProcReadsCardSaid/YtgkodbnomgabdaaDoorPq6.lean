/-
  Processes alike, and the reference's text of a process, over deep values. No statement is proved here.
-/
import Derived.Test.YtgkodbnomgabdaaDoorPq5
namespace Go.Proofs.YtgkodbnomgabdaaDoor
open Go.RowKit
set_option linter.unusedSimpArgs false
set_option linter.unusedVariables false
theorem qNode : ∀ x y : ByteArray × Int, (x.1.toList == y.1.toList && (x.2 == y.2 && true)) = decide (x = y) := by
  rintro ⟨x1, x2⟩ ⟨y1, y2⟩
  have h : (x1.toList == y1.toList) = decide (x1 = y1) := by
    rw [Bool.eq_iff_iff, decide_eq_true_eq]
    exact ⟨eqS_eq, fun h => by rw [h]; exact beq_self_eq_true _⟩
  simp only [Bool.and_true, h]
  by_cases g1 : x1 = y1 <;> by_cases g2 : x2 = y2 <;> simp [g1, g2]
theorem qFlow : ∀ x y : Int × Int, (x.1 == y.1 && (x.2 == y.2 && true)) = decide (x = y) := by
  rintro ⟨x1, x2⟩ ⟨y1, y2⟩
  simp only [Bool.and_true]
  by_cases g1 : x1 = y1 <;> by_cases g2 : x2 = y2 <;> simp [g1, g2]
theorem nrow_at {l : List (ByteArray × Int)} {z k : Nat} (hz : z = k) (h : k < l.length) : (l.map nrow)[z]? = some (nrow l[k]) := by
  subst hz; rw [List.getElem?_map, List.getElem?_eq_getElem h]; rfl
def c25_1 : PC := .seq (.ops [q 14 (.bin .lss (.tmp 13) (.tmp 12))] false) (.seq (.cond (.tmp 14) (.skip) (.exit 0)) (.seq (.block 1 (.seq (.ops [qm 15 13,qm 5 15] false) (.seq (.ops [qm 16 0,qm 17 5,qd 18 (.iaddr 2 (.tmp 16) (.tmp 17)) 3,qd 19 (.loadA 2 (.tmp 18)) 7,qm 20 1,qm 21 5,qd 22 (.iaddr 2 (.tmp 20) (.tmp 21)) 48,qd 23 (.loadA 2 (.tmp 22)) 112,qd 24 (.eqa true [2, 0] (.tmp 19) (.tmp 23)) 255] true) (.cond (.tmp 24) (.seq (.ops [q 4 (.move (.const (.bool false)))] false) (.ret)) (.skip))))) (.ops [q 25 (.bin .add (.tmp 13) (.const (.int .i64 1))),qm 13 25] false)))
def c25 : PC := .seq (.ops [q 4 (.move (.const (.bool false)))] false) (.seq (.seq (.ops [qm 6 0,q 7 (.len (.tmp 6)),qm 8 1,q 9 (.len (.tmp 8)),q 10 (.bin .neq (.tmp 7) (.tmp 9))] false) (.cond (.tmp 10) (.seq (.ops [q 4 (.move (.const (.bool false)))] false) (.ret)) (.skip))) (.seq (.seq (.ops [qm 11 0,q 12 (.len (.tmp 11)),q 13 (.move (.const (.int .i64 0)))] false) (.block 0 (.loop c25_1))) (.seq (.ops [q 4 (.move (.const (.bool true)))] false) (.ret))))
set_option maxRecDepth 100000 in
theorem c25_ok : FunOK Tryd.prog 25 26 [.tmp 4] c25 := ⟨⟨Tryd.f25, Tryd.func25, rfl, by kernel_rfl, rfl, by kernel_rfl⟩⟩
theorem equal_node (a b : List (ByteArray × Int)) (ha : a.length ≤ 9223372036854775807) : PCall Tryd.prog 25 [.lst 2 (a.map nrow), .lst 2 (b.map nrow)] (.sc (.bool (decide (a = b)))) := by
  refine pcall_intro c25_ok (by simp) (by simp [PureL, Pure, pure_nrow, pure_frow]) ?_ (by simp [Pure])
  (apply rd_sound; focus (repeat' constructor))
  ((conv=>whnf);repeat(refine⟨rfl,?_⟩;conv=>whnf))
  rw [List.length_map, List.length_map]
  have fin : ∀ {c : Bool}, c = decide (a = b) → Deep [] (.sc (.bool c)) (.sc (.bool (decide (a = b)))) := fun h => h ▸ .refl _
  (refine ifK_split (fun h1 => ?_) (fun h1 => ?_) <;> (rw [h1]; ((conv=>whnf);repeat(refine⟨rfl,?_⟩;conv=>whnf))))
  · exact fin (by rw [eq_comm, decide_eq_false_iff_not]; rintro rfl; simp at h1)
  have hl : a.length = b.length := by ((try simp only[oo,reduceCtorEq]at*)<;>omega)
  rw [List.length_map]
  refine pwp_for [0, 1, 12] (fun k : Nat => [(13, .sc (.int .i64 k))]) (fun _ => []) (fun k => k ≤ a.length ∧ ∀ j (hj : j < k) (h1 : j < a.length) (h2 : j < b.length), a[j] = b[j]) (fun k => a.length - k) 0 ?_
  ((conv=>whnf);repeat(refine⟨rfl,?_⟩;conv=>whnf))
  refine ⟨⟨by omega, fun j h => by omega⟩, by (repeat' (first | exact trivial | refine And.intro rfl ?_)), rfl, ?_⟩
  rintro k ⟨hk, hall⟩
  ((conv=>whnf);repeat(refine⟨rfl,?_⟩;conv=>whnf))
  (apply rd_sound; focus (repeat' constructor))
  ((conv=>whnf);repeat(refine⟨rfl,?_⟩;conv=>whnf))
  (refine ifK_split (fun h2 => ?_) (fun h2 => ?_) <;> (rw [h2]; ((conv=>whnf);repeat(refine⟨rfl,?_⟩;conv=>whnf))))
  · have hk' : k < a.length := by ((try simp only[oo,reduceCtorEq]at*)<;>omega)
    refine ⟨by omega, _, nrow_at (k := k) (by omega) hk', ?_⟩
    ((conv=>whnf);repeat(refine⟨rfl,?_⟩;conv=>whnf))
    refine ⟨by omega, _, nrow_at (l := b) (k := k) (by omega) (by omega), ?_⟩
    ((conv=>whnf);repeat(refine⟨rfl,?_⟩;conv=>whnf))
    rw [qNode]
    (refine ifK_split (fun h3 => ?_) (fun h3 => ?_) <;> (rw [h3]; ((conv=>whnf);repeat(refine⟨rfl,?_⟩;conv=>whnf))))
    · exact fin (by rw [eq_comm, decide_eq_false_iff_not]; rintro rfl; simp [flipB] at h3)
    · (refine .inl ⟨by (unfold InR; rw [IntKind.wrap_i64]; omega), ?_⟩; ((conv=>whnf);repeat(refine⟨rfl,?_⟩;conv=>whnf)))
      refine ⟨k + 1, ⟨by omega, fun j hj h1 h2 => ?_⟩, by dsimp only; omega, leB_envH (by (repeat' (first | exact trivial | refine And.intro rfl ?_))) rfl⟩
      by_cases e : j = k
      · subst e; simpa [flipB] using h3
      · exact hall j (by omega) h1 h2
  · refine fin ?_
    rw [eq_comm, decide_eq_true_eq]
    have hk' : ¬ k < a.length := by ((try simp only[oo,reduceCtorEq]at*)<;>omega)
    exact List.ext_getElem hl fun i h1 h2 => hall i (by omega) h1 h2
theorem frow_at {l : List (Int × Int)} {z k : Nat} (hz : z = k) (h : k < l.length) : (l.map frow)[z]? = some (frow l[k]) := by
  subst hz; rw [List.getElem?_map, List.getElem?_eq_getElem h]; rfl
def c26_1 : PC := .seq (.ops [q 14 (.bin .lss (.tmp 13) (.tmp 12))] false) (.seq (.cond (.tmp 14) (.skip) (.exit 0)) (.seq (.block 1 (.seq (.ops [qm 15 13,qm 5 15] false) (.seq (.ops [qm 16 0,qm 17 5,qd 18 (.iaddr 2 (.tmp 16) (.tmp 17)) 3,qd 19 (.loadA 2 (.tmp 18)) 7,qm 20 1,qm 21 5,qd 22 (.iaddr 2 (.tmp 20) (.tmp 21)) 48,qd 23 (.loadA 2 (.tmp 22)) 112,qd 24 (.eqa true [0, 0] (.tmp 19) (.tmp 23)) 255] true) (.cond (.tmp 24) (.seq (.ops [q 4 (.move (.const (.bool false)))] false) (.ret)) (.skip))))) (.ops [q 25 (.bin .add (.tmp 13) (.const (.int .i64 1))),qm 13 25] false)))
def c26 : PC := .seq (.ops [q 4 (.move (.const (.bool false)))] false) (.seq (.seq (.ops [qm 6 0,q 7 (.len (.tmp 6)),qm 8 1,q 9 (.len (.tmp 8)),q 10 (.bin .neq (.tmp 7) (.tmp 9))] false) (.cond (.tmp 10) (.seq (.ops [q 4 (.move (.const (.bool false)))] false) (.ret)) (.skip))) (.seq (.seq (.ops [qm 11 0,q 12 (.len (.tmp 11)),q 13 (.move (.const (.int .i64 0)))] false) (.block 0 (.loop c26_1))) (.seq (.ops [q 4 (.move (.const (.bool true)))] false) (.ret))))
set_option maxRecDepth 100000 in
theorem c26_ok : FunOK Tryd.prog 26 26 [.tmp 4] c26 := ⟨⟨Tryd.f26, Tryd.func26, rfl, by kernel_rfl, rfl, by kernel_rfl⟩⟩
theorem equal_flow (a b : List (Int × Int)) (ha : a.length ≤ 9223372036854775807) : PCall Tryd.prog 26 [.lst 2 (a.map frow), .lst 2 (b.map frow)] (.sc (.bool (decide (a = b)))) := by
  refine pcall_intro c26_ok (by simp) (by simp [PureL, Pure, pure_nrow, pure_frow]) ?_ (by simp [Pure])
  (apply rd_sound; focus (repeat' constructor))
  ((conv=>whnf);repeat(refine⟨rfl,?_⟩;conv=>whnf))
  rw [List.length_map, List.length_map]
  have fin : ∀ {c : Bool}, c = decide (a = b) → Deep [] (.sc (.bool c)) (.sc (.bool (decide (a = b)))) := fun h => h ▸ .refl _
  (refine ifK_split (fun h1 => ?_) (fun h1 => ?_) <;> (rw [h1]; ((conv=>whnf);repeat(refine⟨rfl,?_⟩;conv=>whnf))))
  · exact fin (by rw [eq_comm, decide_eq_false_iff_not]; rintro rfl; simp at h1)
  have hl : a.length = b.length := by ((try simp only[oo,reduceCtorEq]at*)<;>omega)
  rw [List.length_map]
  refine pwp_for [0, 1, 12] (fun k : Nat => [(13, .sc (.int .i64 k))]) (fun _ => []) (fun k => k ≤ a.length ∧ ∀ j (hj : j < k) (h1 : j < a.length) (h2 : j < b.length), a[j] = b[j]) (fun k => a.length - k) 0 ?_
  ((conv=>whnf);repeat(refine⟨rfl,?_⟩;conv=>whnf))
  refine ⟨⟨by omega, fun j h => by omega⟩, by (repeat' (first | exact trivial | refine And.intro rfl ?_)), rfl, ?_⟩
  rintro k ⟨hk, hall⟩
  ((conv=>whnf);repeat(refine⟨rfl,?_⟩;conv=>whnf))
  (apply rd_sound; focus (repeat' constructor))
  ((conv=>whnf);repeat(refine⟨rfl,?_⟩;conv=>whnf))
  (refine ifK_split (fun h2 => ?_) (fun h2 => ?_) <;> (rw [h2]; ((conv=>whnf);repeat(refine⟨rfl,?_⟩;conv=>whnf))))
  · have hk' : k < a.length := by ((try simp only[oo,reduceCtorEq]at*)<;>omega)
    refine ⟨by omega, _, frow_at (k := k) (by omega) hk', ?_⟩
    ((conv=>whnf);repeat(refine⟨rfl,?_⟩;conv=>whnf))
    refine ⟨by omega, _, frow_at (l := b) (k := k) (by omega) (by omega), ?_⟩
    ((conv=>whnf);repeat(refine⟨rfl,?_⟩;conv=>whnf))
    rw [qFlow]
    (refine ifK_split (fun h3 => ?_) (fun h3 => ?_) <;> (rw [h3]; ((conv=>whnf);repeat(refine⟨rfl,?_⟩;conv=>whnf))))
    · exact fin (by rw [eq_comm, decide_eq_false_iff_not]; rintro rfl; simp [flipB] at h3)
    · (refine .inl ⟨by (unfold InR; rw [IntKind.wrap_i64]; omega), ?_⟩; ((conv=>whnf);repeat(refine⟨rfl,?_⟩;conv=>whnf)))
      refine ⟨k + 1, ⟨by omega, fun j hj h1 h2 => ?_⟩, by dsimp only; omega, leB_envH (by (repeat' (first | exact trivial | refine And.intro rfl ?_))) rfl⟩
      by_cases e : j = k
      · subst e; simpa [flipB] using h3
      · exact hall j (by omega) h1 h2
  · refine fin ?_
    rw [eq_comm, decide_eq_true_eq]
    have hk' : ¬ k < a.length := by ((try simp only[oo,reduceCtorEq]at*)<;>omega)
    exact List.ext_getElem hl fun i h1 h2 => hall i (by omega) h1 h2
def sameP (P Q : ProcD) : Bool := decide (P.nodes = Q.nodes) && decide (P.flows = Q.flows)
def c9 : PC := .seq (.ops [q 2 (.box (.tmp 0)),q 3 (.box (.tmp 1)),q 4 (.move (.const (.bool false)))] false) (.seq (.ops [q 5 (.faddr 0 (.tmp 2)),q 6 (.load1 (.tmp 5)),q 7 (.faddr 0 (.tmp 3)),q 8 (.load1 (.tmp 7)),q 9 (.call 25 [(.tmp 6), (.tmp 8)]),qm 10 9,⟨some 11,.faddr 1 (.tmp 2),some (10,true),0⟩,⟨some 12,.load1 (.tmp 11),some (10,true),0⟩,⟨some 13,.faddr 1 (.tmp 3),some (10,true),0⟩,⟨some 14,.load1 (.tmp 13),some (10,true),0⟩,⟨some 15,.call 26 [(.tmp 12), (.tmp 14)],some (10,true),0⟩,q 16 (.pick (.tmp 10) (.tmp 15) (.const (.bool false))),qm 4 16] false) (.ret))
set_option maxRecDepth 100000 in
theorem c9_ok : FunOK Tryd.prog 9 17 [.tmp 4] c9 := ⟨⟨Tryd.f9, Tryd.func9, rfl, by kernel_rfl, rfl, by kernel_rfl⟩⟩
theorem ref_SameProcess (P Q : ProcD) (hn : P.nodes.length ≤ 1000000000) (hf : P.flows.length ≤ 1000000000) : PCall Tryd.prog 9 [dproc P, dproc Q] (.sc (.bool (sameP P Q))) := by
  refine pcall_intro c9_ok (by simp) (by simp [PureL, Pure, pure_dproc]) ?_ (by simp [Pure])
  have h1 := equal_node P.nodes Q.nodes (by omega)
  have h2 := equal_flow P.flows Q.flows (by omega)
  unfold sameP
  (apply rd_sound; focus (repeat' constructor))
  ((conv=>whnf);repeat(refine⟨rfl,?_⟩;conv=>whnf))
  (refine .inl ⟨_, h1, ?_⟩; ((conv=>whnf);repeat(refine⟨rfl,?_⟩;conv=>whnf)))
  cases e : decide (P.nodes = Q.nodes) with
  | true =>
    ((conv=>whnf);repeat(refine⟨rfl,?_⟩;conv=>whnf))
    (refine .inl ⟨_, h2, ?_⟩; ((conv=>whnf);repeat(refine⟨rfl,?_⟩;conv=>whnf)))
    exact .refl _
  | false =>
    ((conv=>whnf);repeat(refine⟨rfl,?_⟩;conv=>whnf))
    exact .refl _
end Go.Proofs.YtgkodbnomgabdaaDoor
