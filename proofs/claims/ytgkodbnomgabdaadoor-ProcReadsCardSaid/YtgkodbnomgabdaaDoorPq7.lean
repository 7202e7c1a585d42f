/-
  The reference's text of a process, over deep values. No statement is proved here.
-/
import Derived.Test.YtgkodbnomgabdaaDoorPq6
namespace Go.Proofs.YtgkodbnomgabdaaDoor
open Go.RowKit
set_option linter.unusedSimpArgs false
set_option linter.unusedVariables false
/-- What a process without a fault has. -/
theorem chk_right {P : ProcD} (h : P.chk = 0) : P.nodes.length ≤ 20 ∧ P.flows.length ≤ 30 ∧ (∀ i, i < P.nodes.length → (P.name i).size ≤ 8 ∧ 1 ≤ P.kind i ∧ P.kind i ≤ 7) ∧
    ∀ i, i < P.flows.length → 0 ≤ P.src i ∧ P.src i < P.nodes.length ∧ 0 ≤ P.dst i ∧ P.dst i < P.nodes.length := by
  unfold ProcD.chk at h
  split at h
  · exact absurd h (by decide)
  rename_i g0
  split at h
  · rename_i g1; exact absurd h g1
  rename_i g1
  split at h
  · exact absurd h (by decide)
  rename_i g2
  refine ⟨by omega, by omega, fun i hi => ?_, fun i hi => ProcD.flowOK_iff.1 (Classical.not_not.1 g2 i hi)⟩
  have := ProcD.firstE_zero.1 (Classical.not_not.1 g1) i hi
  unfold ProcD.nodeE at this
  split at this
  · exact absurd this (by decide)
  rename_i g3
  have h1 : namedB (P.name i) = true := by
    cases q : namedB (P.name i) with
    | true => rfl
    | false => exact absurd (.inl q) g3
  refine ⟨?_, by have : ¬ P.kind i < 1 := fun q => g3 (.inr (.inl q)); omega, by have : ¬ 7 < P.kind i := fun q => g3 (.inr (.inr q)); omega⟩
  unfold namedB at h1
  simp only [Bool.and_eq_true, decide_eq_true_eq] at h1
  exact h1.1.1.1.1.2
theorem wordK_size : ∀ k, k < 8 → (wordK k).size ≤ 5 := by decide
theorem name_at {P : ProcD} {i : Nat} (h : i < P.nodes.length) : P.nodes[i].1 = P.name i ∧ P.nodes[i].2 = P.kind i := by
  unfold ProcD.name ProcD.kind
  rw [List.getD_eq_getElem?_getD, List.getElem?_eq_getElem h]
  exact ⟨rfl, rfl⟩
theorem flow_eq {P : ProcD} {i : Nat} (h : i < P.flows.length) : P.flows[i] = (P.src i, P.dst i) := by
  unfold ProcD.src ProcD.dst
  rw [List.getD_eq_getElem?_getD, List.getElem?_eq_getElem h]
  rfl
theorem textN_step {l : List (ByteArray × Int)} {k : Nat} (h : k < l.length) : textN (l.take (k + 1)) = textN (l.take k) ++ nodeT l[k] := by
  unfold textN
  rw [List.take_succ_eq_append_getElem h, List.foldl_append]
  rfl
theorem textP_step {P : ProcD} {k : Nat} (h : k < P.flows.length) : textP P (P.flows.take (k + 1)) = textP P (P.flows.take k) ++ flowT P (P.src k, P.dst k) := by
  unfold textP
  rw [List.take_succ_eq_append_getElem h, List.foldl_append, flow_eq h]
  rfl
theorem nodeT_size {P : ProcD} (h0 : P.chk = 0) {k : Nat} (h : k < P.nodes.length) : (nodeT P.nodes[k]).size ≤ 100 := by
  obtain ⟨_, _, h3, _⟩ := chk_right h0
  obtain ⟨e1, e2, e3⟩ := h3 k h
  have := wordK_size (P.kind k).toNat (by omega)
  unfold nodeT
  rw [(name_at h).1, (name_at h).2]
  simp only [ByteArray.size_append]
  have : sp.size = 1 := rfl
  have : nl.size = 1 := rfl
  omega
theorem flowT_size {P : ProcD} (h0 : P.chk = 0) {k : Nat} (h : k < P.flows.length) : (flowT P (P.src k, P.dst k)).size ≤ 100 := by
  obtain ⟨_, _, h3, h4⟩ := chk_right h0
  obtain ⟨e1, e2, e3, e4⟩ := h4 k h
  have q1 := (h3 (P.src k).toNat (by omega)).1
  have q2 := (h3 (P.dst k).toNat (by omega)).1
  unfold flowT
  simp only [ByteArray.size_append]
  have : sp.size = 1 := rfl
  have : nl.size = 1 := rfl
  have : (⟨#[102, 108, 111, 119, 32]⟩ : ByteArray).size = 5 := rfl
  omega
theorem textN_size {P : ProcD} (h0 : P.chk = 0) : ∀ k, k ≤ P.nodes.length → (textN (P.nodes.take k)).size ≤ 100 * k
  | 0, _ => Nat.le_refl _
  | k + 1, h => by
    rw [textN_step (by omega), ByteArray.size_append]
    have := textN_size h0 k (by omega)
    have := nodeT_size h0 (k := k) (by omega)
    omega
theorem textP_size {P : ProcD} (h0 : P.chk = 0) : ∀ k, k ≤ P.flows.length → (textP P (P.flows.take k)).size ≤ 100 * P.nodes.length + 100 * k
  | 0, _ => by
    have := textN_size h0 P.nodes.length (Nat.le_refl _)
    rw [List.take_of_length_le (Nat.le_refl _)] at this
    simpa [textP] using this
  | k + 1, h => by
    rw [textP_step (by omega), ByteArray.size_append]
    have := textP_size h0 k (by omega)
    have := flowT_size h0 (k := k) (by omega)
    omega
def c5_1 : PC := .seq (.seq (.ops [qm 6 4,q 7 (.faddr 0 (.tmp 1)),q 8 (.load1 (.tmp 7)),q 9 (.len (.tmp 8)),q 10 (.bin .lss (.tmp 6) (.tmp 9))] false) (.cond (.tmp 10) (.skip) (.exit 0))) (.seq (.block 1 (.ops [qm 13 3,q 14 (.faddr 0 (.tmp 1)),qd 15 (.load1 (.tmp 14)) 2,qm 16 4,qd 17 (.iaddr 2 (.tmp 15) (.tmp 16)) 14,qd 18 (.faddr 1 (.tmp 17)) 30,qd 19 (.load1 (.tmp 18)) 62,qd 20 (.call 15 [(.tmp 19)]) 126,qd 21 (.bin .add (.tmp 20) (.const (.string ⟨#[32]⟩))) 254,q 22 (.faddr 0 (.tmp 1)),qd 23 (.load1 (.tmp 22)) 512,qm 24 4,qd 25 (.iaddr 2 (.tmp 23) (.tmp 24)) 3584,qd 26 (.faddr 0 (.tmp 25)) 7680,qd 27 (.load1 (.tmp 26)) 15872,qd 28 (.bin .add (.tmp 21) (.tmp 27)) 32766,qd 29 (.bin .add (.tmp 28) (.const (.string ⟨#[10]⟩))) 65534,qd 30 (.bin .add (.tmp 13) (.tmp 29)) 131071,qw 3 30 262143] true)) (.ops [qm 11 4,q 12 (.bin .add (.tmp 11) (.const (.int .i64 1))),qm 4 12] false))
def c5_2 : PC := .seq (.seq (.ops [qm 31 5,q 32 (.faddr 1 (.tmp 1)),q 33 (.load1 (.tmp 32)),q 34 (.len (.tmp 33)),q 35 (.bin .lss (.tmp 31) (.tmp 34))] false) (.cond (.tmp 35) (.skip) (.exit 2))) (.seq (.block 3 (.ops [qm 38 3,q 39 (.faddr 0 (.tmp 1)),qd 40 (.load1 (.tmp 39)) 2,q 41 (.faddr 1 (.tmp 1)),qd 42 (.load1 (.tmp 41)) 8,qm 43 5,qd 44 (.iaddr 2 (.tmp 42) (.tmp 43)) 56,qd 45 (.faddr 0 (.tmp 44)) 120,qd 46 (.load1 (.tmp 45)) 248,qd 47 (.iaddr 2 (.tmp 40) (.tmp 46)) 510,qd 48 (.faddr 0 (.tmp 47)) 1022,qd 49 (.load1 (.tmp 48)) 2046,qd 50 (.bin .add (.const (.string ⟨#[102, 108, 111, 119, 32]⟩)) (.tmp 49)) 4094,qd 51 (.bin .add (.tmp 50) (.const (.string ⟨#[32]⟩))) 8190,q 52 (.faddr 0 (.tmp 1)),qd 53 (.load1 (.tmp 52)) 16384,q 54 (.faddr 1 (.tmp 1)),qd 55 (.load1 (.tmp 54)) 65536,qm 56 5,qd 57 (.iaddr 2 (.tmp 55) (.tmp 56)) 458752,qd 58 (.faddr 1 (.tmp 57)) 983040,qd 59 (.load1 (.tmp 58)) 2031616,qd 60 (.iaddr 2 (.tmp 53) (.tmp 59)) 4177920,qd 61 (.faddr 0 (.tmp 60)) 8372224,qd 62 (.load1 (.tmp 61)) 16760832,qd 63 (.bin .add (.tmp 51) (.tmp 62)) 33554430,qd 64 (.bin .add (.tmp 63) (.const (.string ⟨#[10]⟩))) 67108862,qd 65 (.bin .add (.tmp 38) (.tmp 64)) 134217727,qw 3 65 268435455] true)) (.ops [qm 36 5,q 37 (.bin .add (.tmp 36) (.const (.int .i64 1))),qm 5 37] false))
def c5 : PC := .seq (.ops [q 1 (.box (.tmp 0)),q 2 (.move (.const (.string ⟨#[]⟩)))] false) (.seq (.ops [q 3 (.move (.const (.string ⟨#[]⟩)))] false) (.seq (.seq (.ops [q 4 (.move (.const (.int .i64 0)))] false) (.block 0 (.loop c5_1))) (.seq (.seq (.ops [q 5 (.move (.const (.int .i64 0)))] false) (.block 2 (.loop c5_2))) (.seq (.ops [qm 66 3,qm 2 66] false) (.ret)))))
set_option maxRecDepth 100000 in
theorem c5_ok : FunOK Tryd.prog 5 67 [.tmp 2] c5 := ⟨⟨Tryd.f5, Tryd.func5, rfl, by kernel_rfl, rfl, by kernel_rfl⟩⟩
theorem ref_ProcessText (P : ProcD) (h0 : P.chk = 0) : PCall Tryd.prog 5 [dproc P] (.sc (.string (textP P P.flows))) := by
  refine pcall_intro c5_ok (by simp) (by simp [PureL, Pure, pure_dproc]) ?_ (by simp [Pure])
  obtain ⟨c1, c2, c3, c4⟩ := chk_right h0
  have z1 : (⟨#[32]⟩ : ByteArray).size = 1 := rfl
  have z2 : (⟨#[10]⟩ : ByteArray).size = 1 := rfl
  have z5 : (⟨#[102, 108, 111, 119, 32]⟩ : ByteArray).size = 5 := rfl
  (apply rd_sound; focus (repeat' constructor))
  ((conv=>whnf);repeat(refine⟨rfl,?_⟩;conv=>whnf))
  refine pwp_for [1] (fun k : Nat => [(3, .sc (.string (textN (P.nodes.take k)))), (4, .sc (.int .i64 k))]) (fun _ => []) (fun k => k ≤ P.nodes.length) (fun k => P.nodes.length - k) 0 ?_
  ((conv=>whnf);repeat(refine⟨rfl,?_⟩;conv=>whnf))
  refine ⟨Nat.zero_le _, by (repeat' (first | exact trivial | refine And.intro rfl ?_)), rfl, ?_⟩
  rintro k hk
  ((conv=>whnf);repeat(refine⟨rfl,?_⟩;conv=>whnf))
  (apply rd_sound; focus (repeat' constructor))
  ((conv=>whnf);repeat(refine⟨rfl,?_⟩;conv=>whnf))
  rw [List.length_map]
  (refine ifK_split (fun h1 => ?_) (fun h1 => ?_) <;> (rw [h1]; ((conv=>whnf);repeat(refine⟨rfl,?_⟩;conv=>whnf))))
  · have hk' : k < P.nodes.length := by ((try simp only[oo,reduceCtorEq]at*)<;>omega)
    obtain ⟨e1, e2, e3⟩ := c3 k hk'
    have hnd : (P.nodes.map nrow)[k]? = some (nrow P.nodes[k]) := by rw [List.getElem?_map, List.getElem?_eq_getElem hk']; rfl
    have hW := ref_KindWord (P.kind k).toNat (by omega)
    have ws := wordK_size (P.kind k).toNat (by omega)
    have ns := textN_size h0 k hk
    have nt := nodeT_size h0 hk'
    refine ⟨by omega, _, by rw [Int.toNat_natCast]; exact hnd, ?_⟩
    ((conv=>whnf);repeat(refine⟨rfl,?_⟩;conv=>whnf))
    rw [(name_at hk').2, show P.kind k = (((P.kind k).toNat : Nat) : Int) by omega]
    (refine .inl ⟨_, hW, ?_⟩; ((conv=>whnf);repeat(refine⟨rfl,?_⟩;conv=>whnf)))
    refine ⟨by simp only [ByteArray.size_append, z1, z2, z5]; omega, ?_⟩
    ((conv=>whnf);repeat(refine⟨rfl,?_⟩;conv=>whnf))
    refine ⟨by omega, _, by rw [Int.toNat_natCast]; exact hnd, ?_⟩
    ((conv=>whnf);repeat(refine⟨rfl,?_⟩;conv=>whnf))
    rw [(name_at hk').1]
    refine ⟨by simp only [ByteArray.size_append, z1, z2, z5]; omega, ?_⟩
    ((conv=>whnf);repeat(refine⟨rfl,?_⟩;conv=>whnf))
    refine ⟨by simp only [ByteArray.size_append, z1, z2, z5]; omega, ?_⟩
    ((conv=>whnf);repeat(refine⟨rfl,?_⟩;conv=>whnf))
    refine ⟨by simp only [ByteArray.size_append, z1, z2, z5]; omega, ?_⟩
    ((conv=>whnf);repeat(refine⟨rfl,?_⟩;conv=>whnf))
    (refine .inl ⟨by (unfold InR; rw [IntKind.wrap_i64]; omega), ?_⟩; ((conv=>whnf);repeat(refine⟨rfl,?_⟩;conv=>whnf)))
    refine ⟨k + 1, by omega, by dsimp only; omega, leB_envH (by dsimp only; rw [textN_step hk']; unfold nodeT; rw [(name_at hk').1, (name_at hk').2]; (repeat' (first | exact trivial | refine And.intro rfl ?_))) rfl⟩
  · have hk' : k = P.nodes.length := by ((try simp only[oo,reduceCtorEq]at*)<;>omega)
    subst hk'
    rw [List.take_of_length_le (Nat.le_refl _)]
    refine pwp_for [1] (fun k : Nat => [(3, .sc (.string (textP P (P.flows.take k)))), (5, .sc (.int .i64 k))]) (fun _ => []) (fun k => k ≤ P.flows.length) (fun k => P.flows.length - k) 0 ?_
    ((conv=>whnf);repeat(refine⟨rfl,?_⟩;conv=>whnf))
    refine ⟨Nat.zero_le _, by (repeat' (first | exact trivial | refine And.intro rfl ?_)), rfl, ?_⟩
    rintro k hk
    ((conv=>whnf);repeat(refine⟨rfl,?_⟩;conv=>whnf))
    (apply rd_sound; focus (repeat' constructor))
    ((conv=>whnf);repeat(refine⟨rfl,?_⟩;conv=>whnf))
    rw [List.length_map]
    (refine ifK_split (fun h2 => ?_) (fun h2 => ?_) <;> (rw [h2]; ((conv=>whnf);repeat(refine⟨rfl,?_⟩;conv=>whnf))))
    · have hk' : k < P.flows.length := by ((try simp only[oo,reduceCtorEq]at*)<;>omega)
      obtain ⟨e1, e2, e3, e4⟩ := c4 k hk'
      have hfl : (P.flows.map frow)[k]? = some (frow (P.src k, P.dst k)) := by rw [List.getElem?_map, List.getElem?_eq_getElem hk', flow_eq hk']; rfl
      have n1 := (c3 (P.src k).toNat (by omega)).1
      have n2 := (c3 (P.dst k).toNat (by omega)).1
      have ns := textP_size h0 k hk
      have hns : (P.nodes.map nrow)[(P.src k).toNat]? = some (nrow P.nodes[(P.src k).toNat]) := by rw [List.getElem?_map, List.getElem?_eq_getElem (by omega)]; rfl
      have hnd : (P.nodes.map nrow)[(P.dst k).toNat]? = some (nrow P.nodes[(P.dst k).toNat]) := by rw [List.getElem?_map, List.getElem?_eq_getElem (by omega)]; rfl
      refine ⟨by omega, _, by rw [Int.toNat_natCast]; exact hfl, ?_⟩
      ((conv=>whnf);repeat(refine⟨rfl,?_⟩;conv=>whnf))
      refine ⟨by omega, _, hns, ?_⟩
      ((conv=>whnf);repeat(refine⟨rfl,?_⟩;conv=>whnf))
      rw [(name_at (i := (P.src k).toNat) (by omega)).1]
      refine ⟨by simp only [ByteArray.size_append, z1, z2, z5]; omega, ?_⟩
      ((conv=>whnf);repeat(refine⟨rfl,?_⟩;conv=>whnf))
      refine ⟨by simp only [ByteArray.size_append, z1, z2, z5]; omega, ?_⟩
      ((conv=>whnf);repeat(refine⟨rfl,?_⟩;conv=>whnf))
      refine ⟨by omega, _, by rw [Int.toNat_natCast]; exact hfl, ?_⟩
      ((conv=>whnf);repeat(refine⟨rfl,?_⟩;conv=>whnf))
      refine ⟨by omega, _, hnd, ?_⟩
      ((conv=>whnf);repeat(refine⟨rfl,?_⟩;conv=>whnf))
      rw [(name_at (i := (P.dst k).toNat) (by omega)).1]
      refine ⟨by simp only [ByteArray.size_append, z1, z2, z5]; omega, ?_⟩
      ((conv=>whnf);repeat(refine⟨rfl,?_⟩;conv=>whnf))
      refine ⟨by simp only [ByteArray.size_append, z1, z2, z5]; omega, ?_⟩
      ((conv=>whnf);repeat(refine⟨rfl,?_⟩;conv=>whnf))
      refine ⟨by simp only [ByteArray.size_append, z1, z2, z5]; omega, ?_⟩
      ((conv=>whnf);repeat(refine⟨rfl,?_⟩;conv=>whnf))
      (refine .inl ⟨by (unfold InR; rw [IntKind.wrap_i64]; omega), ?_⟩; ((conv=>whnf);repeat(refine⟨rfl,?_⟩;conv=>whnf)))
      refine ⟨k + 1, by omega, by dsimp only; omega, leB_envH (by dsimp only; rw [textP_step hk']; unfold flowT; (repeat' (first | exact trivial | refine And.intro rfl ?_))) rfl⟩
    · have hk' : k = P.flows.length := by ((try simp only[oo,reduceCtorEq]at*)<;>omega)
      subst hk'
      rw [List.take_of_length_le (Nat.le_refl _)]
      exact .refl _
end Go.Proofs.YtgkodbnomgabdaaDoor
