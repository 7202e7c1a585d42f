/-
  The steps of a process. Plain Lean. No statement is proved here.
-/
import Derived.Test.YtikdngjdhncioaaPr0
namespace Go.Proofs.Ytikdngjdhncioaa

/-- A step: its node, the flow it comes by, the flows it goes by. -/
abbrev StepD := Int × Int × Int
def ones : Nat → Int
  | 0 => 0
  | k + 1 => ones k * 2 + 1
theorem ones_pow : ∀ k, ones k + 1 = 2 ^ k
  | 0 => rfl
  | k + 1 => by have := ones_pow k; simp only [ones]; rw [Int.pow_succ]; omega
theorem pow_le {k n : Nat} (h : k ≤ n) : (2 : Int) ^ k ≤ 2 ^ n := by
  have := Nat.pow_le_pow_right (n := 2) (by decide) h
  have h1 : ((2 ^ k : Nat) : Int) = 2 ^ k := by simp
  have h2 : ((2 ^ n : Nat) : Int) = 2 ^ n := by simp
  rw [← h1, ← h2]
  exact_mod_cast this
theorem pow_pos' (k : Nat) : (1 : Int) ≤ 2 ^ k := pow_le (Nat.zero_le k)
theorem ones_le {k n : Nat} (h : k ≤ n) : 0 ≤ ones k ∧ ones k ≤ ones n := by
  have h1 := ones_pow k
  have h2 := ones_pow n
  have h3 := pow_le h
  have h4 := pow_pos' k
  omega
def orS (n : Int) : Nat → List StepD
  | 0 => []
  | k + 1 => orS n k ++ [(n, -1, (k : Int) + 1)]
def xorS (n i : Int) : Nat → List StepD
  | 0 => []
  | k + 1 => xorS n i k ++ [(n, i, 2 ^ k)]
theorem orS_len (n : Int) : ∀ k, (orS n k).length = k
  | 0 => rfl
  | k + 1 => by simp [orS, orS_len n k]
theorem xorS_len (n i : Int) : ∀ k, (xorS n i k).length = k
  | 0 => rfl
  | k + 1 => by simp [xorS, xorS_len n i k]
namespace ProcD
def allO (P : ProcD) (n : Int) : Int := ones (P.outL n).length
def byIn (P : ProcD) (k : Int) (n i : Int) : List StepD := if k = 5 then xorS n i (P.outL n).length else [(n, i, P.allO n)]
/-- By the first flows in. -/
def byIns (P : ProcD) (k : Int) (n : Int) : Nat → List StepD
  | 0 => []
  | j + 1 => P.byIns k n j ++ P.byIn k n ((P.inL n).getD j 0)
def stepsOf (P : ProcD) (n : Nat) : List StepD :=
  if P.kind n = 4 ∨ P.kind n = 5 ∨ P.kind n = 2 ∨ P.kind n = 3 then P.byIns (P.kind n) n (P.inL n).length
  else if P.kind n = 6 then [((n : Int), -1, P.allO n)]
  else if P.kind n = 7 then orS n (P.allO n).toNat
  else []
def stepsTo (P : ProcD) : Nat → List StepD
  | 0 => []
  | n + 1 => P.stepsTo n ++ P.stepsOf n
theorem byIns_len (P : ProcD) (k n : Int) (ho : (P.outL n).length ≤ 30) : ∀ j, (P.byIns k n j).length ≤ 30 * j
  | 0 => by simp [byIns]
  | j + 1 => by
    have := byIns_len P k n ho j
    simp only [byIns, byIn, List.length_append]
    split
    · rw [xorS_len]; omega
    · simp; omega
theorem orO_le {P : ProcD} {n : Nat} (h : P.nodeOK n = true) (hk : P.kind n = 7) : (P.allO n).toNat ≤ 15 := by
  unfold nodeOK countsB at h
  rw [hk] at h
  simp only [if_false, if_true, Bool.and_eq_true, decide_eq_true_eq, (by decide : ¬ (7 : Int) = 1), (by decide : ¬ ((7 : Int) = 2 ∨ (7 : Int) = 3)), (by decide : ¬ (7 : Int) = 4)] at h
  have := (ones_le (k := (P.outL n).length) (n := 4) (by omega)).2
  have e : ones 4 = 15 := rfl
  unfold allO
  omega
theorem stepsOf_len {P : ProcD} {n : Nat} (h : P.nodeOK n = true) (hf : P.flows.length ≤ 30) : (P.stepsOf n).length ≤ 900 := by
  have l1 := P.inL_len n
  have l2 := P.outL_len n
  unfold stepsOf
  split
  · have := P.byIns_len (P.kind n) n (by omega) (P.inL n).length
    omega
  · split
    · simp
    · split
      · rw [orS_len]
        have := orO_le h (by assumption)
        omega
      · simp
theorem stepsTo_len {P : ProcD} (hf : P.flows.length ≤ 30) : ∀ n, (∀ i, i < n → P.nodeOK i = true) → (P.stepsTo n).length ≤ 900 * n
  | 0, _ => by simp [stepsTo]
  | n + 1, h => by
    have := stepsTo_len hf n fun i hi => h i (by omega)
    have := stepsOf_len (h n (by omega)) hf
    simp only [stepsTo, List.length_append]
    omega
theorem nodeOK_of {P : ProcD} (h : P.chk = 0) : ∀ i, i < P.nodes.length → P.nodeOK i = true := by
  unfold chk at h
  repeat' (split at h)
  all_goals first | (exact absurd h (by decide)) | (exact absurd h (by assumption)) | skip
  all_goals exact Classical.not_not.1 (by assumption)
noncomputable def stepsE (P : ProcD) : Int := if P.chk ≠ 0 then P.chk else if 60 < (P.stepsTo P.nodes.length).length then 2 else 0
noncomputable def stepsL (P : ProcD) : List StepD := if P.stepsE = 0 then P.stepsTo P.nodes.length else []
end ProcD
end Go.Proofs.Ytikdngjdhncioaa
