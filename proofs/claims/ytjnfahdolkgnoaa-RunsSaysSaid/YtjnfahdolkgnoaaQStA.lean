/-
  St0 St1 St2 St3 joined. No statement is proved here.
-/
import Derived.Test.YtjnfahdolkgnoaaQPrA
import Derived.Test.YtjnfahdolkgnoaaQFn
namespace Go.Proofs.Ytjnfahdolkgnoaa
/-! ### XSt0 -/
section

/-- A step: its node, the flow it comes by, the flows it goes by. -/
abbrev StepD := Int × Int × Int
def ones : Nat → Int
  | 0 => 0
  | k + 1 => ones k * 2 + 1
theorem ones_pow : ∀ k, ones k + 1 = 2 ^ k
  | 0 => rfl
  | k + 1 => by have := ones_pow k; simp only [ones]; rw [Int.pow_succ]; omega
theorem pow_le {k n : Nat} (h : k ≤ n) : (2 : Int) ^ k ≤ 2 ^ n := by
  have := Nat.pow_le_pow_right (n := 2) (by decide) h
  have h1 : ((2 ^ k : Nat) : Int) = 2 ^ k := by simp
  have h2 : ((2 ^ n : Nat) : Int) = 2 ^ n := by simp
  rw [← h1, ← h2]
  exact_mod_cast this
theorem pow_pos' (k : Nat) : (1 : Int) ≤ 2 ^ k := pow_le (Nat.zero_le k)
theorem ones_le {k n : Nat} (h : k ≤ n) : 0 ≤ ones k ∧ ones k ≤ ones n := by
  have h1 := ones_pow k
  have h2 := ones_pow n
  have h3 := pow_le h
  have h4 := pow_pos' k
  omega
def orS (n : Int) : Nat → List StepD
  | 0 => []
  | k + 1 => orS n k ++ [(n, -1, (k : Int) + 1)]
def xorS (n i : Int) : Nat → List StepD
  | 0 => []
  | k + 1 => xorS n i k ++ [(n, i, 2 ^ k)]
theorem orS_len (n : Int) : ∀ k, (orS n k).length = k
  | 0 => rfl
  | k + 1 => by simp [orS, orS_len n k]
theorem xorS_len (n i : Int) : ∀ k, (xorS n i k).length = k
  | 0 => rfl
  | k + 1 => by simp [xorS, xorS_len n i k]
namespace ProcD
def allO (P : ProcD) (n : Int) : Int := ones (P.outL n).length
def byIn (P : ProcD) (k : Int) (n i : Int) : List StepD := if k = 5 then xorS n i (P.outL n).length else [(n, i, P.allO n)]
/-- By the first flows in. -/
def byIns (P : ProcD) (k : Int) (n : Int) : Nat → List StepD
  | 0 => []
  | j + 1 => P.byIns k n j ++ P.byIn k n ((P.inL n).getD j 0)
def stepsOf (P : ProcD) (n : Nat) : List StepD :=
  if P.kind n = 4 ∨ P.kind n = 5 ∨ P.kind n = 2 ∨ P.kind n = 3 then P.byIns (P.kind n) n (P.inL n).length
  else if P.kind n = 6 then [((n : Int), -1, P.allO n)]
  else if P.kind n = 7 then orS n (P.allO n).toNat
  else []
def stepsTo (P : ProcD) : Nat → List StepD
  | 0 => []
  | n + 1 => P.stepsTo n ++ P.stepsOf n
theorem byIns_len (P : ProcD) (k n : Int) (ho : (P.outL n).length ≤ 30) : ∀ j, (P.byIns k n j).length ≤ 30 * j
  | 0 => by simp [byIns]
  | j + 1 => by
    have := byIns_len P k n ho j
    simp only [byIns, byIn, List.length_append]
    split
    · rw [xorS_len]; omega
    · simp; omega
theorem orO_le {P : ProcD} {n : Nat} (h : P.nodeOK n = true) (hk : P.kind n = 7) : (P.allO n).toNat ≤ 15 := by
  unfold nodeOK countsB at h
  rw [hk] at h
  simp only [if_false, if_true, Bool.and_eq_true, decide_eq_true_eq, (by decide : ¬ (7 : Int) = 1), (by decide : ¬ ((7 : Int) = 2 ∨ (7 : Int) = 3)), (by decide : ¬ (7 : Int) = 4)] at h
  have := (ones_le (k := (P.outL n).length) (n := 4) (by omega)).2
  have e : ones 4 = 15 := rfl
  unfold allO
  omega
theorem stepsOf_len {P : ProcD} {n : Nat} (h : P.nodeOK n = true) (hf : P.flows.length ≤ 30) : (P.stepsOf n).length ≤ 900 := by
  have l1 := P.inL_len n
  have l2 := P.outL_len n
  unfold stepsOf
  split
  · have := P.byIns_len (P.kind n) n (by omega) (P.inL n).length
    omega
  · split
    · simp
    · split
      · rw [orS_len]
        have := orO_le h (by assumption)
        omega
      · simp
theorem stepsTo_len {P : ProcD} (hf : P.flows.length ≤ 30) : ∀ n, (∀ i, i < n → P.nodeOK i = true) → (P.stepsTo n).length ≤ 900 * n
  | 0, _ => by simp [stepsTo]
  | n + 1, h => by
    have := stepsTo_len hf n fun i hi => h i (by omega)
    have := stepsOf_len (h n (by omega)) hf
    simp only [stepsTo, List.length_append]
    omega
theorem nodeOK_of {P : ProcD} (h : P.chk = 0) : ∀ i, i < P.nodes.length → P.nodeOK i = true := by
  unfold chk at h
  repeat' (split at h)
  all_goals first | (exact absurd h (by decide)) | (exact absurd h (by assumption)) | skip
  all_goals exact Classical.not_not.1 (by assumption)
noncomputable def stepsE (P : ProcD) : Int := if P.chk ≠ 0 then P.chk else if 60 < (P.stepsTo P.nodes.length).length then 2 else 0
noncomputable def stepsL (P : ProcD) : List StepD := if P.stepsE = 0 then P.stepsTo P.nodes.length else []
end ProcD
end

/-! ### XSt1 -/
section
open Go.RowKit
set_option linter.unusedSimpArgs false
set_option linter.unusedVariables false
def srow (x : StepD) : List D := [.sc (.int .i64 x.1), .sc (.int .i64 x.2.1), .sc (.int .i64 x.2.2)]
def srows (l : List StepD) : List (List D) := l.map srow
def dsteps (l : List StepD) : D := .lst 3 (srows l)
theorem pure_srow (x : StepD) : PureL (srow x) := by simp [srow, PureL, Pure]
theorem pure_srows (l : List StepD) : PureLL (srows l) := pureLL_map _ pure_srow l
theorem pure_dsteps (l : List StepD) : Pure (dsteps l) := by simp [dsteps, Pure, pure_srows]
theorem srows_len (l : List StepD) : (srows l).length = l.length := by simp [srows]
@[simp] theorem underL_srow {m : Nat} (x : StepD) : UnderL m (srow x) ↔ True := ⟨fun _ => trivial, fun _ => underL_pure _ (pure_srow x)⟩
@[simp] theorem underLL_srows {m : Nat} (l : List StepD) : UnderLL m (srows l) ↔ True := ⟨fun _ => trivial, fun _ => underLL_pure _ (pure_srows l)⟩
theorem srow_snoc {l : List StepD} {c : Nat} {x y z : Int} (h : c = l.length) : List.drop 0 (List.take c (srows l)) ++ [[D.sc (.int .i64 x), D.sc (.int .i64 y), D.sc (.int .i64 z)]] = srows (l ++ [(x, y, z)]) := by
  subst h
  rw [drop_take_all (by simp [srows])]
  simp [srows, srow]
theorem srow_app {l r : List StepD} {c : Nat} (h : c = l.length) : List.drop 0 (List.take c (srows l)) ++ srows r = srows (l ++ r) := by
  subst h
  rw [drop_take_all (by simp [srows])]
  simp [srows]
theorem deep_steps {H : List AObj} {id v n : Nat} {q : Bool} {l : List StepD} (hn : n = l.length) (h : H[id]? = some (.vec q v 3 (srows l))) : Deep H (.own id v 0 n) (dsteps l) := by
  subst hn
  exact .own _ _ _ _ _ _ _ _ h (by rw [drop_take_all (by simp [srows])]; exact deepLL_refl _)
theorem shl_fit {z : Int} {k : Nat} (hk : z = k) (h : k ≤ 30) : (1 : Int) * 2 ^ min z.toNat IntKind.i64.bits = 2 ^ k := by
  subst hk
  show (1 : Int) * 2 ^ min (k : Int).toNat 64 = 2 ^ k
  rw [Int.one_mul, Int.toNat_natCast, Nat.min_eq_left (by omega)]
theorem pow30 {k : Nat} (h : k ≤ 30) : (1 : Int) ≤ 2 ^ k ∧ (2 : Int) ^ k ≤ 1073741824 := ⟨pow_pos' k, pow_le (n := 30) h⟩
def c71_1 : PC := .seq (.ops [⟨(some 46), .bin .lss (.tmp 45) (.tmp 44), none, 0⟩] false) (.seq (.cond (.tmp 46) (.skip) (.exit 1)) (.seq (.block 2 (.seq (.ops [⟨(some 47), .iaddr 1 (.tmp 43) (.tmp 45), none, 0⟩,
    ⟨(some 48), .load1 (.tmp 47), none, 0⟩,
    ⟨(some 12), .move (.tmp 48), none, 0⟩] false) (.ops [⟨(some 49), .move (.tmp 10), none, 0⟩,
    ⟨(some 50), .move (.tmp 1), none, 0⟩,
    ⟨(some 51), .move (.tmp 12), none, 0⟩,
    ⟨(some 52), .move (.tmp 9), none, 0⟩,
    ⟨(some 53), .build [(.int .i64 0), (.int .i64 0), (.int .i64 0)] [(0, 1, (.tmp 50)), (1, 1, (.tmp 51)), (2, 1, (.tmp 52))], none, 0⟩,
    ⟨(some 54), .bslice 3 1 [(.tmp 53)], none, 0⟩,
    ⟨(some 55), .append 3 24 (.tmp 49) (.tmp 54), none, 0⟩,
    ⟨(some 10), .move (.tmp 55), none, 0⟩] false))) (.ops [⟨(some 56), .bin .add (.tmp 45) (.const (.int .i64 1)), none, 0⟩,
    ⟨(some 45), .move (.tmp 56), none, 0⟩] false)))
def c71_3 : PC := .seq (.ops [⟨(some 68), .bin .lss (.tmp 67) (.tmp 66), none, 0⟩] false) (.seq (.cond (.tmp 68) (.skip) (.exit 5)) (.seq (.block 6 (.seq (.ops [⟨(some 69), .move (.tmp 67), none, 0⟩,
    ⟨(some 15), .move (.tmp 69), none, 0⟩] false) (.ops [⟨(some 70), .move (.tmp 10), none, 0⟩,
    ⟨(some 71), .move (.tmp 1), none, 0⟩,
    ⟨(some 72), .move (.tmp 14), none, 0⟩,
    ⟨(some 73), .move (.tmp 15), none, 0⟩,
    ⟨(some 74), .bin .shl (.const (.int .i64 1)) (.tmp 73), none, 0⟩,
    ⟨(some 75), .build [(.int .i64 0), (.int .i64 0), (.int .i64 0)] [(0, 1, (.tmp 71)), (1, 1, (.tmp 72)), (2, 1, (.tmp 74))], none, 0⟩,
    ⟨(some 76), .bslice 3 1 [(.tmp 75)], none, 0⟩,
    ⟨(some 77), .append 3 24 (.tmp 70) (.tmp 76), none, 0⟩,
    ⟨(some 10), .move (.tmp 77), none, 0⟩] false))) (.ops [⟨(some 78), .bin .add (.tmp 67) (.const (.int .i64 1)), none, 0⟩,
    ⟨(some 67), .move (.tmp 78), none, 0⟩] false)))
def c71_2 : PC := .seq (.ops [⟨(some 62), .bin .lss (.tmp 61) (.tmp 60), none, 0⟩] false) (.seq (.cond (.tmp 62) (.skip) (.exit 3)) (.seq (.block 4 (.seq (.ops [⟨(some 63), .iaddr 1 (.tmp 59) (.tmp 61), none, 0⟩,
    ⟨(some 64), .load1 (.tmp 63), none, 0⟩,
    ⟨(some 14), .move (.tmp 64), none, 0⟩] false) (.seq (.ops [⟨(some 65), .move (.tmp 7), none, 0⟩,
    ⟨(some 66), .len (.tmp 65), none, 0⟩,
    ⟨(some 67), .move (.const (.int .i64 0)), none, 0⟩] false) (.block 5 (.loop c71_3))))) (.ops [⟨(some 79), .bin .add (.tmp 61) (.const (.int .i64 1)), none, 0⟩,
    ⟨(some 61), .move (.tmp 79), none, 0⟩] false)))
def c71_4 : PC := .seq (.seq (.ops [⟨(some 90), .move (.tmp 16), none, 0⟩,
    ⟨(some 91), .move (.tmp 9), none, 0⟩,
    ⟨(some 92), .bin .leq (.tmp 90) (.tmp 91), none, 0⟩] false) (.cond (.tmp 92) (.skip) (.exit 7))) (.seq (.block 8 (.ops [⟨(some 95), .move (.tmp 10), none, 0⟩,
    ⟨(some 96), .move (.tmp 1), none, 0⟩,
    ⟨(some 97), .move (.tmp 16), none, 0⟩,
    ⟨(some 98), .build [(.int .i64 0), (.int .i64 0), (.int .i64 0)] [(0, 1, (.tmp 96)), (1, 1, (.const (.int .i64 (-1)))), (2, 1, (.tmp 97))], none, 0⟩,
    ⟨(some 99), .bslice 3 1 [(.tmp 98)], none, 0⟩,
    ⟨(some 100), .append 3 24 (.tmp 95) (.tmp 99), none, 0⟩,
    ⟨(some 10), .move (.tmp 100), none, 0⟩] false)) (.ops [⟨(some 93), .move (.tmp 16), none, 0⟩,
    ⟨(some 94), .bin .add (.tmp 93) (.const (.int .i64 1)), none, 0⟩,
    ⟨(some 16), .move (.tmp 94), none, 0⟩] false))
def c71 : PC := .seq (.ops [⟨(some 2), .box (.tmp 0), none, 0⟩,
    ⟨(some 4), .move (.const (.slice none 0 0)), none, 0⟩] false) (.seq (.ops [⟨(some 18), .loadA 2 (.tmp 2), none, 0⟩,
    ⟨(some 19), .move (.tmp 1), none, 0⟩,
    ⟨(some 20), .call 97 [(.tmp 18), (.tmp 19)], none, 0⟩,
    ⟨(some 17), .move (.tmp 20), none, 0⟩,
    ⟨(some 21), .ext 0 (.tmp 17), none, 0⟩,
    ⟨(some 22), .ext 1 (.tmp 17), none, 0⟩,
    ⟨(some 5), .move (.tmp 21), none, 0⟩,
    ⟨(some 6), .move (.tmp 22), none, 0⟩] false) (.seq (.ops [⟨(some 24), .loadA 2 (.tmp 2), none, 0⟩,
    ⟨(some 25), .move (.tmp 1), none, 0⟩,
    ⟨(some 26), .call 98 [(.tmp 24), (.tmp 25)], none, 0⟩,
    ⟨(some 23), .move (.tmp 26), none, 0⟩,
    ⟨(some 27), .ext 0 (.tmp 23), none, 0⟩,
    ⟨(some 28), .ext 1 (.tmp 23), none, 0⟩,
    ⟨(some 7), .move (.tmp 27), none, 0⟩,
    ⟨(some 8), .move (.tmp 28), none, 0⟩] false) (.seq (.ops [⟨(some 29), .move (.tmp 7), none, 0⟩,
    ⟨(some 30), .len (.tmp 29), none, 0⟩,
    ⟨(some 31), .bin .shl (.const (.int .i64 1)) (.tmp 30), none, 0⟩,
    ⟨(some 32), .bin .sub (.tmp 31) (.const (.int .i64 1)), none, 0⟩,
    ⟨(some 9), .move (.tmp 32), none, 0⟩] false) (.seq (.ops [⟨(some 10), .move (.const (.slice none 0 0)), none, 0⟩] false) (.seq (.seq (.ops [⟨(some 33), .faddr 0 (.tmp 2), none, 0⟩,
    ⟨(some 34), .load1 (.tmp 33), none, 0⟩,
    ⟨(some 35), .move (.tmp 1), none, 0⟩,
    ⟨(some 36), .iaddr 2 (.tmp 34) (.tmp 35), none, 0⟩,
    ⟨(some 37), .faddr 1 (.tmp 36), none, 0⟩,
    ⟨(some 38), .load1 (.tmp 37), none, 0⟩] false) (.block 0 (.seq (.seq (.ops [⟨(some 40), .bin .eql (.tmp 38) (.const (.int .i64 4)), none, 0⟩,
    ⟨(some 39), .move (.tmp 40), none, 0⟩] false) (.cond (.tmp 39) (.skip) (.seq (.ops [⟨(some 41), .bin .eql (.tmp 38) (.const (.int .i64 2)), none, 0⟩,
    ⟨(some 39), .move (.tmp 41), none, 0⟩] false) (.cond (.tmp 39) (.skip) (.ops [⟨(some 42), .bin .eql (.tmp 38) (.const (.int .i64 3)), none, 0⟩,
    ⟨(some 39), .move (.tmp 42), none, 0⟩] false))))) (.cond (.tmp 39) (.seq (.ops [⟨(some 43), .move (.tmp 5), none, 0⟩,
    ⟨(some 44), .len (.tmp 43), none, 0⟩,
    ⟨(some 45), .move (.const (.int .i64 0)), none, 0⟩] false) (.block 1 (.loop c71_1))) (.seq (.ops [⟨(some 58), .bin .eql (.tmp 38) (.const (.int .i64 5)), none, 0⟩,
    ⟨(some 57), .move (.tmp 58), none, 0⟩] false) (.cond (.tmp 57) (.seq (.ops [⟨(some 59), .move (.tmp 5), none, 0⟩,
    ⟨(some 60), .len (.tmp 59), none, 0⟩,
    ⟨(some 61), .move (.const (.int .i64 0)), none, 0⟩] false) (.block 3 (.loop c71_2))) (.seq (.ops [⟨(some 81), .bin .eql (.tmp 38) (.const (.int .i64 6)), none, 0⟩,
    ⟨(some 80), .move (.tmp 81), none, 0⟩] false) (.cond (.tmp 80) (.ops [⟨(some 82), .move (.tmp 10), none, 0⟩,
    ⟨(some 83), .move (.tmp 1), none, 0⟩,
    ⟨(some 84), .move (.tmp 9), none, 0⟩,
    ⟨(some 85), .build [(.int .i64 0), (.int .i64 0), (.int .i64 0)] [(0, 1, (.tmp 83)), (1, 1, (.const (.int .i64 (-1)))), (2, 1, (.tmp 84))], none, 0⟩,
    ⟨(some 86), .bslice 3 1 [(.tmp 85)], none, 0⟩,
    ⟨(some 87), .append 3 24 (.tmp 82) (.tmp 86), none, 0⟩,
    ⟨(some 10), .move (.tmp 87), none, 0⟩] false) (.seq (.ops [⟨(some 89), .bin .eql (.tmp 38) (.const (.int .i64 7)), none, 0⟩,
    ⟨(some 88), .move (.tmp 89), none, 0⟩] false) (.cond (.tmp 88) (.seq (.ops [⟨(some 16), .move (.const (.int .i64 1)), none, 0⟩] false) (.block 7 (.loop c71_4))) (.skip))))))))))) (.seq (.ops [⟨(some 101), .move (.tmp 10), none, 0⟩,
    ⟨(some 4), .move (.tmp 101), none, 0⟩] false) (.ret)))))))
set_option maxRecDepth 100000 in
theorem c71_ok : FunOK Try.prog 71 102 [.tmp 4] c71 := ⟨⟨Try.f71, Try.func71, rfl, by kernel_rfl, rfl, by kernel_rfl⟩⟩
set_option maxRecDepth 100000 in
theorem steps_of (P : ProcD) (hP : P.Fits) (h0 : P.chk = 0) (n : Nat) (hn : n < P.nodes.length) : PCall Try.prog 71 [dproc P, .sc (.int .i64 n)] (dsteps (P.stepsOf n)) := by
  obtain ⟨hs1, hs2⟩ := chk_small h0
  have l1 := P.inL_len n
  have l2 := P.outL_len n
  have hE : P.listE n = 0 := by unfold ProcD.listE; rw [if_neg (by omega), if_neg (by omega)]
  have hI := proc_Ins P hP n
  have hO := proc_Outs P hP n
  rw [show P.insT n = P.inL n from by unfold ProcD.insT; rw [if_pos hE], hE] at hI
  rw [show P.outsT n = P.outL n from by unfold ProcD.outsT; rw [if_pos hE], hE] at hO
  have hok := ProcD.nodeOK_of h0 n hn
  refine pcall_intro c71_ok (by simp) (by simp [PureL, Pure, pure_dproc]) ?_ (pure_dsteps _)
  (apply rd_sound; focus (repeat' constructor))
  ((conv=>whnf);repeat(refine And.intro rfl ?_;(conv=>whnf)))
  (refine .inl ⟨_, hI, ?_⟩; ((conv=>whnf);repeat(refine And.intro rfl ?_;(conv=>whnf))))
  (refine .inl ⟨_, hO, ?_⟩; ((conv=>whnf);repeat(refine And.intro rfl ?_;(conv=>whnf))))
  have e2 := ones_pow (P.outL n).length
  have e3 := pow30 (k := (P.outL n).length) (by omega)
  have ea : ones (P.outL n).length = P.allO n := rfl
  have ei : ∀ k, P.byIns (P.kind n) n (k + 1) = P.byIns (P.kind n) n k ++ P.byIn (P.kind n) n ((P.inL n).getD k 0) := fun k => rfl
  rw [ea] at e2
  refine ⟨by omega, ?_⟩
  rw [List.length_map, shl_fit (k := (P.outL n).length) rfl (by omega)]
  (refine .inl ⟨by (unfold InR; rw [IntKind.wrap_i64]; omega), ?_⟩; ((conv=>whnf);repeat(refine And.intro rfl ?_;(conv=>whnf))))
  (refine .inl ⟨by (unfold InR; rw [IntKind.wrap_i64]; omega), ?_⟩; ((conv=>whnf);repeat(refine And.intro rfl ?_;(conv=>whnf))))
  rw [← e2, Int.add_sub_cancel]
  refine ⟨by omega, _, node_at P (k := n) (by omega) hn, ?_⟩
  ((conv=>whnf);repeat(refine And.intro rfl ?_;(conv=>whnf)))
  have eS : P.stepsOf n = if P.kind n = 4 ∨ P.kind n = 5 ∨ P.kind n = 2 ∨ P.kind n = 3 then P.byIns (P.kind n) n (P.inL n).length
    else if P.kind n = 6 then [((n : Int), -1, P.allO n)] else if P.kind n = 7 then orS n (P.allO n).toNat else [] := rfl
  (refine ifK_split (fun h4 => ?_) (fun h4 => ?_) <;> (rw [h4]; ((conv=>whnf);repeat(refine And.intro rfl ?_;(conv=>whnf)))))
  · have h4 : P.kind n = 4 := by ((try simp only [oo, reduceCtorEq] at *) <;> omega)
    rw [if_pos (by omega)] at eS
    have e5 : ∀ i : Int, P.byIn (P.kind n) n i = [((n : Int), i, P.allO n)] := fun i => by unfold ProcD.byIn; rw [if_neg (by omega)]
    ((conv=>whnf);repeat(refine And.intro rfl ?_;(conv=>whnf)))
    rw [List.length_map]
    refine pwp_ghostB (leB_nil 10 3 (by simp) rfl) ?_
    refine pwp_for [1, 9, 43, 44] (fun ((k, c, l) : Nat × Nat × List StepD) => [(10, .own 1 c 0 c), (45, .sc (.int .i64 k))]) (fun (k, c, l) => [(1, .vec true c 3 (srows l))]) (fun (k, c, l) => k ≤ (P.inL n).length ∧ c = l.length ∧ c = k ∧ l = P.byIns (P.kind n) n k) (fun (k, c, l) => (P.inL n).length - k) (0, 0, []) ?_
    ((conv=>whnf);repeat(refine And.intro rfl ?_;(conv=>whnf)))
    refine ⟨⟨by omega, rfl, rfl, rfl⟩, by (repeat' (first | exact trivial | refine And.intro rfl ?_)), rfl, ?_⟩
    rintro ⟨k, c, l⟩ ⟨hk, hc, hck, hl⟩
    ((conv=>whnf);repeat(refine And.intro rfl ?_;(conv=>whnf)))
    (apply rd_sound; focus (repeat' constructor))
    ((conv=>whnf);repeat(refine And.intro rfl ?_;(conv=>whnf)))
    (refine ifK_split (fun h1 => ?_) (fun h1 => ?_) <;> (rw [h1]; ((conv=>whnf);repeat(refine And.intro rfl ?_;(conv=>whnf)))))
    · have hk' : k < (P.inL n).length := by ((try simp only [oo, reduceCtorEq] at *) <;> omega)
      refine ⟨by omega, _, intsD_at (k := k) (by omega) hk', ?_⟩
      ((conv=>whnf);repeat(refine And.intro rfl ?_;(conv=>whnf)))
      refine ⟨(by unfold sliceAppend; simp only [ll]; omega), ?_⟩
      ((conv=>whnf);repeat(refine And.intro rfl ?_;(conv=>whnf)))
      (refine .inl ⟨by (unfold InR; rw [IntKind.wrap_i64]; omega), ?_⟩; ((conv=>whnf);repeat(refine And.intro rfl ?_;(conv=>whnf))))
      refine ⟨(k + 1, c + 1, l ++ [((n : Int), (P.inL n).getD k 0, P.allO n)]), ⟨by omega, by simp [hc], by omega, by rw [ei, e5, hl]⟩, by dsimp only; omega, ?_⟩
      (refine leB_close 2 (by simp) rfl ?_ ?_ <;> (repeat' (first | exact trivial | exact rfl | exact DeepM.refl _ | exact DeepML.refl _ | exact DeepMLL.refl _ | refine And.intro ?_ ?_ | (simp [Under, UnderL, UnderLL, -List.map_take, -List.map_drop]; done))))
      exact deepMLL_eq (srow_snoc hc)
    · have hk' : k = (P.inL n).length := by have : ¬ k < (P.inL n).length := by ((try simp only [oo, reduceCtorEq] at *) <;> omega)
                                            omega
      subst hk'
      rw [eS, ← hl]
      exact deep_steps hc rfl
  have h4 : P.kind n ≠ 4 := by ((try simp only [oo, reduceCtorEq] at *) <;> omega)
  (refine ifK_split (fun h2 => ?_) (fun h2 => ?_) <;> (rw [h2]; ((conv=>whnf);repeat(refine And.intro rfl ?_;(conv=>whnf)))))
  · have h2 : P.kind n = 2 := by ((try simp only [oo, reduceCtorEq] at *) <;> omega)
    rw [if_pos (by omega)] at eS
    have e5 : ∀ i : Int, P.byIn (P.kind n) n i = [((n : Int), i, P.allO n)] := fun i => by unfold ProcD.byIn; rw [if_neg (by omega)]
    ((conv=>whnf);repeat(refine And.intro rfl ?_;(conv=>whnf)))
    rw [List.length_map]
    refine pwp_ghostB (leB_nil 10 3 (by simp) rfl) ?_
    refine pwp_for [1, 9, 43, 44] (fun ((k, c, l) : Nat × Nat × List StepD) => [(10, .own 1 c 0 c), (45, .sc (.int .i64 k))]) (fun (k, c, l) => [(1, .vec true c 3 (srows l))]) (fun (k, c, l) => k ≤ (P.inL n).length ∧ c = l.length ∧ c = k ∧ l = P.byIns (P.kind n) n k) (fun (k, c, l) => (P.inL n).length - k) (0, 0, []) ?_
    ((conv=>whnf);repeat(refine And.intro rfl ?_;(conv=>whnf)))
    refine ⟨⟨by omega, rfl, rfl, rfl⟩, by (repeat' (first | exact trivial | refine And.intro rfl ?_)), rfl, ?_⟩
    rintro ⟨k, c, l⟩ ⟨hk, hc, hck, hl⟩
    ((conv=>whnf);repeat(refine And.intro rfl ?_;(conv=>whnf)))
    (apply rd_sound; focus (repeat' constructor))
    ((conv=>whnf);repeat(refine And.intro rfl ?_;(conv=>whnf)))
    (refine ifK_split (fun h1 => ?_) (fun h1 => ?_) <;> (rw [h1]; ((conv=>whnf);repeat(refine And.intro rfl ?_;(conv=>whnf)))))
    · have hk' : k < (P.inL n).length := by ((try simp only [oo, reduceCtorEq] at *) <;> omega)
      refine ⟨by omega, _, intsD_at (k := k) (by omega) hk', ?_⟩
      ((conv=>whnf);repeat(refine And.intro rfl ?_;(conv=>whnf)))
      refine ⟨(by unfold sliceAppend; simp only [ll]; omega), ?_⟩
      ((conv=>whnf);repeat(refine And.intro rfl ?_;(conv=>whnf)))
      (refine .inl ⟨by (unfold InR; rw [IntKind.wrap_i64]; omega), ?_⟩; ((conv=>whnf);repeat(refine And.intro rfl ?_;(conv=>whnf))))
      refine ⟨(k + 1, c + 1, l ++ [((n : Int), (P.inL n).getD k 0, P.allO n)]), ⟨by omega, by simp [hc], by omega, by rw [ei, e5, hl]⟩, by dsimp only; omega, ?_⟩
      (refine leB_close 2 (by simp) rfl ?_ ?_ <;> (repeat' (first | exact trivial | exact rfl | exact DeepM.refl _ | exact DeepML.refl _ | exact DeepMLL.refl _ | refine And.intro ?_ ?_ | (simp [Under, UnderL, UnderLL, -List.map_take, -List.map_drop]; done))))
      exact deepMLL_eq (srow_snoc hc)
    · have hk' : k = (P.inL n).length := by have : ¬ k < (P.inL n).length := by ((try simp only [oo, reduceCtorEq] at *) <;> omega)
                                            omega
      subst hk'
      rw [eS, ← hl]
      exact deep_steps hc rfl
  have h2 : P.kind n ≠ 2 := by ((try simp only [oo, reduceCtorEq] at *) <;> omega)
  (refine ifK_split (fun h3 => ?_) (fun h3 => ?_) <;> (rw [h3]; ((conv=>whnf);repeat(refine And.intro rfl ?_;(conv=>whnf)))))
  · have h3 : P.kind n = 3 := by ((try simp only [oo, reduceCtorEq] at *) <;> omega)
    rw [if_pos (by omega)] at eS
    have e5 : ∀ i : Int, P.byIn (P.kind n) n i = [((n : Int), i, P.allO n)] := fun i => by unfold ProcD.byIn; rw [if_neg (by omega)]
    ((conv=>whnf);repeat(refine And.intro rfl ?_;(conv=>whnf)))
    rw [List.length_map]
    refine pwp_ghostB (leB_nil 10 3 (by simp) rfl) ?_
    refine pwp_for [1, 9, 43, 44] (fun ((k, c, l) : Nat × Nat × List StepD) => [(10, .own 1 c 0 c), (45, .sc (.int .i64 k))]) (fun (k, c, l) => [(1, .vec true c 3 (srows l))]) (fun (k, c, l) => k ≤ (P.inL n).length ∧ c = l.length ∧ c = k ∧ l = P.byIns (P.kind n) n k) (fun (k, c, l) => (P.inL n).length - k) (0, 0, []) ?_
    ((conv=>whnf);repeat(refine And.intro rfl ?_;(conv=>whnf)))
    refine ⟨⟨by omega, rfl, rfl, rfl⟩, by (repeat' (first | exact trivial | refine And.intro rfl ?_)), rfl, ?_⟩
    rintro ⟨k, c, l⟩ ⟨hk, hc, hck, hl⟩
    ((conv=>whnf);repeat(refine And.intro rfl ?_;(conv=>whnf)))
    (apply rd_sound; focus (repeat' constructor))
    ((conv=>whnf);repeat(refine And.intro rfl ?_;(conv=>whnf)))
    (refine ifK_split (fun h1 => ?_) (fun h1 => ?_) <;> (rw [h1]; ((conv=>whnf);repeat(refine And.intro rfl ?_;(conv=>whnf)))))
    · have hk' : k < (P.inL n).length := by ((try simp only [oo, reduceCtorEq] at *) <;> omega)
      refine ⟨by omega, _, intsD_at (k := k) (by omega) hk', ?_⟩
      ((conv=>whnf);repeat(refine And.intro rfl ?_;(conv=>whnf)))
      refine ⟨(by unfold sliceAppend; simp only [ll]; omega), ?_⟩
      ((conv=>whnf);repeat(refine And.intro rfl ?_;(conv=>whnf)))
      (refine .inl ⟨by (unfold InR; rw [IntKind.wrap_i64]; omega), ?_⟩; ((conv=>whnf);repeat(refine And.intro rfl ?_;(conv=>whnf))))
      refine ⟨(k + 1, c + 1, l ++ [((n : Int), (P.inL n).getD k 0, P.allO n)]), ⟨by omega, by simp [hc], by omega, by rw [ei, e5, hl]⟩, by dsimp only; omega, ?_⟩
      (refine leB_close 2 (by simp) rfl ?_ ?_ <;> (repeat' (first | exact trivial | exact rfl | exact DeepM.refl _ | exact DeepML.refl _ | exact DeepMLL.refl _ | refine And.intro ?_ ?_ | (simp [Under, UnderL, UnderLL, -List.map_take, -List.map_drop]; done))))
      exact deepMLL_eq (srow_snoc hc)
    · have hk' : k = (P.inL n).length := by have : ¬ k < (P.inL n).length := by ((try simp only [oo, reduceCtorEq] at *) <;> omega)
                                            omega
      subst hk'
      rw [eS, ← hl]
      exact deep_steps hc rfl
  have h3 : P.kind n ≠ 3 := by ((try simp only [oo, reduceCtorEq] at *) <;> omega)
  (refine ifK_split (fun h5 => ?_) (fun h5 => ?_) <;> (rw [h5]; ((conv=>whnf);repeat(refine And.intro rfl ?_;(conv=>whnf)))))
  · have h5 : P.kind n = 5 := by ((try simp only [oo, reduceCtorEq] at *) <;> omega)
    rw [if_pos (by omega)] at eS
    have e5 : ∀ i : Int, P.byIn (P.kind n) n i = xorS n i (P.outL n).length := fun i => by unfold ProcD.byIn; rw [if_pos h5]
    ((conv=>whnf);repeat(refine And.intro rfl ?_;(conv=>whnf)))
    rw [List.length_map]
    refine pwp_ghostB (leB_nil 10 3 (by simp) rfl) ?_
    refine pwp_for [1, 7, 59, 60] (fun ((k, c, l) : Nat × Nat × List StepD) => [(10, .own 1 c 0 c), (61, .sc (.int .i64 k))]) (fun (k, c, l) => [(1, .vec true c 3 (srows l))]) (fun (k, c, l) => k ≤ (P.inL n).length ∧ c = l.length ∧ l = P.byIns (P.kind n) n k) (fun (k, c, l) => (P.inL n).length - k) (0, 0, []) ?_
    ((conv=>whnf);repeat(refine And.intro rfl ?_;(conv=>whnf)))
    refine ⟨⟨by omega, rfl, rfl⟩, by (repeat' (first | exact trivial | refine And.intro rfl ?_)), rfl, ?_⟩
    rintro ⟨k, c, l⟩ ⟨hk, hc, hl⟩
    ((conv=>whnf);repeat(refine And.intro rfl ?_;(conv=>whnf)))
    (apply rd_sound; focus (repeat' constructor))
    ((conv=>whnf);repeat(refine And.intro rfl ?_;(conv=>whnf)))
    (refine ifK_split (fun h1 => ?_) (fun h1 => ?_) <;> (rw [h1]; ((conv=>whnf);repeat(refine And.intro rfl ?_;(conv=>whnf)))))
    · have hk' : k < (P.inL n).length := by ((try simp only [oo, reduceCtorEq] at *) <;> omega)
      refine ⟨by omega, _, intsD_at (k := k) (by omega) hk', ?_⟩
      ((conv=>whnf);repeat(refine And.intro rfl ?_;(conv=>whnf)))
      rw [List.length_map]
      have b1 := P.byIns_len (P.kind n) n (by omega) k
      have b2 : l.length = (P.byIns (P.kind n) n k).length := by rw [hl]
      refine pwp_for [1, 7, 14, 59, 60, 61, 66] (fun ((j, c', m) : Nat × Nat × List StepD) => [(10, .own 1 c' 0 c'), (67, .sc (.int .i64 j))]) (fun (j, c', m) => [(1, .vec true c' 3 (srows m))]) (fun (j, c', m) => j ≤ (P.outL n).length ∧ c' = m.length ∧ c' = l.length + j ∧ m = l ++ xorS n ((P.inL n).getD k 0) j) (fun (j, c', m) => (P.outL n).length - j) (0, c, l) ?_
      ((conv=>whnf);repeat(refine And.intro rfl ?_;(conv=>whnf)))
      refine ⟨⟨by omega, hc, hc, (List.append_nil l).symm⟩, by (repeat' (first | exact trivial | refine And.intro rfl ?_)), rfl, ?_⟩
      rintro ⟨j, c', m⟩ ⟨hj, hc', hcj, hm⟩
      ((conv=>whnf);repeat(refine And.intro rfl ?_;(conv=>whnf)))
      (apply rd_sound; focus (repeat' constructor))
      ((conv=>whnf);repeat(refine And.intro rfl ?_;(conv=>whnf)))
      (refine ifK_split (fun h6 => ?_) (fun h6 => ?_) <;> (rw [h6]; ((conv=>whnf);repeat(refine And.intro rfl ?_;(conv=>whnf)))))
      · have hj' : j < (P.outL n).length := by ((try simp only [oo, reduceCtorEq] at *) <;> omega)
        refine ⟨by omega, ?_⟩
        rw [shl_fit (k := j) rfl (by omega)]
        have e4 := pow30 (k := j) (by omega)
        (refine .inl ⟨by (unfold InR; rw [IntKind.wrap_i64]; omega), ?_⟩; ((conv=>whnf);repeat(refine And.intro rfl ?_;(conv=>whnf))))
        refine ⟨(by unfold sliceAppend; simp only [ll]; omega), ?_⟩
        ((conv=>whnf);repeat(refine And.intro rfl ?_;(conv=>whnf)))
        (refine .inl ⟨by (unfold InR; rw [IntKind.wrap_i64]; omega), ?_⟩; ((conv=>whnf);repeat(refine And.intro rfl ?_;(conv=>whnf))))
        refine ⟨(j + 1, c' + 1, m ++ [((n : Int), (P.inL n).getD k 0, 2 ^ j)]), ⟨by omega, by simp [hc'], by omega, by rw [hm, List.append_assoc]; rfl⟩, by dsimp only; omega, ?_⟩
        (refine leB_close 2 (by simp) rfl ?_ ?_ <;> (repeat' (first | exact trivial | exact rfl | exact DeepM.refl _ | exact DeepML.refl _ | exact DeepMLL.refl _ | refine And.intro ?_ ?_ | (simp [Under, UnderL, UnderLL, -List.map_take, -List.map_drop]; done))))
        exact deepMLL_eq (srow_snoc hc')
      · have hj' : j = (P.outL n).length := by have : ¬ j < (P.outL n).length := by ((try simp only [oo, reduceCtorEq] at *) <;> omega)
                                               omega
        subst hj'
        (refine .inl ⟨by (unfold InR; rw [IntKind.wrap_i64]; omega), ?_⟩; ((conv=>whnf);repeat(refine And.intro rfl ?_;(conv=>whnf))))
        refine ⟨(k + 1, c', m), ⟨by omega, hc', by rw [ei, e5, hm, hl]⟩, by dsimp only; omega, ?_⟩
        (refine leB_close 2 (by simp) rfl ?_ ?_ <;> (repeat' (first | exact trivial | exact rfl | exact DeepM.refl _ | exact DeepML.refl _ | exact DeepMLL.refl _ | refine And.intro ?_ ?_ | (simp [Under, UnderL, UnderLL, -List.map_take, -List.map_drop]; done))))
    · have hk' : k = (P.inL n).length := by have : ¬ k < (P.inL n).length := by ((try simp only [oo, reduceCtorEq] at *) <;> omega)
                                            omega
      subst hk'
      rw [eS, ← hl]
      exact deep_steps hc rfl
  have h5 : P.kind n ≠ 5 := by ((try simp only [oo, reduceCtorEq] at *) <;> omega)
  rw [if_neg (by omega)] at eS
  (refine ifK_split (fun h6 => ?_) (fun h6 => ?_) <;> (rw [h6]; ((conv=>whnf);repeat(refine And.intro rfl ?_;(conv=>whnf)))))
  · have h6 : P.kind n = 6 := by ((try simp only [oo, reduceCtorEq] at *) <;> omega)
    rw [if_pos h6] at eS
    refine ⟨(by unfold sliceAppend; simp only [ll]; omega), ?_⟩
    ((conv=>whnf);repeat(refine And.intro rfl ?_;(conv=>whnf)))
    rw [eS]
    exact deep_steps (l := [((n : Int), -1, P.allO n)]) rfl rfl
  rw [if_neg (by ((try simp only [oo, reduceCtorEq] at *) <;> omega))] at eS
  (refine ifK_split (fun h7 => ?_) (fun h7 => ?_) <;> (rw [h7]; ((conv=>whnf);repeat(refine And.intro rfl ?_;(conv=>whnf)))))
  · have h7 : P.kind n = 7 := by ((try simp only [oo, reduceCtorEq] at *) <;> omega)
    rw [if_pos h7] at eS
    have b3 := ProcD.orO_le hok h7
    have b4 := (ones_le (Nat.le_refl (P.outL n).length)).1
    rw [ea] at b4
    refine pwp_ghostB (leB_nil 10 3 (by simp) rfl) ?_
    refine pwp_for [1, 9] (fun ((k, c, l) : Nat × Nat × List StepD) => [(10, .own 1 c 0 c), (16, .sc (.int .i64 ((k : Int) + 1)))]) (fun (k, c, l) => [(1, .vec true c 3 (srows l))]) (fun (k, c, l) => k ≤ (P.allO n).toNat ∧ c = l.length ∧ c = k ∧ l = orS n k) (fun (k, c, l) => (P.allO n).toNat - k) (0, 0, []) ?_
    ((conv=>whnf);repeat(refine And.intro rfl ?_;(conv=>whnf)))
    refine ⟨⟨by omega, rfl, rfl, rfl⟩, by (repeat' (first | exact trivial | refine And.intro rfl ?_)), rfl, ?_⟩
    rintro ⟨k, c, l⟩ ⟨hk, hc, hck, hl⟩
    ((conv=>whnf);repeat(refine And.intro rfl ?_;(conv=>whnf)))
    (apply rd_sound; focus (repeat' constructor))
    ((conv=>whnf);repeat(refine And.intro rfl ?_;(conv=>whnf)))
    (refine ifK_split (fun h1 => ?_) (fun h1 => ?_) <;> (rw [h1]; ((conv=>whnf);repeat(refine And.intro rfl ?_;(conv=>whnf)))))
    · have hk' : k < (P.allO n).toNat := by ((try simp only [oo, reduceCtorEq] at *) <;> omega)
      refine ⟨(by unfold sliceAppend; simp only [ll]; omega), ?_⟩
      ((conv=>whnf);repeat(refine And.intro rfl ?_;(conv=>whnf)))
      (refine .inl ⟨by (unfold InR; rw [IntKind.wrap_i64]; omega), ?_⟩; ((conv=>whnf);repeat(refine And.intro rfl ?_;(conv=>whnf))))
      refine ⟨(k + 1, c + 1, l ++ [((n : Int), -1, (k : Int) + 1)]), ⟨by omega, by simp [hc], by omega, by rw [hl]; rfl⟩, by dsimp only; omega, ?_⟩
      (refine leB_close 2 (by simp) rfl ?_ ?_ <;> (repeat' (first | exact trivial | exact rfl | exact DeepM.refl _ | exact DeepML.refl _ | exact DeepMLL.refl _ | refine And.intro ?_ ?_ | (simp [Under, UnderL, UnderLL, -List.map_take, -List.map_drop]; done))))
      exact deepMLL_eq (srow_snoc hc)
    · have hk' : k = (P.allO n).toNat := by have : ¬ k < (P.allO n).toNat := by ((try simp only [oo, reduceCtorEq] at *) <;> omega)
                                            omega
      subst hk'
      rw [eS, ← hl]
      exact deep_steps hc rfl
  · rw [if_neg (by ((try simp only [oo, reduceCtorEq] at *) <;> omega))] at eS
    rw [eS]
    exact .none _
end

/-! ### XSt2 -/
section
open Go.RowKit
set_option linter.unusedSimpArgs false
set_option linter.unusedVariables false
theorem step_at {l : List StepD} {z k : Nat} (hz : z = k) (h : k < l.length) : (srows l)[z]? = some (srow l[k]) := by
  subst hz
  unfold srows
  rw [List.getElem?_map, List.getElem?_eq_getElem h]
  rfl
def c34_1 : PC := .seq (.ops [⟨(some 16), .bin .lss (.tmp 15) (.tmp 14), none, 0⟩] false) (.seq (.cond (.tmp 16) (.skip) (.exit 0)) (.seq (.block 1 (.seq (.ops [⟨(some 17), .move (.tmp 15), none, 0⟩,
    ⟨(some 6), .move (.tmp 17), none, 0⟩] false) (.ops [⟨(some 18), .move (.tmp 5), none, 0⟩,
    ⟨(some 19), .loadA 2 (.tmp 1), none, 0⟩,
    ⟨(some 20), .move (.tmp 6), none, 0⟩,
    ⟨(some 21), .call 71 [(.tmp 19), (.tmp 20)], none, 0⟩,
    ⟨(some 22), .append 3 24 (.tmp 18) (.tmp 21), none, 0⟩,
    ⟨(some 5), .move (.tmp 22), none, 0⟩] false))) (.ops [⟨(some 23), .bin .add (.tmp 15) (.const (.int .i64 1)), none, 0⟩,
    ⟨(some 15), .move (.tmp 23), none, 0⟩] false)))
def c34 : PC := .seq (.ops [⟨(some 1), .box (.tmp 0), none, 0⟩,
    ⟨(some 2), .move (.const (.slice none 0 0)), none, 0⟩,
    ⟨(some 3), .move (.const (.int .i64 0)), none, 0⟩] false) (.seq (.seq (.ops [⟨(some 7), .loadA 2 (.tmp 1), none, 0⟩,
    ⟨(some 8), .call 70 [(.tmp 7)], none, 0⟩,
    ⟨(some 4), .move (.tmp 8), none, 0⟩] false) (.seq (.ops [⟨(some 9), .move (.tmp 4), none, 0⟩,
    ⟨(some 10), .bin .neq (.tmp 9) (.const (.int .i64 0)), none, 0⟩] false) (.cond (.tmp 10) (.seq (.ops [⟨(some 11), .move (.tmp 4), none, 0⟩,
    ⟨(some 2), .move (.const (.slice none 0 0)), none, 0⟩,
    ⟨(some 3), .move (.tmp 11), none, 0⟩] false) (.ret)) (.skip)))) (.seq (.ops [⟨(some 5), .move (.const (.slice none 0 0)), none, 0⟩] false) (.seq (.seq (.ops [⟨(some 12), .faddr 0 (.tmp 1), none, 0⟩,
    ⟨(some 13), .load1 (.tmp 12), none, 0⟩,
    ⟨(some 14), .len (.tmp 13), none, 0⟩,
    ⟨(some 15), .move (.const (.int .i64 0)), none, 0⟩] false) (.block 0 (.loop c34_1))) (.seq (.seq (.ops [⟨(some 24), .move (.tmp 5), none, 0⟩,
    ⟨(some 25), .len (.tmp 24), none, 0⟩,
    ⟨(some 26), .bin .gtr (.tmp 25) (.const (.int .i64 60)), none, 0⟩] false) (.cond (.tmp 26) (.seq (.ops [⟨(some 2), .move (.const (.slice none 0 0)), none, 0⟩,
    ⟨(some 3), .move (.const (.int .i64 2)), none, 0⟩] false) (.ret)) (.skip))) (.seq (.ops [⟨(some 27), .move (.tmp 5), none, 0⟩,
    ⟨(some 2), .move (.tmp 27), none, 0⟩,
    ⟨(some 3), .move (.const (.int .i64 0)), none, 0⟩] false) (.ret))))))
set_option maxRecDepth 100000 in
theorem c34_ok : FunOK Try.prog 34 28 [.tmp 2, .tmp 3] c34 := ⟨⟨Try.f34, Try.func34, rfl, by kernel_rfl, rfl, by kernel_rfl⟩⟩
set_option maxRecDepth 100000 in
theorem steps_Of (P : ProcD) (hP : P.Fits) : PCall Try.prog 34 [dproc P] (.tup [dsteps P.stepsL, .sc (.int .i64 P.stepsE)]) := by
  refine pcall_intro c34_ok (by simp) (by simp [PureL, Pure, pure_dproc]) ?_ (by simp [Pure, PureL, pure_dsteps])
  have bad : ∀ {H : List AObj} {e : Int}, e ≠ 0 → P.stepsE = e → Deep H (.tup [.sc (.slice none 0 0), .sc (.int .i64 e)]) (.tup [dsteps P.stepsL, .sc (.int .i64 P.stepsE)]) := fun h k => by
    have : P.stepsL = [] := by unfold ProcD.stepsL; rw [if_neg (by rw [k]; exact h)]
    rw [k, this]
    exact .tup _ _ (.cons _ _ _ _ (.none _) (.cons _ _ _ _ (.refl _) .nil))
  (apply rd_sound; focus (repeat' constructor))
  ((conv=>whnf);repeat(refine And.intro rfl ?_;(conv=>whnf)))
  (refine .inl ⟨_, (proc_Check P hP), ?_⟩; ((conv=>whnf);repeat(refine And.intro rfl ?_;(conv=>whnf))))
  (refine ifK_split (fun h1 => ?_) (fun h1 => ?_) <;> (rw [h1]; ((conv=>whnf);repeat(refine And.intro rfl ?_;(conv=>whnf)))))
  · have h1 : P.chk ≠ 0 := by ((try simp only [oo, reduceCtorEq] at *) <;> omega)
    exact bad h1 (by unfold ProcD.stepsE; rw [if_pos h1])
  have h0 : P.chk = 0 := by ((try simp only [oo, reduceCtorEq] at *) <;> omega)
  obtain ⟨hs1, hs2⟩ := chk_small h0
  have hall := ProcD.nodeOK_of h0
  have e1 : P.stepsE = if 60 < (P.stepsTo P.nodes.length).length then 2 else 0 := by unfold ProcD.stepsE; rw [if_neg (by omega)]
  rw [List.length_map]
  refine pwp_ghostB (leB_nil 5 3 (by simp) rfl) ?_
  refine pwp_for [1, 14] (fun ((k, c, l) : Nat × Nat × List StepD) => [(5, .own 1 k 0 c), (15, .sc (.int .i64 k))]) (fun (k, c, l) => [(1, .vec true k 3 (srows l))]) (fun (k, c, l) => k ≤ P.nodes.length ∧ c = l.length ∧ l = P.stepsTo k) (fun (k, c, l) => P.nodes.length - k) (0, 0, []) ?_
  ((conv=>whnf);repeat(refine And.intro rfl ?_;(conv=>whnf)))
  refine ⟨⟨by omega, rfl, rfl⟩, by (repeat' (first | exact trivial | refine And.intro rfl ?_)), rfl, ?_⟩
  rintro ⟨k, c, l⟩ ⟨hk, hc, hl⟩
  ((conv=>whnf);repeat(refine And.intro rfl ?_;(conv=>whnf)))
  (apply rd_sound; focus (repeat' constructor))
  ((conv=>whnf);repeat(refine And.intro rfl ?_;(conv=>whnf)))
  (refine ifK_split (fun h2 => ?_) (fun h2 => ?_) <;> (rw [h2]; ((conv=>whnf);repeat(refine And.intro rfl ?_;(conv=>whnf)))))
  · have hk' : k < P.nodes.length := by ((try simp only [oo, reduceCtorEq] at *) <;> omega)
    have b1 := ProcD.stepsTo_len hs2 k fun i hi => hall i (by omega)
    have b2 := ProcD.stepsOf_len (hall k hk') hs2
    have b3 : l.length = (P.stepsTo k).length := by rw [hl]
    (refine .inl ⟨_, (steps_of P hP h0 k hk'), ?_⟩; ((conv=>whnf);repeat(refine And.intro rfl ?_;(conv=>whnf))))
    refine ⟨(by unfold sliceAppend; rw [srows_len]; omega), ?_⟩
    ((conv=>whnf);repeat(refine And.intro rfl ?_;(conv=>whnf)))
    (refine .inl ⟨by (unfold InR; rw [IntKind.wrap_i64]; omega), ?_⟩; ((conv=>whnf);repeat(refine And.intro rfl ?_;(conv=>whnf))))
    refine ⟨(k + 1, c + (srows (P.stepsOf k)).length, l ++ P.stepsOf k), ⟨by omega, by simp [hc, srows_len], by rw [hl]; rfl⟩, by dsimp only; omega, ?_⟩
    (refine leB_close 2 (by simp) rfl ?_ ?_ <;> (repeat' (first | exact trivial | exact rfl | exact DeepM.refl _ | exact DeepML.refl _ | exact DeepMLL.refl _ | refine And.intro ?_ ?_ | (simp [Under, UnderL, UnderLL, -List.map_take, -List.map_drop]; done))))
    exact deepMLL_eq (srow_app hc)
  · have hk' : k = P.nodes.length := by have : ¬ k < P.nodes.length := by ((try simp only [oo, reduceCtorEq] at *) <;> omega)
                                        omega
    subst hk'
    have b3 : l.length = (P.stepsTo P.nodes.length).length := by rw [hl]
    (refine ifK_split (fun h3 => ?_) (fun h3 => ?_) <;> (rw [h3]; ((conv=>whnf);repeat(refine And.intro rfl ?_;(conv=>whnf)))))
    · exact bad (by decide) (by rw [e1, if_pos (by ((try simp only [oo, reduceCtorEq] at *) <;> omega))])
    · have e2 : P.stepsE = 0 := by rw [e1, if_neg (by ((try simp only [oo, reduceCtorEq] at *) <;> omega))]
      have e3 : P.stepsL = l := by unfold ProcD.stepsL; rw [if_pos e2, hl]
      rw [e2, e3]
      exact .tup _ _ (.cons _ _ _ _ (deep_steps hc rfl) (.cons _ _ _ _ (.refl _) .nil))
end

/-! ### XSt3 -/
section
open Go.RowKit
set_option linter.unusedSimpArgs false
set_option linter.unusedVariables false
def c25_2 : PC := .seq (.seq (.ops [⟨(some 33), .move (.tmp 10), none, 0⟩,
    ⟨(some 34), .move (.tmp 8), none, 0⟩,
    ⟨(some 35), .bin .lss (.tmp 33) (.tmp 34), none, 0⟩] false) (.cond (.tmp 35) (.skip) (.exit 2))) (.seq (.block 3 (.ops [⟨(some 38), .move (.tmp 9), none, 0⟩,
    ⟨(some 39), .bin .mul (.tmp 38) (.const (.int .i64 2)), none, 0⟩,
    ⟨(some 40), .bin .add (.tmp 39) (.const (.int .i64 1)), none, 0⟩,
    ⟨(some 9), .move (.tmp 40), none, 0⟩] false)) (.ops [⟨(some 36), .move (.tmp 10), none, 0⟩,
    ⟨(some 37), .bin .add (.tmp 36) (.const (.int .i64 1)), none, 0⟩,
    ⟨(some 10), .move (.tmp 37), none, 0⟩] false))
def c25_4 : PC := .seq (.seq (.ops [⟨(some 75), .move (.tmp 12), none, 0⟩,
    ⟨(some 76), .move (.tmp 8), none, 0⟩,
    ⟨(some 77), .bin .lss (.tmp 75) (.tmp 76), none, 0⟩,
    ⟨(some 78), .move (.tmp 77), none, 0⟩,
    ⟨(some 79), .faddr 0 (.tmp 1), (some (78, true)), 0⟩,
    ⟨(some 80), .load1 (.tmp 79), (some (78, true)), 0⟩,
    ⟨(some 81), .move (.tmp 6), (some (78, true)), 0⟩,
    ⟨(some 82), .iaddr 2 (.tmp 80) (.tmp 81), (some (78, true)), 0⟩,
    ⟨(some 83), .faddr 1 (.tmp 82), (some (78, true)), 0⟩,
    ⟨(some 84), .load1 (.tmp 83), (some (78, true)), 0⟩,
    ⟨(some 85), .bin .eql (.tmp 84) (.const (.int .i64 5)), (some (78, true)), 0⟩,
    ⟨(some 86), .pick (.tmp 78) (.tmp 85) (.const (.bool false)), none, 0⟩] false) (.cond (.tmp 86) (.skip) (.exit 7))) (.seq (.block 8 (.ops [⟨(some 89), .move (.tmp 5), none, 0⟩,
    ⟨(some 90), .move (.tmp 6), none, 0⟩,
    ⟨(some 91), .move (.tmp 7), none, 0⟩,
    ⟨(some 92), .move (.tmp 11), none, 0⟩,
    ⟨(some 93), .iaddr 1 (.tmp 91) (.tmp 92), none, 12⟩,
    ⟨(some 94), .load1 (.tmp 93), none, 28⟩,
    ⟨(some 95), .move (.tmp 12), none, 0⟩,
    ⟨(some 96), .bin .shl (.const (.int .i64 1)) (.tmp 95), none, 64⟩,
    ⟨(some 97), .build [(.int .i64 0), (.int .i64 0), (.int .i64 0)] [(0, 1, (.tmp 90)), (1, 1, (.tmp 94)), (2, 1, (.tmp 96))], none, 254⟩,
    ⟨(some 98), .bslice 3 1 [(.tmp 97)], none, 510⟩,
    ⟨(some 99), .append 3 24 (.tmp 89) (.tmp 98), none, 1023⟩,
    ⟨(some 5), .move (.tmp 99), none, 2047⟩] true)) (.ops [⟨(some 87), .move (.tmp 12), none, 0⟩,
    ⟨(some 88), .bin .add (.tmp 87) (.const (.int .i64 1)), none, 0⟩,
    ⟨(some 12), .move (.tmp 88), none, 0⟩] false))
def c25_3 : PC := .seq (.seq (.ops [⟨(some 52), .move (.tmp 11), none, 0⟩,
    ⟨(some 53), .move (.tmp 7), none, 0⟩,
    ⟨(some 54), .len (.tmp 53), none, 0⟩,
    ⟨(some 55), .bin .lss (.tmp 52) (.tmp 54), none, 0⟩] false) (.cond (.tmp 55) (.skip) (.exit 5))) (.seq (.block 6 (.seq (.seq (.ops [⟨(some 58), .faddr 0 (.tmp 1), none, 0⟩,
    ⟨(some 59), .load1 (.tmp 58), none, 0⟩,
    ⟨(some 60), .move (.tmp 6), none, 0⟩,
    ⟨(some 61), .iaddr 2 (.tmp 59) (.tmp 60), none, 0⟩,
    ⟨(some 62), .faddr 1 (.tmp 61), none, 0⟩,
    ⟨(some 63), .load1 (.tmp 62), none, 0⟩,
    ⟨(some 64), .bin .neq (.tmp 63) (.const (.int .i64 5)), none, 0⟩] false) (.cond (.tmp 64) (.ops [⟨(some 65), .move (.tmp 5), none, 0⟩,
    ⟨(some 66), .move (.tmp 6), none, 0⟩,
    ⟨(some 67), .move (.tmp 7), none, 0⟩,
    ⟨(some 68), .move (.tmp 11), none, 0⟩,
    ⟨(some 69), .iaddr 1 (.tmp 67) (.tmp 68), none, 0⟩,
    ⟨(some 70), .load1 (.tmp 69), none, 0⟩,
    ⟨(some 71), .move (.tmp 9), none, 0⟩,
    ⟨(some 72), .build [(.int .i64 0), (.int .i64 0), (.int .i64 0)] [(0, 1, (.tmp 66)), (1, 1, (.tmp 70)), (2, 1, (.tmp 71))], none, 0⟩,
    ⟨(some 73), .bslice 3 1 [(.tmp 72)], none, 0⟩,
    ⟨(some 74), .append 3 24 (.tmp 65) (.tmp 73), none, 0⟩,
    ⟨(some 5), .move (.tmp 74), none, 0⟩] false) (.skip))) (.seq (.ops [⟨(some 12), .move (.const (.int .i64 0)), none, 0⟩] false) (.block 7 (.loop c25_4))))) (.ops [⟨(some 56), .move (.tmp 11), none, 0⟩,
    ⟨(some 57), .bin .add (.tmp 56) (.const (.int .i64 1)), none, 0⟩,
    ⟨(some 11), .move (.tmp 57), none, 0⟩] false))
def c25_5 : PC := .seq (.seq (.ops [⟨(some 110), .move (.tmp 13), none, 0⟩,
    ⟨(some 111), .move (.tmp 9), none, 0⟩,
    ⟨(some 112), .bin .leq (.tmp 110) (.tmp 111), none, 0⟩] false) (.cond (.tmp 112) (.skip) (.exit 9))) (.seq (.block 10 (.ops [⟨(some 115), .move (.tmp 5), none, 0⟩,
    ⟨(some 116), .move (.tmp 6), none, 0⟩,
    ⟨(some 117), .move (.tmp 13), none, 0⟩,
    ⟨(some 118), .build [(.int .i64 0), (.int .i64 0), (.int .i64 0)] [(0, 1, (.tmp 116)), (1, 1, (.const (.int .i64 (-1)))), (2, 1, (.tmp 117))], none, 0⟩,
    ⟨(some 119), .bslice 3 1 [(.tmp 118)], none, 0⟩,
    ⟨(some 120), .append 3 24 (.tmp 115) (.tmp 119), none, 0⟩,
    ⟨(some 5), .move (.tmp 120), none, 0⟩] false)) (.ops [⟨(some 113), .move (.tmp 13), none, 0⟩,
    ⟨(some 114), .bin .add (.tmp 113) (.const (.int .i64 1)), none, 0⟩,
    ⟨(some 13), .move (.tmp 114), none, 0⟩] false))
def c25_1 : PC := .seq (.seq (.ops [⟨(some 19), .move (.tmp 6), none, 0⟩,
    ⟨(some 20), .faddr 0 (.tmp 1), none, 0⟩,
    ⟨(some 21), .load1 (.tmp 20), none, 0⟩,
    ⟨(some 22), .len (.tmp 21), none, 0⟩,
    ⟨(some 23), .bin .lss (.tmp 19) (.tmp 22), none, 0⟩] false) (.cond (.tmp 23) (.skip) (.exit 0))) (.seq (.block 1 (.seq (.ops [⟨(some 26), .loadA 2 (.tmp 1), none, 0⟩,
    ⟨(some 27), .move (.tmp 6), none, 0⟩,
    ⟨(some 28), .call 67 [(.tmp 26), (.tmp 27)], none, 3⟩,
    ⟨(some 29), .loadA 2 (.tmp 1), none, 0⟩,
    ⟨(some 30), .move (.tmp 6), none, 0⟩,
    ⟨(some 31), .call 68 [(.tmp 29), (.tmp 30)], none, 31⟩,
    ⟨(some 32), .len (.tmp 31), none, 63⟩,
    ⟨(some 7), .move (.tmp 28), none, 63⟩,
    ⟨(some 8), .move (.tmp 32), none, 255⟩] true) (.seq (.ops [⟨(some 9), .move (.const (.int .i64 0)), none, 0⟩] false) (.seq (.seq (.ops [⟨(some 10), .move (.const (.int .i64 0)), none, 0⟩] false) (.block 2 (.loop c25_2))) (.seq (.ops [⟨(some 41), .faddr 0 (.tmp 1), none, 0⟩,
    ⟨(some 42), .load1 (.tmp 41), none, 0⟩,
    ⟨(some 43), .move (.tmp 6), none, 0⟩,
    ⟨(some 44), .iaddr 2 (.tmp 42) (.tmp 43), none, 0⟩,
    ⟨(some 45), .faddr 1 (.tmp 44), none, 0⟩,
    ⟨(some 46), .load1 (.tmp 45), none, 0⟩] false) (.block 4 (.seq (.seq (.ops [⟨(some 48), .bin .eql (.tmp 46) (.const (.int .i64 4)), none, 0⟩,
    ⟨(some 47), .move (.tmp 48), none, 0⟩] false) (.cond (.tmp 47) (.skip) (.seq (.ops [⟨(some 49), .bin .eql (.tmp 46) (.const (.int .i64 5)), none, 0⟩,
    ⟨(some 47), .move (.tmp 49), none, 0⟩] false) (.cond (.tmp 47) (.skip) (.seq (.ops [⟨(some 50), .bin .eql (.tmp 46) (.const (.int .i64 2)), none, 0⟩,
    ⟨(some 47), .move (.tmp 50), none, 0⟩] false) (.cond (.tmp 47) (.skip) (.ops [⟨(some 51), .bin .eql (.tmp 46) (.const (.int .i64 3)), none, 0⟩,
    ⟨(some 47), .move (.tmp 51), none, 0⟩] false))))))) (.cond (.tmp 47) (.seq (.ops [⟨(some 11), .move (.const (.int .i64 0)), none, 0⟩] false) (.block 5 (.loop c25_3))) (.seq (.ops [⟨(some 101), .bin .eql (.tmp 46) (.const (.int .i64 6)), none, 0⟩,
    ⟨(some 100), .move (.tmp 101), none, 0⟩] false) (.cond (.tmp 100) (.ops [⟨(some 102), .move (.tmp 5), none, 0⟩,
    ⟨(some 103), .move (.tmp 6), none, 0⟩,
    ⟨(some 104), .move (.tmp 9), none, 0⟩,
    ⟨(some 105), .build [(.int .i64 0), (.int .i64 0), (.int .i64 0)] [(0, 1, (.tmp 103)), (1, 1, (.const (.int .i64 (-1)))), (2, 1, (.tmp 104))], none, 0⟩,
    ⟨(some 106), .bslice 3 1 [(.tmp 105)], none, 0⟩,
    ⟨(some 107), .append 3 24 (.tmp 102) (.tmp 106), none, 0⟩,
    ⟨(some 5), .move (.tmp 107), none, 0⟩] false) (.seq (.ops [⟨(some 109), .bin .eql (.tmp 46) (.const (.int .i64 7)), none, 0⟩,
    ⟨(some 108), .move (.tmp 109), none, 0⟩] false) (.cond (.tmp 108) (.seq (.ops [⟨(some 13), .move (.const (.int .i64 1)), none, 0⟩] false) (.block 9 (.loop c25_5))) (.skip))))))))))))) (.ops [⟨(some 24), .move (.tmp 6), none, 0⟩,
    ⟨(some 25), .bin .add (.tmp 24) (.const (.int .i64 1)), none, 0⟩,
    ⟨(some 6), .move (.tmp 25), none, 0⟩] false))
def c25 : PC := .seq (.ops [⟨(some 1), .box (.tmp 0), none, 0⟩,
    ⟨(some 2), .move (.const (.slice none 0 0)), none, 0⟩,
    ⟨(some 3), .move (.const (.int .i64 0)), none, 0⟩] false) (.seq (.seq (.ops [⟨(some 14), .loadA 2 (.tmp 1), none, 0⟩,
    ⟨(some 15), .call 66 [(.tmp 14)], none, 0⟩,
    ⟨(some 4), .move (.tmp 15), none, 0⟩] false) (.seq (.ops [⟨(some 16), .move (.tmp 4), none, 0⟩,
    ⟨(some 17), .bin .neq (.tmp 16) (.const (.int .i64 0)), none, 0⟩] false) (.cond (.tmp 17) (.seq (.ops [⟨(some 18), .move (.tmp 4), none, 0⟩,
    ⟨(some 2), .move (.const (.slice none 0 0)), none, 0⟩,
    ⟨(some 3), .move (.tmp 18), none, 0⟩] false) (.ret)) (.skip)))) (.seq (.ops [⟨(some 5), .move (.const (.slice none 0 0)), none, 0⟩] false) (.seq (.seq (.ops [⟨(some 6), .move (.const (.int .i64 0)), none, 0⟩] false) (.block 0 (.loop c25_1))) (.seq (.seq (.ops [⟨(some 121), .move (.tmp 5), none, 0⟩,
    ⟨(some 122), .len (.tmp 121), none, 0⟩,
    ⟨(some 123), .bin .gtr (.tmp 122) (.const (.int .i64 60)), none, 0⟩] false) (.cond (.tmp 123) (.seq (.ops [⟨(some 2), .move (.const (.slice none 0 0)), none, 0⟩,
    ⟨(some 3), .move (.const (.int .i64 2)), none, 0⟩] false) (.ret)) (.skip))) (.seq (.ops [⟨(some 124), .move (.tmp 5), none, 0⟩,
    ⟨(some 2), .move (.tmp 124), none, 0⟩,
    ⟨(some 3), .move (.const (.int .i64 0)), none, 0⟩] false) (.ret))))))
set_option maxRecDepth 100000 in
theorem c25_ok : FunOK Try.prog 25 125 [.tmp 2, .tmp 3] c25 := ⟨⟨Try.f25, Try.func25, rfl, by kernel_rfl, rfl, by kernel_rfl⟩⟩
set_option maxRecDepth 100000 in
theorem ref_Steps (P : ProcD) (hP : P.Fits) : PCall Try.prog 25 [dproc P] (.tup [dsteps P.stepsL, .sc (.int .i64 P.stepsE)]) := by
  refine pcall_intro c25_ok (by simp) (by simp [PureL, Pure, pure_dproc]) ?_ (by simp [Pure, PureL, pure_dsteps])
  have bad : ∀ {H : List AObj} {e : Int}, e ≠ 0 → P.stepsE = e → Deep H (.tup [.sc (.slice none 0 0), .sc (.int .i64 e)]) (.tup [dsteps P.stepsL, .sc (.int .i64 P.stepsE)]) := fun h k => by
    have : P.stepsL = [] := by unfold ProcD.stepsL; rw [if_neg (by rw [k]; exact h)]
    rw [k, this]
    exact .tup _ _ (.cons _ _ _ _ (.none _) (.cons _ _ _ _ (.refl _) .nil))
  (apply rd_sound; focus (repeat' constructor))
  ((conv=>whnf);repeat(refine And.intro rfl ?_;(conv=>whnf)))
  (refine .inl ⟨_, (ref_Process P hP), ?_⟩; ((conv=>whnf);repeat(refine And.intro rfl ?_;(conv=>whnf))))
  (refine ifK_split (fun h1 => ?_) (fun h1 => ?_) <;> (rw [h1]; ((conv=>whnf);repeat(refine And.intro rfl ?_;(conv=>whnf)))))
  · have h1 : P.chk ≠ 0 := by ((try simp only [oo, reduceCtorEq] at *) <;> omega)
    exact bad h1 (by unfold ProcD.stepsE; rw [if_pos h1])
  have h0 : P.chk = 0 := by ((try simp only [oo, reduceCtorEq] at *) <;> omega)
  obtain ⟨hs1, hs2⟩ := chk_small h0
  have hall := ProcD.nodeOK_of h0
  have e1 : P.stepsE = if 60 < (P.stepsTo P.nodes.length).length then 2 else 0 := by unfold ProcD.stepsE; rw [if_neg (by omega)]
  refine pwp_ghostB (leB_nil 5 3 (by simp) rfl) ?_
  refine pwp_for [1] (fun ((n, c, l) : Nat × Nat × List StepD) => [(5, .own 1 c 0 c), (6, .sc (.int .i64 n))]) (fun (n, c, l) => [(1, .vec true c 3 (srows l))]) (fun (n, c, l) => n ≤ P.nodes.length ∧ c = l.length ∧ l = P.stepsTo n) (fun (n, c, l) => P.nodes.length - n) (0, 0, []) ?_
  ((conv=>whnf);repeat(refine And.intro rfl ?_;(conv=>whnf)))
  refine ⟨⟨by omega, rfl, rfl⟩, by (repeat' (first | exact trivial | refine And.intro rfl ?_)), rfl, ?_⟩
  rintro ⟨n, c, l⟩ ⟨hn, hc, hl⟩
  ((conv=>whnf);repeat(refine And.intro rfl ?_;(conv=>whnf)))
  (apply rd_sound; focus (repeat' constructor))
  ((conv=>whnf);repeat(refine And.intro rfl ?_;(conv=>whnf)))
  rw [List.length_map]
  (refine ifK_split (fun h2 => ?_) (fun h2 => ?_) <;> (rw [h2]; ((conv=>whnf);repeat(refine And.intro rfl ?_;(conv=>whnf)))))
  · have hn' : n < P.nodes.length := by ((try simp only [oo, reduceCtorEq] at *) <;> omega)
    have b1 := ProcD.stepsTo_len hs2 n fun i hi => hall i (by omega)
    have b2 := ProcD.stepsOf_len (hall n hn') hs2
    have b3 : l.length = (P.stepsTo n).length := by rw [hl]
    have l1 := P.inL_len n
    have l2 := P.outL_len n
    have eS : P.stepsOf n = if P.kind n = 4 ∨ P.kind n = 5 ∨ P.kind n = 2 ∨ P.kind n = 3 then P.byIns (P.kind n) n (P.inL n).length
      else if P.kind n = 6 then [((n : Int), -1, P.allO n)] else if P.kind n = 7 then orS n (P.allO n).toNat else [] := rfl
    have eT : P.stepsTo (n + 1) = P.stepsTo n ++ P.stepsOf n := rfl
    have ei : ∀ k, P.byIns (P.kind n) n (k + 1) = P.byIns (P.kind n) n k ++ P.byIn (P.kind n) n ((P.inL n).getD k 0) := fun k => rfl
    have ea : ones (P.outL n).length = P.allO n := rfl
    have e30 : ones 30 = 1073741823 := rfl
    (refine .inl ⟨_, (ref_FlowsIn P hP (by omega) n), ?_⟩; ((conv=>whnf);repeat(refine And.intro rfl ?_;(conv=>whnf))))
    (refine .inl ⟨_, (ref_FlowsOut P hP (by omega) n), ?_⟩; ((conv=>whnf);repeat(refine And.intro rfl ?_;(conv=>whnf))))
    rw [List.length_map]
    refine pwp_for [1, 5, 6, 7, 8] (fun k : Nat => [(9, .sc (.int .i64 (ones k))), (10, .sc (.int .i64 k))]) (fun _ => []) (fun k => k ≤ (P.outL n).length) (fun k => (P.outL n).length - k) 0 ?_
    ((conv=>whnf);repeat(refine And.intro rfl ?_;(conv=>whnf)))
    refine ⟨by omega, by (repeat' (first | exact trivial | refine And.intro rfl ?_)), rfl, ?_⟩
    rintro k hk
    ((conv=>whnf);repeat(refine And.intro rfl ?_;(conv=>whnf)))
    (apply rd_sound; focus (repeat' constructor))
    ((conv=>whnf);repeat(refine And.intro rfl ?_;(conv=>whnf)))
    (refine ifK_split (fun h3 => ?_) (fun h3 => ?_) <;> (rw [h3]; ((conv=>whnf);repeat(refine And.intro rfl ?_;(conv=>whnf)))))
    · have hk' : k < (P.outL n).length := by ((try simp only [oo, reduceCtorEq] at *) <;> omega)
      have o1 := ones_le (k := k) (n := 30) (by omega)
      have o2 := ones_le (k := k + 1) (n := 30) (by omega)
      have o3 : ones (k + 1) = ones k * 2 + 1 := rfl
      (refine .inl ⟨by (unfold InR; rw [IntKind.wrap_i64]; omega), ?_⟩; ((conv=>whnf);repeat(refine And.intro rfl ?_;(conv=>whnf))))
      (refine .inl ⟨by (unfold InR; rw [IntKind.wrap_i64]; omega), ?_⟩; ((conv=>whnf);repeat(refine And.intro rfl ?_;(conv=>whnf))))
      (refine .inl ⟨by (unfold InR; rw [IntKind.wrap_i64]; omega), ?_⟩; ((conv=>whnf);repeat(refine And.intro rfl ?_;(conv=>whnf))))
      refine ⟨k + 1, by omega, by dsimp only; omega, leB_envH (by (repeat' (first | exact trivial | refine And.intro rfl ?_))) rfl⟩
    have hk' : k = (P.outL n).length := by have : ¬ k < (P.outL n).length := by ((try simp only [oo, reduceCtorEq] at *) <;> omega)
                                           omega
    subst hk'
    rw [ea]
    refine ⟨by omega, _, node_at P (k := n) (by omega) hn', ?_⟩
    ((conv=>whnf);repeat(refine And.intro rfl ?_;(conv=>whnf)))
    (refine ifK_split (fun h4 => ?_) (fun h4 => ?_) <;> (rw [h4]; ((conv=>whnf);repeat(refine And.intro rfl ?_;(conv=>whnf)))))
    · have h4 : P.kind n = 4 := by ((try simp only [oo, reduceCtorEq] at *) <;> omega)
      rw [if_pos (by omega)] at eS
      ((conv=>whnf);repeat(refine And.intro rfl ?_;(conv=>whnf)))
      refine pwp_for [1, 6, 7, 8, 9] (fun ((i, c', m) : Nat × Nat × List StepD) => [(5, .own 1 c' 0 c'), (11, .sc (.int .i64 i))]) (fun (i, c', m) => [(1, .vec true c' 3 (srows m))]) (fun (i, c', m) => i ≤ (P.inL n).length ∧ c' = m.length ∧ m = l ++ P.byIns (P.kind n) n i) (fun (i, c', m) => (P.inL n).length - i) (0, c, l) ?_
      ((conv=>whnf);repeat(refine And.intro rfl ?_;(conv=>whnf)))
      refine ⟨⟨by omega, hc, (List.append_nil l).symm⟩, by (repeat' (first | exact trivial | refine And.intro rfl ?_)), rfl, ?_⟩
      rintro ⟨i, c', m⟩ ⟨hi, hc', hm⟩
      ((conv=>whnf);repeat(refine And.intro rfl ?_;(conv=>whnf)))
      (apply rd_sound; focus (repeat' constructor))
      ((conv=>whnf);repeat(refine And.intro rfl ?_;(conv=>whnf)))
      rw [List.length_map]
      have b4 := P.byIns_len (P.kind n) n (by omega) i
      have b5 : m.length = l.length + (P.byIns (P.kind n) n i).length := by rw [hm, List.length_append]
      (refine ifK_split (fun hi5 => ?_) (fun hi5 => ?_) <;> (rw [hi5]; ((conv=>whnf);repeat(refine And.intro rfl ?_;(conv=>whnf)))))
      · have hi' : i < (P.inL n).length := by ((try simp only [oo, reduceCtorEq] at *) <;> omega)
        refine ⟨by omega, _, node_at P (k := n) (by omega) hn', ?_⟩
        ((conv=>whnf);repeat(refine And.intro rfl ?_;(conv=>whnf)))
        have hne : (P.kind n != 5) = true := by simp; omega
        have heq : (P.kind n == 5) = false := by simp; omega
        rw [hne]
        ((conv=>whnf);repeat(refine And.intro rfl ?_;(conv=>whnf)))
        refine ⟨by omega, _, intsD_at (k := i) (by omega) hi', ?_⟩
        ((conv=>whnf);repeat(refine And.intro rfl ?_;(conv=>whnf)))
        refine ⟨(by unfold sliceAppend; simp only [ll]; omega), ?_⟩
        ((conv=>whnf);repeat(refine And.intro rfl ?_;(conv=>whnf)))
        have e5 : ∀ i : Int, P.byIn (P.kind n) n i = [((n : Int), i, P.allO n)] := fun i => by unfold ProcD.byIn; rw [if_neg (by omega)]
        refine pwp_for [1, 6, 7, 8, 9, 11] (fun _ : Unit => [(5, .own 1 (c' + 1) 0 (c' + 1)), (12, .sc (.int .i64 0))]) (fun _ => [(1, .vec true (c' + 1) 3 (srows (m ++ [((n : Int), (P.inL n).getD i 0, P.allO n)])))]) (fun _ => True) (fun _ => 0) () ?_
        ((conv=>whnf);repeat(refine And.intro rfl ?_;(conv=>whnf)))
        refine ⟨trivial, by (repeat' (first | exact trivial | refine And.intro rfl ?_)), by rw [← srow_snoc hc']; rfl, ?_⟩
        rintro ⟨⟩ -
        ((conv=>whnf);repeat(refine And.intro rfl ?_;(conv=>whnf)))
        (apply rd_sound; focus (repeat' constructor))
        ((conv=>whnf);repeat(refine And.intro rfl ?_;(conv=>whnf)))
        (refine ifK_split (fun h6 => ?_) (fun h6 => ?_) <;> (rw [h6]; ((conv=>whnf);repeat(refine And.intro rfl ?_;(conv=>whnf)))))
        · refine ⟨by omega, _, node_at P (k := n) (by omega) hn', ?_⟩
          ((conv=>whnf);repeat(refine And.intro rfl ?_;(conv=>whnf)))
          rw [heq]
          ((conv=>whnf);repeat(refine And.intro rfl ?_;(conv=>whnf)))
          (refine .inl ⟨by (unfold InR; rw [IntKind.wrap_i64]; omega), ?_⟩; ((conv=>whnf);repeat(refine And.intro rfl ?_;(conv=>whnf))))
          refine ⟨(i + 1, c' + 1, m ++ [((n : Int), (P.inL n).getD i 0, P.allO n)]), ⟨by omega, by simp [hc'], by rw [ei, e5, hm, List.append_assoc]⟩, by dsimp only; omega, ?_⟩
          (refine leB_close 2 (by simp) rfl ?_ ?_ <;> (repeat' (first | exact trivial | exact rfl | exact DeepM.refl _ | exact DeepML.refl _ | exact DeepMLL.refl _ | refine And.intro ?_ ?_ | (simp [Under, UnderL, UnderLL, -List.map_take, -List.map_drop]; done))))
        · skip
          (refine .inl ⟨by (unfold InR; rw [IntKind.wrap_i64]; omega), ?_⟩; ((conv=>whnf);repeat(refine And.intro rfl ?_;(conv=>whnf))))
          refine ⟨(i + 1, c' + 1, m ++ [((n : Int), (P.inL n).getD i 0, P.allO n)]), ⟨by omega, by simp [hc'], by rw [ei, e5, hm, List.append_assoc]⟩, by dsimp only; omega, ?_⟩
          (refine leB_close 2 (by simp) rfl ?_ ?_ <;> (repeat' (first | exact trivial | exact rfl | exact DeepM.refl _ | exact DeepML.refl _ | exact DeepMLL.refl _ | refine And.intro ?_ ?_ | (simp [Under, UnderL, UnderLL, -List.map_take, -List.map_drop]; done))))
      · have hi' : i = (P.inL n).length := by have : ¬ i < (P.inL n).length := by ((try simp only [oo, reduceCtorEq] at *) <;> omega)
                                              omega
        subst hi'
        (refine .inl ⟨by (unfold InR; rw [IntKind.wrap_i64]; omega), ?_⟩; ((conv=>whnf);repeat(refine And.intro rfl ?_;(conv=>whnf))))
        refine ⟨(n + 1, c', m), ⟨by omega, hc', by rw [eT, eS, ← hl, hm]⟩, by dsimp only; omega, ?_⟩
        (refine leB_close 2 (by simp) rfl ?_ ?_ <;> (repeat' (first | exact trivial | exact rfl | exact DeepM.refl _ | exact DeepML.refl _ | exact DeepMLL.refl _ | refine And.intro ?_ ?_ | (simp [Under, UnderL, UnderLL, -List.map_take, -List.map_drop]; done))))
    have h4 : P.kind n ≠ 4 := by ((try simp only [oo, reduceCtorEq] at *) <;> omega)
    (refine ifK_split (fun h5 => ?_) (fun h5 => ?_) <;> (rw [h5]; ((conv=>whnf);repeat(refine And.intro rfl ?_;(conv=>whnf)))))
    · have h5 : P.kind n = 5 := by ((try simp only [oo, reduceCtorEq] at *) <;> omega)
      rw [if_pos (by omega)] at eS
      ((conv=>whnf);repeat(refine And.intro rfl ?_;(conv=>whnf)))
      refine pwp_for [1, 6, 7, 8, 9] (fun ((i, c', m) : Nat × Nat × List StepD) => [(5, .own 1 c' 0 c'), (11, .sc (.int .i64 i))]) (fun (i, c', m) => [(1, .vec true c' 3 (srows m))]) (fun (i, c', m) => i ≤ (P.inL n).length ∧ c' = m.length ∧ m = l ++ P.byIns (P.kind n) n i) (fun (i, c', m) => (P.inL n).length - i) (0, c, l) ?_
      ((conv=>whnf);repeat(refine And.intro rfl ?_;(conv=>whnf)))
      refine ⟨⟨by omega, hc, (List.append_nil l).symm⟩, by (repeat' (first | exact trivial | refine And.intro rfl ?_)), rfl, ?_⟩
      rintro ⟨i, c', m⟩ ⟨hi, hc', hm⟩
      ((conv=>whnf);repeat(refine And.intro rfl ?_;(conv=>whnf)))
      (apply rd_sound; focus (repeat' constructor))
      ((conv=>whnf);repeat(refine And.intro rfl ?_;(conv=>whnf)))
      rw [List.length_map]
      have b4 := P.byIns_len (P.kind n) n (by omega) i
      have b5 : m.length = l.length + (P.byIns (P.kind n) n i).length := by rw [hm, List.length_append]
      (refine ifK_split (fun hi5 => ?_) (fun hi5 => ?_) <;> (rw [hi5]; ((conv=>whnf);repeat(refine And.intro rfl ?_;(conv=>whnf)))))
      · have hi' : i < (P.inL n).length := by ((try simp only [oo, reduceCtorEq] at *) <;> omega)
        refine ⟨by omega, _, node_at P (k := n) (by omega) hn', ?_⟩
        ((conv=>whnf);repeat(refine And.intro rfl ?_;(conv=>whnf)))
        have hne : (P.kind n != 5) = false := by simp; omega
        have heq : (P.kind n == 5) = true := by simp; omega
        rw [hne]
        ((conv=>whnf);repeat(refine And.intro rfl ?_;(conv=>whnf)))
        have e5 : ∀ i : Int, P.byIn (P.kind n) n i = xorS n i (P.outL n).length := fun i => by unfold ProcD.byIn; rw [if_pos h5]
        refine pwp_for [1, 6, 7, 8, 9, 11] (fun ((j, d, q) : Nat × Nat × List StepD) => [(5, .own 1 d 0 d), (12, .sc (.int .i64 j))]) (fun (j, d, q) => [(1, .vec true d 3 (srows q))]) (fun (j, d, q) => j ≤ (P.outL n).length ∧ d = q.length ∧ d = m.length + j ∧ q = m ++ xorS n ((P.inL n).getD i 0) j) (fun (j, d, q) => (P.outL n).length - j) (0, c', m) ?_
        ((conv=>whnf);repeat(refine And.intro rfl ?_;(conv=>whnf)))
        refine ⟨⟨by omega, hc', hc', (List.append_nil m).symm⟩, by (repeat' (first | exact trivial | refine And.intro rfl ?_)), rfl, ?_⟩
        rintro ⟨j, d, q⟩ ⟨hj, hd, hdj, hq⟩
        ((conv=>whnf);repeat(refine And.intro rfl ?_;(conv=>whnf)))
        (apply rd_sound; focus (repeat' constructor))
        ((conv=>whnf);repeat(refine And.intro rfl ?_;(conv=>whnf)))
        (refine ifK_split (fun h6 => ?_) (fun h6 => ?_) <;> (rw [h6]; ((conv=>whnf);repeat(refine And.intro rfl ?_;(conv=>whnf)))))
        · have hj' : j < (P.outL n).length := by ((try simp only [oo, reduceCtorEq] at *) <;> omega)
          refine ⟨by omega, _, node_at P (k := n) (by omega) hn', ?_⟩
          ((conv=>whnf);repeat(refine And.intro rfl ?_;(conv=>whnf)))
          rw [heq]
          ((conv=>whnf);repeat(refine And.intro rfl ?_;(conv=>whnf)))
          refine ⟨by omega, _, intsD_at (k := i) (by omega) hi', ?_⟩
          ((conv=>whnf);repeat(refine And.intro rfl ?_;(conv=>whnf)))
          refine ⟨by omega, ?_⟩
          rw [shl_fit (k := j) rfl (by omega)]
          have e4 := pow30 (k := j) (by omega)
          (refine .inl ⟨by (unfold InR; rw [IntKind.wrap_i64]; omega), ?_⟩; ((conv=>whnf);repeat(refine And.intro rfl ?_;(conv=>whnf))))
          refine ⟨(by unfold sliceAppend; simp only [ll]; omega), ?_⟩
          ((conv=>whnf);repeat(refine And.intro rfl ?_;(conv=>whnf)))
          (refine .inl ⟨by (unfold InR; rw [IntKind.wrap_i64]; omega), ?_⟩; ((conv=>whnf);repeat(refine And.intro rfl ?_;(conv=>whnf))))
          refine ⟨(j + 1, d + 1, q ++ [((n : Int), (P.inL n).getD i 0, 2 ^ j)]), ⟨by omega, by simp [hd], by omega, by rw [hq, List.append_assoc]; rfl⟩, by dsimp only; omega, ?_⟩
          (refine leB_close 2 (by simp) rfl ?_ ?_ <;> (repeat' (first | exact trivial | exact rfl | exact DeepM.refl _ | exact DeepML.refl _ | exact DeepMLL.refl _ | refine And.intro ?_ ?_ | (simp [Under, UnderL, UnderLL, -List.map_take, -List.map_drop]; done))))
          exact deepMLL_eq (srow_snoc hd)
        · have hj' : j = (P.outL n).length := by have : ¬ j < (P.outL n).length := by ((try simp only [oo, reduceCtorEq] at *) <;> omega)
                                                 omega
          subst hj'
          (refine .inl ⟨by (unfold InR; rw [IntKind.wrap_i64]; omega), ?_⟩; ((conv=>whnf);repeat(refine And.intro rfl ?_;(conv=>whnf))))
          refine ⟨(i + 1, d, q), ⟨by omega, hd, by rw [ei, e5, hq, hm, List.append_assoc]⟩, by dsimp only; omega, ?_⟩
          (refine leB_close 2 (by simp) rfl ?_ ?_ <;> (repeat' (first | exact trivial | exact rfl | exact DeepM.refl _ | exact DeepML.refl _ | exact DeepMLL.refl _ | refine And.intro ?_ ?_ | (simp [Under, UnderL, UnderLL, -List.map_take, -List.map_drop]; done))))
      · have hi' : i = (P.inL n).length := by have : ¬ i < (P.inL n).length := by ((try simp only [oo, reduceCtorEq] at *) <;> omega)
                                              omega
        subst hi'
        (refine .inl ⟨by (unfold InR; rw [IntKind.wrap_i64]; omega), ?_⟩; ((conv=>whnf);repeat(refine And.intro rfl ?_;(conv=>whnf))))
        refine ⟨(n + 1, c', m), ⟨by omega, hc', by rw [eT, eS, ← hl, hm]⟩, by dsimp only; omega, ?_⟩
        (refine leB_close 2 (by simp) rfl ?_ ?_ <;> (repeat' (first | exact trivial | exact rfl | exact DeepM.refl _ | exact DeepML.refl _ | exact DeepMLL.refl _ | refine And.intro ?_ ?_ | (simp [Under, UnderL, UnderLL, -List.map_take, -List.map_drop]; done))))
    have h5 : P.kind n ≠ 5 := by ((try simp only [oo, reduceCtorEq] at *) <;> omega)
    (refine ifK_split (fun h6 => ?_) (fun h6 => ?_) <;> (rw [h6]; ((conv=>whnf);repeat(refine And.intro rfl ?_;(conv=>whnf)))))
    · have h6 : P.kind n = 2 := by ((try simp only [oo, reduceCtorEq] at *) <;> omega)
      rw [if_pos (by omega)] at eS
      ((conv=>whnf);repeat(refine And.intro rfl ?_;(conv=>whnf)))
      refine pwp_for [1, 6, 7, 8, 9] (fun ((i, c', m) : Nat × Nat × List StepD) => [(5, .own 1 c' 0 c'), (11, .sc (.int .i64 i))]) (fun (i, c', m) => [(1, .vec true c' 3 (srows m))]) (fun (i, c', m) => i ≤ (P.inL n).length ∧ c' = m.length ∧ m = l ++ P.byIns (P.kind n) n i) (fun (i, c', m) => (P.inL n).length - i) (0, c, l) ?_
      ((conv=>whnf);repeat(refine And.intro rfl ?_;(conv=>whnf)))
      refine ⟨⟨by omega, hc, (List.append_nil l).symm⟩, by (repeat' (first | exact trivial | refine And.intro rfl ?_)), rfl, ?_⟩
      rintro ⟨i, c', m⟩ ⟨hi, hc', hm⟩
      ((conv=>whnf);repeat(refine And.intro rfl ?_;(conv=>whnf)))
      (apply rd_sound; focus (repeat' constructor))
      ((conv=>whnf);repeat(refine And.intro rfl ?_;(conv=>whnf)))
      rw [List.length_map]
      have b4 := P.byIns_len (P.kind n) n (by omega) i
      have b5 : m.length = l.length + (P.byIns (P.kind n) n i).length := by rw [hm, List.length_append]
      (refine ifK_split (fun hi5 => ?_) (fun hi5 => ?_) <;> (rw [hi5]; ((conv=>whnf);repeat(refine And.intro rfl ?_;(conv=>whnf)))))
      · have hi' : i < (P.inL n).length := by ((try simp only [oo, reduceCtorEq] at *) <;> omega)
        refine ⟨by omega, _, node_at P (k := n) (by omega) hn', ?_⟩
        ((conv=>whnf);repeat(refine And.intro rfl ?_;(conv=>whnf)))
        have hne : (P.kind n != 5) = true := by simp; omega
        have heq : (P.kind n == 5) = false := by simp; omega
        rw [hne]
        ((conv=>whnf);repeat(refine And.intro rfl ?_;(conv=>whnf)))
        refine ⟨by omega, _, intsD_at (k := i) (by omega) hi', ?_⟩
        ((conv=>whnf);repeat(refine And.intro rfl ?_;(conv=>whnf)))
        refine ⟨(by unfold sliceAppend; simp only [ll]; omega), ?_⟩
        ((conv=>whnf);repeat(refine And.intro rfl ?_;(conv=>whnf)))
        have e5 : ∀ i : Int, P.byIn (P.kind n) n i = [((n : Int), i, P.allO n)] := fun i => by unfold ProcD.byIn; rw [if_neg (by omega)]
        refine pwp_for [1, 6, 7, 8, 9, 11] (fun _ : Unit => [(5, .own 1 (c' + 1) 0 (c' + 1)), (12, .sc (.int .i64 0))]) (fun _ => [(1, .vec true (c' + 1) 3 (srows (m ++ [((n : Int), (P.inL n).getD i 0, P.allO n)])))]) (fun _ => True) (fun _ => 0) () ?_
        ((conv=>whnf);repeat(refine And.intro rfl ?_;(conv=>whnf)))
        refine ⟨trivial, by (repeat' (first | exact trivial | refine And.intro rfl ?_)), by rw [← srow_snoc hc']; rfl, ?_⟩
        rintro ⟨⟩ -
        ((conv=>whnf);repeat(refine And.intro rfl ?_;(conv=>whnf)))
        (apply rd_sound; focus (repeat' constructor))
        ((conv=>whnf);repeat(refine And.intro rfl ?_;(conv=>whnf)))
        (refine ifK_split (fun h6 => ?_) (fun h6 => ?_) <;> (rw [h6]; ((conv=>whnf);repeat(refine And.intro rfl ?_;(conv=>whnf)))))
        · refine ⟨by omega, _, node_at P (k := n) (by omega) hn', ?_⟩
          ((conv=>whnf);repeat(refine And.intro rfl ?_;(conv=>whnf)))
          rw [heq]
          ((conv=>whnf);repeat(refine And.intro rfl ?_;(conv=>whnf)))
          (refine .inl ⟨by (unfold InR; rw [IntKind.wrap_i64]; omega), ?_⟩; ((conv=>whnf);repeat(refine And.intro rfl ?_;(conv=>whnf))))
          refine ⟨(i + 1, c' + 1, m ++ [((n : Int), (P.inL n).getD i 0, P.allO n)]), ⟨by omega, by simp [hc'], by rw [ei, e5, hm, List.append_assoc]⟩, by dsimp only; omega, ?_⟩
          (refine leB_close 2 (by simp) rfl ?_ ?_ <;> (repeat' (first | exact trivial | exact rfl | exact DeepM.refl _ | exact DeepML.refl _ | exact DeepMLL.refl _ | refine And.intro ?_ ?_ | (simp [Under, UnderL, UnderLL, -List.map_take, -List.map_drop]; done))))
        · skip
          (refine .inl ⟨by (unfold InR; rw [IntKind.wrap_i64]; omega), ?_⟩; ((conv=>whnf);repeat(refine And.intro rfl ?_;(conv=>whnf))))
          refine ⟨(i + 1, c' + 1, m ++ [((n : Int), (P.inL n).getD i 0, P.allO n)]), ⟨by omega, by simp [hc'], by rw [ei, e5, hm, List.append_assoc]⟩, by dsimp only; omega, ?_⟩
          (refine leB_close 2 (by simp) rfl ?_ ?_ <;> (repeat' (first | exact trivial | exact rfl | exact DeepM.refl _ | exact DeepML.refl _ | exact DeepMLL.refl _ | refine And.intro ?_ ?_ | (simp [Under, UnderL, UnderLL, -List.map_take, -List.map_drop]; done))))
      · have hi' : i = (P.inL n).length := by have : ¬ i < (P.inL n).length := by ((try simp only [oo, reduceCtorEq] at *) <;> omega)
                                              omega
        subst hi'
        (refine .inl ⟨by (unfold InR; rw [IntKind.wrap_i64]; omega), ?_⟩; ((conv=>whnf);repeat(refine And.intro rfl ?_;(conv=>whnf))))
        refine ⟨(n + 1, c', m), ⟨by omega, hc', by rw [eT, eS, ← hl, hm]⟩, by dsimp only; omega, ?_⟩
        (refine leB_close 2 (by simp) rfl ?_ ?_ <;> (repeat' (first | exact trivial | exact rfl | exact DeepM.refl _ | exact DeepML.refl _ | exact DeepMLL.refl _ | refine And.intro ?_ ?_ | (simp [Under, UnderL, UnderLL, -List.map_take, -List.map_drop]; done))))
    have h6 : P.kind n ≠ 2 := by ((try simp only [oo, reduceCtorEq] at *) <;> omega)
    (refine ifK_split (fun h7 => ?_) (fun h7 => ?_) <;> (rw [h7]; ((conv=>whnf);repeat(refine And.intro rfl ?_;(conv=>whnf)))))
    · have h7 : P.kind n = 3 := by ((try simp only [oo, reduceCtorEq] at *) <;> omega)
      rw [if_pos (by omega)] at eS
      ((conv=>whnf);repeat(refine And.intro rfl ?_;(conv=>whnf)))
      refine pwp_for [1, 6, 7, 8, 9] (fun ((i, c', m) : Nat × Nat × List StepD) => [(5, .own 1 c' 0 c'), (11, .sc (.int .i64 i))]) (fun (i, c', m) => [(1, .vec true c' 3 (srows m))]) (fun (i, c', m) => i ≤ (P.inL n).length ∧ c' = m.length ∧ m = l ++ P.byIns (P.kind n) n i) (fun (i, c', m) => (P.inL n).length - i) (0, c, l) ?_
      ((conv=>whnf);repeat(refine And.intro rfl ?_;(conv=>whnf)))
      refine ⟨⟨by omega, hc, (List.append_nil l).symm⟩, by (repeat' (first | exact trivial | refine And.intro rfl ?_)), rfl, ?_⟩
      rintro ⟨i, c', m⟩ ⟨hi, hc', hm⟩
      ((conv=>whnf);repeat(refine And.intro rfl ?_;(conv=>whnf)))
      (apply rd_sound; focus (repeat' constructor))
      ((conv=>whnf);repeat(refine And.intro rfl ?_;(conv=>whnf)))
      rw [List.length_map]
      have b4 := P.byIns_len (P.kind n) n (by omega) i
      have b5 : m.length = l.length + (P.byIns (P.kind n) n i).length := by rw [hm, List.length_append]
      (refine ifK_split (fun hi5 => ?_) (fun hi5 => ?_) <;> (rw [hi5]; ((conv=>whnf);repeat(refine And.intro rfl ?_;(conv=>whnf)))))
      · have hi' : i < (P.inL n).length := by ((try simp only [oo, reduceCtorEq] at *) <;> omega)
        refine ⟨by omega, _, node_at P (k := n) (by omega) hn', ?_⟩
        ((conv=>whnf);repeat(refine And.intro rfl ?_;(conv=>whnf)))
        have hne : (P.kind n != 5) = true := by simp; omega
        have heq : (P.kind n == 5) = false := by simp; omega
        rw [hne]
        ((conv=>whnf);repeat(refine And.intro rfl ?_;(conv=>whnf)))
        refine ⟨by omega, _, intsD_at (k := i) (by omega) hi', ?_⟩
        ((conv=>whnf);repeat(refine And.intro rfl ?_;(conv=>whnf)))
        refine ⟨(by unfold sliceAppend; simp only [ll]; omega), ?_⟩
        ((conv=>whnf);repeat(refine And.intro rfl ?_;(conv=>whnf)))
        have e5 : ∀ i : Int, P.byIn (P.kind n) n i = [((n : Int), i, P.allO n)] := fun i => by unfold ProcD.byIn; rw [if_neg (by omega)]
        refine pwp_for [1, 6, 7, 8, 9, 11] (fun _ : Unit => [(5, .own 1 (c' + 1) 0 (c' + 1)), (12, .sc (.int .i64 0))]) (fun _ => [(1, .vec true (c' + 1) 3 (srows (m ++ [((n : Int), (P.inL n).getD i 0, P.allO n)])))]) (fun _ => True) (fun _ => 0) () ?_
        ((conv=>whnf);repeat(refine And.intro rfl ?_;(conv=>whnf)))
        refine ⟨trivial, by (repeat' (first | exact trivial | refine And.intro rfl ?_)), by rw [← srow_snoc hc']; rfl, ?_⟩
        rintro ⟨⟩ -
        ((conv=>whnf);repeat(refine And.intro rfl ?_;(conv=>whnf)))
        (apply rd_sound; focus (repeat' constructor))
        ((conv=>whnf);repeat(refine And.intro rfl ?_;(conv=>whnf)))
        (refine ifK_split (fun h6 => ?_) (fun h6 => ?_) <;> (rw [h6]; ((conv=>whnf);repeat(refine And.intro rfl ?_;(conv=>whnf)))))
        · refine ⟨by omega, _, node_at P (k := n) (by omega) hn', ?_⟩
          ((conv=>whnf);repeat(refine And.intro rfl ?_;(conv=>whnf)))
          rw [heq]
          ((conv=>whnf);repeat(refine And.intro rfl ?_;(conv=>whnf)))
          (refine .inl ⟨by (unfold InR; rw [IntKind.wrap_i64]; omega), ?_⟩; ((conv=>whnf);repeat(refine And.intro rfl ?_;(conv=>whnf))))
          refine ⟨(i + 1, c' + 1, m ++ [((n : Int), (P.inL n).getD i 0, P.allO n)]), ⟨by omega, by simp [hc'], by rw [ei, e5, hm, List.append_assoc]⟩, by dsimp only; omega, ?_⟩
          (refine leB_close 2 (by simp) rfl ?_ ?_ <;> (repeat' (first | exact trivial | exact rfl | exact DeepM.refl _ | exact DeepML.refl _ | exact DeepMLL.refl _ | refine And.intro ?_ ?_ | (simp [Under, UnderL, UnderLL, -List.map_take, -List.map_drop]; done))))
        · skip
          (refine .inl ⟨by (unfold InR; rw [IntKind.wrap_i64]; omega), ?_⟩; ((conv=>whnf);repeat(refine And.intro rfl ?_;(conv=>whnf))))
          refine ⟨(i + 1, c' + 1, m ++ [((n : Int), (P.inL n).getD i 0, P.allO n)]), ⟨by omega, by simp [hc'], by rw [ei, e5, hm, List.append_assoc]⟩, by dsimp only; omega, ?_⟩
          (refine leB_close 2 (by simp) rfl ?_ ?_ <;> (repeat' (first | exact trivial | exact rfl | exact DeepM.refl _ | exact DeepML.refl _ | exact DeepMLL.refl _ | refine And.intro ?_ ?_ | (simp [Under, UnderL, UnderLL, -List.map_take, -List.map_drop]; done))))
      · have hi' : i = (P.inL n).length := by have : ¬ i < (P.inL n).length := by ((try simp only [oo, reduceCtorEq] at *) <;> omega)
                                              omega
        subst hi'
        (refine .inl ⟨by (unfold InR; rw [IntKind.wrap_i64]; omega), ?_⟩; ((conv=>whnf);repeat(refine And.intro rfl ?_;(conv=>whnf))))
        refine ⟨(n + 1, c', m), ⟨by omega, hc', by rw [eT, eS, ← hl, hm]⟩, by dsimp only; omega, ?_⟩
        (refine leB_close 2 (by simp) rfl ?_ ?_ <;> (repeat' (first | exact trivial | exact rfl | exact DeepM.refl _ | exact DeepML.refl _ | exact DeepMLL.refl _ | refine And.intro ?_ ?_ | (simp [Under, UnderL, UnderLL, -List.map_take, -List.map_drop]; done))))
    have h7 : P.kind n ≠ 3 := by ((try simp only [oo, reduceCtorEq] at *) <;> omega)
    rw [if_neg (by omega)] at eS
    (refine ifK_split (fun h8 => ?_) (fun h8 => ?_) <;> (rw [h8]; ((conv=>whnf);repeat(refine And.intro rfl ?_;(conv=>whnf)))))
    · have h8 : P.kind n = 6 := by ((try simp only [oo, reduceCtorEq] at *) <;> omega)
      rw [if_pos h8] at eS
      refine ⟨(by unfold sliceAppend; simp only [ll]; omega), ?_⟩
      ((conv=>whnf);repeat(refine And.intro rfl ?_;(conv=>whnf)))
      (refine .inl ⟨by (unfold InR; rw [IntKind.wrap_i64]; omega), ?_⟩; ((conv=>whnf);repeat(refine And.intro rfl ?_;(conv=>whnf))))
      refine ⟨(n + 1, c + 1, l ++ [((n : Int), -1, P.allO n)]), ⟨by omega, by simp [hc], by rw [eT, eS, hl]⟩, by dsimp only; omega, ?_⟩
      (refine leB_close 2 (by simp) rfl ?_ ?_ <;> (repeat' (first | exact trivial | exact rfl | exact DeepM.refl _ | exact DeepML.refl _ | exact DeepMLL.refl _ | refine And.intro ?_ ?_ | (simp [Under, UnderL, UnderLL, -List.map_take, -List.map_drop]; done))))
      exact deepMLL_eq (srow_snoc hc)
    rw [if_neg (by ((try simp only [oo, reduceCtorEq] at *) <;> omega))] at eS
    (refine ifK_split (fun h9 => ?_) (fun h9 => ?_) <;> (rw [h9]; ((conv=>whnf);repeat(refine And.intro rfl ?_;(conv=>whnf)))))
    · have h9 : P.kind n = 7 := by ((try simp only [oo, reduceCtorEq] at *) <;> omega)
      rw [if_pos h9] at eS
      have b3 := ProcD.orO_le (hall n hn') h9
      have b4 := (ones_le (Nat.le_refl (P.outL n).length)).1
      rw [ea] at b4
      refine pwp_for [1, 6, 9] (fun ((k, d, q) : Nat × Nat × List StepD) => [(5, .own 1 d 0 d), (13, .sc (.int .i64 ((k : Int) + 1)))]) (fun (k, d, q) => [(1, .vec true d 3 (srows q))]) (fun (k, d, q) => k ≤ (P.allO n).toNat ∧ d = q.length ∧ d = l.length + k ∧ q = l ++ orS n k) (fun (k, d, q) => (P.allO n).toNat - k) (0, c, l) ?_
      ((conv=>whnf);repeat(refine And.intro rfl ?_;(conv=>whnf)))
      refine ⟨⟨by omega, hc, hc, (List.append_nil l).symm⟩, by (repeat' (first | exact trivial | refine And.intro rfl ?_)), rfl, ?_⟩
      rintro ⟨k, d, q⟩ ⟨hk, hd, hdk, hq⟩
      ((conv=>whnf);repeat(refine And.intro rfl ?_;(conv=>whnf)))
      (apply rd_sound; focus (repeat' constructor))
      ((conv=>whnf);repeat(refine And.intro rfl ?_;(conv=>whnf)))
      (refine ifK_split (fun h1 => ?_) (fun h1 => ?_) <;> (rw [h1]; ((conv=>whnf);repeat(refine And.intro rfl ?_;(conv=>whnf)))))
      · have hk' : k < (P.allO n).toNat := by ((try simp only [oo, reduceCtorEq] at *) <;> omega)
        refine ⟨(by unfold sliceAppend; simp only [ll]; omega), ?_⟩
        ((conv=>whnf);repeat(refine And.intro rfl ?_;(conv=>whnf)))
        (refine .inl ⟨by (unfold InR; rw [IntKind.wrap_i64]; omega), ?_⟩; ((conv=>whnf);repeat(refine And.intro rfl ?_;(conv=>whnf))))
        refine ⟨(k + 1, d + 1, q ++ [((n : Int), -1, (k : Int) + 1)]), ⟨by omega, by simp [hd], by omega, by rw [hq, List.append_assoc]; rfl⟩, by dsimp only; omega, ?_⟩
        (refine leB_close 2 (by simp) rfl ?_ ?_ <;> (repeat' (first | exact trivial | exact rfl | exact DeepM.refl _ | exact DeepML.refl _ | exact DeepMLL.refl _ | refine And.intro ?_ ?_ | (simp [Under, UnderL, UnderLL, -List.map_take, -List.map_drop]; done))))
        exact deepMLL_eq (srow_snoc hd)
      · have hk' : k = (P.allO n).toNat := by have : ¬ k < (P.allO n).toNat := by ((try simp only [oo, reduceCtorEq] at *) <;> omega)
                                              omega
        subst hk'
        (refine .inl ⟨by (unfold InR; rw [IntKind.wrap_i64]; omega), ?_⟩; ((conv=>whnf);repeat(refine And.intro rfl ?_;(conv=>whnf))))
        refine ⟨(n + 1, d, q), ⟨by omega, hd, by rw [eT, eS, hq, hl]⟩, by dsimp only; omega, ?_⟩
        (refine leB_close 2 (by simp) rfl ?_ ?_ <;> (repeat' (first | exact trivial | exact rfl | exact DeepM.refl _ | exact DeepML.refl _ | exact DeepMLL.refl _ | refine And.intro ?_ ?_ | (simp [Under, UnderL, UnderLL, -List.map_take, -List.map_drop]; done))))
    · rw [if_neg (by ((try simp only [oo, reduceCtorEq] at *) <;> omega))] at eS
      (refine .inl ⟨by (unfold InR; rw [IntKind.wrap_i64]; omega), ?_⟩; ((conv=>whnf);repeat(refine And.intro rfl ?_;(conv=>whnf))))
      refine ⟨(n + 1, c, l), ⟨by omega, hc, by rw [eT, eS, hl, List.append_nil]⟩, by dsimp only; omega, ?_⟩
      (refine leB_close 2 (by simp) rfl ?_ ?_ <;> (repeat' (first | exact trivial | exact rfl | exact DeepM.refl _ | exact DeepML.refl _ | exact DeepMLL.refl _ | refine And.intro ?_ ?_ | (simp [Under, UnderL, UnderLL, -List.map_take, -List.map_drop]; done))))
  · have hn' : n = P.nodes.length := by have : ¬ n < P.nodes.length := by ((try simp only [oo, reduceCtorEq] at *) <;> omega)
                                        omega
    subst hn'
    have b3 : l.length = (P.stepsTo P.nodes.length).length := by rw [hl]
    (refine ifK_split (fun h3 => ?_) (fun h3 => ?_) <;> (rw [h3]; ((conv=>whnf);repeat(refine And.intro rfl ?_;(conv=>whnf)))))
    · exact bad (by decide) (by rw [e1, if_pos (by ((try simp only [oo, reduceCtorEq] at *) <;> omega))])
    · have e2 : P.stepsE = 0 := by rw [e1, if_neg (by ((try simp only [oo, reduceCtorEq] at *) <;> omega))]
      have e3 : P.stepsL = l := by unfold ProcD.stepsL; rw [if_pos e2, hl]
      rw [e2, e3]
      exact .tup _ _ (.cons _ _ _ _ (deep_steps hc rfl) (.cons _ _ _ _ (.refl _) .nil))
end

end Go.Proofs.Ytjnfahdolkgnoaa
