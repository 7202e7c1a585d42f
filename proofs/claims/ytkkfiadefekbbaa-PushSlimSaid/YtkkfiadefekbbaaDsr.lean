/-
  Regions that draw their order, over deep values: the text's order tells what every order does. No statement is proved here.
-/
import Derived.Test.YtkkfiadefekbbaaDsa
import Derived.Orders
import Derived.Still
namespace Go.Proofs.Ytkkfiadefekbbaa
open Go.RowKit
set_option linter.unusedSimpArgs false
set_option linter.unusedVariables false

/-! ### What must come ahead -/

theorem maskOf_bit {ms : List Nat} {i : Nat} : ∀ (l : List Nat), (maskOf ms l).testBit i = true → ∃ a ∈ l, a = i ∨ (ms.getD a 0).testBit i = true
  | [], h => by simp [maskOf] at h
  | a :: r, h => by
    simp only [maskOf, Nat.testBit_or, Bool.or_eq_true] at h
    rcases h with (h | h) | h
    · rw [Nat.testBit_two_pow] at h
      exact ⟨a, by simp, .inl (by simpa using h)⟩
    · exact ⟨a, by simp, .inr h⟩
    · obtain ⟨b, hb, k⟩ := maskOf_bit r h
      exact ⟨b, by simp [hb], k⟩

theorem masksOf_spec : ∀ (l : List Oper) (acc : List Nat), (∀ k, k < acc.length → (masksOf acc l).getD k 0 = acc.getD k 0) ∧ (masksOf acc l).length = acc.length + l.length ∧
    ∀ k o, l[k]? = some o → ∃ acc', (∀ a, a < acc.length + k → acc'.getD a 0 = (masksOf acc l).getD a 0) ∧ (∀ a, acc.length + k ≤ a → acc'.getD a 0 = 0) ∧ (masksOf acc l).getD (acc.length + k) 0 = maskOf acc' (afterL o)
  | [], acc => ⟨fun _ _ => rfl, by simp [masksOf], fun k o h => by simp at h⟩
  | x :: r, acc => by
    obtain ⟨h1, h2, h3⟩ := masksOf_spec r (acc ++ [maskOf acc (afterL x)])
    simp only [masksOf]
    simp only [List.length_append, List.length_singleton] at h1 h2 h3
    have hacc : ∀ k, k < acc.length → (acc ++ [maskOf acc (afterL x)]).getD k 0 = acc.getD k 0 := fun k hk => by
      simp [List.getD, List.getElem?_append_left hk]
    refine ⟨fun k hk => by rw [h1 k (by omega), hacc k hk], by rw [h2]; simp; omega, fun k o hk => ?_⟩
    cases k with
    | zero =>
      simp at hk; subst hk
      refine ⟨acc, fun a ha => by rw [h1 a (by omega), hacc a (by omega)], fun a ha => by simp [List.getD, List.getElem?_eq_none (by omega : acc.length ≤ a)], ?_⟩
      rw [Nat.add_zero, h1 _ (by omega)]
      simp [List.getD]
    | succ k =>
      obtain ⟨acc', k1, k2, k3⟩ := h3 k o (by simpa using hk)
      rw [show acc.length + 1 + k = acc.length + (k + 1) by omega] at k1 k2 k3
      exact ⟨acc', k1, k2, k3⟩

theorem apartFrom_spec {ops : Array Oper} {m : Nat} {o : Oper} : ∀ (l : List Oper) (i : Nat), apartFrom ops m o i l = true → ∀ k x, l[k]? = some x → m.testBit (i + k) = true ∨ x.apart ops o = true
  | [], i, _, k, x, h => by simp at h
  | y :: r, i, h, k, x, hk => by
    simp only [apartFrom, Bool.and_eq_true, Bool.or_eq_true] at h
    cases k with
    | zero => simp at hk; subst hk; exact h.1
    | succ k =>
      have := apartFrom_spec r (i + 1) h.2 k x (by simpa using hk)
      rwa [show i + 1 + k = i + (k + 1) by omega] at this

theorem regOK_spec {ops : Array Oper} {ms : List Nat} : ∀ (l pre : List Oper), regOK ops ms pre l = true → ∀ k o, l[k]? = some o → (∀ a ∈ afterL o, a < pre.length + k) ∧
    ∀ i x, i < pre.length + k → (pre ++ l)[i]? = some x → (ms.getD (pre.length + k) 0).testBit i = true ∨ x.apart ops o = true
  | [], pre, _, k, o, h => by simp at h
  | y :: r, pre, h, k, o, hk => by
    simp only [regOK, Bool.and_eq_true] at h
    obtain ⟨⟨h1, h2⟩, h3⟩ := h
    cases k with
    | zero =>
      simp at hk; subst hk
      refine ⟨fun a ha => by simpa using List.all_eq_true.1 h1 a ha, fun i x hi hx => ?_⟩
      rw [List.getElem?_append_left (by omega)] at hx
      have := apartFrom_spec pre 0 h2 i x hx
      simpa using this
    | succ k =>
      have := regOK_spec r (pre ++ [y]) h3 k o (by simpa using hk)
      simp only [List.length_append, List.length_singleton, List.append_assoc, List.singleton_append] at this
      rw [show pre.length + 1 + k = pre.length + (k + 1) by omega] at this
      exact this

section
variable {ops : Array Oper}
/-- Number i must have come ahead of number j. -/
def Bef (ops : Array Oper) (i j : Nat) : Prop := ((masksOf [] ops.toList).getD j 0).testBit i = true
def Closed (ops : Array Oper) (S : Nat → Bool) : Prop := ∀ j o, ops[j]? = some o → S j = true → ∀ a ∈ afterL o, S a = true

theorem bef_spec (hreg : regOK ops (masksOf [] ops.toList) [] ops.toList = true) : ∀ (j : Nat) (o : Oper), ops[j]? = some o → ∀ i, Bef ops i j → i < j ∧ ∀ S : Nat → Bool, Closed ops S → (∀ a ∈ afterL o, S a = true) → S i = true := by
  intro j
  induction j using Nat.strongRecOn with
  | _ j ih =>
    intro o ho i hb
    obtain ⟨acc, h1, h2, h3⟩ := (masksOf_spec ops.toList []).2.2 j o (by simpa using ho)
    simp only [List.length_nil, Nat.zero_add] at h1 h2 h3
    unfold Bef at hb
    rw [h3] at hb
    have hlt := (regOK_spec ops.toList [] hreg j o (by simpa using ho)).1
    simp only [List.length_nil, Nat.zero_add] at hlt
    obtain ⟨a, ha, rfl | hbit⟩ := maskOf_bit _ hb
    · exact ⟨hlt _ ha, fun S _ hS => hS _ ha⟩
    · have haj := hlt a ha
      rw [h1 a haj] at hbit
      have hj : j < ops.size := by
        rcases Nat.lt_or_ge j ops.size with h | h
        · exact h
        · rw [Array.getElem?_eq_none h] at ho; cases ho
      have hao : ops[a]? = some ops[a] := Array.getElem?_eq_getElem (by omega)
      obtain ⟨q1, q2⟩ := ih a haj _ hao i hbit
      exact ⟨by omega, fun S hC hS => q2 S hC (hC a _ hao (hS a ha))⟩
end

/-! ### The text's order -/

structure Rec where
  d : D
  rd : List Nat
  wr : List Nat
  H2 : List AObj
instance : Inhabited Rec := ⟨⟨.junk, [], [], []⟩⟩

section
variable {P : Program} {n : Nat} {ops : Array Oper}

/-- What is known of one operation at its place in the text. -/
def RecOK (P : Program) (n : Nat) (ops : Array Oper) (o : Oper) (env : Env) (H : List AObj) (r : Rec) : Prop :=
  (∀ t, o.dst = some t → t < n) ∧ (∀ cs b, o.op ≠ .select cs b) ∧
  ((o.guard = none ∧ OpS P o env r.rd r.wr H r.d r.H2) ∨
   ∃ j b t c, o.guard = some (j, b) ∧ (ops[j]?).bind (·.dst) = some t ∧ lookD t env = .sc c ∧
     ((c = .bool b ∧ OpS P o env r.rd r.wr H r.d r.H2) ∨ (offV b c = true ∧ r = ⟨.sc undef, [], [], H⟩)))

def stepEnv (o : Oper) (r : Rec) (env : Env) : Env := match o.dst with
  | some t => (t, r.d) :: env
  | none => env

inductive Run (P : Program) (n : Nat) (ops : Array Oper) : List Oper → Env → List AObj → List Rec → Env → List AObj → Prop
  | nil (env : Env) (H : List AObj) : Run P n ops [] env H [] env H
  | cons (o : Oper) (l : List Oper) (env : Env) (H : List AObj) (r : Rec) (rs : List Rec) (env' : Env) (H' : List AObj) (h : RecOK P n ops o env H r) (k : Run P n ops l (stepEnv o r env) r.H2 rs env' H') : Run P n ops (o :: l) env H (r :: rs) env' H'

theorem cop_select {o : Oper} {p : POp} (h : cop P o = some p) : ∀ cs b, o.op ≠ .select cs b := fun cs b e => by
  unfold cop at h
  rw [e] at h
  simp at h

theorem runD_spec : ∀ (l : List Oper) (ms : List Nat) (pl : List POper), cOpers P n ops ms l = some pl → ∀ (env : Env) (H : List AObj) (K : Env → List AObj → Trace → Prop), runD P pl env H K →
    ∃ rs env' H', Run P n ops l env H rs env' H' ∧ K env' H' (rs.map fun r => (r.rd, r.wr)) ∧ rs.length = l.length
  | [], ms, pl, hc, env, H, K, h => by
    simp [cOpers] at hc; subst hc
    exact ⟨[], env, H, .nil env H, h, rfl⟩
  | o :: l, ms, pl, hc, env, H, K, h => by
    simp only [cOpers] at hc
    split at hc
    · rename_i p pr h1 h2
      cases hc
      obtain ⟨k1, k2, k3, k4, _⟩ := cOper_spec h1
      have fin : ∀ (r : Rec), RecOK P n ops o env H r → (match p.dst with
          | some t => runD P pr ((t, r.d) :: env) r.H2 fun e h tr => K e h ((r.rd, r.wr) :: tr)
          | none => runD P pr env r.H2 fun e h tr => K e h ((r.rd, r.wr) :: tr)) → ∃ rs env' H', Run P n ops (o :: l) env H rs env' H' ∧ K env' H' (rs.map fun r => (r.rd, r.wr)) ∧ rs.length = (o :: l).length := fun r hr hs => by
        have hs' : runD P pr (stepEnv o r env) r.H2 fun e h tr => K e h ((r.rd, r.wr) :: tr) := by
          unfold stepEnv
          rw [k2] at hs
          cases hd : o.dst with
          | none => rw [hd] at hs; exact hs
          | some t => rw [hd] at hs; exact hs
        obtain ⟨rs, env', H', q1, q2, q3⟩ := runD_spec l ms.tail pr h2 _ _ _ hs'
        exact ⟨r :: rs, env', H', .cons o l env H r rs env' H' hr q1, q2, by simp [q3]⟩
      have exec : (step P false p.op env H fun d H' rd wr => match p.dst with
          | some t => runD P pr ((t, d) :: env) H' fun e h tr => K e h ((rd, wr) :: tr)
          | none => runD P pr env H' fun e h tr => K e h ((rd, wr) :: tr)) → ∃ d H2 rd wr, OpS P o env rd wr H d H2 ∧ (match p.dst with
          | some t => runD P pr ((t, d) :: env) H2 fun e h tr => K e h ((rd, wr) :: tr)
          | none => runD P pr env H2 fun e h tr => K e h ((rd, wr) :: tr)) := fun hs => by
        rcases step_sound k1 hs with q | ⟨q, _⟩
        · exact q
        · cases q
      simp only [runD] at h
      rcases k4 with ⟨g1, g2⟩ | ⟨j, b, t, g1, g2, g3⟩
      · rw [g2] at h
        obtain ⟨d, H2, rd, wr, q1, q2⟩ := exec h
        exact fin ⟨d, rd, wr, H2⟩ ⟨k3, cop_select k1, .inl ⟨g1, q1⟩⟩ q2
      · rw [g3] at h
        simp only [lookK_eq] at h
        split at h
        · rename_i c hcc
          cases b with
          | true =>
            obtain ⟨hA, hB⟩ := ifK_iff.1 h
            cases c with
            | true =>
              obtain ⟨d, H2, rd, wr, q1, q2⟩ := exec (hA rfl)
              exact fin ⟨d, rd, wr, H2⟩ ⟨k3, cop_select k1, .inr ⟨j, true, t, .bool true, g1, g2, hcc, .inl ⟨rfl, q1⟩⟩⟩ q2
            | false => exact fin ⟨.sc undef, [], [], H⟩ ⟨k3, cop_select k1, .inr ⟨j, true, t, .bool false, g1, g2, hcc, .inr ⟨rfl, rfl⟩⟩⟩ (hB rfl)
          | false =>
            obtain ⟨hA, hB⟩ := ifK_iff.1 h
            cases c with
            | true => exact fin ⟨.sc undef, [], [], H⟩ ⟨k3, cop_select k1, .inr ⟨j, false, t, .bool true, g1, g2, hcc, .inr ⟨rfl, rfl⟩⟩⟩ (hA rfl)
            | false =>
              obtain ⟨d, H2, rd, wr, q1, q2⟩ := exec (hB rfl)
              exact fin ⟨d, rd, wr, H2⟩ ⟨k3, cop_select k1, .inr ⟨j, false, t, .bool false, g1, g2, hcc, .inl ⟨rfl, q1⟩⟩⟩ q2
        · rename_i xs hcc
          exact fin ⟨.sc undef, [], [], H⟩ ⟨k3, cop_select k1, .inr ⟨j, b, t, .tuple xs, g1, g2, hcc, .inr ⟨rfl, rfl⟩⟩⟩ h
        · exact h.elim
    · cases hc

/-! ### The state behind some of the operations -/

def dstAt (l : List Oper) (k : Nat) : Option Tmp := (l[k]?).bind (·.dst)
def recAt (rs : List Rec) (k : Nat) : Rec := (rs[k]?).getD default
/-- What a temporary holds behind those of the first k operations that S names. -/
def Et (l : List Oper) (rs : List Rec) (env : Env) (S : Nat → Bool) : Nat → Nat → D
  | 0, t => lookD t env
  | k + 1, t => if S k = true ∧ dstAt l k = some t then (recAt rs k).d else Et l rs env S k t
def Gt (rs : List Rec) (H : List AObj) (S : Nat → Bool) : Nat → Nat → Option AObj
  | 0, id => H[id]?
  | k + 1, id => if S k = true ∧ id ∈ (recAt rs k).wr then (recAt rs k).H2[id]? else Gt rs H S k id

theorem Et_agree {l : List Oper} {rs : List Rec} {env : Env} {S S' : Nat → Bool} {t : Nat} : ∀ (k : Nat), (∀ i, i < k → dstAt l i = some t → S i = S' i) → Et l rs env S k t = Et l rs env S' k t
  | 0, _ => rfl
  | k + 1, h => by
    simp only [Et]
    by_cases hd : dstAt l k = some t
    · rw [h k (by omega) hd, Et_agree k fun i hi hd => h i (by omega) hd]
    · rw [if_neg (fun q => hd q.2), if_neg (fun q => hd q.2), Et_agree k fun i hi hd => h i (by omega) hd]
theorem Gt_agree {rs : List Rec} {H : List AObj} {S S' : Nat → Bool} {id : Nat} : ∀ (k : Nat), (∀ i, i < k → id ∈ (recAt rs i).wr → S i = S' i) → Gt rs H S k id = Gt rs H S' k id
  | 0, _ => rfl
  | k + 1, h => by
    simp only [Gt]
    by_cases hd : id ∈ (recAt rs k).wr
    · rw [h k (by omega) hd, Gt_agree k fun i hi hd => h i (by omega) hd]
    · rw [if_neg (fun q => hd q.2), if_neg (fun q => hd q.2), Gt_agree k fun i hi hd => h i (by omega) hd]
/-- The first j operations, all of them. -/
def upto (j : Nat) : Nat → Bool := fun i => decide (i < j)
theorem Et_upto {l : List Oper} {rs : List Rec} {env : Env} {j t : Nat} : ∀ (k : Nat), j ≤ k → Et l rs env (upto j) k t = Et l rs env (fun _ => true) j t
  | 0, h => by have : j = 0 := by omega
               subst this; rfl
  | k + 1, h => by
    by_cases e : j = k + 1
    · subst e
      exact Et_agree (k + 1) fun i hi _ => by simp [upto, hi]
    · simp only [Et]
      rw [if_neg (by simp [upto]; omega), Et_upto k (by omega)]
theorem Gt_upto {rs : List Rec} {H : List AObj} {j id : Nat} : ∀ (k : Nat), j ≤ k → Gt rs H (upto j) k id = Gt rs H (fun _ => true) j id
  | 0, h => by have : j = 0 := by omega
               subst this; rfl
  | k + 1, h => by
    by_cases e : j = k + 1
    · subst e
      exact Gt_agree (k + 1) fun i hi _ => by simp [upto, hi]
    · simp only [Gt]
      rw [if_neg (by simp [upto]; omega), Gt_upto k (by omega)]

/-- The text's states, one by one. -/
def envT (l : List Oper) (rs : List Rec) (env : Env) : Nat → Env
  | 0 => env
  | k + 1 => match l[k]?, rs[k]? with
    | some o, some r => stepEnv o r (envT l rs env k)
    | _, _ => envT l rs env k
def heapT (rs : List Rec) (H : List AObj) : Nat → List AObj
  | 0 => H
  | k + 1 => match rs[k]? with
    | some r => r.H2
    | none => heapT rs H k

theorem envT_cons {o : Oper} {l : List Oper} {r : Rec} {rs : List Rec} {env : Env} : ∀ k, envT (o :: l) (r :: rs) env (k + 1) = envT l rs (stepEnv o r env) k
  | 0 => rfl
  | k + 1 => by
    rw [envT]
    rw [envT_cons k]
    rfl
theorem heapT_cons {r : Rec} {rs : List Rec} {H : List AObj} : ∀ k, heapT (r :: rs) H (k + 1) = heapT rs r.H2 k
  | 0 => rfl
  | k + 1 => by
    rw [heapT]
    rw [heapT_cons k]
    rfl

theorem Run.at {l : List Oper} {env env' : Env} {H H' : List AObj} {rs : List Rec} (h : Run P n ops l env H rs env' H') : rs.length = l.length ∧ envT l rs env l.length = env' ∧ heapT rs H l.length = H' ∧
    ∀ k o, l[k]? = some o → ∃ r, rs[k]? = some r ∧ RecOK P n ops o (envT l rs env k) (heapT rs H k) r := by
  induction h with
  | nil env H => exact ⟨rfl, rfl, rfl, fun k o h => by simp at h⟩
  | cons o l env H r rs env' H' h k ih =>
    obtain ⟨i1, i2, i3, i4⟩ := ih
    refine ⟨by simp [i1], by rw [List.length_cons, envT_cons]; exact i2, by rw [List.length_cons, heapT_cons]; exact i3, fun m x hx => ?_⟩
    cases m with
    | zero => simp at hx; subst hx; exact ⟨r, rfl, h⟩
    | succ m =>
      obtain ⟨r', q1, q2⟩ := i4 m x (by simpa using hx)
      exact ⟨r', by simpa using q1, by rw [envT_cons, heapT_cons]; exact q2⟩

theorem recAt_of {rs : List Rec} {k : Nat} {r : Rec} (h : rs[k]? = some r) : recAt rs k = r := by simp [recAt, h]
theorem dstAt_of {l : List Oper} {k : Nat} {o : Oper} (h : l[k]? = some o) : dstAt l k = o.dst := by simp [dstAt, h]

theorem RecOK.frame {o : Oper} {env : Env} {H : List AObj} {r : Rec} (h : RecOK P n ops o env H r) : (∀ id, id ∉ r.wr → r.H2[id]? = H[id]?) ∧ H.length ≤ r.H2.length ∧ ∀ id ∈ r.wr, id < r.H2.length := by
  rcases h.2.2 with ⟨_, q⟩ | ⟨j, b, t, c, _, _, _, ⟨_, q⟩ | ⟨_, rfl⟩⟩
  · exact ⟨q.frame, q.len, q.lt⟩
  · exact ⟨q.frame, q.len, q.lt⟩
  · exact ⟨fun _ _ => rfl, Nat.le_refl _, fun _ h => by cases h⟩

section
variable {l : List Oper} {rs : List Rec} {env : Env} {H : List AObj}
variable (hA : ∀ k o, l[k]? = some o → ∃ r, rs[k]? = some r ∧ RecOK P n ops o (envT l rs env k) (heapT rs H k) r)
include hA

theorem Et_all : ∀ k, k ≤ l.length → ∀ t, Et l rs env (fun _ => true) k t = lookD t (envT l rs env k)
  | 0, _, t => rfl
  | k + 1, hk, t => by
    have hl : l[k]? = some l[k] := List.getElem?_eq_getElem (by omega)
    obtain ⟨r, h1, _⟩ := hA k _ hl
    simp only [Et, envT, hl, h1, recAt_of h1, dstAt_of hl, true_and, stepEnv]
    cases hd : l[k].dst with
    | none => simp; exact Et_all k (by omega) t
    | some u =>
      simp only [Option.some.injEq]
      rw [lookD_cons]
      by_cases e : t = u
      · rw [if_pos e.symm, if_pos e]
      · rw [if_neg (fun q => e q.symm), if_neg e]; exact Et_all k (by omega) t
theorem Gt_all : ∀ k, k ≤ l.length → ∀ id, Gt rs H (fun _ => true) k id = (heapT rs H k)[id]?
  | 0, _, id => rfl
  | k + 1, hk, id => by
    have hl : l[k]? = some l[k] := List.getElem?_eq_getElem (by omega)
    obtain ⟨r, h1, h2⟩ := hA k _ hl
    simp only [Gt, heapT, h1, recAt_of h1, true_and]
    split
    · rfl
    · rename_i hn; rw [Gt_all k (by omega) id]; exact (h2.frame.1 id hn).symm
theorem heapT_le : ∀ k j, j ≤ k → k ≤ l.length → (heapT rs H j).length ≤ (heapT rs H k).length
  | 0, j, hj, _ => by have : j = 0 := by omega
                      subst this; exact Nat.le_refl _
  | k + 1, j, hj, hk => by
    have hl : l[k]? = some l[k] := List.getElem?_eq_getElem (by omega)
    obtain ⟨r, h1, h2⟩ := hA k _ hl
    by_cases e : j = k + 1
    · rw [e]; exact Nat.le_refl _
    · refine Nat.le_trans (heapT_le k j (by omega) (by omega)) ?_
      simp only [heapT, h1]
      exact h2.frame.2.1
theorem wr_lt {i k : Nat} (hik : i < k) (hk : k ≤ l.length) {id : Nat} (h : id ∈ (recAt rs i).wr) : id < (heapT rs H k).length := by
  have hl : l[i]? = some l[i] := List.getElem?_eq_getElem (by omega)
  obtain ⟨r, h1, h2⟩ := hA i _ hl
  rw [recAt_of h1] at h
  have h3 := h2.frame.2.2 id h
  have h4 := heapT_le hA k (i + 1) (by omega) hk
  simp only [heapT, h1] at h4
  omega
end

/-! ### What is noted of memory -/

theorem memb_iff (x : Nat) : ∀ l : List Nat, memb x l = true ↔ x ∈ l
  | [] => by simp [memb]
  | y :: r => by
    simp only [memb]
    cases e : Nat.beq x y with
    | true => simp [Nat.eq_of_beq_eq_true e]
    | false =>
      have : x ≠ y := fun h => by subst h; simp at e
      simp [memb_iff x r, this]
theorem meets_iff : ∀ (a b : List Nat), meets a b = true ↔ ∃ x ∈ a, x ∈ b
  | [], b => by simp [meets]
  | x :: r, b => by
    simp only [meets]
    cases e : memb x b with
    | true => simp [(memb_iff x b).1 e]
    | false =>
      have : x ∉ b := fun h => by rw [(memb_iff x b).2 h] at e; cases e
      simp [meets_iff r b, this]
theorem traceOK_spec {m : Nat} {b : List Nat × List Nat} : ∀ (tr : Trace) (i : Nat), traceOK m b i tr = true → ∀ k a, tr[k]? = some a → clash a b = true → bitOf m (i + k) = true
  | [], i, _, k, a, h, _ => by simp at h
  | x :: r, i, h, k, a, hk, hc => by
    simp only [traceOK] at h
    split at h
    · rename_i h1
      cases k with
      | zero =>
        simp at hk; subst hk
        simpa [hc] using h1
      | succ k =>
        have := traceOK_spec r (i + 1) h k a (by simpa using hk) hc
        rwa [show i + 1 + k = i + (k + 1) by omega] at this
    · cases h
theorem memOK_spec : ∀ (pl : List POper) (pre tr : Trace), memOK pre pl tr = true → ∀ k o b, pl[k]? = some o → tr[k]? = some b → ∀ i a, i < pre.length + k → (pre ++ tr)[i]? = some a → clash a b = true → bitOf o.mask i = true
  | [], pre, tr, _, k, o, b, h, _, _, _, _, _, _ => by simp at h
  | p :: pl, pre, [], _, k, o, b, _, h, _, _, _, _, _ => by simp at h
  | p :: pl, pre, t :: tr, h, k, o, b, hk, hb, i, a, hi, ha, hc => by
    simp only [memOK] at h
    split at h
    · rename_i h1
      cases k with
      | zero =>
        simp at hk hb; subst hk; subst hb
        rw [List.getElem?_append_left (by omega)] at ha
        have := traceOK_spec pre 0 h1 i a ha hc
        simpa using this
      | succ k =>
        refine memOK_spec pl (pre ++ [t]) tr h k o b (by simpa using hk) (by simpa using hb) i a (by simp; omega) ?_ hc
        simpa using ha
    · cases h
theorem bitOf_test {m i : Nat} (h : bitOf m i = true) : m.testBit i = true := by
  unfold bitOf at h
  split at h
  · rename_i e
    rw [Nat.testBit_eq_decide_div_mod_eq]
    simpa using Nat.eq_of_beq_eq_true e
  · cases h
theorem cOpers_mask : ∀ (l : List Oper) (ms : List Nat) (pl : List POper), cOpers P n ops ms l = some pl → ∀ k p, pl[k]? = some p → p.mask = ms.getD k 0
  | [], ms, pl, h, k, p, hk => by simp [cOpers] at h; subst h; simp at hk
  | o :: l, ms, pl, h, k, p, hk => by
    simp only [cOpers] at h
    split at h
    · rename_i q pr h1 h2
      cases h
      cases k with
      | zero =>
        simp at hk; subst hk
        rw [(cOper_spec h1).2.2.2.2]
        cases ms <;> rfl
      | succ k =>
        rw [cOpers_mask l ms.tail pr h2 k p (by simpa using hk)]
        cases ms <;> simp [List.getD]
    · cases h
theorem cOpers_len : ∀ (l : List Oper) (ms : List Nat) (pl : List POper), cOpers P n ops ms l = some pl → pl.length = l.length
  | [], ms, pl, h => by simp [cOpers] at h; subst h; rfl
  | o :: l, ms, pl, h => by
    simp only [cOpers] at h
    split at h
    · rename_i q pr h1 h2
      cases h
      simp [cOpers_len l ms.tail pr h2]
    · cases h
end
end Go.Proofs.Ytkkfiadefekbbaa
