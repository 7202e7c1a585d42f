/-
  Tokens: which steps are enabled. Plain Lean. No statement is proved here.
-/
import Derived.Test.YtikdngjdhncioaaGa0
namespace Go.Proofs.Ytikdngjdhncioaa
def val (M : List Int) (i : Nat) : Int := M.getD i 0
namespace ProcD
def inAt (P : ProcD) (n : Int) (a : Nat) : Int := (P.inL n).getD a 0
def outAt (P : ProcD) (n : Int) (a : Nat) : Int := (P.outL n).getD a 0
theorem getD_mem' {l : List Int} {a : Nat} (h : a < l.length) : l.getD a 0 ∈ l := by
  rw [List.getD_eq_getElem?_getD, List.getElem?_eq_getElem h]; exact List.getElem_mem h
theorem getD_mem_of {l : List Int} {x : Int} (h : x ∈ l) : ∃ k, k < l.length ∧ l.getD k 0 = x := getD_mem h
theorem inAt_ok {P : ProcD} {n : Int} {a : Nat} (h : a < (P.inL n).length) : 0 ≤ P.inAt n a ∧ P.inAt n a < P.flows.length ∧ P.dst (P.inAt n a).toNat = n := by
  obtain ⟨i, h1, h2, h3⟩ := pick_mem.1 (getD_mem' h)
  unfold inAt inL
  rw [h3]
  rw [Int.toNat_natCast]
  exact ⟨by omega, by omega, by simpa using h2⟩
theorem outAt_ok {P : ProcD} {n : Int} {a : Nat} (h : a < (P.outL n).length) : 0 ≤ P.outAt n a ∧ P.outAt n a < P.flows.length ∧ P.src (P.outAt n a).toNat = n := by
  obtain ⟨i, h1, h2, h3⟩ := pick_mem.1 (getD_mem' h)
  unfold outAt outL
  rw [h3]
  rw [Int.toNat_natCast]
  exact ⟨by omega, by omega, by simpa using h2⟩
def posTo (P : ProcD) (M : List Int) (n : Int) : Nat → Bool
  | 0 => false
  | a + 1 => P.posTo M n a || decide (0 < val M (P.inAt n a).toNat)
def allTo (P : ProcD) (M : List Int) (n : Int) : Nat → Bool
  | 0 => true
  | a + 1 => P.allTo M n a && decide (0 < val M (P.inAt n a).toNat)
/-- A token that may still come keeps an empty flow waiting. -/
def hold (P : ProcD) (M : List Int) (n : Int) (f i : Nat) : Prop := P.Via n i f ∧ 0 < val M i ∧ P.dst i ≠ n
def badAt (P : ProcD) (M : List Int) (n : Int) (a : Nat) : Prop := val M (P.inAt n a).toNat ≤ 0 ∧ ∃ i, i < P.flows.length ∧ P.hold M n (P.inAt n a).toNat i
open Classical in
noncomputable def joinB (P : ProcD) (M : List Int) (n : Int) : Bool := P.posTo M n (P.inL n).length && decide (∀ a, a < (P.inL n).length → ¬ P.badAt M n a)
open Classical in
noncomputable def mayB (P : ProcD) (M : List Int) (s : StepD) : Bool :=
  if 0 ≤ s.2.1 then decide (0 < val M s.2.1.toNat) else if P.kind s.1.toNat = 7 then P.joinB M s.1 else P.allTo M s.1 (P.inL s.1).length
open Classical in
theorem joinB_false {P : ProcD} {M : List Int} {n : Int} {a : Nat} (ha : a < (P.inL n).length) (h : P.badAt M n a) : P.joinB M n = false := by
  unfold joinB
  rw [Bool.and_eq_false_iff]
  exact .inr (decide_eq_false fun q => q a ha h)
open Classical in
theorem joinB_some {P : ProcD} {M : List Int} {n : Int} (h : ∀ a, a < (P.inL n).length → ¬ P.badAt M n a) : P.joinB M n = P.posTo M n (P.inL n).length := by
  unfold joinB
  rw [decide_eq_true h, Bool.and_true]
/-- The reference's word for it. -/
theorem hold_iff {P : ProcD} {M : List Int} {n : Int} {f k : Nat} (h0 : val M f = 0) (hk : 0 < val M k) : P.hold M n f k ↔ (k ≠ f ∧ P.Via n k f) := by
  constructor
  · rintro ⟨h1, h2, h3⟩
    exact ⟨fun e => by subst e; omega, h1⟩
  · rintro ⟨h1, h2⟩
    refine ⟨h2, hk, ?_⟩
    rcases h2.first with q | q
    · exact absurd q h1
    · exact q
/-- What is so of a process's steps. -/
structure StepOK (P : ProcD) (s : StepD) : Prop where
  node : 0 ≤ s.1 ∧ s.1 < P.nodes.length
  in_ : -1 ≤ s.2.1 ∧ s.2.1 < P.flows.length
  kind : s.2.1 < 0 → P.kind s.1.toNat = 6 ∨ P.kind s.1.toNat = 7
  out : 0 ≤ s.2.2 ∧ s.2.2 ≤ 1073741824
theorem allO_ok {P : ProcD} (hf : P.flows.length ≤ 30) (n : Int) : 0 ≤ P.allO n ∧ P.allO n ≤ 1073741823 := by
  have l2 := P.outL_len n
  have := ones_le (k := (P.outL n).length) (n := 30) (by omega)
  have e30 : ones 30 = 1073741823 := rfl
  unfold allO
  omega
theorem orS_mem {n : Int} {s : StepD} : ∀ {k : Nat}, s ∈ orS n k → s.1 = n ∧ s.2.1 = -1 ∧ 0 ≤ s.2.2 ∧ s.2.2 ≤ k
  | 0, h => by cases h
  | k + 1, h => by
    simp only [orS, List.mem_append, List.mem_singleton] at h
    rcases h with h | h
    · have := orS_mem h
      exact ⟨this.1, this.2.1, this.2.2.1, by omega⟩
    · subst h
      exact ⟨rfl, rfl, by dsimp only; omega, by dsimp only; omega⟩
theorem xorS_mem {n i : Int} {s : StepD} : ∀ {k : Nat}, s ∈ xorS n i k → s.1 = n ∧ s.2.1 = i ∧ ∃ j, j < k ∧ s.2.2 = 2 ^ j
  | 0, h => by cases h
  | k + 1, h => by
    simp only [xorS, List.mem_append, List.mem_singleton] at h
    rcases h with h | h
    · obtain ⟨a, b, j, c, d⟩ := xorS_mem h
      exact ⟨a, b, j, by omega, d⟩
    · subst h
      exact ⟨rfl, rfl, k, by omega, rfl⟩
theorem byIns_mem {P : ProcD} {k n : Int} {s : StepD} (hf : P.flows.length ≤ 30) : ∀ {j : Nat}, j ≤ (P.inL n).length → s ∈ P.byIns k n j → s.1 = n ∧ (0 ≤ s.2.1 ∧ s.2.1 < P.flows.length) ∧ 0 ≤ s.2.2 ∧ s.2.2 ≤ 1073741824
  | 0, _, h => by cases h
  | j + 1, hj, h => by
    simp only [byIns, List.mem_append] at h
    rcases h with h | h
    · exact byIns_mem hf (by omega) h
    · have hi := inAt_ok (P := P) (n := n) (a := j) (by omega)
      unfold inAt at hi
      have l2 := P.outL_len n
      have ha := allO_ok hf n
      unfold byIn at h
      split at h
      · obtain ⟨a, b, i, c, d⟩ := xorS_mem h
        have p1 := pow_pos' i
        have p2 := pow_le (k := i) (n := 30) (by omega)
        have p3 : (2 : Int) ^ 30 = 1073741824 := by decide
        exact ⟨a, by omega, by omega⟩
      · rw [List.mem_singleton] at h
        subst h
        exact ⟨rfl, ⟨hi.1, hi.2.1⟩, ha.1, by dsimp only; omega⟩
theorem stepsOf_mem {P : ProcD} {n : Nat} {s : StepD} (hf : P.flows.length ≤ 30) (hn : n < P.nodes.length) (h : s ∈ P.stepsOf n) : P.StepOK s := by
  have ha := allO_ok hf n
  unfold stepsOf at h
  split at h
  · obtain ⟨a, b, c⟩ := byIns_mem hf (Nat.le_refl _) h
    exact ⟨by omega, by omega, fun q => by omega, c⟩
  · split at h
    · rename_i q
      rw [List.mem_singleton] at h
      subst h
      exact ⟨by dsimp only; omega, by dsimp only; omega, fun _ => .inl (by rw [Int.toNat_natCast]; exact q), ha.1, by dsimp only; omega⟩
    · split at h
      · rename_i q
        obtain ⟨a, b, c, d⟩ := orS_mem h
        exact ⟨by omega, by omega, fun _ => .inr (by rw [a, Int.toNat_natCast]; exact q), c, by omega⟩
      · cases h
theorem stepsTo_mem {P : ProcD} {s : StepD} (hf : P.flows.length ≤ 30) : ∀ {n : Nat}, n ≤ P.nodes.length → s ∈ P.stepsTo n → P.StepOK s
  | 0, _, h => by cases h
  | n + 1, hn, h => by
    simp only [stepsTo, List.mem_append] at h
    rcases h with h | h
    · exact stepsTo_mem hf (by omega) h
    · exact stepsOf_mem hf (by omega) h
/-- Numbers of the enabled steps. -/
noncomputable def mayTo (P : ProcD) (M : List Int) (l : List StepD) : Nat → List Int
  | 0 => []
  | k + 1 => if P.mayB M (l.getD k (0, 0, 0)) = true then P.mayTo M l k ++ [(k : Int)] else P.mayTo M l k
theorem mayTo_len (P : ProcD) (M : List Int) (l : List StepD) : ∀ k, (P.mayTo M l k).length ≤ k
  | 0 => by simp [mayTo]
  | k + 1 => by
    have := mayTo_len P M l k
    simp only [mayTo]
    split
    · simp; omega
    · omega
theorem allTo_any {P : ProcD} {M : List Int} {n : Int} (h : ∀ i, 0 ≤ val M i) : ∀ a, P.allTo M n a = !((List.range a).any fun j => val M (P.inAt n j).toNat == 0)
  | 0 => rfl
  | a + 1 => by
    rw [allTo, allTo_any h a, List.range_succ, List.any_append]
    have h1 : decide (0 < val M (P.inAt n a).toNat) = !(val M (P.inAt n a).toNat == 0) := by
      have := h (P.inAt n a).toNat
      by_cases q : val M (P.inAt n a).toNat = 0
      · simp [q]
      · rw [decide_eq_true (by omega)]; simp [q]
    simp [h1]
theorem any_range {l : List Int} {p : Int → Bool} : l.any p = (List.range l.length).any fun j => p (l.getD j 0) := by
  rw [Bool.eq_iff_iff, List.any_eq_true, List.any_eq_true]
  constructor
  · rintro ⟨x, hx, hp⟩
    obtain ⟨k, hk, rfl⟩ := List.mem_iff_getElem.1 hx
    refine ⟨k, List.mem_range.2 hk, ?_⟩
    rw [List.getD_eq_getElem?_getD, List.getElem?_eq_getElem hk]
    exact hp
  · rintro ⟨k, hk, hp⟩
    exact ⟨_, getD_mem' (List.mem_range.1 hk), hp⟩
end ProcD
end Go.Proofs.Ytikdngjdhncioaa
