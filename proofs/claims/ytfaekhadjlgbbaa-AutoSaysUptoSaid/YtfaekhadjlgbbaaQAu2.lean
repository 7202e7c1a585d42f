/-
  An automaton and a word as one graph: plain law. No statement is proved here.
-/
import Derived.Test.YtfaekhadjlgbbaaQAu0
import Derived.Test.YtfaekhadjlgbbaaQAu1
import Derived.Test.YtfaekhadjlgbbaaQFp
namespace Go.Proofs.Ytfaekhadjlgbbaa
open Go.RowKit
set_option linter.unusedSimpArgs false
set_option linter.unusedVariables false
/-- The place behind a place. -/
def thenW (a p i : Nat) : Nat := if i + 1 = a + p then a else i + 1
theorem thenW_lt {a p i : Nat} (hp : 1 ≤ p) (h : i < a + p) : thenW a p i < a + p := by unfold thenW; split <;> omega
/-- Where a word stands that is written with stem a and loop p. -/
def redW (a p i : Nat) : Nat := if i < a then i else a + (i - a) % p
theorem redW_lt {a p : Nat} (hp : 1 ≤ p) (i : Nat) : redW a p i < a + p := by
  unfold redW
  split
  · omega
  · have := Nat.mod_lt (i - a) hp; omega
theorem redW_f {f : Nat → Int} {a p : Nat} (h : Per f a p) (i : Nat) : f (redW a p i) = f i := by
  unfold redW
  split
  · rfl
  · exact (h.red (by omega)).symm
theorem norm_dvd {f : Nat → Int} {s m a p : Nat} (h : Norm f s m a p) : m % p = 0 := by
  rcases Nat.eq_zero_or_pos (m % p) with q | q
  · exact q
  · exfalso
    refine h.noP (m % p) q (Nat.mod_lt _ h.p1) fun i hi => ?_
    have h1 := (h.ok.mono h.as).mul (m / p) (i + m % p) (by omega)
    rw [← h1, ← h.per i hi]
    congr 1
    have := Nat.mod_add_div m p
    rw [Nat.mul_comm] at this
    omega
theorem red_then {f : Nat → Int} {s m a p i : Nat} (h : Norm f s m a p) (hi : i < s + m) : thenW a p (redW a p i) = redW a p (thenW s m i) := by
  have hp := h.p1
  have has := h.as
  have hm := h.m1
  have stepR : ∀ j, a ≤ j → thenW a p (a + (j - a) % p) = a + (j + 1 - a) % p := fun j hj => by
    have hr := Nat.mod_lt (j - a) hp
    rw [show j + 1 - a = (j - a) + 1 by omega, Nat.add_mod]
    unfold thenW
    rcases Nat.lt_or_ge 1 p with h1 | h1
    · rw [Nat.mod_eq_of_lt h1]
      split
      · rw [show (j - a) % p + 1 = p by omega, Nat.mod_self]; omega
      · rw [Nat.mod_eq_of_lt (show (j - a) % p + 1 < p by omega)]; omega
    · have : p = 1 := by omega
      subst this
      simp only [Nat.mod_one]
      simp
  by_cases hlast : i + 1 = s + m
  · have e1 : thenW s m i = s := by unfold thenW; rw [if_pos hlast]
    rw [e1]
    have e2 : redW a p i = a + (i - a) % p := by unfold redW; rw [if_neg (by omega)]
    have e3 : redW a p s = a + (s - a) % p := by unfold redW; rw [if_neg (by omega)]
    rw [e2, e3, stepR i (by omega), show i + 1 - a = (s - a) + m by omega, Nat.add_mod, norm_dvd h, Nat.add_zero, Nat.mod_mod]
  · have e1 : thenW s m i = i + 1 := by unfold thenW; rw [if_neg hlast]
    rw [e1]
    by_cases hia : i < a
    · have e2 : redW a p i = i := by unfold redW; rw [if_pos hia]
      have e4 : thenW a p i = i + 1 := by unfold thenW; rw [if_neg (by omega)]
      rw [e2, e4]
      unfold redW
      split
      · rfl
      · rw [show i + 1 - a = 0 by omega, Nat.zero_mod]; omega
    · have e2 : redW a p i = a + (i - a) % p := by unfold redW; rw [if_neg hia]
      rw [e2, stepR i (by omega)]
      unfold redW
      rw [if_neg (by omega)]
/-! ### Two graphs of pairs -/
/-- A pair's next ones: states that fit at the place behind. -/
def nexts (A : AutoD) (f : Nat → Int) (a p s i : Nat) : List Int := if fitsV A s (f i) = true then (A.next.getD s []).filter fun t => fitsV A t.toNat (f (thenW a p i)) else []
def prodP (A : AutoD) (f : Nat → Int) (a p : Nat) : List (List Int) := (List.range (A.next.length * (a + p))).map fun v => (nexts A f a p (v % A.next.length) (v / A.next.length)).map fun t => ((thenW a p (v / A.next.length) * A.next.length : Nat) : Int) + t
def prodR (A : AutoD) (f : Nat → Int) (a p : Nat) : List (List Int) := (List.range (A.next.length * (a + p))).map fun v => (nexts A f a p (v / (a + p)) (v % (a + p))).map fun t => t * ((a + p : Nat) : Int) + (thenW a p (v % (a + p)) : Int)
theorem range_getD (N : Nat) (r : Nat → List Int) (v : Nat) : ((List.range N).map r).getD v [] = if v < N then r v else [] := by
  rw [List.getD_eq_getElem?_getD]
  split
  · rename_i h; rw [List.getElem?_map, List.getElem?_range h]; rfl
  · rename_i h; rw [List.getElem?_eq_none (by simpa using h)]; rfl
theorem mem_nexts {A : AutoD} {f : Nat → Int} {a p s i : Nat} {t : Int} : t ∈ nexts A f a p s i ↔ fitsV A s (f i) = true ∧ t ∈ A.next.getD s [] ∧ fitsV A t.toNat (f (thenW a p i)) = true := by
  unfold nexts
  split
  · rename_i h; simp [h, List.mem_filter]
  · rename_i h; simp [h]
def setP (n : Nat) (l : List Int) : Nat → Bool := fun v => setB l (v % n)
def setR (m : Nat) (l : List Int) : Nat → Bool := fun v => setB l (v / m)
/-- From the reference's pairs to the program's. -/
def pairM (n m a p : Nat) (v : Nat) : Nat := redW a p (v % m) * n + v / m
theorem prod_same {A : AutoD} (hin : ∀ l ∈ A.next, inB l A.next.length = true) {f : Nat → Int} {s m a p : Nat} (h : Norm f s m a p) {v : Nat} (hv : v < A.next.length * (s + m)) (F : List (List Int)) :
    Fw (prodR A f s m) (F.map (setR (s + m))) v ↔ Fw (prodP A f a p) (F.map (setP A.next.length)) (pairM A.next.length (s + m) a p v) := by
  have hm := h.m1
  have hM : 0 < s + m := by omega
  generalize hn : A.next.length = n at *
  have hrow : ∀ k (t : Int), t ∈ A.next.getD k [] → 0 ≤ t ∧ t < (n : Int) := fun k t ht => inB_mem (inB_row hin k) ht
  have hdiv : ∀ v, v < n * (s + m) → v / (s + m) < n := fun v hv => Nat.div_lt_of_lt_mul (by rw [Nat.mul_comm]; exact hv)
  have hnode : ∀ (t : Int) (j : Nat), 0 ≤ t → t < (n : Int) → j < s + m → ((t * ((s + m : Nat) : Int) + (j : Int)).toNat = t.toNat * (s + m) + j) := fun t j h0 h1 h2 => by
    obtain ⟨k, rfl⟩ : ∃ k : Nat, t = k := ⟨t.toNat, by omega⟩
    rw [Int.toNat_natCast, ← Int.natCast_mul, ← Int.natCast_add, Int.toNat_natCast]
  have hpm : ∀ (t j : Nat), j < s + m → pairM n (s + m) a p (t * (s + m) + j) = redW a p j * n + t := fun t j hj => by
    unfold pairM
    rw [Nat.mul_comm t, Nat.mul_add_mod, Nat.mod_eq_of_lt hj, Nat.mul_add_div hM, Nat.div_eq_of_lt hj, Nat.add_zero]
  have hR : ∀ v x, x ∈ (prodR A f s m).getD v [] ↔ v < n * (s + m) ∧ ∃ t, t ∈ nexts A f s m (v / (s + m)) (v % (s + m)) ∧ x = t * ((s + m : Nat) : Int) + (thenW s m (v % (s + m)) : Int) := fun v x => by
    unfold prodR
    rw [range_getD, hn]
    split
    · rename_i q
      rw [List.mem_map]
      exact ⟨fun ⟨t, h1, h2⟩ => ⟨q, t, h1, h2.symm⟩, fun ⟨_, t, h1, h2⟩ => ⟨t, h1, h2.symm⟩⟩
    · rename_i q
      exact ⟨fun h => (by cases h), fun h => absurd h.1 q⟩
  have hP : ∀ v x, x ∈ (prodP A f a p).getD v [] ↔ v < n * (a + p) ∧ ∃ t, t ∈ nexts A f a p (v % n) (v / n) ∧ x = ((thenW a p (v / n) * n : Nat) : Int) + t := fun v x => by
    unfold prodP
    rw [range_getD, hn]
    split
    · rename_i q
      rw [List.mem_map]
      exact ⟨fun ⟨t, h1, h2⟩ => ⟨q, t, h1, h2.symm⟩, fun ⟨_, t, h1, h2⟩ => ⟨t, h1, h2.symm⟩⟩
    · rename_i q
      exact ⟨fun h => (by cases h), fun h => absurd h.1 q⟩
  have hdm : ∀ k j, j < n → (k * n + j) % n = j ∧ (k * n + j) / n = k := fun k j hj => by
    refine ⟨?_, ?_⟩
    · rw [Nat.mul_comm, Nat.mul_add_mod, Nat.mod_eq_of_lt hj]
    · rw [Nat.mul_comm, Nat.mul_add_div (by omega), Nat.div_eq_of_lt hj, Nat.add_zero]
  have lR : (prodR A f s m).length = n * (s + m) := by simp [prodR, hn]
  have hnx : ∀ v, v < n * (s + m) → ∀ t, t ∈ nexts A f s m (v / (s + m)) (v % (s + m)) ↔ t ∈ nexts A f a p ((pairM n (s + m) a p v) % n) ((pairM n (s + m) a p v) / n) := fun v hv t => by
    have hj := hdiv v hv
    have hi := Nat.mod_lt v hM
    obtain ⟨q1, q2⟩ := hdm (redW a p (v % (s + m))) (v / (s + m)) hj
    unfold pairM
    rw [q1, q2, mem_nexts, mem_nexts, redW_f h.ok, red_then h hi, redW_f h.ok]
  have hlt : ∀ v, v < n * (s + m) → pairM n (s + m) a p v < n * (a + p) := fun v hv => by
    have hj := hdiv v hv
    have hr := redW_lt (a := a) h.p1 (v % (s + m))
    unfold pairM
    have := Nat.mul_le_mul_right n (show redW a p (v % (s + m)) + 1 ≤ a + p by omega)
    rw [Nat.add_mul, Nat.mul_comm (a + p) n] at this
    omega
  have hinR : ∀ v x, x ∈ (prodR A f s m).getD v [] → x.toNat < (prodR A f s m).length := fun v x hx => by
    obtain ⟨hv, t, h1, rfl⟩ := (hR v x).1 hx
    have ht := hrow _ t (mem_nexts.1 h1).2.1
    have hj := thenW_lt h.m1 (Nat.mod_lt v hM)
    rw [lR, hnode t _ ht.1 ht.2 hj]
    have := Nat.mul_le_mul_right (s + m) (show t.toNat + 1 ≤ n by omega)
    rw [Nat.add_mul] at this
    omega
  have edge : ∀ v t, v < n * (s + m) → t ∈ nexts A f s m (v / (s + m)) (v % (s + m)) → pairM n (s + m) a p (t * ((s + m : Nat) : Int) + (thenW s m (v % (s + m)) : Int)).toNat = (((thenW a p ((pairM n (s + m) a p v) / n) * n : Nat) : Int) + t).toNat := fun v t hv h1 => by
    have ht := hrow _ t (mem_nexts.1 h1).2.1
    have hj := thenW_lt h.m1 (Nat.mod_lt v hM)
    rw [hnode t _ ht.1 ht.2 hj, hpm _ _ hj, ← red_then h (Nat.mod_lt v hM)]
    obtain ⟨q1, q2⟩ := hdm (redW a p (v % (s + m))) (v / (s + m)) (hdiv v hv)
    rw [show pairM n (s + m) a p v / n = redW a p (v % (s + m)) from q2]
    omega
  have cong : Fw (prodR A f s m) (F.map (setR (s + m))) v ↔ Fw (prodR A f s m) ((F.map (setP n)).map fun S v => S (pairM n (s + m) a p v)) v := by
    rw [List.map_map]
    have eq : ∀ l d, d < n * (s + m) → setR (s + m) l d = ((fun S v => S (pairM n (s + m) a p v)) ∘ setP n) l d := fun l d hd => by
      show setB l (d / (s + m)) = setB l (pairM n (s + m) a p d % n)
      unfold pairM
      rw [(hdm _ _ (hdiv d hd)).1]
    have rng : ∀ d, To (prodR A f s m) v d → d < n * (s + m) := fun d hd => by have := to_lt hinR (by rw [lR]; exact hv) hd; rwa [lR] at this
    constructor
    · rintro ⟨c, h1, h2, h3⟩
      refine ⟨c, h1, h2, fun S hS => ?_⟩
      obtain ⟨l, hl, rfl⟩ := List.mem_map.1 hS
      obtain ⟨d, d1, d2, d3⟩ := h3 _ (List.mem_map.2 ⟨l, hl, rfl⟩)
      exact ⟨d, by rw [← eq l d (rng d (to_trans h1 d2))]; exact d1, d2, d3⟩
    · rintro ⟨c, h1, h2, h3⟩
      refine ⟨c, h1, h2, fun S hS => ?_⟩
      obtain ⟨l, hl, rfl⟩ := List.mem_map.1 hS
      obtain ⟨d, d1, d2, d3⟩ := h3 _ (List.mem_map.2 ⟨l, hl, rfl⟩)
      exact ⟨d, by rw [eq l d (rng d (to_trans h1 d2))]; exact d1, d2, d3⟩
  rw [cong]
  constructor
  · refine fw_map fun v x hx => ?_
    obtain ⟨hv, t, h1, rfl⟩ := (hR v x).1 hx
    exact ⟨_, (hP _ _).2 ⟨hlt v hv, t, (hnx v hv t).1 h1, rfl⟩, (edge v t hv h1).symm⟩
  · refine fw_lift (fun v hv y hy => ?_) hinR (by rw [lR]; exact hv)
    rw [lR] at hv
    obtain ⟨_, t, h1, rfl⟩ := (hP _ y).1 hy
    have h2 := (hnx v hv t).2 h1
    exact ⟨_, (hR _ _).2 ⟨hv, t, h2, rfl⟩, edge v t hv h2⟩
end Go.Proofs.Ytfaekhadjlgbbaa
