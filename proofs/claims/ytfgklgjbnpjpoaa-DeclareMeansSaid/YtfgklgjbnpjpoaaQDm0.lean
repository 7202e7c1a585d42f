/-
  What a pattern means: the program's spans and the reference's intervals. Plain Lean. No statement is proved here.
-/
import Derived.Test.YtfgklgjbnpjpoaaQLw
namespace Go.Proofs.Ytfgklgjbnpjpoaa
/-! ### Periodic truths -/
/-- From place b on a truth comes again after m places. -/
def Prd (b m : Nat) (p : Nat → Bool) : Prop := ∀ i, b ≤ i → p (i + m) = p i
theorem Prd.times {b m : Nat} {p : Nat → Bool} (h : Prd b m p) {i : Nat} (hi : b ≤ i) : ∀ k, p (i + k * m) = p i
  | 0 => by simp
  | k + 1 => by
    rw [Nat.succ_mul, ← Nat.add_assoc, h _ (by omega), h.times hi k]
/-- What is so somewhere is so near by. -/
theorem Prd.near {b m : Nat} {p : Nat → Bool} (h : Prd b m p) (hm : 1 ≤ m) {a i : Nat} (ha : a ≤ i) (hp : p i = true) : ∃ j, a ≤ j ∧ j ≤ i ∧ j < max a b + m ∧ p j = true := by
  induction i using Nat.strongRecOn with
  | _ i ih =>
    by_cases q : i < max a b + m
    · exact ⟨i, ha, Nat.le_refl _, q, hp⟩
    · have e : p (i - m) = true := by
        have := h (i - m) (by omega)
        rw [show i - m + m = i by omega] at this
        rw [← this]; exact hp
      obtain ⟨j, h1, h2, h3, h4⟩ := ih (i - m) (by omega) (by omega) e
      exact ⟨j, h1, by omega, h3, h4⟩
/-! ### The first place; how many -/
/-- The first place from i on, of d places, that is so; else the one behind them. -/
def fstF (p : Nat → Bool) : Nat → Nat → Nat
  | i, 0 => i
  | i, d + 1 => if p i = true then i else fstF p (i + 1) d
theorem fstF_spec (p : Nat → Bool) : ∀ (d i : Nat), i ≤ fstF p i d ∧ fstF p i d ≤ i + d ∧ (∀ j, i ≤ j → j < fstF p i d → p j = false) ∧ (fstF p i d < i + d → p (fstF p i d) = true)
  | 0, i => ⟨Nat.le_refl _, Nat.le_refl _, fun j h1 h2 => by simp only [fstF] at h2; omega, fun h => by simp [fstF] at h⟩
  | d + 1, i => by
    simp only [fstF]
    split
    · rename_i h
      exact ⟨Nat.le_refl _, by omega, fun j h1 h2 => by omega, fun _ => h⟩
    · rename_i h
      obtain ⟨h1, h2, h3, h4⟩ := fstF_spec p d (i + 1)
      refine ⟨by omega, by omega, fun j g1 g2 => ?_, fun g => h4 (by omega)⟩
      by_cases e : j = i
      · subst e; simpa using h
      · exact h3 j (by omega) g2
/-- The first place from i on and before e. -/
def fst (p : Nat → Bool) (e i : Nat) : Nat := fstF p i (e - i)
theorem fst_spec {p : Nat → Bool} {e i : Nat} (h : i ≤ e) : i ≤ fst p e i ∧ fst p e i ≤ e ∧ (∀ j, i ≤ j → j < fst p e i → p j = false) ∧ (fst p e i < e → p (fst p e i) = true) := by
  obtain ⟨h1, h2, h3, h4⟩ := fstF_spec p (e - i) i
  exact ⟨h1, by unfold fst; omega, h3, fun g => h4 (by unfold fst at g; omega)⟩
theorem fst_eq {p : Nat → Bool} {e i t : Nat} (h1 : i ≤ t) (h2 : t ≤ e) (h3 : ∀ j, i ≤ j → j < t → p j = false) (h4 : t < e → p t = true) : fst p e i = t := by
  obtain ⟨g1, g2, g3, g4⟩ := fst_spec (p := p) (e := e) (i := i) (by omega)
  rcases Nat.lt_trichotomy (fst p e i) t with q | q | q
  · have := h3 _ g1 q
    rw [g4 (by omega)] at this
    cases this
  · exact q
  · have := g3 t h1 q
    rw [h4 (by omega)] at this
    cases this
theorem fst_lt {p : Nat → Bool} {e i : Nat} (h : i ≤ e) : fst p e i < e ↔ ∃ j, i ≤ j ∧ j < e ∧ p j = true := by
  obtain ⟨g1, g2, g3, g4⟩ := fst_spec (p := p) (e := e) (i := i) h
  constructor
  · intro q; exact ⟨_, g1, q, g4 q⟩
  · rintro ⟨j, q1, q2, q3⟩
    rcases Nat.lt_or_ge (fst p e i) e with q | q
    · exact q
    · have := g3 j q1 (by omega)
      rw [q3] at this
      cases this
/-- Of d places from i on, how many are so. -/
def cntF (p : Nat → Bool) (i : Nat) : Nat → Nat
  | 0 => 0
  | d + 1 => cntF p i d + (if p (i + d) = true then 1 else 0)
def cnt (p : Nat → Bool) (a e : Nat) : Nat := cntF p a (e - a)
theorem cntF_le (p : Nat → Bool) (i : Nat) : ∀ d, cntF p i d ≤ d
  | 0 => Nat.le_refl _
  | d + 1 => by have := cntF_le p i d; simp only [cntF]; split <;> omega
theorem cnt_succ {p : Nat → Bool} {a e : Nat} (h : a ≤ e) : cnt p a (e + 1) = cnt p a e + (if p e = true then 1 else 0) := by
  unfold cnt
  rw [show e + 1 - a = (e - a) + 1 by omega]
  simp only [cntF]
  rw [show a + (e - a) = e by omega]
theorem cnt_self (p : Nat → Bool) (a : Nat) : cnt p a a = 0 := by simp [cnt, cntF]
theorem cnt_split {p : Nat → Bool} {a m : Nat} (h : a ≤ m) : ∀ e, m ≤ e → cnt p a e = cnt p a m + cnt p m e := by
  intro e he
  obtain ⟨d, rfl⟩ := Nat.exists_eq_add_of_le he
  clear he
  induction d with
  | zero => rw [Nat.add_zero, cnt_self]; rfl
  | succ d ih => rw [← Nat.add_assoc, cnt_succ (by omega), cnt_succ (by omega), ih]; omega
theorem cnt_zero {p : Nat → Bool} {a : Nat} : ∀ e, a ≤ e → (cnt p a e = 0 ↔ ∀ j, a ≤ j → j < e → p j = false) := by
  intro e he
  obtain ⟨d, rfl⟩ := Nat.exists_eq_add_of_le he
  clear he
  induction d with
  | zero => rw [Nat.add_zero, cnt_self]; exact ⟨fun _ j h1 h2 => by omega, fun _ => rfl⟩
  | succ d ih =>
    have hme : a ≤ a + d := by omega
    rw [← Nat.add_assoc, cnt_succ hme]
    generalize a + d = e at *
    constructor
    · intro h j h1 h2
      by_cases q : j = e
      · subst q
        cases hp : p j with
        | false => rfl
        | true => rw [hp, if_pos rfl] at h; omega
      · exact ih.1 (by omega) j h1 (by omega)
    · intro h
      rw [ih.2 fun j h1 h2 => h j h1 (by omega), h e hme (by omega), if_neg (by decide)]
theorem cnt_pos {p : Nat → Bool} {a e : Nat} (h : a ≤ e) : 0 < cnt p a e ↔ ∃ j, a ≤ j ∧ j < e ∧ p j = true := by
  constructor
  · intro q
    apply Classical.byContradiction
    intro hn
    have := (cnt_zero (p := p) e h).2 fun j h1 h2 => by
      cases hp : p j with
      | false => rfl
      | true => exact absurd ⟨j, h1, h2, hp⟩ hn
    omega
  · rintro ⟨j, h1, h2, h3⟩
    rcases Nat.eq_zero_or_pos (cnt p a e) with q | q
    · have := (cnt_zero (p := p) e h).1 q j h1 h2
      rw [h3] at this
      cases this
    · exact q
/-- Counts in two windows that reach far enough tell the same up to three. -/
theorem cnt_far {b m : Nat} {p : Nat → Bool} (h : Prd b m p) (hm : 1 ≤ m) {a e f : Nat} (ha : a ≤ b + m) (he : b + 6 * m ≤ e) (hf : b + 6 * m ≤ f) {c : Nat} (hc : c ≤ 3) : cnt p a e ≤ c ↔ cnt p a f ≤ c := by
  have key : ∀ e f, b + 6 * m ≤ e → b + 6 * m ≤ f → cnt p a e ≤ c → cnt p a f ≤ c := fun e f he hf hle => by
    by_cases q : ∃ i, b ≤ i ∧ i < b + m ∧ p i = true
    · exfalso
      obtain ⟨i, h1, h2, h3⟩ := q
      have hp : ∀ k, p (i + k * m) = true := fun k => by rw [h.times h1]; exact h3
      have one : ∀ k, 0 < cnt p (i + k * m) (i + (k + 1) * m) := fun k => (cnt_pos (by rw [Nat.succ_mul]; omega)).2 ⟨i + k * m, Nat.le_refl _, by rw [Nat.succ_mul]; omega, hp k⟩
      have o1 : 0 < cnt p (i + 1 * m) (i + 2 * m) := one 1
      have o2 : 0 < cnt p (i + 2 * m) (i + 3 * m) := one 2
      have o3 : 0 < cnt p (i + 3 * m) (i + 4 * m) := one 3
      have o4 : 0 < cnt p (i + 4 * m) (i + 5 * m) := one 4
      have s1 := cnt_split (p := p) (a := a) (m := i + 1 * m) (by omega) e (by omega)
      have s2 := cnt_split (p := p) (a := i + 1 * m) (m := i + 2 * m) (by omega) e (by omega)
      have s3 := cnt_split (p := p) (a := i + 2 * m) (m := i + 3 * m) (by omega) e (by omega)
      have s4 := cnt_split (p := p) (a := i + 3 * m) (m := i + 4 * m) (by omega) e (by omega)
      have s5 := cnt_split (p := p) (a := i + 4 * m) (m := i + 5 * m) (by omega) e (by omega)
      omega
    · have hno : ∀ j, b ≤ j → p j = false := fun j hj => by
        cases hp : p j with
        | false => rfl
        | true =>
          obtain ⟨i, g1, g2, g3, g4⟩ := h.near hm hj hp
          exact absurd ⟨i, g1, by omega, g4⟩ q
      have hz : ∀ x y, b ≤ x → x ≤ y → cnt p x y = 0 := fun x y hx hy => (cnt_zero y hy).2 fun j h1 h2 => hno j (by omega)
      have s1 := cnt_split (p := p) (a := a) (m := b + 6 * m) (by omega) e he
      have s2 := cnt_split (p := p) (a := a) (m := b + 6 * m) (by omega) f hf
      have z1 := hz (b + 6 * m) e (by omega) he
      have z2 := hz (b + 6 * m) f (by omega) hf
      omega
  exact ⟨key e f he hf, key f e hf he⟩
/-! ### Spans and intervals -/
theorem all_range {n : Nat} {f : Nat → Bool} : (List.range n).all f = true ↔ ∀ d, d < n → f d = true := by simp
end Go.Proofs.Ytfgklgjbnpjpoaa
