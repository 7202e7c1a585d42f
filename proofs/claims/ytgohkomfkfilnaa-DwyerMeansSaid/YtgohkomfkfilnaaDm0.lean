/-
  What a pattern means: the program's spans and the reference's intervals. Plain Lean. No statement is proved here.
-/
import Derived.Test.YtgohkomfkfilnaaLw
namespace Go.Proofs.Ytgohkomfkfilnaa
/-! ### Periodic truths -/
/-- From place b on a truth comes again after m places. -/
def Prd (b m : Nat) (p : Nat → Bool) : Prop := ∀ i, b ≤ i → p (i + m) = p i
theorem Prd.times {b m : Nat} {p : Nat → Bool} (h : Prd b m p) {i : Nat} (hi : b ≤ i) : ∀ k, p (i + k * m) = p i
  | 0 => by simp
  | k + 1 => by
    rw [Nat.succ_mul, ← Nat.add_assoc, h _ (by omega), h.times hi k]
/-- What is so somewhere is so near by. -/
theorem Prd.near {b m : Nat} {p : Nat → Bool} (h : Prd b m p) (hm : 1 ≤ m) {a i : Nat} (ha : a ≤ i) (hp : p i = true) : ∃ j, a ≤ j ∧ j ≤ i ∧ j < max a b + m ∧ p j = true := by
  induction i using Nat.strongRecOn with
  | _ i ih =>
    by_cases q : i < max a b + m
    · exact ⟨i, ha, Nat.le_refl _, q, hp⟩
    · have e : p (i - m) = true := by
        have := h (i - m) (by omega)
        rw [show i - m + m = i by omega] at this
        rw [← this]; exact hp
      obtain ⟨j, h1, h2, h3, h4⟩ := ih (i - m) (by omega) (by omega) e
      exact ⟨j, h1, by omega, h3, h4⟩
/-- The same near by, told of what else is so too: there is a place that is alike. -/
theorem Prd.alike {b m : Nat} (hm : 1 ≤ m) {a i : Nat} (ha : a ≤ i) : ∃ j k, a ≤ j ∧ j ≤ i ∧ j < max a b + m ∧ i = j + k * m ∧ (k = 0 ∨ b ≤ j) := by
  induction i using Nat.strongRecOn with
  | _ i ih =>
    by_cases q : i < max a b + m
    · exact ⟨i, 0, ha, Nat.le_refl _, q, by simp, .inl rfl⟩
    · obtain ⟨j, k, h1, h2, h3, h4, h5⟩ := ih (i - m) (by omega) (by omega)
      refine ⟨j, k + 1, h1, by omega, h3, by rw [Nat.succ_mul]; omega, .inr ?_⟩
      rcases h5 with h5 | h5
      · subst h5; omega
      · exact h5
/-- What is so once in the round is so as late as one likes. -/
theorem Prd.late {b m : Nat} {p : Nat → Bool} (h : Prd b m p) (hm : 1 ≤ m) {j : Nat} (hj : b ≤ j) (hp : p j = true) (i : Nat) : ∃ k, i ≤ k ∧ p k = true := by
  refine ⟨j + i * m, ?_, by rw [h.times hj]; exact hp⟩
  have : i * 1 ≤ i * m := Nat.mul_le_mul (Nat.le_refl _) hm
  omega
/-! ### The first place; how many -/
/-- The first place from i on, of d places, that is so; else the one behind them. -/
def fstF (p : Nat → Bool) : Nat → Nat → Nat
  | i, 0 => i
  | i, d + 1 => if p i = true then i else fstF p (i + 1) d
theorem fstF_spec (p : Nat → Bool) : ∀ (d i : Nat), i ≤ fstF p i d ∧ fstF p i d ≤ i + d ∧ (∀ j, i ≤ j → j < fstF p i d → p j = false) ∧ (fstF p i d < i + d → p (fstF p i d) = true)
  | 0, i => ⟨Nat.le_refl _, Nat.le_refl _, fun j h1 h2 => by simp only [fstF] at h2; omega, fun h => by simp [fstF] at h⟩
  | d + 1, i => by
    simp only [fstF]
    split
    · rename_i h
      exact ⟨Nat.le_refl _, by omega, fun j h1 h2 => by omega, fun _ => h⟩
    · rename_i h
      obtain ⟨h1, h2, h3, h4⟩ := fstF_spec p d (i + 1)
      refine ⟨by omega, by omega, fun j g1 g2 => ?_, fun g => h4 (by omega)⟩
      by_cases e : j = i
      · subst e; simpa using h
      · exact h3 j (by omega) g2
/-- The first place from i on and before e. -/
def fst (p : Nat → Bool) (e i : Nat) : Nat := fstF p i (e - i)
theorem fst_spec {p : Nat → Bool} {e i : Nat} (h : i ≤ e) : i ≤ fst p e i ∧ fst p e i ≤ e ∧ (∀ j, i ≤ j → j < fst p e i → p j = false) ∧ (fst p e i < e → p (fst p e i) = true) := by
  obtain ⟨h1, h2, h3, h4⟩ := fstF_spec p (e - i) i
  exact ⟨h1, by unfold fst; omega, h3, fun g => h4 (by unfold fst at g; omega)⟩
theorem fst_eq {p : Nat → Bool} {e i t : Nat} (h1 : i ≤ t) (h2 : t ≤ e) (h3 : ∀ j, i ≤ j → j < t → p j = false) (h4 : t < e → p t = true) : fst p e i = t := by
  obtain ⟨g1, g2, g3, g4⟩ := fst_spec (p := p) (e := e) (i := i) (by omega)
  rcases Nat.lt_trichotomy (fst p e i) t with q | q | q
  · have := h3 _ g1 q
    rw [g4 (by omega)] at this
    cases this
  · exact q
  · have := g3 t h1 q
    rw [h4 (by omega)] at this
    cases this
theorem fst_lt {p : Nat → Bool} {e i : Nat} (h : i ≤ e) : fst p e i < e ↔ ∃ j, i ≤ j ∧ j < e ∧ p j = true := by
  obtain ⟨g1, g2, g3, g4⟩ := fst_spec (p := p) (e := e) (i := i) h
  constructor
  · intro q; exact ⟨_, g1, q, g4 q⟩
  · rintro ⟨j, q1, q2, q3⟩
    rcases Nat.lt_or_ge (fst p e i) e with q | q
    · exact q
    · have := g3 j q1 (by omega)
      rw [q3] at this
      cases this
/-- Of d places from i on, how many are so. -/
def cntF (p : Nat → Bool) (i : Nat) : Nat → Nat
  | 0 => 0
  | d + 1 => cntF p i d + (if p (i + d) = true then 1 else 0)
def cnt (p : Nat → Bool) (a e : Nat) : Nat := cntF p a (e - a)
theorem cntF_le (p : Nat → Bool) (i : Nat) : ∀ d, cntF p i d ≤ d
  | 0 => Nat.le_refl _
  | d + 1 => by have := cntF_le p i d; simp only [cntF]; split <;> omega
theorem cnt_succ {p : Nat → Bool} {a e : Nat} (h : a ≤ e) : cnt p a (e + 1) = cnt p a e + (if p e = true then 1 else 0) := by
  unfold cnt
  rw [show e + 1 - a = (e - a) + 1 by omega]
  simp only [cntF]
  rw [show a + (e - a) = e by omega]
theorem cnt_self (p : Nat → Bool) (a : Nat) : cnt p a a = 0 := by simp [cnt, cntF]
theorem cnt_split {p : Nat → Bool} {a m : Nat} (h : a ≤ m) : ∀ e, m ≤ e → cnt p a e = cnt p a m + cnt p m e := by
  intro e he
  obtain ⟨d, rfl⟩ := Nat.exists_eq_add_of_le he
  clear he
  induction d with
  | zero => rw [Nat.add_zero, cnt_self]; rfl
  | succ d ih => rw [← Nat.add_assoc, cnt_succ (by omega), cnt_succ (by omega), ih]; omega
theorem cnt_zero {p : Nat → Bool} {a : Nat} : ∀ e, a ≤ e → (cnt p a e = 0 ↔ ∀ j, a ≤ j → j < e → p j = false) := by
  intro e he
  obtain ⟨d, rfl⟩ := Nat.exists_eq_add_of_le he
  clear he
  induction d with
  | zero => rw [Nat.add_zero, cnt_self]; exact ⟨fun _ j h1 h2 => by omega, fun _ => rfl⟩
  | succ d ih =>
    have hme : a ≤ a + d := by omega
    rw [← Nat.add_assoc, cnt_succ hme]
    generalize a + d = e at *
    constructor
    · intro h j h1 h2
      by_cases q : j = e
      · subst q
        cases hp : p j with
        | false => rfl
        | true => rw [hp, if_pos rfl] at h; omega
      · exact ih.1 (by omega) j h1 (by omega)
    · intro h
      rw [ih.2 fun j h1 h2 => h j h1 (by omega), h e hme (by omega), if_neg (by decide)]
theorem cnt_full {p : Nat → Bool} {a : Nat} : ∀ e, a ≤ e → (cnt p a e = e - a ↔ ∀ j, a ≤ j → j < e → p j = true) := by
  intro e he
  obtain ⟨d, rfl⟩ := Nat.exists_eq_add_of_le he
  clear he
  induction d with
  | zero => rw [Nat.add_zero, cnt_self]; exact ⟨fun _ j h1 h2 => by omega, fun _ => by omega⟩
  | succ d ih =>
    have hme : a ≤ a + d := by omega
    rw [← Nat.add_assoc, cnt_succ hme]
    generalize a + d = e at *
    have hle := cntF_le p a (e - a)
    change cnt p a e ≤ e - a at hle
    constructor
    · intro h j h1 h2
      have hpe : p e = true := by
        cases hp : p e with
        | true => rfl
        | false => rw [hp, if_neg (by decide)] at h; omega
      rw [hpe, if_pos rfl] at h
      by_cases q : j = e
      · subst q; exact hpe
      · exact ih.1 (by omega) j h1 (by omega)
    · intro h
      rw [ih.2 fun j h1 h2 => h j h1 (by omega), h e hme (by omega), if_pos rfl]
      omega
theorem cnt_pos {p : Nat → Bool} {a e : Nat} (h : a ≤ e) : 0 < cnt p a e ↔ ∃ j, a ≤ j ∧ j < e ∧ p j = true := by
  constructor
  · intro q
    apply Classical.byContradiction
    intro hn
    have := (cnt_zero (p := p) e h).2 fun j h1 h2 => by
      cases hp : p j with
      | false => rfl
      | true => exact absurd ⟨j, h1, h2, hp⟩ hn
    omega
  · rintro ⟨j, h1, h2, h3⟩
    rcases Nat.eq_zero_or_pos (cnt p a e) with q | q
    · have := (cnt_zero (p := p) e h).1 q j h1 h2
      rw [h3] at this
      cases this
    · exact q
/-- Counts in two windows that reach far enough tell the same up to three. -/
theorem cnt_far {b m : Nat} {p : Nat → Bool} (h : Prd b m p) (hm : 1 ≤ m) {a e f : Nat} (ha : a ≤ b + m) (he : b + 6 * m ≤ e) (hf : b + 6 * m ≤ f) {c : Nat} (hc : c ≤ 3) : cnt p a e ≤ c ↔ cnt p a f ≤ c := by
  have key : ∀ e f, b + 6 * m ≤ e → b + 6 * m ≤ f → cnt p a e ≤ c → cnt p a f ≤ c := fun e f he hf hle => by
    by_cases q : ∃ i, b ≤ i ∧ i < b + m ∧ p i = true
    · exfalso
      obtain ⟨i, h1, h2, h3⟩ := q
      have hp : ∀ k, p (i + k * m) = true := fun k => by rw [h.times h1]; exact h3
      have one : ∀ k, 0 < cnt p (i + k * m) (i + (k + 1) * m) := fun k => (cnt_pos (by rw [Nat.succ_mul]; omega)).2 ⟨i + k * m, Nat.le_refl _, by rw [Nat.succ_mul]; omega, hp k⟩
      have o1 : 0 < cnt p (i + 1 * m) (i + 2 * m) := one 1
      have o2 : 0 < cnt p (i + 2 * m) (i + 3 * m) := one 2
      have o3 : 0 < cnt p (i + 3 * m) (i + 4 * m) := one 3
      have o4 : 0 < cnt p (i + 4 * m) (i + 5 * m) := one 4
      have s1 := cnt_split (p := p) (a := a) (m := i + 1 * m) (by omega) e (by omega)
      have s2 := cnt_split (p := p) (a := i + 1 * m) (m := i + 2 * m) (by omega) e (by omega)
      have s3 := cnt_split (p := p) (a := i + 2 * m) (m := i + 3 * m) (by omega) e (by omega)
      have s4 := cnt_split (p := p) (a := i + 3 * m) (m := i + 4 * m) (by omega) e (by omega)
      have s5 := cnt_split (p := p) (a := i + 4 * m) (m := i + 5 * m) (by omega) e (by omega)
      omega
    · have hno : ∀ j, b ≤ j → p j = false := fun j hj => by
        cases hp : p j with
        | false => rfl
        | true =>
          obtain ⟨i, g1, g2, g3, g4⟩ := h.near hm hj hp
          exact absurd ⟨i, g1, by omega, g4⟩ q
      have hz : ∀ x y, b ≤ x → x ≤ y → cnt p x y = 0 := fun x y hx hy => (cnt_zero y hy).2 fun j h1 h2 => hno j (by omega)
      have s1 := cnt_split (p := p) (a := a) (m := b + 6 * m) (by omega) e he
      have s2 := cnt_split (p := p) (a := a) (m := b + 6 * m) (by omega) f hf
      have z1 := hz (b + 6 * m) e (by omega) he
      have z2 := hz (b + 6 * m) f (by omega) hf
      omega
  exact ⟨key e f he hf, key f e hf he⟩
/-! ### Spans and intervals -/
/-- A span to which a pattern of this kind is kept, as the program looks at it: E is the end of what it sees. -/
def lateB (kind : Int) (P S : Nat → Bool) (E a e i : Nat) : Bool := (List.range (i - a)).all fun d => !P (a + d) || (if kind = 5 then decide (0 < cnt S a (a + d + 1)) else if kind = 6 then decide (fst S E (a + d) < e) else true)
def keptB (kind count : Int) (P S : Nat → Bool) (E a e : Nat) : Bool :=
  if kind = 1 then decide (cnt P a e = 0) else if kind = 2 then decide (cnt P a e = e - a) else if kind = 3 then decide (0 < cnt P a e) else if kind = 4 then decide ((cnt P a e : Int) ≤ count) else lateB kind P S E a e e
def answB (P S : Nat → Bool) (E a e : Nat) : Bool := (List.range (e - a)).all fun d => !(P (a + d) && decide (fst S E (a + d) = E))
/-- An interval, as the reference looks at it. -/
def lateR (kind : Int) (P S : Nat → Bool) (lim a e : Nat) (endless : Bool) : Bool := (List.range (e - a)).all fun d => !P (a + d) || (endless && decide (lim ≤ d)) || (if kind = 6 then decide (0 < cnt S (a + d) e) else decide (0 < cnt S a (a + d + 1)))
def keptR (kind count : Int) (P S : Nat → Bool) (lim a e : Nat) (endless : Bool) : Bool :=
  if kind = 1 then decide (cnt P a e = 0) else if kind = 2 then decide (cnt P a e = e - a) else if kind = 3 then decide (0 < cnt P a e) else if kind = 4 then decide ((cnt P a e : Int) ≤ count) else lateR kind P S lim a e endless
theorem all_range {n : Nat} {f : Nat → Bool} : (List.range n).all f = true ↔ ∀ d, d < n → f d = true := by simp
theorem imp_or {a b : Bool} : (!a || b) = true ↔ (a = true → b = true) := by cases a <;> cases b <;> simp
/-- A span with an end. -/
theorem fin_eq {kind count : Int} (hk : 1 ≤ kind ∧ kind ≤ 6) {P S : Nat → Bool} {E a e lim : Nat} (h1 : a ≤ e) (h2 : e < E) : keptB kind count P S E a e = keptR kind count P S lim a e false := by
  unfold keptB keptR
  split
  · rfl
  split
  · rfl
  split
  · rfl
  split
  · rfl
  unfold lateB lateR
  rw [Bool.eq_iff_iff, all_range, all_range]
  have key : ∀ d, d < e - a → ((!P (a + d) || (if kind = 5 then decide (0 < cnt S a (a + d + 1)) else if kind = 6 then decide (fst S E (a + d) < e) else true)) = (!P (a + d) || (false && decide (lim ≤ d)) || (if kind = 6 then decide (0 < cnt S (a + d) e) else decide (0 < cnt S a (a + d + 1))))) := fun d hd => by
    rw [Bool.false_and, Bool.or_false]
    congr 1
    by_cases q : kind = 5
    · rw [if_pos q, if_neg (by omega)]
    · have q6 : kind = 6 := by omega
      rw [if_neg q, if_pos q6, if_pos q6]
      rw [Bool.eq_iff_iff, decide_eq_true_eq, decide_eq_true_eq, cnt_pos (by omega)]
      obtain ⟨g1, g2, g3, g4⟩ := fst_spec (p := S) (e := E) (i := a + d) (by omega)
      constructor
      · intro h; exact ⟨_, g1, h, g4 (by omega)⟩
      · rintro ⟨j, q1, q2, q3⟩
        rcases Nat.lt_or_ge (fst S E (a + d)) e with q | q
        · exact q
        · have := g3 j q1 (by omega)
          rw [q3] at this
          cases this
  constructor
  · intro h d hd; rw [← key d hd]; exact h d hd
  · intro h d hd; rw [key d hd]; exact h d hd
/-- A span without an end. -/
theorem inf_eq {kind count : Int} (hk : 1 ≤ kind ∧ kind ≤ 6) (hc : 0 ≤ count ∧ count ≤ 3) {b m : Nat} {P S : Nat → Bool} (hP : Prd b m P) (hS : Prd b m S) (hm : 1 ≤ m) {a : Nat} (ha : a ≤ b + m) :
    (if kind = 6 then answB P S (b + 6 * m + m) a (b + 6 * m) else keptB kind count P S (b + 6 * m) a (b + 6 * m)) = keptR kind count P S (b + m + m) a (2 * (b + m) + 7 * m) true := by
  have hE : a ≤ b + 6 * m := by omega
  have hF : a ≤ 2 * (b + m) + 7 * m := by omega
  have c0 : cnt P a (b + 6 * m) = 0 ↔ cnt P a (2 * (b + m) + 7 * m) = 0 := by
    have := cnt_far hP hm ha (Nat.le_refl _) (show b + 6 * m ≤ 2 * (b + m) + 7 * m by omega) (c := 0) (by omega)
    omega
  unfold keptB keptR
  by_cases k1 : kind = 1
  · rw [if_neg (by omega), if_pos k1, if_pos k1, Bool.eq_iff_iff, decide_eq_true_eq, decide_eq_true_eq, c0]
  by_cases k2 : kind = 2
  · rw [if_neg (by omega), if_neg k1, if_pos k2, if_neg k1, if_pos k2, Bool.eq_iff_iff, decide_eq_true_eq, decide_eq_true_eq, cnt_full _ hE, cnt_full _ hF]
    constructor
    · intro h j h1 h2
      cases hp : P j with
      | true => rfl
      | false =>
        have hN : Prd b m (fun i => !P i) := fun i hi => by show (!P (i + m)) = !P i; rw [hP i hi]
        obtain ⟨j', g1, g2, g3, g4⟩ := hN.near hm h1 (by show (!P j) = true; rw [hp]; rfl)
        have := h j' g1 (by omega)
        rw [this] at g4
        cases g4
    · intro h j h1 h2; exact h j h1 (by omega)
  by_cases k3 : kind = 3
  · rw [if_neg (by omega), if_neg k1, if_neg k2, if_pos k3, if_neg k1, if_neg k2, if_pos k3, Bool.eq_iff_iff, decide_eq_true_eq, decide_eq_true_eq]
    omega
  by_cases k4 : kind = 4
  · rw [if_neg (by omega), if_neg k1, if_neg k2, if_neg k3, if_pos k4, if_neg k1, if_neg k2, if_neg k3, if_pos k4, Bool.eq_iff_iff, decide_eq_true_eq, decide_eq_true_eq]
    have := cnt_far hP hm ha (Nat.le_refl _) (show b + 6 * m ≤ 2 * (b + m) + 7 * m by omega) (c := count.toNat) (by omega)
    omega
  rw [if_neg k1, if_neg k2, if_neg k3, if_neg k4, if_neg k1, if_neg k2, if_neg k3, if_neg k4]
  unfold lateR
  by_cases k6 : kind = 6
  · rw [if_pos k6]
    unfold answB
    rw [Bool.eq_iff_iff, all_range, all_range]
    -- both say: each P is answered by an S at last
    have sp : ((∀ d, d < b + 6 * m - a → (!(P (a + d) && decide (fst S (b + 6 * m + m) (a + d) = b + 6 * m + m))) = true) ↔ ∀ i, a ≤ i → P i = true → ∃ j, i ≤ j ∧ S j = true) := by
      constructor
      · intro h i hi hp
        obtain ⟨j, k, h1, h2, h3, h4, h5⟩ := Prd.alike (b := b) hm hi
        have hpj : P j = true := by
          rcases h5 with h5 | h5
          · subst h5; rw [Nat.zero_mul, Nat.add_zero] at h4; subst h4; exact hp
          · rw [h4, hP.times h5] at hp; exact hp
        have := h (j - a) (by omega)
        rw [show a + (j - a) = j by omega, hpj, Bool.true_and, Bool.not_eq_true', decide_eq_false_iff_not] at this
        obtain ⟨g1, g2, g3, g4⟩ := fst_spec (p := S) (e := b + 6 * m + m) (i := j) (by omega)
        have g5 := g4 (by omega)
        rcases h5 with h5 | h5
        · subst h5; rw [Nat.zero_mul, Nat.add_zero] at h4; subst h4; exact ⟨_, g1, g5⟩
        · exact hS.late hm (by omega) g5 i
      · intro h d hd
        cases hp : P (a + d) with
        | false => rfl
        | true =>
          obtain ⟨j, q1, q2⟩ := h (a + d) (by omega) hp
          obtain ⟨j', q3, q4, q5, q6⟩ := hS.near hm q1 q2
          rw [Bool.true_and, Bool.not_eq_true', decide_eq_false_iff_not]
          have := (fst_lt (p := S) (e := b + 6 * m + m) (i := a + d) (by omega)).2 ⟨j', q3, by omega, q6⟩
          omega
    rw [sp]
    constructor
    · intro h d hd
      rw [if_pos k6]
      cases hp : P (a + d) with
      | false => rfl
      | true =>
        by_cases hl : b + m + m ≤ d
        · rw [decide_eq_true hl]; rfl
        · obtain ⟨j, q1, q2⟩ := h (a + d) (by omega) hp
          obtain ⟨j', q3, q4, q5, q6⟩ := hS.near hm q1 q2
          rw [decide_eq_true ((cnt_pos (by omega)).2 ⟨j', q3, by omega, q6⟩)]
          simp
    · intro h i hi hp
      obtain ⟨j, k, h1, h2, h3, h4, h5⟩ := Prd.alike (b := b) hm hi
      have hpj : P j = true := by
        rcases h5 with h5 | h5
        · subst h5; rw [Nat.zero_mul, Nat.add_zero] at h4; subst h4; exact hp
        · rw [h4, hP.times h5] at hp; exact hp
      have := h (j - a) (by omega)
      rw [if_pos k6, show a + (j - a) = j by omega, hpj, decide_eq_false (show ¬ b + m + m ≤ j - a by omega)] at this
      simp only [Bool.not_true, Bool.and_false, Bool.or_false, Bool.false_or, decide_eq_true_eq] at this
      obtain ⟨x, g1, g2, g3⟩ := (cnt_pos (by omega)).1 this
      rcases h5 with h5 | h5
      · subst h5; rw [Nat.zero_mul, Nat.add_zero] at h4; subst h4; exact ⟨x, g1, g3⟩
      · exact hS.late hm (by omega) g3 i
  · have k5 : kind = 5 := by omega
    rw [if_neg k6]
    unfold lateB
    rw [Bool.eq_iff_iff, all_range, all_range]
    constructor
    · intro h d hd
      rw [if_neg k6]
      cases hp : P (a + d) with
      | false => rfl
      | true =>
        obtain ⟨j, k, h1, h2, h3, h4, h5⟩ := Prd.alike (b := b) hm (show a ≤ a + d by omega)
        have hpj : P j = true := by
          rcases h5 with h5 | h5
          · subst h5; rw [Nat.zero_mul, Nat.add_zero] at h4; rw [← h4]; exact hp
          · rw [h4, hP.times h5] at hp; exact hp
        have := h (j - a) (by omega)
        rw [if_pos k5, show a + (j - a) = j by omega, hpj] at this
        simp only [Bool.not_true, Bool.false_or, decide_eq_true_eq] at this
        obtain ⟨x, g1, g2, g3⟩ := (cnt_pos (by omega)).1 this
        rw [decide_eq_true ((cnt_pos (show a ≤ a + d + 1 by omega)).2 ⟨x, g1, by omega, g3⟩)]
        simp
    · intro h d hd
      rw [if_pos k5]
      cases hp : P (a + d) with
      | false => rfl
      | true =>
        obtain ⟨j, k, h1, h2, h3, h4, h5⟩ := Prd.alike (b := b) hm (show a ≤ a + d by omega)
        have hpj : P j = true := by
          rcases h5 with h5 | h5
          · subst h5; rw [Nat.zero_mul, Nat.add_zero] at h4; rw [← h4]; exact hp
          · rw [h4, hP.times h5] at hp; exact hp
        have := h (j - a) (by omega)
        rw [if_neg k6, show a + (j - a) = j by omega, hpj, decide_eq_false (show ¬ b + m + m ≤ j - a by omega)] at this
        simp only [Bool.not_true, Bool.and_false, Bool.or_false, Bool.false_or, decide_eq_true_eq] at this
        obtain ⟨x, g1, g2, g3⟩ := (cnt_pos (by omega)).1 this
        rw [decide_eq_true ((cnt_pos (show a ≤ a + d + 1 by omega)).2 ⟨x, g1, by omega, g3⟩)]
        rfl
end Go.Proofs.Ytgohkomfkfilnaa
