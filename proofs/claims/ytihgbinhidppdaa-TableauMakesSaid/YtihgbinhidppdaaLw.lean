/-
  Words that go round: the shortest way to write one. Plain Lean. No statement is proved here.
-/
namespace Go.Proofs.Ytihgbinhidppdaa

/-- The letter at a place of a word. -/
def atW (s l : List Int) (i : Nat) : Int := if i < s.length then s.getD i 0 else l.getD ((i - s.length) % l.length) 0

theorem atW_per (s l : List Int) {i : Nat} (h : s.length ≤ i) : atW s l (i + l.length) = atW s l i := by
  unfold atW
  rw [if_neg (by omega), if_neg (by omega), show i + l.length - s.length = (i - s.length) + l.length by omega, Nat.add_mod_right]

/-- p is a period from a on. -/
def Per (f : Nat → Int) (a p : Nat) : Prop := ∀ i, a ≤ i → f (i + p) = f i

theorem Per.mul {f : Nat → Int} {a p : Nat} (h : Per f a p) (k : Nat) : Per f a (k * p) := by
  induction k with
  | zero => intro i _; simp
  | succ k ih =>
    intro i hi
    rw [Nat.succ_mul, ← Nat.add_assoc, h _ (by omega), ih i hi]
theorem Per.mono {f : Nat → Int} {a b p : Nat} (h : Per f a p) (hb : a ≤ b) : Per f b p := fun i hi => h i (by omega)
/-- A period that holds later holds from where some period holds on. -/
theorem Per.back {f : Nat → Int} {a b m p : Nat} (h : Per f a p) (hm : 1 ≤ m) (hb : Per f b m) : Per f b p := by
  intro i hi
  have hk : a ≤ i + a * m := Nat.le_trans (Nat.le_mul_of_pos_right a hm) (Nat.le_add_left _ _)
  have h1 := hb.mul a i hi
  have h2 := hb.mul a (i + p) (by omega)
  have h3 := h _ hk
  rw [← h2, show i + p + a * m = i + a * m + p by omega, h3, h1]
/-- Down to the first round. -/
theorem Per.red {f : Nat → Int} {a p : Nat} (h : Per f a p) {i : Nat} (hi : a ≤ i) : f i = f (a + (i - a) % p) := by
  have h1 := h.mul ((i - a) / p) (a + (i - a) % p) (by omega)
  rw [← h1]
  have := Nat.mod_add_div (i - a) p
  rw [Nat.mul_comm] at this
  congr 1
  omega

theorem least_nat {p : Nat → Prop} (h : ∃ n, p n) : ∃ n, p n ∧ ∀ k, k < n → ¬ p k := by
  obtain ⟨n, hn⟩ := h
  induction n using Nat.strongRecOn with
  | ind n ih =>
    by_cases hk : ∃ k, k < n ∧ p k
    · obtain ⟨k, h1, h2⟩ := hk
      exact ih k h1 h2
    · exact ⟨n, hn, fun k h1 h2 => hk ⟨k, h1, h2⟩⟩

/-- The shortest period from s on, and the first place from which it holds. -/
structure Norm (f : Nat → Int) (s m a p : Nat) : Prop where
  m1 : 1 ≤ m
  per : Per f s m
  p1 : 1 ≤ p
  pm : p ≤ m
  as : a ≤ s
  ok : Per f a p
  noP : ∀ q, 1 ≤ q → q < p → ¬ Per f s q
  noA : ∀ b, b < a → ¬ Per f b p

theorem norm_exists {f : Nat → Int} {s m : Nat} (hm : 1 ≤ m) (hp : Per f s m) : ∃ a p, Norm f s m a p := by
  obtain ⟨p, ⟨h1, h2⟩, h3⟩ := least_nat (p := fun p => 1 ≤ p ∧ Per f s p) ⟨m, hm, hp⟩
  obtain ⟨a, h4, h5⟩ := least_nat (p := fun a => Per f a p) ⟨s, h2⟩
  refine ⟨a, p, hm, hp, h1, ?_, ?_, h4, fun q q1 q2 q3 => h3 q q2 ⟨q1, q3⟩, h5⟩
  · rcases Nat.lt_or_ge m p with h | h
    · exact absurd ⟨hm, hp⟩ (h3 m h)
    · exact h
  · rcases Nat.lt_or_ge s a with h | h
    · exact absurd h2 (h5 s h)
    · exact h

theorem norm_unique {f : Nat → Int} {s m a p s' m' a' p' : Nat} (h : Norm f s m a p) (h' : Norm f s' m' a' p') : a = a' ∧ p = p' := by
  have hp : p = p' := by
    rcases Nat.lt_trichotomy p p' with q | q | q
    · exact absurd (h.ok.back h'.m1 h'.per) (h'.noP p h.p1 q)
    · exact q
    · exact absurd (h'.ok.back h.m1 h.per) (h.noP p' h'.p1 q)
  subst hp
  refine ⟨?_, rfl⟩
  rcases Nat.lt_trichotomy a a' with q | q | q
  · exact absurd h.ok (h'.noA a q)
  · exact q
  · exact absurd h'.ok (h.noA a' q)

/-- The letters from a place on. -/
def seg (f : Nat → Int) (a n : Nat) : List Int := (List.range n).map fun j => f (a + j)
@[simp] theorem seg_len (f : Nat → Int) (a n : Nat) : (seg f a n).length = n := by simp [seg]
theorem seg_get {f : Nat → Int} {a n j : Nat} (h : j < n) : (seg f a n)[j]? = some (f (a + j)) := by
  simp [seg, List.getElem?_map, List.getElem?_range h]
theorem seg_getD {f : Nat → Int} {a n j : Nat} (h : j < n) (d : Int) : (seg f a n).getD j d = f (a + j) := by
  rw [List.getD_eq_getElem?_getD, seg_get h]; rfl
theorem seg_succ (f : Nat → Int) (a n : Nat) : seg f a (n + 1) = seg f a n ++ [f (a + n)] := by
  simp [seg, List.range_succ]
theorem seg_cons (f : Nat → Int) (a n : Nat) : seg f a (n + 1) = f a :: seg f (a + 1) n := by
  apply List.ext_getElem?
  intro j
  cases j with
  | zero => rw [seg_get (by omega)]; simp
  | succ j =>
    by_cases h : j < n
    · rw [List.getElem?_cons_succ, seg_get (by omega), seg_get h]
      congr 2
      omega
    · rw [List.getElem?_eq_none (by simp; omega), List.getElem?_eq_none (by simp; omega)]
theorem seg_take {f : Nat → Int} {a n k : Nat} (h : k ≤ n) : (seg f a n).take k = seg f a k := by
  apply List.ext_getElem?
  intro j
  by_cases hj : j < k
  · rw [List.getElem?_take, if_pos hj, seg_get (by omega), seg_get hj]
  · rw [List.getElem?_eq_none (by simp; omega), List.getElem?_eq_none (by simp; omega)]
theorem seg_eq {f g : Nat → Int} {a n : Nat} (h : seg f a n = seg g a n) {j : Nat} (hj : j < n) : f (a + j) = g (a + j) := by
  have h1 := seg_get (f := f) (a := a) hj
  rw [h, seg_get hj] at h1
  exact (Option.some.inj h1).symm
theorem seg_stem (s l : List Int) : seg (atW s l) 0 s.length = s := by
  apply List.ext_getElem?
  intro j
  by_cases h : j < s.length
  · rw [seg_get h, List.getElem?_eq_getElem h]
    simp [atW, h, List.getD_eq_getElem?_getD]
  · rw [List.getElem?_eq_none (by simp; omega), List.getElem?_eq_none (by omega)]
theorem seg_loop (s l : List Int) : seg (atW s l) s.length l.length = l := by
  apply List.ext_getElem?
  intro j
  by_cases h : j < l.length
  · rw [seg_get h, List.getElem?_eq_getElem h]
    simp [atW, Nat.mod_eq_of_lt h, List.getD_eq_getElem?_getD, h]; omega
  · rw [List.getElem?_eq_none (by simp; omega), List.getElem?_eq_none (by omega)]

/-- A word written anew: its letters. -/
theorem at_seg {f : Nat → Int} {a q i : Nat} (hq : 1 ≤ q) : atW (seg f 0 a) (seg f a q) i = if i < a then f i else f (a + (i - a) % q) := by
  unfold atW
  simp only [seg_len]
  split
  · rw [seg_getD (by omega), Nat.zero_add]
  · rw [seg_getD (Nat.mod_lt _ hq)]

/-- The test of the reference. -/
theorem same_iff {f : Nat → Int} {s m a q : Nat} (hm : 1 ≤ m) (hp : Per f s m) (ha : a ≤ s) (hq : 1 ≤ q) :
    (∀ i, i < 2 * (s + m) + 2 * q → f i = atW (seg f 0 a) (seg f a q) i) ↔ Per f a q := by
  constructor
  · intro h
    have base : ∀ i, a ≤ i → i + q < 2 * (s + m) + 2 * q → f (i + q) = f i := fun i h1 h2 => by
      rw [h _ h2, h i (by omega), at_seg hq, at_seg hq, if_neg (by omega), if_neg (by omega), show i + q - a = (i - a) + q by omega, Nat.add_mod_right]
    intro i hi
    by_cases hs : i < s
    · exact base i hi (by omega)
    · have e1 := hp.red (i := i) (by omega)
      have hlt : (i - s) % m < m := Nat.mod_lt _ hm
      have e2 : f (i + q) = f (s + (i - s) % m + q) := by
        have h1 := hp.mul ((i - s) / m) (s + (i - s) % m + q) (by omega)
        rw [← h1]
        have := Nat.mod_add_div (i - s) m
        rw [Nat.mul_comm] at this
        congr 1
        omega
      rw [e2, e1]
      exact base _ (by omega) (by omega)
  · intro h i _
    rw [at_seg hq]
    split
    · rfl
    · exact h.red (by omega)

/-- The test of the program: a loop's length is its first n letters', again and again. -/
def Turns (l : List Int) (n : Nat) : Prop := ∀ i, n ≤ i → i < l.length → l.getD i 0 = l.getD (i - n) 0
theorem atW_loop {s l : List Int} {j : Nat} (h : j < l.length) : atW s l (s.length + j) = l.getD j 0 := by
  unfold atW
  rw [if_neg (by omega), Nat.add_sub_cancel_left, Nat.mod_eq_of_lt h]
theorem per_of_turns {s l : List Int} {n : Nat} (hn : 1 ≤ n) (hl : 1 ≤ l.length) (hd : l.length % n = 0) (h : Turns l n) : Per (atW s l) s.length n := by
  have low : ∀ x, x < l.length → l.getD x 0 = l.getD (x % n) 0 := by
    intro x
    induction x using Nat.strongRecOn with
    | ind x ih =>
      intro hx
      by_cases hxn : x < n
      · rw [Nat.mod_eq_of_lt hxn]
      · rw [h x (by omega) hx, ih (x - n) (by omega) (by omega)]
        congr 1
        exact (Nat.mod_eq_sub_mod (by omega)).symm
  have at_ : ∀ j, atW s l (s.length + j) = l.getD (j % n) 0 := fun j => by
    have hj : j % l.length < l.length := Nat.mod_lt _ hl
    have e : atW s l (s.length + j) = l.getD (j % l.length) 0 := by
      unfold atW
      rw [if_neg (by omega), Nat.add_sub_cancel_left]
    rw [e, low _ hj, Nat.mod_mod_of_dvd _ (Nat.dvd_of_mod_eq_zero hd)]
  intro i hi
  have e1 := at_ (i - s.length)
  have e2 := at_ (i - s.length + n)
  rw [Nat.add_mod_right] at e2
  rw [show s.length + (i - s.length) = i by omega] at e1
  rw [show s.length + (i - s.length + n) = i + n by omega] at e2
  rw [e1, e2]
theorem turns_of_norm {s l : List Int} {a p : Nat} (h : Norm (atW s l) s.length l.length a p) : l.length % p = 0 ∧ Turns l p := by
  have hp : Per (atW s l) s.length p := h.ok.mono h.as
  refine ⟨?_, fun i h1 h2 => ?_⟩
  · have hlt : l.length % p < p := Nat.mod_lt _ h.p1
    rcases Nat.eq_zero_or_pos (l.length % p) with q | q
    · exact q
    · refine absurd (fun i hi => ?_) (h.noP _ q hlt)
      have h1 := hp.mul (l.length / p) (i + l.length % p) (by omega)
      rw [← h1]
      have := Nat.mod_add_div l.length p
      rw [Nat.mul_comm] at this
      rw [show i + l.length % p + l.length / p * p = i + l.length by omega]
      exact h.per i hi
  · have := hp (s.length + (i - p)) (by omega)
    rw [show s.length + (i - p) + p = s.length + i by omega, atW_loop h2, atW_loop (by omega)] at this
    exact this

/-- Two words that have the same letters for long enough have them for ever. -/
theorem alike_all {f g : Nat → Int} {s m s' m' : Nat} (h : Per f s m) (h' : Per g s' m') (hs : s + m ≤ 60) (hs' : s' + m' ≤ 60) (hm : 1 ≤ m) (hm' : 1 ≤ m')
    (he : ∀ i, i < 3660 → f i = g i) : ∀ i, f i = g i := by
  have hM : m' * m ≤ 3600 := Nat.mul_le_mul (show m' ≤ 60 by omega) (show m ≤ 60 by omega)
  have hM1 : 1 ≤ m' * m := Nat.mul_pos hm' hm
  intro i
  induction i using Nat.strongRecOn with
  | ind i ih =>
    by_cases hi : i < 3660
    · exact he i hi
    · have h1 := h.mul m' (i - m' * m) (by omega)
      have h2 := h'.mul m (i - m' * m) (by omega)
      rw [Nat.mul_comm m m'] at h2
      rw [show i - m' * m + m' * m = i by omega] at h1 h2
      rw [h1, h2]
      exact ih _ (by omega)
/-- The same written shortly: the same letters for ever. -/
theorem norm_same {f g : Nat → Int} {s m a p s' m' a' p' : Nat} (h : Norm f s m a p) (h' : Norm g s' m' a' p') :
    (seg f 0 a = seg g 0 a' ∧ seg f a p = seg g a' p') ↔ ∀ i, f i = g i := by
  constructor
  · rintro ⟨h1, h2⟩
    have ea : a = a' := by have := congrArg List.length h1; simpa using this
    subst ea
    have ep : p = p' := by have := congrArg List.length h2; simpa using this
    subst ep
    intro i
    by_cases hi : i < a
    · have := seg_eq h1 hi
      simpa using this
    · rw [h.ok.red (i := i) (by omega), h'.ok.red (i := i) (by omega)]
      exact seg_eq h2 (Nat.mod_lt _ h.p1)
  · intro he
    have : f = g := funext he
    subst this
    obtain ⟨rfl, rfl⟩ := norm_unique h h'
    exact ⟨rfl, rfl⟩
end Go.Proofs.Ytihgbinhidppdaa
