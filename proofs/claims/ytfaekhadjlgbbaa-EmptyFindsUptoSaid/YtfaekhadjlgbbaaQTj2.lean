/-
  The parts of a graph by one search with a stack: how long it takes; parts by their numbers. Plain Lean. No statement is proved here.
-/
import Derived.Test.YtfaekhadjlgbbaaQTj1
import Derived.Test.YtfaekhadjlgbbaaQDm0
namespace Go.Proofs.Ytfaekhadjlgbbaa
set_option linter.unusedVariables false
theorem fuel_push {g : List (List Int)} {S : TJ} {p i v : Nat} {r : List (Nat × Nat)} (hp : S.path = (p, i) :: r) (hi : i < (g.getD p []).length) (hv : v < g.length) (h0 : S.num v = 0) : TJ.fuel g (S.open v ((p, i + 1) :: r)) + 2 = TJ.fuel g S := by
  have := fuel_open hv h0 ((p, i + 1) :: r)
  rw [hp] at this
  simp only [pathW] at this
  omega
theorem fuel_skip {g : List (List Int)} {S : TJ} {p i x : Nat} {r : List (Nat × Nat)} (hp : S.path = (p, i) :: r) (hi : i < (g.getD p []).length) : TJ.fuel g (S.skip p i r x) + 1 = TJ.fuel g S := by
  unfold TJ.fuel
  rw [hp]
  show _ + ((g.getD p []).length - (i + 1) + 1 + pathW g r) + 1 = _ + ((g.getD p []).length - i + 1 + pathW g r)
  show sumTo (fun v => if S.num v = 0 then _ else 0) _ + _ + 1 = _
  omega
theorem fuel_back {g : List (List Int)} {S : TJ} {n i p j : Nat} {r : List (Nat × Nat)} (hp : S.path = (n, i) :: (p, j) :: r) : TJ.fuel g (S.back n p j r) < TJ.fuel g S := by
  unfold TJ.fuel
  rw [hp]
  show sumTo (fun v => if S.num v = 0 then _ else 0) _ + ((g.getD p []).length - j + 1 + pathW g r) < _ + ((g.getD n []).length - i + 1 + ((g.getD p []).length - j + 1 + pathW g r))
  omega
theorem fuel_shut {g : List (List Int)} {S : TJ} {n i : Nat} {r : List (Nat × Nat)} {low : Nat → Nat} (hp : S.path = (n, i) :: r) : TJ.fuel g (S.shut n r low) < TJ.fuel g S := by
  unfold TJ.fuel
  rw [hp]
  show sumTo (fun v => if S.num v = 0 then _ else 0) _ + pathW g r < _ + ((g.getD n []).length - i + 1 + pathW g r)
  omega
/-! ### Numbers of classes, as they first come -/
def hasB (same : Nat → Nat → Bool) (k : Nat) : Bool := (List.range k).any fun b => same b k
def pcnt (same : Nat → Nat → Bool) : Nat → Nat
  | 0 => 0
  | k + 1 => pcnt same k + if hasB same k = true then 0 else 1
def pnum (same : Nat → Nat → Bool) (k : Nat) : Nat := pcnt same (fst (fun b => same b k) k 0)
structure Eqv (same : Nat → Nat → Bool) (n : Nat) : Prop where
  refl : ∀ a, a < n → same a a = true
  symm : ∀ a b, a < n → b < n → same a b = true → same b a = true
  trans : ∀ a b c, a < n → b < n → c < n → same a b = true → same b c = true → same a c = true
theorem pcnt_le (same : Nat → Nat → Bool) : ∀ k, pcnt same k ≤ k
  | 0 => Nat.le_refl _
  | k + 1 => by simp only [pcnt]; have := pcnt_le same k; split <;> omega
/-- The first of a class bears its own number. -/
theorem pnum_first {same : Nat → Nat → Bool} {n : Nat} (h : Eqv same n) {b k : Nat} (hk : k < n) (hb : b < k) (hs : same b k = true) (hf : ∀ c, c < b → same c k = false) : pnum same k = pcnt same b ∧ pnum same b = pcnt same b := by
  constructor
  · unfold pnum
    rw [fst_eq (i := 0) (t := b) (Nat.zero_le _) (by omega) (fun j _ hj => hf j hj) (fun _ => hs)]
  · unfold pnum
    rw [fst_eq (i := 0) (t := b) (Nat.zero_le _) (Nat.le_refl _) (fun j _ hj => ?_) (fun z => by omega)]
    rw [Bool.eq_false_iff]
    intro q
    have := h.trans j b k (by omega) (by omega) hk q hs
    rw [hf j hj] at this
    cases this
theorem pnum_new {same : Nat → Nat → Bool} {k : Nat} (hf : ∀ c, c < k → same c k = false) : pnum same k = pcnt same k ∧ hasB same k = false := by
  constructor
  · unfold pnum
    rw [fst_eq (i := 0) (t := k) (Nat.zero_le _) (Nat.le_refl _) (fun j _ hj => hf j hj) (fun z => by omega)]
  · unfold hasB
    rw [List.any_eq_false]
    intro b hb
    rw [hf b (List.mem_range.1 hb)]
    decide
theorem pnum_old {same : Nat → Nat → Bool} {n : Nat} (h : Eqv same n) {b k : Nat} (hk : k < n) (hb : b < k) (hs : same b k = true) : pnum same k = pnum same b ∧ hasB same k = true := by
  refine ⟨?_, List.any_eq_true.2 ⟨b, List.mem_range.2 hb, hs⟩⟩
  obtain ⟨g1, g2, g3, g4⟩ := fst_spec (p := fun b => same b k) (e := k) (i := 0) (Nat.zero_le _)
  have hlt : fst (fun b => same b k) k 0 < k := by
    rcases Nat.lt_or_ge (fst (fun b => same b k) k 0) k with q | q
    · exact q
    · have := g3 b (Nat.zero_le _) (by omega); simp only [hs] at this; cases this
  have hc := g4 hlt
  generalize fst (fun b => same b k) k 0 = c at *
  have hcb : c ≤ b := by
    rcases Nat.lt_or_ge b c with q | q
    · have := g3 b (Nat.zero_le _) q; simp only [hs] at this; cases this
    · exact q
  have e1 := (pnum_first h hk hlt hc fun d hd => g3 d (Nat.zero_le _) hd)
  rw [e1.1]
  by_cases e : c = b
  · subst e; rw [e1.2]
  · refine (pnum_first h (k := b) (by omega) (show c < b by omega) (h.trans c k b (by omega) hk (by omega) hc (h.symm b k (by omega) hk hs)) fun d hd => ?_).1.symm
    rw [Bool.eq_false_iff]
    intro q
    have := h.trans d b k (by omega) (by omega) hk q hs
    have z := g3 d (Nat.zero_le _) hd
    simp only [this] at z
    cases z
theorem pnum_lt {same : Nat → Nat → Bool} {n : Nat} (h : Eqv same n) {k : Nat} (hk : k < n) : pnum same k < n := by
  unfold pnum
  have := (fst_spec (p := fun b => same b k) (e := k) (i := 0) (Nat.zero_le _)).2.1
  have := pcnt_le same (fst (fun b => same b k) k 0)
  omega
theorem pnum_eq {same : Nat → Nat → Bool} {n : Nat} (h : Eqv same n) {a b : Nat} (ha : a < n) (hb : b < n) : pnum same a = pnum same b ↔ same a b = true := by
  have mono : ∀ i j, i ≤ j → pcnt same i ≤ pcnt same j := fun i j hij => by
    obtain ⟨d, rfl⟩ := Nat.exists_eq_add_of_le hij
    clear hij
    induction d with
    | zero => exact Nat.le_refl _
    | succ d ih => exact Nat.le_trans ih (by rw [← Nat.add_assoc]; simp only [pcnt]; omega)
  have first : ∀ k, k < n → ∃ c, c ≤ k ∧ same c k = true ∧ (∀ d, d < c → same d c = false) ∧ pnum same k = pcnt same c := fun k hk => by
    obtain ⟨g1, g2, g3, g4⟩ := fst_spec (p := fun b => same b k) (e := k) (i := 0) (Nat.zero_le _)
    refine ⟨fst (fun b => same b k) k 0, g2, ?_, fun d hd => ?_, rfl⟩
    · rcases Nat.lt_or_ge (fst (fun b => same b k) k 0) k with q | q
      · exact g4 q
      · rw [show fst (fun b => same b k) k 0 = k by omega]; exact h.refl k hk
    · rw [Bool.eq_false_iff]
      intro q
      rcases Nat.lt_or_ge (fst (fun b => same b k) k 0) k with z | z
      · have := h.trans d _ k (by omega) (by omega) hk q (g4 z)
        have y := g3 d (Nat.zero_le _) hd
        simp only [this] at y; cases y
      · have e : fst (fun b => same b k) k 0 = k := by omega
        have y := g3 d (Nat.zero_le _) hd
        rw [e] at q
        simp only [q] at y; cases y
  constructor
  · intro e
    obtain ⟨c, c1, c2, c3, c4⟩ := first a ha
    obtain ⟨d, d1, d2, d3, d4⟩ := first b hb
    have ecd : c = d := by
      rcases Nat.lt_trichotomy c d with q | q | q
      · have h1 := mono (c + 1) d q
        simp only [pcnt, (pnum_new c3).2] at h1
        simp at h1; omega
      · exact q
      · have h1 := mono (d + 1) c q
        simp only [pcnt, (pnum_new d3).2] at h1
        simp at h1; omega
    subst ecd
    exact h.trans a c b ha (by omega) hb (h.symm c a (by omega) ha c2) d2
  · intro e
    rcases Nat.lt_trichotomy a b with q | q | q
    · exact (pnum_old h hb q e).1.symm
    · rw [q]
    · exact (pnum_old h ha q (h.symm a b ha hb e)).1
/-! ### Parts of a graph -/
noncomputable def mutB (g : List (List Int)) (a b : Nat) : Bool := rchB g [(a : Int)] b && rchB g [(b : Int)] a
theorem mutB_iff {g : List (List Int)} {a b : Nat} : mutB g a b = true ↔ To g a b ∧ To g b a := by
  unfold mutB
  rw [Bool.and_eq_true, rchB_iff, rchB_iff]
theorem eqv_mut (g : List (List Int)) (n : Nat) : Eqv (mutB g) n where
  refl a _ := mutB_iff.2 ⟨to_refl g a, to_refl g a⟩
  symm a b _ _ h := mutB_iff.2 (mutB_iff.1 h).symm
  trans a b c _ _ _ h k := mutB_iff.2 ⟨to_trans (mutB_iff.1 h).1 (mutB_iff.1 k).1, to_trans (mutB_iff.1 k).2 (mutB_iff.1 h).2⟩
end Go.Proofs.Ytfaekhadjlgbbaa
