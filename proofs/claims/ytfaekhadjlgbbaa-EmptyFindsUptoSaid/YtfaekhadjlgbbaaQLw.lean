/-
  Words that go round: the shortest way to write one. Plain Lean. No statement is proved here.
-/
namespace Go.Proofs.Ytfaekhadjlgbbaa

/-- p is a period from a on. -/
def Per (f : Nat → Int) (a p : Nat) : Prop := ∀ i, a ≤ i → f (i + p) = f i

theorem Per.mul {f : Nat → Int} {a p : Nat} (h : Per f a p) (k : Nat) : Per f a (k * p) := by
  induction k with
  | zero => intro i _; simp
  | succ k ih =>
    intro i hi
    rw [Nat.succ_mul, ← Nat.add_assoc, h _ (by omega), ih i hi]
theorem Per.mono {f : Nat → Int} {a b p : Nat} (h : Per f a p) (hb : a ≤ b) : Per f b p := fun i hi => h i (by omega)
/-- A period that holds later holds from where some period holds on. -/
theorem Per.back {f : Nat → Int} {a b m p : Nat} (h : Per f a p) (hm : 1 ≤ m) (hb : Per f b m) : Per f b p := by
  intro i hi
  have hk : a ≤ i + a * m := Nat.le_trans (Nat.le_mul_of_pos_right a hm) (Nat.le_add_left _ _)
  have h1 := hb.mul a i hi
  have h2 := hb.mul a (i + p) (by omega)
  have h3 := h _ hk
  rw [← h2, show i + p + a * m = i + a * m + p by omega, h3, h1]
/-- Down to the first round. -/
theorem Per.red {f : Nat → Int} {a p : Nat} (h : Per f a p) {i : Nat} (hi : a ≤ i) : f i = f (a + (i - a) % p) := by
  have h1 := h.mul ((i - a) / p) (a + (i - a) % p) (by omega)
  rw [← h1]
  have := Nat.mod_add_div (i - a) p
  rw [Nat.mul_comm] at this
  congr 1
  omega

/-- The shortest period from s on, and the first place from which it holds. -/
structure Norm (f : Nat → Int) (s m a p : Nat) : Prop where
  m1 : 1 ≤ m
  per : Per f s m
  p1 : 1 ≤ p
  pm : p ≤ m
  as : a ≤ s
  ok : Per f a p
  noP : ∀ q, 1 ≤ q → q < p → ¬ Per f s q
  noA : ∀ b, b < a → ¬ Per f b p

/-- The letters from a place on. -/
def seg (f : Nat → Int) (a n : Nat) : List Int := (List.range n).map fun j => f (a + j)
@[simp] theorem seg_len (f : Nat → Int) (a n : Nat) : (seg f a n).length = n := by simp [seg]
end Go.Proofs.Ytfaekhadjlgbbaa
