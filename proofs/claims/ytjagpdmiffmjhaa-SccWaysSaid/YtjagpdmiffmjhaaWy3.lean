/-
  Ways in a graph to marked nodes: where they begin and go on. Plain Lean. No statement is proved here.
-/
import Derived.Test.YtjagpdmiffmjhaaWy2
namespace Go.Proofs.Ytjagpdmiffmjhaa
/-- The least of the first k numbers of a list that are so; -1: none is. -/
def bestTo (p : Nat → Bool) (l : List Int) : Nat → Int
  | 0 => -1
  | k + 1 => if p (l.getD k 0).toNat = true ∧ (bestTo p l k < 0 ∨ l.getD k 0 < bestTo p l k) then l.getD k 0 else bestTo p l k
theorem bestTo_ok {p : Nat → Bool} {l : List Int} (h0 : ∀ k, k < l.length → 0 ≤ l.getD k 0) : ∀ k, k ≤ l.length →
    (bestTo p l k = -1 ∧ ∀ j, j < k → p (l.getD j 0).toNat = false) ∨ (0 ≤ bestTo p l k ∧ p (bestTo p l k).toNat = true ∧ (∃ j, j < k ∧ l.getD j 0 = bestTo p l k) ∧ ∀ j, j < k → p (l.getD j 0).toNat = true → bestTo p l k ≤ l.getD j 0)
  | 0, _ => .inl ⟨rfl, fun j h => by omega⟩
  | k + 1, hk => by
    have hk0 := h0 k (by omega)
    simp only [bestTo]
    rcases bestTo_ok (p := p) h0 k (by omega) with ⟨e, h⟩ | ⟨h1, h2, ⟨i, h3, h3'⟩, h4⟩
    · split
      · rename_i q
        refine .inr ⟨hk0, q.1, ⟨k, by omega, rfl⟩, fun j hj hp => ?_⟩
        by_cases w : j = k
        · subst w; omega
        · rw [h j (by omega)] at hp; cases hp
      · rename_i q
        refine .inl ⟨e, fun j hj => ?_⟩
        by_cases w : j = k
        · subst w
          cases hp : p (l.getD j 0).toNat with
          | false => rfl
          | true => exact absurd ⟨hp, .inl (by omega)⟩ q
        · exact h j (by omega)
    · split
      · rename_i q
        refine .inr ⟨hk0, q.1, ⟨k, by omega, rfl⟩, fun j hj hp => ?_⟩
        by_cases w : j = k
        · subst w; omega
        · have := h4 j (by omega) hp; omega
      · rename_i q
        refine .inr ⟨h1, h2, ⟨i, by omega, h3'⟩, fun j hj hp => ?_⟩
        by_cases w : j = k
        · subst w
          rcases Int.lt_or_le (l.getD j 0) (bestTo p l j) with z | z
          · exact absurd ⟨hp, .inr z⟩ q
          · exact z
        · exact h4 j (by omega) hp
/-- The nearest of the first k nodes of a list, the least of these; o: distances, -1: none. -/
def startTo (o : Nat → Int) (l : List Int) : Nat → Int
  | 0 => -1
  | k + 1 => if 0 ≤ o (l.getD k 0).toNat ∧ (startTo o l k < 0 ∨ o (l.getD k 0).toNat < o (startTo o l k).toNat ∨ (o (l.getD k 0).toNat = o (startTo o l k).toNat ∧ l.getD k 0 < startTo o l k)) then l.getD k 0 else startTo o l k
theorem startTo_ok {o : Nat → Int} {l : List Int} (h0 : ∀ k, k < l.length → 0 ≤ l.getD k 0) : ∀ k, k ≤ l.length →
    (startTo o l k = -1 ∧ ∀ j, j < k → o (l.getD j 0).toNat < 0) ∨ (0 ≤ startTo o l k ∧ 0 ≤ o (startTo o l k).toNat ∧ (∃ j, j < k ∧ l.getD j 0 = startTo o l k) ∧
      ∀ j, j < k → 0 ≤ o (l.getD j 0).toNat → o (startTo o l k).toNat < o (l.getD j 0).toNat ∨ (o (startTo o l k).toNat = o (l.getD j 0).toNat ∧ startTo o l k ≤ l.getD j 0))
  | 0, _ => .inl ⟨rfl, fun j h => by omega⟩
  | k + 1, hk => by
    have hk0 := h0 k (by omega)
    simp only [startTo]
    rcases startTo_ok (o := o) h0 k (by omega) with ⟨e, h⟩ | ⟨h1, h2, ⟨i, h3, h3'⟩, h4⟩
    · split
      · rename_i q
        refine .inr ⟨hk0, q.1, ⟨k, by omega, rfl⟩, fun j hj hp => ?_⟩
        by_cases w : j = k
        · subst w; exact .inr ⟨rfl, Int.le_refl _⟩
        · have := h j (by omega); omega
      · rename_i q
        refine .inl ⟨e, fun j hj => ?_⟩
        by_cases w : j = k
        · subst w
          rcases Int.lt_or_le (o (l.getD j 0).toNat) 0 with z | z
          · exact z
          · exact absurd ⟨z, .inl (by omega)⟩ q
        · exact h j (by omega)
    · split
      · rename_i q
        refine .inr ⟨hk0, q.1, ⟨k, by omega, rfl⟩, fun j hj hp => ?_⟩
        by_cases w : j = k
        · subst w; exact .inr ⟨rfl, Int.le_refl _⟩
        · have h5 := h4 j (by omega) hp
          have h6 := q.2
          omega
      · rename_i q
        refine .inr ⟨h1, h2, ⟨i, by omega, h3'⟩, fun j hj hp => ?_⟩
        by_cases w : j = k
        · subst w
          by_cases z : o (l.getD j 0).toNat < o (startTo o l j).toNat ∨ (o (l.getD j 0).toNat = o (startTo o l j).toNat ∧ l.getD j 0 < startTo o l j)
          · exact absurd ⟨hp, .inr z⟩ q
          · omega
        · exact h4 j (by omega) hp
/-- At its distance the nearest one is the best. -/
theorem start_best {o : Nat → Int} {l : List Int} (h0 : ∀ k, k < l.length → 0 ≤ l.getD k 0) (ha : 0 ≤ startTo o l l.length) :
    bestTo (fun n => decide (o n = o (startTo o l l.length).toNat)) l l.length = startTo o l l.length ∧ ∀ d : Int, 0 ≤ d → d < o (startTo o l l.length).toNat → bestTo (fun n => decide (o n = d)) l l.length = -1 := by
  rcases startTo_ok (o := o) h0 l.length (Nat.le_refl _) with ⟨e, _⟩ | ⟨h1, h2, ⟨i, h3, h3'⟩, h4⟩
  · omega
  constructor
  · rcases bestTo_ok (p := fun n => decide (o n = o (startTo o l l.length).toNat)) h0 l.length (Nat.le_refl _) with ⟨e, h⟩ | ⟨k1, k2, ⟨j, k3, k3'⟩, k4⟩
    · have := h i h3
      rw [h3'] at this
      simp at this
    · have g1 := k4 i h3 (by rw [h3']; simp)
      have k2 := of_decide_eq_true k2
      have g2 := h4 j k3 (by rw [k3', k2]; exact h2)
      rw [k3', k2] at g2
      rw [h3'] at g1
      omega
  · intro d hd0 hd
    rcases bestTo_ok (p := fun n => decide (o n = d)) h0 l.length (Nat.le_refl _) with ⟨e, h⟩ | ⟨k1, k2, ⟨j, k3, k3'⟩, k4⟩
    · exact e
    · have k2 := of_decide_eq_true k2
      have g2 := h4 j k3 (by rw [k3', k2]; exact hd0)
      rw [k3', k2] at g2
      omega
theorem start_none {o : Nat → Int} {l : List Int} (h0 : ∀ k, k < l.length → 0 ≤ l.getD k 0) (ha : startTo o l l.length < 0) (d : Int) (hd : 0 ≤ d) : bestTo (fun n => decide (o n = d)) l l.length = -1 := by
  rcases startTo_ok (o := o) h0 l.length (Nat.le_refl _) with ⟨_, h⟩ | ⟨h1, _⟩
  · rcases bestTo_ok (p := fun n => decide (o n = d)) h0 l.length (Nat.le_refl _) with ⟨e, _⟩ | ⟨k1, k2, ⟨j, k3, k3'⟩, k4⟩
    · exact e
    · have k2 := of_decide_eq_true k2
      have := h j k3
      rw [k3', k2] at this
      omega
  · omega
end Go.Proofs.Ytjagpdmiffmjhaa
