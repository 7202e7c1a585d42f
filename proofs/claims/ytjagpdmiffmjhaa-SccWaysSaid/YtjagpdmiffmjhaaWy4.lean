/-
  A graph turned: what stands in each list. Plain Lean. No statement is proved here.
-/
import Derived.Test.YtjagpdmiffmjhaaGr
namespace Go.Proofs.Ytjagpdmiffmjhaa
/-- One edge more: n is put behind what stands at t, unless it stands there last. -/
def turnE (L : List (List Int)) (n t : Nat) : List (List Int) :=
  if (L.getD t []).length = 0 ∨ (L.getD t []).getD ((L.getD t []).length - 1) 0 ≠ (n : Int) then L.set t (L.getD t [] ++ [(n : Int)]) else L
theorem turnE_len (L : List (List Int)) (n t : Nat) : (turnE L n t).length = L.length := by unfold turnE; split <;> simp
theorem getDL_set {L : List (List Int)} {t m : Nat} {l : List Int} (h : t < L.length) : (L.set t l).getD m [] = if m = t then l else L.getD m [] := by
  rw [List.getD_eq_getElem?_getD, List.getElem?_set]
  by_cases e : t = m
  · subst e; simp [h]
  · rw [if_neg e, if_neg (fun q => e q.symm), List.getD_eq_getElem?_getD]
theorem turnE_mem {L : List (List Int)} {n t m : Nat} {x : Int} (h : t < L.length) : x ∈ (turnE L n t).getD m [] ↔ x ∈ L.getD m [] ∨ (m = t ∧ x = (n : Int)) := by
  unfold turnE
  split
  · rw [getDL_set h]
    split
    · rename_i e; subst e
      rw [List.mem_append, List.mem_singleton]
      constructor
      · rintro (q | q)
        · exact .inl q
        · exact .inr ⟨rfl, q⟩
      · rintro (q | ⟨_, q⟩)
        · exact .inl q
        · exact .inr q
    · rename_i e
      exact ⟨.inl, fun q => q.elim id fun w => absurd w.1 e⟩
  · rename_i q
    refine ⟨.inl, fun w => w.elim id ?_⟩
    rintro ⟨rfl, rfl⟩
    have q1 : (L.getD m []).length ≠ 0 := fun e => q (.inl e)
    have q2 : (L.getD m []).getD ((L.getD m []).length - 1) 0 = (n : Int) := by
      by_cases e : (L.getD m []).getD ((L.getD m []).length - 1) 0 = (n : Int)
      · exact e
      · exact absurd (.inr e) q
    have := mem_getD (l := L.getD m []) (k := (L.getD m []).length - 1) (by omega)
    rw [q2] at this
    exact this
/-- The first k edges of node n. -/
def turnR (g : List (List Int)) (n : Nat) : Nat → List (List Int) → List (List Int)
  | 0, L => L
  | k + 1, L => turnE (turnR g n k L) n ((g.getD n []).getD k 0).toNat
def turnG (g : List (List Int)) : Nat → List (List Int)
  | 0 => List.replicate g.length []
  | n + 1 => turnR g n (g.getD n []).length (turnG g n)
theorem turnR_len (g : List (List Int)) (n : Nat) : ∀ (k : Nat) (L : List (List Int)), (turnR g n k L).length = L.length
  | 0, _ => rfl
  | k + 1, L => by simp only [turnR]; rw [turnE_len, turnR_len g n k L]
theorem turnG_len (g : List (List Int)) : ∀ n, (turnG g n).length = g.length
  | 0 => by simp [turnG]
  | n + 1 => by simp only [turnG]; rw [turnR_len, turnG_len g n]
theorem turnR_mem {g : List (List Int)} {n m : Nat} {x : Int} (hg : ∀ v y, y ∈ g.getD v [] → y.toNat < g.length) {L : List (List Int)} (hL : L.length = g.length) : ∀ {k : Nat}, k ≤ (g.getD n []).length →
    (x ∈ (turnR g n k L).getD m [] ↔ x ∈ L.getD m [] ∨ (x = (n : Int) ∧ ∃ j, j < k ∧ ((g.getD n []).getD j 0).toNat = m))
  | 0, _ => ⟨.inl, fun h => h.elim id fun ⟨_, j, hj, _⟩ => by omega⟩
  | k + 1, hk => by
    simp only [turnR]
    have hm := mem_getD (l := g.getD n []) (k := k) (by omega)
    rw [turnE_mem (by rw [turnR_len, hL]; exact hg n _ hm), turnR_mem hg hL (by omega)]
    constructor
    · rintro ((h | ⟨h, j, hj, e⟩) | ⟨e, h⟩)
      · exact .inl h
      · exact .inr ⟨h, j, by omega, e⟩
      · exact .inr ⟨h, k, by omega, e.symm⟩
    · rintro (h | ⟨h, j, hj, e⟩)
      · exact .inl (.inl h)
      · by_cases q : j = k
        · subst q; exact .inr ⟨e.symm, h⟩
        · exact .inl (.inr ⟨h, j, by omega, e⟩)
theorem turnG_mem {g : List (List Int)} {m : Nat} {x : Int} (hg : ∀ v y, y ∈ g.getD v [] → y.toNat < g.length) : ∀ {n : Nat}, n ≤ g.length →
    (x ∈ (turnG g n).getD m [] ↔ ∃ k, k < n ∧ x = (k : Int) ∧ ∃ y, y ∈ g.getD k [] ∧ y.toNat = m)
  | 0, _ => by
    simp only [turnG]
    rw [List.getD_eq_getElem?_getD, List.getElem?_replicate]
    constructor
    · intro h; split at h <;> simp at h
    · rintro ⟨k, h, _⟩; omega
  | n + 1, hn => by
    simp only [turnG]
    rw [turnR_mem hg (turnG_len g n) (Nat.le_refl _), turnG_mem hg (by omega)]
    constructor
    · rintro (⟨k, h1, h2, h3⟩ | ⟨h, j, hj, e⟩)
      · exact ⟨k, by omega, h2, h3⟩
      · exact ⟨n, by omega, h, _, mem_getD hj, e⟩
    · rintro ⟨k, h1, h2, y, h3, h4⟩
      by_cases q : k = n
      · subst q
        obtain ⟨j, hj, e⟩ := getD_mem h3
        exact .inr ⟨h2, j, hj, by rw [e]; exact h4⟩
      · exact .inl ⟨k, by omega, h2, y, h3, h4⟩
theorem turnE_row {L : List (List Int)} {n t m : Nat} : (turnE L n t).getD m [] = L.getD m [] ∨ ((turnE L n t).getD m [] = L.getD m [] ++ [(n : Int)] ∧ ((L.getD m []).length = 0 ∨ (L.getD m []).getD ((L.getD m []).length - 1) 0 ≠ (n : Int))) := by
  unfold turnE
  split
  · rename_i q
    by_cases h : t < L.length
    · rw [getDL_set h]
      split
      · rename_i e; subst e; exact .inr ⟨rfl, q⟩
      · exact .inl rfl
    · rw [List.set_eq_of_length_le (by omega)]; exact .inl rfl
  · exact .inl rfl
theorem turnR_row {g : List (List Int)} {n m : Nat} {L : List (List Int)} : ∀ k, (turnR g n k L).getD m [] = L.getD m [] ∨ (turnR g n k L).getD m [] = L.getD m [] ++ [(n : Int)]
  | 0 => .inl rfl
  | k + 1 => by
    simp only [turnR]
    rcases turnE_row (L := turnR g n k L) (n := n) (t := ((g.getD n []).getD k 0).toNat) (m := m) with h | ⟨h, q⟩
    · rw [h]; exact turnR_row k
    · rcases turnR_row (g := g) (n := n) (m := m) (L := L) k with w | w
      · rw [h, w]; exact .inr rfl
      · rw [w] at q
        exfalso
        rcases q with q | q
        · simp at q
        · apply q
          rw [List.length_append, List.length_singleton, Nat.add_sub_cancel, List.getD_eq_getElem?_getD, List.getElem?_append_right (Nat.le_refl _), Nat.sub_self]
          rfl
theorem turnG_row (g : List (List Int)) : ∀ n m, ((turnG g n).getD m []).length ≤ n
  | 0, m => by
    simp only [turnG]
    rw [List.getD_eq_getElem?_getD, List.getElem?_replicate]
    split <;> simp
  | n + 1, m => by
    simp only [turnG]
    have := turnG_row g n m
    rcases turnR_row (g := g) (n := n) (m := m) (L := turnG g n) (g.getD n []).length with h | h
    · rw [h]; omega
    · rw [h, List.length_append, List.length_singleton]; omega
end Go.Proofs.Ytjagpdmiffmjhaa
