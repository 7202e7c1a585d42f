/-
  Ways in a graph to marked nodes: how far they are. Plain Lean. No statement is proved here.
-/
import Derived.Test.YtjagpdmiffmjhaaGr
namespace Go.Proofs.Ytjagpdmiffmjhaa
/-- From a node one comes in so many steps to a marked one. -/
def Wlk (g : List (List Int)) (to : Nat → Bool) : Nat → Nat → Prop
  | 0, v => to v = true
  | d + 1, v => ∃ x, x ∈ g.getD v [] ∧ Wlk g to d x.toNat
/-- So far is the next marked node. -/
def Far (g : List (List Int)) (to : Nat → Bool) (v d : Nat) : Prop := Wlk g to d v ∧ ∀ e, e < d → ¬ Wlk g to e v
theorem far_one {g : List (List Int)} {to : Nat → Bool} {v d e : Nat} (h : Far g to v d) (k : Far g to v e) : d = e := by
  rcases Nat.lt_trichotomy d e with q | q | q
  · exact absurd h.1 (k.2 d q)
  · exact q
  · exact absurd k.1 (h.2 e q)
theorem far_of {g : List (List Int)} {to : Nat → Bool} {v : Nat} : ∀ {d : Nat}, Wlk g to d v → ∃ e, e ≤ d ∧ Far g to v e
  | d, h => by
    induction d using Nat.strongRecOn with
    | ind d ih =>
      by_cases q : ∃ e, e < d ∧ Wlk g to e v
      · obtain ⟨e, h1, h2⟩ := q
        obtain ⟨f, h3, h4⟩ := ih e h1 h2
        exact ⟨f, by omega, h4⟩
      · exact ⟨d, Nat.le_refl _, h, fun e he w => q ⟨e, he, w⟩⟩
theorem far_zero {g : List (List Int)} {to : Nat → Bool} {v : Nat} : Far g to v 0 ↔ to v = true := ⟨fun h => h.1, fun h => ⟨h, fun e he => by omega⟩⟩
/-- The next node of a shortest way. -/
theorem far_step {g : List (List Int)} {to : Nat → Bool} {v d : Nat} (h : Far g to v (d + 1)) : ∃ x, x ∈ g.getD v [] ∧ Far g to x.toNat d := by
  obtain ⟨x, h1, h2⟩ := h.1
  obtain ⟨e, h3, h4⟩ := far_of h2
  by_cases q : e = d
  · subst q; exact ⟨x, h1, h4⟩
  · exact absurd ⟨x, h1, h4.1⟩ (h.2 (e + 1) (by omega))
theorem far_next {g : List (List Int)} {to : Nat → Bool} {v d : Nat} {x : Int} (hx : x ∈ g.getD v []) (h : Far g to x.toNat d) : ∃ e, e ≤ d + 1 ∧ Far g to v e := far_of (d := d + 1) ⟨x, hx, h.1⟩
theorem far_iff {g : List (List Int)} {to : Nat → Bool} {v d : Nat} : Far g to v (d + 1) ↔ (∃ x, x ∈ g.getD v [] ∧ Far g to x.toNat d) ∧ ∀ e, e ≤ d → ¬ Far g to v e := by
  constructor
  · intro h
    exact ⟨far_step h, fun e he k => by have := far_one h k; omega⟩
  · rintro ⟨⟨x, h1, h2⟩, h3⟩
    obtain ⟨e, h4, h5⟩ := far_next h1 h2
    by_cases q : e = d + 1
    · subst q; exact h5
    · exact absurd h5 (h3 e (by omega))
/-- Nodes lie at each smaller distance too. -/
theorem far_all {g : List (List Int)} {to : Nat → Bool} {n : Nat} (hin : ∀ v x, x ∈ g.getD v [] → x.toNat < n) : ∀ {d v : Nat}, v < n → Far g to v d → ∀ e, e ≤ d → ∃ u, u < n ∧ Far g to u e
  | 0, v, hv, h, e, he => ⟨v, hv, by rw [show e = 0 by omega]; exact h⟩
  | d + 1, v, hv, h, e, he => by
    by_cases q : e = d + 1
    · subst q; exact ⟨v, hv, h⟩
    · obtain ⟨x, h1, h2⟩ := far_step h
      exact far_all hin (hin v x h1) h2 e (by omega)
/-- A distance is less than the number of nodes. -/
theorem far_lt {g : List (List Int)} {to : Nat → Bool} {n d v : Nat} (hin : ∀ v x, x ∈ g.getD v [] → x.toNat < n) (hv : v < n) (h : Far g to v d) : d < n := by
  have key : ∀ k, k ≤ d + 1 → ∃ s : Nat → Bool, unseen s n + k ≤ n ∧ ∀ u, s u = true → ∃ e, e < k ∧ Far g to u e := by
    intro k
    induction k with
    | zero => intro _; exact ⟨fun _ => false, by have := unseen_le (fun _ => false) n; omega, fun u hu => by cases hu⟩
    | succ k ih =>
      intro hk
      obtain ⟨s, h1, h2⟩ := ih (by omega)
      obtain ⟨u, h3, h4⟩ := far_all hin hv h k (by omega)
      have hs : s u = false := by
        cases q : s u with
        | false => rfl
        | true =>
          obtain ⟨e, h5, h6⟩ := h2 u q
          have := far_one h4 h6
          omega
      have := unseen_lt (s := s) (s' := mark s u) h3 (fun j _ hj => mark_of hj) hs (mark_self _ _)
      refine ⟨mark s u, by omega, fun w hw => ?_⟩
      rcases mark_iff.1 hw with rfl | hw
      · exact ⟨k, by omega, h4⟩
      · obtain ⟨e, h5, h6⟩ := h2 w hw
        exact ⟨e, by omega, h6⟩
  obtain ⟨s, h1, _⟩ := key (d + 1) (Nat.le_refl _)
  omega
end Go.Proofs.Ytjagpdmiffmjhaa
