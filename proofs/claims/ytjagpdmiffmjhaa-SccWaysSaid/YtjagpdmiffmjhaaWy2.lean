/-
  Ways in a graph to marked nodes: search in rounds. Plain Lean. No statement is proved here.
-/
import Derived.Test.YtjagpdmiffmjhaaWy1
namespace Go.Proofs.Ytjagpdmiffmjhaa
/-- What is known when distances up to r are found, and r + 1 of the first k nodes. -/
structure RndJ (g : List (List Int)) (to : Nat → Bool) (o : Nat → Int) (r k : Nat) : Prop where
  old : ∀ n d : Nat, d ≤ r → (o n = (d : Int) + 1 ↔ Far g to n d)
  new : ∀ n, n < k → (o n = (r : Int) + 2 ↔ Far g to n (r + 1))
  rest : ∀ n, k ≤ n → o n ≠ (r : Int) + 2
  rng : ∀ n, o n ≠ 0 → ∃ d : Nat, d ≤ r + 1 ∧ o n = (d : Int) + 1
theorem RndJ.keep {g : List (List Int)} {to : Nat → Bool} {o : Nat → Int} {r k : Nat} (h : RndJ g to o r k) (hk : o k ≠ 0 ∨ ∀ x, x ∈ g.getD k [] → o x.toNat ≠ (r : Int) + 1) : RndJ g to o r (k + 1) where
  old := h.old
  new n hn := by
    by_cases e : n = k
    · subst e
      refine ⟨fun q => absurd q (h.rest n (Nat.le_refl _)), fun q => ?_⟩
      rcases hk with hk | hk
      · obtain ⟨d, h1, h2⟩ := h.rng n hk
        have h3 := h.rest n (Nat.le_refl _)
        have h4 := (h.old n d (by omega)).1 h2
        have := far_one h4 q
        omega
      · obtain ⟨x, h1, h2⟩ := far_step q
        exact absurd ((h.old x.toNat r (Nat.le_refl _)).2 h2) (hk x h1)
    · exact h.new n (by omega)
  rest n hn := h.rest n (by omega)
  rng := h.rng
theorem RndJ.hit {g : List (List Int)} {to : Nat → Bool} {o : Nat → Int} {r k : Nat} {x : Int} (h : RndJ g to o r k) (hk : o k = 0) (hx : x ∈ g.getD k []) (ho : o x.toNat = (r : Int) + 1) : RndJ g to (setO o k ((r : Int) + 2)) r (k + 1) where
  old n d hd := by
    by_cases e : n = k
    · subst e
      rw [setO_self]
      refine ⟨fun q => by omega, fun q => ?_⟩
      have := (h.old n d hd).2 q
      omega
    · rw [setO_ne e]; exact h.old n d hd
  new n hn := by
    by_cases e : n = k
    · subst e
      rw [setO_self]
      refine ⟨fun _ => far_iff.2 ⟨⟨x, hx, (h.old x.toNat r (Nat.le_refl _)).1 ho⟩, fun e he w => ?_⟩, fun _ => rfl⟩
      have := (h.old n e he).2 w
      omega
    · rw [setO_ne e]; exact h.new n (by omega)
  rest n hn := by
    rw [setO_ne (by omega)]
    exact h.rest n (by omega)
  rng n hn := by
    by_cases e : n = k
    · subst e
      rw [setO_self]
      exact ⟨r + 1, Nat.le_refl _, by omega⟩
    · rw [setO_ne e] at hn ⊢; exact h.rng n hn
theorem RndJ.begin {g : List (List Int)} {to : Nat → Bool} {o : Nat → Int} (h : ∀ n, o n = if to n = true then 1 else 0) : RndJ g to o 0 0 where
  old n d hd := by
    rw [show d = 0 by omega, far_zero, h]
    split <;> simp_all
  new n hn := by omega
  rest n _ := by rw [h]; split <;> simp
  rng n hn := by
    rw [h] at hn ⊢
    split
    · exact ⟨0, by omega, by simp⟩
    · rename_i q; rw [if_neg q] at hn; exact absurd rfl hn
/-- A round is done; nodes from n on are none. -/
theorem RndJ.next {g : List (List Int)} {to : Nat → Bool} {o : Nat → Int} {r n : Nat} (h : RndJ g to o r n) (hno : ∀ m, n ≤ m → ∀ d, ¬ Far g to m d) : RndJ g to o (r + 1) 0 where
  old m d hd := by
    by_cases e : d = r + 1
    · subst e
      by_cases q : m < n
      · have := h.new m q
        rw [show ((r + 1 : Nat) : Int) + 1 = (r : Int) + 2 by omega]
        exact this
      · refine ⟨fun w => ?_, fun w => absurd w (hno m (by omega) _)⟩
        exact absurd (by omega) (h.rest m (by omega))
    · exact h.old m d (by omega)
  new m hm := by omega
  rest m _ := by
    intro w
    obtain ⟨d, h1, h2⟩ := h.rng m (by omega)
    omega
  rng m hm := by
    obtain ⟨d, h1, h2⟩ := h.rng m hm
    exact ⟨d, by omega, h2⟩
end Go.Proofs.Ytjagpdmiffmjhaa
