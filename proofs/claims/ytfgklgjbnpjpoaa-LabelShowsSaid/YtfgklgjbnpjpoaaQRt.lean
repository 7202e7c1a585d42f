/-
  What comes in a graph that is turned round. Plain Lean. No statement is proved here.
-/
import Derived.Test.YtfgklgjbnpjpoaaQWyA
namespace Go.Proofs.Ytfgklgjbnpjpoaa
theorem Rch.one (g : List (List Int)) (v : Nat) : Rch g [(v : Int)] v := by
  have := Rch.base (g := g) (from_ := [(v : Int)]) (x := (v : Int)) (by simp)
  rwa [Int.toNat_natCast] at this
theorem Rch.trans {g : List (List Int)} {a : List Int} {u v : Nat} (h : Rch g a u) (k : Rch g [(u : Int)] v) : Rch g a v := by
  induction k with
  | base hx =>
    rw [List.mem_singleton] at hx
    subst hx
    simpa using h
  | step _ hx ih => exact .step ih hx
theorem rch_turn {g : List (List Int)} (hin : ∀ v y, y ∈ g.getD v [] → 0 ≤ y ∧ y.toNat < g.length) {u v : Nat} (hu : u < g.length) : Rch g [(u : Int)] v → Rch (turnG g g.length) [(v : Int)] u := by
  intro h
  have key : ∀ w, Rch g [(u : Int)] w → w < g.length ∧ Rch (turnG g g.length) [(w : Int)] u := by
    intro w hw
    induction hw with
    | base hx =>
      rw [List.mem_singleton] at hx
      subst hx
      exact ⟨by simpa using hu, by rw [Int.toNat_natCast]; exact Rch.one _ u⟩
    | @step a x ha hx ih =>
      have hxr := hin a x hx
      refine ⟨hxr.2, ?_⟩
      have e : (a : Int) ∈ (turnG g g.length).getD x.toNat [] := (turnG_mem (fun v y hy => (hin v y hy).2) (Nat.le_refl _)).2 ⟨a, ih.1, rfl, x, hx, rfl⟩
      have s : Rch (turnG g g.length) [((x.toNat : Nat) : Int)] a := by
        have := Rch.step (g := turnG g g.length) (from_ := [((x.toNat : Nat) : Int)]) (u := x.toNat) (Rch.one _ x.toNat) e
        rwa [Int.toNat_natCast] at this
      exact s.trans ih.2
  exact (key v h).2
theorem rch_back {g : List (List Int)} (hin : ∀ v y, y ∈ g.getD v [] → 0 ≤ y ∧ y.toNat < g.length) {u v : Nat} : Rch (turnG g g.length) [(v : Int)] u → Rch g [(u : Int)] v := by
  intro h
  have key : ∀ w, Rch (turnG g g.length) [(v : Int)] w → Rch g [(w : Int)] v := by
    intro w hw
    induction hw with
    | base hx =>
      rw [List.mem_singleton] at hx
      subst hx
      rw [Int.toNat_natCast]; exact Rch.one g v
    | @step a x ha hx ih =>
      obtain ⟨k, hk, rfl, y, hy, hya⟩ := (turnG_mem (fun v y hy => (hin v y hy).2) (Nat.le_refl _)).1 hx
      rw [Int.toNat_natCast]
      have s : Rch g [(k : Int)] y.toNat := Rch.step (u := k) (Rch.one g k) hy
      rw [hya] at s
      exact s.trans ih
  exact key u h
theorem rch_of {g : List (List Int)} {l : List Int} {v : Nat} (hl : ∀ x ∈ l, 0 ≤ x) : Rch g l v ↔ ∃ x ∈ l, Rch g [x] v := by
  constructor
  · intro h
    induction h with
    | @base x hx => exact ⟨x, hx, .base (by simp)⟩
    | step _ hx ih => obtain ⟨x, h1, h2⟩ := ih; exact ⟨x, h1, .step h2 hx⟩
  · rintro ⟨x, hx, h⟩
    have e : x = ((x.toNat : Nat) : Int) := by have := hl x hx; omega
    rw [e] at h
    exact Rch.trans (.base hx) h
end Go.Proofs.Ytfgklgjbnpjpoaa
