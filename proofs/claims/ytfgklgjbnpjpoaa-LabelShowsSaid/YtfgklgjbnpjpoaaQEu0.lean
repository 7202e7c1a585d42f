/-
  Through some states to others: plain law. No statement is proved here.
-/
import Derived.Test.YtfgklgjbnpjpoaaQRt
import Derived.Test.YtfgklgjbnpjpoaaQEl0
namespace Go.Proofs.Ytfgklgjbnpjpoaa
set_option linter.unusedVariables false
/-- Through nodes that are a to one that is c. -/
inductive Eu (g : List (List Int)) (a c : Nat → Bool) : Nat → Prop
  | base {i : Nat} (h : c i = true) : Eu g a c i
  | step {i : Nat} {x : Int} (h : a i = true) (k : x ∈ g.getD i []) (m : Eu g a c x.toNat) : Eu g a c i
open Classical in
noncomputable def euB (g : List (List Int)) (a c : Nat → Bool) (v : Nat) : Bool := decide (Eu g a c v)
theorem euB_iff {g : List (List Int)} {a c : Nat → Bool} {v : Nat} : euB g a c v = true ↔ Eu g a c v := by unfold euB; simp
theorem euB_eq {g : List (List Int)} {a c : Nat → Bool} {v : Nat} {b : Bool} (h : b = true ↔ Eu g a c v) : b = euB g a c v := by
  rw [Bool.eq_iff_iff, h, euB_iff]
/-- The search from behind, with a queue. -/
structure EuI (g : List (List Int)) (a c : Nat → Bool) (s : Nat → Bool) (Q : List Nat) : Prop where
  sound : ∀ v, s v = true → Eu g a c v
  start : ∀ v, c v = true → s v = true
  here : ∀ v, v ∈ Q → s v = true
  closed : ∀ v, s v = true → v ∈ Q ∨ ∀ k x, x ∈ g.getD k [] → x.toNat = v → a k = true → s k = true
structure EuJ (g : List (List Int)) (a c : Nat → Bool) (s : Nat → Bool) (Q : List Nat) (n : Nat) (D : List Nat) : Prop where
  sound : ∀ v, s v = true → Eu g a c v
  start : ∀ v, c v = true → s v = true
  here : ∀ v, v ∈ n :: Q → s v = true
  closed : ∀ v, s v = true → v = n ∨ v ∈ Q ∨ ∀ k x, x ∈ g.getD k [] → x.toNat = v → a k = true → s k = true
  done : ∀ k, k ∈ D → a k = true → s k = true
theorem EuI.pop {g : List (List Int)} {a c s : Nat → Bool} {n : Nat} {Q : List Nat} (h : EuI g a c s (n :: Q)) : EuJ g a c s Q n [] where
  sound := h.sound
  start := h.start
  here := h.here
  closed v hv := by
    rcases h.closed v hv with q | q
    · rcases List.mem_cons.1 q with e | e
      · exact .inl e
      · exact .inr (.inl e)
    · exact .inr (.inr q)
  done k hk := by cases hk
theorem EuJ.skip {g : List (List Int)} {a c s : Nat → Bool} {n k : Nat} {Q D : List Nat} (h : EuJ g a c s Q n D) (hk : a k = true → s k = true) : EuJ g a c s Q n (D ++ [k]) where
  sound := h.sound
  start := h.start
  here := h.here
  closed := h.closed
  done j hj ha := by
    rcases List.mem_append.1 hj with q | q
    · exact h.done j q ha
    · rw [List.mem_singleton] at q; subst q; exact hk ha
theorem EuJ.push {g : List (List Int)} {a c s : Nat → Bool} {n k : Nat} {Q D : List Nat} (h : EuJ g a c s Q n D) {x : Int} (hx : x ∈ g.getD k []) (hn : x.toNat = n) (ha : a k = true) : EuJ g a c (mark s k) (Q ++ [k]) n (D ++ [k]) where
  sound v hv := by
    rcases mark_iff.1 hv with e | e
    · subst e; exact .step ha hx (by rw [hn]; exact h.sound n (h.here n (by simp)))
    · exact h.sound v e
  start v hv := mark_of (h.start v hv)
  here v hv := by
    rcases List.mem_cons.1 hv with e | e
    · exact mark_of (h.here v (by simp [e]))
    · rcases List.mem_append.1 e with e | e
      · exact mark_of (h.here v (by simp [e]))
      · rw [List.mem_singleton] at e; subst e; exact mark_self _ _
  closed v hv := by
    rcases mark_iff.1 hv with e | e
    · exact .inr (.inl (by simp [e]))
    · rcases h.closed v e with q | q | q
      · exact .inl q
      · exact .inr (.inl (by simp [q]))
      · exact .inr (.inr fun j y h1 h2 h3 => mark_of (q j y h1 h2 h3))
  done j hj h3 := by
    rcases List.mem_append.1 hj with q | q
    · exact mark_of (h.done j q h3)
    · rw [List.mem_singleton] at q; subst q; exact mark_self _ _
theorem EuJ.fin {g : List (List Int)} {a c s : Nat → Bool} {n : Nat} {Q D : List Nat} (h : EuJ g a c s Q n D) (hD : ∀ k x, x ∈ g.getD k [] → x.toNat = n → k ∈ D) : EuI g a c s Q where
  sound := h.sound
  start := h.start
  here v hv := h.here v (by simp [hv])
  closed v hv := by
    rcases h.closed v hv with q | q | q
    · subst q; exact .inr fun k x h1 h2 h3 => h.done k (hD k x h1 h2) h3
    · exact .inl q
    · exact .inr q
theorem EuI.end_ {g : List (List Int)} {a c s : Nat → Bool} (h : EuI g a c s []) (v : Nat) : s v = euB g a c v := euB_eq ⟨h.sound v, fun q => by
  induction q with
  | base h' => exact h.start _ h'
  | step h1 k _ ih => exact (h.closed _ ih).elim (fun q => by cases q) fun q => q _ _ k rfl h1⟩
/-- Rounds: nothing more is marked. -/
theorem eu_rounds {g : List (List Int)} {a c s : Nat → Bool} (h1 : ∀ v, s v = true → Eu g a c v) (h2 : ∀ v, c v = true → s v = true) (h3 : ∀ v x, x ∈ g.getD v [] → a v = true → s x.toNat = true → s v = true) (v : Nat) : s v = euB g a c v := euB_eq ⟨h1 v, fun q => by
  induction q with
  | base h => exact h2 _ h
  | step h k _ ih => exact h3 _ _ k h ih⟩
end Go.Proofs.Ytfgklgjbnpjpoaa
