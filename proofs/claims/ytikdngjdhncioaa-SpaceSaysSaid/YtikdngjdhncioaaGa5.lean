/-
  Tokens: what firing a step does. Plain Lean, and lists that are written place by place. No statement is proved here.
-/
import Derived.Test.YtikdngjdhncioaaGa4
import Derived.Test.YtikdngjdhncioaaBit
import Derived.Test.YtikdngjdhncioaaLa
import Derived.Test.YtikdngjdhncioaaGl
namespace Go.Proofs.Ytikdngjdhncioaa
open Go.RowKit
set_option linter.unusedSimpArgs false
set_option linter.unusedVariables false
theorem gl_val (M : List Int) : gl M.length (val M) = M := by
  apply List.ext_getElem
  · simp
  · intro i h1 h2
    simp [gl, val, List.getD_eq_getElem?_getD, List.getElem?_eq_getElem h2]
theorem val_gl {n k : Nat} {g : Nat → Int} (h : k < n) : val (gl n g) k = g k := gl_getD h
/-! ### Firing -/
theorem and_one_i {y : Int} (h : 0 ≤ y) (h' : y < 9223372036854775808) : bitsV .and .i64 y 1 = y.tmod 2 := by
  obtain ⟨n, rfl⟩ : ∃ n : Nat, y = n := ⟨y.toNat, by omega⟩
  have e : (BitVec.ofInt 64 (n : Int) &&& BitVec.ofInt 64 1).toNat = n % 2 := by
    rw [BitVec.toNat_and]
    have e1 : (BitVec.ofInt 64 (n : Int)).toNat = n := by rw [BitVec.toNat_ofInt]; omega
    have e2 : (BitVec.ofInt 64 1).toNat = 1 := by decide
    rw [e1, e2, Nat.and_one_is_mod]
  show IntKind.i64.wrap ((BitVec.ofInt 64 (n : Int) &&& BitVec.ofInt 64 1).toNat : Int) = _
  rw [e, show ((n : Int).tmod 2) = ((n % 2 : Nat) : Int) from (Int.ofNat_tmod n 2).symm, IntKind.wrap_i64]
  omega
namespace ProcD
def decB (P : ProcD) (M : List Int) (s : StepD) (f : Nat) : Bool := decide (P.dst f = s.1) && (s.2.1 == (f : Int) || decide (s.2.1 < 0) && decide (0 < val M f))
def baseI (P : ProcD) (M : List Int) (s : StepD) (f : Nat) : Int := val M f - if P.decB M s f = true then 1 else 0
def incs (P : ProcD) (s : StepD) (f : Nat) : Nat → Int
  | 0 => 0
  | k + 1 => P.incs s f k + if P.outAt s.1 k = (f : Int) ∧ bitB s.2.2 k = true then 1 else 0
def finI (P : ProcD) (M : List Int) (s : StepD) (f : Nat) : Int := P.baseI M s f + P.incs s f (P.outL s.1).length
theorem incs_ok (P : ProcD) (s : StepD) (f : Nat) : ∀ k, 0 ≤ P.incs s f k ∧ P.incs s f k ≤ k
  | 0 => by simp [incs]
  | k + 1 => by
    have := incs_ok P s f k
    simp only [incs]
    split <;> omega
theorem incs_mono (P : ProcD) (s : StepD) (f : Nat) {j : Nat} : ∀ {k : Nat}, j ≤ k → P.incs s f j ≤ P.incs s f k
  | 0, h => by rw [show j = 0 by omega]; exact Int.le_refl _
  | k + 1, h => by
    by_cases e : j = k + 1
    · rw [e]; exact Int.le_refl _
    · have := incs_mono P s f (j := j) (k := k) (by omega)
      have h2 : P.incs s f k ≤ P.incs s f (k + 1) := by
        simp only [incs]
        split <;> omega
      omega
theorem baseI_ok {P : ProcD} {M : List Int} (hM : P.Mark M) (s : StepD) (f : Nat) : -1 ≤ P.baseI M s f ∧ P.baseI M s f ≤ 9 := by
  have h1 := hM.pos f
  have h2 := hM.top f
  unfold baseI
  split <;> omega
open Classical in
noncomputable def fireE (P : ProcD) (M : List Int) (s : StepD) : Int := if P.kind s.1.toNat = 3 then 0 else if ∃ f, f < P.flows.length ∧ 9 < P.finI M s f then 7 else 0
noncomputable def fireL (P : ProcD) (M : List Int) (s : StepD) : List Int :=
  if P.kind s.1.toNat = 3 then gl P.flows.length fun _ => 0 else if P.fireE M s = 0 then gl P.flows.length (P.finI M s) else []
theorem getD_app {l r : List Int} {a : Nat} (h : a < l.length) : (l ++ r).getD a 0 = l.getD a 0 := by
  rw [List.getD_eq_getElem?_getD, List.getD_eq_getElem?_getD, List.getElem?_append_left h]
theorem getD_app_last {l : List Int} {x : Int} : (l ++ [x]).getD l.length 0 = x := by
  rw [List.getD_eq_getElem?_getD, List.getElem?_append_right (Nat.le_refl _), Nat.sub_self]
  rfl
theorem pick_sorted {p : Nat → Bool} : ∀ {n a b : Nat}, a < b → b < (pick p n).length → (pick p n).getD a 0 < (pick p n).getD b 0
  | 0, _, _, _, h => by simp [pick] at h
  | n + 1, a, b, hab, h => by
    simp only [pick] at h ⊢
    split
    · rename_i hp
      rw [if_pos hp, List.length_append, List.length_singleton] at h
      by_cases e : b = (pick p n).length
      · subst e
        obtain ⟨i, g1, g2, g3⟩ := pick_mem.1 (getD_mem' (l := pick p n) (a := a) hab)
        rw [getD_app hab, g3, getD_app_last]
        omega
      · rw [getD_app (by omega), getD_app (by omega)]
        exact pick_sorted hab (by omega)
    · rename_i hp
      rw [if_neg hp] at h
      exact pick_sorted hab h
theorem inAt_lt {P : ProcD} {n : Int} {a b : Nat} (h : a < b) (hb : b < (P.inL n).length) : P.inAt n a < P.inAt n b := pick_sorted h hb
theorem inAt_mem {P : ProcD} {n : Int} {f : Nat} (hf : f < P.flows.length) (h : P.dst f = n) : ∃ a, a < (P.inL n).length ∧ P.inAt n a = f := getD_mem (pick_mem.2 ⟨f, hf, by simpa using h, rfl⟩)
/-- What is known while tokens go away. -/
structure Away (P : ProcD) (M : List Int) (s : StepD) (g : Nat → Int) (a : Nat) : Prop where
  gone : ∀ f j : Nat, j < a → P.inAt s.1 j = (f : Int) → g f = P.baseI M s f
  left : ∀ f : Nat, (∀ j, j < a → P.inAt s.1 j ≠ (f : Int)) → g f = val M f
theorem Away.begin {P : ProcD} {M : List Int} {s : StepD} : P.Away M s (val M) 0 := ⟨fun f j h => by omega, fun f _ => rfl⟩
theorem Away.old {P : ProcD} {M : List Int} {s : StepD} {g : Nat → Int} {a x : Nat} (h : P.Away M s g a) (ha : a < (P.inL s.1).length) (hx : P.inAt s.1 a = (x : Int)) : g x = val M x :=
  h.left x fun j hj e => by
    have := inAt_lt hj ha
    omega
theorem Away.next {P : ProcD} {M : List Int} {s : StepD} {g g' : Nat → Int} {a x : Nat} (h : P.Away M s g a) (ha : a < (P.inL s.1).length) (hx : P.inAt s.1 a = (x : Int)) (h1 : g' x = P.baseI M s x) (h2 : ∀ f, f ≠ x → g' f = g f) : P.Away M s g' (a + 1) where
  gone f j hj e := by
    by_cases q : f = x
    · subst q; exact h1
    · rw [h2 f q]
      refine h.gone f j ?_ e
      by_cases q2 : j = a
      · subst q2; rw [hx] at e; omega
      · omega
  left f hf := by
    rw [h2 f fun e => by subst e; exact hf a (by omega) hx]
    exact h.left f fun j hj => hf j (by omega)
theorem Away.fin {P : ProcD} {M : List Int} {s : StepD} {g : Nat → Int} (h : P.Away M s g (P.inL s.1).length) {f : Nat} (hf : f < P.flows.length) : g f = P.baseI M s f := by
  by_cases e : P.dst f = s.1
  · obtain ⟨a, h1, h2⟩ := inAt_mem hf e
    exact h.gone f a h1 h2
  · rw [h.left f fun j hj q => e (by have := (inAt_ok (P := P) (n := s.1) hj).2.2; rw [q, Int.toNat_natCast] at this; exact this)]
    unfold baseI decB
    rw [decide_eq_false e]
    simp
theorem incs_hit {P : ProcD} {s : StepD} {k x : Nat} (h : P.outAt s.1 k = (x : Int)) (hb : bitB s.2.2 k = true) : P.incs s x (k + 1) = P.incs s x k + 1 := by
  simp only [incs]
  rw [if_pos ⟨h, hb⟩]
theorem incs_miss {P : ProcD} {s : StepD} {k f : Nat} (h : P.outAt s.1 k ≠ (f : Int) ∨ bitB s.2.2 k = false) : P.incs s f (k + 1) = P.incs s f k := by
  simp only [incs]
  rw [if_neg (by rintro ⟨h1, h2⟩; rcases h with h | h; exact h h1; rw [h] at h2; cases h2), Int.add_zero]
end ProcD
end Go.Proofs.Ytikdngjdhncioaa
