/-
  Endless ways of a graph that meet sets again and again. Plain Lean. No statement is proved here.
-/
import Derived.Test.YtfaekhadjlgbbaaQTj2
namespace Go.Proofs.Ytfaekhadjlgbbaa
set_option linter.unusedVariables false
/-- One may go round through a node. -/
def Nontriv (g : List (List Int)) (c : Nat) : Prop := ∃ x, x ∈ g.getD c [] ∧ To g x.toNat c
/-- An endless way begins at a node that meets each set again and again. -/
def Fw (g : List (List Int)) (sets : List (Nat → Bool)) (v : Nat) : Prop := ∃ c, To g v c ∧ Nontriv g c ∧ ∀ S, S ∈ sets → ∃ d, S d = true ∧ To g c d ∧ To g d c
open Classical in
noncomputable def fwB (g : List (List Int)) (sets : List (Nat → Bool)) (v : Nat) : Bool := decide (Fw g sets v)
theorem fwB_iff {g : List (List Int)} {sets : List (Nat → Bool)} {v : Nat} : fwB g sets v = true ↔ Fw g sets v := by unfold fwB; simp
theorem fwB_eq {g : List (List Int)} {sets : List (Nat → Bool)} {v : Nat} {b : Bool} (h : b = true ↔ Fw g sets v) : b = fwB g sets v := by
  rw [Bool.eq_iff_iff, h, fwB_iff]
theorem Fw.back {g : List (List Int)} {sets : List (Nat → Bool)} {u v : Nat} (h : Fw g sets v) (k : To g u v) : Fw g sets u := by
  obtain ⟨c, h1, h2, h3⟩ := h
  exact ⟨c, to_trans k h1, h2, h3⟩
theorem nontriv_mut {g : List (List Int)} {c d : Nat} (h : Nontriv g c) (h1 : To g c d) (h2 : To g d c) : Nontriv g d := by
  obtain ⟨x, hx, k⟩ := h
  -- the first going of a way from d to c, or d is c
  have key : ∀ {a b : Nat}, To g a b → a = b ∨ ∃ y, y ∈ g.getD a [] ∧ To g y.toNat b := by
    intro a b q
    unfold To at q
    induction q with
    | base m => simp only [List.mem_singleton] at m; subst m; left; simp
    | step q m ih =>
      rcases ih with e | ⟨y, y1, y2⟩
      · subst e; exact .inr ⟨_, m, to_refl g _⟩
      · exact .inr ⟨y, y1, .step y2 m⟩
  rcases key h2 with e | ⟨y, y1, y2⟩
  · subst e; exact ⟨x, hx, k⟩
  · exact ⟨y, y1, to_trans y2 h1⟩
/-- Within z a set is met by one going at least. -/
inductive Hit (g : List (List Int)) (z S : Nat → Bool) : Nat → Prop
  | one {i : Nat} {x : Int} (h : z i = true) (k : x ∈ g.getD i []) (hz : z x.toNat = true) (hs : S x.toNat = true) : Hit g z S i
  | more {i : Nat} {x : Int} (h : z i = true) (k : x ∈ g.getD i []) (hz : z x.toNat = true) (hs : Hit g z S x.toNat) : Hit g z S i
theorem Hit.here {g : List (List Int)} {z S : Nat → Bool} {i : Nat} (h : Hit g z S i) : z i = true := by cases h <;> assumption
open Classical in
theorem hit_walk {g : List (List Int)} {z S : Nat → Bool} {u v : Nat} (h : To g u v) (hz : ∀ w, To g w v → z w = true) (k : Hit g z S v) : Hit g z S u := by
  unfold To at h
  generalize hw : v = w at h
  induction h generalizing v with
  | base m => simp only [List.mem_singleton] at m; subst m; subst hw; simpa using k
  | step q m ih => subst hw; exact ih (fun w hw => hz w (.step hw m)) (.more (hz _ (to_edge m)) m k.here k) rfl
theorem hit_cycle {g : List (List Int)} {z S : Nat → Bool} {c d : Nat} (h : Nontriv g c) (hs : S d = true) (h1 : To g c d) (h2 : To g d c) (hz : ∀ w, To g w c → z w = true) : Hit g z S c := by
  have hz' : ∀ w, To g w d → z w = true := fun w hw => hz w (to_trans hw h2)
  -- the last going into d on a way round
  have key : ∀ {a b : Nat}, To g a b → a = b ∨ ∃ w y, To g a w ∧ y ∈ g.getD w [] ∧ y.toNat = b := by
    intro a b q
    unfold To at q
    cases q with
    | base m => simp only [List.mem_singleton] at m; subst m; left; simp
    | step q m => exact .inr ⟨_, _, q, m, rfl⟩
  obtain ⟨y, y1, y2⟩ := nontriv_mut h h1 h2
  have fin : ∀ w x, To g c w → x ∈ g.getD w [] → x.toNat = d → Hit g z S c := fun w x q m e =>
    hit_walk q (fun u hu => hz' u (e ▸ Rch.step hu m)) (.one (hz' w (e ▸ to_edge m)) m (by rw [e]; exact hz' d (to_refl g d)) (by rw [e]; exact hs))
  rcases key (to_trans (to_edge y1) y2) with e | ⟨w, x, w1, w2, w3⟩
  · rcases key y2 with e2 | ⟨w, x, w1, w2, w3⟩
    · exact fin d y h1 y1 e2
    · exact fin w x (to_trans h1 (to_trans (to_edge y1) w1)) w2 w3
  · exact fin w x (to_trans h1 w1) w2 w3
/-- What has a way stays. -/
theorem fw_hit {g : List (List Int)} {sets : List (Nat → Bool)} {z : Nat → Bool} (hz : ∀ v, Fw g sets v → z v = true) {S : Nat → Bool} (hS : S ∈ sets) {v : Nat} (h : Fw g sets v) : Hit g z S v := by
  obtain ⟨c, h1, h2, h3⟩ := h
  obtain ⟨d, d1, d2, d3⟩ := h3 S hS
  have hc : Fw g sets c := ⟨c, to_refl g c, h2, h3⟩
  exact hit_walk h1 (fun w hw => hz w (hc.back hw)) (hit_cycle h2 d1 d2 d3 fun w hw => hz w (hc.back hw))
/-! ### A part of a graph -/
def resG (g : List (List Int)) (z : Nat → Bool) : List (List Int) := (List.range g.length).map fun v => if z v = true then (g.getD v []).filter fun x => z x.toNat else []
@[simp] theorem resG_len (g : List (List Int)) (z : Nat → Bool) : (resG g z).length = g.length := by simp [resG]
theorem mem_resG {g : List (List Int)} {z : Nat → Bool} {v : Nat} {x : Int} : x ∈ (resG g z).getD v [] ↔ x ∈ g.getD v [] ∧ z v = true ∧ z x.toNat = true := by
  by_cases h : v < g.length
  · rw [List.getD_eq_getElem?_getD, List.getElem?_eq_getElem (by simpa using h)]
    simp only [resG, List.getElem_map, List.getElem_range, Option.getD_some]
    split
    · rename_i q; simp [List.mem_filter, q]
    · rename_i q; simp [q]
  · have e1 : (resG g z).getD v [] = [] := by rw [List.getD_eq_getElem?_getD, List.getElem?_eq_none (by simpa using h)]; rfl
    have e2 : g.getD v [] = [] := by rw [List.getD_eq_getElem?_getD, List.getElem?_eq_none (by omega)]; rfl
    rw [e1, e2]; simp
theorem to_res {g : List (List Int)} {z : Nat → Bool} {u v : Nat} (h : To (resG g z) u v) : To g u v := by
  unfold To at h
  induction h with
  | base m => simp only [List.mem_singleton] at m; subst m; simpa using to_refl g u
  | step q m ih => exact .step ih (mem_resG.1 m).1
theorem to_lt {g : List (List Int)} (hin : ∀ v x, x ∈ g.getD v [] → x.toNat < g.length) {u v : Nat} (hu : u < g.length) (h : To g u v) : v < g.length := to_closed (s := fun v => v < g.length) (fun v _ x hx => hin v x hx) h hu
/-- From each node one comes to some that comes back from all to which it comes. -/
theorem sink {g : List (List Int)} (hin : ∀ v x, x ∈ g.getD v [] → x.toNat < g.length) : ∀ (m v : Nat), v < g.length → g.length - unseen (rchB g [(v : Int)]) g.length ≤ m → ∃ c, To g v c ∧ ∀ d, To g c d → To g d c
  | 0, v, hv, h => by
    have h1 := unseen_lt (s := fun _ => false) (s' := rchB g [(v : Int)]) (n := g.length) hv (fun _ _ q => by cases q) rfl (rchB_iff.2 (to_refl g v))
    have h2 := unseen_le (fun _ => false) g.length
    omega
  | m + 1, v, hv, h => by
    by_cases q : ∀ d, To g v d → To g d v
    · exact ⟨v, to_refl g v, q⟩
    · obtain ⟨d, hd⟩ := Classical.not_forall.1 q
      obtain ⟨d1, d2⟩ := Classical.not_imp.1 hd
      have hlt := unseen_lt (s := rchB g [(d : Int)]) (s' := rchB g [(v : Int)]) (n := g.length) hv (fun j _ q => rchB_iff.2 (to_trans d1 (rchB_iff.1 q))) (by
        rw [Bool.eq_false_iff]; exact fun q => d2 (rchB_iff.1 q)) (rchB_iff.2 (to_refl g v))
      have := unseen_le (rchB g [(d : Int)]) g.length
      obtain ⟨c, c1, c2⟩ := sink hin m d (to_lt hin hv d1) (by omega)
      exact ⟨c, to_trans d1 c1, c2⟩
/-- What stays has a way. -/
theorem hit_fw {g : List (List Int)} (hin : ∀ v x, x ∈ g.getD v [] → x.toNat < g.length) {sets : List (Nat → Bool)} {z : Nat → Bool} (hz : ∀ v, z v = true → v < g.length) (h : ∀ v, z v = true → ∀ S, S ∈ sets → Hit g z S v) (hne : sets ≠ []) {v : Nat} (hv : z v = true) : Fw g sets v := by
  have hin' : ∀ v x, x ∈ (resG g z).getD v [] → x.toNat < (resG g z).length := fun v x hx => by rw [resG_len]; exact hin v x (mem_resG.1 hx).1
  obtain ⟨c, c1, c2⟩ := sink hin' _ v (by rw [resG_len]; exact hz v hv) (Nat.le_refl _)
  have zc : z c = true := to_closed (s := fun v => z v = true) (fun v _ x hx => (mem_resG.1 hx).2.2) c1 hv
  have key : ∀ S i, Hit g z S i → ∃ x d, x ∈ (resG g z).getD i [] ∧ To (resG g z) x.toNat d ∧ S d = true := fun S i q => by
    induction q with
    | one h k hz hs => exact ⟨_, _, mem_resG.2 ⟨k, h, hz⟩, to_refl _ _, hs⟩
    | more h k hz _ ih =>
      obtain ⟨x, d, i1, i2, i3⟩ := ih
      exact ⟨_, d, mem_resG.2 ⟨k, h, hz⟩, to_trans (to_edge i1) i2, i3⟩
  refine ⟨c, to_res c1, ?_, fun S hS => ?_⟩
  · obtain ⟨S, hS⟩ := List.exists_mem_of_ne_nil _ hne
    obtain ⟨x, d, i1, i2, i3⟩ := key S c (h c zc S hS)
    exact ⟨x, (mem_resG.1 i1).1, to_res (c2 _ (to_edge i1))⟩
  · obtain ⟨x, d, i1, i2, i3⟩ := key S c (h c zc S hS)
    have hd := to_trans (to_edge i1) i2
    exact ⟨d, i3, to_res hd, to_res (c2 d hd)⟩
end Go.Proofs.Ytfaekhadjlgbbaa
