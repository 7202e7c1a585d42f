/-
  Graphs that go alike: plain law. No statement is proved here.
-/
import Derived.Test.YtfaekhadjlgbbaaQEl0
namespace Go.Proofs.Ytfaekhadjlgbbaa
set_option linter.unusedVariables false
theorem to_map {g g' : List (List Int)} {h : Nat → Nat} (he : ∀ v x, x ∈ g.getD v [] → ∃ y, y ∈ g'.getD (h v) [] ∧ y.toNat = h x.toNat) {u v : Nat} (k : To g u v) : To g' (h u) (h v) := by
  unfold To at k
  induction k with
  | base m => simp only [List.mem_singleton] at m; subst m; simpa using to_refl g' (h u)
  | step q m ih =>
    obtain ⟨y, y1, y2⟩ := he _ _ m
    rw [← y2]
    exact .step ih y1
/-- Along a map that keeps what goes to what. -/
theorem fw_map {g g' : List (List Int)} {h : Nat → Nat} {sets : List (Nat → Bool)} (he : ∀ v x, x ∈ g.getD v [] → ∃ y, y ∈ g'.getD (h v) [] ∧ y.toNat = h x.toNat) {v : Nat} (k : Fw g (sets.map fun S v => S (h v)) v) : Fw g' sets (h v) := by
  obtain ⟨c, h1, ⟨x, x1, x2⟩, h3⟩ := k
  obtain ⟨y, y1, y2⟩ := he _ _ x1
  refine ⟨h c, to_map he h1, ⟨y, y1, by rw [y2]; exact to_map he x2⟩, fun S hS => ?_⟩
  obtain ⟨d, d1, d2, d3⟩ := h3 _ (List.mem_map.2 ⟨S, hS, rfl⟩)
  exact ⟨h d, d1, to_map he d2, to_map he d3⟩
theorem hit_lift {g g' : List (List Int)} {h : Nat → Nat} {z z' S : Nat → Bool} (hl : ∀ v, v < g.length → ∀ y, y ∈ g'.getD (h v) [] → ∃ x, x ∈ g.getD v [] ∧ h x.toNat = y.toNat) (hin : ∀ v x, x ∈ g.getD v [] → x.toNat < g.length)
    (hz : ∀ v, v < g.length → z' (h v) = true → z v = true) {w : Nat} (k : Hit g' z' S w) : ∀ u, u < g.length → h u = w → Hit g z (fun v => S (h v)) u := by
  induction k with
  | one a k hz' hs =>
    intro u hu e
    subst e
    obtain ⟨x, x1, x2⟩ := hl u hu _ k
    exact .one (hz u hu a) x1 (hz _ (hin _ _ x1) (by rw [x2]; exact hz')) (by rw [x2]; exact hs)
  | more a k hz' hs ih =>
    intro u hu e
    subst e
    obtain ⟨x, x1, x2⟩ := hl u hu _ k
    exact .more (hz u hu a) x1 (hz _ (hin _ _ x1) (by rw [x2]; exact hz')) (ih _ (hin _ _ x1) x2)
theorem fw_all {g : List (List Int)} {v : Nat} : Fw g [] v ↔ Fw g [fun _ => true] v := by
  constructor
  · rintro ⟨c, h1, h2, _⟩
    exact ⟨c, h1, h2, fun S hS => by rw [List.mem_singleton] at hS; subst hS; exact ⟨c, rfl, to_refl _ _, to_refl _ _⟩⟩
  · rintro ⟨c, h1, h2, _⟩
    exact ⟨c, h1, h2, fun S hS => by cases hS⟩
/-- Against such a map, where each going is one of the other's. -/
theorem fw_lift {g g' : List (List Int)} {h : Nat → Nat} {sets : List (Nat → Bool)} (hl : ∀ v, v < g.length → ∀ y, y ∈ g'.getD (h v) [] → ∃ x, x ∈ g.getD v [] ∧ h x.toNat = y.toNat) (hin : ∀ v x, x ∈ g.getD v [] → x.toNat < g.length) {v : Nat} (hv : v < g.length) (k : Fw g' sets (h v)) :
    Fw g (sets.map fun S v => S (h v)) v := by
  have main : ∀ sets : List (Nat → Bool), sets ≠ [] → Fw g' sets (h v) → Fw g (sets.map fun S v => S (h v)) v := fun sets hne k => by
    refine hit_fw (z := fun u => decide (u < g.length) && fwB g' sets (h u)) hin (fun u hu => by simp at hu; exact hu.1) (fun u hu S hS => ?_) (by simpa using hne) (by simp [hv, fwB_iff, k])
    simp only [Bool.and_eq_true, decide_eq_true_eq] at hu
    obtain ⟨S', hS', rfl⟩ := List.mem_map.1 hS
    have hh := fw_hit (z := fwB g' sets) (fun v q => fwB_iff.2 q) hS' (fwB_iff.1 hu.2)
    exact hit_lift hl hin (fun u hu q => by simp [hu, q]) hh u hu.1 rfl
  by_cases hne : sets = []
  · subst hne
    rw [List.map_nil, fw_all]
    exact main [fun _ => true] (by simp) (fw_all.1 k)
  · exact main sets hne k
end Go.Proofs.Ytfaekhadjlgbbaa
