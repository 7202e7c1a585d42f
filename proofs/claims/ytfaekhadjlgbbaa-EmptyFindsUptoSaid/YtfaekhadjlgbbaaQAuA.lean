/-
  Au3 Au4 Au5 Au6 joined. No statement is proved here.
-/
import Derived.Test.YtfaekhadjlgbbaaQAu1
import Derived.Test.YtfaekhadjlgbbaaQFp
import Derived.Test.YtfaekhadjlgbbaaQWi
namespace Go.Proofs.Ytfaekhadjlgbbaa
/-! ### XAu3 -/
section
open Go.RowKit
set_option linter.unusedSimpArgs false
set_option linter.unusedVariables false
theorem small_fw {g small : List (List Int)} {L : List Int} {num : Nat → Int} (hlen : small.length = L.length) (hnum : ∀ i, i < L.length → num (L.getD i 0).toNat = (i : Int) + 1)
    (hcl : ∀ x ∈ L, ∀ y ∈ g.getD x.toNat [], y ∈ L) (hsm : ∀ i, i < L.length → small.getD i [] = (g.getD (L.getD i 0).toNat []).map fun y => num y.toNat - 1) (sets : List (Nat → Bool)) {i : Nat} (hi : i < L.length) :
    Fw small (sets.map fun S v => S (L.getD v 0).toNat) i ↔ Fw g sets (L.getD i 0).toNat := by
  have key : ∀ v x, v < L.length → x ∈ small.getD v [] → ∃ j, j < L.length ∧ x = (j : Int) ∧ L.getD j 0 ∈ g.getD (L.getD v 0).toNat [] := fun v x hv hx => by
    rw [hsm v hv] at hx
    obtain ⟨y, hy, rfl⟩ := List.mem_map.1 hx
    obtain ⟨j, hj, rfl⟩ := getD_mem (hcl _ (mem_getD hv) y hy)
    exact ⟨j, hj, by rw [hnum j hj]; omega, hy⟩
  have out : ∀ v x, x ∈ small.getD v [] → v < L.length := fun v x hx => by
    rcases Nat.lt_or_ge v L.length with q | q
    · exact q
    · rw [List.getD_eq_getElem?_getD, List.getElem?_eq_none (by omega)] at hx; cases hx
  constructor
  · refine fw_map (h := fun v => (L.getD v 0).toNat) fun v x hx => ?_
    obtain ⟨j, hj, rfl, hy⟩ := key v x (out v x hx) hx
    exact ⟨_, hy, by rw [Int.toNat_natCast]⟩
  · refine fw_lift (h := fun v => (L.getD v 0).toNat) (fun v hv y hy => ?_) (fun v x hx => ?_) (by omega)
    · have hv' : v < L.length := by omega
      obtain ⟨j, hj, rfl⟩ := getD_mem (hcl _ (mem_getD hv') y hy)
      refine ⟨(j : Int), ?_, by rw [Int.toNat_natCast]⟩
      rw [hsm v hv']
      exact List.mem_map.2 ⟨_, hy, by rw [hnum j hj]; omega⟩
    · obtain ⟨j, hj, rfl, _⟩ := key v x (out v x hx) hx
      rw [Int.toNat_natCast]; omega
/-- Some part is good just where a fair way begins. -/
noncomputable def hasF (g : List (List Int)) (S : Nat → Bool) (k i : Nat) : Bool := (List.range k).any fun v => partsG g v == (i : Int) && S v
noncomputable def goodS (g : List (List Int)) (sets : List (Nat → Bool)) (i : Nat) : Bool := okT g g.length i && sets.all fun S => hasF g S g.length i
theorem hasF_succ (g : List (List Int)) (S : Nat → Bool) (k i : Nat) : hasF g S (k + 1) i = (hasF g S k i || (partsG g k == (i : Int) && S k)) := by
  unfold hasF; rw [List.range_succ, List.any_append]; simp
theorem goodS_any {g : List (List Int)} (hin : ∀ v x, x ∈ g.getD v [] → x.toNat < g.length) (sets : List (Nat → Bool)) : (∃ i, i < g.length ∧ goodS g sets i = true) ↔ ∃ v, v < g.length ∧ Fw g sets v := by
  constructor
  · rintro ⟨i, hi, h⟩
    unfold goodS at h
    rw [Bool.and_eq_true, List.all_eq_true] at h
    obtain ⟨h1, h2⟩ := h
    unfold okT at h1
    rw [List.any_eq_true] at h1
    obtain ⟨n, hn, q⟩ := h1
    have hn := List.mem_range.1 hn
    rw [Bool.and_eq_true, beq_iff_eq] at q
    refine ⟨n, hn, n, to_refl g n, (loop_iff hin hn).1 q.2, fun S hS => ?_⟩
    have := h2 S hS
    unfold hasF at this
    rw [List.any_eq_true] at this
    obtain ⟨d, hd, r⟩ := this
    have hd := List.mem_range.1 hd
    rw [Bool.and_eq_true, beq_iff_eq, ← q.1, parts_eq hd hn, mutB_iff] at r
    exact ⟨d, r.2, r.1.2, r.1.1⟩
  · rintro ⟨v, hv, c, h1, h2, h3⟩
    have hc := to_lt hin hv h1
    have hp := parts_lt hc
    refine ⟨(partsG g c).toNat, by omega, ?_⟩
    unfold goodS
    rw [Bool.and_eq_true, List.all_eq_true]
    have e : ((partsG g c).toNat : Int) = partsG g c := by omega
    refine ⟨?_, fun S hS => ?_⟩
    · unfold okT
      rw [List.any_eq_true]
      exact ⟨c, List.mem_range.2 hc, by rw [Bool.and_eq_true, beq_iff_eq, e]; exact ⟨rfl, (loop_iff hin hc).2 h2⟩⟩
    · obtain ⟨d, d1, d2, d3⟩ := h3 S hS
      have hd := to_lt hin hc d2
      unfold hasF
      rw [List.any_eq_true]
      exact ⟨d, List.mem_range.2 hd, by rw [Bool.and_eq_true, beq_iff_eq, e, parts_eq hd hc, mutB_iff]; exact ⟨⟨d3, d2⟩, d1⟩⟩
/-! ### The search with a stack -/
structure ReI (g : List (List Int)) (from_ : List Int) (num : Nat → Int) (L T : List Int) : Prop where
  at_ : ∀ i, i < L.length → num (L.getD i 0).toNat = (i : Int) + 1
  zero : ∀ v : Nat, (v : Int) ∉ L → num v = 0
  rngL : ∀ x ∈ L, 0 ≤ x ∧ x.toNat < g.length
  rngT : ∀ x ∈ T, 0 ≤ x ∧ x.toNat < g.length
  reach : ∀ x, x ∈ L ∨ x ∈ T → ∃ y ∈ from_, To g y.toNat x.toNat
  closed : ∀ x ∈ L, ∀ y ∈ g.getD x.toNat [], y ∈ L ∨ y ∈ T
  start : ∀ y ∈ from_, y ∈ L ∨ y ∈ T
theorem ReI.begin {g : List (List Int)} {from_ : List Int} (hf : ∀ x ∈ from_, 0 ≤ x ∧ x.toNat < g.length) : ReI g from_ (fun _ => 0) [] from_ where
  at_ i hi := by simp at hi
  zero v _ := rfl
  rngL x hx := by cases hx
  rngT := hf
  reach x hx := by
    rcases hx with q | q
    · cases q
    · exact ⟨x, q, to_refl _ _⟩
  closed x hx := by cases hx
  start y hy := .inr hy
theorem ReI.old {g : List (List Int)} {from_ : List Int} {num : Nat → Int} {L T : List Int} {k : Int} (h : ReI g from_ num L (T ++ [k])) (hk : num k.toNat ≠ 0) : ReI g from_ num L T := by
  have hkL : k ∈ L := by
    by_cases q : k ∈ L
    · exact q
    · have h0 := (h.rngT k (by simp)).1
      exact absurd (h.zero k.toNat (by rwa [Int.toNat_of_nonneg h0])) hk
  exact ⟨h.at_, h.zero, h.rngL, fun x hx => h.rngT x (List.mem_append_left _ hx), fun x hx => h.reach x (hx.imp_right fun q => List.mem_append_left _ q), fun x hx y hy => by
    rcases h.closed x hx y hy with q | q
    · exact .inl q
    · rcases List.mem_append.1 q with r | r
      · exact .inr r
      · rw [List.mem_singleton] at r; subst r; exact .inl hkL, fun y hy => by
    rcases h.start y hy with q | q
    · exact .inl q
    · rcases List.mem_append.1 q with r | r
      · exact .inr r
      · rw [List.mem_singleton] at r; subst r; exact .inl hkL⟩
theorem ReI.new {g : List (List Int)} (hin : ∀ v x, x ∈ g.getD v [] → 0 ≤ x ∧ x.toNat < g.length) {from_ : List Int} {num : Nat → Int} {L T : List Int} {k : Int} (h : ReI g from_ num L (T ++ [k])) (hk : num k.toNat = 0) :
    ReI g from_ (fun v => if v = k.toNat then ((L.length + 1 : Nat) : Int) else num v) (L ++ [k]) (T ++ g.getD k.toNat []) := by
  have h0 := h.rngT k (by simp)
  have hkL : k ∉ L := fun q => by
    obtain ⟨j, hj, rfl⟩ := getD_mem q
    rw [h.at_ j hj] at hk
    omega
  obtain ⟨y0, y1, y2⟩ := h.reach k (.inr (by simp))
  refine ⟨fun i hi => ?_, fun v hv => ?_, fun x hx => ?_, fun x hx => ?_, fun x hx => ?_, fun x hx y hy => ?_, fun y hy => ?_⟩
  · rw [List.length_append, List.length_singleton] at hi
    by_cases q : i < L.length
    · have e : (L ++ [k]).getD i 0 = L.getD i 0 := by rw [List.getD_eq_getElem?_getD, List.getElem?_append_left q, List.getD_eq_getElem?_getD]
      have hm := mem_getD q
      have hr := h.rngL _ hm
      rw [e, if_neg fun r => hkL (by rw [show k = L.getD i 0 by omega]; exact hm), h.at_ i q]
    · have : i = L.length := by omega
      subst this
      have e : (L ++ [k]).getD L.length 0 = k := by rw [List.getD_eq_getElem?_getD, List.getElem?_append_right (Nat.le_refl _), Nat.sub_self]; rfl
      rw [e, if_pos rfl]; omega
  · rw [if_neg fun r => hv (by rw [r, Int.toNat_of_nonneg h0.1]; simp)]
    exact h.zero v fun q => hv (List.mem_append_left _ q)
  · rcases List.mem_append.1 hx with q | q
    · exact h.rngL x q
    · rw [List.mem_singleton] at q; subst q; exact h0
  · rcases List.mem_append.1 hx with q | q
    · exact h.rngT x (List.mem_append_left _ q)
    · exact hin _ _ q
  · rcases hx with q | q
    · rcases List.mem_append.1 q with r | r
      · exact h.reach x (.inl r)
      · rw [List.mem_singleton] at r; subst r; exact ⟨y0, y1, y2⟩
    · rcases List.mem_append.1 q with r | r
      · exact h.reach x (.inr (List.mem_append_left _ r))
      · exact ⟨y0, y1, to_trans y2 (to_edge r)⟩
  · rcases List.mem_append.1 hx with q | q
    · rcases h.closed x q y hy with r | r
      · exact .inl (List.mem_append_left _ r)
      · rcases List.mem_append.1 r with r | r
        · exact .inr (List.mem_append_left _ r)
        · exact .inl (List.mem_append_right _ r)
    · rw [List.mem_singleton] at q
      subst q
      exact .inr (List.mem_append_right _ hy)
  · rcases h.start y hy with r | r
    · exact .inl (List.mem_append_left _ r)
    · rcases List.mem_append.1 r with r | r
      · exact .inr (List.mem_append_left _ r)
      · exact .inl (List.mem_append_right _ r)
/-- All in all: a fair way begins at one of the beginnings just where some part of what is come to is good. -/
theorem ReI.fin {g small : List (List Int)} {from_ : List Int} {num : Nat → Int} {L : List Int} (h : ReI g from_ num L []) (hlen : small.length = L.length) (hsm : ∀ i, i < L.length → small.getD i [] = (g.getD (L.getD i 0).toNat []).map fun y => num y.toNat - 1) (sets : List (Nat → Bool)) :
    (∃ i, i < small.length ∧ Fw small (sets.map fun S v => S (L.getD v 0).toNat) i) ↔ ∃ y ∈ from_, Fw g sets y.toNat := by
  have hcl : ∀ x ∈ L, ∀ y ∈ g.getD x.toNat [], y ∈ L := fun x hx y hy => (h.closed x hx y hy).resolve_right (by simp)
  constructor
  · rintro ⟨i, hi, k⟩
    rw [hlen] at hi
    have k := (small_fw hlen h.at_ hcl hsm sets hi).1 k
    obtain ⟨y, y1, y2⟩ := h.reach _ (.inl (mem_getD hi))
    exact ⟨y, y1, k.back y2⟩
  · rintro ⟨y, hy, k⟩
    have hyL := (h.start y hy).resolve_right (by simp)
    obtain ⟨j, hj, rfl⟩ := getD_mem hyL
    exact ⟨j, by omega, (small_fw hlen h.at_ hcl hsm sets hj).2 k⟩
end

/-! ### XAu4 -/
section
open Go.RowKit
set_option linter.unusedSimpArgs false
set_option linter.unusedVariables false
end

/-! ### XAu5 -/
section
open Go.RowKit
set_option linter.unusedSimpArgs false
set_option linter.unusedVariables false
structure ReS where
  num : Nat → Int
  L : List Int
  T : List Int
end

/-! ### XAu6 -/
section
open Go.RowKit
set_option linter.unusedSimpArgs false
set_option linter.unusedVariables false
end

end Go.Proofs.Ytfaekhadjlgbbaa
