/-
  Au3 Au4 Au5 Au6 joined. No statement is proved here.
-/
import Derived.Test.YtfaekhadjlgbbaaQAu1
import Derived.Test.YtfaekhadjlgbbaaQFp
import Derived.Test.YtfaekhadjlgbbaaQWi
namespace Go.Proofs.Ytfaekhadjlgbbaa
/-! ### XAu3 -/
section
open Go.RowKit
set_option linter.unusedSimpArgs false
set_option linter.unusedVariables false
theorem small_fw {g small : List (List Int)} {L : List Int} {num : Nat → Int} (hlen : small.length = L.length) (hnum : ∀ i, i < L.length → num (L.getD i 0).toNat = (i : Int) + 1)
    (hcl : ∀ x ∈ L, ∀ y ∈ g.getD x.toNat [], y ∈ L) (hsm : ∀ i, i < L.length → small.getD i [] = (g.getD (L.getD i 0).toNat []).map fun y => num y.toNat - 1) (sets : List (Nat → Bool)) {i : Nat} (hi : i < L.length) :
    Fw small (sets.map fun S v => S (L.getD v 0).toNat) i ↔ Fw g sets (L.getD i 0).toNat := by
  have key : ∀ v x, v < L.length → x ∈ small.getD v [] → ∃ j, j < L.length ∧ x = (j : Int) ∧ L.getD j 0 ∈ g.getD (L.getD v 0).toNat [] := fun v x hv hx => by
    rw [hsm v hv] at hx
    obtain ⟨y, hy, rfl⟩ := List.mem_map.1 hx
    obtain ⟨j, hj, rfl⟩ := getD_mem (hcl _ (mem_getD hv) y hy)
    exact ⟨j, hj, by rw [hnum j hj]; omega, hy⟩
  have out : ∀ v x, x ∈ small.getD v [] → v < L.length := fun v x hx => by
    rcases Nat.lt_or_ge v L.length with q | q
    · exact q
    · rw [List.getD_eq_getElem?_getD, List.getElem?_eq_none (by omega)] at hx; cases hx
  constructor
  · refine fw_map (h := fun v => (L.getD v 0).toNat) fun v x hx => ?_
    obtain ⟨j, hj, rfl, hy⟩ := key v x (out v x hx) hx
    exact ⟨_, hy, by rw [Int.toNat_natCast]⟩
  · refine fw_lift (h := fun v => (L.getD v 0).toNat) (fun v hv y hy => ?_) (fun v x hx => ?_) (by omega)
    · have hv' : v < L.length := by omega
      obtain ⟨j, hj, rfl⟩ := getD_mem (hcl _ (mem_getD hv') y hy)
      refine ⟨(j : Int), ?_, by rw [Int.toNat_natCast]⟩
      rw [hsm v hv']
      exact List.mem_map.2 ⟨_, hy, by rw [hnum j hj]; omega⟩
    · obtain ⟨j, hj, rfl, _⟩ := key v x (out v x hx) hx
      rw [Int.toNat_natCast]; omega
/-! ### The search with a stack -/
structure ReI (g : List (List Int)) (from_ : List Int) (num : Nat → Int) (L T : List Int) : Prop where
  at_ : ∀ i, i < L.length → num (L.getD i 0).toNat = (i : Int) + 1
  zero : ∀ v : Nat, (v : Int) ∉ L → num v = 0
  rngL : ∀ x ∈ L, 0 ≤ x ∧ x.toNat < g.length
  rngT : ∀ x ∈ T, 0 ≤ x ∧ x.toNat < g.length
  reach : ∀ x, x ∈ L ∨ x ∈ T → ∃ y ∈ from_, To g y.toNat x.toNat
  closed : ∀ x ∈ L, ∀ y ∈ g.getD x.toNat [], y ∈ L ∨ y ∈ T
  start : ∀ y ∈ from_, y ∈ L ∨ y ∈ T
theorem ReI.begin {g : List (List Int)} {from_ : List Int} (hf : ∀ x ∈ from_, 0 ≤ x ∧ x.toNat < g.length) : ReI g from_ (fun _ => 0) [] from_ where
  at_ i hi := by simp at hi
  zero v _ := rfl
  rngL x hx := by cases hx
  rngT := hf
  reach x hx := by
    rcases hx with q | q
    · cases q
    · exact ⟨x, q, to_refl _ _⟩
  closed x hx := by cases hx
  start y hy := .inr hy
theorem ReI.old {g : List (List Int)} {from_ : List Int} {num : Nat → Int} {L T : List Int} {k : Int} (h : ReI g from_ num L (T ++ [k])) (hk : num k.toNat ≠ 0) : ReI g from_ num L T := by
  have hkL : k ∈ L := by
    by_cases q : k ∈ L
    · exact q
    · have h0 := (h.rngT k (by simp)).1
      exact absurd (h.zero k.toNat (by rwa [Int.toNat_of_nonneg h0])) hk
  exact ⟨h.at_, h.zero, h.rngL, fun x hx => h.rngT x (List.mem_append_left _ hx), fun x hx => h.reach x (hx.imp_right fun q => List.mem_append_left _ q), fun x hx y hy => by
    rcases h.closed x hx y hy with q | q
    · exact .inl q
    · rcases List.mem_append.1 q with r | r
      · exact .inr r
      · rw [List.mem_singleton] at r; subst r; exact .inl hkL, fun y hy => by
    rcases h.start y hy with q | q
    · exact .inl q
    · rcases List.mem_append.1 q with r | r
      · exact .inr r
      · rw [List.mem_singleton] at r; subst r; exact .inl hkL⟩
theorem ReI.new {g : List (List Int)} (hin : ∀ v x, x ∈ g.getD v [] → 0 ≤ x ∧ x.toNat < g.length) {from_ : List Int} {num : Nat → Int} {L T : List Int} {k : Int} (h : ReI g from_ num L (T ++ [k])) (hk : num k.toNat = 0) :
    ReI g from_ (fun v => if v = k.toNat then ((L.length + 1 : Nat) : Int) else num v) (L ++ [k]) (T ++ g.getD k.toNat []) := by
  have h0 := h.rngT k (by simp)
  have hkL : k ∉ L := fun q => by
    obtain ⟨j, hj, rfl⟩ := getD_mem q
    rw [h.at_ j hj] at hk
    omega
  obtain ⟨y0, y1, y2⟩ := h.reach k (.inr (by simp))
  refine ⟨fun i hi => ?_, fun v hv => ?_, fun x hx => ?_, fun x hx => ?_, fun x hx => ?_, fun x hx y hy => ?_, fun y hy => ?_⟩
  · rw [List.length_append, List.length_singleton] at hi
    by_cases q : i < L.length
    · have e : (L ++ [k]).getD i 0 = L.getD i 0 := by rw [List.getD_eq_getElem?_getD, List.getElem?_append_left q, List.getD_eq_getElem?_getD]
      have hm := mem_getD q
      have hr := h.rngL _ hm
      rw [e, if_neg fun r => hkL (by rw [show k = L.getD i 0 by omega]; exact hm), h.at_ i q]
    · have : i = L.length := by omega
      subst this
      have e : (L ++ [k]).getD L.length 0 = k := by rw [List.getD_eq_getElem?_getD, List.getElem?_append_right (Nat.le_refl _), Nat.sub_self]; rfl
      rw [e, if_pos rfl]; omega
  · rw [if_neg fun r => hv (by rw [r, Int.toNat_of_nonneg h0.1]; simp)]
    exact h.zero v fun q => hv (List.mem_append_left _ q)
  · rcases List.mem_append.1 hx with q | q
    · exact h.rngL x q
    · rw [List.mem_singleton] at q; subst q; exact h0
  · rcases List.mem_append.1 hx with q | q
    · exact h.rngT x (List.mem_append_left _ q)
    · exact hin _ _ q
  · rcases hx with q | q
    · rcases List.mem_append.1 q with r | r
      · exact h.reach x (.inl r)
      · rw [List.mem_singleton] at r; subst r; exact ⟨y0, y1, y2⟩
    · rcases List.mem_append.1 q with r | r
      · exact h.reach x (.inr (List.mem_append_left _ r))
      · exact ⟨y0, y1, to_trans y2 (to_edge r)⟩
  · rcases List.mem_append.1 hx with q | q
    · rcases h.closed x q y hy with r | r
      · exact .inl (List.mem_append_left _ r)
      · rcases List.mem_append.1 r with r | r
        · exact .inr (List.mem_append_left _ r)
        · exact .inl (List.mem_append_right _ r)
    · rw [List.mem_singleton] at q
      subst q
      exact .inr (List.mem_append_right _ hy)
  · rcases h.start y hy with r | r
    · exact .inl (List.mem_append_left _ r)
    · rcases List.mem_append.1 r with r | r
      · exact .inr (List.mem_append_left _ r)
      · exact .inl (List.mem_append_right _ r)
/-- All in all: a fair way begins at one of the beginnings just where some part of what is come to is good. -/
theorem ReI.fin {g small : List (List Int)} {from_ : List Int} {num : Nat → Int} {L : List Int} (h : ReI g from_ num L []) (hlen : small.length = L.length) (hsm : ∀ i, i < L.length → small.getD i [] = (g.getD (L.getD i 0).toNat []).map fun y => num y.toNat - 1) (sets : List (Nat → Bool)) :
    (∃ i, i < small.length ∧ Fw small (sets.map fun S v => S (L.getD v 0).toNat) i) ↔ ∃ y ∈ from_, Fw g sets y.toNat := by
  have hcl : ∀ x ∈ L, ∀ y ∈ g.getD x.toNat [], y ∈ L := fun x hx y hy => (h.closed x hx y hy).resolve_right (by simp)
  constructor
  · rintro ⟨i, hi, k⟩
    rw [hlen] at hi
    have k := (small_fw hlen h.at_ hcl hsm sets hi).1 k
    obtain ⟨y, y1, y2⟩ := h.reach _ (.inl (mem_getD hi))
    exact ⟨y, y1, k.back y2⟩
  · rintro ⟨y, hy, k⟩
    have hyL := (h.start y hy).resolve_right (by simp)
    obtain ⟨j, hj, rfl⟩ := getD_mem hyL
    exact ⟨j, by omega, (small_fw hlen h.at_ hcl hsm sets hj).2 k⟩
end

/-! ### XAu4 -/
section
open Go.RowKit
set_option linter.unusedSimpArgs false
set_option linter.unusedVariables false
def c37_1 : PC := .seq (.ops [⟨some 13,.bin .lss (.tmp 12) (.tmp 11),none,0⟩] false) (.seq (.cond (.tmp 13) (.skip) (.exit 0)) (.seq (.block 1 (.seq (.ops [⟨some 14,.iaddr 1 (.tmp 10) (.tmp 12),none,0⟩,
 ⟨some 15,.load1 (.tmp 14),none,0⟩,
 ⟨some 7,.move (.tmp 15),none,0⟩] false) (.ops [⟨some 16,.move (.tmp 5),none,0⟩,
 ⟨some 17,.move (.tmp 7),none,0⟩,
 ⟨some 18,.iaddr 1 (.tmp 16) (.tmp 17),none,0⟩,
 ⟨none,.store 1 (.tmp 18) (.const (.bool true)),none,0⟩] false))) (.ops [⟨some 19,.bin .add (.tmp 12) (.const (.int .i64 1)),none,0⟩,
 ⟨some 12,.move (.tmp 19),none,0⟩] false)))
def c37 : PC := .seq (.ops [⟨some 4,.move (.const (.slice none 0 0)),none,0⟩] false) (.seq (.ops [⟨some 8,.move (.tmp 1),none,0⟩,
 ⟨some 9,.mslice 1 1 [(.bool false)] (.tmp 8) (.tmp 8),none,0⟩,
 ⟨some 5,.move (.tmp 9),none,0⟩] false) (.seq (.seq (.ops [⟨some 10,.move (.tmp 0),none,0⟩,
 ⟨some 11,.len (.tmp 10),none,0⟩,
 ⟨some 12,.move (.const (.int .i64 0)),none,0⟩] false) (.block 0 (.loop c37_1))) (.seq (.ops [⟨some 20,.move (.tmp 5),none,0⟩,
 ⟨some 4,.move (.tmp 20),none,0⟩] false) (.ret))))
set_option maxRecDepth 100000 in
theorem c37_ok : FunOK Try.prog 37 21 [.tmp 4] c37 := ⟨⟨Try.f37, Try.func37, rfl, by kernel_rfl, rfl, by kernel_rfl⟩⟩
theorem au_member (l : List Int) (n : Nat) (hn : n ≤ 1000000) (hl : l.length ≤ 17592186043904) (hin : inB l n = true) : PCall Try.prog 37 [dints l, .sc (.int .i64 n)] (dbl n (setB l)) := by
  have eS : ∀ k, k < l.length → ∀ v, setB (l.take (k + 1)) v = if v = (l.getD k 0).toNat then true else setB (l.take k) v := fun k hk v => by
    have hx := inB_mem hin (mem_getD hk)
    unfold setB
    rw [List.getD_eq_getElem?_getD, List.getElem?_eq_getElem hk] at hx ⊢
    simp only [Option.getD_some] at hx ⊢
    rw [Bool.eq_iff_iff, List.contains_iff_mem, List.take_add_one, List.getElem?_eq_getElem hk]
    split
    · rename_i q
      rw [List.mem_append, Option.toList_some, List.mem_singleton]
      exact ⟨fun _ => rfl, fun _ => .inr (by omega)⟩
    · rename_i q
      rw [List.contains_iff_mem, List.mem_append, Option.toList_some, List.mem_singleton]
      exact ⟨fun h => h.resolve_right (by omega), .inl⟩
  refine pcall_intro c37_ok (by simp) (by simp [PureL, Pure, pure_dints]) ?_ (pure_dbl _ _)
  (apply rd_sound; focus (repeat' constructor))
  ((conv=>whnf);repeat(refine .intro rfl ?_;conv=>whnf))
  refine ⟨by omega, by omega, by omega, ?_⟩
  rw [Int.toNat_natCast, show List.map D.sc [Value.bool false] = [D.sc (.bool false)] from rfl, rbl_rep]
  ((conv=>whnf);repeat(refine .intro rfl ?_;conv=>whnf))
  rw [List.length_map]
  refine pwp_for [5, 10, 11] (fun k : Nat => [(12, .sc (.int .i64 k))]) (fun k => [(0, .vec true 0 1 (rbl n (setB (l.take k))))]) (fun k => k ≤ l.length) (fun k => l.length - k) 0 ?_
  ((conv=>whnf);repeat(refine .intro rfl ?_;conv=>whnf))
  refine ⟨by omega, by (repeat' (first | exact trivial | refine And.intro rfl ?_)), rfl, ?_⟩
  rintro k hk
  ((conv=>whnf);repeat(refine .intro rfl ?_;conv=>whnf))
  (apply rd_sound; focus (repeat' constructor))
  ((conv=>whnf);repeat(refine .intro rfl ?_;conv=>whnf))
  (refine ifK_split (fun q0 => ?_) (fun q0 => ?_) <;> (rw [q0]; ((conv=>whnf);repeat(refine .intro rfl ?_;conv=>whnf))))
  · have q0 : k < l.length := by ((try simp only[oo,reduceCtorEq]at*)<;>omega)
    have hx := inB_mem hin (mem_getD q0)
    refine ⟨by omega, _, intsD_at (l := l) (k := k) (by omega) q0, ?_⟩
    ((conv=>whnf);repeat(refine .intro rfl ?_;conv=>whnf))
    have e := eS k q0
    generalize l.getD k 0 = x at *
    (refine ⟨by omega, (by first | omega | (simp; done) | (simp; omega) | (simp only [ll]; omega)), ?_⟩; ((conv=>whnf);repeat(refine .intro rfl ?_;conv=>whnf)))
    refine ⟨_, rbl_atN x.toNat (by omega) (by omega), ?_⟩
    ((conv=>whnf);repeat(refine .intro rfl ?_;conv=>whnf))
    (refine .inl ⟨by (unfold InR; rw [IntKind.wrap_i64]; omega), ?_⟩; ((conv=>whnf);repeat(refine .intro rfl ?_;conv=>whnf)))
    refine ⟨k + 1, by omega, by dsimp only; omega, leB_envH (by (repeat' (first | exact trivial | refine And.intro rfl ?_))) ?_⟩
    rw [rbl_put (i := x.toNat) (f' := setB (l.take (k + 1))) (by omega) fun v _ => e v]
    rfl
  · have q0 : k = l.length := by have : ¬ k < l.length := by ((try simp only[oo,reduceCtorEq]at*)<;>omega)
                                 omega
    subst q0
    rw [List.take_length]
    exact deep_vec rfl
end

/-! ### XAu5 -/
section
open Go.RowKit
set_option linter.unusedSimpArgs false
set_option linter.unusedVariables false
structure ReS where
  num : Nat → Int
  L : List Int
  T : List Int
end

/-! ### XAu6 -/
section
open Go.RowKit
set_option linter.unusedSimpArgs false
set_option linter.unusedVariables false
end

end Go.Proofs.Ytfaekhadjlgbbaa
