/-
  Au3 Au4 Au5 Au6 joined. No statement is proved here.
-/
import Derived.Test.YtfaekhadjlgbbaaQAu1
import Derived.Test.YtfaekhadjlgbbaaQFp
import Derived.Test.YtfaekhadjlgbbaaQWi
namespace Go.Proofs.Ytfaekhadjlgbbaa
/-! ### XAu3 -/
section
open Go.RowKit
set_option linter.unusedSimpArgs false
set_option linter.unusedVariables false
theorem small_fw {g small : List (List Int)} {L : List Int} {num : Nat → Int} (hlen : small.length = L.length) (hnum : ∀ i, i < L.length → num (L.getD i 0).toNat = (i : Int) + 1)
    (hcl : ∀ x ∈ L, ∀ y ∈ g.getD x.toNat [], y ∈ L) (hsm : ∀ i, i < L.length → small.getD i [] = (g.getD (L.getD i 0).toNat []).map fun y => num y.toNat - 1) (sets : List (Nat → Bool)) {i : Nat} (hi : i < L.length) :
    Fw small (sets.map fun S v => S (L.getD v 0).toNat) i ↔ Fw g sets (L.getD i 0).toNat := by
  have key : ∀ v x, v < L.length → x ∈ small.getD v [] → ∃ j, j < L.length ∧ x = (j : Int) ∧ L.getD j 0 ∈ g.getD (L.getD v 0).toNat [] := fun v x hv hx => by
    rw [hsm v hv] at hx
    obtain ⟨y, hy, rfl⟩ := List.mem_map.1 hx
    obtain ⟨j, hj, rfl⟩ := getD_mem (hcl _ (mem_getD hv) y hy)
    exact ⟨j, hj, by rw [hnum j hj]; omega, hy⟩
  have out : ∀ v x, x ∈ small.getD v [] → v < L.length := fun v x hx => by
    rcases Nat.lt_or_ge v L.length with q | q
    · exact q
    · rw [List.getD_eq_getElem?_getD, List.getElem?_eq_none (by omega)] at hx; cases hx
  constructor
  · refine fw_map (h := fun v => (L.getD v 0).toNat) fun v x hx => ?_
    obtain ⟨j, hj, rfl, hy⟩ := key v x (out v x hx) hx
    exact ⟨_, hy, by rw [Int.toNat_natCast]⟩
  · refine fw_lift (h := fun v => (L.getD v 0).toNat) (fun v hv y hy => ?_) (fun v x hx => ?_) (by omega)
    · have hv' : v < L.length := by omega
      obtain ⟨j, hj, rfl⟩ := getD_mem (hcl _ (mem_getD hv') y hy)
      refine ⟨(j : Int), ?_, by rw [Int.toNat_natCast]⟩
      rw [hsm v hv']
      exact List.mem_map.2 ⟨_, hy, by rw [hnum j hj]; omega⟩
    · obtain ⟨j, hj, rfl, _⟩ := key v x (out v x hx) hx
      rw [Int.toNat_natCast]; omega
/-- Some part is good just where a fair way begins. -/
noncomputable def hasF (g : List (List Int)) (S : Nat → Bool) (k i : Nat) : Bool := (List.range k).any fun v => partsG g v == (i : Int) && S v
noncomputable def goodS (g : List (List Int)) (sets : List (Nat → Bool)) (i : Nat) : Bool := okT g g.length i && sets.all fun S => hasF g S g.length i
theorem hasF_succ (g : List (List Int)) (S : Nat → Bool) (k i : Nat) : hasF g S (k + 1) i = (hasF g S k i || (partsG g k == (i : Int) && S k)) := by
  unfold hasF; rw [List.range_succ, List.any_append]; simp
theorem goodS_any {g : List (List Int)} (hin : ∀ v x, x ∈ g.getD v [] → x.toNat < g.length) (sets : List (Nat → Bool)) : (∃ i, i < g.length ∧ goodS g sets i = true) ↔ ∃ v, v < g.length ∧ Fw g sets v := by
  constructor
  · rintro ⟨i, hi, h⟩
    unfold goodS at h
    rw [Bool.and_eq_true, List.all_eq_true] at h
    obtain ⟨h1, h2⟩ := h
    unfold okT at h1
    rw [List.any_eq_true] at h1
    obtain ⟨n, hn, q⟩ := h1
    have hn := List.mem_range.1 hn
    rw [Bool.and_eq_true, beq_iff_eq] at q
    refine ⟨n, hn, n, to_refl g n, (loop_iff hin hn).1 q.2, fun S hS => ?_⟩
    have := h2 S hS
    unfold hasF at this
    rw [List.any_eq_true] at this
    obtain ⟨d, hd, r⟩ := this
    have hd := List.mem_range.1 hd
    rw [Bool.and_eq_true, beq_iff_eq, ← q.1, parts_eq hd hn, mutB_iff] at r
    exact ⟨d, r.2, r.1.2, r.1.1⟩
  · rintro ⟨v, hv, c, h1, h2, h3⟩
    have hc := to_lt hin hv h1
    have hp := parts_lt hc
    refine ⟨(partsG g c).toNat, by omega, ?_⟩
    unfold goodS
    rw [Bool.and_eq_true, List.all_eq_true]
    have e : ((partsG g c).toNat : Int) = partsG g c := by omega
    refine ⟨?_, fun S hS => ?_⟩
    · unfold okT
      rw [List.any_eq_true]
      exact ⟨c, List.mem_range.2 hc, by rw [Bool.and_eq_true, beq_iff_eq, e]; exact ⟨rfl, (loop_iff hin hc).2 h2⟩⟩
    · obtain ⟨d, d1, d2, d3⟩ := h3 S hS
      have hd := to_lt hin hc d2
      unfold hasF
      rw [List.any_eq_true]
      exact ⟨d, List.mem_range.2 hd, by rw [Bool.and_eq_true, beq_iff_eq, e, parts_eq hd hc, mutB_iff]; exact ⟨⟨d3, d2⟩, d1⟩⟩
/-! ### The search with a stack -/
structure ReI (g : List (List Int)) (from_ : List Int) (num : Nat → Int) (L T : List Int) : Prop where
  at_ : ∀ i, i < L.length → num (L.getD i 0).toNat = (i : Int) + 1
  zero : ∀ v : Nat, (v : Int) ∉ L → num v = 0
  rngL : ∀ x ∈ L, 0 ≤ x ∧ x.toNat < g.length
  rngT : ∀ x ∈ T, 0 ≤ x ∧ x.toNat < g.length
  reach : ∀ x, x ∈ L ∨ x ∈ T → ∃ y ∈ from_, To g y.toNat x.toNat
  closed : ∀ x ∈ L, ∀ y ∈ g.getD x.toNat [], y ∈ L ∨ y ∈ T
  start : ∀ y ∈ from_, y ∈ L ∨ y ∈ T
theorem ReI.begin {g : List (List Int)} {from_ : List Int} (hf : ∀ x ∈ from_, 0 ≤ x ∧ x.toNat < g.length) : ReI g from_ (fun _ => 0) [] from_ where
  at_ i hi := by simp at hi
  zero v _ := rfl
  rngL x hx := by cases hx
  rngT := hf
  reach x hx := by
    rcases hx with q | q
    · cases q
    · exact ⟨x, q, to_refl _ _⟩
  closed x hx := by cases hx
  start y hy := .inr hy
theorem ReI.old {g : List (List Int)} {from_ : List Int} {num : Nat → Int} {L T : List Int} {k : Int} (h : ReI g from_ num L (T ++ [k])) (hk : num k.toNat ≠ 0) : ReI g from_ num L T := by
  have hkL : k ∈ L := by
    by_cases q : k ∈ L
    · exact q
    · have h0 := (h.rngT k (by simp)).1
      exact absurd (h.zero k.toNat (by rwa [Int.toNat_of_nonneg h0])) hk
  exact ⟨h.at_, h.zero, h.rngL, fun x hx => h.rngT x (List.mem_append_left _ hx), fun x hx => h.reach x (hx.imp_right fun q => List.mem_append_left _ q), fun x hx y hy => by
    rcases h.closed x hx y hy with q | q
    · exact .inl q
    · rcases List.mem_append.1 q with r | r
      · exact .inr r
      · rw [List.mem_singleton] at r; subst r; exact .inl hkL, fun y hy => by
    rcases h.start y hy with q | q
    · exact .inl q
    · rcases List.mem_append.1 q with r | r
      · exact .inr r
      · rw [List.mem_singleton] at r; subst r; exact .inl hkL⟩
theorem ReI.new {g : List (List Int)} (hin : ∀ v x, x ∈ g.getD v [] → 0 ≤ x ∧ x.toNat < g.length) {from_ : List Int} {num : Nat → Int} {L T : List Int} {k : Int} (h : ReI g from_ num L (T ++ [k])) (hk : num k.toNat = 0) :
    ReI g from_ (fun v => if v = k.toNat then ((L.length + 1 : Nat) : Int) else num v) (L ++ [k]) (T ++ g.getD k.toNat []) := by
  have h0 := h.rngT k (by simp)
  have hkL : k ∉ L := fun q => by
    obtain ⟨j, hj, rfl⟩ := getD_mem q
    rw [h.at_ j hj] at hk
    omega
  obtain ⟨y0, y1, y2⟩ := h.reach k (.inr (by simp))
  refine ⟨fun i hi => ?_, fun v hv => ?_, fun x hx => ?_, fun x hx => ?_, fun x hx => ?_, fun x hx y hy => ?_, fun y hy => ?_⟩
  · rw [List.length_append, List.length_singleton] at hi
    by_cases q : i < L.length
    · have e : (L ++ [k]).getD i 0 = L.getD i 0 := by rw [List.getD_eq_getElem?_getD, List.getElem?_append_left q, List.getD_eq_getElem?_getD]
      have hm := mem_getD q
      have hr := h.rngL _ hm
      rw [e, if_neg fun r => hkL (by rw [show k = L.getD i 0 by omega]; exact hm), h.at_ i q]
    · have : i = L.length := by omega
      subst this
      have e : (L ++ [k]).getD L.length 0 = k := by rw [List.getD_eq_getElem?_getD, List.getElem?_append_right (Nat.le_refl _), Nat.sub_self]; rfl
      rw [e, if_pos rfl]; omega
  · rw [if_neg fun r => hv (by rw [r, Int.toNat_of_nonneg h0.1]; simp)]
    exact h.zero v fun q => hv (List.mem_append_left _ q)
  · rcases List.mem_append.1 hx with q | q
    · exact h.rngL x q
    · rw [List.mem_singleton] at q; subst q; exact h0
  · rcases List.mem_append.1 hx with q | q
    · exact h.rngT x (List.mem_append_left _ q)
    · exact hin _ _ q
  · rcases hx with q | q
    · rcases List.mem_append.1 q with r | r
      · exact h.reach x (.inl r)
      · rw [List.mem_singleton] at r; subst r; exact ⟨y0, y1, y2⟩
    · rcases List.mem_append.1 q with r | r
      · exact h.reach x (.inr (List.mem_append_left _ r))
      · exact ⟨y0, y1, to_trans y2 (to_edge r)⟩
  · rcases List.mem_append.1 hx with q | q
    · rcases h.closed x q y hy with r | r
      · exact .inl (List.mem_append_left _ r)
      · rcases List.mem_append.1 r with r | r
        · exact .inr (List.mem_append_left _ r)
        · exact .inl (List.mem_append_right _ r)
    · rw [List.mem_singleton] at q
      subst q
      exact .inr (List.mem_append_right _ hy)
  · rcases h.start y hy with r | r
    · exact .inl (List.mem_append_left _ r)
    · rcases List.mem_append.1 r with r | r
      · exact .inr (List.mem_append_left _ r)
      · exact .inl (List.mem_append_right _ r)
/-- All in all: a fair way begins at one of the beginnings just where some part of what is come to is good. -/
theorem ReI.fin {g small : List (List Int)} {from_ : List Int} {num : Nat → Int} {L : List Int} (h : ReI g from_ num L []) (hlen : small.length = L.length) (hsm : ∀ i, i < L.length → small.getD i [] = (g.getD (L.getD i 0).toNat []).map fun y => num y.toNat - 1) (sets : List (Nat → Bool)) :
    (∃ i, i < small.length ∧ Fw small (sets.map fun S v => S (L.getD v 0).toNat) i) ↔ ∃ y ∈ from_, Fw g sets y.toNat := by
  have hcl : ∀ x ∈ L, ∀ y ∈ g.getD x.toNat [], y ∈ L := fun x hx y hy => (h.closed x hx y hy).resolve_right (by simp)
  constructor
  · rintro ⟨i, hi, k⟩
    rw [hlen] at hi
    have k := (small_fw hlen h.at_ hcl hsm sets hi).1 k
    obtain ⟨y, y1, y2⟩ := h.reach _ (.inl (mem_getD hi))
    exact ⟨y, y1, k.back y2⟩
  · rintro ⟨y, hy, k⟩
    have hyL := (h.start y hy).resolve_right (by simp)
    obtain ⟨j, hj, rfl⟩ := getD_mem hyL
    exact ⟨j, by omega, (small_fw hlen h.at_ hcl hsm sets hj).2 k⟩
end

/-! ### XAu4 -/
section
open Go.RowKit
set_option linter.unusedSimpArgs false
set_option linter.unusedVariables false
noncomputable def okN (g : List (List Int)) (n j : Nat) : Nat → Bool := fun i => okT g n i || (partsG g n == (i : Int) && ((g.getD n []).take j).any fun x => partsG g x.toNat == partsG g n)
theorem okN_succ {g : List (List Int)} {n j : Nat} (h : j < (g.getD n []).length) (i : Nat) : okN g n (j + 1) i = (okN g n j i || (partsG g n == (i : Int) && partsG g ((g.getD n []).getD j 0).toNat == partsG g n)) := by
  unfold okN
  rw [List.take_add_one, List.getElem?_eq_getElem h, List.any_append, List.getD_eq_getElem?_getD (l := g.getD n []), List.getElem?_eq_getElem h]
  simp only [Option.toList_some, List.any_cons, List.any_nil, Bool.or_false, Option.getD_some]
  cases okT g n i <;> cases (partsG g n == (i : Int)) <;> simp
theorem okN_all (g : List (List Int)) (n i : Nat) : okN g n (g.getD n []).length i = okT g (n + 1) i := by
  unfold okN
  rw [List.take_length, okT_succ]
  rfl
def c91_2 : PC := .seq (.ops [⟨some 23,.bin .lss (.tmp 22) (.tmp 21),none,0⟩] false) (.seq (.cond (.tmp 23) (.skip) (.exit 2)) (.seq (.block 3 (.seq (.ops [⟨some 24,.iaddr 1 (.tmp 20) (.tmp 22),none,0⟩,
 ⟨some 25,.load1 (.tmp 24),none,0⟩,
 ⟨some 9,.move (.tmp 25),none,0⟩] false) (.seq (.ops [⟨some 26,.move (.tmp 1),none,0⟩,
 ⟨some 27,.move (.tmp 9),none,0⟩,
 ⟨some 28,.iaddr 1 (.tmp 26) (.tmp 27),none,3⟩,
 ⟨some 29,.load1 (.tmp 28),none,7⟩,
 ⟨some 30,.move (.tmp 1),none,0⟩,
 ⟨some 31,.move (.tmp 6),none,0⟩,
 ⟨some 32,.iaddr 1 (.tmp 30) (.tmp 31),none,48⟩,
 ⟨some 33,.load1 (.tmp 32),none,112⟩,
 ⟨some 34,.bin .eql (.tmp 29) (.tmp 33),none,255⟩] true) (.cond (.tmp 34) (.ops [⟨some 35,.move (.tmp 5),none,0⟩,
 ⟨some 36,.move (.tmp 1),none,0⟩,
 ⟨some 37,.move (.tmp 6),none,0⟩,
 ⟨some 38,.iaddr 1 (.tmp 36) (.tmp 37),none,0⟩,
 ⟨some 39,.load1 (.tmp 38),none,0⟩,
 ⟨some 40,.iaddr 1 (.tmp 35) (.tmp 39),none,0⟩,
 ⟨none,.store 1 (.tmp 40) (.const (.bool true)),none,0⟩] false) (.skip))))) (.ops [⟨some 41,.bin .add (.tmp 22) (.const (.int .i64 1)),none,0⟩,
 ⟨some 22,.move (.tmp 41),none,0⟩] false)))
def c91_1 : PC := .seq (.ops [⟨some 16,.bin .lss (.tmp 15) (.tmp 14),none,0⟩] false) (.seq (.cond (.tmp 16) (.skip) (.exit 0)) (.seq (.block 1 (.seq (.ops [⟨some 17,.move (.tmp 15),none,0⟩,
 ⟨some 18,.iaddr 1 (.tmp 13) (.tmp 15),none,0⟩,
 ⟨some 19,.load1 (.tmp 18),none,0⟩,
 ⟨some 6,.move (.tmp 17),none,0⟩,
 ⟨some 7,.move (.tmp 19),none,0⟩] false) (.seq (.ops [⟨some 20,.move (.tmp 7),none,0⟩,
 ⟨some 21,.len (.tmp 20),none,0⟩,
 ⟨some 22,.move (.const (.int .i64 0)),none,0⟩] false) (.block 2 (.loop c91_2))))) (.ops [⟨some 42,.bin .add (.tmp 15) (.const (.int .i64 1)),none,0⟩,
 ⟨some 15,.move (.tmp 42),none,0⟩] false)))
def c91 : PC := .seq (.ops [⟨some 4,.move (.const (.slice none 0 0)),none,0⟩] false) (.seq (.ops [⟨some 10,.move (.tmp 0),none,0⟩,
 ⟨some 11,.len (.tmp 10),none,0⟩,
 ⟨some 12,.mslice 1 1 [(.bool false)] (.tmp 11) (.tmp 11),none,0⟩,
 ⟨some 5,.move (.tmp 12),none,0⟩] false) (.seq (.seq (.ops [⟨some 13,.move (.tmp 0),none,0⟩,
 ⟨some 14,.len (.tmp 13),none,0⟩,
 ⟨some 15,.move (.const (.int .i64 0)),none,0⟩] false) (.block 0 (.loop c91_1))) (.seq (.ops [⟨some 43,.move (.tmp 5),none,0⟩,
 ⟨some 4,.move (.tmp 43),none,0⟩] false) (.ret))))
set_option maxRecDepth 100000 in
theorem c91_ok : FunOK Try.prog 91 44 [.tmp 4] c91 := ⟨⟨Try.f91, Try.func91, rfl, by kernel_rfl, rfl, by kernel_rfl⟩⟩
set_option maxRecDepth 100000 in
theorem au_round (g : List (List Int)) (hn : g.length ≤ 1000000000) (hin0 : ∀ l ∈ g, inB l g.length = true) (hF : FitsG g) : ACall Try.prog 91 [dgrid g, dints (partsL g)] [] (.own 0 0 0 g.length) [.vec true 0 1 (rbl g.length (okT g g.length))] := by
  have hrow := fun k => inB_row hin0 k
  refine acall_intro c91_ok (by simp) (by simp) ?_ (by simp [Under]) (by simp only [List.mem_singleton]; rintro o rfl; exact underLL_pure _ (pure_rbl _ _))
  unfold dgrid
  (apply rd_sound; focus (repeat' constructor))
  ((conv=>whnf);repeat(refine .intro rfl ?_;conv=>whnf))
  rw [List.length_map]
  refine ⟨by omega, by omega, by omega, ?_⟩
  rw [Int.toNat_natCast, show List.map D.sc [Value.bool false] = [D.sc (.bool false)] from rfl, rbl_rep]
  ((conv=>whnf);repeat(refine .intro rfl ?_;conv=>whnf))
  rw [List.length_map]
  refine pwp_for [1, 5, 13, 14] (fun k : Nat => [(15, .sc (.int .i64 k))]) (fun k => [(0, .vec true 0 1 (rbl g.length (okT g k)))]) (fun k => k ≤ g.length) (fun k => g.length - k) 0 ?_
  ((conv=>whnf);repeat(refine .intro rfl ?_;conv=>whnf))
  refine ⟨by omega, by (repeat' (first | exact trivial | refine And.intro rfl ?_)), rfl, ?_⟩
  rintro k hk
  ((conv=>whnf);repeat(refine .intro rfl ?_;conv=>whnf))
  (apply rd_sound; focus (repeat' constructor))
  ((conv=>whnf);repeat(refine .intro rfl ?_;conv=>whnf))
  (refine ifK_split (fun q0 => ?_) (fun q0 => ?_) <;> (rw [q0]; ((conv=>whnf);repeat(refine .intro rfl ?_;conv=>whnf))))
  rotate_left
  · have q0 : k = g.length := by have : ¬ k < g.length := by ((try simp only[oo,reduceCtorEq]at*)<;>omega)
                                 omega
    subst q0
    exact ⟨rfl, Nat.le_refl _⟩
  have q0 : k < g.length := by ((try simp only[oo,reduceCtorEq]at*)<;>omega)
  have hp := parts_lt q0
  have hgF := hF.at k
  have eA := okN_all g k
  refine ⟨by omega, _, gridD_at (k := k) (by omega) q0, ?_⟩
  ((conv=>whnf);repeat(refine .intro rfl ?_;conv=>whnf))
  rw [List.length_map]
  refine pwp_for [1, 5, 6, 13, 14, 15, 20, 21] (fun j : Nat => [(22, .sc (.int .i64 j))]) (fun j => [(0, .vec true 0 1 (rbl g.length (okN g k j)))]) (fun j => j ≤ (g.getD k []).length) (fun j => (g.getD k []).length - j) 0 ?_
  ((conv=>whnf);repeat(refine .intro rfl ?_;conv=>whnf))
  refine ⟨by omega, by (repeat' (first | exact trivial | refine And.intro rfl ?_)), by rw [show okN g k 0 = okT g k from by funext i; unfold okN; simp]; rfl, ?_⟩
  rintro j hj
  ((conv=>whnf);repeat(refine .intro rfl ?_;conv=>whnf))
  (apply rd_sound; focus (repeat' constructor))
  ((conv=>whnf);repeat(refine .intro rfl ?_;conv=>whnf))
  (refine ifK_split (fun q1 => ?_) (fun q1 => ?_) <;> (rw [q1]; ((conv=>whnf);repeat(refine .intro rfl ?_;conv=>whnf))))
  rotate_left
  · have q1 : j = (g.getD k []).length := by have : ¬ j < (g.getD k []).length := by ((try simp only[oo,reduceCtorEq]at*)<;>omega)
                                             omega
    subst q1
    (refine .inl ⟨by (unfold InR; rw [IntKind.wrap_i64]; omega), ?_⟩; ((conv=>whnf);repeat(refine .intro rfl ?_;conv=>whnf)))
    exact ⟨k + 1, by omega, by dsimp only; omega, leB_envH (by (repeat' (first | exact trivial | refine And.intro rfl ?_))) (by rw [rbl_congr fun i _ => eA i]; rfl)⟩
  have q1 : j < (g.getD k []).length := by ((try simp only[oo,reduceCtorEq]at*)<;>omega)
  have hx := inB_mem (hrow k) (mem_getD q1)
  have e1 := fun i => okN_succ q1 i
  refine ⟨by omega, _, intsD_at (l := g.getD k []) (k := j) (by omega) q1, ?_⟩
  ((conv=>whnf);repeat(refine .intro rfl ?_;conv=>whnf))
  generalize (g.getD k []).getD j 0 = x at *
  refine ⟨by omega, _, gl_atN x.toNat (by omega) (by omega), ?_⟩
  ((conv=>whnf);repeat(refine .intro rfl ?_;conv=>whnf))
  refine ⟨by omega, _, gl_atN k (by omega) q0, ?_⟩
  ((conv=>whnf);repeat(refine .intro rfl ?_;conv=>whnf))
  cases r : (partsG g x.toNat == partsG g k)
  · ((conv=>whnf);repeat(refine .intro rfl ?_;conv=>whnf))
    (refine .inl ⟨by (unfold InR; rw [IntKind.wrap_i64]; omega), ?_⟩; ((conv=>whnf);repeat(refine .intro rfl ?_;conv=>whnf)))
    refine ⟨j + 1, by omega, by dsimp only; omega, leB_envH (by (repeat' (first | exact trivial | refine And.intro rfl ?_))) ?_⟩
    rw [rbl_congr (g' := okN g k (j + 1)) fun i _ => by rw [e1, r, Bool.and_false, Bool.or_false]]
    rfl
  · ((conv=>whnf);repeat(refine .intro rfl ?_;conv=>whnf))
    refine ⟨by omega, _, gl_atN k (by omega) q0, ?_⟩
    ((conv=>whnf);repeat(refine .intro rfl ?_;conv=>whnf))
    (refine ⟨by omega, (by first | omega | (simp; done) | (simp; omega) | (simp only [ll]; omega)), ?_⟩; ((conv=>whnf);repeat(refine .intro rfl ?_;conv=>whnf)))
    refine ⟨_, rbl_atN (partsG g k).toNat (by omega) (by omega), ?_⟩
    ((conv=>whnf);repeat(refine .intro rfl ?_;conv=>whnf))
    (refine .inl ⟨by (unfold InR; rw [IntKind.wrap_i64]; omega), ?_⟩; ((conv=>whnf);repeat(refine .intro rfl ?_;conv=>whnf)))
    refine ⟨j + 1, by omega, by dsimp only; omega, leB_envH (by (repeat' (first | exact trivial | refine And.intro rfl ?_))) ?_⟩
    rw [rbl_put (i := (partsG g k).toNat) (f' := okN g k (j + 1)) (by omega) fun v _ => by
      rw [e1, r, Bool.and_true]
      by_cases e : v = (partsG g k).toNat
      · rw [if_pos e, show (partsG g k == (v : Int)) = true by rw [beq_iff_eq]; omega, Bool.or_true]
      · rw [if_neg e, show (partsG g k == (v : Int)) = false by rw [beq_eq_false_iff_ne]; omega, Bool.or_false]]
    rfl
def c37_1 : PC := .seq (.ops [⟨some 13,.bin .lss (.tmp 12) (.tmp 11),none,0⟩] false) (.seq (.cond (.tmp 13) (.skip) (.exit 0)) (.seq (.block 1 (.seq (.ops [⟨some 14,.iaddr 1 (.tmp 10) (.tmp 12),none,0⟩,
 ⟨some 15,.load1 (.tmp 14),none,0⟩,
 ⟨some 7,.move (.tmp 15),none,0⟩] false) (.ops [⟨some 16,.move (.tmp 5),none,0⟩,
 ⟨some 17,.move (.tmp 7),none,0⟩,
 ⟨some 18,.iaddr 1 (.tmp 16) (.tmp 17),none,0⟩,
 ⟨none,.store 1 (.tmp 18) (.const (.bool true)),none,0⟩] false))) (.ops [⟨some 19,.bin .add (.tmp 12) (.const (.int .i64 1)),none,0⟩,
 ⟨some 12,.move (.tmp 19),none,0⟩] false)))
def c37 : PC := .seq (.ops [⟨some 4,.move (.const (.slice none 0 0)),none,0⟩] false) (.seq (.ops [⟨some 8,.move (.tmp 1),none,0⟩,
 ⟨some 9,.mslice 1 1 [(.bool false)] (.tmp 8) (.tmp 8),none,0⟩,
 ⟨some 5,.move (.tmp 9),none,0⟩] false) (.seq (.seq (.ops [⟨some 10,.move (.tmp 0),none,0⟩,
 ⟨some 11,.len (.tmp 10),none,0⟩,
 ⟨some 12,.move (.const (.int .i64 0)),none,0⟩] false) (.block 0 (.loop c37_1))) (.seq (.ops [⟨some 20,.move (.tmp 5),none,0⟩,
 ⟨some 4,.move (.tmp 20),none,0⟩] false) (.ret))))
set_option maxRecDepth 100000 in
theorem c37_ok : FunOK Try.prog 37 21 [.tmp 4] c37 := ⟨⟨Try.f37, Try.func37, rfl, by kernel_rfl, rfl, by kernel_rfl⟩⟩
theorem au_member (l : List Int) (n : Nat) (hn : n ≤ 1000000) (hl : l.length ≤ 17592186043904) (hin : inB l n = true) : PCall Try.prog 37 [dints l, .sc (.int .i64 n)] (dbl n (setB l)) := by
  have eS : ∀ k, k < l.length → ∀ v, setB (l.take (k + 1)) v = if v = (l.getD k 0).toNat then true else setB (l.take k) v := fun k hk v => by
    have hx := inB_mem hin (mem_getD hk)
    unfold setB
    rw [List.getD_eq_getElem?_getD, List.getElem?_eq_getElem hk] at hx ⊢
    simp only [Option.getD_some] at hx ⊢
    rw [Bool.eq_iff_iff, List.contains_iff_mem, List.take_add_one, List.getElem?_eq_getElem hk]
    split
    · rename_i q
      rw [List.mem_append, Option.toList_some, List.mem_singleton]
      exact ⟨fun _ => rfl, fun _ => .inr (by omega)⟩
    · rename_i q
      rw [List.contains_iff_mem, List.mem_append, Option.toList_some, List.mem_singleton]
      exact ⟨fun h => h.resolve_right (by omega), .inl⟩
  refine pcall_intro c37_ok (by simp) (by simp [PureL, Pure, pure_dints]) ?_ (pure_dbl _ _)
  (apply rd_sound; focus (repeat' constructor))
  ((conv=>whnf);repeat(refine .intro rfl ?_;conv=>whnf))
  refine ⟨by omega, by omega, by omega, ?_⟩
  rw [Int.toNat_natCast, show List.map D.sc [Value.bool false] = [D.sc (.bool false)] from rfl, rbl_rep]
  ((conv=>whnf);repeat(refine .intro rfl ?_;conv=>whnf))
  rw [List.length_map]
  refine pwp_for [5, 10, 11] (fun k : Nat => [(12, .sc (.int .i64 k))]) (fun k => [(0, .vec true 0 1 (rbl n (setB (l.take k))))]) (fun k => k ≤ l.length) (fun k => l.length - k) 0 ?_
  ((conv=>whnf);repeat(refine .intro rfl ?_;conv=>whnf))
  refine ⟨by omega, by (repeat' (first | exact trivial | refine And.intro rfl ?_)), rfl, ?_⟩
  rintro k hk
  ((conv=>whnf);repeat(refine .intro rfl ?_;conv=>whnf))
  (apply rd_sound; focus (repeat' constructor))
  ((conv=>whnf);repeat(refine .intro rfl ?_;conv=>whnf))
  (refine ifK_split (fun q0 => ?_) (fun q0 => ?_) <;> (rw [q0]; ((conv=>whnf);repeat(refine .intro rfl ?_;conv=>whnf))))
  · have q0 : k < l.length := by ((try simp only[oo,reduceCtorEq]at*)<;>omega)
    have hx := inB_mem hin (mem_getD q0)
    refine ⟨by omega, _, intsD_at (l := l) (k := k) (by omega) q0, ?_⟩
    ((conv=>whnf);repeat(refine .intro rfl ?_;conv=>whnf))
    have e := eS k q0
    generalize l.getD k 0 = x at *
    (refine ⟨by omega, (by first | omega | (simp; done) | (simp; omega) | (simp only [ll]; omega)), ?_⟩; ((conv=>whnf);repeat(refine .intro rfl ?_;conv=>whnf)))
    refine ⟨_, rbl_atN x.toNat (by omega) (by omega), ?_⟩
    ((conv=>whnf);repeat(refine .intro rfl ?_;conv=>whnf))
    (refine .inl ⟨by (unfold InR; rw [IntKind.wrap_i64]; omega), ?_⟩; ((conv=>whnf);repeat(refine .intro rfl ?_;conv=>whnf)))
    refine ⟨k + 1, by omega, by dsimp only; omega, leB_envH (by (repeat' (first | exact trivial | refine And.intro rfl ?_))) ?_⟩
    rw [rbl_put (i := x.toNat) (f' := setB (l.take (k + 1))) (by omega) fun v _ => e v]
    rfl
  · have q0 : k = l.length := by have : ¬ k < l.length := by ((try simp only[oo,reduceCtorEq]at*)<;>omega)
                                 omega
    subst q0
    rw [List.take_length]
    exact deep_vec rfl
end

/-! ### XAu5 -/
section
open Go.RowKit
set_option linter.unusedSimpArgs false
set_option linter.unusedVariables false
structure ReS where
  num : Nat → Int
  L : List Int
  T : List Int
def topD (s : ReS) : Int := s.T.getD (s.T.length - 1) 0
def stD (g : List (List Int)) (s : ReS) : ReS :=
  if s.T.length = 0 then s
  else if s.num (topD s).toNat = 0 then ⟨fun v => if v = (topD s).toNat then ((s.L.length + 1 : Nat) : Int) else s.num v, s.L ++ [topD s], s.T.take (s.T.length - 1) ++ g.getD (topD s).toNat []⟩
  else ⟨s.num, s.L, s.T.take (s.T.length - 1)⟩
def itD (g : List (List Int)) (s : ReS) : Nat → ReS
  | 0 => s
  | n + 1 => stD g (itD g s n)
theorem cut_top {T : List Int} (h : T.length ≠ 0) : T = T.take (T.length - 1) ++ [T.getD (T.length - 1) 0] := by
  have h1 := List.take_append_drop (T.length - 1) T
  have h2 : T.drop (T.length - 1) = [T.getD (T.length - 1) 0] := by
    rw [List.getD_eq_getElem?_getD, List.getElem?_eq_getElem (by omega)]
    rw [List.drop_eq_getElem_cons (by omega), List.drop_eq_nil_of_le (by omega)]
    rfl
  rw [h2] at h1
  exact h1.symm
theorem stD_inv {g : List (List Int)} (hin : ∀ v x, x ∈ g.getD v [] → 0 ≤ x ∧ x.toNat < g.length) {from_ : List Int} {s : ReS} (h : ReI g from_ s.num s.L s.T) : ReI g from_ (stD g s).num (stD g s).L (stD g s).T := by
  unfold stD
  split
  · exact h
  · rename_i q
    have h' : ReI g from_ s.num s.L (s.T.take (s.T.length - 1) ++ [topD s]) := by
      have := cut_top q
      unfold topD
      rw [← this]; exact h
    split
    · rename_i r; exact h'.new hin r
    · rename_i r; exact h'.old r
theorem itD_inv {g : List (List Int)} (hin : ∀ v x, x ∈ g.getD v [] → 0 ≤ x ∧ x.toNat < g.length) {from_ : List Int} {s : ReS} (h : ReI g from_ s.num s.L s.T) : ∀ n, ReI g from_ (itD g s n).num (itD g s n).L (itD g s n).T
  | 0 => h
  | n + 1 => stD_inv hin (itD_inv hin h n)
def seenD (s : ReS) : Nat → Bool := fun v => decide (s.num v ≠ 0)
def muD (g : List (List Int)) (s : ReS) : Nat := s.T.length + potG g (seenD s)
theorem stD_mu {g : List (List Int)} {from_ : List Int} {s : ReS} (h : ReI g from_ s.num s.L s.T) (hT : s.T.length ≠ 0) : muD g (stD g s) + 1 = muD g s := by
  have ht := h.rngT _ (mem_getD (l := s.T) (k := s.T.length - 1) (by omega))
  unfold stD
  rw [if_neg hT]
  split
  · rename_i r
    have e : seenD ⟨fun v => if v = (topD s).toNat then ((s.L.length + 1 : Nat) : Int) else s.num v, s.L ++ [topD s], s.T.take (s.T.length - 1) ++ g.getD (topD s).toNat []⟩ = mark (seenD s) (topD s).toNat := by
      funext v
      unfold seenD mark
      dsimp only
      by_cases q : v = (topD s).toNat
      · simp only [q, if_true, decide_eq_true_eq]; omega
      · simp only [q, if_false]
    have hp := potG_mark (g := g) (s := seenD s) (v := (topD s).toNat) ht.2 (by unfold seenD; simp [r])
    unfold muD
    rw [e]
    simp only [List.length_append, List.length_take]
    omega
  · unfold muD
    have : seenD ⟨s.num, s.L, s.T.take (s.T.length - 1)⟩ = seenD s := rfl
    rw [this]
    simp only [List.length_take]
    omega
theorem itD_mu {g : List (List Int)} (hin : ∀ v x, x ∈ g.getD v [] → 0 ≤ x ∧ x.toNat < g.length) {from_ : List Int} {s : ReS} (h : ReI g from_ s.num s.L s.T) : ∀ n, (itD g s n).T.length = 0 ∨ muD g (itD g s n) + n = muD g s
  | 0 => .inr rfl
  | n + 1 => by
    rcases Nat.eq_zero_or_pos (itD g s n).T.length with q | q
    · left
      show (stD g (itD g s n)).T.length = 0
      unfold stD
      rw [if_pos q]; exact q
    · have := stD_mu (itD_inv hin h n) (by omega)
      rcases itD_mu hin h n with r | r
      · omega
      · right
        show muD g (stD g (itD g s n)) + (n + 1) = _
        omega
theorem itD_end {g : List (List Int)} (hin : ∀ v x, x ∈ g.getD v [] → 0 ≤ x ∧ x.toNat < g.length) {from_ : List Int} {s : ReS} (h : ReI g from_ s.num s.L s.T) : (itD g s (muD g s)).T.length = 0 := by
  rcases itD_mu hin h (muD g s) with r | r
  · exact r
  · unfold muD at r
    unfold muD
    omega
theorem itD_stop {g : List (List Int)} {s : ReS} {k : Nat} (h : (itD g s k).T.length = 0) : ∀ n, itD g s (k + n) = itD g s k
  | 0 => rfl
  | n + 1 => by
    show stD g (itD g s (k + n)) = _
    rw [itD_stop h n]
    unfold stD
    rw [if_pos h]
/-- The search ends in one state. -/
theorem itD_fin {g : List (List Int)} (hin : ∀ v x, x ∈ g.getD v [] → 0 ≤ x ∧ x.toNat < g.length) {from_ : List Int} {s : ReS} (h : ReI g from_ s.num s.L s.T) {k : Nat} (hk : (itD g s k).T.length = 0) : itD g s k = itD g s (muD g s) := by
  have he := itD_end hin h
  rcases Nat.le_total k (muD g s) with q | q
  · have := itD_stop hk (muD g s - k)
    rw [show k + (muD g s - k) = muD g s by omega] at this
    exact this.symm
  · have := itD_stop he (k - muD g s)
    rw [show muD g s + (k - muD g s) = k by omega] at this
    exact this
end

/-! ### XAu6 -/
section
open Go.RowKit
set_option linter.unusedSimpArgs false
set_option linter.unusedVariables false
def beginD (from_ : List Int) : ReS := ⟨fun _ => 0, [], from_⟩
def finD (g : List (List Int)) (from_ : List Int) : ReS := itD g (beginD from_) (muD g (beginD from_))
theorem pure_i64L (l : List Int) : PureLL (i64s l) := by simp [i64s, PureL, Pure]
theorem itD_len (g : List (List Int)) (s : ReS) : ∀ n, (itD g s n).L.length ≤ s.L.length + n
  | 0 => Nat.le_refl _
  | n + 1 => by
    have := itD_len g s n
    show (stD g (itD g s n)).L.length ≤ _
    unfold stD
    split
    · omega
    · split
      · simp only [List.length_append, List.length_singleton]; omega
      · dsimp only; omega
def smallG (g : List (List Int)) (s : ReS) : List (List Int) := (List.range s.L.length).map fun i => (g.getD (s.L.getD i 0).toNat []).map fun y => s.num y.toNat - 1
def rowS (g : List (List Int)) (s : ReS) (v j : Nat) : List Int := ((g.getD (s.L.getD v 0).toNat []).take j).map fun y => s.num y.toNat - 1
theorem rowS_succ {g : List (List Int)} {s : ReS} {v j : Nat} (h : j < (g.getD (s.L.getD v 0).toNat []).length) : rowS g s v (j + 1) = rowS g s v j ++ [s.num ((g.getD (s.L.getD v 0).toNat []).getD j 0).toNat - 1] := by
  unfold rowS
  rw [List.take_add_one, List.getElem?_eq_getElem h, List.map_append, List.getD_eq_getElem?_getD (l := g.getD (s.L.getD v 0).toNat []), List.getElem?_eq_getElem h]
  rfl
theorem rowS_len (g : List (List Int)) (s : ReS) (v j : Nat) : (rowS g s v j).length ≤ j := by unfold rowS; simp; omega
def degS (g : List (List Int)) (s : ReS) (v : Nat) : Nat := (g.getD (s.L.getD v 0).toNat []).length
theorem rowS_all (g : List (List Int)) (s : ReS) : (List.range s.L.length).map (fun v => rowS g s v (degS g s v)) = smallG g s := by
  unfold smallG rowS degS
  exact List.map_congr_left fun v _ => by rw [List.take_length]
def c90_1 : PC := .seq (.seq (.ops [⟨some 20,.move (.tmp 7),none,0⟩,
 ⟨some 21,.len (.tmp 20),none,0⟩,
 ⟨some 22,.bin .gtr (.tmp 21) (.const (.int .i64 0)),none,0⟩] false) (.cond (.tmp 22) (.skip) (.exit 0))) (.block 1 (.seq (.ops [⟨some 23,.move (.tmp 7),none,0⟩,
 ⟨some 24,.move (.tmp 7),none,0⟩,
 ⟨some 25,.len (.tmp 24),none,0⟩,
 ⟨some 26,.bin .sub (.tmp 25) (.const (.int .i64 1)),none,0⟩,
 ⟨some 27,.iaddr 1 (.tmp 23) (.tmp 26),none,0⟩,
 ⟨some 28,.load1 (.tmp 27),none,0⟩,
 ⟨some 9,.move (.tmp 28),none,0⟩] false) (.seq (.ops [⟨some 29,.move (.tmp 7),none,0⟩,
 ⟨some 30,.move (.tmp 7),none,0⟩,
 ⟨some 31,.len (.tmp 30),none,0⟩,
 ⟨some 32,.bin .sub (.tmp 31) (.const (.int .i64 1)),none,0⟩,
 ⟨some 33,.slc 1 (.tmp 29) none (some (.tmp 32)) none,none,0⟩,
 ⟨some 7,.move (.tmp 33),none,0⟩] false) (.seq (.ops [⟨some 34,.move (.tmp 6),none,0⟩,
 ⟨some 35,.move (.tmp 9),none,0⟩,
 ⟨some 36,.iaddr 1 (.tmp 34) (.tmp 35),none,0⟩,
 ⟨some 37,.load1 (.tmp 36),none,0⟩,
 ⟨some 38,.bin .eql (.tmp 37) (.const (.int .i64 0)),none,0⟩] false) (.cond (.tmp 38) (.seq (.ops [⟨some 39,.move (.tmp 8),none,0⟩,
 ⟨some 40,.move (.tmp 9),none,0⟩,
 ⟨some 41,.bslice 1 1 [(.tmp 40)],none,0⟩,
 ⟨some 42,.append 1 8 (.tmp 39) (.tmp 41),none,0⟩,
 ⟨some 8,.move (.tmp 42),none,0⟩] false) (.seq (.ops [⟨some 43,.move (.tmp 6),none,0⟩,
 ⟨some 44,.move (.tmp 9),none,0⟩,
 ⟨some 45,.move (.tmp 8),none,0⟩,
 ⟨some 46,.len (.tmp 45),none,0⟩,
 ⟨some 47,.iaddr 1 (.tmp 43) (.tmp 44),none,0⟩,
 ⟨none,.store 1 (.tmp 47) (.tmp 46),none,0⟩] false) (.ops [⟨some 48,.move (.tmp 7),none,0⟩,
 ⟨some 49,.move (.tmp 0),none,0⟩,
 ⟨some 50,.move (.tmp 9),none,0⟩,
 ⟨some 51,.iaddr 1 (.tmp 49) (.tmp 50),none,0⟩,
 ⟨some 52,.load1 (.tmp 51),none,0⟩,
 ⟨some 53,.append 1 8 (.tmp 48) (.tmp 52),none,0⟩,
 ⟨some 7,.move (.tmp 53),none,0⟩] false))) (.skip))))))
def c90_3 : PC := .seq (.ops [⟨some 70,.bin .lss (.tmp 69) (.tmp 68),none,0⟩] false) (.seq (.cond (.tmp 70) (.skip) (.exit 4)) (.seq (.block 5 (.seq (.ops [⟨some 71,.iaddr 1 (.tmp 67) (.tmp 69),none,0⟩,
 ⟨some 72,.load1 (.tmp 71),none,0⟩,
 ⟨some 14,.move (.tmp 72),none,0⟩] false) (.ops [⟨some 73,.move (.tmp 10),none,0⟩,
 ⟨some 74,.move (.tmp 11),none,0⟩,
 ⟨some 75,.move (.tmp 10),none,0⟩,
 ⟨some 76,.move (.tmp 11),none,0⟩,
 ⟨some 77,.iaddr 1 (.tmp 75) (.tmp 76),none,12⟩,
 ⟨some 78,.load1 (.tmp 77),none,28⟩,
 ⟨some 79,.move (.tmp 6),none,0⟩,
 ⟨some 80,.move (.tmp 14),none,0⟩,
 ⟨some 81,.iaddr 1 (.tmp 79) (.tmp 80),none,192⟩,
 ⟨some 82,.load1 (.tmp 81),none,448⟩,
 ⟨some 83,.bin .sub (.tmp 82) (.const (.int .i64 1)),none,960⟩,
 ⟨some 84,.bslice 1 1 [(.tmp 83)],none,1984⟩,
 ⟨some 85,.append 1 8 (.tmp 78) (.tmp 84),none,4092⟩,
 ⟨some 86,.iaddr 1 (.tmp 73) (.tmp 74),none,8191⟩,
 ⟨none,.store 1 (.tmp 86) (.tmp 85),none,16383⟩] true))) (.ops [⟨some 87,.bin .add (.tmp 69) (.const (.int .i64 1)),none,0⟩,
 ⟨some 69,.move (.tmp 87),none,0⟩] false)))
def c90_2 : PC := .seq (.ops [⟨some 60,.bin .lss (.tmp 59) (.tmp 58),none,0⟩] false) (.seq (.cond (.tmp 60) (.skip) (.exit 2)) (.seq (.block 3 (.seq (.ops [⟨some 61,.move (.tmp 59),none,0⟩,
 ⟨some 62,.iaddr 1 (.tmp 57) (.tmp 59),none,0⟩,
 ⟨some 63,.load1 (.tmp 62),none,0⟩,
 ⟨some 11,.move (.tmp 61),none,0⟩,
 ⟨some 12,.move (.tmp 63),none,0⟩] false) (.seq (.ops [⟨some 64,.move (.tmp 0),none,0⟩,
 ⟨some 65,.move (.tmp 12),none,0⟩,
 ⟨some 66,.iaddr 1 (.tmp 64) (.tmp 65),none,0⟩,
 ⟨some 67,.load1 (.tmp 66),none,0⟩,
 ⟨some 68,.len (.tmp 67),none,0⟩,
 ⟨some 69,.move (.const (.int .i64 0)),none,0⟩] false) (.block 4 (.loop c90_3))))) (.ops [⟨some 88,.bin .add (.tmp 59) (.const (.int .i64 1)),none,0⟩,
 ⟨some 59,.move (.tmp 88),none,0⟩] false)))
def c90 : PC := .seq (.ops [⟨some 4,.move (.const (.slice none 0 0)),none,0⟩,
 ⟨some 5,.move (.const (.slice none 0 0)),none,0⟩] false) (.seq (.ops [⟨some 15,.move (.tmp 0),none,0⟩,
 ⟨some 16,.len (.tmp 15),none,0⟩,
 ⟨some 17,.mslice 1 8 [(.int .i64 0)] (.tmp 16) (.tmp 16),none,0⟩,
 ⟨some 6,.move (.tmp 17),none,0⟩] false) (.seq (.ops [⟨some 18,.move (.tmp 1),none,0⟩,
 ⟨some 19,.call 72 [(.tmp 18)],none,0⟩,
 ⟨some 7,.move (.tmp 19),none,0⟩] false) (.seq (.ops [⟨some 8,.move (.const (.slice none 0 0)),none,0⟩] false) (.seq (.block 0 (.loop c90_1)) (.seq (.ops [⟨some 54,.move (.tmp 8),none,0⟩,
 ⟨some 55,.len (.tmp 54),none,0⟩,
 ⟨some 56,.mslice 1 24 [(.slice none 0 0)] (.tmp 55) (.tmp 55),none,0⟩,
 ⟨some 10,.move (.tmp 56),none,0⟩] false) (.seq (.seq (.ops [⟨some 57,.move (.tmp 8),none,0⟩,
 ⟨some 58,.len (.tmp 57),none,0⟩,
 ⟨some 59,.move (.const (.int .i64 0)),none,0⟩] false) (.stop (.block 2 (.loop c90_2)))) (.seq (.ops [⟨some 89,.move (.tmp 8),none,0⟩,
 ⟨some 90,.move (.tmp 10),none,0⟩,
 ⟨some 4,.move (.tmp 89),none,0⟩,
 ⟨some 5,.move (.tmp 90),none,0⟩] false) (.ret))))))))
set_option maxRecDepth 100000 in
theorem c90_ok : FunOK Try.prog 90 91 [.tmp 4, .tmp 5] c90 := ⟨⟨Try.f90, Try.func90, rfl, by kernel_rfl, rfl, by kernel_rfl⟩⟩
set_option maxRecDepth 100000 in
theorem au_reached (g : List (List Int)) (hn : g.length ≤ 1000000000) (hin0 : ∀ l ∈ g, inB l g.length = true) (hF : FitsG g) (from_ : List Int) (hf : inB from_ g.length = true) (hB : muD g (beginD from_) ≤ 1000000000000) :
    PCall Try.prog 90 [dgrid g, dints from_] (.tup [dints (finD g from_).L, dgrid (smallG g (finD g from_))]) := by
  have hrow := fun k => inB_row hin0 k
  have hin : ∀ v x, x ∈ g.getD v [] → 0 ≤ x ∧ x.toNat < g.length := fun v x hx => by have := inB_mem (hrow v) hx; omega
  have hI0 : ReI g from_ (beginD from_).num (beginD from_).L (beginD from_).T := ReI.begin fun x hx => by have := inB_mem hf hx; omega
  have hInv := fun i => itD_inv hin hI0 i
  have hMu := fun i => itD_mu hin hI0 i
  have hLen := fun i => itD_len g (beginD from_) i
  have hfl : from_.length ≤ 1000000000000 := by unfold muD beginD at hB; dsimp only at hB; omega
  refine pcall_intro c90_ok (by simp) (by simp [PureL, Pure, pure_dgrid, pure_dints]) ?_ (by simp [Pure, PureL, pure_dints, pure_dgrid])
  unfold dgrid
  (apply rd_sound; focus (repeat' constructor))
  ((conv=>whnf);repeat(refine .intro rfl ?_;conv=>whnf))
  rw [List.length_map]
  refine ⟨by omega, by omega, by omega, ?_⟩
  rw [Int.toNat_natCast, show List.map D.sc [Value.int IntKind.i64 0] = [D.sc (.int .i64 0)] from rfl, gl_rep]
  ((conv=>whnf);repeat(refine .intro rfl ?_;conv=>whnf))
  (refine .inr (.inr (.inr (.inr (.inl ⟨_, _, _, (acallAt_new (cloneO_int from_ (by omega)) (by simp [PureL, Pure]) [1] rfl rfl (by simp [AObj.ren, renL, D.ren]; rfl)), ?_⟩)))); ((conv=>whnf);repeat(refine .intro rfl ?_;conv=>whnf)))
  refine pwp_ghostB (leB_nil 8 1 (by simp) rfl) ?_
  refine pwp_for [0, 6] (fun ((i, Z, h, ver, c) : Nat × List Int × Nat × Nat × Nat) => [(7, .own 1 ver 0 h), (8, .own 2 c 0 c)]) (fun (i, Z, h, ver, c) => [(0, .vec true 0 1 (i64s (gl g.length (itD g (beginD from_) i).num))), (1, .vec true ver 1 (i64s Z)), (2, .vec true c 1 (i64s (itD g (beginD from_) i).L))])
    (fun (i, Z, h, ver, c) => h ≤ Z.length ∧ Z.take h = (itD g (beginD from_) i).T ∧ (itD g (beginD from_) i).L.length = c) (fun (i, Z, h, ver, c) => muD g (itD g (beginD from_) i)) (0, from_, from_.length, 1, 0) ?_
  ((conv=>whnf);repeat(refine .intro rfl ?_;conv=>whnf))
  refine ⟨⟨by omega, by rw [List.take_length]; rfl, rfl⟩, by (repeat' (first | exact trivial | refine And.intro rfl ?_)), rfl, ?_⟩
  rintro ⟨i, Z, h, ver, c⟩ ⟨hh, hT, hc⟩
  have hI := hInv i
  have hM := hMu i
  have eN : itD g (beginD from_) (i + 1) = stD g (itD g (beginD from_) i) := rfl
  have hfin := fun q => itD_fin hin hI0 (k := i) q
  have hst := fun q => stD_mu (hInv i) q
  ((conv=>whnf);repeat(refine .intro rfl ?_;conv=>whnf))
  (apply rd_sound; focus (repeat' constructor))
  ((conv=>whnf);repeat(refine .intro rfl ?_;conv=>whnf))
  (refine ifK_split (fun h1 => ?_) (fun h1 => ?_) <;> (rw [h1]; ((conv=>whnf);repeat(refine .intro rfl ?_;conv=>whnf))))
  · have h1 : 1 ≤ h := by ((try simp only[oo,reduceCtorEq]at*)<;>omega)
    have hTl : (itD g (beginD from_) i).T.length = h := by rw [← hT, List.length_take]; omega
    have hTm : (itD g (beginD from_) i).T.length ≤ muD g (itD g (beginD from_) i) := by unfold muD; omega
    have hb12 : h ≤ 1000000000000 := by omega
    have hc12 : c ≤ 1000000000000 := by
      have h2 := hLen i
      rw [show (beginD from_).L.length = 0 from rfl] at h2
      omega
    have htop : topD (itD g (beginD from_) i) = Z.getD (h - 1) 0 := by
      unfold topD
      rw [hTl, ← hT, List.getD_eq_getElem?_getD, List.getElem?_take, if_pos (by omega), List.getD_eq_getElem?_getD]
    have hx := hI.rngT _ (mem_getD (l := (itD g (beginD from_) i).T) (k := h - 1) (by omega))
    have hx2 : (itD g (beginD from_) i).T.getD (h - 1) 0 = topD (itD g (beginD from_) i) := by unfold topD; rw [hTl]
    rw [hx2, htop] at hx
    have hst := hst (by omega)
    have hTt : (itD g (beginD from_) i).T.take (h - 1) = Z.take (h - 1) := by rw [← hT, List.take_take]; congr 1; omega
    (refine .inl ⟨by (unfold InR; rw [IntKind.wrap_i64]; omega), ?_⟩; ((conv=>whnf);repeat(refine .intro rfl ?_;conv=>whnf)))
    (refine ⟨by omega, (by first | omega | (simp; done) | (simp; omega) | (simp only [ll]; omega)), ?_⟩; ((conv=>whnf);repeat(refine .intro rfl ?_;conv=>whnf)))
    refine ⟨_, intsD_at (l := Z) (k := h - 1) (by omega) (by omega), ?_⟩
    ((conv=>whnf);repeat(refine .intro rfl ?_;conv=>whnf))
    unfold stD at eN
    rw [if_neg (by omega), hTl, htop, hTt] at eN
    have eN1 : (itD g (beginD from_) (i + 1)) = stD g (itD g (beginD from_) i) := rfl
    generalize hv : Z.getD (h - 1) 0 = x at *
    generalize hs : itD g (beginD from_) i = s at *
    (refine .inl ⟨by (unfold InR; rw [IntKind.wrap_i64]; omega), ?_⟩; ((conv=>whnf);repeat(refine .intro rfl ?_;conv=>whnf)))
    refine ⟨by omega, by omega, by omega, ?_⟩
    ((conv=>whnf);repeat(refine .intro rfl ?_;conv=>whnf))
    (refine ⟨by omega, (by first | omega | (simp; done) | (simp; omega) | (simp only [ll]; omega)), ?_⟩; ((conv=>whnf);repeat(refine .intro rfl ?_;conv=>whnf)))
    refine ⟨_, gl_atN x.toNat (by omega) (by omega), ?_⟩
    ((conv=>whnf);repeat(refine .intro rfl ?_;conv=>whnf))
    (refine ifK_split (fun h2 => ?_) (fun h2 => ?_) <;> (rw [h2]; ((conv=>whnf);repeat(refine .intro rfl ?_;conv=>whnf))))
    · have h2 : s.num x.toNat = 0 := by ((try simp only[oo,reduceCtorEq]at*)<;>omega)
      rw [if_pos h2] at eN
      have hdeg : (g.getD x.toNat []).length ≤ 1000000000000 := by
        have hp := potG_mark (g := g) (s := seenD s) (v := x.toNat) (by omega) (by unfold seenD; simp [h2])
        have : potG g (seenD s) ≤ muD g s := by unfold muD; omega
        omega
      refine ⟨(by unfold sliceAppend; simp only [ll]; omega), ?_⟩
      ((conv=>whnf);repeat(refine .intro rfl ?_;conv=>whnf))
      (refine ⟨by omega, (by first | omega | (simp; done) | (simp; omega) | (simp only [ll]; omega)), ?_⟩; ((conv=>whnf);repeat(refine .intro rfl ?_;conv=>whnf)))
      refine ⟨_, gl_atN x.toNat (by omega) (by omega), ?_⟩
      ((conv=>whnf);repeat(refine .intro rfl ?_;conv=>whnf))
      refine ⟨by omega, _, gridD_at (k := x.toNat) (by omega) (by omega), ?_⟩
      ((conv=>whnf);repeat(refine .intro rfl ?_;conv=>whnf))
      refine ⟨(by unfold sliceAppend; simp only [ll]; omega), ?_⟩
      ((conv=>whnf);repeat(refine .intro rfl ?_;conv=>whnf))
      refine ⟨(i + 1, Z.take (h - 1) ++ g.getD x.toNat [], (h - 1) + (g.getD x.toNat []).length, ver + 1, c + 1), ⟨by simp; omega, ?_, ?_⟩, ?_, ?_⟩
      · rw [eN, List.take_of_length_le (by simp; omega)]
      · rw [eN]; simp [hc]
      · show muD g (itD g (beginD from_) (i + 1)) < muD g (itD g (beginD from_) i); rw [hs, eN1]; omega
      · dsimp only
        rw [eN, show (0 + (((h - 0 : Nat) : Int) - 1).toNat - (0 + 0) + (List.map (fun n => [D.sc (Value.int IntKind.i64 n)]) (g.getD x.toNat [])).length) = h - 1 + (g.getD x.toNat []).length from by simp, show (c - 0 + (List.drop 0 (List.take 1 [[D.sc (Value.int IntKind.i64 x)]])).length) = c + 1 from by simp]
        (refine leB_close 3 (by simp) rfl ?_ ?_ <;> (repeat' (first | exact trivial | exact rfl | exact DeepM.refl _ | exact DeepML.refl _ | exact DeepMLL.refl _ | refine And.intro ?_ ?_ | (simp [Under, UnderL, UnderLL, -List.map_take, -List.map_drop]; done))))
        · refine deepMLL_eq ?_
          rw [show ((c + 1 - 0 : Nat) : Int) = ((s.L.length + 1 : Nat) : Int) by omega, gl_set (k := x.toNat) (by omega)]
          rfl
        · exact deepMLL_eq (by rw [i64s_cut (h := h - 1) (by omega)])
        · exact deepMLL_eq (by rw [drop_take_all (by simp [hc])]; simp [i64s])
    · have h2 : ¬ s.num x.toNat = 0 := by ((try simp only[oo,reduceCtorEq]at*)<;>omega)
      rw [if_neg h2] at eN
      refine ⟨(i + 1, Z, h - 1, ver, c), ⟨by omega, by rw [eN], by rw [eN]; exact hc⟩, by show muD g (itD g (beginD from_) (i + 1)) < muD g (itD g (beginD from_) i); rw [hs, eN1]; omega, ?_⟩
      dsimp only
      rw [eN]
      exact leB_envH ⟨congrArg (D.own 1 ver 0) (by omega), by (repeat' (first | exact trivial | refine And.intro rfl ?_))⟩ rfl
  · have h0 : h = 0 := by ((try simp only[oo,reduceCtorEq]at*)<;>omega)
    subst h0
    have hTl : (itD g (beginD from_) i).T.length = 0 := by rw [← hT]; simp
    have e := hfin hTl
    rw [show itD g (beginD from_) (muD g (beginD from_)) = finD g from_ from rfl] at e
    have hlenF : (finD g from_).L.length ≤ 1000000000000 := by
      have h2 := hLen (muD g (beginD from_))
      rw [show (beginD from_).L.length = 0 from rfl] at h2
      show (itD g (beginD from_) (muD g (beginD from_))).L.length ≤ _
      omega
    rw [e] at hI hc ⊢
    have hend : (finD g from_).T = [] := List.length_eq_zero_iff.1 (by rw [← e]; exact hTl)
    clear hfin hst hInv hMu hLen eN hM hTl
    generalize finD g from_ = s at *
    rw [hend] at hI
    refine ⟨by omega, by omega, by omega, ?_⟩
    ((conv=>whnf);repeat(refine .intro rfl ?_;conv=>whnf))
    have hcut : List.drop 0 (List.take c (i64s s.L)) = i64s s.L := drop_take_all (by simp [hc])
    have hcn : (((c - 0 : Nat) : Int)).toNat = c := by omega
    rw [hcn, show ((c - 0 : Nat) : Int) = (c : Int) by omega]
    refine pwp_ghostB (leB_freeze (fun i => i == 0 || i == 2) (env' := [(0, dgrid g), (6, dints (gl g.length s.num)), (8, dints s.L), (10, .own 3 0 0 c), (57, dints s.L), (58, .sc (.int .i64 c)), (59, .sc (.int .i64 0))])
      (H' := [.vec false 0 1 (i64s (gl g.length s.num)), .vec true ver 1 (i64s Z), .vec false c 1 (i64s s.L), .vec true 0 1 (List.replicate c [.sc (.slice none 0 0)])]) ?_ ?_) ?_
    · exact ⟨.refl _, .own _ _ _ _ _ _ _ _ rfl rfl (deepMLL_eq (by rw [drop_take_all (by simp)]; rfl)), .own _ _ _ _ _ _ _ _ rfl rfl (deepMLL_eq hcut), .refl _, .own _ _ _ _ _ _ _ _ rfl rfl (deepMLL_eq hcut), .refl _, .refl _, trivial⟩
    · (repeat' (first | exact trivial | refine And.intro ?_ ?_ | exact Or.inl rfl | exact Or.inr ⟨rfl, rfl⟩ | exact fun _ => rfl | exact (fun h => by cases h) | refine DeepM.loc _ _ _ _ _ rfl rfl ?_ | refine DeepM.own _ _ _ _ _ _ _ _ rfl rfl ?_ | refine DeepM.fn _ _ _ _ _ ?_ ?_ | refine DeepM.agg _ _ ?_ | refine DeepM.tup _ _ ?_ | refine DeepM.ifc _ _ _ ?_ | exact DeepM.refl _ | refine DeepML.cons _ _ _ _ ?_ ?_ | exact DeepML.refl _ | refine DeepMLL.cons _ _ _ _ ?_ ?_ | exact DeepMLL.refl _ | exact rfl))
    refine pwp_cut (fun _ : Unit => [(8, dints s.L), (10, .own 3 0 0 c)]) (fun _ => [.vec false 0 1 (i64s (gl g.length s.num)), .vec true ver 1 (i64s Z), .vec false c 1 (i64s s.L), .vec true 0 1 ((smallG g s).map fun l => [dints l])]) (fun _ => True) ?_ ?_
    · (apply rd_sound; focus (repeat' constructor))
      ((conv=>whnf);repeat(refine .intro rfl ?_;conv=>whnf))
      refine pwp_ghostB (leB_nils 3 1 c 0 (by simp) rfl) ?_
      refine pwp_forH [0, 6, 8, 10, 57, 58] (fun k : Nat => [(59, .sc (.int .i64 k))]) (fun k => .vec false 0 1 (i64s (gl g.length s.num)) :: .vec true ver 1 (i64s Z) :: .vec false c 1 (i64s s.L) :: .vec true 0 1 (ogRows 4 (curL c (fun v => rowS g s v (degS g s v)) k [])) :: ogObjs 1 ncell (curL c (fun v => rowS g s v (degS g s v)) k [])) (fun k => k ≤ c) (fun k => c - k) 0 ?_
      ((conv=>whnf);repeat(refine .intro rfl ?_;conv=>whnf))
      refine ⟨by omega, by (repeat' (first | exact trivial | refine And.intro rfl ?_)), ?_, ?_⟩
      · rw [curL_zero]
        show _ :: _ :: _ :: _ :: _ = _ :: _ :: _ :: _ :: _
        rw [ogObjs_nils 1 _ ncell]
        exact congrArg (fun x => _ :: _ :: _ :: AObj.vec true 0 1 x :: _) (ogRows_nils (α := Int) 4 _)
      rintro k hk
      ((conv=>whnf);repeat(refine .intro rfl ?_;conv=>whnf))
      (apply rd_sound; focus (repeat' constructor))
      ((conv=>whnf);repeat(refine .intro rfl ?_;conv=>whnf))
      (refine ifK_split (fun q0 => ?_) (fun q0 => ?_) <;> (rw [q0]; ((conv=>whnf);repeat(refine .intro rfl ?_;conv=>whnf))))
      · have q0 : k < c := by ((try simp only[oo,reduceCtorEq]at*)<;>omega)
        have hlk := hI.rngL _ (mem_getD (l := s.L) (k := k) (by omega))
        have hgF := hF.at (s.L.getD k 0).toNat
        refine ⟨by omega, _, intsD_at (l := s.L) (k := k) (by omega) (by omega), ?_⟩
        ((conv=>whnf);repeat(refine .intro rfl ?_;conv=>whnf))
        refine ⟨by omega, _, gridD_at (g := g) (k := (s.L.getD k 0).toNat) (by omega) (by omega), ?_⟩
        ((conv=>whnf);repeat(refine .intro rfl ?_;conv=>whnf))
        rw [List.length_map]
        refine pwp_forH [0, 6, 8, 10, 11, 57, 58, 59, 67, 68] (fun j : Nat => [(69, .sc (.int .i64 j))]) (fun j => .vec false 0 1 (i64s (gl g.length s.num)) :: .vec true ver 1 (i64s Z) :: .vec false c 1 (i64s s.L) :: .vec true 0 1 (ogRows 4 (curL c (fun v => rowS g s v (degS g s v)) k (rowS g s k j))) :: ogObjs 1 ncell (curL c (fun v => rowS g s v (degS g s v)) k (rowS g s k j))) (fun j => j ≤ degS g s k) (fun j => degS g s k - j) 0 ?_
        ((conv=>whnf);repeat(refine .intro rfl ?_;conv=>whnf))
        refine ⟨by omega, by (repeat' (first | exact trivial | refine And.intro rfl ?_)), by rw [show rowS g s k 0 = [] by simp [rowS]], ?_⟩
        rintro j hj
        ((conv=>whnf);repeat(refine .intro rfl ?_;conv=>whnf))
        (apply rd_sound; focus (repeat' constructor))
        ((conv=>whnf);repeat(refine .intro rfl ?_;conv=>whnf))
        (refine ifK_split (fun q1 => ?_) (fun q1 => ?_) <;> (rw [q1]; ((conv=>whnf);repeat(refine .intro rfl ?_;conv=>whnf))))
        · have q1 : j < (g.getD (s.L.getD k 0).toNat []).length := by ((try simp only[oo,reduceCtorEq]at*)<;>omega)
          have eS := rowS_succ q1
          have hx := inB_mem (hrow (s.L.getD k 0).toNat) (mem_getD q1)
          have hrl := rowS_len g s k j
          refine ⟨by omega, _, intsD_at (k := j) (by omega) q1, ?_⟩
          ((conv=>whnf);repeat(refine .intro rfl ?_;conv=>whnf))
          have hnx : 1 ≤ s.num ((g.getD (s.L.getD k 0).toNat []).getD j 0).toNat ∧ s.num ((g.getD (s.L.getD k 0).toNat []).getD j 0).toNat ≤ c := by
            have hxL := (hI.closed _ (mem_getD (l := s.L) (k := k) (by omega)) _ (mem_getD q1)).resolve_right (by simp)
            obtain ⟨i', hi', e'⟩ := getD_mem hxL
            have := hI.at_ i' hi'
            rw [e'] at this
            omega
          generalize (g.getD (s.L.getD k 0).toNat []).getD j 0 = x at *
          (refine ⟨by omega, (by first | omega | (simp; done) | (simp; omega) | (simp only [ll]; omega)), ?_⟩; ((conv=>whnf);repeat(refine .intro rfl ?_;conv=>whnf)))
          refine ⟨_, ogRows_at (i := k) (by omega) (by simp; omega), ?_⟩
          ((conv=>whnf);repeat(refine .intro rfl ?_;conv=>whnf))
          refine ⟨by omega, _, gl_atN x.toNat (by omega) (by omega), ?_⟩
          ((conv=>whnf);repeat(refine .intro rfl ?_;conv=>whnf))
          have hset : (curL c (fun v => rowS g s v (degS g s v)) k (rowS g s k j)).set k (rowS g s k j ++ [s.num x.toNat - 1]) = curL c (fun v => rowS g s v (degS g s v)) k (rowS g s k (j + 1)) := by rw [curL_set q0, ← eS]
          have hlen : (curL c (fun v => rowS g s v (degS g s v)) k (rowS g s k j)).length = c := curL_len ..
          have hgk : (curL c (fun v => rowS g s v (degS g s v)) k (rowS g s k j)).getD k [] = rowS g s k j := curL_at q0
          generalize curL c (fun v => rowS g s v (degS g s v)) k (rowS g s k j) = R at *
          (refine .inl ⟨by (unfold InR; rw [IntKind.wrap_i64]; omega), ?_⟩; ((conv=>whnf);repeat(refine .intro rfl ?_;conv=>whnf)))
          refine og_push ?_
          ((conv=>whnf);repeat(refine .intro rfl ?_;conv=>whnf))
          (repeat (first | (refine og_getE 0 rfl ?_; ((conv=>whnf);repeat(refine .intro rfl ?_;conv=>whnf))) | (refine og_putE 0 rfl ?_; ((conv=>whnf);repeat(refine .intro rfl ?_;conv=>whnf))) | (refine og_getE 1 rfl ?_; ((conv=>whnf);repeat(refine .intro rfl ?_;conv=>whnf))) | (refine og_putE 1 rfl ?_; ((conv=>whnf);repeat(refine .intro rfl ?_;conv=>whnf)))))
          refine og_getT (by omega) ?_
          ((conv=>whnf);repeat(refine .intro rfl ?_;conv=>whnf))
          rw [hgk]
          refine ⟨by unfold sliceAppend; simp only [List.length_drop, List.length_take, List.length_cons, List.length_nil]; omega, ?_⟩
          ((conv=>whnf);repeat(refine .intro rfl ?_;conv=>whnf))
          refine og_putT (rowS g s k j ++ [s.num x.toNat - 1]) (by omega) ?_ ?_
          · exact og_app
          ((conv=>whnf);repeat(refine .intro rfl ?_;conv=>whnf))
          (refine ⟨by omega, (by first | omega | (simp; done) | (simp; omega) | (simp only [ll]; omega)), ?_⟩; ((conv=>whnf);repeat(refine .intro rfl ?_;conv=>whnf)))
          refine ⟨_, ogRows_at (i := k) (by omega) (by omega), ?_⟩
          ((conv=>whnf);repeat(refine .intro rfl ?_;conv=>whnf))
          (refine .inl ⟨by (unfold InR; rw [IntKind.wrap_i64]; omega), ?_⟩; ((conv=>whnf);repeat(refine .intro rfl ?_;conv=>whnf)))
          refine ⟨j + 1, by unfold degS; omega, by dsimp only; unfold degS; omega, ?_⟩
          dsimp only
          rw [hset]
          refine leB_close (c + 4) (by simp; done) (by simp [curL_len]) (by (repeat' (first | exact trivial | exact rfl | exact DeepM.refl _ | exact DeepML.refl _ | exact DeepMLL.refl _ | refine And.intro ?_ ?_ | (simp [Under, UnderL, UnderLL, -List.map_take, -List.map_drop]; done)))) ⟨⟨rfl, rfl, rfl, .refl _, underLL_pure _ (pure_i64L _)⟩, ⟨rfl, rfl, rfl, .refl _, underLL_pure _ (pure_i64L _)⟩, ⟨rfl, rfl, rfl, .refl _, underLL_pure _ (pure_i64L _)⟩, ⟨rfl, rfl, rfl, deepMLL_eq ?_, underLL_ogRows (by simp [curL_len]; omega)⟩, closeH_og under_ncell⟩
          exact (ogRows_set (by omega) (by omega) (rowS g s k j ++ [s.num x.toNat - 1]) (by simp)).trans (by rw [hset])
        · have q1 : j = degS g s k := by have : ¬ j < (g.getD (s.L.getD k 0).toNat []).length := by ((try simp only[oo,reduceCtorEq]at*)<;>omega)
                                         unfold degS at *; omega
          subst q1
          rw [show curL c (fun v => rowS g s v (degS g s v)) k (rowS g s k (degS g s k)) = curL c (fun v => rowS g s v (degS g s v)) (k + 1) [] from curL_next]
          (refine .inl ⟨by (unfold InR; rw [IntKind.wrap_i64]; omega), ?_⟩; ((conv=>whnf);repeat(refine .intro rfl ?_;conv=>whnf)))
          exact ⟨k + 1, by omega, by dsimp only; omega, leB_envH (by (repeat' (first | exact trivial | refine And.intro rfl ?_))) rfl⟩
      · have q0 : k = c := by have : ¬ k < c := by ((try simp only[oo,reduceCtorEq]at*)<;>omega)
                              omega
        subst q0
        rw [curL_done, ← hc, rowS_all]
        refine ⟨(), trivial, leB_close 4 (by simp) rfl (by (repeat' (first | exact trivial | exact rfl | exact DeepM.refl _ | exact DeepML.refl _ | exact DeepMLL.refl _ | refine And.intro ?_ ?_ | (simp [Under, UnderL, UnderLL, -List.map_take, -List.map_drop]; done)))) ⟨⟨rfl, rfl, rfl, .refl _, underLL_pure _ (pure_i64L _)⟩, ⟨rfl, rfl, rfl, .refl _, underLL_pure _ (pure_i64L _)⟩, ⟨rfl, rfl, rfl, .refl _, underLL_pure _ (pure_i64L _)⟩, ⟨rfl, rfl, rfl, deepM_ogRows (c := ncell) (fun i hi => by simp [fromN]) (fun i hi => ?_), underLL_pure _ (pure_gridV _)⟩, closeH_nil _⟩⟩
        show (ogObjs 1 ncell (smallG g s))[i]? = _
        exact ogObjs_at hi
    · intro _ _
      ((conv=>whnf);repeat(refine .intro rfl ?_;conv=>whnf))
      rw [← hc]
      refine .tup _ _ (.cons _ _ _ _ (.refl _) (.cons _ _ _ _ (.own _ _ _ _ _ _ _ _ rfl (by rw [drop_take_all (by simp [smallG])]; exact deepLL_refl _)) .nil))
end

end Go.Proofs.Ytfaekhadjlgbbaa
