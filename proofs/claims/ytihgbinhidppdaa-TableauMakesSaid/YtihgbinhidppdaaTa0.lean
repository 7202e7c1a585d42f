/-
  A formula's automaton, plain: its elements, what holds at a state, what a state keeps, the automaton. No statement is proved here.
-/
import Derived.Test.YtihgbinhidppdaaPn1
import Derived.Test.YtihgbinhidppdaaAu0
namespace Go.Proofs.Ytihgbinhidppdaa
open Go.RowKit
set_option linter.unusedSimpArgs false
set_option linter.unusedVariables false
/-! ### Elements -/
mutual
def atomsOf : Tree → List Int
  | .node k n ks => (if k = 3 then [n] else []) ++ atomsF ks
def atomsF : List Tree → List Int
  | [] => []
  | t :: r => atomsOf t ++ atomsF r
end
mutual
def partsOf : Tree → List Tree
  | .node k n ks => (if k = 7 ∨ k = 8 ∨ k = 9 then [.node k n ks] else []) ++ partsF ks
def partsF : List Tree → List Tree
  | [] => []
  | t :: r => partsOf t ++ partsF r
end
theorem atomsOf_eq (t : Tree) : atomsOf t = (if t.kind = 3 then [t.num] else []) ++ atomsF t.kids := by cases t; rw [atomsOf]; rfl
theorem partsOf_eq (t : Tree) : partsOf t = (if t.kind = 7 ∨ t.kind = 8 ∨ t.kind = 9 then [t] else []) ++ partsF t.kids := by cases t; rw [partsOf]; rfl
theorem atomsF_flat : ∀ l, atomsF l = l.flatMap atomsOf
  | [] => rfl
  | t :: r => by rw [atomsF, atomsF_flat r, List.flatMap_cons]
theorem partsF_flat : ∀ l, partsF l = l.flatMap partsOf
  | [] => rfl
  | t :: r => by rw [partsF, partsF_flat r, List.flatMap_cons]
theorem take_kid {t : Tree} {k : Nat} (h : k < t.width) : t.kids.take (k + 1) = t.kids.take k ++ [t.kid k] := by
  rw [List.take_add_one, kid_get? h]
  rfl
theorem atomsF_take {t : Tree} {k : Nat} (h : k < t.width) : atomsF (t.kids.take (k + 1)) = atomsF (t.kids.take k) ++ atomsOf (t.kid k) := by
  rw [take_kid h, atomsF_flat, atomsF_flat, List.flatMap_append]
  simp
theorem partsF_take {t : Tree} {k : Nat} (h : k < t.width) : partsF (t.kids.take (k + 1)) = partsF (t.kids.take k) ++ partsOf (t.kid k) := by
  rw [take_kid h, partsF_flat, partsF_flat, List.flatMap_append]
  simp
def addI (A : List Int) (xs : List Int) : List Int := xs.foldl (fun A x => if A.contains x = true then A else A ++ [x]) A
noncomputable def addT (P : List Tree) (xs : List Tree) : List Tree := xs.foldl (fun P f => if P.any (eqT f) = true then P else P ++ [f]) P
theorem addI_app (A x y : List Int) : addI A (x ++ y) = addI (addI A x) y := List.foldl_append
theorem addT_app (P x y : List Tree) : addT P (x ++ y) = addT (addT P x) y := List.foldl_append
theorem addI_one (A : List Int) (x : Int) : addI A [x] = if A.contains x = true then A else A ++ [x] := rfl
theorem addT_one (P : List Tree) (x : Tree) : addT P [x] = if P.any (eqT x) = true then P else P ++ [x] := rfl
theorem addI_len (xs : List Int) : ∀ A, (addI A xs).length ≤ A.length + xs.length := by
  induction xs with
  | nil => intro A; simp [addI]
  | cons x r ih =>
    intro A
    rw [show x :: r = [x] ++ r from rfl, addI_app, addI_one]
    split
    · have := ih A; simp only [List.length_append, List.length_singleton]; omega
    · have := ih (A ++ [x]); simp only [List.length_append, List.length_singleton] at *; omega
theorem addT_len (xs : List Tree) : ∀ A, (addT A xs).length ≤ A.length + xs.length := by
  induction xs with
  | nil => intro A; simp [addT]
  | cons x r ih =>
    intro A
    rw [show x :: r = [x] ++ r from rfl, addT_app, addT_one]
    split
    · have := ih A; simp only [List.length_append, List.length_singleton]; omega
    · have := ih (A ++ [x]); simp only [List.length_append, List.length_singleton] at *; omega
theorem any_eqT {P : List Tree} {x : Tree} : P.any (eqT x) = true ↔ x ∈ P := by
  rw [List.any_eq_true]
  constructor
  · rintro ⟨y, hy, h⟩; rw [eqT_iff] at h; exact h ▸ hy
  · exact fun h => ⟨x, h, eqT_iff.2 rfl⟩
theorem mem_addI {x : Int} (xs : List Int) : ∀ A, x ∈ addI A xs ↔ x ∈ A ∨ x ∈ xs := by
  induction xs with
  | nil => intro A; simp [addI]
  | cons y r ih =>
    intro A
    rw [show y :: r = [y] ++ r from rfl, addI_app, addI_one, ih]
    split
    · rename_i h
      rw [List.contains_iff_mem] at h
      simp only [List.mem_append, List.mem_singleton]
      constructor
      · rintro (a | a) <;> simp [a]
      · rintro (a | rfl | a)
        · exact .inl a
        · exact .inl h
        · exact .inr a
    · simp only [List.mem_append, List.mem_singleton]
      constructor
      · rintro ((a | a) | a) <;> simp [a]
      · rintro (a | a | a) <;> simp [a]
theorem mem_addT {x : Tree} (xs : List Tree) : ∀ A, x ∈ addT A xs ↔ x ∈ A ∨ x ∈ xs := by
  induction xs with
  | nil => intro A; simp [addT]
  | cons y r ih =>
    intro A
    rw [show y :: r = [y] ++ r from rfl, addT_app, addT_one, ih]
    split
    · rename_i h
      rw [any_eqT] at h
      simp only [List.mem_append, List.mem_singleton]
      constructor
      · rintro (a | a) <;> simp [a]
      · rintro (a | rfl | a)
        · exact .inl a
        · exact .inl h
        · exact .inr a
    · simp only [List.mem_append, List.mem_singleton]
      constructor
      · rintro ((a | a) | a) <;> simp [a]
      · rintro (a | a | a) <;> simp [a]
theorem addI_nodup (xs : List Int) : ∀ A, A.Nodup → (addI A xs).Nodup := by
  induction xs with
  | nil => intro A h; exact h
  | cons y r ih =>
    intro A h
    rw [show y :: r = [y] ++ r from rfl, addI_app, addI_one]
    split
    · exact ih A h
    · rename_i q
      rw [List.contains_iff_mem] at q
      refine ih _ (List.nodup_append.2 ⟨h, by simp, fun a ha b hb => ?_⟩)
      rw [List.mem_singleton] at hb
      subst hb
      exact fun e => q (e ▸ ha)
mutual
theorem atoms_le : ∀ t : Tree, (atomsOf t).length ≤ t.size
  | .node k n ks => by
    rw [atomsOf, Tree.size, List.length_append]
    have := atomsF_le ks
    split <;> simp <;> omega
theorem atomsF_le : ∀ l : List Tree, (atomsF l).length ≤ Tree.sizes l
  | [] => by simp [atomsF]
  | t :: r => by
    rw [atomsF, Tree.sizes, List.length_append]
    have := atoms_le t
    have := atomsF_le r
    omega
end
mutual
theorem parts_le : ∀ t : Tree, (partsOf t).length ≤ t.size
  | .node k n ks => by
    rw [partsOf, Tree.size, List.length_append]
    have := partsF_le ks
    split <;> simp <;> omega
theorem partsF_le : ∀ l : List Tree, (partsF l).length ≤ Tree.sizes l
  | [] => by simp [partsF]
  | t :: r => by
    rw [partsF, Tree.sizes, List.length_append]
    have := parts_le t
    have := partsF_le r
    omega
end
/-! ### Formulas without F and G -/
def pKids (k : Int) : Int := if k = 10 ∨ k = 11 then -1 else lKids k
theorem wf_p {t : Tree} : t.wf pKids → t.wf lKids := by
  induction t using Tree.ind with
  | h t ih =>
    intro h
    rw [wf_iff] at h ⊢
    refine ⟨?_, fun u hu => ?_⟩
    · have h1 := h.1
      unfold oddNode pKids at h1
      unfold oddNode
      by_cases q : t.kind = 10 ∨ t.kind = 11
      · rw [if_pos q] at h1; omega
      · rw [if_neg q] at h1; exact h1
    · obtain ⟨j, hj, rfl⟩ := List.mem_iff_getElem.1 hu
      rw [← Tree.kid_get hj] at *
      exact ih j hj (h.2 _ (by rw [Tree.kid_get hj]; exact List.getElem_mem hj))
theorem p_kind {t : Tree} (h : t.wf pKids) : (t.kind = 1 ∨ t.kind = 2 ∨ t.kind = 3) ∧ t.width = 0 ∨ (t.kind = 4 ∨ t.kind = 7) ∧ t.width = 1 ∨ (t.kind = 5 ∨ t.kind = 6 ∨ t.kind = 8 ∨ t.kind = 9) ∧ t.width = 2 := by
  have h1 := ((wf_iff _ _).1 h).1
  have h2 := node_arity ((wf_iff _ _).1 (wf_p h)).1
  have h3 : ¬ (t.kind = 10 ∨ t.kind = 11) := fun q => by
    unfold oddNode pKids at h1
    rw [if_pos q] at h1
    omega
  omega
theorem wf_nodeP {k n : Int} {ks : List Tree} (h : ¬ oddNode pKids (.node k n ks)) (hk : ∀ u ∈ ks, u.wf pKids) : (Tree.node k n ks).wf pKids := (wf_iff _ _).2 ⟨h, hk⟩
theorem plain_p : ∀ (t : Tree), t.wf lKids → (plainT t).wf pKids := by
  intro t
  induction t using Tree.ind with
  | h t ih =>
    intro hw
    have hn := wf_num hw
    have har := node_arity ((wf_iff _ _).1 hw).1
    have m2 : ∀ {k c : Int} {b : Tree}, k = 8 ∨ k = 9 → c = 1 ∨ c = 2 → b.wf pKids → (mk2 k (mk0 c 0) b).wf pKids := fun {k c b} hk hc hb => wf_nodeP (by
      unfold oddNode
      have e1 : (Tree.node k 0 [mk0 c 0, b]).kind = k := rfl
      have e2 : (Tree.node k 0 [mk0 c 0, b]).num = 0 := rfl
      have e3 : (Tree.node k 0 [mk0 c 0, b]).width = 2 := rfl
      rw [e1, e2, e3]
      rcases hk with rfl | rfl <;> simp [pKids, lKids]) (by
      intro u hu
      rw [List.mem_cons, List.mem_singleton] at hu
      rcases hu with rfl | rfl
      · refine wf_nodeP ?_ (by simp)
        unfold oddNode
        have e1 : (Tree.node c 0 []).kind = c := rfl
        have e2 : (Tree.node c 0 []).num = 0 := rfl
        have e3 : (Tree.node c 0 []).width = 0 := rfl
        rw [e1, e2, e3]
        rcases hc with rfl | rfl <;> simp [pKids, lKids]
      · exact hb)
    rw [plainT_eq t fun h => wf_wide hw (by omega)]
    by_cases h10 : t.kind = 10
    · rw [if_pos h10]
      have h0 := wf_wide hw (by omega)
      exact m2 (by omega) (by omega) (ih 0 h0 (wf_kid hw h0))
    · rw [if_neg h10]
      by_cases h11 : t.kind = 11
      · rw [if_pos h11]
        have h0 := wf_wide hw (by omega)
        exact m2 (by omega) (by omega) (ih 0 h0 (wf_kid hw h0))
      · rw [if_neg h11]
        refine wf_nodeP ?_ fun u hu => ?_
        · unfold oddNode pKids
          have e1 : (Tree.node t.kind t.num (t.kids.map plainT)).kind = t.kind := rfl
          have e2 : (Tree.node t.kind t.num (t.kids.map plainT)).num = t.num := rfl
          have e3 : (Tree.node t.kind t.num (t.kids.map plainT)).width = t.width := List.length_map ..
          rw [e1, e2, e3, if_neg (by omega)]
          exact ((wf_iff _ _).1 hw).1
        · obtain ⟨v, hv, rfl⟩ := List.mem_map.1 hu
          obtain ⟨j, hj, rfl⟩ := List.mem_iff_getElem.1 hv
          rw [← Tree.kid_get hj]
          exact ih j hj (wf_kid hw hj)
/-! ### What holds at a state -/
def holdsN (k : Int) (c : Bool) (h : List Bool) : Bool :=
  if k = 1 then true else if k = 2 then false else if k = 4 then !(h.getD 0 false) else if k = 5 then h.getD 0 false && h.getD 1 false else if k = 6 then h.getD 0 false || h.getD 1 false
  else if k = 8 then h.getD 1 false || (h.getD 0 false && c) else if k = 9 then h.getD 1 false && (h.getD 0 false || c) else c
mutual
def holdsT (c : Tree → Bool) : Tree → Bool
  | .node k n ks => holdsN k (c (.node k n ks)) (holdsL c ks)
def holdsL (c : Tree → Bool) : List Tree → List Bool
  | [] => []
  | t :: r => holdsT c t :: holdsL c r
end
theorem holdsL_map (c : Tree → Bool) : ∀ l, holdsL c l = l.map (holdsT c)
  | [] => rfl
  | t :: r => by rw [holdsL, holdsL_map c r, List.map_cons]
theorem holdsT_eq (c : Tree → Bool) (t : Tree) : holdsT c t = holdsN t.kind (c t) (t.kids.map (holdsT c)) := by cases t; rw [holdsT, holdsL_map]; rfl
theorem holds_kid (c : Tree → Bool) {t : Tree} {j : Nat} (h : j < t.width) : (t.kids.map (holdsT c)).getD j false = holdsT c (t.kid j) := by
  rw [List.getD_eq_getElem?_getD, List.getElem?_map, kid_get? h]
  rfl
/-- The place of an element. -/
noncomputable def posE (A : List Int) (P : List Tree) (g : Tree) : Nat := if g.kind = 3 then (idxF (fun a => g.num == a) A).toNat else A.length + (idxF (eqT g) P).toNat
noncomputable def chE (A : List Int) (P : List Tree) (s : Nat) (g : Tree) : Bool := s.testBit (posE A P g)
/-- All elements of a formula are told. -/
def Told (A : List Int) (P : List Tree) (t : Tree) : Prop := (∀ x ∈ atomsOf t, x ∈ A) ∧ ∀ f ∈ partsOf t, f ∈ P
theorem atomsF_mem {l : List Tree} {t : Tree} {x : Int} (h : t ∈ l) (hx : x ∈ atomsOf t) : x ∈ atomsF l := by
  rw [atomsF_flat]; exact List.mem_flatMap.2 ⟨t, h, hx⟩
theorem partsF_mem {l : List Tree} {t x : Tree} (h : t ∈ l) (hx : x ∈ partsOf t) : x ∈ partsF l := by
  rw [partsF_flat]; exact List.mem_flatMap.2 ⟨t, h, hx⟩
theorem kid_mem {t : Tree} {j : Nat} (h : j < t.width) : t.kid j ∈ t.kids := by rw [Tree.kid_get h]; exact List.getElem_mem h
theorem Told.kid {A : List Int} {P : List Tree} {t : Tree} (h : Told A P t) {j : Nat} (hj : j < t.width) : Told A P (t.kid j) :=
  ⟨fun x hx => h.1 x (by rw [atomsOf_eq]; exact List.mem_append_right _ (atomsF_mem (kid_mem hj) hx)), fun x hx => h.2 x (by rw [partsOf_eq]; exact List.mem_append_right _ (partsF_mem (kid_mem hj) hx))⟩
theorem Told.atom {A : List Int} {P : List Tree} {t : Tree} (h : Told A P t) (h3 : t.kind = 3) : t.num ∈ A := h.1 _ (by rw [atomsOf_eq, if_pos h3]; simp)
theorem Told.part {A : List Int} {P : List Tree} {t : Tree} (h : Told A P t) (h3 : t.kind = 7 ∨ t.kind = 8 ∨ t.kind = 9) : t ∈ P := h.2 _ (by rw [partsOf_eq, if_pos h3]; simp)
mutual
theorem parts_told : ∀ (t : Tree), ∀ f ∈ partsOf t, (∀ x ∈ atomsOf f, x ∈ atomsOf t) ∧ (∀ g ∈ partsOf f, g ∈ partsOf t)
  | .node k n ks => fun f hf => by
    rw [partsOf, List.mem_append] at hf
    rcases hf with hf | hf
    · split at hf
      · rw [List.mem_singleton] at hf; subst hf; exact ⟨fun x h => h, fun x h => h⟩
      · cases hf
    · obtain ⟨h1, h2⟩ := partsF_told ks f hf
      exact ⟨fun x hx => by rw [atomsOf]; exact List.mem_append_right _ (h1 x hx), fun x hx => by rw [partsOf]; exact List.mem_append_right _ (h2 x hx)⟩
theorem partsF_told : ∀ (l : List Tree), ∀ f ∈ partsF l, (∀ x ∈ atomsOf f, x ∈ atomsF l) ∧ (∀ g ∈ partsOf f, g ∈ partsF l)
  | [] => fun f hf => by cases hf
  | t :: r => fun f hf => by
    rw [partsF, List.mem_append] at hf
    rcases hf with hf | hf
    · obtain ⟨h1, h2⟩ := parts_told t f hf
      exact ⟨fun x hx => by rw [atomsF]; exact List.mem_append_left _ (h1 x hx), fun x hx => by rw [partsF]; exact List.mem_append_left _ (h2 x hx)⟩
    · obtain ⟨h1, h2⟩ := partsF_told r f hf
      exact ⟨fun x hx => by rw [atomsF]; exact List.mem_append_right _ (h1 x hx), fun x hx => by rw [partsF]; exact List.mem_append_right _ (h2 x hx)⟩
end
mutual
theorem parts_wf (kd : Int → Int) : ∀ (t : Tree), t.wf kd → ∀ f ∈ partsOf t, f.wf kd ∧ (f.kind = 7 ∨ f.kind = 8 ∨ f.kind = 9)
  | .node k n ks => fun hw f hf => by
    rw [partsOf, List.mem_append] at hf
    rcases hf with hf | hf
    · split at hf
      · rename_i h
        rw [List.mem_singleton] at hf; subst hf; exact ⟨hw, h⟩
      · cases hf
    · exact partsF_wf kd ks (fun u hu => ((wf_iff _ _).1 hw).2 u hu) f hf
theorem partsF_wf (kd : Int → Int) : ∀ (l : List Tree), (∀ u ∈ l, u.wf kd) → ∀ f ∈ partsF l, f.wf kd ∧ (f.kind = 7 ∨ f.kind = 8 ∨ f.kind = 9)
  | [] => fun _ f hf => by cases hf
  | t :: r => fun hw f hf => by
    rw [partsF, List.mem_append] at hf
    rcases hf with hf | hf
    · exact parts_wf kd t (hw t (by simp)) f hf
    · exact partsF_wf kd r (fun u hu => hw u (by simp [hu])) f hf
end
mutual
theorem atoms_range : ∀ (t : Tree), t.wf lKids → ∀ x ∈ atomsOf t, 0 ≤ x ∧ x ≤ 63
  | .node k n ks => fun hw x hx => by
    rw [atomsOf, List.mem_append] at hx
    rcases hx with hx | hx
    · split at hx
      · rw [List.mem_singleton] at hx; subst hx; have := wf_num hw; exact ⟨this.1, this.2.1⟩
      · cases hx
    · exact atomsF_range ks (fun u hu => ((wf_iff _ _).1 hw).2 u hu) x hx
theorem atomsF_range : ∀ (l : List Tree), (∀ u ∈ l, u.wf lKids) → ∀ x ∈ atomsF l, 0 ≤ x ∧ x ≤ 63
  | [] => fun _ f hf => by cases hf
  | t :: r => fun hw f hf => by
    rw [atomsF, List.mem_append] at hf
    rcases hf with hf | hf
    · exact atoms_range t (hw t (by simp)) f hf
    · exact atomsF_range r (fun u hu => hw u (by simp [hu])) f hf
end
/-! ### Bits -/
theorem fdiv_shr (s k : Nat) (hk : k ≤ 63) : (s : Int).fdiv (2 ^ min ((k : Int)).toNat 64) = ((s / 2 ^ k : Nat) : Int) := by
  rw [Int.toNat_natCast, Nat.min_eq_left (by omega), Int.fdiv_eq_ediv_of_nonneg _ (by exact Int.le_of_lt (Int.pow_pos (by decide)))]
  rw [Int.natCast_ediv]
  simp
theorem and_oneI (n : Nat) : bitsV .and .i64 (n : Int) 1 = ((n % 2 : Nat) : Int) := by
  have e : (BitVec.ofInt 64 (n : Int) &&& BitVec.ofInt 64 1).toNat = n % 2 := by
    rw [BitVec.toNat_and]
    have e1 : (BitVec.ofInt 64 (n : Int)).toNat = n % 18446744073709551616 := by rw [BitVec.toNat_ofInt]; omega
    have e2 : (BitVec.ofInt 64 1).toNat = 1 := by decide
    rw [e1, e2, Nat.and_one_is_mod]
    omega
  show IntKind.i64.wrap ((BitVec.ofInt 64 (n : Int) &&& BitVec.ofInt 64 1).toNat : Int) = _
  rw [e, IntKind.wrap_i64]
  omega
theorem bit_dec (s k : Nat) : s.testBit k = (((s / 2 ^ k % 2 : Nat) : Int) == 1) := by
  rw [Nat.testBit_eq_decide_div_mod_eq, Bool.eq_iff_iff, decide_eq_true_eq, beq_iff_eq]
  omega
theorem bit_P (s k : Nat) (hk : k ≤ 63) : (bitsV .and .i64 ((s : Int).fdiv (2 ^ min ((k : Int)).toNat 64)) 1 == 1) = s.testBit k := by
  rw [fdiv_shr s k hk, and_oneI, bit_dec]
theorem bit_R (s k : Nat) (hk : k ≤ 63) : (((s : Int).fdiv (2 ^ min ((k : Int)).toNat 64)).tmod 2 == 1) = s.testBit k := by
  rw [fdiv_shr s k hk, bit_dec]
  congr 1
theorem or_one (a i : Nat) (h : a < 2 ^ i) (hi : i ≤ 40) : bitsV .or .i64 (a : Int) ((2 ^ i : Nat) : Int) = ((a + 2 ^ i : Nat) : Int) := by
  have hp : 2 ^ i ≤ 2 ^ 40 := Nat.pow_le_pow_right (by omega) hi
  have h40 : (2 : Nat) ^ 40 = 1099511627776 := by decide
  have e : (BitVec.ofInt 64 (a : Int) ||| BitVec.ofInt 64 ((2 ^ i : Nat) : Int)).toNat = a + 2 ^ i := by
    rw [BitVec.toNat_or]
    have e1 : (BitVec.ofInt 64 (a : Int)).toNat = a := by rw [BitVec.toNat_ofInt]; omega
    have e2 : (BitVec.ofInt 64 ((2 ^ i : Nat) : Int)).toNat = 2 ^ i := by
      generalize 2 ^ i = z at *
      rw [BitVec.toNat_ofInt]; omega
    have := Nat.two_pow_add_eq_or_of_lt h 1
    rw [Nat.mul_one] at this
    rw [e1, e2, Nat.or_comm, ← this, Nat.add_comm]
  show IntKind.i64.wrap ((BitVec.ofInt 64 (a : Int) ||| BitVec.ofInt 64 ((2 ^ i : Nat) : Int)).toNat : Int) = _
  rw [e, IntKind.wrap_i64]
  omega
/-! ### What a state keeps -/
def keptN (h : Nat → Bool) : Nat → Nat
  | 0 => 0
  | i + 1 => if h i = true then keptN h i + 2 ^ i else keptN h i
theorem keptN_lt (h : Nat → Bool) : ∀ n, keptN h n < 2 ^ n
  | 0 => by rw [keptN]; exact Nat.one_pos
  | n + 1 => by
    have := keptN_lt h n
    rw [keptN, Nat.pow_succ]
    split <;> omega
theorem keptN_bit (h : Nat → Bool) : ∀ n i, i < n → (keptN h n).testBit i = h i
  | 0, i, hi => by omega
  | n + 1, i, hi => by
    have hl := keptN_lt h n
    rw [keptN]
    by_cases e : i = n
    · subst e
      cases q : h i
      · rw [if_neg (by decide)]
        exact Nat.testBit_lt_two_pow hl
      · rw [if_pos rfl, Nat.add_comm]
        rw [Nat.testBit_two_pow_add_eq, Nat.testBit_lt_two_pow hl]
        rfl
    · have := keptN_bit h n i (by omega)
      split
      · rw [Nat.add_comm, Nat.testBit_two_pow_add_gt (by omega)]
        exact this
      · exact this
def baseT (g : Tree) : Tree := if g.kind = 7 then g.kid 0 else g
noncomputable def hK (A : List Int) (P : List Tree) (s i : Nat) : Bool := holdsT (chE A P s) (baseT (P.getD i default))
noncomputable def keptE (A : List Int) (P : List Tree) (s : Nat) : Nat := keptN (hK A P s) P.length
theorem kept_iff (A : List Int) (P : List Tree) (s t : Nat) (hs : s < 2 ^ (A.length + P.length)) : (keptE A P t == s / 2 ^ A.length) = (List.range P.length).all fun i => hK A P t i == s.testBit (A.length + i) := by
  rw [Bool.eq_iff_iff, beq_iff_eq, List.all_eq_true]
  have hd : s / 2 ^ A.length < 2 ^ P.length := by
    rw [Nat.div_lt_iff_lt_mul (Nat.two_pow_pos _), Nat.mul_comm, ← Nat.pow_add]
    exact hs
  constructor
  · intro h i hi
    have hi := List.mem_range.1 hi
    rw [beq_iff_eq, ← keptN_bit (hK A P t) P.length i hi]
    have : keptN (hK A P t) P.length = s / 2 ^ A.length := h
    rw [this, Nat.testBit_div_two_pow, Nat.add_comm]
  · intro h
    apply Nat.eq_of_testBit_eq
    intro i
    by_cases hi : i < P.length
    · have := h i (List.mem_range.2 hi)
      rw [beq_iff_eq] at this
      rw [show (keptE A P t).testBit i = hK A P t i from keptN_bit _ _ i hi, this, Nat.testBit_div_two_pow, Nat.add_comm]
    · have hle : 2 ^ P.length ≤ 2 ^ i := Nat.pow_le_pow_right (by omega) (by omega)
      exact (Nat.testBit_lt_two_pow (Nat.lt_of_lt_of_le (keptN_lt (hK A P t) P.length) hle)).trans (Nat.testBit_lt_two_pow (Nat.lt_of_lt_of_le hd hle)).symm
/-! ### The automaton -/
def lettA (A : List Int) (s : Nat) (is : Bool) : Nat → Int
  | 0 => 0
  | i + 1 => if (s.testBit i == is) = true then bitsV .or .u64 (lettA A s is i) (2 ^ (A.getD i 0).toNat) else lettA A s is i
def numsF (p : Nat → Bool) (k : Nat) : List Int := ((List.range k).filter p).map fun i : Nat => (i : Int)
theorem numsF_succ (p : Nat → Bool) (k : Nat) : numsF p (k + 1) = if p k = true then numsF p k ++ [(k : Int)] else numsF p k := by
  unfold numsF
  rw [List.range_succ, List.filter_append, List.map_append]
  simp only [List.filter_cons, List.filter_nil]
  split <;> simp
theorem numsF_len (p : Nat → Bool) (k : Nat) : (numsF p k).length ≤ k := by
  unfold numsF
  rw [List.length_map]
  exact Nat.le_trans (List.length_filter_le _ _) (by simp)
noncomputable def fairE (A : List Int) (P : List Tree) (g : Tree) (s : Nat) : Bool :=
  if g.kind = 8 then !(holdsT (chE A P s) g) || holdsT (chE A P s) (g.kid 1) else holdsT (chE A P s) g || !(holdsT (chE A P s) (g.kid 1))
noncomputable def setE (A : List Int) (P : List Tree) (n : Nat) (g : Tree) : List Int := numsF (fairE A P g) (2 ^ n)
noncomputable def fairsE (A : List Int) (P : List Tree) (n k : Nat) : List (List Int) := ((P.take k).filter fun g => g.kind != 7).map (setE A P n)
theorem fairsE_succ (A : List Int) (P : List Tree) (n : Nat) {k : Nat} (h : k < P.length) : fairsE A P n (k + 1) = if (P.getD k default).kind = 7 then fairsE A P n k else fairsE A P n k ++ [setE A P n (P.getD k default)] := by
  unfold fairsE
  rw [List.take_add_one, List.getElem?_eq_getElem h, Option.toList_some, List.filter_append, List.map_append, List.getD_eq_getElem?_getD, List.getElem?_eq_getElem h]
  simp only [List.filter_cons, List.filter_nil, Option.getD_some]
  by_cases q : P[k].kind = 7
  · simp [q]
  · simp [q]
theorem fairsE_len (A : List Int) (P : List Tree) (n k : Nat) : (fairsE A P n k).length ≤ k := by
  unfold fairsE
  rw [List.length_map]
  exact Nat.le_trans (List.length_filter_le _ _) (by simp; omega)
noncomputable def nextE (A : List Int) (P : List Tree) (n s : Nat) : List Int := numsF (fun t => keptE A P t == s / 2 ^ A.length) (2 ^ n)
noncomputable def tabE (A : List Int) (P : List Tree) (f : Tree) : AutoD :=
  ⟨numsF (fun s => holdsT (chE A P s) f) (2 ^ (A.length + P.length)), (List.range (2 ^ (A.length + P.length))).map (nextE A P (A.length + P.length)),
    (List.range (2 ^ (A.length + P.length))).map fun s => lettA A s true A.length, (List.range (2 ^ (A.length + P.length))).map fun s => lettA A s false A.length, fairsE A P (A.length + P.length) P.length⟩
/-- The atoms in order. -/
def sortA (xs : List Int) : List Int := numsF (fun n => xs.contains (n : Int)) 64
/-- What is answered of a plain formula. -/
noncomputable def ansT (f : Tree) : D :=
  let A := sortA (atomsOf f)
  let P := addT [] (partsOf f)
  if 10 < A.length + P.length then .tup [dauto ⟨[], [], [], [], []⟩, .sc (.int .i64 2)] else .tup [dauto (tabE A P f), .sc (.int .i64 0)]
theorem mem_sortA {xs : List Int} (h : ∀ x ∈ xs, 0 ≤ x ∧ x ≤ 63) {x : Int} : x ∈ sortA xs ↔ x ∈ xs := by
  unfold sortA numsF
  simp only [List.mem_map, List.mem_filter, List.mem_range, List.contains_iff_mem]
  constructor
  · rintro ⟨n, ⟨_, h2⟩, rfl⟩; exact h2
  · intro hx
    have := h x hx
    exact ⟨x.toNat, ⟨by omega, by rw [show ((x.toNat : Nat) : Int) = x by omega]; exact hx⟩, by omega⟩
theorem sortA_told {f : Tree} (hw : f.wf lKids) : Told (sortA (atomsOf f)) (addT [] (partsOf f)) f :=
  ⟨fun x hx => (mem_sortA (atoms_range f hw)).2 hx, fun x hx => (mem_addT _ _).2 (.inr hx)⟩
theorem part_told {f : Tree} (hw : f.wf lKids) {g : Tree} (hg : g ∈ addT [] (partsOf f)) : Told (sortA (atomsOf f)) (addT [] (partsOf f)) g := by
  have hg : g ∈ partsOf f := ((mem_addT _ _).1 hg).resolve_left (by simp)
  obtain ⟨h1, h2⟩ := parts_told f g hg
  have h := sortA_told hw
  exact ⟨fun x hx => h.1 x (h1 x hx), fun x hx => h.2 x (h2 x hx)⟩
end Go.Proofs.Ytihgbinhidppdaa
