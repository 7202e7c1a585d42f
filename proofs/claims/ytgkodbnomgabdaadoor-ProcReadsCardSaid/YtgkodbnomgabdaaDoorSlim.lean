/-
  Plain laws on formulas: a check passes just where size, depth and every node are right; the two ways to make a formula slim come to the same. No program in sight. No statement is proved here.
-/
import Derived.Test.YtgkodbnomgabdaaDoorTree
namespace Go.Proofs.YtgkodbnomgabdaaDoor

theorem Tree.ext_kids {a b : Tree} (h1 : a.kind = b.kind) (h2 : a.num = b.num) (h3 : a.width = b.width) (h4 : ∀ j, j < a.width → a.kid j = b.kid j) : a = b := by
  rw [← Tree.eta a, ← Tree.eta b, h1, h2]
  congr 1
  refine List.ext_getElem h3 fun i hi hi' => ?_
  have := h4 i hi
  rwa [Tree.kid_get hi, Tree.kid_get hi'] at this
open Classical in
/-- Are two formulas one? -/
noncomputable def eqT (a b : Tree) : Bool := decide (a = b)
theorem eqT_true {a b : Tree} (h : a = b) : true = eqT a b := by simp [eqT, h]
theorem eqT_false {a b : Tree} (h : a ≠ b) : false = eqT a b := by simp [eqT, h]
theorem eqT_iff {a b : Tree} : eqT a b = true ↔ a = b := by simp [eqT]
theorem eqT_not {a b : Tree} : eqT a b = false ↔ a ≠ b := by simp [eqT]

/-! ### Size, depth -/
mutual
def Tree.size : Tree → Nat
  | .node _ _ ks => 1 + Tree.sizes ks
def Tree.sizes : List Tree → Nat
  | [] => 0
  | t :: ts => t.size + Tree.sizes ts
end
mutual
def Tree.depth : Tree → Nat
  | .node _ _ ks => 1 + Tree.depths ks
def Tree.depths : List Tree → Nat
  | [] => 0
  | t :: ts => max t.depth (Tree.depths ts)
end
mutual
/-- Is every node right by itself? -/
def Tree.wf (kd : Int → Int) : Tree → Prop
  | .node k n ks => ¬ oddNode kd (.node k n ks) ∧ Tree.wfs kd ks
def Tree.wfs (kd : Int → Int) : List Tree → Prop
  | [] => True
  | t :: ts => t.wf kd ∧ Tree.wfs kd ts
end
theorem Tree.size_pos : ∀ t : Tree, 1 ≤ t.size := fun t => by cases t; rw [Tree.size]; omega
theorem Tree.depth_pos : ∀ t : Tree, 1 ≤ t.depth := fun t => by cases t; rw [Tree.depth]; omega

mutual
theorem chkT_zero (kd : Int → Int) : ∀ (t : Tree) (d n : Int), (chkT kd t d n).1 = 0 ↔ (n + t.size ≤ 60 ∧ d + t.depth ≤ 21 ∧ t.wf kd)
  | .node k x ks, d, n => by
    have h1 := chkF_zero kd ks (d + 1) (n + 1)
    rw [chkT, Tree.size, Tree.depth, Tree.wf]
    by_cases c1 : 60 < n + 1
    · rw [if_pos c1]; simp; omega
    · rw [if_neg c1]
      by_cases c2 : 20 < d
      · rw [if_pos c2]; simp; omega
      · rw [if_neg c2]
        by_cases c3 : oddNode kd (.node k x ks)
        · rw [if_pos c3]; simp [c3]
        · rw [if_neg c3, h1]
          constructor
          · rintro ⟨a, b, c⟩
            cases ks with
            | nil => rw [Tree.sizes, Tree.depths] at *; exact ⟨by omega, by omega, c3, c⟩
            | cons t ts => have := a (by simp); have := b (by simp); exact ⟨by omega, by omega, c3, c⟩
          · rintro ⟨a, b, _, c⟩
            exact ⟨by omega, fun _ => by omega, c⟩
theorem chkF_zero (kd : Int → Int) : ∀ (ts : List Tree) (d n : Int), (chkF kd ts d n).1 = 0 ↔ ((ts ≠ [] → n + Tree.sizes ts ≤ 60) ∧ (ts ≠ [] → d + Tree.depths ts ≤ 21) ∧ Tree.wfs kd ts)
  | [], _, n => by rw [chkF, Tree.wfs]; simp
  | t :: ts, d, n => by
    have h1 := chkT_zero kd t d n
    have h3 := chkT_two kd t d n
    have h2 := chkF_zero kd ts d (chkT kd t d n).2
    rw [chkF, Tree.sizes, Tree.depths, Tree.wfs]
    have hd := Tree.depth_pos t
    by_cases c : (chkT kd t d n).1 = 0
    · rw [if_pos c, h2, h3 c]
      rw [h1] at c
      obtain ⟨c1, c2, c3⟩ := c
      cases ts with
      | nil => rw [Tree.sizes, Tree.depths, Tree.wfs]; simp [c3]; omega
      | cons u us =>
        simp only [ne_eq, reduceCtorEq, not_false_eq_true, true_implies, c3, true_and]
        constructor
        · rintro ⟨a, b, e⟩; exact ⟨by omega, by omega, e⟩
        · rintro ⟨a, b, e⟩; exact ⟨by omega, by omega, e⟩
    · rw [if_neg c]
      constructor
      · intro h; exact absurd h c
      · rintro ⟨a, b, e⟩
        refine absurd (h1.2 ⟨?_, ?_, e.1⟩) c
        · have := a (by simp); omega
        · have := b (by simp); omega
theorem chkT_two (kd : Int → Int) : ∀ (t : Tree) (d n : Int), (chkT kd t d n).1 = 0 → (chkT kd t d n).2 = n + t.size
  | .node k x ks, d, n => by
    have h1 := chkF_two kd ks (d + 1) (n + 1)
    rw [chkT, Tree.size]
    split
    · simp
    · split
      · simp
      · split
        · simp
        · intro h; rw [h1 h]; omega
theorem chkF_two (kd : Int → Int) : ∀ (ts : List Tree) (d n : Int), (chkF kd ts d n).1 = 0 → (chkF kd ts d n).2 = n + Tree.sizes ts
  | [], _, n => by rw [chkF, Tree.sizes]; simp
  | t :: ts, d, n => by
    have h1 := chkT_two kd t d n
    have h2 := chkF_two kd ts d (chkT kd t d n).2
    rw [chkF, Tree.sizes]
    split
    · rename_i h; intro h'; rw [h2 h', h1 h]; omega
    · intro h; contradiction
end
theorem chk_zero (kd : Int → Int) (t : Tree) : chk kd t = 0 ↔ (t.size ≤ 60 ∧ t.depth ≤ 20 ∧ t.wf kd) := by
  unfold chk; rw [chkT_zero]
  constructor
  · rintro ⟨a, b, c⟩; exact ⟨by omega, by omega, c⟩
  · rintro ⟨a, b, c⟩; exact ⟨by omega, by omega, c⟩
theorem wfs_iff (kd : Int → Int) : ∀ ts : List Tree, Tree.wfs kd ts ↔ ∀ t ∈ ts, t.wf kd
  | [] => by simp [Tree.wfs]
  | t :: ts => by rw [Tree.wfs, wfs_iff kd ts]; simp
theorem wf_iff (kd : Int → Int) (t : Tree) : t.wf kd ↔ ¬ oddNode kd t ∧ ∀ u ∈ t.kids, u.wf kd := by
  cases t; rw [Tree.wf, wfs_iff]; rfl
theorem wf_kid {kd : Int → Int} {t : Tree} (h : t.wf kd) {j : Nat} (hj : j < t.width) : (t.kid j).wf kd := by
  rw [Tree.kid_get hj]; exact ((wf_iff kd t).1 h).2 _ (List.getElem_mem hj)

/-! ### To make slim -/
def mk0 (k n : Int) : Tree := .node k n []
def mk1 (k : Int) (a : Tree) : Tree := .node k 0 [a]
def mk2 (k : Int) (a b : Tree) : Tree := .node k 0 [a, b]
/-- Is it true or false? -/
def truthB (k : Int) : Bool := k == 1 || k == 2
def otherK (k : Int) : Int := if k = 1 then 2 else if k = 2 then 1 else if k = 5 then 6 else if k = 6 then 5 else if k = 8 then 9 else if k = 9 then 8 else if k = 10 then 11 else if k = 11 then 10 else k
def singleT (k : Int) (a : Tree) : Tree :=
  if k = 4 ∧ truthB a.kind = true then mk0 (otherK a.kind) 0 else if k = 4 ∧ a.kind = 4 then a.kid 0
  else if (k ≠ 4 ∧ truthB a.kind = true) ∨ (k ≠ 7 ∧ k ≠ 4 ∧ a.kind = k) then a else mk1 k a
noncomputable def bothT (k z : Int) (a b : Tree) : Tree :=
  if a.kind = z ∨ b.kind = z then mk0 z 0 else if a.kind = otherK z then b else if b.kind = otherK z ∨ eqT a b = true then a else mk2 k a b
noncomputable def wayT (k z : Int) (a b : Tree) : Tree :=
  if truthB b.kind = true ∨ a.kind = z ∨ eqT a b = true then b else if truthB a.kind = true ∧ k = 8 then singleT 10 b else if truthB a.kind = true then singleT 11 b else mk2 k a b
noncomputable def slimN (k n : Int) (ks : List Tree) : Tree :=
  if k = 5 then bothT 5 2 (ks.getD 0 default) (ks.getD 1 default) else if k = 6 then bothT 6 1 (ks.getD 0 default) (ks.getD 1 default)
  else if k = 8 then wayT 8 2 (ks.getD 0 default) (ks.getD 1 default) else if k = 9 then wayT 9 1 (ks.getD 0 default) (ks.getD 1 default)
  else if k = 4 ∨ k = 7 ∨ k = 10 ∨ k = 11 then singleT k (ks.getD 0 default) else mk0 k n
mutual
noncomputable def slimT : Tree → Tree
  | .node k n ks => slimN k n (slimF ks)
noncomputable def slimF : List Tree → List Tree
  | [] => []
  | t :: ts => slimT t :: slimF ts
end
theorem slimF_map : ∀ ts, slimF ts = ts.map slimT
  | [] => by rw [slimF]; rfl
  | t :: ts => by rw [slimF, slimF_map ts]; rfl
theorem slimT_eq (t : Tree) : slimT t = slimN t.kind t.num (t.kids.map slimT) := by cases t; rw [slimT, slimF_map]; rfl

/-- The document's rules: the first that applies. -/
noncomputable def slimmerT (t : Tree) : Tree :=
  let a := t.kid 0
  let b := t.kid (t.width - 1)
  if t.kind = 4 then (if a.kind = 1 then mk0 2 0 else if a.kind = 2 then mk0 1 0 else if a.kind = 4 then a.kid 0 else t)
  else if t.kind = 5 then (if a.kind = 2 ∨ b.kind = 2 then mk0 2 0 else if a.kind = 1 then b else if b.kind = 1 ∨ eqT a b = true then a else t)
  else if t.kind = 6 then (if a.kind = 1 ∨ b.kind = 1 then mk0 1 0 else if a.kind = 2 then b else if b.kind = 2 ∨ eqT a b = true then a else t)
  else if t.kind = 7 then (if truthB a.kind = true then a else t)
  else if t.kind = 10 ∨ t.kind = 11 then (if truthB a.kind = true ∨ a.kind = t.kind then a else t)
  else if t.kind = 8 then (if truthB b.kind = true ∨ a.kind = 2 then b else if a.kind = 1 then (if truthB b.kind = true ∨ b.kind = 10 then b else mk1 10 b) else if eqT a b = true then b else t)
  else if t.kind = 9 then (if truthB b.kind = true ∨ a.kind = 1 then b else if a.kind = 2 then (if truthB b.kind = true ∨ b.kind = 11 then b else mk1 11 b) else if eqT a b = true then b else t)
  else t
mutual
noncomputable def slimR : Tree → Tree
  | .node k n ks => slimmerT (.node k n (slimRF ks))
noncomputable def slimRF : List Tree → List Tree
  | [] => []
  | t :: ts => slimR t :: slimRF ts
end
theorem slimRF_map : ∀ ts, slimRF ts = ts.map slimR
  | [] => by rw [slimRF]; rfl
  | t :: ts => by rw [slimRF, slimRF_map ts]; rfl
theorem slimR_eq (t : Tree) : slimR t = slimmerT (.node t.kind t.num (t.kids.map slimR)) := by cases t; rw [slimR, slimRF_map]; rfl

theorem node_arity {t : Tree} (h : ¬ oddNode lKids t) : (t.kind = 1 ∨ t.kind = 2 ∨ t.kind = 3) ∧ t.width = 0 ∨ (t.kind = 4 ∨ t.kind = 7 ∨ t.kind = 10 ∨ t.kind = 11) ∧ t.width = 1 ∨ (t.kind = 5 ∨ t.kind = 6 ∨ t.kind = 8 ∨ t.kind = 9) ∧ t.width = 2 := by
  unfold oddNode lKids at h
  (repeat' split at h) <;> omega
theorem truthB_iff {k : Int} : truthB k = true ↔ k = 1 ∨ k = 2 := by simp [truthB]

theorem slim_node {k n : Int} {ks : List Tree} (h : ¬ oddNode lKids (.node k n ks)) : slimN k n ks = slimmerT (.node k n ks) := by
  have h3 : k ≠ 3 → n = 0 := by unfold oddNode at h; intro hk; have : (Tree.node k n ks).kind = k := rfl; have : (Tree.node k n ks).num = n := rfl; omega
  have hw : (Tree.node k n ks).width = ks.length := rfl
  have hk : (Tree.node k n ks).kind = k := rfl
  rcases node_arity h with ⟨h1, h2⟩ | ⟨h1, h2⟩ | ⟨h1, h2⟩
  · rw [hw] at h2
    obtain rfl := List.eq_nil_of_length_eq_zero h2
    rw [hk] at h1
    unfold slimN slimmerT
    rcases h1 with rfl | rfl | rfl <;> simp [hk, mk0]
  · rw [hw] at h2
    match ks, h2 with
    | [a], _ =>
      rw [hk] at h1
      have hn : n = 0 := h3 (by omega)
      subst hn
      have e0 : (Tree.node k 0 [a]).kid 0 = a := rfl
      unfold slimN slimmerT
      have t1 := @truthB_iff a.kind
      rcases h1 with rfl | rfl | rfl | rfl <;> simp only [hk, e0] <;> simp [singleT, mk1, t1, otherK]
      all_goals (by_cases c1 : a.kind = 1 <;> by_cases c2 : a.kind = 2 <;> simp_all [mk0])
  · rw [hw] at h2
    match ks, h2 with
    | [a, b], _ =>
      rw [hk] at h1
      have hn : n = 0 := h3 (by omega)
      subst hn
      have e0 : (Tree.node k 0 [a, b]).kid 0 = a := rfl
      have e1 : (Tree.node k 0 [a, b]).kid ((Tree.node k 0 [a, b]).width - 1) = b := rfl
      have t1 := @truthB_iff a.kind
      have t2 := @truthB_iff b.kind
      unfold slimN slimmerT
      rcases h1 with rfl | rfl | rfl | rfl <;> simp only [hk, e0, e1] <;> simp [bothT, wayT, singleT, mk2, t1, t2, otherK]
      all_goals
        by_cases c5 : a = b
        · subst c5
          by_cases c1 : a.kind = 2 <;> by_cases c3 : a.kind = 1 <;> simp_all [eqT_iff]
        · have c6 : eqT a b = false := eqT_not.2 c5
          by_cases c1 : a.kind = 2 <;> by_cases c2 : b.kind = 2 <;> by_cases c3 : a.kind = 1 <;> by_cases c4 : b.kind = 1 <;> simp_all [mk1]

theorem slim_same : ∀ t : Tree, t.wf lKids → slimT t = slimR t := by
  intro t
  induction t using Tree.ind with
  | h t ih =>
    intro hw
    rw [slimT_eq, slimR_eq]
    have e : t.kids.map slimT = t.kids.map slimR := by
      refine List.map_congr_left fun u hu => ?_
      obtain ⟨i, hi, rfl⟩ := List.mem_iff_getElem.1 hu
      have := ih i hi (wf_kid hw hi)
      rwa [Tree.kid_get hi] at this
    rw [e]
    refine slim_node ?_
    have := ((wf_iff _ _).1 hw).1
    unfold oddNode at this ⊢
    simpa [Tree.width, Tree.kind, Tree.num] using (by cases t; simpa [Tree.width, Tree.kind, Tree.num, Tree.kids] using this)

/-! ### What is slim is right -/
theorem sizes_map_le {f : Tree → Tree} : ∀ ts : List Tree, (∀ t ∈ ts, (f t).size ≤ t.size) → Tree.sizes (ts.map f) ≤ Tree.sizes ts
  | [], _ => Nat.le_refl _
  | t :: ts, h => by
    have := sizes_map_le ts (fun u hu => h u (List.mem_cons_of_mem _ hu))
    have := h t (List.mem_cons_self)
    simp only [List.map_cons, Tree.sizes]; omega
theorem depths_map_le {f : Tree → Tree} : ∀ ts : List Tree, (∀ t ∈ ts, (f t).depth ≤ t.depth) → Tree.depths (ts.map f) ≤ Tree.depths ts
  | [], _ => Nat.le_refl _
  | t :: ts, h => by
    have := depths_map_le ts (fun u hu => h u (List.mem_cons_of_mem _ hu))
    have := h t (List.mem_cons_self)
    simp only [List.map_cons, Tree.depths]; omega

/-- What is asked of a formula: right, not larger than s, not deeper than d. -/
def Fits (s d : Nat) (t : Tree) : Prop := t.wf lKids ∧ t.size ≤ s ∧ t.depth ≤ d
theorem fits_mk0 {k n : Int} {s d : Nat} (h : k = 1 ∨ k = 2 ∨ (k = 3 ∧ 0 ≤ n ∧ n ≤ 63)) (h0 : k ≠ 3 → n = 0) (hs : 1 ≤ s) (hd : 1 ≤ d) : Fits s d (mk0 k n) := by
  refine ⟨(wf_iff _ _).2 ⟨?_, fun u hu => by cases hu⟩, by simp [mk0, Tree.size, Tree.sizes]; omega, by simp [mk0, Tree.depth, Tree.depths]; omega⟩
  unfold oddNode lKids
  have e1 : (mk0 k n).kind = k := rfl
  have e2 : (mk0 k n).num = n := rfl
  have e3 : (mk0 k n).width = 0 := rfl
  rw [e1, e2, e3]
  (repeat' split) <;> omega
theorem fits_mk1 {k : Int} {a : Tree} {s d : Nat} (h : k = 4 ∨ k = 7 ∨ k = 10 ∨ k = 11) (ha : Fits s d a) : Fits (s + 1) (d + 1) (mk1 k a) := by
  obtain ⟨h1, h2, h3⟩ := ha
  refine ⟨(wf_iff _ _).2 ⟨?_, fun u hu => by simp [mk1, Tree.kids] at hu; subst hu; exact h1⟩, by simp [mk1, Tree.size, Tree.sizes]; omega, by simp [mk1, Tree.depth, Tree.depths]; omega⟩
  unfold oddNode lKids
  have e1 : (mk1 k a).kind = k := rfl
  have e2 : (mk1 k a).num = 0 := rfl
  have e3 : (mk1 k a).width = 1 := rfl
  rw [e1, e2, e3]
  (repeat' split) <;> omega
theorem fits_mk2 {k : Int} {a b : Tree} {s s' d d' : Nat} (h : k = 5 ∨ k = 6 ∨ k = 8 ∨ k = 9) (ha : Fits s d a) (hb : Fits s' d' b) : Fits (s + s' + 1) (max d d' + 1) (mk2 k a b) := by
  obtain ⟨h1, h2, h3⟩ := ha
  obtain ⟨h4, h5, h6⟩ := hb
  refine ⟨(wf_iff _ _).2 ⟨?_, fun u hu => by simp [mk2, Tree.kids] at hu; rcases hu with rfl | rfl <;> assumption⟩, by simp [mk2, Tree.size, Tree.sizes]; omega, by simp [mk2, Tree.depth, Tree.depths]; omega⟩
  unfold oddNode lKids
  have e1 : (mk2 k a b).kind = k := rfl
  have e2 : (mk2 k a b).num = 0 := rfl
  have e3 : (mk2 k a b).width = 2 := rfl
  rw [e1, e2, e3]
  (repeat' split) <;> omega
theorem Fits.more {s d s' d' : Nat} {t : Tree} (h : Fits s d t) (hs : s ≤ s') (hd : d ≤ d') : Fits s' d' t := ⟨h.1, Nat.le_trans h.2.1 hs, Nat.le_trans h.2.2 hd⟩
theorem fits_single {k : Int} {a : Tree} {s d : Nat} (h : k = 4 ∨ k = 7 ∨ k = 10 ∨ k = 11) (ha : Fits s d a) : Fits (s + 1) (d + 1) (singleT k a) := by
  have hsz := Tree.size_pos a
  unfold singleT
  split
  · rename_i hc
    have := truthB_iff.1 hc.2
    refine fits_mk0 ?_ ?_ (by omega) (by omega) <;> (unfold otherK; rcases this with e | e <;> rw [e] <;> simp)
  · split
    · rename_i _ hc
      have har := node_arity ((wf_iff _ _).1 ha.1).1
      have hw : a.width = 1 := by omega
      have hk := wf_kid ha.1 (j := 0) (by omega)
      obtain ⟨h1, h2, h3⟩ := ha
      have hka : a.kids = [a.kid 0] := by
        match e : a.kids, (show a.kids.length = 1 from hw) with
        | [u], _ => simp [Tree.kid, e]
      rw [← Tree.eta a, hka, Tree.size] at h2
      rw [← Tree.eta a, hka, Tree.depth] at h3
      simp only [Tree.sizes, Tree.depths] at h2 h3
      exact ⟨hk, by omega, by omega⟩
    · split
      · exact ha.more (by omega) (by omega)
      · exact fits_mk1 h ha
theorem fits_both {k z : Int} {a b : Tree} {s s' d d' : Nat} (h : k = 5 ∨ k = 6) (hz : z = 1 ∨ z = 2) (ha : Fits s d a) (hb : Fits s' d' b) : Fits (s + s' + 1) (max d d' + 1) (bothT k z a b) := by
  unfold bothT
  split
  · exact fits_mk0 (by omega) (fun _ => rfl) (by omega) (by omega)
  · split
    · exact hb.more (by omega) (by omega)
    · split
      · exact ha.more (by omega) (by omega)
      · exact fits_mk2 (by omega) ha hb
theorem fits_way {k z : Int} {a b : Tree} {s s' d d' : Nat} (h : k = 8 ∨ k = 9) (ha : Fits s d a) (hb : Fits s' d' b) : Fits (s + s' + 1) (max d d' + 1) (wayT k z a b) := by
  unfold wayT
  split
  · exact hb.more (by omega) (by omega)
  · split
    · exact (fits_single (by omega) hb).more (by omega) (by omega)
    · split
      · exact (fits_single (by omega) hb).more (by omega) (by omega)
      · exact fits_mk2 (by omega) ha hb
theorem slim_fits : ∀ t : Tree, t.wf lKids → Fits t.size t.depth (slimT t) := by
  intro t
  induction t using Tree.ind with
  | h t ih =>
    intro hw
    have hn := ((wf_iff _ _).1 hw).1
    rw [slimT_eq]
    have hko := node_arity hn
    have hs : t.size = 1 + Tree.sizes t.kids := by cases t; rw [Tree.size]; rfl
    have hd : t.depth = 1 + Tree.depths t.kids := by cases t; rw [Tree.depth]; rfl
    rcases hko with ⟨h1, h2⟩ | ⟨h1, h2⟩ | ⟨h1, h2⟩
    · have hk : t.kids = [] := List.eq_nil_of_length_eq_zero h2
      rw [hk] at hs hd ⊢
      have hf : Fits t.size t.depth (mk0 t.kind t.num) := fits_mk0 (by unfold oddNode at hn; omega) (by unfold oddNode at hn; omega) (by omega) (by omega)
      unfold slimN
      rw [if_neg (by omega), if_neg (by omega), if_neg (by omega), if_neg (by omega), if_neg (by omega)]
      exact hf
    · match hk : t.kids, (show t.kids.length = 1 from h2) with
      | [a], _ =>
        have ha := ih 0 (by omega) (wf_kid hw (by omega))
        rw [show t.kid 0 = a by simp [Tree.kid, hk]] at ha
        rw [hk] at hs hd
        simp only [Tree.sizes, Tree.depths] at hs hd
        have hf : Fits t.size t.depth (singleT t.kind (slimT a)) := (fits_single h1 ha).more (by omega) (by omega)
        unfold slimN
        rw [if_neg (by omega), if_neg (by omega), if_neg (by omega), if_neg (by omega), if_pos h1]
        exact hf
    · match hk : t.kids, (show t.kids.length = 2 from h2) with
      | [a, b], _ =>
        have ha := ih 0 (by omega) (wf_kid hw (by omega))
        have hb := ih 1 (by omega) (wf_kid hw (by omega))
        rw [show t.kid 0 = a by simp [Tree.kid, hk]] at ha
        rw [show t.kid 1 = b by simp [Tree.kid, hk]] at hb
        rw [hk] at hs hd
        simp only [Tree.sizes, Tree.depths] at hs hd
        unfold slimN
        rcases h1 with e | e | e | e <;> rw [e] <;> simp
        · exact (fits_both (by omega) (by omega) ha hb).more (by omega) (by omega)
        · exact (fits_both (by omega) (by omega) ha hb).more (by omega) (by omega)
        · exact (fits_way (by omega) ha hb).more (by omega) (by omega)
        · exact (fits_way (by omega) ha hb).more (by omega) (by omega)
theorem slim_chk {t : Tree} (h : chk lKids t = 0) : chk lKids (slimT t) = 0 := by
  rw [chk_zero] at h ⊢
  obtain ⟨h1, h2, h3⟩ := slim_fits t h.2.2
  exact ⟨by omega, by omega, h1⟩
end Go.Proofs.YtgkodbnomgabdaaDoor
