/-
  Is a process sound?: plain law. No statement is proved here.
-/
import Derived.Test.YtjnfahdolkgnoaaQSpA
import Derived.Test.YtjnfahdolkgnoaaQWxA
namespace Go.Proofs.Ytjnfahdolkgnoaa
/-! ### The graph of a space -/
def gN (N : List (List EdgeD)) : List (List Int) := N.map fun l => l.map fun x => x.2
@[simp] theorem gN_len (N : List (List EdgeD)) : (gN N).length = N.length := by simp [gN]
theorem gN_at (N : List (List EdgeD)) (i : Nat) : (gN N).getD i [] = (N.getD i []).map fun x => x.2 := by
  unfold gN
  rw [List.getD_eq_getElem?_getD, List.getElem?_map, List.getD_eq_getElem?_getD]
  cases N[i]? <;> rfl
/-- All of a space's numbers are right. -/
structure SpN (M : List (List Int)) (N : List (List EdgeD)) (s : Nat) : Prop where
  len : N.length = M.length
  pos : 1 ≤ M.length
  few : M.length ≤ 200
  row : ∀ l ∈ N, l.length ≤ 60
  edge : ∀ l ∈ N, ∀ x ∈ l, 0 ≤ x.1 ∧ x.1 < (s : Int) ∧ 0 ≤ x.2 ∧ x.2 < (M.length : Int)
  mark : ∀ m ∈ M, m.length ≤ 30 ∧ ∀ x ∈ m, 0 ≤ x
theorem SpN.rowAt {M : List (List Int)} {N : List (List EdgeD)} {s : Nat} (h : SpN M N s) (i : Nat) : (N.getD i []).length ≤ 60 := by
  rw [List.getD_eq_getElem?_getD]
  cases e : N[i]? with
  | none => simp
  | some l => exact h.row l (List.mem_of_getElem? e)
theorem mem_getDE {l : List EdgeD} {k : Nat} (h : k < l.length) : l.getD k (0, 0) ∈ l := by
  rw [List.getD_eq_getElem?_getD, List.getElem?_eq_getElem h]; exact List.getElem_mem h
theorem SpN.edgeAt {M : List (List Int)} {N : List (List EdgeD)} {s : Nat} (h : SpN M N s) {i k : Nat} (hk : k < (N.getD i []).length) : 0 ≤ ((N.getD i []).getD k (0, 0)).1 ∧ ((N.getD i []).getD k (0, 0)).1 < (s : Int) ∧ 0 ≤ ((N.getD i []).getD k (0, 0)).2 ∧ ((N.getD i []).getD k (0, 0)).2 < (M.length : Int) := by
  have hm := mem_getDE hk
  have hi : N.getD i [] ∈ N := by
    rw [List.getD_eq_getElem?_getD] at hk ⊢
    cases e : N[i]? with
    | none => rw [e] at hk; simp at hk
    | some l => exact List.mem_of_getElem? e
  exact h.edge _ hi _ hm
theorem SpN.graph {M : List (List Int)} {N : List (List EdgeD)} {s : Nat} (h : SpN M N s) : chkG (gN N) = 0 ∧ FitsG (gN N) := by
  have hf := h.few
  have hl := h.len
  refine ⟨chkG_zero.2 ⟨by simp; omega, fun l hl' => ?_⟩, ⟨by simp; omega, fun l hl' => ?_⟩⟩
  · unfold gN at hl'
    obtain ⟨r, hr, rfl⟩ := List.mem_map.1 hl'
    refine inB_of fun x hx => ?_
    obtain ⟨e, he, rfl⟩ := List.mem_map.1 hx
    have := h.edge r hr e he
    rw [gN_len, hl]
    omega
  · unfold gN at hl'
    obtain ⟨r, hr, rfl⟩ := List.mem_map.1 hl'
    have := h.row r hr
    simp
    omega
/-! ### The first of some -/
/-- The first of the last d of n numbers that is so; -1: none is. -/
def frst (p : Nat → Bool) (n : Nat) : Nat → Int
  | 0 => -1
  | d + 1 => if p (n - (d + 1)) = true then ((n - (d + 1) : Nat) : Int) else frst p n d
theorem frst_spec {p : Nat → Bool} {n : Nat} : ∀ d, d ≤ n → (frst p n d = -1 ∧ ∀ j, n - d ≤ j → j < n → p j = false) ∨ (∃ k : Nat, frst p n d = (k : Int) ∧ n - d ≤ k ∧ k < n ∧ p k = true ∧ ∀ j, n - d ≤ j → j < k → p j = false)
  | 0, _ => .inl ⟨rfl, fun j h1 h2 => by omega⟩
  | d + 1, h => by
    simp only [frst]
    by_cases q : p (n - (d + 1)) = true
    · rw [if_pos q]
      exact .inr ⟨n - (d + 1), rfl, Nat.le_refl _, by omega, q, fun j h1 h2 => by omega⟩
    · rw [if_neg q]
      have q : p (n - (d + 1)) = false := by simpa using q
      rcases frst_spec (p := p) (n := n) d (by omega) with ⟨h1, h2⟩ | ⟨k, h1, h2, h3, h4, h5⟩
      · refine .inl ⟨h1, fun j g1 g2 => ?_⟩
        by_cases e : j = n - (d + 1)
        · subst e; exact q
        · exact h2 j (by omega) g2
      · refine .inr ⟨k, h1, by omega, h3, h4, fun j g1 g2 => ?_⟩
        by_cases e : j = n - (d + 1)
        · subst e; exact q
        · exact h5 j (by omega) g2
/-! ### What comes: turned round -/
theorem Rch.one (g : List (List Int)) (v : Nat) : Rch g [(v : Int)] v := by
  have := Rch.base (g := g) (from_ := [(v : Int)]) (x := (v : Int)) (by simp)
  rwa [Int.toNat_natCast] at this
theorem Rch.trans {g : List (List Int)} {a : List Int} {u v : Nat} (h : Rch g a u) (k : Rch g [(u : Int)] v) : Rch g a v := by
  induction k with
  | base hx =>
    rw [List.mem_singleton] at hx
    subst hx
    simpa using h
  | step _ hx ih => exact .step ih hx
theorem rch_turn {g : List (List Int)} (hin : ∀ v y, y ∈ g.getD v [] → 0 ≤ y ∧ y.toNat < g.length) {u v : Nat} (hu : u < g.length) : Rch g [(u : Int)] v → Rch (turnG g g.length) [(v : Int)] u := by
  intro h
  have key : ∀ w, Rch g [(u : Int)] w → w < g.length ∧ Rch (turnG g g.length) [(w : Int)] u := by
    intro w hw
    induction hw with
    | base hx =>
      rw [List.mem_singleton] at hx
      subst hx
      exact ⟨by simpa using hu, by rw [Int.toNat_natCast]; exact Rch.one _ u⟩
    | @step a x ha hx ih =>
      have hxr := hin a x hx
      refine ⟨hxr.2, ?_⟩
      have e : (a : Int) ∈ (turnG g g.length).getD x.toNat [] := (turnG_mem (fun v y hy => (hin v y hy).2) (Nat.le_refl _)).2 ⟨a, ih.1, rfl, x, hx, rfl⟩
      have s : Rch (turnG g g.length) [((x.toNat : Nat) : Int)] a := by
        have := Rch.step (g := turnG g g.length) (from_ := [((x.toNat : Nat) : Int)]) (u := x.toNat) (Rch.one _ x.toNat) e
        rwa [Int.toNat_natCast] at this
      exact s.trans ih.2
  exact (key v h).2
theorem rch_back {g : List (List Int)} (hin : ∀ v y, y ∈ g.getD v [] → 0 ≤ y ∧ y.toNat < g.length) {u v : Nat} : Rch (turnG g g.length) [(v : Int)] u → Rch g [(u : Int)] v := by
  intro h
  have key : ∀ w, Rch (turnG g g.length) [(v : Int)] w → Rch g [(w : Int)] v := by
    intro w hw
    induction hw with
    | base hx =>
      rw [List.mem_singleton] at hx
      subst hx
      rw [Int.toNat_natCast]; exact Rch.one g v
    | @step a x ha hx ih =>
      obtain ⟨k, hk, rfl, y, hy, hya⟩ := (turnG_mem (fun v y hy => (hin v y hy).2) (Nat.le_refl _)).1 hx
      rw [Int.toNat_natCast]
      have s : Rch g [(k : Int)] y.toNat := Rch.step (u := k) (Rch.one g k) hy
      rw [hya] at s
      exact s.trans ih
  exact key u h
theorem rch_of {g : List (List Int)} {l : List Int} {v : Nat} (hl : ∀ x ∈ l, 0 ≤ x) : Rch g l v ↔ ∃ x ∈ l, Rch g [x] v := by
  constructor
  · intro h
    induction h with
    | @base x hx => exact ⟨x, hx, .base (by simp)⟩
    | step _ hx ih => obtain ⟨x, h1, h2⟩ := ih; exact ⟨x, h1, .step h2 hx⟩
  · rintro ⟨x, hx, h⟩
    have e : x = ((x.toNat : Nat) : Int) := by have := hl x hx; omega
    rw [e] at h
    exact Rch.trans (.base hx) h
/-! ### Ways, and steps along -/
/-- The step of the first edge that leads there. -/
def stepTo (l : List EdgeD) (t : Int) : Int := ((l.find? fun x => x.2 == t).getD (0, 0)).1
def alongTo (N : List (List EdgeD)) (way : List Int) : Nat → List Int
  | 0 => []
  | k + 1 => alongTo N way k ++ [stepTo (N.getD (way.getD k 0).toNat []) (way.getD (k + 1) 0)]
theorem alongTo_len (N : List (List EdgeD)) (way : List Int) : ∀ k, (alongTo N way k).length = k
  | 0 => rfl
  | k + 1 => by simp [alongTo, alongTo_len N way k]
def alongL (N : List (List EdgeD)) (way : List Int) : List Int := alongTo N way (way.length - 1)
theorem stepTo_hit {l : List EdgeD} {t : Int} {k : Nat} (hk : k < l.length) (h : (l.getD k (0, 0)).2 = t) (no : ∀ j, j < k → (l.getD j (0, 0)).2 ≠ t) : stepTo l t = (l.getD k (0, 0)).1 := by
  unfold stepTo
  have e : l.find? (fun x => x.2 == t) = some (l.getD k (0, 0)) := by
    rw [List.find?_eq_some_iff_getElem]
    refine ⟨by simpa using h, k, hk, by rw [List.getD_eq_getElem?_getD, List.getElem?_eq_getElem hk]; rfl, fun j hj => ?_⟩
    have := no j hj
    rw [List.getD_eq_getElem?_getD, List.getElem?_eq_getElem (by omega)] at this
    simpa using this
  rw [e]
  rfl
/-- From node to node of a way there is an edge. -/
theorem bestTo_mem {p : Nat → Bool} {l : List Int} (h0 : ∀ k, k < l.length → 0 ≤ l.getD k 0) (h : 0 ≤ bestTo p l l.length) : bestTo p l l.length ∈ l := by
  rcases bestTo_ok (p := p) h0 l.length (Nat.le_refl _) with ⟨e, _⟩ | ⟨_, _, ⟨j, hj, e⟩, _⟩
  · omega
  · rw [← e]; exact mem_getD hj
theorem walk_edges {g : List (List Int)} (hin : ∀ l ∈ g, inB l g.length = true) {to : Nat → Bool} : ∀ (d : Nat) (a : Int), 0 ≤ a → dis g to a.toNat = (d : Int) →
    ∀ i, i + 1 < (walkW g (dis g to) d a).length → (walkW g (dis g to) d a).getD (i + 1) 0 ∈ g.getD ((walkW g (dis g to) d a).getD i 0).toNat []
  | 0, a, _, _, i, hi => by simp [walkW] at hi
  | d + 1, a, ha, hd, i, hi => by
    obtain ⟨n1, n2, n3⟩ := next_ok hin (to := to) (a := a.toNat) (d := d) (by omega)
    have hm := bestTo_mem (p := fun n => decide (dis g to n = (d : Int))) (fun k hk => (inB_getD (inB_row hin a.toNat) hk).1) n1
    have ih := walk_edges hin d _ n1 n3
    rw [walkW_succ] at hi ⊢
    generalize hb : bestTo (fun n => decide (dis g to n = (d : Int))) (g.getD a.toNat []) (g.getD a.toNat []).length = b at hi hm ih ⊢
    cases i with
    | zero =>
      have e : (walkW g (dis g to) d b).getD 0 0 = b := by cases d <;> rfl
      show (walkW g (dis g to) d b).getD 0 0 ∈ g.getD a.toNat []
      rw [e]; exact hm
    | succ i =>
      have := ih i (by simpa using hi)
      simpa using this
theorem walk_nodes {g : List (List Int)} (hin : ∀ l ∈ g, inB l g.length = true) {to : Nat → Bool} : ∀ (d : Nat) (a : Int), 0 ≤ a → a < (g.length : Int) → dis g to a.toNat = (d : Int) → ∀ x ∈ walkW g (dis g to) d a, 0 ≤ x ∧ x < (g.length : Int)
  | 0, a, h0, h1, _, x, hx => by simp only [walkW, List.mem_singleton] at hx; subst hx; exact ⟨h0, h1⟩
  | d + 1, a, h0, h1, hd, x, hx => by
    obtain ⟨n1, n2, n3⟩ := next_ok hin (to := to) (a := a.toNat) (d := d) (by omega)
    rw [walkW_succ] at hx
    rcases List.mem_cons.1 hx with rfl | hx
    · exact ⟨h0, h1⟩
    · exact walk_nodes hin d _ n1 n2 n3 x hx
/-- A shortest way. -/
theorem way_ok {g : List (List Int)} (hin : ∀ l ∈ g, inB l g.length = true) {from_ : List Int} (hf : inB from_ g.length = true) {to : Nat → Bool} :
    (∀ i, i + 1 < (wayL g from_ to).length → (wayL g from_ to).getD (i + 1) 0 ∈ g.getD ((wayL g from_ to).getD i 0).toNat []) ∧ (∀ x ∈ wayL g from_ to, 0 ≤ x ∧ x < (g.length : Int)) ∧ (wayL g from_ to).length ≤ g.length := by
  unfold wayL
  split
  · rename_i h
    obtain ⟨s1, s2⟩ := start_ok hf h
    have hd := dis_lt hin (to := to) (n := (wayS g from_ to).toNat) (by omega)
    have e : dis g to (wayS g from_ to).toNat = ((dis g to (wayS g from_ to).toNat).toNat : Int) := by omega
    refine ⟨walk_edges hin _ _ h e, walk_nodes hin _ _ h s1 e, ?_⟩
    rw [walkW_len]
    omega
  · simp
end Go.Proofs.Ytjnfahdolkgnoaa
