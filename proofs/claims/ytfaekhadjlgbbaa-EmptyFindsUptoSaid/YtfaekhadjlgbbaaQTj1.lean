/-
  The parts of a graph by one search with a stack: a part is closed; the end. Plain Lean. No statement is proved here.
-/
import Derived.Test.YtfaekhadjlgbbaaQTj0
namespace Go.Proofs.Ytfaekhadjlgbbaa
set_option linter.unusedVariables false
/-- A node is left, and its part is closed: what stood on the stack from it on goes. -/
def TJ.shut (S : TJ) (n : Nat) (path : List (Nat × Nat)) (low : Nat → Nat) : TJ := ⟨S.num, low, fun v => if v ∈ S.stack ∧ S.num n ≤ S.num v then (S.got : Int) else S.part v, S.stack.filter fun v => decide (S.num v < S.num n), path, S.count, S.got + 1⟩
theorem filter_len_lt {α : Type} {p : α → Bool} {a : α} : ∀ {l : List α}, a ∈ l → p a = false → (l.filter p).length < l.length
  | [], h, _ => by cases h
  | b :: l, h, hp => by
    rw [List.filter_cons]
    by_cases e : p b = true
    · rw [if_pos e]
      rcases List.mem_cons.1 h with q | q
      · subst q; rw [hp] at e; cases e
      · have := filter_len_lt q hp
        simp only [List.length_cons]; omega
    · rw [if_neg e]
      have := List.length_filter_le p l
      simp only [List.length_cons]; omega
theorem TjI.shut {g : List (List Int)} {S : TJ} (h : TjI g S) {n i : Nat} {r : List (Nat × Nat)} (hp : S.path = (n, i) :: r) (hi : (g.getD n []).length ≤ i) (hl : S.low n = S.num n) {low : Nat → Nat} (hlow : ∀ v, S.num v < S.num n → low v = S.low v) : TjI g (S.shut n r low) := by
  have hseg := h.seg
  rw [hp] at hseg
  obtain ⟨g1, g2, g3, g4, g5, g6, g7, g8, g9⟩ := hseg
  have hn0 := (h.stk n).1 g1
  have hpart : ∀ v, (S.shut n r low).part v = if v ∈ S.stack ∧ S.num n ≤ S.num v then (S.got : Int) else S.part v := fun v => rfl
  -- the piece of n
  have hE : ∀ v, v ∈ S.stack → S.num n ≤ S.num v → ∀ x ∈ g.getD v [], S.num x.toNat ≠ 0 ∧ (S.part x.toNat < 0 → S.num n ≤ S.num x.toNat) := fun v hv a x hx => by
    have b : S.num v < S.count + 1 := by have := h.cnt v; omega
    by_cases e : v = n
    · subst e
      obtain ⟨k, hk, rfl⟩ := getD_mem hx
      obtain ⟨n1, n2⟩ := g4 k hk (by rw [if_pos rfl]; omega)
      exact ⟨n1, fun z => by have := n2 z; omega⟩
    · obtain ⟨n1, n2⟩ := ((g3 v hv a b).2 e).2 x hx
      exact ⟨n1, fun z => by have := n2 z; omega⟩
  have hge : ∀ v, 0 ≤ (S.shut n r low).part v ↔ 0 ≤ S.part v ∨ (v ∈ S.stack ∧ S.num n ≤ S.num v) := fun v => by
    rw [hpart]
    by_cases q : v ∈ S.stack ∧ S.num n ≤ S.num v
    · rw [if_pos q]; simp [q]
    · rw [if_neg q]; simp [q]
  have hcls : ∀ v, 0 ≤ (S.shut n r low).part v → ∀ x ∈ g.getD v [], 0 ≤ (S.shut n r low).part x.toNat := fun v hv x hx => by
    rw [hge] at hv ⊢
    rcases hv with hv | ⟨hv, a⟩
    · exact .inl (h.cls v hv x hx)
    · obtain ⟨n1, n2⟩ := hE v hv a x hx
      rcases Int.lt_or_le (S.part x.toNat) 0 with q | q
      · exact .inr ⟨(h.stk _).2 ⟨n1, q⟩, n2 q⟩
      · exact .inl q
  have hdown : ∀ m v, S.num v ≤ m → v ∈ S.stack → S.num n ≤ S.num v → To g v n := by
    intro m
    induction m with
    | zero => intro v a hv b; have := ((h.stk v).1 hv).1; omega
    | succ m ih =>
      intro v a hv b
      by_cases e : v = n
      · subst e; exact to_refl g v
      · obtain ⟨⟨w, w1, w2, w3⟩, _⟩ := (g3 v hv b (by have := h.cnt v; omega)).2 e
        have hw : 0 ≤ (S.shut n r low).part w := to_closed (s := fun v => 0 ≤ (S.shut n r low).part v) hcls w3 ((hge v).2 (.inr ⟨hv, b⟩))
        rw [hge] at hw
        have hw : w ∈ S.stack ∧ S.num n ≤ S.num w := by
          rcases hw with q | q
          · have := ((h.stk w).1 w1).2; omega
          · exact q
        exact to_trans w3 (ih w (by omega) w1 hw.2)
  have hmut : ∀ v, v ∈ S.stack → S.num n ≤ S.num v → To g n v ∧ To g v n := fun v hv a => ⟨(g3 v hv a (by have := h.cnt v; omega)).1, hdown _ v (Nat.le_refl _) hv a⟩
  have hold : ∀ u v, 0 ≤ S.part u → v ∈ S.stack → ¬ To g u v := fun u v hu hv q => by
    have := to_closed (s := fun v => 0 ≤ S.part v) h.cls q hu
    have := ((h.stk v).1 hv).2
    omega
  refine ⟨fun v => ?_, ?_, h.cnt, h.node, fun v hv => ?_, hcls, fun u v hu hv => ?_, ?_, ?_, h.seen, ?_, h.numI⟩
  · show v ∈ S.stack.filter _ ↔ S.num v ≠ 0 ∧ (S.shut n r low).part v < 0
    rw [List.mem_filter, decide_eq_true_eq, hpart]
    constructor
    · rintro ⟨a, b⟩
      rw [if_neg (fun q => by omega)]
      exact (h.stk v).1 a
    · rintro ⟨a, b⟩
      by_cases q : v ∈ S.stack ∧ S.num n ≤ S.num v
      · rw [if_pos q] at b; omega
      · rw [if_neg q] at b
        have := (h.stk v).2 ⟨a, b⟩
        exact ⟨this, by
          rcases Nat.lt_or_ge (S.num v) (S.num n) with z | z
          · exact z
          · exact absurd ⟨this, z⟩ q⟩
  · exact h.srt.filter _
  · show (S.shut n r low).part v < ((S.got + 1 : Nat) : Int) ∧ S.num v ≠ 0
    rw [hpart]
    by_cases q : v ∈ S.stack ∧ S.num n ≤ S.num v
    · rw [if_pos q]; exact ⟨by omega, ((h.stk v).1 q.1).1⟩
    · rw [if_neg q]
      rw [hge] at hv
      obtain ⟨a, b⟩ := h.par v (hv.resolve_right q)
      exact ⟨by omega, b⟩
  · rw [hge] at hu hv
    rw [hpart, hpart]
    by_cases qu : u ∈ S.stack ∧ S.num n ≤ S.num u <;> by_cases qv : v ∈ S.stack ∧ S.num n ≤ S.num v
    · rw [if_pos qu, if_pos qv]
      obtain ⟨a1, a2⟩ := hmut u qu.1 qu.2
      obtain ⟨b1, b2⟩ := hmut v qv.1 qv.2
      exact ⟨fun _ => ⟨to_trans a2 b1, to_trans b2 a1⟩, fun _ => rfl⟩
    · rw [if_pos qu, if_neg qv]
      have hv' := hv.resolve_right qv
      have := (h.par v hv').1
      exact ⟨fun e => by omega, fun e => absurd e.2 (hold v u hv' qu.1)⟩
    · rw [if_neg qu, if_pos qv]
      have hu' := hu.resolve_right qu
      have := (h.par u hu').1
      exact ⟨fun e => by omega, fun e => absurd e.1 (hold u v hu' qv.1)⟩
    · rw [if_neg qu, if_neg qv]
      exact h.same u v (hu.resolve_right qu) (hv.resolve_right qv)
  · show Segs g (S.shut n r low) (S.count + 1) true r
    have mem' : ∀ v, v ∈ (S.shut n r low).stack ↔ v ∈ S.stack ∧ S.num v < S.num n := fun v => by
      show v ∈ S.stack.filter _ ↔ _
      rw [List.mem_filter, decide_eq_true_eq]
    have h9 : Segs g (S.shut n r low) (S.num n) false r := Segs.keep (S := S) (S' := S.shut n r low) (fun x hx => ⟨hx, fun q => by
      have q' : ¬ (0 ≤ (S.shut n r low).part x) := by omega
      rw [hge] at q'
      exact ⟨by
        rcases Int.lt_or_le (S.part x) 0 with z | z
        · exact z
        · exact absurd (.inl z) q', rfl⟩⟩) r (fun v hv q => ⟨((mem' v).1 hv).1, rfl⟩) (fun v hv q => ⟨(mem' v).2 ⟨hv, q⟩, rfl, hlow v q⟩) g9
    match r, g8, h9 with
    | [], _, h9 =>
      intro v hv
      have := h9 v hv
      have := ((mem' v).1 hv).2
      have : S.num n ≤ S.num v := h9 v hv
      omega
    | (p, j) :: r, g8, h9 =>
      obtain ⟨f1, f2, f3, f4, f5, f6, f7, f8, f9⟩ := h9
      refine ⟨f1, ?_, fun v hv a b => ?_, fun k hk ht => ?_, f5, f6, fun q => (by cases q), f8, f9⟩
      · have : S.num p < S.num n := f2
        show S.num p < S.count + 1
        have := h.cnt n
        omega
      · exact f3 v hv a ((mem' v).1 hv).2
      · rw [if_pos rfl] at ht
        rcases Nat.lt_or_ge (k + 1) j with q | q
        · exact f4 k hk (by rw [if_neg (by decide)]; exact q)
        · have : k = j - 1 := by omega
          subst this
          rw [g8.2.2]
          refine ⟨hn0.1, fun z => ?_⟩
          have := (hge n).2 (.inr ⟨g1, Nat.le_refl _⟩)
          omega
  · have := h.size
    have h1 := filter_len_lt (p := fun v => decide (S.num v < S.num n)) g1 (by simp)
    show S.got + 1 + (S.stack.filter fun v => decide (S.num v < S.num n)).length ≤ S.count
    omega
  · have := h.deep
    rw [hp] at this
    simp only [List.length_cons] at this
    show r.length + unseen (fun v => decide (S.num v ≠ 0)) g.length ≤ g.length
    omega
/-! ### The beginning, the end, and how long it takes -/
theorem TjI.zero (g : List (List Int)) : TjI g ⟨fun _ => 0, fun _ => 0, fun _ => -1, [], [], 0, 0⟩ where
  stk v := by simp
  srt := by simp
  cnt _ := Nat.le_refl _
  node v h := absurd rfl h
  par v h := by have h : (0 : Int) ≤ -1 := h; omega
  cls v h := by have h : (0 : Int) ≤ -1 := h; omega
  same u v h := by have h : (0 : Int) ≤ -1 := h; omega
  seg := fun v hv => by cases hv
  size := by simp
  seen := by
    show unseen (fun v => decide ((0 : Nat) ≠ 0)) g.length + 0 = g.length
    have : ∀ n, unseen (fun _ => decide ((0 : Nat) ≠ 0)) n = n := fun n => by
      induction n with
      | zero => rfl
      | succ n ih => unfold unseen at ih ⊢; simp only [sumTo, ih]; simp
    rw [this]; rfl
  deep := by
    show 0 + unseen (fun v => decide ((0 : Nat) ≠ 0)) g.length ≤ g.length
    have := unseen_le (fun v => decide ((0 : Nat) ≠ 0)) g.length
    omega
  numI u v _ h := absurd rfl h
theorem TjI.empty {g : List (List Int)} {S : TJ} (h : TjI g S) (hp : S.path = []) : S.stack = [] := by
  have hs := h.seg
  rw [hp] at hs
  cases e : S.stack with
  | nil => rfl
  | cons v r =>
    have := hs v (by rw [e]; simp)
    have := h.cnt v
    omega
theorem TjI.done {g : List (List Int)} {S : TJ} (h : TjI g S) (hp : S.path = []) {v : Nat} (hv : S.num v ≠ 0) : 0 ≤ S.part v := by
  rcases Int.lt_or_le (S.part v) 0 with q | q
  · have := (h.stk v).2 ⟨hv, q⟩
    rw [h.empty hp] at this
    cases this
  · exact q
def pathW (g : List (List Int)) : List (Nat × Nat) → Nat
  | [] => 0
  | (p, i) :: r => (g.getD p []).length - i + 1 + pathW g r
def TJ.fuel (g : List (List Int)) (S : TJ) : Nat := sumTo (fun v => if S.num v = 0 then (g.getD v []).length + 2 else 0) g.length + pathW g S.path
theorem fuel_open {g : List (List Int)} {S : TJ} {v : Nat} (hv : v < g.length) (h0 : S.num v = 0) (path : List (Nat × Nat)) : TJ.fuel g (S.open v path) + 1 + pathW g S.path = TJ.fuel g S + pathW g path := by
  have := sumTo_upd (f := fun w => if S.num w = 0 then (g.getD w []).length + 2 else 0) (f' := fun w => if up S.num v (S.count + 1) w = 0 then (g.getD w []).length + 2 else 0) g.length hv fun j _ hne => by rw [up_ne hne]
  unfold TJ.fuel
  show sumTo (fun w => if up S.num v (S.count + 1) w = 0 then (g.getD w []).length + 2 else 0) g.length + ((g.getD v []).length - 0 + 1 + pathW g path) + 1 + pathW g S.path = _
  rw [up_self, if_pos h0, if_neg (by omega)] at this
  omega
end Go.Proofs.Ytfaekhadjlgbbaa
