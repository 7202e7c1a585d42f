/-
  The parts of a graph by one search with a stack. Plain Lean. No statement is proved here.
-/
import Derived.Test.YtfaekhadjlgbbaaQGr
namespace Go.Proofs.Ytfaekhadjlgbbaa
set_option linter.unusedVariables false
abbrev To (g : List (List Int)) (u v : Nat) : Prop := Rch g [(u : Int)] v
theorem to_refl (g : List (List Int)) (v : Nat) : To g v v := by
  have := Rch.base (g := g) (from_ := [(v : Int)]) (x := (v : Int)) (by simp)
  simpa using this
theorem to_trans {g : List (List Int)} {a b c : Nat} (h : To g a b) (k : To g b c) : To g a c := by
  unfold To at k
  generalize hb : [(b : Int)] = fr at k
  induction k with
  | base m => subst hb; simp only [List.mem_singleton] at m; subst m; simpa using h
  | step _ m ih => exact .step ih m
theorem to_edge {g : List (List Int)} {a : Nat} {x : Int} (h : x ∈ g.getD a []) : To g a x.toNat := .step (to_refl g a) h
theorem to_closed {g : List (List Int)} {s : Nat → Prop} (h : ∀ v, s v → ∀ x ∈ g.getD v [], s x.toNat) {u v : Nat} (k : To g u v) (hu : s u) : s v := by
  unfold To at k
  generalize hb : [(u : Int)] = fr at k
  induction k with
  | base m => subst hb; simp only [List.mem_singleton] at m; subst m; simpa using hu
  | step _ m ih => exact h _ ih _ m
structure TJ where
  num : Nat → Nat
  low : Nat → Nat
  part : Nat → Int
  stack : List Nat
  path : List (Nat × Nat)
  count : Nat
  got : Nat
def up {α : Type} (f : Nat → α) (k : Nat) (v : α) : Nat → α := fun i => if i = k then v else f i
@[simp] theorem up_self {α : Type} (f : Nat → α) (k : Nat) (v : α) : up f k v k = v := by simp [up]
theorem up_ne {α : Type} {f : Nat → α} {k i : Nat} {v : α} (h : i ≠ k) : up f k v i = f i := by simp [up, h]
/-- Of each node of the path what its own piece of the stack keeps; nodes at or above U belong to others. -/
def Segs (g : List (List Int)) (S : TJ) : Nat → Bool → List (Nat × Nat) → Prop
  | U, _, [] => ∀ v, v ∈ S.stack → U ≤ S.num v
  | U, top, (p, i) :: r =>
    p ∈ S.stack ∧ S.num p < U ∧
    (∀ v, v ∈ S.stack → S.num p ≤ S.num v → S.num v < U → To g p v ∧ (v ≠ p → (∃ w, w ∈ S.stack ∧ S.num w < S.num v ∧ To g v w) ∧ ∀ x ∈ g.getD v [], S.num x.toNat ≠ 0 ∧ (S.part x.toNat < 0 → S.low p ≤ S.num x.toNat))) ∧
    (∀ k, k < (g.getD p []).length → (if top = true then k < i else k + 1 < i) → S.num ((g.getD p []).getD k 0).toNat ≠ 0 ∧ (S.part ((g.getD p []).getD k 0).toNat < 0 → S.low p ≤ S.num ((g.getD p []).getD k 0).toNat)) ∧
    S.low p ≤ S.num p ∧ (∃ w, w ∈ S.stack ∧ S.num w = S.low p ∧ To g p w) ∧
    (top = false → 1 ≤ i ∧ i ≤ (g.getD p []).length) ∧
    (match r with
      | [] => True
      | (q, j) :: _ => 1 ≤ j ∧ j ≤ (g.getD q []).length ∧ ((g.getD q []).getD (j - 1) 0).toNat = p) ∧
    Segs g S (S.num p) false r
theorem Segs.keep {g : List (List Int)} {S S' : TJ} (h3 : ∀ x, S.num x ≠ 0 → S'.num x ≠ 0 ∧ (S'.part x < 0 → S.part x < 0 ∧ S'.num x = S.num x)) :
    ∀ (r : List (Nat × Nat)) {U : Nat} {top : Bool}, (∀ v, v ∈ S'.stack → S'.num v < U → v ∈ S.stack ∧ S.num v = S'.num v) → (∀ v, v ∈ S.stack → S.num v < U → v ∈ S'.stack ∧ S'.num v = S.num v ∧ S'.low v = S.low v) → Segs g S U top r → Segs g S' U top r
  | [], U, top, h1, h2, h => fun v hv => by
    rcases Nat.lt_or_ge (S'.num v) U with q | q
    · obtain ⟨a, b⟩ := h1 v hv q
      have := h v a
      omega
    · exact q
  | (p, i) :: r, U, top, h1, h2, h => by
    obtain ⟨g1, g2, g3, g4, g5, ⟨w, w1, w2, w3⟩, g7, g8, g9⟩ := h
    obtain ⟨p1, p2, p3⟩ := h2 p g1 g2
    refine ⟨p1, by omega, fun v hv a b => ?_, fun k hk ht => ?_, by omega, ?_, g7, g8, ?_⟩
    · obtain ⟨c1, c2⟩ := h1 v hv b
      obtain ⟨d1, d2⟩ := g3 v c1 (by omega) (by omega)
      refine ⟨d1, fun hne => ?_⟩
      obtain ⟨⟨w, e1, e2, e3⟩, e4⟩ := d2 hne
      obtain ⟨f1, f2, f3⟩ := h2 w e1 (by omega)
      refine ⟨⟨w, f1, by omega, e3⟩, fun x hx => ?_⟩
      obtain ⟨n1, n2⟩ := e4 x hx
      obtain ⟨m1, m2⟩ := h3 _ n1
      refine ⟨m1, fun q => ?_⟩
      obtain ⟨o1, o2⟩ := m2 q
      have := n2 o1
      omega
    · obtain ⟨n1, n2⟩ := g4 k hk ht
      obtain ⟨m1, m2⟩ := h3 _ n1
      refine ⟨m1, fun q => ?_⟩
      obtain ⟨o1, o2⟩ := m2 q
      have := n2 o1
      omega
    · obtain ⟨f1, f2, f3⟩ := h2 w w1 (by omega)
      exact ⟨w, f1, by omega, w3⟩
    · rw [p2]
      exact Segs.keep h3 r (fun v hv q => h1 v hv (by omega)) (fun v hv q => h2 v hv (by omega)) g9
/-- What holds throughout. -/
structure TjI (g : List (List Int)) (S : TJ) : Prop where
  stk : ∀ v, v ∈ S.stack ↔ S.num v ≠ 0 ∧ S.part v < 0
  srt : S.stack.Pairwise fun a b => S.num b < S.num a
  cnt : ∀ v, S.num v ≤ S.count
  node : ∀ v, S.num v ≠ 0 → v < g.length
  par : ∀ v, 0 ≤ S.part v → S.part v < (S.got : Int) ∧ S.num v ≠ 0
  cls : ∀ v, 0 ≤ S.part v → ∀ x ∈ g.getD v [], 0 ≤ S.part x.toNat
  same : ∀ u v, 0 ≤ S.part u → 0 ≤ S.part v → (S.part u = S.part v ↔ To g u v ∧ To g v u)
  seg : Segs g S (S.count + 1) true S.path
  size : S.got + S.stack.length ≤ S.count
  seen : unseen (fun v => decide (S.num v ≠ 0)) g.length + S.count = g.length
  deep : S.path.length + unseen (fun v => decide (S.num v ≠ 0)) g.length ≤ g.length
  numI : ∀ u v, S.num u = S.num v → S.num u ≠ 0 → u = v
/-- A node is begun. -/
def TJ.open (S : TJ) (v : Nat) (path : List (Nat × Nat)) : TJ := ⟨up S.num v (S.count + 1), up S.low v (S.count + 1), S.part, v :: S.stack, (v, 0) :: path, S.count + 1, S.got⟩
theorem unseen_open {S : TJ} {n v : Nat} (hv : v < n) (h : S.num v = 0) : unseen (fun w => decide (up S.num v (S.count + 1) w ≠ 0)) n + 1 = unseen (fun w => decide (S.num w ≠ 0)) n := by
  have := sumTo_upd (f := fun w => if decide (S.num w ≠ 0) = true then 0 else 1) (f' := fun w => if decide (up S.num v (S.count + 1) w ≠ 0) = true then 0 else 1) n hv fun j _ hne => by rw [up_ne hne]
  unfold unseen
  rw [up_self] at this
  simp only [h] at this
  simp at this
  simp
  omega
theorem TjI.opened {g : List (List Int)} {S : TJ} (h : TjI g S) {v : Nat} (hv : v < g.length) (h0 : S.num v = 0) {path : List (Nat × Nat)} (hp : path.length ≤ S.path.length)
    (hs : Segs g S (S.count + 1) false path) (hl : match path with | [] => True | (q, j) :: _ => 1 ≤ j ∧ j ≤ (g.getD q []).length ∧ ((g.getD q []).getD (j - 1) 0).toNat = v) : TjI g (S.open v path) := by
  have hvs : v ∉ S.stack := fun q => ((h.stk v).1 q).1 h0
  have hpv : S.part v < 0 := by
    rcases Int.lt_or_le (S.part v) 0 with q | q
    · exact q
    · exact absurd h0 (h.par v q).2
  have hne : ∀ w, w ∈ S.stack → w ≠ v := fun w hw e => hvs (e ▸ hw)
  have hn0 : ∀ w, S.num w ≠ 0 → w ≠ v := fun w hw e => hw (e ▸ h0)
  have hun := unseen_open hv h0
  refine ⟨fun w => ?_, ?_, fun w => ?_, fun w hw => ?_, fun w hw => ?_, h.cls, h.same, ?_, ?_, ?_, ?_, ?_⟩
  · show w ∈ v :: S.stack ↔ up S.num v (S.count + 1) w ≠ 0 ∧ S.part w < 0
    by_cases e : w = v
    · subst e; simp [hpv]
    · rw [up_ne e, ← h.stk w]; simp [e]
  · show (v :: S.stack).Pairwise fun a b => up S.num v (S.count + 1) b < up S.num v (S.count + 1) a
    refine List.pairwise_cons.2 ⟨fun w hw => ?_, h.srt.imp_of_mem fun {a b} ha hb q => ?_⟩
    · rw [up_self, up_ne (hne w hw)]; have := h.cnt w; omega
    · rw [up_ne (hne a ha), up_ne (hne b hb)]; exact q
  · show up S.num v (S.count + 1) w ≤ S.count + 1
    by_cases e : w = v
    · subst e; rw [up_self]; omega
    · rw [up_ne e]; have := h.cnt w; omega
  · by_cases e : w = v
    · subst e; exact hv
    · exact h.node w (by
        have : up S.num v (S.count + 1) w ≠ 0 := hw
        rw [up_ne e] at this; exact this)
  · obtain ⟨a, b⟩ := h.par w hw
    refine ⟨a, ?_⟩
    show up S.num v (S.count + 1) w ≠ 0
    rw [up_ne (hn0 w b)]; exact b
  · show Segs g (S.open v path) (S.count + 1 + 1) true ((v, 0) :: path)
    refine ⟨List.mem_cons_self .., ?_, fun w hw a b => ?_, fun k _ hk => ?_, ?_, ⟨v, List.mem_cons_self .., ?_, to_refl g v⟩, fun q => (by cases q), hl, ?_⟩
    · show up S.num v (S.count + 1) v < _; rw [up_self]; omega
    · have e : w = v := by
        rcases List.mem_cons.1 hw with e | e
        · exact e
        · have a : up S.num v (S.count + 1) v ≤ up S.num v (S.count + 1) w := a
          rw [up_self, up_ne (hne w e)] at a
          have := h.cnt w
          omega
      subst e
      exact ⟨to_refl g w, fun q => absurd rfl q⟩
    · rw [if_pos rfl] at hk; omega
    · show up S.low v (S.count + 1) v ≤ up S.num v (S.count + 1) v; rw [up_self, up_self]; exact Nat.le_refl _
    · show up S.num v (S.count + 1) v = up S.low v (S.count + 1) v; rw [up_self, up_self]
    · have e : (S.open v path).num v = S.count + 1 := up_self ..
      rw [e]
      refine Segs.keep (S := S) (S' := S.open v path) (fun x hx => ⟨?_, fun q => ⟨q, ?_⟩⟩) path (fun w hw q => ?_) (fun w hw q => ?_) hs
      · show up S.num v (S.count + 1) x ≠ 0; rw [up_ne (hn0 x hx)]; exact hx
      · show up S.num v (S.count + 1) x = _; rw [up_ne (hn0 x hx)]
      · have q : up S.num v (S.count + 1) w < S.count + 1 := q
        by_cases e : w = v
        · subst e; rw [up_self] at q; omega
        · refine ⟨(List.mem_cons.1 hw).resolve_left e, ?_⟩
          show _ = up S.num v (S.count + 1) w; rw [up_ne e]
      · have e := hne w hw
        refine ⟨List.mem_cons_of_mem _ hw, ?_, ?_⟩
        · show up S.num v (S.count + 1) w = _; rw [up_ne e]
        · show up S.low v (S.count + 1) w = _; rw [up_ne e]
  · have := h.size
    show S.got + (v :: S.stack).length ≤ S.count + 1
    rw [List.length_cons]; omega
  · have := h.seen
    show unseen (fun w => decide (up S.num v (S.count + 1) w ≠ 0)) g.length + (S.count + 1) = g.length
    omega
  · have := h.deep
    show ((v, 0) :: path).length + unseen (fun w => decide (up S.num v (S.count + 1) w ≠ 0)) g.length ≤ g.length
    rw [List.length_cons]; omega
  · intro a b e ha
    have e : up S.num v (S.count + 1) a = up S.num v (S.count + 1) b := e
    have ha : up S.num v (S.count + 1) a ≠ 0 := ha
    have ca := h.cnt a
    have cb := h.cnt b
    by_cases e1 : a = v <;> by_cases e2 : b = v
    · omega
    · subst e1; rw [up_self, up_ne e2] at e; omega
    · subst e2; rw [up_self, up_ne e1] at e; omega
    · rw [up_ne e1, up_ne e2] at e; rw [up_ne e1] at ha; exact h.numI a b e ha
/-! ### One going -/
theorem Segs.next {g : List (List Int)} {S : TJ} {U p i : Nat} {r : List (Nat × Nat)} (h : Segs g S U true ((p, i) :: r)) (hi : i < (g.getD p []).length) : Segs g S U false ((p, i + 1) :: r) := by
  obtain ⟨g1, g2, g3, g4, g5, g6, g7, g8, g9⟩ := h
  exact ⟨g1, g2, g3, fun k hk ht => g4 k hk (by
    rw [if_neg (by decide)] at ht
    rw [if_pos rfl]; omega), g5, g6, fun _ => ⟨by omega, by omega⟩, g8, g9⟩
/-- A going to a node that is begun. -/
theorem TjI.push {g : List (List Int)} {S : TJ} (h : TjI g S) {p i : Nat} {r : List (Nat × Nat)} (hp : S.path = (p, i) :: r) (hi : i < (g.getD p []).length) (hv : ((g.getD p []).getD i 0).toNat < g.length) (h0 : S.num ((g.getD p []).getD i 0).toNat = 0) :
    TjI g (S.open ((g.getD p []).getD i 0).toNat ((p, i + 1) :: r)) := by
  refine h.opened hv h0 (by rw [hp]; simp) (Segs.next (by rw [← hp]; exact h.seg) hi) ⟨by omega, by omega, ?_⟩
  rw [Nat.add_sub_cancel]
/-- A going to a node that has been seen. -/
def TJ.skip (S : TJ) (p i : Nat) (r : List (Nat × Nat)) (x : Nat) : TJ := ⟨S.num, if S.part x < 0 then up S.low p (min (S.low p) (S.num x)) else S.low, S.part, S.stack, (p, i + 1) :: r, S.count, S.got⟩
theorem TjI.skip {g : List (List Int)} {S : TJ} (h : TjI g S) {p i : Nat} {r : List (Nat × Nat)} (hp : S.path = (p, i) :: r) (hi : i < (g.getD p []).length) (h0 : S.num ((g.getD p []).getD i 0).toNat ≠ 0) :
    TjI g (S.skip p i r ((g.getD p []).getD i 0).toNat) := by
  have hx : (g.getD p []).getD i 0 ∈ g.getD p [] := mem_getD hi
  generalize hxe : (g.getD p []).getD i 0 = x at *
  have hseg := h.seg
  rw [hp] at hseg
  obtain ⟨g1, g2, g3, g4, g5, ⟨w, w1, w2, w3⟩, g7, g8, g9⟩ := hseg
  have hlow : ∀ v, S.num v < S.num p → (S.skip p i r x.toNat).low v = S.low v := fun v hv => by
    show (if S.part x.toNat < 0 then up S.low p (min (S.low p) (S.num x.toNat)) else S.low) v = _
    split
    · rw [up_ne (fun e => by subst e; omega)]
    · rfl
  have hlp : (S.skip p i r x.toNat).low p = if S.part x.toNat < 0 then min (S.low p) (S.num x.toNat) else S.low p := by
    show (if S.part x.toNat < 0 then up S.low p (min (S.low p) (S.num x.toNat)) else S.low) p = _
    split
    · rw [up_self]
    · rfl
  have hle : (S.skip p i r x.toNat).low p ≤ S.low p := by rw [hlp]; split <;> omega
  refine ⟨h.stk, h.srt, h.cnt, h.node, h.par, h.cls, h.same, ?_, h.size, h.seen, ?_, h.numI⟩
  · show Segs g (S.skip p i r x.toNat) (S.count + 1) true ((p, i + 1) :: r)
    refine ⟨g1, g2, fun v hv a b => ?_, fun k hk ht => ?_, ?_, ?_, fun q => (by cases q), g8, ?_⟩
    · obtain ⟨d1, d2⟩ := g3 v hv a b
      refine ⟨d1, fun hne => ⟨(d2 hne).1, fun y hy => ?_⟩⟩
      obtain ⟨n1, n2⟩ := (d2 hne).2 y hy
      exact ⟨n1, fun q => Nat.le_trans hle (n2 q)⟩
    · rw [if_pos rfl] at ht
      rcases Nat.lt_or_ge k i with q | q
      · obtain ⟨n1, n2⟩ := g4 k hk (by rw [if_pos rfl]; exact q)
        exact ⟨n1, fun z => Nat.le_trans hle (n2 z)⟩
      · have : k = i := by omega
        subst this
        rw [hxe]
        refine ⟨h0, fun z => ?_⟩
        have z : S.part x.toNat < 0 := z
        rw [hlp, if_pos z]
        exact Nat.min_le_right _ _
    · exact Nat.le_trans hle g5
    · rw [hlp]
      by_cases z : S.part x.toNat < 0
      · rw [if_pos z]
        rcases Nat.le_total (S.low p) (S.num x.toNat) with q | q
        · rw [Nat.min_eq_left q]; exact ⟨w, w1, w2, w3⟩
        · rw [Nat.min_eq_right q]; exact ⟨x.toNat, (h.stk _).2 ⟨h0, z⟩, rfl, to_edge hx⟩
      · rw [if_neg z]; exact ⟨w, w1, w2, w3⟩
    · exact Segs.keep (S := S) (S' := S.skip p i r x.toNat) (fun y hy => ⟨hy, fun q => ⟨q, rfl⟩⟩) r (fun v hv q => ⟨hv, rfl⟩) (fun v hv q => ⟨hv, rfl, hlow v q⟩) g9
  · have := h.deep
    rw [hp] at this
    exact this
/-- A node is left, and its part stays open. -/
def TJ.back (S : TJ) (n p j : Nat) (r : List (Nat × Nat)) : TJ := ⟨S.num, up S.low p (min (S.low p) (S.low n)), S.part, S.stack, (p, j) :: r, S.count, S.got⟩
theorem TjI.back {g : List (List Int)} {S : TJ} (h : TjI g S) {n i p j : Nat} {r : List (Nat × Nat)} (hp : S.path = (n, i) :: (p, j) :: r) (hi : (g.getD n []).length ≤ i) (hl : S.low n ≠ S.num n) : TjI g (S.back n p j r) := by
  have hseg := h.seg
  rw [hp] at hseg
  obtain ⟨g1, g2, g3, g4, g5, ⟨w, w1, w2, w3⟩, g7, ⟨k1, k2, k3⟩, f1, f2, f3, f4, f5, ⟨u, u1, u2, u3⟩, f7, f8, f9⟩ := hseg
  have hlow : ∀ v, S.num v < S.num p → (S.back n p j r).low v = S.low v := fun v hv => by
    show up S.low p (min (S.low p) (S.low n)) v = _
    rw [up_ne (fun e => by subst e; omega)]
  have hlp : (S.back n p j r).low p = min (S.low p) (S.low n) := up_self ..
  have hpn : To g p n := by
    have := to_edge (g := g) (a := p) (mem_getD (l := g.getD p []) (k := j - 1) (by omega))
    rw [k3] at this
    exact this
  have hln : S.low n < S.num n := by omega
  refine ⟨h.stk, h.srt, h.cnt, h.node, h.par, h.cls, h.same, ?_, h.size, h.seen, ?_, h.numI⟩
  · show Segs g (S.back n p j r) (S.count + 1) true ((p, j) :: r)
    refine ⟨f1, by have : S.num p < S.num n := f2
                   have : S.num n < S.count + 1 := g2
                   show S.num p < S.count + 1
                   omega, fun v hv a b => ?_, fun k hk ht => ?_, ?_, ?_, fun q => (by cases q), f8, ?_⟩
    · have a : S.num p ≤ S.num v := a
      have b : S.num v < S.count + 1 := b
      rcases Nat.lt_or_ge (S.num v) (S.num n) with q | q
      · obtain ⟨d1, d2⟩ := f3 v hv a q
        refine ⟨d1, fun hne => ⟨(d2 hne).1, fun y hy => ?_⟩⟩
        obtain ⟨n1, n2⟩ := (d2 hne).2 y hy
        refine ⟨n1, fun z => ?_⟩
        rw [hlp]
        exact Nat.le_trans (Nat.min_le_left _ _) (n2 z)
      · obtain ⟨d1, d2⟩ := g3 v hv q b
        refine ⟨to_trans hpn d1, fun hne => ?_⟩
        by_cases e : v = n
        · subst e
          refine ⟨⟨w, w1, by show S.num w < S.num v; omega, w3⟩, fun y hy => ?_⟩
          obtain ⟨k, hk, rfl⟩ := getD_mem hy
          obtain ⟨n1, n2⟩ := g4 k hk (by rw [if_pos rfl]; omega)
          refine ⟨n1, fun z => ?_⟩
          rw [hlp]
          exact Nat.le_trans (Nat.min_le_right _ _) (n2 z)
        · refine ⟨(d2 e).1, fun y hy => ?_⟩
          obtain ⟨n1, n2⟩ := (d2 e).2 y hy
          refine ⟨n1, fun z => ?_⟩
          rw [hlp]
          exact Nat.le_trans (Nat.min_le_right _ _) (n2 z)
    · rw [if_pos rfl] at ht
      rw [hlp]
      rcases Nat.lt_or_ge (k + 1) j with q | q
      · obtain ⟨n1, n2⟩ := f4 k hk (by rw [if_neg (by decide)]; exact q)
        exact ⟨n1, fun z => Nat.le_trans (Nat.min_le_left _ _) (n2 z)⟩
      · have : k = j - 1 := by omega
        subst this
        rw [k3]
        refine ⟨((h.stk n).1 g1).1, fun z => ?_⟩
        show min _ _ ≤ S.num n
        omega
    · rw [hlp]
      show _ ≤ S.num p
      omega
    · rw [hlp]
      rcases Nat.le_total (S.low p) (S.low n) with q | q
      · rw [Nat.min_eq_left q]; exact ⟨u, u1, u2, u3⟩
      · rw [Nat.min_eq_right q]; exact ⟨w, w1, w2, to_trans hpn w3⟩
    · exact Segs.keep (S := S) (S' := S.back n p j r) (fun y hy => ⟨hy, fun q => ⟨q, rfl⟩⟩) r (fun v hv q => ⟨hv, rfl⟩) (fun v hv q => ⟨hv, rfl, hlow v q⟩) f9
  · have := h.deep
    rw [hp] at this
    simp only [List.length_cons] at this
    show ((p, j) :: r).length + unseen (fun v => decide (S.num v ≠ 0)) g.length ≤ g.length
    rw [List.length_cons]
    omega
end Go.Proofs.Ytfaekhadjlgbbaa
