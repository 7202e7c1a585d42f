/-
  Wy0 Wy1 Wy2 Wy3 Wy4 joined. No statement is proved here.
-/
import Derived.Test.YtfaekhadjlgbbaaQGr
namespace Go.Proofs.Ytfaekhadjlgbbaa
/-! ### XWy0 -/
section
/-- From a node one comes in so many steps to a marked one. -/
def Wlk (g : List (List Int)) (to : Nat → Bool) : Nat → Nat → Prop
  | 0, v => to v = true
  | d + 1, v => ∃ x, x ∈ g.getD v [] ∧ Wlk g to d x.toNat
/-- So far is the next marked node. -/
def Far (g : List (List Int)) (to : Nat → Bool) (v d : Nat) : Prop := Wlk g to d v ∧ ∀ e, e < d → ¬ Wlk g to e v
theorem far_one {g : List (List Int)} {to : Nat → Bool} {v d e : Nat} (h : Far g to v d) (k : Far g to v e) : d = e := by
  rcases Nat.lt_trichotomy d e with q | q | q
  · exact absurd h.1 (k.2 d q)
  · exact q
  · exact absurd k.1 (h.2 e q)
theorem far_of {g : List (List Int)} {to : Nat → Bool} {v : Nat} : ∀ {d : Nat}, Wlk g to d v → ∃ e, e ≤ d ∧ Far g to v e
  | d, h => by
    induction d using Nat.strongRecOn with
    | ind d ih =>
      by_cases q : ∃ e, e < d ∧ Wlk g to e v
      · obtain ⟨e, h1, h2⟩ := q
        obtain ⟨f, h3, h4⟩ := ih e h1 h2
        exact ⟨f, by omega, h4⟩
      · exact ⟨d, Nat.le_refl _, h, fun e he w => q ⟨e, he, w⟩⟩
theorem far_zero {g : List (List Int)} {to : Nat → Bool} {v : Nat} : Far g to v 0 ↔ to v = true := ⟨fun h => h.1, fun h => ⟨h, fun e he => by omega⟩⟩
/-- The next node of a shortest way. -/
theorem far_step {g : List (List Int)} {to : Nat → Bool} {v d : Nat} (h : Far g to v (d + 1)) : ∃ x, x ∈ g.getD v [] ∧ Far g to x.toNat d := by
  obtain ⟨x, h1, h2⟩ := h.1
  obtain ⟨e, h3, h4⟩ := far_of h2
  by_cases q : e = d
  · subst q; exact ⟨x, h1, h4⟩
  · exact absurd ⟨x, h1, h4.1⟩ (h.2 (e + 1) (by omega))
theorem far_next {g : List (List Int)} {to : Nat → Bool} {v d : Nat} {x : Int} (hx : x ∈ g.getD v []) (h : Far g to x.toNat d) : ∃ e, e ≤ d + 1 ∧ Far g to v e := far_of (d := d + 1) ⟨x, hx, h.1⟩
theorem far_iff {g : List (List Int)} {to : Nat → Bool} {v d : Nat} : Far g to v (d + 1) ↔ (∃ x, x ∈ g.getD v [] ∧ Far g to x.toNat d) ∧ ∀ e, e ≤ d → ¬ Far g to v e := by
  constructor
  · intro h
    exact ⟨far_step h, fun e he k => by have := far_one h k; omega⟩
  · rintro ⟨⟨x, h1, h2⟩, h3⟩
    obtain ⟨e, h4, h5⟩ := far_next h1 h2
    by_cases q : e = d + 1
    · subst q; exact h5
    · exact absurd h5 (h3 e (by omega))
end

/-! ### XWy1 -/
section
/-! ### With a queue: g's edges go from k to n where n is in g[k] -/
structure Bfs (g : List (List Int)) (to : Nat → Bool) (o : Nat → Int) (Q : List Nat) : Prop where
  sound : ∀ n, 0 ≤ o n → Far g to n (o n).toNat
  node : ∀ n ∈ Q, 0 ≤ o n
  sort : ∀ i j, i < j → j < Q.length → o (Q.getD i 0) ≤ o (Q.getD j 0) ∧ o (Q.getD j 0) ≤ o (Q.getD i 0) + 1
  done : ∀ n, 0 ≤ o n → n ∈ Q ∨ ∀ k x, x ∈ g.getD k [] → x.toNat = n → 0 ≤ o k
  all : ∀ n d, Far g to n d → (∀ q ∈ Q, (d : Int) ≤ o q) → 0 ≤ o n
/-- While the nodes ahead of one are looked at. -/
structure BfsJ (g : List (List Int)) (to : Nat → Bool) (o : Nat → Int) (Q : List Nat) (n : Nat) (B : List Nat) : Prop where
  sound : ∀ n, 0 ≤ o n → Far g to n (o n).toNat
  node : ∀ n ∈ Q, 0 ≤ o n
  here : 0 ≤ o n
  low : ∀ q ∈ Q, o n ≤ o q ∧ o q ≤ o n + 1
  sort : ∀ i j, i < j → j < Q.length → o (Q.getD i 0) ≤ o (Q.getD j 0)
  done : ∀ m, 0 ≤ o m → m ∈ Q ∨ (m = n ∧ ∀ k ∈ B, 0 ≤ o k) ∨ (m ≠ n ∧ ∀ k x, x ∈ g.getD k [] → x.toNat = m → 0 ≤ o k)
  all : ∀ m d, Far g to m d → (d : Int) ≤ o n → 0 ≤ o m
theorem BfsJ.skip {g : List (List Int)} {to : Nat → Bool} {o : Nat → Int} {Q : List Nat} {n : Nat} {B : List Nat} {k : Nat} (h : BfsJ g to o Q n B) (hk : 0 ≤ o k) : BfsJ g to o Q n (B ++ [k]) where
  sound := h.sound
  node := h.node
  here := h.here
  low := h.low
  sort := h.sort
  done m hm := by
    rcases h.done m hm with q | ⟨rfl, q⟩ | q
    · exact .inl q
    · refine .inr (.inl ⟨rfl, fun j hj => ?_⟩)
      rcases List.mem_append.1 hj with w | w
      · exact q j w
      · rw [List.mem_singleton] at w; subst w; exact hk
    · exact .inr (.inr q)
  all := h.all
theorem getDN_app {l r : List Nat} {a : Nat} (h : a < l.length) : (l ++ r).getD a 0 = l.getD a 0 := by
  rw [List.getD_eq_getElem?_getD, List.getD_eq_getElem?_getD, List.getElem?_append_left h]
theorem getDN_last {l : List Nat} {x : Nat} : (l ++ [x]).getD l.length 0 = x := by
  rw [List.getD_eq_getElem?_getD, List.getElem?_append_right (Nat.le_refl _), Nat.sub_self]
  rfl
theorem getDN_mem {l : List Nat} {k : Nat} (h : k < l.length) : l.getD k 0 ∈ l := by
  rw [List.getD_eq_getElem?_getD, List.getElem?_eq_getElem h]; exact List.getElem_mem h
def setO (o : Nat → Int) (k : Nat) (v : Int) : Nat → Int := fun i => if i = k then v else o i
theorem setO_ne {o : Nat → Int} {k i : Nat} {v : Int} (h : i ≠ k) : setO o k v i = o i := by simp [setO, h]
@[simp] theorem setO_self (o : Nat → Int) (k : Nat) (v : Int) : setO o k v k = v := by simp [setO]
theorem BfsJ.push {g : List (List Int)} {to : Nat → Bool} {o : Nat → Int} {Q : List Nat} {n : Nat} {B : List Nat} {k : Nat} {x : Int} (h : BfsJ g to o Q n B) (hk : o k < 0) (hx : x ∈ g.getD k []) (hn : x.toNat = n) :
    BfsJ g to (setO o k (o n + 1)) (Q ++ [k]) n (B ++ [k]) := by
  have hkn : k ≠ n := fun e => by subst e; have := h.here; omega
  have old : ∀ m, 0 ≤ o m → setO o k (o n + 1) m = o m := fun m hm => setO_ne fun e => by subst e; omega
  have en : setO o k (o n + 1) n = o n := old n h.here
  have ge : ∀ m, 0 ≤ setO o k (o n + 1) m → m = k ∨ 0 ≤ o m := fun m hm => by
    by_cases e : m = k
    · exact .inl e
    · rw [setO_ne e] at hm; exact .inr hm
  have up : ∀ m, 0 ≤ o m → 0 ≤ setO o k (o n + 1) m := fun m hm => by rw [old m hm]; exact hm
  have hfar : Far g to k ((o n).toNat + 1) := by
    refine far_iff.2 ⟨⟨x, hx, by rw [hn]; exact h.sound n h.here⟩, fun e he w => ?_⟩
    have := h.all k e w (by have := h.here; omega)
    omega
  have h0 := h.here
  constructor
  · intro m hm
    rcases ge m hm with rfl | q
    · rw [setO_self, show (o n + 1).toNat = (o n).toNat + 1 by omega]; exact hfar
    · rw [old m q]; exact h.sound m q
  · intro m hm
    rcases List.mem_append.1 hm with w | w
    · exact up m (h.node m w)
    · rw [List.mem_singleton] at w; subst w; rw [setO_self]; omega
  · rw [en]; exact h0
  · intro q hq
    rw [en]
    rcases List.mem_append.1 hq with w | w
    · rw [old q (h.node q w)]; exact h.low q w
    · rw [List.mem_singleton] at w; subst w; rw [setO_self]; omega
  · intro i j hij hj
    rw [List.length_append, List.length_singleton] at hj
    by_cases e : j = Q.length
    · subst e
      rw [getDN_app hij, getDN_last, setO_self, old _ (h.node _ (getDN_mem hij))]
      exact (h.low _ (getDN_mem hij)).2
    · rw [getDN_app (by omega), getDN_app (by omega), old _ (h.node _ (getDN_mem (by omega))), old _ (h.node _ (getDN_mem (by omega)))]
      exact h.sort i j hij (by omega)
  · intro m hm
    rcases ge m hm with rfl | q
    · exact .inl (by simp)
    · rcases h.done m q with w | ⟨rfl, w⟩ | ⟨w, w2⟩
      · exact .inl (List.mem_append_left _ w)
      · refine .inr (.inl ⟨rfl, fun j hj => ?_⟩)
        rcases List.mem_append.1 hj with z | z
        · exact up j (w j z)
        · rw [List.mem_singleton] at z; subst z; rw [setO_self]; omega
      · exact .inr (.inr ⟨w, fun j y h1 h2 => up j (w2 j y h1 h2)⟩)
  · intro m d h1 h2
    rw [en] at h2
    exact up m (h.all m d h1 h2)
theorem Bfs.pop {g : List (List Int)} {to : Nat → Bool} {o : Nat → Int} {Q : List Nat} {n : Nat} (h : Bfs g to o (n :: Q)) : BfsJ g to o Q n [] where
  sound := h.sound
  node m hm := h.node m (List.mem_cons_of_mem _ hm)
  here := h.node n List.mem_cons_self
  low q hq := by
    obtain ⟨k, hk, rfl⟩ := List.mem_iff_getElem.1 hq
    have := h.sort 0 (k + 1) (by omega) (by simp; omega)
    simpa [List.getD_eq_getElem?_getD, List.getElem?_eq_getElem hk] using this
  sort i j hij hj := by
    have := (h.sort (i + 1) (j + 1) (by omega) (by simp; omega)).1
    simpa using this
  done m hm := by
    rcases h.done m hm with q | q
    · rcases List.mem_cons.1 q with q | q
      · exact .inr (.inl ⟨q, fun k hk => by cases hk⟩)
      · exact .inl q
    · by_cases e : m = n
      · exact .inr (.inl ⟨e, fun k hk => by cases hk⟩)
      · exact .inr (.inr ⟨e, q⟩)
  all m d h1 h2 := h.all m d h1 fun q hq => by
    rcases List.mem_cons.1 hq with w | w
    · subst w; exact h2
    · obtain ⟨k, hk, rfl⟩ := List.mem_iff_getElem.1 w
      have := (h.sort 0 (k + 1) (by omega) (by simp; omega)).1
      have e : (n :: Q).getD (k + 1) 0 = Q[k] := by simp [List.getD_eq_getElem?_getD, List.getElem?_eq_getElem hk]
      rw [e] at this
      have e0 : (n :: Q).getD 0 0 = n := rfl
      rw [e0] at this
      omega
theorem BfsJ.fin {g : List (List Int)} {to : Nat → Bool} {o : Nat → Int} {Q : List Nat} {n : Nat} {B : List Nat} (h : BfsJ g to o Q n B) (hB : ∀ k x, x ∈ g.getD k [] → x.toNat = n → k ∈ B) : Bfs g to o Q where
  sound := h.sound
  node := h.node
  sort i j hij hj := by
    have h1 := h.sort i j hij hj
    have h2 := h.low _ (getDN_mem (l := Q) (k := i) (by omega))
    have h3 := h.low _ (getDN_mem hj)
    omega
  done m hm := by
    rcases h.done m hm with q | ⟨rfl, q⟩ | ⟨_, q⟩
    · exact .inl q
    · exact .inr fun k x h1 h2 => q k (hB k x h1 h2)
    · exact .inr q
  all m d h1 h2 := by
    have step : ∀ d m, Far g to m d → (∀ q ∈ Q, (d : Int) ≤ o q) → 0 ≤ o m := by
      intro d
      induction d using Nat.strongRecOn with
      | ind d ih =>
        intro m h1 h2
        by_cases e : (d : Int) ≤ o n
        · exact h.all m d h1 e
        · cases d with
          | zero => exfalso; have := h.here; omega
          | succ d =>
            obtain ⟨x, hx, hf⟩ := far_step h1
            have hx0 : 0 ≤ o x.toNat := ih d (by omega) x.toNat hf fun q hq => by have := h2 q hq; omega
            have ex := far_one hf (h.sound _ hx0)
            rcases h.done x.toNat hx0 with q | ⟨q1, q2⟩ | ⟨_, q⟩
            · have := h2 _ q
              omega
            · exact q2 m (hB m x hx q1)
            · exact q m x hx rfl
    exact step d m h1 h2
theorem Bfs.fin {g : List (List Int)} {to : Nat → Bool} {o : Nat → Int} (h : Bfs g to o []) {n d : Nat} : Far g to n d ↔ o n = d := by
  constructor
  · intro k
    have h1 := h.all n d k fun q hq => by cases hq
    have := far_one k (h.sound n h1)
    omega
  · intro k
    have := h.sound n (by omega)
    rw [k, Int.toNat_natCast] at this
    exact this
/-- The start: all marked nodes, at distance 0. -/
theorem Bfs.begin {g : List (List Int)} {to : Nat → Bool} {o : Nat → Int} {Q : List Nat} (ho : ∀ n, o n = if to n = true ∧ n ∈ Q then 0 else -1) (hQ : ∀ n, to n = true ↔ n ∈ Q) : Bfs g to o Q where
  sound n hn := by
    rw [ho] at hn
    split at hn
    · rename_i q
      rw [ho, if_pos q]
      exact far_zero.2 q.1
    · omega
  node n hn := by rw [ho, if_pos ⟨(hQ n).2 hn, hn⟩]; exact Int.le_refl _
  sort i j hij hj := by
    have h1 := getDN_mem (l := Q) (k := i) (by omega)
    have h2 := getDN_mem (l := Q) (k := j) hj
    rw [ho (Q.getD i 0), ho (Q.getD j 0), if_pos ⟨(hQ _).2 h1, h1⟩, if_pos ⟨(hQ _).2 h2, h2⟩]
    omega
  done n hn := by
    rw [ho] at hn
    split at hn
    · rename_i q; exact .inl q.2
    · omega
  all n d h1 h2 := by
    by_cases e : Q = []
    · subst e
      have none : ∀ d m, ¬ Wlk g to d m := by
        intro d
        induction d with
        | zero => intro m h; exact absurd ((hQ m).1 h) (by simp)
        | succ d ih => rintro m ⟨x, _, h⟩; exact ih _ h
      exact absurd h1.1 (none d n)
    · obtain ⟨q, hq⟩ := List.exists_mem_of_ne_nil Q e
      have := h2 q hq
      rw [ho, if_pos ⟨(hQ q).2 hq, hq⟩] at this
      have : d = 0 := by omega
      subst this
      have ht := far_zero.1 h1
      rw [ho, if_pos ⟨ht, (hQ n).1 ht⟩]
      exact Int.le_refl _
end

/-! ### XWy2 -/
section
/-- What is known when distances up to r are found, and r + 1 of the first k nodes. -/
structure RndJ (g : List (List Int)) (to : Nat → Bool) (o : Nat → Int) (r k : Nat) : Prop where
  old : ∀ n d : Nat, d ≤ r → (o n = (d : Int) + 1 ↔ Far g to n d)
  new : ∀ n, n < k → (o n = (r : Int) + 2 ↔ Far g to n (r + 1))
  rest : ∀ n, k ≤ n → o n ≠ (r : Int) + 2
  rng : ∀ n, o n ≠ 0 → ∃ d : Nat, d ≤ r + 1 ∧ o n = (d : Int) + 1
theorem RndJ.keep {g : List (List Int)} {to : Nat → Bool} {o : Nat → Int} {r k : Nat} (h : RndJ g to o r k) (hk : o k ≠ 0 ∨ ∀ x, x ∈ g.getD k [] → o x.toNat ≠ (r : Int) + 1) : RndJ g to o r (k + 1) where
  old := h.old
  new n hn := by
    by_cases e : n = k
    · subst e
      refine ⟨fun q => absurd q (h.rest n (Nat.le_refl _)), fun q => ?_⟩
      rcases hk with hk | hk
      · obtain ⟨d, h1, h2⟩ := h.rng n hk
        have h3 := h.rest n (Nat.le_refl _)
        have h4 := (h.old n d (by omega)).1 h2
        have := far_one h4 q
        omega
      · obtain ⟨x, h1, h2⟩ := far_step q
        exact absurd ((h.old x.toNat r (Nat.le_refl _)).2 h2) (hk x h1)
    · exact h.new n (by omega)
  rest n hn := h.rest n (by omega)
  rng := h.rng
theorem RndJ.hit {g : List (List Int)} {to : Nat → Bool} {o : Nat → Int} {r k : Nat} {x : Int} (h : RndJ g to o r k) (hk : o k = 0) (hx : x ∈ g.getD k []) (ho : o x.toNat = (r : Int) + 1) : RndJ g to (setO o k ((r : Int) + 2)) r (k + 1) where
  old n d hd := by
    by_cases e : n = k
    · subst e
      rw [setO_self]
      refine ⟨fun q => by omega, fun q => ?_⟩
      have := (h.old n d hd).2 q
      omega
    · rw [setO_ne e]; exact h.old n d hd
  new n hn := by
    by_cases e : n = k
    · subst e
      rw [setO_self]
      refine ⟨fun _ => far_iff.2 ⟨⟨x, hx, (h.old x.toNat r (Nat.le_refl _)).1 ho⟩, fun e he w => ?_⟩, fun _ => rfl⟩
      have := (h.old n e he).2 w
      omega
    · rw [setO_ne e]; exact h.new n (by omega)
  rest n hn := by
    rw [setO_ne (by omega)]
    exact h.rest n (by omega)
  rng n hn := by
    by_cases e : n = k
    · subst e
      rw [setO_self]
      exact ⟨r + 1, Nat.le_refl _, by omega⟩
    · rw [setO_ne e] at hn ⊢; exact h.rng n hn
theorem RndJ.begin {g : List (List Int)} {to : Nat → Bool} {o : Nat → Int} (h : ∀ n, o n = if to n = true then 1 else 0) : RndJ g to o 0 0 where
  old n d hd := by
    rw [show d = 0 by omega, far_zero, h]
    split <;> simp_all
  new n hn := by omega
  rest n _ := by rw [h]; split <;> simp
  rng n hn := by
    rw [h] at hn ⊢
    split
    · exact ⟨0, by omega, by simp⟩
    · rename_i q; rw [if_neg q] at hn; exact absurd rfl hn
/-- A round is done; nodes from n on are none. -/
theorem RndJ.next {g : List (List Int)} {to : Nat → Bool} {o : Nat → Int} {r n : Nat} (h : RndJ g to o r n) (hno : ∀ m, n ≤ m → ∀ d, ¬ Far g to m d) : RndJ g to o (r + 1) 0 where
  old m d hd := by
    by_cases e : d = r + 1
    · subst e
      by_cases q : m < n
      · have := h.new m q
        rw [show ((r + 1 : Nat) : Int) + 1 = (r : Int) + 2 by omega]
        exact this
      · refine ⟨fun w => ?_, fun w => absurd w (hno m (by omega) _)⟩
        exact absurd (by omega) (h.rest m (by omega))
    · exact h.old m d (by omega)
  new m hm := by omega
  rest m _ := by
    intro w
    obtain ⟨d, h1, h2⟩ := h.rng m (by omega)
    omega
  rng m hm := by
    obtain ⟨d, h1, h2⟩ := h.rng m hm
    exact ⟨d, by omega, h2⟩
end

/-! ### XWy3 -/
section
end

/-! ### XWy4 -/
section
end

end Go.Proofs.Ytfaekhadjlgbbaa
