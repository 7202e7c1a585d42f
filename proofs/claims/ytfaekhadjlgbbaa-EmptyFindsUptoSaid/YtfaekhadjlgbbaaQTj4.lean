/-
  The parts of a graph: the search as a function. Plain Lean. No statement is proved here.
-/
import Derived.Test.YtfaekhadjlgbbaaQTj3
namespace Go.Proofs.Ytfaekhadjlgbbaa
set_option linter.unusedVariables false
structure TR where
  S : TJ
  Z : List Int
  ver : Nat
structure ZOK (st : List Nat) (Z : List Int) : Prop where
  len : st.length ≤ Z.length
  at_ : ∀ j, j < st.length → Z.getD (st.length - 1 - j) 0 = ((st.getD j 0 : Nat) : Int)
theorem ZOK.push {st : List Nat} {Z : List Int} (h : ZOK st Z) (v : Nat) : ZOK (v :: st) (Z.take st.length ++ [(v : Int)]) where
  len := by have := h.len; simp; omega
  at_ j hj := by
    have hl := h.len
    simp only [List.length_cons] at hj ⊢
    cases j with
    | zero =>
      rw [List.getD_eq_getElem?_getD, List.getElem?_append_right (by simp; omega)]
      rw [show st.length + 1 - 1 - 0 - (Z.take st.length).length = 0 by simp; omega]
      rfl
    | succ j =>
      have := h.at_ j (by omega)
      rw [List.getD_cons_succ, ← this, List.getD_eq_getElem?_getD, List.getD_eq_getElem?_getD, List.getElem?_append_left (by simp; omega), List.getElem?_take, if_pos (by omega), show st.length + 1 - 1 - (j + 1) = st.length - 1 - j by omega]
theorem ZOK.drop {pre post : List Nat} {Z : List Int} (h : ZOK (pre ++ post) Z) : ZOK post Z where
  len := by have := h.len; simp at this; omega
  at_ j hj := by
    have := h.at_ (pre.length + j) (by simp; omega)
    rw [List.getD_eq_getElem?_getD (l := pre ++ post), List.getElem?_append_right (by omega), Nat.add_sub_cancel_left, ← List.getD_eq_getElem?_getD, List.length_append, show pre.length + post.length - 1 - (pre.length + j) = post.length - 1 - j by omega] at this
    exact this
structure TRI (g : List (List Int)) (R : TR) : Prop where
  tj : TjI g R.S
  zok : ZOK R.S.stack R.Z
def TR.open (R : TR) (v : Nat) (path : List (Nat × Nat)) : TR := ⟨R.S.open v path, R.Z.take R.S.stack.length ++ [(v : Int)], R.ver + 1⟩
def stepT (g : List (List Int)) (R : TR) : TR :=
  match R.S.path with
  | [] => R
  | (p, i) :: r =>
    if i < (g.getD p []).length then
      if R.S.num ((g.getD p []).getD i 0).toNat = 0 then R.open ((g.getD p []).getD i 0).toNat ((p, i + 1) :: r)
      else ⟨R.S.skip p i r ((g.getD p []).getD i 0).toNat, R.Z, R.ver⟩
    else match r with
      | [] => ⟨R.S.shut p [] R.S.low, R.Z, R.ver⟩
      | (q, j) :: r' => if R.S.low p = R.S.num p then ⟨R.S.shut p ((q, j) :: r') (up R.S.low q (min (R.S.low q) (R.S.low p))), R.Z, R.ver⟩ else ⟨R.S.back p q j r', R.Z, R.ver⟩
def runT (g : List (List Int)) : Nat → TR → TR
  | 0, R => R
  | k + 1, R => if R.S.path = [] then R else runT g k (stepT g R)
theorem runT_nil {g : List (List Int)} {R : TR} (h : R.S.path = []) : ∀ k, runT g k R = R
  | 0 => rfl
  | k + 1 => by simp only [runT, if_pos h]
/-- The stack above a node of it. -/
theorem TjI.split {g : List (List Int)} {S : TJ} (h : TjI g S) {n : Nat} (hn : n ∈ S.stack) : ∃ pre post, S.stack = pre ++ n :: post ∧ n ∉ pre ∧ (∀ v, v ∈ pre ++ [n] ↔ v ∈ S.stack ∧ S.num n ≤ S.num v) ∧ S.stack.filter (fun v => decide (S.num v < S.num n)) = post := by
  obtain ⟨pre, post, e⟩ := List.append_of_mem hn
  have hs := h.srt
  rw [e, List.pairwise_append] at hs
  obtain ⟨s1, s2, s3⟩ := hs
  rw [List.pairwise_cons] at s2
  have p1 : ∀ v ∈ pre, S.num n < S.num v := fun v hv => s3 v hv n (by simp)
  have p2 : ∀ v ∈ post, S.num v < S.num n := fun v hv => s2.1 v hv
  refine ⟨pre, post, e, fun q => by have := p1 n q; omega, fun v => ?_, ?_⟩
  · rw [e]
    simp only [List.mem_append, List.mem_cons, List.not_mem_nil, or_false]
    constructor
    · rintro (q | q)
      · exact ⟨.inl q, Nat.le_of_lt (p1 v q)⟩
      · subst q; exact ⟨.inr (.inl rfl), Nat.le_refl _⟩
    · rintro ⟨q | q | q, k⟩
      · exact .inl q
      · exact .inr q
      · have := p2 v q; omega
  · rw [e, List.filter_append, List.filter_cons, if_neg (by simp)]
    have f1 : pre.filter (fun v => decide (S.num v < S.num n)) = [] := List.filter_eq_nil_iff.2 fun v hv => by have := p1 v hv; simp; omega
    have f2 : post.filter (fun v => decide (S.num v < S.num n)) = post := List.filter_eq_self.2 fun v hv => by simpa using p2 v hv
    rw [f1, f2]; rfl
theorem TjI.low_last {g : List (List Int)} {S : TJ} (h : TjI g S) {p i : Nat} (hp : S.path = [(p, i)]) : S.low p = S.num p := by
  have hseg := h.seg
  rw [hp] at hseg
  obtain ⟨g1, g2, g3, g4, g5, ⟨w, w1, w2, w3⟩, g7, g8, g9⟩ := hseg
  have := g9 w w1
  omega
theorem TRI.shut {g : List (List Int)} {R : TR} (h : TRI g R) {n i : Nat} {r : List (Nat × Nat)} (hp : R.S.path = (n, i) :: r) (hi : (g.getD n []).length ≤ i) (hl : R.S.low n = R.S.num n) {low : Nat → Nat} (hlow : ∀ v, R.S.num v < R.S.num n → low v = R.S.low v) : TRI g ⟨R.S.shut n r low, R.Z, R.ver⟩ := by
  refine ⟨h.tj.shut hp hi hl hlow, ?_⟩
  have hn : n ∈ R.S.stack := by have := h.tj.seg; rw [hp] at this; exact this.1
  obtain ⟨pre, post, e, e1, e2, e3⟩ := h.tj.split hn
  show ZOK (R.S.stack.filter _) R.Z
  rw [e3]
  have := h.zok
  rw [e, show pre ++ n :: post = (pre ++ [n]) ++ post by simp] at this
  exact this.drop
theorem stepT_ok {g : List (List Int)} (hin : ∀ v x, x ∈ g.getD v [] → x.toNat < g.length) {R : TR} (h : TRI g R) (hp : R.S.path ≠ []) : TRI g (stepT g R) ∧ TJ.fuel g (stepT g R).S < TJ.fuel g R.S ∧ ∀ x, R.S.num x ≠ 0 → (stepT g R).S.num x ≠ 0 := by
  unfold stepT
  cases e : R.S.path with
  | nil => exact absurd e hp
  | cons q r =>
    obtain ⟨p, i⟩ := q
    dsimp only
    by_cases hi : i < (g.getD p []).length
    · rw [if_pos hi]
      have hv := hin p _ (mem_getD hi)
      by_cases h0 : R.S.num ((g.getD p []).getD i 0).toNat = 0
      · rw [if_pos h0]
        refine ⟨⟨h.tj.push e hi hv h0, h.zok.push _⟩, by have := fuel_push e hi hv h0; show TJ.fuel g (R.S.open _ _) < _; omega, fun x hx => ?_⟩
        show up R.S.num _ _ x ≠ 0
        rw [up_ne (fun q => hx (by rw [q]; exact h0))]
        exact hx
      · rw [if_neg h0]
        exact ⟨⟨h.tj.skip e hi h0, h.zok⟩, by have := fuel_skip (x := ((g.getD p []).getD i 0).toNat) e hi; show TJ.fuel g (R.S.skip _ _ _ _) < _; omega, fun x hx => hx⟩
    · rw [if_neg hi]
      cases r with
      | nil =>
        exact ⟨h.shut e (by omega) (h.tj.low_last e) (fun _ _ => rfl), fuel_shut e, fun x hx => hx⟩
      | cons q r =>
        obtain ⟨q, j⟩ := q
        dsimp only
        by_cases hl : R.S.low p = R.S.num p
        · rw [if_pos hl]
          have hseg := h.tj.seg
          rw [e] at hseg
          obtain ⟨g1, g2, g3, g4, g5, g6, g7, g8, f1, f2, f3, f4, f5, f6, f7, f8, f9⟩ := hseg
          refine ⟨h.shut e (by omega) hl (fun v _ => ?_), fuel_shut e, fun x hx => hx⟩
          by_cases ev : v = q
          · subst ev; rw [up_self]; omega
          · rw [up_ne ev]
        · rw [if_neg hl]
          exact ⟨⟨h.tj.back e (by omega) hl, h.zok⟩, fuel_back e, fun x hx => hx⟩
theorem runT_ok {g : List (List Int)} (hin : ∀ v x, x ∈ g.getD v [] → x.toNat < g.length) : ∀ (k : Nat) {R : TR}, TRI g R → TJ.fuel g R.S ≤ k → TRI g (runT g k R) ∧ (runT g k R).S.path = [] ∧ ∀ x, R.S.num x ≠ 0 → (runT g k R).S.num x ≠ 0
  | 0, R, h, hk => by
    have hp : R.S.path = [] := by
      cases e : R.S.path with
      | nil => rfl
      | cons q r => obtain ⟨p, i⟩ := q; unfold TJ.fuel at hk; rw [e] at hk; simp only [pathW] at hk; omega
    exact ⟨h, hp, fun x hx => hx⟩
  | k + 1, R, h, hk => by
    simp only [runT]
    by_cases hp : R.S.path = []
    · rw [if_pos hp]; exact ⟨h, hp, fun x hx => hx⟩
    · rw [if_neg hp]
      obtain ⟨a, b, c⟩ := stepT_ok hin h hp
      obtain ⟨a', b', c'⟩ := runT_ok hin k a (by omega)
      exact ⟨a', b', fun x hx => c' x (c x hx)⟩
theorem TRI.root {g : List (List Int)} {R : TR} (h : TRI g R) (hp : R.S.path = []) {v : Nat} (hv : v < g.length) (h0 : R.S.num v = 0) : TRI g (R.open v []) := by
  refine ⟨h.tj.opened hv h0 (Nat.zero_le _) ?_ trivial, h.zok.push v⟩
  have := h.tj.seg
  rw [hp] at this
  exact this
def visitT (g : List (List Int)) (R : TR) (v : Nat) : TR := runT g (TJ.fuel g (R.open v []).S) (R.open v [])
def splitT (g : List (List Int)) : Nat → TR
  | 0 => ⟨⟨fun _ => 0, fun _ => 0, fun _ => -1, [], [], 0, 0⟩, [], 0⟩
  | k + 1 => if (splitT g k).S.num k = 0 then visitT g (splitT g k) k else splitT g k
theorem visitT_ok {g : List (List Int)} (hin : ∀ v x, x ∈ g.getD v [] → x.toNat < g.length) {R : TR} (h : TRI g R) (hp : R.S.path = []) {v : Nat} (hv : v < g.length) (h0 : R.S.num v = 0) :
    TRI g (visitT g R v) ∧ (visitT g R v).S.path = [] ∧ (visitT g R v).S.num v ≠ 0 ∧ ∀ x, R.S.num x ≠ 0 → (visitT g R v).S.num x ≠ 0 := by
  obtain ⟨a, b, c⟩ := runT_ok hin _ (h.root hp hv h0) (Nat.le_refl _)
  refine ⟨a, b, c v ?_, fun x hx => c x ?_⟩
  · show up R.S.num v (R.S.count + 1) v ≠ 0; rw [up_self]; omega
  · show up R.S.num v (R.S.count + 1) x ≠ 0
    by_cases e : x = v
    · subst e; rw [up_self]; omega
    · rw [up_ne e]; exact hx
theorem splitT_ok {g : List (List Int)} (hin : ∀ v x, x ∈ g.getD v [] → x.toNat < g.length) : ∀ k, k ≤ g.length → TRI g (splitT g k) ∧ (splitT g k).S.path = [] ∧ ∀ j, j < k → (splitT g k).S.num j ≠ 0
  | 0, _ => ⟨⟨TjI.zero g, ⟨Nat.le_refl _, fun j hj => by cases hj⟩⟩, rfl, fun j hj => by cases hj⟩
  | k + 1, hk => by
    obtain ⟨a, b, c⟩ := splitT_ok hin k (by omega)
    simp only [splitT]
    by_cases h0 : (splitT g k).S.num k = 0
    · rw [if_pos h0]
      obtain ⟨a', b', c', d'⟩ := visitT_ok hin a b (show k < g.length by omega) h0
      refine ⟨a', b', fun j hj => ?_⟩
      by_cases e : j = k
      · subst e; exact c'
      · exact d' j (c j (by omega))
    · rw [if_neg h0]
      refine ⟨a, b, fun j hj => ?_⟩
      by_cases e : j = k
      · subst e; exact h0
      · exact c j (by omega)
/-- The parts that are found are the parts. -/
theorem split_fin {g : List (List Int)} (hin : ∀ v x, x ∈ g.getD v [] → x.toNat < g.length) : (∀ i, i < g.length → 0 ≤ (splitT g g.length).S.part i ∧ (splitT g g.length).S.part i < ((splitT g g.length).S.got : Int)) ∧
    (∀ i j, i < g.length → j < g.length → ((splitT g g.length).S.part i = (splitT g g.length).S.part j ↔ mutB g i j = true)) ∧ (splitT g g.length).S.got ≤ g.length := by
  obtain ⟨a, b, c⟩ := splitT_ok hin g.length (Nat.le_refl _)
  have hd := fun i (hi : i < g.length) => a.tj.done b (c i hi)
  refine ⟨fun i hi => ⟨hd i hi, (a.tj.par i (hd i hi)).1⟩, fun i j hi hj => ?_, ?_⟩
  · rw [a.tj.same i j (hd i hi) (hd j hj), mutB_iff]
  · have h1 := a.tj.size
    have h2 := a.tj.seen
    omega
end Go.Proofs.Ytfaekhadjlgbbaa
