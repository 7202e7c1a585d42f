/-
  What a template means: seen places by number and by place. Plain Lean. No statement is proved here.
-/
import Derived.Test.YtfgklgjbnpjpoaaQDm0
namespace Go.Proofs.Ytfgklgjbnpjpoaa
set_option linter.unusedVariables false
theorem cnt_mono {p : Nat → Bool} {i j : Nat} (h : i ≤ j) : cnt p 0 i ≤ cnt p 0 j := by
  have := cnt_split (p := p) (a := 0) (m := i) (Nat.zero_le _) j h
  omega
theorem cnt_lt {p : Nat → Bool} {i j : Nat} (h : i < j) (hp : p i = true) : cnt p 0 i < cnt p 0 j := by
  have h1 := cnt_succ (p := p) (a := 0) (e := i) (Nat.zero_le _)
  rw [if_pos hp] at h1
  have h2 := cnt_mono (p := p) (show i + 1 ≤ j by omega)
  omega
theorem cnt_at {p : Nat → Bool} : ∀ {n k : Nat}, k < cnt p 0 n → ∃ i, i < n ∧ p i = true ∧ cnt p 0 i = k
  | 0, k, h => by rw [cnt_self] at h; omega
  | n + 1, k, h => by
    rw [cnt_succ (Nat.zero_le _)] at h
    by_cases q : k < cnt p 0 n
    · obtain ⟨i, h1, h2, h3⟩ := cnt_at q
      exact ⟨i, by omega, h2, h3⟩
    · cases hp : p n with
      | true => rw [hp, if_pos rfl] at h; exact ⟨n, by omega, hp, by omega⟩
      | false => rw [hp, if_neg (by decide)] at h; omega
/-- The seen places' truths. -/
def allTo (sn A B : Nat → Bool) : Nat → List (Bool × Bool)
  | 0 => []
  | k + 1 => if sn k = true then allTo sn A B k ++ [(A k, B k)] else allTo sn A B k
theorem allTo_len (sn A B : Nat → Bool) : ∀ k, (allTo sn A B k).length = cnt sn 0 k
  | 0 => by rw [cnt_self]; rfl
  | k + 1 => by
    rw [cnt_succ (Nat.zero_le _)]
    simp only [allTo]
    split
    · rw [List.length_append, allTo_len sn A B k]; rfl
    · rw [allTo_len sn A B k]; rfl
theorem allTo_at {sn A B : Nat → Bool} : ∀ {n i : Nat}, i < n → sn i = true → (allTo sn A B n).getD (cnt sn 0 i) (false, false) = (A i, B i)
  | 0, i, h, _ => by omega
  | n + 1, i, h, hs => by
    have hl := allTo_len sn A B n
    simp only [allTo]
    by_cases e : i = n
    · subst e
      rw [if_pos hs, List.getD_eq_getElem?_getD, List.getElem?_append_right (by omega), hl, Nat.sub_self]
      rfl
    · have hi := allTo_at (A := A) (B := B) (show i < n by omega) hs
      have hlt := cnt_lt (show i < n by omega) hs
      split
      · rw [List.getD_eq_getElem?_getD, List.getElem?_append_left (by omega), ← List.getD_eq_getElem?_getD]; exact hi
      · exact hi
/-- A number and its place. -/
theorem all_iff {sn A B : Nat → Bool} {E i : Nat} {p : Bool × Bool → Bool} : (∃ k, cnt sn 0 i ≤ k ∧ k < (allTo sn A B E).length ∧ p ((allTo sn A B E).getD k (false, false)) = true) ↔ ∃ j, i ≤ j ∧ j < E ∧ sn j = true ∧ p (A j, B j) = true := by
  rw [allTo_len]
  constructor
  · rintro ⟨k, h1, h2, h3⟩
    obtain ⟨j, g1, g2, g3⟩ := cnt_at h2
    subst g3
    rw [allTo_at g1 g2] at h3
    refine ⟨j, ?_, g1, g2, h3⟩
    rcases Nat.lt_or_ge j i with q | q
    · have := cnt_lt q g2; omega
    · exact q
  · rintro ⟨j, h1, h2, h3, h4⟩
    exact ⟨cnt sn 0 j, cnt_mono h1, cnt_lt h2 h3, by rw [allTo_at h2 h3]; exact h4⟩
/-! ### The program, by number -/
def laterB (l : List (Bool × Bool)) (f : Nat) (p : Bool × Bool → Bool) : Bool := decide (fst (fun k => p (l.getD k (false, false))) l.length f < l.length)
theorem laterB_iff {l : List (Bool × Bool)} {f : Nat} {p : Bool × Bool → Bool} (h : f ≤ l.length) : laterB l f p = true ↔ ∃ k, f ≤ k ∧ k < l.length ∧ p (l.getD k (false, false)) = true := by
  unfold laterB
  rw [decide_eq_true_eq, fst_lt h]
def eachB (l : List (Bool × Bool)) (fresh : Nat) (ok : Nat → Bool) : Bool := (List.range fresh).all fun i => !(l.getD i (false, false)).1 || ok i
def precB (l : List (Bool × Bool)) : Bool := (List.range l.length).all fun k => !(l.getD k (false, false)).2 || (List.range (k + 1)).any fun j => (l.getD j (false, false)).1
def altK (l : List (Bool × Bool)) (i : Nat) : Nat := fst (fun k => (l.getD k (false, false)).2 || (l.getD k (false, false)).1) l.length (i + 1)
def altB (l : List (Bool × Bool)) (i : Nat) : Bool := decide (altK l i < l.length) && (l.getD (altK l i) (false, false)).2
def keepsB (kind : Int) (l : List (Bool × Bool)) (fresh : Nat) : Bool :=
  if kind = 4 then decide (l.length = 0) || (l.getD 0 (false, false)).1
  else if kind = 5 then laterB l 0 (fun s => s.1) || laterB l 0 (fun s => s.2)
  else if kind = 6 then !laterB l 0 (fun s => s.1) || laterB l 0 (fun s => s.2)
  else if kind = 7 then laterB l 0 (fun s => s.1) == laterB l 0 (fun s => s.2)
  else if kind = 13 then !laterB l 0 (fun s => s.1) || !laterB l 0 (fun s => s.2)
  else if kind = 8 then eachB l fresh (fun i => laterB l i fun s => s.2)
  else if kind = 9 then precB l
  else if kind = 10 then eachB l fresh (fun i => laterB l i fun s => s.2) && precB l
  else if kind = 11 then eachB l fresh (altB l)
  else if kind = 12 then eachB l fresh (fun i => decide (i + 1 < l.length) && (l.getD (i + 1) (false, false)).2)
  else eachB l fresh (fun i => !laterB l (i + 1) fun s => s.2)
def manyB (l : List (Bool × Bool)) : Nat := cnt (fun k => (l.getD k (false, false)).1) 0 l.length
def decB (kind count : Int) (l : List (Bool × Bool)) (fresh : Nat) : Bool :=
  if kind = 1 then decide (count ≤ (manyB l : Int)) else if kind = 2 then decide ((manyB l : Int) < count) else if kind = 3 then decide ((manyB l : Int) = count) else keepsB kind l fresh
/-! ### The reference, by place -/
def someB (far a : Nat) (p : Nat → Bool) : Bool := decide (fst p far a < far)
def respB (far n : Nat) (A B : Nat → Bool) : Bool := (List.range n).all fun i => !A i || someB far i B
def prefB (n : Nat) (A B : Nat → Bool) : Bool := (List.range n).all fun i => !B i || (List.range (i + 1)).any A
def nextR (kind : Int) (far : Nat) (sn A B : Nat → Bool) (i : Nat) : Nat := fst (fun k => if kind = 12 then sn k else if kind = 11 then A k || B k else false) far (i + 1)
def refTB (kind count : Int) (sn A B : Nat → Bool) (far n : Nat) : Bool :=
  if kind = 1 then decide (count ≤ (cnt A 0 far : Int)) else if kind = 2 then decide ((cnt A 0 far : Int) < count) else if kind = 3 then decide ((cnt A 0 far : Int) = count)
  else if kind = 4 then (if fst sn n 0 < n then A (fst sn n 0) else true)
  else if kind = 5 then someB far 0 A || someB far 0 B
  else if kind = 6 then !someB far 0 A || someB far 0 B
  else if kind = 7 then someB far 0 A == someB far 0 B
  else if kind = 13 then !(someB far 0 A && someB far 0 B)
  else if kind = 8 then respB far n A B
  else if kind = 9 then prefB n A B
  else if kind = 10 then respB far n A B && prefB n A B
  else (List.range n).all fun i => !A i || (if kind = 14 then !someB far (i + 1) B else decide (nextR kind far sn A B i < far) && B (nextR kind far sn A B i))
/-! ### Both say the same -/
theorem some_eq {b m : Nat} {p : Nat → Bool} (h : Prd b m p) (hm : 1 ≤ m) {a e f : Nat} (he : max a b + m ≤ e) (hf : max a b + m ≤ f) : someB e a p = someB f a p := by
  have key : ∀ e f, max a b + m ≤ e → max a b + m ≤ f → someB e a p = true → someB f a p = true := fun e f he hf q => by
    unfold someB at q ⊢
    rw [decide_eq_true_eq, fst_lt (by omega)] at q ⊢
    obtain ⟨j, h1, h2, h3⟩ := q
    obtain ⟨j', g1, g2, g3, g4⟩ := h.near hm h1 h3
    exact ⟨j', g1, by omega, g4⟩
  rw [Bool.eq_iff_iff]
  exact ⟨key e f he hf, key f e hf he⟩
/-- Later ones by number are later ones by place. -/
theorem later_eq {sn A B : Nat → Bool} {E i : Nat} (hi : i ≤ E) {p : Bool × Bool → Bool} {q : Nat → Bool} (hq : ∀ j, q j = (sn j && p (A j, B j))) : laterB (allTo sn A B E) (cnt sn 0 i) p = someB E i q := by
  rw [Bool.eq_iff_iff, laterB_iff (by rw [allTo_len]; exact cnt_mono hi), all_iff]
  unfold someB
  rw [decide_eq_true_eq, fst_lt hi]
  constructor
  · rintro ⟨j, h1, h2, h3, h4⟩; exact ⟨j, h1, h2, by rw [hq, h3, h4]; rfl⟩
  · rintro ⟨j, h1, h2, h3⟩
    rw [hq, Bool.and_eq_true] at h3
    exact ⟨j, h1, h2, h3.1, h3.2⟩
/-- Each fresh one by number is each by place. -/
theorem each_eq {sn A B A' : Nat → Bool} {E n : Nat} (hn : n ≤ E) (hA : ∀ j, A' j = (sn j && A j)) {ok : Nat → Bool} {ok' : Nat → Bool} (h : ∀ i, i < n → sn i = true → ok (cnt sn 0 i) = ok' i) :
    eachB (allTo sn A B E) (cnt sn 0 n) ok = (List.range n).all fun i => !A' i || ok' i := by
  unfold eachB
  rw [Bool.eq_iff_iff, all_range, all_range]
  constructor
  · intro q i hi
    rw [hA]
    cases hs : sn i with
    | false => rfl
    | true =>
      have := q (cnt sn 0 i) (cnt_lt hi hs)
      rw [allTo_at (by omega) hs, h i hi hs] at this
      rw [Bool.true_and]; exact this
  · intro q k hk
    obtain ⟨i, g1, g2, g3⟩ := cnt_at hk
    subst g3
    have := q i g1
    rw [hA, g2, Bool.true_and] at this
    rw [allTo_at (by omega) g2, h i g1 g2]
    exact this
theorem cnt_step {sn : Nat → Bool} {i : Nat} (h : sn i = true) : cnt sn 0 i + 1 = cnt sn 0 (i + 1) := by
  rw [cnt_succ (Nat.zero_le _), if_pos h]
theorem cnt_congr {p q : Nat → Bool} : ∀ e, (∀ j, j < e → p j = q j) → cnt p 0 e = cnt q 0 e
  | 0, _ => by rw [cnt_self, cnt_self]
  | e + 1, h => by rw [cnt_succ (Nat.zero_le _), cnt_succ (Nat.zero_le _), cnt_congr e fun j hj => h j (by omega), h e (by omega)]
theorem many_eq' {sn A B A' : Nat → Bool} (hA : ∀ j, A' j = (sn j && A j)) : ∀ E, manyB (allTo sn A B E) = cnt A' 0 E
  | 0 => by unfold manyB; rw [cnt_self]; exact cnt_self _ _
  | E + 1 => by
    have ih := many_eq' (B := B) hA E
    have hl := allTo_len sn A B E
    rw [cnt_succ (Nat.zero_le _), hA E]
    simp only [allTo]
    cases hs : sn E with
    | false => rw [if_neg (by decide), ih, Bool.false_and, if_neg (by decide), Nat.add_zero]
    | true =>
      rw [if_pos rfl, Bool.true_and, ← ih]
      unfold manyB
      rw [List.length_append, List.length_singleton, cnt_succ (Nat.zero_le _)]
      have e1 : (allTo sn A B E ++ [(A E, B E)]).getD (allTo sn A B E).length (false, false) = (A E, B E) := by
        rw [List.getD_eq_getElem?_getD, List.getElem?_append_right (Nat.le_refl _), Nat.sub_self]; rfl
      rw [e1, cnt_congr (q := fun k => ((allTo sn A B E).getD k (false, false)).1) _ fun j hj => by
        show ((allTo sn A B E ++ [(A E, B E)]).getD j (false, false)).1 = _
        rw [List.getD_eq_getElem?_getD, List.getElem?_append_left hj, ← List.getD_eq_getElem?_getD]]
theorem prec_eq {sn A B A' B' : Nat → Bool} (hA : ∀ j, A' j = (sn j && A j)) (hB : ∀ j, B' j = (sn j && B j)) {b m E : Nat} (hm : 1 ≤ m) (pA : Prd b m A') (pB : Prd b m B') (hE : b + m ≤ E) : precB (allTo sn A B E) = prefB (b + m) A' B' := by
  unfold precB prefB
  rw [Bool.eq_iff_iff, all_range, all_range, allTo_len]
  constructor
  · intro h i hi
    rw [hB]
    cases hs : sn i with
    | false => rfl
    | true =>
      have q := h (cnt sn 0 i) (cnt_lt (by omega) hs)
      rw [allTo_at (by omega) hs] at q
      rw [Bool.true_and]
      cases hb : B i with
      | false => rfl
      | true =>
        rw [hb, Bool.not_true, Bool.false_or, List.any_eq_true] at q
        obtain ⟨j, h1, h2⟩ := q
        have h1 := List.mem_range.1 h1
        obtain ⟨k, g1, g2, g3⟩ := cnt_at (p := sn) (n := E) (k := j) (Nat.lt_of_lt_of_le h1 (by have := cnt_lt (p := sn) (show i < E by omega) hs; omega))
        subst g3
        rw [allTo_at g1 g2] at h2
        rw [Bool.not_true, Bool.false_or, List.any_eq_true]
        refine ⟨k, List.mem_range.2 ?_, by rw [hA, g2]; exact h2⟩
        rcases Nat.lt_or_ge k (i + 1) with z | z
        · exact z
        · have := cnt_lt (p := sn) (show i < k by omega) hs; omega
  · intro h k hk
    obtain ⟨i, g1, g2, g3⟩ := cnt_at hk
    subst g3
    rw [allTo_at g1 g2]
    cases hb : B i with
    | false => rfl
    | true =>
      have hB' : B' i = true := by rw [hB, g2, hb]; rfl
      obtain ⟨i', q1, q2, q3, q4⟩ := pB.near hm (Nat.zero_le i) hB'
      have q := h i' (by omega)
      rw [q4, Bool.not_true, Bool.false_or, List.any_eq_true] at q
      obtain ⟨j, h1, h2⟩ := q
      have h1 := List.mem_range.1 h1
      rw [hA, Bool.and_eq_true] at h2
      rw [Bool.not_true, Bool.false_or, List.any_eq_true]
      refine ⟨cnt sn 0 j, List.mem_range.2 ?_, by rw [allTo_at (by omega) h2.1]; exact h2.2⟩
      have := cnt_mono (p := sn) (show j ≤ i by omega)
      omega
theorem init_eq {sn A B A' : Nat → Bool} (hA : ∀ j, A' j = (sn j && A j)) {b m E : Nat} (hm : 1 ≤ m) (pS : Prd b m sn) (hE : b + m ≤ E) :
    (decide ((allTo sn A B E).length = 0) || ((allTo sn A B E).getD 0 (false, false)).1) = if fst sn (b + m) 0 < b + m then A' (fst sn (b + m) 0) else true := by
  obtain ⟨g1, g2, g3, g4⟩ := fst_spec (p := sn) (e := b + m) (i := 0) (Nat.zero_le _)
  rw [allTo_len]
  by_cases q : fst sn (b + m) 0 < b + m
  · rw [if_pos q]
    have hs := g4 q
    have e0 : cnt sn 0 (fst sn (b + m) 0) = 0 := (cnt_zero _ (Nat.zero_le _)).2 g3
    have hlt := cnt_lt (p := sn) (show fst sn (b + m) 0 < E by omega) hs
    have hat := allTo_at (A := A) (B := B) (n := E) (show fst sn (b + m) 0 < E by omega) hs
    rw [e0] at hat
    rw [hat, decide_eq_false (by omega), hA, hs]
    rfl
  · rw [if_neg q]
    have : cnt sn 0 E = 0 := (cnt_zero _ (Nat.zero_le _)).2 fun j _ hj => by
      cases hs : sn j with
      | false => rfl
      | true =>
        obtain ⟨j', q1, q2, q3, q4⟩ := pS.near hm (Nat.zero_le j) hs
        have := g3 j' (Nat.zero_le _) (by omega)
        rw [q4] at this
        cases this
    rw [this]
    rfl
/-- The next one that is so, by number and by place. -/
theorem next_eq {sn A B : Nat → Bool} {E far i : Nat} (hE : E ≤ far) (hs : sn i = true) (hi : i < E) {p : Bool × Bool → Bool} {q : Nat → Bool} (hq : ∀ j, q j = (sn j && p (A j, B j))) (hfar : (∃ j, i < j ∧ j < far ∧ q j = true) → ∃ j, i < j ∧ j < E ∧ q j = true) :
    (fst q far (i + 1) < far ∧ fst q far (i + 1) < E ∧ fst (fun k => p ((allTo sn A B E).getD k (false, false))) (allTo sn A B E).length (cnt sn 0 i + 1) = cnt sn 0 (fst q far (i + 1)) ∧ sn (fst q far (i + 1)) = true ∧ cnt sn 0 (fst q far (i + 1)) < (allTo sn A B E).length) ∨
      (¬ fst q far (i + 1) < far ∧ fst (fun k => p ((allTo sn A B E).getD k (false, false))) (allTo sn A B E).length (cnt sn 0 i + 1) = (allTo sn A B E).length) := by
  obtain ⟨g1, g2, g3, g4⟩ := fst_spec (p := q) (e := far) (i := i + 1) (by omega)
  have hle : cnt sn 0 i + 1 ≤ cnt sn 0 E := by rw [cnt_step hs]; exact cnt_mono (by omega)
  have hno : ∀ t, (∀ j, i < j → j < t → q j = false) → t ≤ E → ∀ k, cnt sn 0 i + 1 ≤ k → k < cnt sn 0 t → p ((allTo sn A B E).getD k (false, false)) = false := fun t ht htE k h1 h2 => by
    obtain ⟨j, r1, r2, r3⟩ := cnt_at h2
    subst r3
    rw [allTo_at (by omega) r2]
    have hij : i < j := by
      rcases Nat.lt_or_ge i j with z | z
      · exact z
      · have := cnt_mono (p := sn) z; omega
    have := ht j hij r1
    rw [hq, r2, Bool.true_and] at this
    exact this
  by_cases z : fst q far (i + 1) < far
  · left
    have hqt := g4 z
    obtain ⟨j, r1, r2, r3⟩ := hfar ⟨_, by omega, z, hqt⟩
    have hltE : fst q far (i + 1) < E := by
      rcases Nat.lt_or_ge (fst q far (i + 1)) E with y | y
      · exact y
      · have := g3 j (by omega) (by omega); rw [r3] at this; cases this
    have hst : sn (fst q far (i + 1)) = true ∧ p (A (fst q far (i + 1)), B (fst q far (i + 1))) = true := by rw [hq, Bool.and_eq_true] at hqt; exact hqt
    refine ⟨z, hltE, ?_, hst.1, by rw [allTo_len]; exact cnt_lt hltE hst.1⟩
    refine fst_eq ?_ (by rw [allTo_len]; exact cnt_mono (by omega)) ?_ ?_
    · rw [cnt_step hs]; exact cnt_mono g1
    · intro k h1 h2
      exact hno _ (fun j h3 h4 => g3 j (by omega) h4) (by omega) k h1 h2
    · intro _
      show p ((allTo sn A B E).getD _ (false, false)) = true
      rw [allTo_at hltE hst.1]
      exact hst.2
  · right
    refine ⟨z, fst_eq (by rw [allTo_len]; exact hle) (Nat.le_refl _) (fun k h1 h2 => ?_) (fun h => by omega)⟩
    rw [allTo_len] at h2
    exact hno E (fun j h3 h4 => g3 j (by omega) (by omega)) (Nat.le_refl _) k h1 h2
theorem fits_eq {kind count : Int} (hk : 1 ≤ kind ∧ kind ≤ 14) (hc : kind ≤ 3 → 1 ≤ count ∧ count ≤ 3) {sn A B A' B' : Nat → Bool} (hA : ∀ j, A' j = (sn j && A j)) (hB : ∀ j, B' j = (sn j && B j)) {b m : Nat} (hm : 1 ≤ m) (pS : Prd b m sn) (pA : Prd b m A') (pB : Prd b m B') :
    decB kind count (allTo sn A B (b + 6 * m)) (cnt sn 0 (b + m)) = refTB kind count sn A' B' (b + m + 6 * m) (b + m) := by
  have cf := fun c (hc : c ≤ 3) => cnt_far pA hm (a := 0) (by omega) (show b + 6 * m ≤ b + 6 * m by omega) (show b + 6 * m ≤ b + m + 6 * m by omega) hc
  have sA := fun a (ha : a ≤ b + m) => some_eq pA hm (a := a) (e := b + 6 * m) (f := b + m + 6 * m) (by omega) (by omega)
  have sB := fun a (ha : a ≤ b + m) => some_eq pB hm (a := a) (e := b + 6 * m) (f := b + m + 6 * m) (by omega) (by omega)
  have lA := fun i (hi : i ≤ b + 6 * m) => later_eq (sn := sn) (A := A) (B := B) (E := b + 6 * m) hi (p := fun s => s.1) (q := A') hA
  have lB := fun i (hi : i ≤ b + 6 * m) => later_eq (sn := sn) (A := A) (B := B) (E := b + 6 * m) hi (p := fun s => s.2) (q := B') hB
  have lA0 := lA 0 (by omega)
  have lB0 := lB 0 (by omega)
  rw [cnt_self, sA 0 (by omega)] at lA0
  rw [cnt_self, sB 0 (by omega)] at lB0
  have eR : eachB (allTo sn A B (b + 6 * m)) (cnt sn 0 (b + m)) (fun i => laterB (allTo sn A B (b + 6 * m)) i fun s => s.2) = respB (b + m + 6 * m) (b + m) A' B' :=
    each_eq (by omega) hA fun i hi _ => by show laterB _ _ _ = _; rw [lB i (by omega), sB i (by omega)]
  have eP := prec_eq (E := b + 6 * m) hA hB hm pA pB (by omega)
  unfold decB refTB keepsB
  rw [many_eq' hA, lA0, lB0, eR, eP]
  by_cases k1 : kind = 1
  · have h1 := cf (count.toNat - 1) (by have := hc (by omega); omega)
    have := hc (by omega)
    rw [if_pos k1, if_pos k1, Bool.eq_iff_iff, decide_eq_true_eq, decide_eq_true_eq]
    omega
  rw [if_neg k1, if_neg k1]
  by_cases k2 : kind = 2
  · have h1 := cf (count.toNat - 1) (by have := hc (by omega); omega)
    have := hc (by omega)
    rw [if_pos k2, if_pos k2, Bool.eq_iff_iff, decide_eq_true_eq, decide_eq_true_eq]
    omega
  rw [if_neg k2, if_neg k2]
  by_cases k3 : kind = 3
  · have h1 := cf (count.toNat - 1) (by have := hc (by omega); omega)
    have h2 := cf count.toNat (by have := hc (by omega); omega)
    have := hc (by omega)
    rw [if_pos k3, if_pos k3, Bool.eq_iff_iff, decide_eq_true_eq, decide_eq_true_eq]
    omega
  rw [if_neg k3, if_neg k3]
  by_cases k4 : kind = 4
  · rw [if_pos k4, if_pos k4]; exact init_eq hA hm pS (by omega)
  rw [if_neg k4, if_neg k4]
  by_cases k5 : kind = 5
  · rw [if_pos k5, if_pos k5]
  rw [if_neg k5, if_neg k5]
  by_cases k6 : kind = 6
  · rw [if_pos k6, if_pos k6]
  rw [if_neg k6, if_neg k6]
  by_cases k7 : kind = 7
  · rw [if_pos k7, if_pos k7]
  rw [if_neg k7, if_neg k7]
  by_cases k13 : kind = 13
  · rw [if_pos k13, if_pos k13, Bool.not_and]
  rw [if_neg k13, if_neg k13]
  by_cases k8 : kind = 8
  · rw [if_pos k8, if_pos k8]
  rw [if_neg k8, if_neg k8]
  by_cases k9 : kind = 9
  · rw [if_pos k9, if_pos k9]
  rw [if_neg k9, if_neg k9]
  by_cases k10 : kind = 10
  · rw [if_pos k10, if_pos k10]
  rw [if_neg k10, if_neg k10]
  have pq : ∀ (q : Nat → Bool), Prd b m q → ∀ i, i < b + m → (∃ j, i < j ∧ j < b + m + 6 * m ∧ q j = true) → ∃ j, i < j ∧ j < b + 6 * m ∧ q j = true := fun q hq i hi => by
    rintro ⟨j, h1, h2, h3⟩
    obtain ⟨j', g1, g2, g3, g4⟩ := hq.near hm (show i + 1 ≤ j by omega) h3
    exact ⟨j', by omega, by omega, g4⟩
  have sAB : ∀ j, A' j = true ∨ B' j = true → sn j = true := fun j h => by
    rw [hA, hB] at h
    cases hs : sn j with
    | true => rfl
    | false => rw [hs] at h; simp at h
  by_cases k11 : kind = 11
  · rw [if_pos k11]
    refine each_eq (by omega) hA fun i hi hs => ?_
    rw [if_neg (by omega)]
    have en : nextR kind (b + m + 6 * m) sn A' B' i = fst (fun k => A' k || B' k) (b + m + 6 * m) (i + 1) := by
      unfold nextR
      congr 1
      funext k
      rw [if_neg (by omega), if_pos k11]
    rw [en]
    have pAB : Prd b m (fun k => A' k || B' k) := fun j hj => by show (A' (j + m) || B' (j + m)) = (A' j || B' j); rw [pA j hj, pB j hj]
    rcases next_eq (sn := sn) (A := A) (B := B) (E := b + 6 * m) (far := b + m + 6 * m) (by omega) hs (by omega) (p := fun s => s.2 || s.1) (q := fun k => A' k || B' k) (fun j => by
      show (A' j || B' j) = (sn j && (B j || A j))
      rw [hA, hB]; cases sn j <;> cases A j <;> cases B j <;> rfl) (pq _ pAB i hi) with ⟨h1, h2, h3, h4, h5⟩ | ⟨h1, h2⟩
    · unfold altB altK
      rw [h3, decide_eq_true h5, decide_eq_true h1, allTo_at h2 h4, hB, h4]
      rfl
    · unfold altB altK
      rw [h2, decide_eq_false (by omega), decide_eq_false h1]
      rfl
  rw [if_neg k11]
  by_cases k12 : kind = 12
  · rw [if_pos k12]
    refine each_eq (by omega) hA fun i hi hs => ?_
    rw [if_neg (by omega)]
    have en : nextR kind (b + m + 6 * m) sn A' B' i = fst sn (b + m + 6 * m) (i + 1) := by
      unfold nextR
      congr 1
      funext k
      rw [if_pos k12]
    rw [en]
    show (decide (cnt sn 0 i + 1 < _) && _) = _
    rcases next_eq (sn := sn) (A := A) (B := B) (E := b + 6 * m) (far := b + m + 6 * m) (by omega) hs (by omega) (p := fun _ => true) (q := sn) (fun j => by
      show sn j = (sn j && true); rw [Bool.and_true]) (pq _ pS i hi) with ⟨h1, h2, h3, h4, h5⟩ | ⟨h1, h2⟩
    · have hz : cnt sn 0 i + 1 = cnt sn 0 (fst sn (b + m + 6 * m) (i + 1)) := by
        rw [← h3]
        have hle : cnt sn 0 i + 1 ≤ (allTo sn A B (b + 6 * m)).length := by rw [allTo_len, cnt_step hs]; exact cnt_mono (by omega)
        exact (fst_eq (Nat.le_refl _) hle (fun j h1 h2 => by omega) (fun _ => rfl)).symm
      rw [hz, decide_eq_true h5, decide_eq_true h1, allTo_at h2 h4, hB, h4]
      rfl
    · have hle : cnt sn 0 i + 1 ≤ (allTo sn A B (b + 6 * m)).length := by rw [allTo_len, cnt_step hs]; exact cnt_mono (by omega)
      have hz : cnt sn 0 i + 1 = (allTo sn A B (b + 6 * m)).length := by
        rw [← h2]
        exact (fst_eq (Nat.le_refl _) hle (fun j h1 h2 => by omega) (fun _ => rfl)).symm
      rw [hz, decide_eq_false (by omega), decide_eq_false h1]
      rfl
  rw [if_neg k12]
  refine each_eq (by omega) hA fun i hi hs => ?_
  rw [if_pos (by omega)]
  show (!laterB _ (cnt sn 0 i + 1) _) = _
  rw [cnt_step hs, lB (i + 1) (by omega), sB (i + 1) (by omega)]
end Go.Proofs.Ytfgklgjbnpjpoaa
