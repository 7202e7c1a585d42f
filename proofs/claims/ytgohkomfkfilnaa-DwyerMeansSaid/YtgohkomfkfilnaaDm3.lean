/-
  What a pattern means: the reference, over deep values; both say the same. No statement is proved here.
-/
import Derived.Test.YtgohkomfkfilnaaDm2
import Derived.Test.YtgohkomfkfilnaaSc
namespace Go.Proofs.Ytgohkomfkfilnaa
open Go.RowKit
set_option linter.unusedSimpArgs false
set_option linter.unusedVariables false
/-! ### Plain -/
def intB (kind count : Int) (P S T : Nat → Bool) (b m a : Nat) (must : Bool) : Bool :=
  if fst T (2 * (b + m) + 7 * m) a = 2 * (b + m) + 7 * m ∧ must = true then true else keptR kind count P S (b + m + m) a (fst T (2 * (b + m) + 7 * m) a) (decide (fst T (2 * (b + m) + 7 * m) a = 2 * (b + m) + 7 * m))
def neverT : Nat → Bool := fun _ => false
def tillT (R : Nat → Bool) (i : Nat) : Nat → Bool := fun k => decide (i < k) && R k
def refKB (scope kind count : Int) (P S Q R : Nat → Bool) (b m : Nat) : Bool :=
  if scope = 1 then intB kind count P S neverT b m 0 false else if scope = 2 then intB kind count P S R b m 0 true
  else if scope = 3 then (if fst Q (b + m) 0 < b + m then intB kind count P S neverT b m (fst Q (b + m) 0) false else true)
  else (List.range (b + m)).all fun i => !(Q i && !R i) || intB kind count P S (tillT R i) b m i (decide (scope = 4))
theorem never_inf {kind count : Int} (hk : 1 ≤ kind ∧ kind ≤ 6) (hc : 0 ≤ count ∧ count ≤ 3) {b m : Nat} {P S : Nat → Bool} (hP : Prd b m P) (hS : Prd b m S) (hm : 1 ≤ m) {a : Nat} (ha : a ≤ b + m) {T : Nat → Bool} (hT : ∀ j, a ≤ j → T j = false) :
    intB kind count P S T b m a false = if kind = 6 then answB P S (b + 6 * m + m) a (b + 6 * m) else keptB kind count P S (b + 6 * m) a (b + 6 * m) := by
  have e : fst T (2 * (b + m) + 7 * m) a = 2 * (b + m) + 7 * m := fst_eq (by omega) (Nat.le_refl _) (fun j h1 _ => hT j h1) (fun q => by omega)
  unfold intB
  rw [e, if_neg (fun q => by cases q.2), decide_eq_true rfl, inf_eq hk hc hP hS hm ha]
theorem spTo_all {scope : Int} {Q R : Nat → Bool} {E : Nat} {f : Nat × Nat → Bool} : ∀ k, (spTo scope Q R E k).all f = (List.range k).all fun i => !(Q i && !R i && (decide (fst R E (i + 1) < E) || decide (scope = 5))) || f (i, fst R E (i + 1))
  | 0 => rfl
  | k + 1 => by
    rw [List.range_succ, List.all_append, ← spTo_all k]
    simp only [spTo]
    by_cases h : Q k = true ∧ R k = false ∧ (fst R E (k + 1) < E ∨ scope = 5)
    · rw [if_pos h, List.all_append]
      obtain ⟨h1, h2, h3⟩ := h
      have e : (Q k && !R k && (decide (fst R E (k + 1) < E) || decide (scope = 5))) = true := by
        rw [h1, h2, show (decide (fst R E (k + 1) < E) || decide (scope = 5)) = true by rw [Bool.or_eq_true, decide_eq_true_eq, decide_eq_true_eq]; exact h3]
        rfl
      simp only [List.all_cons, List.all_nil, e, Bool.not_true, Bool.false_or, Bool.and_true]
    · rw [if_neg h]
      have : (Q k && !R k && (decide (fst R E (k + 1) < E) || decide (scope = 5))) = false := by
        rw [Bool.eq_false_iff]
        intro q
        simp only [Bool.and_eq_true, Bool.or_eq_true, decide_eq_true_eq, Bool.not_eq_true'] at q
        exact h ⟨q.1.1, q.1.2, q.2⟩
      simp only [List.all_cons, List.all_nil, this, Bool.not_false, Bool.true_or, Bool.and_true]
theorem all_congr' {n : Nat} {f g : Nat → Bool} (h : ∀ i, i < n → f i = g i) : (List.range n).all f = (List.range n).all g := by
  rw [Bool.eq_iff_iff, all_range, all_range]
  exact ⟨fun q i hi => by rw [← h i hi]; exact q i hi, fun q i hi => by rw [h i hi]; exact q i hi⟩
theorem means_eq {x : Pat} {s l : List Int} (h : PW x s l) : meansB x s l = refKB x.scope x.kind x.count (hasP s l x.p) (hasP s l x.s) (hasP s l x.q) (hasP s l x.r) s.length l.length := by
  obtain ⟨hk, hsc, _, _, _, _, hc⟩ := h.nums
  have hl := h.lens
  have hm := hl.2
  have hP := prd_has s l x.p
  have hS := prd_has s l x.s
  have hQ := prd_has s l x.q
  have hR := prd_has s l x.r
  unfold meansB spansL refKB
  obtain ⟨F, hF, hF1, hF2⟩ : ∃ F, spanB x s l = F ∧ (∀ a, F (a, s.length + 6 * l.length) = if x.kind = 6 then answB (hasP s l x.p) (hasP s l x.s) (s.length + 6 * l.length + l.length) a (s.length + 6 * l.length) else keptB x.kind x.count (hasP s l x.p) (hasP s l x.s) (s.length + 6 * l.length) a (s.length + 6 * l.length)) ∧
      ∀ a e, e ≠ s.length + 6 * l.length → F (a, e) = keptB x.kind x.count (hasP s l x.p) (hasP s l x.s) (s.length + 6 * l.length) a e := by
    refine ⟨_, rfl, fun a => ?_, fun a e he => ?_⟩
    · unfold spanB
      by_cases q : x.kind = 6
      · rw [if_pos ⟨rfl, q⟩, if_pos q]
      · rw [if_neg (fun z => q z.2), if_neg q]
    · unfold spanB
      rw [if_neg (fun q => he q.1)]
  rw [hF]
  clear hF
  generalize hasP s l x.p = P at *
  generalize hasP s l x.s = S at *
  generalize hasP s l x.q = Q at *
  generalize hasP s l x.r = R at *
  generalize s.length = b at *
  generalize l.length = m at *
  have one : ∀ o, [o].all F = F o := fun o => by simp
  by_cases s1 : x.scope = 1
  · rw [if_pos s1, if_pos s1, never_inf (a := 0) (T := neverT) hk hc hP hS hm (by omega) (fun _ _ => rfl), one, hF1]
  rw [if_neg s1, if_neg s1]
  by_cases s2 : x.scope = 2
  · rw [if_pos s2, if_pos s2]
    obtain ⟨g1, g2, g3, g4⟩ := fst_spec (p := R) (e := b + 6 * m) (i := 0) (by omega)
    by_cases e : fst R (b + 6 * m) 0 = b + 6 * m
    · rw [if_pos e]
      have : fst R (2 * (b + m) + 7 * m) 0 = 2 * (b + m) + 7 * m := fst_eq (by omega) (Nat.le_refl _) (fun j _ hj => by
        cases hr : R j with
        | false => rfl
        | true =>
          obtain ⟨j', q1, q2, q3, q4⟩ := hR.near hm (Nat.zero_le j) hr
          have := g3 j' (by omega) (by omega)
          rw [q4] at this
          cases this) (fun q => by omega)
      unfold intB
      rw [if_pos ⟨this, rfl⟩]
      rfl
    · rw [if_neg e]
      have hlt : fst R (b + 6 * m) 0 < b + 6 * m := by omega
      have : fst R (2 * (b + m) + 7 * m) 0 = fst R (b + 6 * m) 0 := fst_eq (by omega) (by omega) g3 (fun _ => g4 hlt)
      unfold intB
      rw [this, if_neg (fun q => by omega), decide_eq_false (by omega), ← fin_eq hk (E := b + 6 * m) (by omega) hlt, one, hF2 _ _ e]
  rw [if_neg s2, if_neg s2]
  by_cases s3 : x.scope = 3
  · rw [if_pos s3, if_pos s3]
    have hlt : fst Q (b + 6 * m) 0 < b + 6 * m ↔ fst Q (b + m) 0 < b + m := by
      rw [fst_lt (by omega), fst_lt (by omega)]
      constructor
      · rintro ⟨j, q1, q2, q3⟩
        obtain ⟨j', r1, r2, r3, r4⟩ := hQ.near hm (Nat.zero_le j) q3
        exact ⟨j', by omega, by omega, r4⟩
      · rintro ⟨j, q1, q2, q3⟩
        exact ⟨j, q1, by omega, q3⟩
    by_cases e : fst Q (b + m) 0 < b + m
    · obtain ⟨g1, g2, g3, g4⟩ := fst_spec (p := Q) (e := b + m) (i := 0) (by omega)
      have eq : fst Q (b + 6 * m) 0 = fst Q (b + m) 0 := fst_eq (by omega) (by omega) g3 (fun _ => g4 e)
      rw [if_pos (hlt.2 e), if_pos e, eq, never_inf (a := fst Q (b + m) 0) (T := neverT) hk hc hP hS hm (by omega) (fun _ _ => rfl), one, hF1]
    · rw [if_neg (fun q => e (hlt.1 q)), if_neg e]
      rfl
  rw [if_neg s3, if_neg s3, spTo_all]
  refine all_congr' fun i hi => ?_
  cases hq : Q i
  · rfl
  by_cases hr : R i = true
  · rw [hr]; rfl
  have hr : R i = false := by simpa using hr
  rw [hr]
  obtain ⟨g1, g2, g3, g4⟩ := fst_spec (p := R) (e := b + 6 * m) (i := i + 1) (by omega)
  show (!(decide (fst R (b + 6 * m) (i + 1) < b + 6 * m) || decide (x.scope = 5)) || F (i, fst R (b + 6 * m) (i + 1))) = intB x.kind x.count P S (tillT R i) b m i (decide (x.scope = 4))
  by_cases e : fst R (b + 6 * m) (i + 1) < b + 6 * m
  · rw [decide_eq_true e, hF2 _ _ (by omega)]
    have ht : fst (tillT R i) (2 * (b + m) + 7 * m) i = fst R (b + 6 * m) (i + 1) := fst_eq (by omega) (by omega) (fun j h1 h2 => by
      unfold tillT
      by_cases q : j = i
      · subst q; simp
      · rw [g3 j (by omega) h2, Bool.and_false]) (fun _ => by unfold tillT; rw [g4 e, decide_eq_true (by omega)]; rfl)
    unfold intB
    rw [ht, if_neg (fun q => by omega), decide_eq_false (show ¬ fst R (b + 6 * m) (i + 1) = 2 * (b + m) + 7 * m by omega), ← fin_eq hk (E := b + 6 * m) (by omega) e]
    rfl
  · have eE : fst R (b + 6 * m) (i + 1) = b + 6 * m := by omega
    have hno : ∀ j, i ≤ j → tillT R i j = false := fun j hj => by
      unfold tillT
      by_cases q : i < j
      · cases hz : R j with
        | false => rw [Bool.and_false]
        | true =>
          obtain ⟨j', q1, q2, q3, q4⟩ := hR.near hm (show i + 1 ≤ j by omega) hz
          have := g3 j' (by omega) (by omega)
          rw [q4] at this
          cases this
      · rw [decide_eq_false q]; rfl
    rw [decide_eq_false e, Bool.false_or, eE]
    by_cases s4 : x.scope = 4
    · have ht : fst (tillT R i) (2 * (b + m) + 7 * m) i = 2 * (b + m) + 7 * m := fst_eq (by omega) (Nat.le_refl _) (fun j h1 _ => hno j h1) (fun q => by omega)
      unfold intB
      rw [if_pos ⟨ht, decide_eq_true s4⟩, decide_eq_false (show ¬ x.scope = 5 by omega)]
      rfl
    · rw [decide_eq_true (show x.scope = 5 by omega), decide_eq_false s4, never_inf (a := i) hk hc hP hS hm (by omega) hno, hF1]
      rfl
/-! ### The reference -/
def rngL (a c : Nat) : List Int := (List.range c).map fun j => ((a + j : Nat) : Int)
@[simp] theorem rngL_len (a c : Nat) : (rngL a c).length = c := by simp [rngL]
theorem rngL_getD {a c j : Nat} (h : j < c) : (rngL a c).getD j 0 = ((a + j : Nat) : Int) := by
  rw [List.getD_eq_getElem?_getD, List.getElem?_eq_getElem (by simpa using h)]
  simp [rngL]
theorem rngL_succ (a c : Nat) : rngL a (c + 1) = rngL a c ++ [((a + c : Nat) : Int)] := by simp [rngL, List.range_succ]
def okJ (kind : Int) (S : Nat → Bool) (a k j : Nat) : Bool := (List.range j).any fun j => (if kind = 6 then decide (k ≤ j) else decide (j ≤ k)) && S (a + j)
theorem okJ_succ (kind : Int) (S : Nat → Bool) (a k j : Nat) : okJ kind S a k (j + 1) = (okJ kind S a k j || ((if kind = 6 then decide (k ≤ j) else decide (j ≤ k)) && S (a + j))) := by
  unfold okJ
  rw [List.range_succ, List.any_append]
  simp
theorem okJ_all {kind : Int} {S : Nat → Bool} {a k c : Nat} (h : k < c) : okJ kind S a k c = if kind = 6 then decide (0 < cnt S (a + k) (a + c)) else decide (0 < cnt S a (a + k + 1)) := by
  unfold okJ
  split
  · rename_i q
    rw [Bool.eq_iff_iff, decide_eq_true_eq, cnt_pos (by omega), List.any_eq_true]
    simp only [List.mem_range, if_pos q, Bool.and_eq_true, decide_eq_true_eq]
    constructor
    · rintro ⟨j, h1, h2, h3⟩; exact ⟨a + j, by omega, by omega, h3⟩
    · rintro ⟨j, h1, h2, h3⟩; exact ⟨j - a, by omega, by omega, by rw [show a + (j - a) = j by omega]; exact h3⟩
  · rename_i q
    rw [Bool.eq_iff_iff, decide_eq_true_eq, cnt_pos (by omega), List.any_eq_true]
    simp only [List.mem_range, if_neg q, Bool.and_eq_true, decide_eq_true_eq]
    constructor
    · rintro ⟨j, h1, h2, h3⟩; exact ⟨a + j, by omega, by omega, h3⟩
    · rintro ⟨j, h1, h2, h3⟩; exact ⟨j - a, by omega, by omega, by rw [show a + (j - a) = j by omega]; exact h3⟩
def latR (kind : Int) (P S : Nat → Bool) (lim a c : Nat) (endless : Bool) (k : Nat) : Bool := (List.range k).all fun d => !P (a + d) || (endless && decide (lim ≤ d)) || okJ kind S a d c
theorem latR_succ (kind : Int) (P S : Nat → Bool) (lim a c : Nat) (endless : Bool) (k : Nat) : latR kind P S lim a c endless (k + 1) = (latR kind P S lim a c endless k && (!P (a + k) || (endless && decide (lim ≤ k)) || okJ kind S a k c)) := by
  unfold latR
  rw [List.range_succ, List.all_append]
  simp
theorem latR_false {kind : Int} {P S : Nat → Bool} {lim a c : Nat} {endless : Bool} : ∀ {d n : Nat}, d ≤ n → latR kind P S lim a c endless d = false → latR kind P S lim a c endless n = false := by
  intro d n hdn h
  obtain ⟨k, rfl⟩ := Nat.exists_eq_add_of_le hdn
  clear hdn
  induction k with
  | zero => exact h
  | succ k ih => rw [← Nat.add_assoc, latR_succ, ih]; rfl
theorem latR_eq (kind : Int) (P S : Nat → Bool) (lim a c : Nat) (endless : Bool) : lateR kind P S lim a (a + c) endless = latR kind P S lim a c endless c := by
  unfold lateR latR
  rw [show a + c - a = c by omega]
  exact all_congr' fun i hi => by rw [okJ_all hi]
theorem rngD_at {a c : Nat} {z : Nat} (k : Nat) (hz : z = k) (h : k < c) : ((rngL a c).map fun n => [D.sc (.int .i64 n)])[z]? = some [.sc (.int .i64 ((a + k : Nat) : Int))] := by
  rw [intsD_at (l := rngL a c) (k := k) hz (by simpa using h), rngL_getD h]
def c56_1 : PC := .seq (.seq (.ops [⟨(some 17), .move (.tmp 12), none, 0⟩,
    ⟨(some 18), .move (.tmp 2), none, 0⟩,
    ⟨(some 19), .len (.tmp 18), none, 0⟩,
    ⟨(some 20), .bin .lss (.tmp 17) (.tmp 19), none, 0⟩] false) (.cond (.tmp 20) (.skip) (.exit 0))) (.seq (.block 1 (.seq (.ops [⟨(some 23), .loadA 2 (.tmp 6), none, 0⟩,
    ⟨(some 24), .move (.tmp 2), none, 0⟩,
    ⟨(some 25), .move (.tmp 12), none, 0⟩,
    ⟨(some 26), .iaddr 1 (.tmp 24) (.tmp 25), none, 6⟩,
    ⟨(some 27), .load1 (.tmp 26), none, 14⟩,
    ⟨(some 28), .faddr 2 (.tmp 5), none, 0⟩,
    ⟨(some 29), .load1 (.tmp 28), none, 32⟩,
    ⟨(some 30), .call 59 [(.tmp 23), (.tmp 27), (.tmp 29)], none, 127⟩] true) (.cond (.tmp 30) (.ops [⟨(some 31), .move (.tmp 11), none, 0⟩,
    ⟨(some 32), .bin .add (.tmp 31) (.const (.int .i64 1)), none, 0⟩,
    ⟨(some 11), .move (.tmp 32), none, 0⟩] false) (.skip)))) (.ops [⟨(some 21), .move (.tmp 12), none, 0⟩,
    ⟨(some 22), .bin .add (.tmp 21) (.const (.int .i64 1)), none, 0⟩,
    ⟨(some 12), .move (.tmp 22), none, 0⟩] false))
def c56_3 : PC := .seq (.seq (.ops [⟨(some 89), .move (.tmp 15), none, 0⟩,
    ⟨(some 90), .move (.tmp 2), none, 0⟩,
    ⟨(some 91), .len (.tmp 90), none, 0⟩,
    ⟨(some 92), .bin .lss (.tmp 89) (.tmp 91), none, 0⟩] false) (.cond (.tmp 92) (.skip) (.exit 5))) (.seq (.block 6 (.seq (.ops [⟨(some 95), .move (.tmp 15), none, 0⟩,
    ⟨(some 96), .move (.tmp 13), none, 0⟩,
    ⟨(some 97), .bin .leq (.tmp 95) (.tmp 96), none, 0⟩,
    ⟨(some 16), .move (.tmp 97), none, 0⟩] false) (.seq (.seq (.ops [⟨(some 98), .faddr 0 (.tmp 5), none, 0⟩,
    ⟨(some 99), .load1 (.tmp 98), none, 0⟩,
    ⟨(some 100), .bin .eql (.tmp 99) (.const (.int .i64 6)), none, 0⟩] false) (.cond (.tmp 100) (.ops [⟨(some 101), .move (.tmp 15), none, 0⟩,
    ⟨(some 102), .move (.tmp 13), none, 0⟩,
    ⟨(some 103), .bin .geq (.tmp 101) (.tmp 102), none, 0⟩,
    ⟨(some 16), .move (.tmp 103), none, 0⟩] false) (.skip))) (.ops [⟨(some 104), .move (.tmp 14), none, 0⟩,
    ⟨(some 105), .move (.tmp 104), none, 1⟩,
    ⟨(some 106), .move (.tmp 16), (some (105, false)), 3⟩,
    ⟨(some 107), .move (.tmp 106), (some (105, false)), 7⟩,
    ⟨(some 108), .loadA 2 (.tmp 6), (some (107, true)), 15⟩,
    ⟨(some 109), .move (.tmp 2), (some (107, true)), 15⟩,
    ⟨(some 110), .move (.tmp 15), (some (107, true)), 15⟩,
    ⟨(some 111), .iaddr 1 (.tmp 109) (.tmp 110), (some (107, true)), 111⟩,
    ⟨(some 112), .load1 (.tmp 111), (some (107, true)), 239⟩,
    ⟨(some 113), .faddr 3 (.tmp 5), (some (107, true)), 15⟩,
    ⟨(some 114), .load1 (.tmp 113), (some (107, true)), 527⟩,
    ⟨(some 115), .call 59 [(.tmp 108), (.tmp 112), (.tmp 114)], (some (107, true)), 2047⟩,
    ⟨(some 116), .pick (.tmp 107) (.tmp 115) (.const (.bool false)), (some (105, false)), 4095⟩,
    ⟨(some 117), .pick (.tmp 105) (.const (.bool true)) (.tmp 116), none, 8191⟩,
    ⟨(some 14), .move (.tmp 117), none, 16383⟩] true)))) (.ops [⟨(some 93), .move (.tmp 15), none, 0⟩,
    ⟨(some 94), .bin .add (.tmp 93) (.const (.int .i64 1)), none, 0⟩,
    ⟨(some 15), .move (.tmp 94), none, 0⟩] false))
def c56_2 : PC := .seq (.seq (.ops [⟨(some 55), .move (.tmp 13), none, 0⟩,
    ⟨(some 56), .move (.tmp 2), none, 0⟩,
    ⟨(some 57), .len (.tmp 56), none, 0⟩,
    ⟨(some 58), .bin .lss (.tmp 55) (.tmp 57), none, 0⟩] false) (.cond (.tmp 58) (.skip) (.exit 3))) (.seq (.block 4 (.seq (.seq (.ops [⟨(some 61), .loadA 2 (.tmp 6), none, 0⟩,
    ⟨(some 62), .move (.tmp 2), none, 0⟩,
    ⟨(some 63), .move (.tmp 13), none, 0⟩,
    ⟨(some 64), .iaddr 1 (.tmp 62) (.tmp 63), none, 6⟩,
    ⟨(some 65), .load1 (.tmp 64), none, 14⟩,
    ⟨(some 66), .faddr 2 (.tmp 5), none, 0⟩,
    ⟨(some 67), .load1 (.tmp 66), none, 32⟩,
    ⟨(some 68), .call 59 [(.tmp 61), (.tmp 65), (.tmp 67)], none, 127⟩,
    ⟨(some 69), .un .not (.tmp 68), none, 255⟩,
    ⟨(some 70), .move (.tmp 69), none, 511⟩,
    ⟨(some 71), .move (.tmp 3), (some (70, false)), 1023⟩,
    ⟨(some 72), .move (.tmp 71), (some (70, false)), 2047⟩,
    ⟨(some 73), .move (.tmp 2), (some (72, true)), 4095⟩,
    ⟨(some 74), .move (.tmp 13), (some (72, true)), 4095⟩,
    ⟨(some 75), .iaddr 1 (.tmp 73) (.tmp 74), (some (72, true)), 16383⟩,
    ⟨(some 76), .load1 (.tmp 75), (some (72, true)), 32767⟩,
    ⟨(some 77), .move (.tmp 2), (some (72, true)), 4095⟩,
    ⟨(some 78), .iaddr 1 (.tmp 77) (.const (.int .i64 0)), (some (72, true)), 69631⟩,
    ⟨(some 79), .load1 (.tmp 78), (some (72, true)), 200703⟩,
    ⟨(some 80), .move (.tmp 4), (some (72, true)), 4095⟩,
    ⟨(some 81), .bin .add (.tmp 79) (.tmp 80), (some (72, true)), 987135⟩,
    ⟨(some 82), .faddr 1 (.tmp 6), (some (72, true)), 4095⟩,
    ⟨(some 83), .load1 (.tmp 82), (some (72, true)), 2101247⟩,
    ⟨(some 84), .len (.tmp 83), (some (72, true)), 6295551⟩,
    ⟨(some 85), .bin .add (.tmp 81) (.tmp 84), (some (72, true)), 16715775⟩,
    ⟨(some 86), .bin .geq (.tmp 76) (.tmp 85), (some (72, true)), 33554431⟩,
    ⟨(some 87), .pick (.tmp 72) (.tmp 86) (.const (.bool false)), (some (70, false)), 67108863⟩,
    ⟨(some 88), .pick (.tmp 70) (.const (.bool true)) (.tmp 87), none, 134217727⟩] true) (.cond (.tmp 88) (.exit 4) (.skip))) (.seq (.ops [⟨(some 14), .move (.const (.bool false)), none, 0⟩] false) (.seq (.seq (.ops [⟨(some 15), .move (.const (.int .i64 0)), none, 0⟩] false) (.block 5 (.loop c56_3))) (.seq (.ops [⟨(some 118), .move (.tmp 14), none, 0⟩,
    ⟨(some 119), .un .not (.tmp 118), none, 0⟩] false) (.cond (.tmp 119) (.seq (.ops [⟨(some 10), .move (.const (.bool false)), none, 0⟩] false) (.ret)) (.skip))))))) (.ops [⟨(some 59), .move (.tmp 13), none, 0⟩,
    ⟨(some 60), .bin .add (.tmp 59) (.const (.int .i64 1)), none, 0⟩,
    ⟨(some 13), .move (.tmp 60), none, 0⟩] false))
def c56 : PC := .seq (.ops [⟨(some 5), .box (.tmp 0), none, 0⟩,
    ⟨(some 6), .box (.tmp 1), none, 0⟩,
    ⟨(some 10), .move (.const (.bool false)), none, 0⟩] false) (.seq (.ops [⟨(some 11), .move (.const (.int .i64 0)), none, 0⟩] false) (.seq (.seq (.ops [⟨(some 12), .move (.const (.int .i64 0)), none, 0⟩] false) (.block 0 (.loop c56_1))) (.seq (.seq (.ops [⟨(some 33), .faddr 0 (.tmp 5), none, 0⟩,
    ⟨(some 34), .load1 (.tmp 33), none, 0⟩] false) (.block 2 (.seq (.ops [⟨(some 36), .bin .eql (.tmp 34) (.const (.int .i64 1)), none, 0⟩,
    ⟨(some 35), .move (.tmp 36), none, 0⟩] false) (.cond (.tmp 35) (.seq (.ops [⟨(some 37), .move (.tmp 11), none, 0⟩,
    ⟨(some 38), .bin .eql (.tmp 37) (.const (.int .i64 0)), none, 0⟩,
    ⟨(some 10), .move (.tmp 38), none, 0⟩] false) (.ret)) (.seq (.ops [⟨(some 40), .bin .eql (.tmp 34) (.const (.int .i64 2)), none, 0⟩,
    ⟨(some 39), .move (.tmp 40), none, 0⟩] false) (.cond (.tmp 39) (.seq (.ops [⟨(some 41), .move (.tmp 11), none, 0⟩,
    ⟨(some 42), .move (.tmp 2), none, 0⟩,
    ⟨(some 43), .len (.tmp 42), none, 0⟩,
    ⟨(some 44), .bin .eql (.tmp 41) (.tmp 43), none, 0⟩,
    ⟨(some 10), .move (.tmp 44), none, 0⟩] false) (.ret)) (.seq (.ops [⟨(some 46), .bin .eql (.tmp 34) (.const (.int .i64 3)), none, 0⟩,
    ⟨(some 45), .move (.tmp 46), none, 0⟩] false) (.cond (.tmp 45) (.seq (.ops [⟨(some 47), .move (.tmp 11), none, 0⟩,
    ⟨(some 48), .bin .gtr (.tmp 47) (.const (.int .i64 0)), none, 0⟩,
    ⟨(some 10), .move (.tmp 48), none, 0⟩] false) (.ret)) (.seq (.ops [⟨(some 50), .bin .eql (.tmp 34) (.const (.int .i64 4)), none, 0⟩,
    ⟨(some 49), .move (.tmp 50), none, 0⟩] false) (.cond (.tmp 49) (.seq (.ops [⟨(some 51), .move (.tmp 11), none, 0⟩,
    ⟨(some 52), .faddr 6 (.tmp 5), none, 0⟩,
    ⟨(some 53), .load1 (.tmp 52), none, 0⟩,
    ⟨(some 54), .bin .leq (.tmp 51) (.tmp 53), none, 0⟩,
    ⟨(some 10), .move (.tmp 54), none, 0⟩] false) (.ret)) (.skip))))))))))) (.seq (.seq (.ops [⟨(some 13), .move (.const (.int .i64 0)), none, 0⟩] false) (.block 3 (.loop c56_2))) (.seq (.ops [⟨(some 10), .move (.const (.bool true)), none, 0⟩] false) (.ret))))))
set_option maxRecDepth 100000 in
theorem c56_ok : FunOK Try.prog 56 120 [.tmp 10] c56 := ⟨⟨Try.f56, Try.func56, rfl, by kernel_rfl, rfl, by kernel_rfl⟩⟩
set_option maxRecDepth 100000 in
theorem ref_keepsTo (x : Pat) (s l : List Int) (h : PW x s l) (a c : Nat) (hac : a + c ≤ 1000) (endless : Bool) : PCall Try.prog 56 [dpat x, dword s l, dints (rngL a c), .sc (.bool endless), .sc (.int .i64 ((s.length + l.length : Nat) : Int))]
    (.sc (.bool (keptR x.kind x.count (hasP s l x.p) (hasP s l x.s) (s.length + l.length + l.length) a (a + c) endless))) := by
  obtain ⟨⟨k1, k2⟩, ⟨k3, k4⟩, ⟨k5, k6⟩, ⟨k7, k8⟩, ⟨k9, k10⟩, ⟨k11, k12⟩, k13, k14⟩ := h.nums
  have hl := h.lens
  have hP : ∀ j : Nat, j ≤ 1000 → PCall Try.prog 59 [dword s l, .sc (.int .i64 j), .sc (.int .i64 x.p)] (.sc (.bool (hasP s l x.p j))) := fun j hj => ref_Has s l hl.2 hl.1 j hj x.p k5
  have hS : ∀ j : Nat, j ≤ 1000 → PCall Try.prog 59 [dword s l, .sc (.int .i64 j), .sc (.int .i64 x.s)] (.sc (.bool (hasP s l x.s j))) := fun j hj => ref_Has s l hl.2 hl.1 j hj x.s k7
  refine pcall_intro c56_ok (by simp) (by simp [PureL, Pure, pure_dpat, pure_dword, pure_dints]) ?_ (by simp [Pure])
  unfold keptR
  rw [latR_eq, show a + c - a = c by omega]
  generalize hasP s l x.p = P at *
  generalize hasP s l x.s = S at *
  unfold dpat patCells at *
  (apply rd_sound; focus (repeat' constructor))
  ((conv=>whnf);repeat(refine And.intro rfl ?_;(conv=>whnf)))
  have e00 : D.sc (.int .i64 0) = D.sc (.int .i64 ((cnt P a (a + 0) : Nat) : Int)) := by rw [show cnt P a (a + 0) = 0 from cnt_self P a]; rfl
  refine pwp_for [2, 3, 4, 5, 6] (fun k : Nat => [(11, .sc (.int .i64 ((cnt P a (a + k) : Nat) : Int))), (12, .sc (.int .i64 k))]) (fun _ => []) (fun k => k ≤ c) (fun k => c - k) 0 ?_
  ((conv=>whnf);repeat(refine And.intro rfl ?_;(conv=>whnf)))
  refine ⟨by omega, ⟨e00, by (repeat' (first | exact trivial | refine And.intro rfl ?_))⟩, rfl, ?_⟩
  rintro k hk
  have hcb := cntF_le P a (a + k - a)
  change cnt P a (a + k) ≤ a + k - a at hcb
  have e4 := cnt_succ (p := P) (show a ≤ a + k by omega)
  rw [Nat.add_assoc] at e4
  ((conv=>whnf);repeat(refine And.intro rfl ?_;(conv=>whnf)))
  (apply rd_sound; focus (repeat' constructor))
  ((conv=>whnf);repeat(refine And.intro rfl ?_;(conv=>whnf)))
  rw [List.length_map, rngL_len]
  (refine ifK_split (fun q0 => ?_) (fun q0 => ?_) <;> (rw [q0]; ((conv=>whnf);repeat(refine And.intro rfl ?_;(conv=>whnf)))))
  · have q0 : k < c := by ((try simp only [oo, reduceCtorEq] at *) <;> omega)
    refine ⟨by omega, _, rngD_at k (by omega) q0, ?_⟩
    ((conv=>whnf);repeat(refine And.intro rfl ?_;(conv=>whnf)))
    (refine .inl ⟨_, (hP (a + k) (by omega)), ?_⟩; ((conv=>whnf);repeat(refine And.intro rfl ?_;(conv=>whnf))))
    cases p : P (a + k)
    · rw [p, if_neg (by decide), Nat.add_zero] at e4
      have e11 : D.sc (.int .i64 ((cnt P a (a + k) : Nat) : Int)) = D.sc (.int .i64 ((cnt P a (a + (k + 1)) : Nat) : Int)) := by rw [e4]; rfl
      ((conv=>whnf);repeat(refine And.intro rfl ?_;(conv=>whnf)))
      (refine .inl ⟨by (unfold InR; rw [IntKind.wrap_i64]; omega), ?_⟩; ((conv=>whnf);repeat(refine And.intro rfl ?_;(conv=>whnf))))
      exact ⟨k + 1, by omega, by dsimp only; omega, leB_envH ⟨e11, by (repeat' (first | exact trivial | refine And.intro rfl ?_))⟩ rfl⟩
    · rw [p, if_pos rfl] at e4
      have e11 : D.sc (.int .i64 (((cnt P a (a + k) : Nat) : Int) + 1)) = D.sc (.int .i64 ((cnt P a (a + (k + 1)) : Nat) : Int)) := by rw [e4]; rfl
      ((conv=>whnf);repeat(refine And.intro rfl ?_;(conv=>whnf)))
      (refine .inl ⟨by (unfold InR; rw [IntKind.wrap_i64]; omega), ?_⟩; ((conv=>whnf);repeat(refine And.intro rfl ?_;(conv=>whnf))))
      (refine .inl ⟨by (unfold InR; rw [IntKind.wrap_i64]; omega), ?_⟩; ((conv=>whnf);repeat(refine And.intro rfl ?_;(conv=>whnf))))
      exact ⟨k + 1, by omega, by dsimp only; omega, leB_envH ⟨e11, by (repeat' (first | exact trivial | refine And.intro rfl ?_))⟩ rfl⟩
  · have q0 : k = c := by have : ¬ k < c := by ((try simp only [oo, reduceCtorEq] at *) <;> omega)
                          omega
    subst q0
    (refine ifK_split (fun r1 => ?_) (fun r1 => ?_) <;> (rw [r1]; ((conv=>whnf);repeat(refine And.intro rfl ?_;(conv=>whnf)))))
    · have r1 : x.kind = 1 := by ((try simp only [oo, reduceCtorEq] at *) <;> omega)
      rw [if_pos r1]
      refine deep_eq ?_
      congr 2
      rw [Bool.eq_iff_iff]
      simp
    have r1 : ¬ x.kind = 1 := by ((try simp only [oo, reduceCtorEq] at *) <;> omega)
    rw [if_neg r1]
    (refine ifK_split (fun r2 => ?_) (fun r2 => ?_) <;> (rw [r2]; ((conv=>whnf);repeat(refine And.intro rfl ?_;(conv=>whnf)))))
    · have r2 : x.kind = 2 := by ((try simp only [oo, reduceCtorEq] at *) <;> omega)
      rw [if_pos r2, List.length_map, rngL_len]
      refine deep_eq ?_
      congr 2
      rw [Bool.eq_iff_iff, beq_iff_eq, decide_eq_true_eq]
      omega
    have r2 : ¬ x.kind = 2 := by ((try simp only [oo, reduceCtorEq] at *) <;> omega)
    rw [if_neg r2]
    (refine ifK_split (fun r3 => ?_) (fun r3 => ?_) <;> (rw [r3]; ((conv=>whnf);repeat(refine And.intro rfl ?_;(conv=>whnf)))))
    · have r3 : x.kind = 3 := by ((try simp only [oo, reduceCtorEq] at *) <;> omega)
      rw [if_pos r3]
      refine deep_eq ?_
      congr 2
      rw [Bool.eq_iff_iff, decide_eq_true_eq, decide_eq_true_eq]
      omega
    have r3 : ¬ x.kind = 3 := by ((try simp only [oo, reduceCtorEq] at *) <;> omega)
    rw [if_neg r3]
    (refine ifK_split (fun r4 => ?_) (fun r4 => ?_) <;> (rw [r4]; ((conv=>whnf);repeat(refine And.intro rfl ?_;(conv=>whnf)))))
    · have r4 : x.kind = 4 := by ((try simp only [oo, reduceCtorEq] at *) <;> omega)
      rw [if_pos r4]
      exact .refl _
    have r4 : ¬ x.kind = 4 := by ((try simp only [oo, reduceCtorEq] at *) <;> omega)
    rw [if_neg r4]
    refine pwp_for [2, 3, 4, 5, 6] (fun d : Nat => [(13, .sc (.int .i64 d))]) (fun _ => []) (fun d => d ≤ k ∧ latR x.kind P S (s.length + l.length + l.length) a k endless d = true) (fun d => k - d) 0 ?_
    ((conv=>whnf);repeat(refine And.intro rfl ?_;(conv=>whnf)))
    refine ⟨⟨by omega, by simp [latR]⟩, by (repeat' (first | exact trivial | refine And.intro rfl ?_)), rfl, ?_⟩
    rintro d ⟨hd, hlt⟩
    have eL := latR_succ x.kind P S (s.length + l.length + l.length) a k endless d
    rw [hlt, Bool.true_and] at eL
    ((conv=>whnf);repeat(refine And.intro rfl ?_;(conv=>whnf)))
    (apply rd_sound; focus (repeat' constructor))
    ((conv=>whnf);repeat(refine And.intro rfl ?_;(conv=>whnf)))
    rw [List.length_map, rngL_len]
    (refine ifK_split (fun q0 => ?_) (fun q0 => ?_) <;> (rw [q0]; ((conv=>whnf);repeat(refine And.intro rfl ?_;(conv=>whnf)))))
    · have q0 : d < k := by ((try simp only [oo, reduceCtorEq] at *) <;> omega)
      refine ⟨by omega, _, rngD_at d (by omega) q0, ?_⟩
      ((conv=>whnf);repeat(refine And.intro rfl ?_;(conv=>whnf)))
      (refine .inl ⟨_, (hP (a + d) (by omega)), ?_⟩; ((conv=>whnf);repeat(refine And.intro rfl ?_;(conv=>whnf))))
      cases p : P (a + d)
      · rw [p] at eL
        ((conv=>whnf);repeat(refine And.intro rfl ?_;(conv=>whnf)))
        (refine .inl ⟨by (unfold InR; rw [IntKind.wrap_i64]; omega), ?_⟩; ((conv=>whnf);repeat(refine And.intro rfl ?_;(conv=>whnf))))
        exact ⟨d + 1, ⟨by omega, by rw [eL]; rfl⟩, by dsimp only; omega, leB_envH (by (repeat' (first | exact trivial | refine And.intro rfl ?_))) rfl⟩
      · rw [p] at eL
        ((conv=>whnf);repeat(refine And.intro rfl ?_;(conv=>whnf)))
        cases endless
        · rw [Bool.false_and, Bool.or_false, Bool.not_true, Bool.false_or] at eL
          ((conv=>whnf);repeat(refine And.intro rfl ?_;(conv=>whnf)))
          refine pwp_for [2, 3, 4, 5, 6, 13] (fun ((j, o) : Nat × Bool) => [(14, .sc (.bool o)), (15, .sc (.int .i64 j))]) (fun _ => []) (fun (j, o) => j ≤ k ∧ o = okJ x.kind S a d j) (fun (j, o) => k - j) (0, false) ?_
          ((conv=>whnf);repeat(refine And.intro rfl ?_;(conv=>whnf)))
          refine ⟨⟨by omega, by simp [okJ]⟩, by (repeat' (first | exact trivial | refine And.intro rfl ?_)), rfl, ?_⟩
          rintro ⟨j, o⟩ ⟨hj, ho⟩
          have eJ := okJ_succ x.kind S a d j
          rw [← ho] at eJ
          ((conv=>whnf);repeat(refine And.intro rfl ?_;(conv=>whnf)))
          (apply rd_sound; focus (repeat' constructor))
          ((conv=>whnf);repeat(refine And.intro rfl ?_;(conv=>whnf)))
          rw [List.length_map, rngL_len]
          (refine ifK_split (fun j0 => ?_) (fun j0 => ?_) <;> (rw [j0]; ((conv=>whnf);repeat(refine And.intro rfl ?_;(conv=>whnf)))))
          · have j0 : j < k := by ((try simp only [oo, reduceCtorEq] at *) <;> omega)
            (refine ifK_split (fun j1 => ?_) (fun j1 => ?_) <;> (rw [j1]; ((conv=>whnf);repeat(refine And.intro rfl ?_;(conv=>whnf)))))
            · have j1 : x.kind = 6 := by ((try simp only [oo, reduceCtorEq] at *) <;> omega)
              rw [if_pos j1] at eJ
              cases o
              · ((conv=>whnf);repeat(refine And.intro rfl ?_;(conv=>whnf)))
                (refine ifK_split (fun j2 => ?_) (fun j2 => ?_) <;> (rw [j2]; ((conv=>whnf);repeat(refine And.intro rfl ?_;(conv=>whnf)))))
                · have j2 : d ≤ j := by ((try simp only [oo, reduceCtorEq] at *) <;> omega)
                  refine ⟨by omega, _, rngD_at j (by omega) j0, ?_⟩
                  ((conv=>whnf);repeat(refine And.intro rfl ?_;(conv=>whnf)))
                  (refine .inl ⟨_, (hS (a + j) (by omega)), ?_⟩; ((conv=>whnf);repeat(refine And.intro rfl ?_;(conv=>whnf))))
                  (refine .inl ⟨by (unfold InR; rw [IntKind.wrap_i64]; omega), ?_⟩; ((conv=>whnf);repeat(refine And.intro rfl ?_;(conv=>whnf))))
                  exact ⟨(j + 1, S (a + j)), ⟨by omega, by rw [eJ, decide_eq_true j2]; rfl⟩, by dsimp only; omega, leB_envH (by (repeat' (first | exact trivial | refine And.intro rfl ?_))) rfl⟩
                · have j2 : ¬ d ≤ j := by ((try simp only [oo, reduceCtorEq] at *) <;> omega)
                  (refine .inl ⟨by (unfold InR; rw [IntKind.wrap_i64]; omega), ?_⟩; ((conv=>whnf);repeat(refine And.intro rfl ?_;(conv=>whnf))))
                  exact ⟨(j + 1, false), ⟨by omega, by rw [eJ, decide_eq_false j2]; rfl⟩, by dsimp only; omega, leB_envH (by (repeat' (first | exact trivial | refine And.intro rfl ?_))) rfl⟩
              · ((conv=>whnf);repeat(refine And.intro rfl ?_;(conv=>whnf)))
                (refine .inl ⟨by (unfold InR; rw [IntKind.wrap_i64]; omega), ?_⟩; ((conv=>whnf);repeat(refine And.intro rfl ?_;(conv=>whnf))))
                exact ⟨(j + 1, true), ⟨by omega, by rw [eJ]; rfl⟩, by dsimp only; omega, leB_envH (by (repeat' (first | exact trivial | refine And.intro rfl ?_))) rfl⟩
            · have j1 : ¬ x.kind = 6 := by ((try simp only [oo, reduceCtorEq] at *) <;> omega)
              rw [if_neg j1] at eJ
              cases o
              · ((conv=>whnf);repeat(refine And.intro rfl ?_;(conv=>whnf)))
                (refine ifK_split (fun j2 => ?_) (fun j2 => ?_) <;> (rw [j2]; ((conv=>whnf);repeat(refine And.intro rfl ?_;(conv=>whnf)))))
                · have j2 : j ≤ d := by ((try simp only [oo, reduceCtorEq] at *) <;> omega)
                  refine ⟨by omega, _, rngD_at j (by omega) j0, ?_⟩
                  ((conv=>whnf);repeat(refine And.intro rfl ?_;(conv=>whnf)))
                  (refine .inl ⟨_, (hS (a + j) (by omega)), ?_⟩; ((conv=>whnf);repeat(refine And.intro rfl ?_;(conv=>whnf))))
                  (refine .inl ⟨by (unfold InR; rw [IntKind.wrap_i64]; omega), ?_⟩; ((conv=>whnf);repeat(refine And.intro rfl ?_;(conv=>whnf))))
                  exact ⟨(j + 1, S (a + j)), ⟨by omega, by rw [eJ, decide_eq_true j2]; rfl⟩, by dsimp only; omega, leB_envH (by (repeat' (first | exact trivial | refine And.intro rfl ?_))) rfl⟩
                · have j2 : ¬ j ≤ d := by ((try simp only [oo, reduceCtorEq] at *) <;> omega)
                  (refine .inl ⟨by (unfold InR; rw [IntKind.wrap_i64]; omega), ?_⟩; ((conv=>whnf);repeat(refine And.intro rfl ?_;(conv=>whnf))))
                  exact ⟨(j + 1, false), ⟨by omega, by rw [eJ, decide_eq_false j2]; rfl⟩, by dsimp only; omega, leB_envH (by (repeat' (first | exact trivial | refine And.intro rfl ?_))) rfl⟩
              · ((conv=>whnf);repeat(refine And.intro rfl ?_;(conv=>whnf)))
                (refine .inl ⟨by (unfold InR; rw [IntKind.wrap_i64]; omega), ?_⟩; ((conv=>whnf);repeat(refine And.intro rfl ?_;(conv=>whnf))))
                exact ⟨(j + 1, true), ⟨by omega, by rw [eJ]; rfl⟩, by dsimp only; omega, leB_envH (by (repeat' (first | exact trivial | refine And.intro rfl ?_))) rfl⟩
          · have j0 : j = k := by have : ¬ j < k := by ((try simp only [oo, reduceCtorEq] at *) <;> omega)
                                  omega
            subst j0
            rw [← ho] at eL
            cases o
            · ((conv=>whnf);repeat(refine And.intro rfl ?_;(conv=>whnf)))
              refine deep_eq ?_
              rw [latR_false (show d + 1 ≤ j by omega) eL]
            · ((conv=>whnf);repeat(refine And.intro rfl ?_;(conv=>whnf)))
              (refine .inl ⟨by (unfold InR; rw [IntKind.wrap_i64]; omega), ?_⟩; ((conv=>whnf);repeat(refine And.intro rfl ?_;(conv=>whnf))))
              exact ⟨d + 1, ⟨by omega, eL⟩, by dsimp only; omega, leB_envH (by (repeat' (first | exact trivial | refine And.intro rfl ?_))) rfl⟩
        · ((conv=>whnf);repeat(refine And.intro rfl ?_;(conv=>whnf)))
          refine ⟨by omega, _, rngD_at d (by omega) q0, ?_⟩
          ((conv=>whnf);repeat(refine And.intro rfl ?_;(conv=>whnf)))
          refine ⟨by omega, _, rngD_at 0 rfl (by omega), ?_⟩
          ((conv=>whnf);repeat(refine And.intro rfl ?_;(conv=>whnf)))
          (refine .inl ⟨by (unfold InR; rw [IntKind.wrap_i64]; omega), ?_⟩; ((conv=>whnf);repeat(refine And.intro rfl ?_;(conv=>whnf))))
          rw [List.length_map]
          (refine .inl ⟨by (unfold InR; rw [IntKind.wrap_i64]; omega), ?_⟩; ((conv=>whnf);repeat(refine And.intro rfl ?_;(conv=>whnf))))
          (refine ifK_split (fun q9 => ?_) (fun q9 => ?_) <;> (rw [q9]; ((conv=>whnf);repeat(refine And.intro rfl ?_;(conv=>whnf)))))
          · have q9 : s.length + l.length + l.length ≤ d := by ((try simp only [oo, reduceCtorEq] at *) <;> omega)
            rw [decide_eq_true q9] at eL
            (refine .inl ⟨by (unfold InR; rw [IntKind.wrap_i64]; omega), ?_⟩; ((conv=>whnf);repeat(refine And.intro rfl ?_;(conv=>whnf))))
            exact ⟨d + 1, ⟨by omega, by rw [eL]; rfl⟩, by dsimp only; omega, leB_envH (by (repeat' (first | exact trivial | refine And.intro rfl ?_))) rfl⟩
          · have q9 : ¬ s.length + l.length + l.length ≤ d := by ((try simp only [oo, reduceCtorEq] at *) <;> omega)
            rw [decide_eq_false q9, Bool.and_false, Bool.or_false, Bool.not_true, Bool.false_or] at eL
            refine pwp_for [2, 3, 4, 5, 6, 13] (fun ((j, o) : Nat × Bool) => [(14, .sc (.bool o)), (15, .sc (.int .i64 j))]) (fun _ => []) (fun (j, o) => j ≤ k ∧ o = okJ x.kind S a d j) (fun (j, o) => k - j) (0, false) ?_
            ((conv=>whnf);repeat(refine And.intro rfl ?_;(conv=>whnf)))
            refine ⟨⟨by omega, by simp [okJ]⟩, by (repeat' (first | exact trivial | refine And.intro rfl ?_)), rfl, ?_⟩
            rintro ⟨j, o⟩ ⟨hj, ho⟩
            have eJ := okJ_succ x.kind S a d j
            rw [← ho] at eJ
            ((conv=>whnf);repeat(refine And.intro rfl ?_;(conv=>whnf)))
            (apply rd_sound; focus (repeat' constructor))
            ((conv=>whnf);repeat(refine And.intro rfl ?_;(conv=>whnf)))
            rw [List.length_map, rngL_len]
            (refine ifK_split (fun j0 => ?_) (fun j0 => ?_) <;> (rw [j0]; ((conv=>whnf);repeat(refine And.intro rfl ?_;(conv=>whnf)))))
            · have j0 : j < k := by ((try simp only [oo, reduceCtorEq] at *) <;> omega)
              (refine ifK_split (fun j1 => ?_) (fun j1 => ?_) <;> (rw [j1]; ((conv=>whnf);repeat(refine And.intro rfl ?_;(conv=>whnf)))))
              · have j1 : x.kind = 6 := by ((try simp only [oo, reduceCtorEq] at *) <;> omega)
                rw [if_pos j1] at eJ
                cases o
                · ((conv=>whnf);repeat(refine And.intro rfl ?_;(conv=>whnf)))
                  (refine ifK_split (fun j2 => ?_) (fun j2 => ?_) <;> (rw [j2]; ((conv=>whnf);repeat(refine And.intro rfl ?_;(conv=>whnf)))))
                  · have j2 : d ≤ j := by ((try simp only [oo, reduceCtorEq] at *) <;> omega)
                    refine ⟨by omega, _, rngD_at j (by omega) j0, ?_⟩
                    ((conv=>whnf);repeat(refine And.intro rfl ?_;(conv=>whnf)))
                    (refine .inl ⟨_, (hS (a + j) (by omega)), ?_⟩; ((conv=>whnf);repeat(refine And.intro rfl ?_;(conv=>whnf))))
                    (refine .inl ⟨by (unfold InR; rw [IntKind.wrap_i64]; omega), ?_⟩; ((conv=>whnf);repeat(refine And.intro rfl ?_;(conv=>whnf))))
                    exact ⟨(j + 1, S (a + j)), ⟨by omega, by rw [eJ, decide_eq_true j2]; rfl⟩, by dsimp only; omega, leB_envH (by (repeat' (first | exact trivial | refine And.intro rfl ?_))) rfl⟩
                  · have j2 : ¬ d ≤ j := by ((try simp only [oo, reduceCtorEq] at *) <;> omega)
                    (refine .inl ⟨by (unfold InR; rw [IntKind.wrap_i64]; omega), ?_⟩; ((conv=>whnf);repeat(refine And.intro rfl ?_;(conv=>whnf))))
                    exact ⟨(j + 1, false), ⟨by omega, by rw [eJ, decide_eq_false j2]; rfl⟩, by dsimp only; omega, leB_envH (by (repeat' (first | exact trivial | refine And.intro rfl ?_))) rfl⟩
                · ((conv=>whnf);repeat(refine And.intro rfl ?_;(conv=>whnf)))
                  (refine .inl ⟨by (unfold InR; rw [IntKind.wrap_i64]; omega), ?_⟩; ((conv=>whnf);repeat(refine And.intro rfl ?_;(conv=>whnf))))
                  exact ⟨(j + 1, true), ⟨by omega, by rw [eJ]; rfl⟩, by dsimp only; omega, leB_envH (by (repeat' (first | exact trivial | refine And.intro rfl ?_))) rfl⟩
              · have j1 : ¬ x.kind = 6 := by ((try simp only [oo, reduceCtorEq] at *) <;> omega)
                rw [if_neg j1] at eJ
                cases o
                · ((conv=>whnf);repeat(refine And.intro rfl ?_;(conv=>whnf)))
                  (refine ifK_split (fun j2 => ?_) (fun j2 => ?_) <;> (rw [j2]; ((conv=>whnf);repeat(refine And.intro rfl ?_;(conv=>whnf)))))
                  · have j2 : j ≤ d := by ((try simp only [oo, reduceCtorEq] at *) <;> omega)
                    refine ⟨by omega, _, rngD_at j (by omega) j0, ?_⟩
                    ((conv=>whnf);repeat(refine And.intro rfl ?_;(conv=>whnf)))
                    (refine .inl ⟨_, (hS (a + j) (by omega)), ?_⟩; ((conv=>whnf);repeat(refine And.intro rfl ?_;(conv=>whnf))))
                    (refine .inl ⟨by (unfold InR; rw [IntKind.wrap_i64]; omega), ?_⟩; ((conv=>whnf);repeat(refine And.intro rfl ?_;(conv=>whnf))))
                    exact ⟨(j + 1, S (a + j)), ⟨by omega, by rw [eJ, decide_eq_true j2]; rfl⟩, by dsimp only; omega, leB_envH (by (repeat' (first | exact trivial | refine And.intro rfl ?_))) rfl⟩
                  · have j2 : ¬ j ≤ d := by ((try simp only [oo, reduceCtorEq] at *) <;> omega)
                    (refine .inl ⟨by (unfold InR; rw [IntKind.wrap_i64]; omega), ?_⟩; ((conv=>whnf);repeat(refine And.intro rfl ?_;(conv=>whnf))))
                    exact ⟨(j + 1, false), ⟨by omega, by rw [eJ, decide_eq_false j2]; rfl⟩, by dsimp only; omega, leB_envH (by (repeat' (first | exact trivial | refine And.intro rfl ?_))) rfl⟩
                · ((conv=>whnf);repeat(refine And.intro rfl ?_;(conv=>whnf)))
                  (refine .inl ⟨by (unfold InR; rw [IntKind.wrap_i64]; omega), ?_⟩; ((conv=>whnf);repeat(refine And.intro rfl ?_;(conv=>whnf))))
                  exact ⟨(j + 1, true), ⟨by omega, by rw [eJ]; rfl⟩, by dsimp only; omega, leB_envH (by (repeat' (first | exact trivial | refine And.intro rfl ?_))) rfl⟩
            · have j0 : j = k := by have : ¬ j < k := by ((try simp only [oo, reduceCtorEq] at *) <;> omega)
                                    omega
              subst j0
              rw [← ho] at eL
              cases o
              · ((conv=>whnf);repeat(refine And.intro rfl ?_;(conv=>whnf)))
                refine deep_eq ?_
                rw [latR_false (show d + 1 ≤ j by omega) eL]
              · ((conv=>whnf);repeat(refine And.intro rfl ?_;(conv=>whnf)))
                (refine .inl ⟨by (unfold InR; rw [IntKind.wrap_i64]; omega), ?_⟩; ((conv=>whnf);repeat(refine And.intro rfl ?_;(conv=>whnf))))
                exact ⟨d + 1, ⟨by omega, eL⟩, by dsimp only; omega, leB_envH (by (repeat' (first | exact trivial | refine And.intro rfl ?_))) rfl⟩
    · have q0 : d = k := by have : ¬ d < k := by ((try simp only [oo, reduceCtorEq] at *) <;> omega)
                            omega
      subst q0
      rw [hlt]
      exact .refl _
/-! ### Intervals -/
def n64 (l : List Int) : List (List D) := l.map fun n => [.sc (.int .i64 n)]
@[simp] theorem underLL_n64 {m : Nat} (l : List Int) : UnderLL m (n64 l) ↔ True := by simp [n64, UnderL, Under]
theorem n64_snoc {l : List Int} {c : Nat} {x : Int} (h : c = l.length) : List.drop 0 (List.take c (n64 l)) ++ [[D.sc (.int .i64 x)]] = n64 (l ++ [x]) := by
  rw [drop_take_all (by simp [h, n64])]
  simp [n64]
def c57 : PC := .seq (.ops [⟨(some 2), .move (.const (.bool false)), none, 0⟩] false) (.seq (.ops [⟨(some 2), .move (.const (.bool false)), none, 0⟩] false) (.ret))
set_option maxRecDepth 100000 in
theorem c57_ok : FunOK Try.prog 57 3 [.tmp 2] c57 := ⟨⟨Try.f57, Try.func57, rfl, by kernel_rfl, rfl, by kernel_rfl⟩⟩
theorem ref_never (i : Int) : PCall Try.prog 57 [.sc (.int .i64 i)] (.sc (.bool false)) := by
  refine pcall_intro c57_ok (by simp) (by simp [PureL, Pure]) ?_ (by simp [Pure])
  (apply rd_sound; focus (repeat' constructor))
  ((conv=>whnf);repeat(refine And.intro rfl ?_;(conv=>whnf)))
  exact .refl _
def c58 : PC := .seq (.ops [⟨(some 4), .move (.const (.bool false)), none, 0⟩] false) (.seq (.ops [⟨(some 5), .loadA 2 (.tmp 1), none, 0⟩,
    ⟨(some 6), .move (.tmp 0), none, 0⟩,
    ⟨(some 7), .faddr 5 (.tmp 2), none, 0⟩,
    ⟨(some 8), .load1 (.tmp 7), none, 0⟩,
    ⟨(some 9), .call 59 [(.tmp 5), (.tmp 6), (.tmp 8)], none, 0⟩,
    ⟨(some 4), .move (.tmp 9), none, 0⟩] false) (.ret))
set_option maxRecDepth 100000 in
theorem c58_ok : FunOK Try.prog 58 10 [.tmp 4] c58 := ⟨⟨Try.f58, Try.func58, rfl, by kernel_rfl, rfl, by kernel_rfl⟩⟩
theorem ref_before (x : Pat) (s l : List Int) (h : PW x s l) (i : Nat) (hi : i ≤ 1000) : PCall Try.prog 58 [.sc (.int .i64 i), .ipt (wcells s l), .ipt (patCells x)] (.sc (.bool (hasP s l x.r i))) := by
  have hl := h.lens
  have hR := ref_Has s l hl.2 hl.1 i hi x.r h.nums.2.2.2.2.2.1.1
  refine pcall_intro c58_ok (by simp) (by simp [PureL, Pure, patCells, wcells, pure_dlet']) ?_ (by simp [Pure])
  unfold patCells
  (apply rd_sound; focus (repeat' constructor))
  ((conv=>whnf);repeat(refine And.intro rfl ?_;(conv=>whnf)))
  (refine .inl ⟨_, hR, ?_⟩; ((conv=>whnf);repeat(refine And.intro rfl ?_;(conv=>whnf))))
  exact .refl _
def c60 : PC := .seq (.ops [⟨(some 5), .move (.const (.bool false)), none, 0⟩] false) (.seq (.ops [⟨(some 6), .move (.tmp 0), none, 0⟩,
    ⟨(some 7), .load1 (.tmp 1), none, 0⟩,
    ⟨(some 8), .bin .gtr (.tmp 6) (.tmp 7), none, 0⟩,
    ⟨(some 9), .move (.tmp 8), none, 0⟩,
    ⟨(some 10), .loadA 2 (.tmp 2), (some (9, true)), 0⟩,
    ⟨(some 11), .move (.tmp 0), (some (9, true)), 0⟩,
    ⟨(some 12), .faddr 5 (.tmp 3), (some (9, true)), 0⟩,
    ⟨(some 13), .load1 (.tmp 12), (some (9, true)), 0⟩,
    ⟨(some 14), .call 59 [(.tmp 10), (.tmp 11), (.tmp 13)], (some (9, true)), 0⟩,
    ⟨(some 15), .pick (.tmp 9) (.tmp 14) (.const (.bool false)), none, 0⟩,
    ⟨(some 5), .move (.tmp 15), none, 0⟩] false) (.ret))
set_option maxRecDepth 100000 in
theorem c60_ok : FunOK Try.prog 60 16 [.tmp 5] c60 := ⟨⟨Try.f60, Try.func60, rfl, by kernel_rfl, rfl, by kernel_rfl⟩⟩
theorem ref_next (x : Pat) (s l : List Int) (h : PW x s l) (a i : Nat) (hi : i ≤ 1000) : PCall Try.prog 60 [.sc (.int .i64 i), .ipt [.sc (.int .i64 a)], .ipt (wcells s l), .ipt (patCells x)] (.sc (.bool (tillT (hasP s l x.r) a i))) := by
  have hl := h.lens
  have hR := ref_Has s l hl.2 hl.1 i hi x.r h.nums.2.2.2.2.2.1.1
  refine pcall_intro c60_ok (by simp) (by simp [PureL, Pure, patCells, wcells, pure_dlet']) ?_ (by simp [Pure])
  unfold patCells tillT
  (apply rd_sound; focus (repeat' constructor))
  ((conv=>whnf);repeat(refine And.intro rfl ?_;(conv=>whnf)))
  (refine ifK_split (fun q => ?_) (fun q => ?_) <;> (rw [q]; ((conv=>whnf);repeat(refine And.intro rfl ?_;(conv=>whnf)))))
  · have q : a < i := by ((try simp only [oo, reduceCtorEq] at *) <;> omega)
    (refine .inl ⟨_, hR, ?_⟩; ((conv=>whnf);repeat(refine And.intro rfl ?_;(conv=>whnf))))
    rw [decide_eq_true q, Bool.true_and]
    exact .refl _
  · have q : ¬ a < i := by ((try simp only [oo, reduceCtorEq] at *) <;> omega)
    rw [decide_eq_false q, Bool.false_and]
    exact .refl _
def c55_1 : PC := .seq (.seq (.ops [⟨(some 14), .move (.tmp 12), none, 0⟩,
    ⟨(some 15), .load1 (.tmp 3), none, 0⟩,
    ⟨(some 16), .bin .lss (.tmp 14) (.tmp 15), none, 0⟩,
    ⟨(some 17), .move (.tmp 16), none, 0⟩,
    ⟨(some 18), .move (.tmp 1), (some (17, true)), 0⟩,
    ⟨(some 19), .move (.tmp 12), (some (17, true)), 0⟩,
    ⟨(some 20), .callv (.tmp 18) [(.tmp 19)], (some (17, true)), 0⟩,
    ⟨(some 21), .un .not (.tmp 20), (some (17, true)), 0⟩,
    ⟨(some 22), .pick (.tmp 17) (.tmp 21) (.const (.bool false)), none, 0⟩] false) (.cond (.tmp 22) (.skip) (.exit 0))) (.block 1 (.seq (.ops [⟨(some 23), .move (.tmp 11), none, 0⟩,
    ⟨(some 24), .move (.tmp 12), none, 0⟩,
    ⟨(some 25), .bslice 1 1 [(.tmp 24)], none, 0⟩,
    ⟨(some 26), .append 1 8 (.tmp 23) (.tmp 25), none, 0⟩,
    ⟨(some 11), .move (.tmp 26), none, 0⟩] false) (.ops [⟨(some 27), .move (.tmp 12), none, 0⟩,
    ⟨(some 28), .bin .add (.tmp 27) (.const (.int .i64 1)), none, 0⟩,
    ⟨(some 12), .move (.tmp 28), none, 0⟩] false)))
def c55 : PC := .seq (.ops [⟨(some 10), .move (.const (.bool false)), none, 0⟩] false) (.seq (.ops [⟨(some 11), .move (.const (.slice none 0 0)), none, 0⟩] false) (.seq (.ops [⟨(some 13), .move (.tmp 0), none, 0⟩,
    ⟨(some 12), .move (.tmp 13), none, 0⟩] false) (.seq (.block 0 (.loop c55_1)) (.seq (.seq (.ops [⟨(some 29), .move (.tmp 12), none, 0⟩,
    ⟨(some 30), .load1 (.tmp 3), none, 0⟩,
    ⟨(some 31), .bin .eql (.tmp 29) (.tmp 30), none, 0⟩,
    ⟨(some 32), .move (.tmp 31), none, 0⟩,
    ⟨(some 33), .move (.tmp 2), (some (32, true)), 0⟩,
    ⟨(some 34), .pick (.tmp 32) (.tmp 33) (.const (.bool false)), none, 0⟩] false) (.cond (.tmp 34) (.seq (.ops [⟨(some 10), .move (.const (.bool true)), none, 0⟩] false) (.ret)) (.skip))) (.seq (.ops [⟨(some 35), .loadA 7 (.tmp 4), none, 0⟩,
    ⟨(some 36), .loadA 2 (.tmp 5), none, 0⟩,
    ⟨(some 37), .move (.tmp 11), none, 0⟩,
    ⟨(some 38), .move (.tmp 12), none, 0⟩,
    ⟨(some 39), .load1 (.tmp 3), none, 0⟩,
    ⟨(some 40), .bin .eql (.tmp 38) (.tmp 39), none, 0⟩,
    ⟨(some 41), .load1 (.tmp 6), none, 0⟩,
    ⟨(some 42), .call 56 [(.tmp 35), (.tmp 36), (.tmp 37), (.tmp 40), (.tmp 41)], none, 0⟩,
    ⟨(some 10), .move (.tmp 42), none, 0⟩] false) (.ret))))))
set_option maxRecDepth 100000 in
theorem c55_ok : FunOK Try.prog 55 43 [.tmp 10] c55 := ⟨⟨Try.f55, Try.func55, rfl, by kernel_rfl, rfl, by kernel_rfl⟩⟩
set_option maxRecDepth 100000 in
theorem ref_interval (x : Pat) (s l : List Int) (h : PW x s l) (T : Nat → Bool) (cl : FuncId) (caps : List D) (hcaps : PureL caps) (hT : ∀ i : Nat, i ≤ 1000 → PCall Try.prog cl (.sc (.int .i64 i) :: caps) (.sc (.bool (T i)))) (a : Nat) (ha : a ≤ s.length + l.length) (must : Bool) :
    PCall Try.prog 55 [.sc (.int .i64 a), .fn (.func cl) [] caps, .sc (.bool must), .ipt [.sc (.int .i64 ((2 * (s.length + l.length) + 7 * l.length : Nat) : Int))], .ipt (patCells x), .ipt (wcells s l), .ipt [.sc (.int .i64 ((s.length + l.length : Nat) : Int))]]
      (.sc (.bool (intB x.kind x.count (hasP s l x.p) (hasP s l x.s) T s.length l.length a must))) := by
  have hl := h.lens
  have hK := fun c (hc : a + c ≤ 1000) e => ref_keepsTo x s l h a c hc e
  refine pcall_intro c55_ok (by simp) (by simp [PureL, Pure, patCells, wcells, pure_dlet', hcaps]) ?_ (by simp [Pure])
  unfold intB
  have hFr : 2 * (s.length + l.length) + 7 * l.length ≤ 540 := by omega
  generalize hf : 2 * (s.length + l.length) + 7 * l.length = far at *
  have haf : a ≤ far := by omega
  unfold dpat patCells at *
  (apply rd_sound; focus (repeat' constructor))
  ((conv=>whnf);repeat(refine And.intro rfl ?_;(conv=>whnf)))
  refine pwp_ghostB (leB_nil 11 1 (by simp) rfl) ?_
  refine pwp_for [1, 2, 3, 4, 5, 6] (fun k : Nat => [(11, .own 0 k 0 k), (12, .sc (.int .i64 ((a + k : Nat) : Int)))]) (fun k => [(0, .vec true k 1 (n64 (rngL a k)))]) (fun k => a + k ≤ far ∧ ∀ j, a ≤ j → j < a + k → T j = false) (fun k => far - a - k) 0 ?_
  ((conv=>whnf);repeat(refine And.intro rfl ?_;(conv=>whnf)))
  refine ⟨⟨by omega, fun j h1 h2 => by omega⟩, by (repeat' (first | exact trivial | refine And.intro rfl ?_)), rfl, ?_⟩
  rintro k ⟨hk, hno⟩
  ((conv=>whnf);repeat(refine And.intro rfl ?_;(conv=>whnf)))
  (apply rd_sound; focus (repeat' constructor))
  ((conv=>whnf);repeat(refine And.intro rfl ?_;(conv=>whnf)))
  have fin : (a + k < far → T (a + k) = true) → fst T far a = a + k := fun q => fst_eq (by omega) hk hno q
  have hdd : ∀ {H : List AObj}, DeepLL H (List.drop 0 (List.take k (n64 (rngL a k)))) (n64 (rngL a k)) := by rw [drop_take_all (by simp [n64])]; exact deepLL_refl _
  (refine ifK_split (fun q0 => ?_) (fun q0 => ?_) <;> (rw [q0]; ((conv=>whnf);repeat(refine And.intro rfl ?_;(conv=>whnf)))))
  · have q0 : a + k < far := by ((try simp only [oo, reduceCtorEq] at *) <;> omega)
    (refine .inl ⟨_, (hT (a + k) (by omega)), ?_⟩; ((conv=>whnf);repeat(refine And.intro rfl ?_;(conv=>whnf))))
    cases t : T (a + k)
    · ((conv=>whnf);repeat(refine And.intro rfl ?_;(conv=>whnf)))
      refine ⟨(by unfold sliceAppend; simp only [ll]; omega), ?_⟩
      ((conv=>whnf);repeat(refine And.intro rfl ?_;(conv=>whnf)))
      (refine .inl ⟨by (unfold InR; rw [IntKind.wrap_i64]; omega), ?_⟩; ((conv=>whnf);repeat(refine And.intro rfl ?_;(conv=>whnf))))
      refine ⟨k + 1, ⟨by omega, fun j h1 h2 => ?_⟩, by dsimp only; omega, ?_⟩
      · by_cases q : j = a + k
        · subst q; exact t
        · exact hno j h1 (by omega)
      · dsimp only
        rw [rngL_succ]
        (refine leB_close 1 (by simp) rfl ?_ ?_ <;> (repeat' (first | exact trivial | exact rfl | exact DeepM.refl _ | exact DeepML.refl _ | exact DeepMLL.refl _ | refine And.intro ?_ ?_ | (simp [Under, UnderL, UnderLL, -List.map_take, -List.map_drop]; done))))
        · exact underL_pure _ hcaps
        · exact deepMLL_eq (n64_snoc (rngL_len a k).symm)
    · have e1 := fin fun _ => t
      rw [e1, if_neg (fun q => by omega), decide_eq_false (show ¬ a + k = far by omega)]
      ((conv=>whnf);repeat(refine And.intro rfl ?_;(conv=>whnf)))
      have hb : (((a + k : Nat) : Int) == (far : Int)) = false := by rw [beq_eq_false_iff_ne]; omega
      rw [hb]
      ((conv=>whnf);repeat(refine And.intro rfl ?_;(conv=>whnf)))
      refine .inr (.inl ⟨_, _, .cons _ _ _ _ (.refl _) (.cons _ _ _ _ (.refl _) (.cons _ _ _ _ (.own _ _ _ _ _ _ _ _ rfl hdd) (.cons _ _ _ _ (.refl _) (.cons _ _ _ _ (.refl _) .nil)))), hK k (by omega) _, rfl, ?_⟩)
      ((conv=>whnf);repeat(refine And.intro rfl ?_;(conv=>whnf)))
      rw [hb]
      exact .refl _
  · have q0 : a + k = far := by have : ¬ a + k < far := by ((try simp only [oo, reduceCtorEq] at *) <;> omega)
                                omega
    have e1 := fin fun q => by omega
    have hb : (((a + k : Nat) : Int) == (far : Int)) = true := by rw [beq_iff_eq]; omega
    rw [e1, hb, decide_eq_true q0]
    ((conv=>whnf);repeat(refine And.intro rfl ?_;(conv=>whnf)))
    cases must
    · rw [if_neg (fun q => by cases q.2)]
      ((conv=>whnf);repeat(refine And.intro rfl ?_;(conv=>whnf)))
      rw [hb]
      refine .inr (.inl ⟨_, _, .cons _ _ _ _ (.refl _) (.cons _ _ _ _ (.refl _) (.cons _ _ _ _ (.own _ _ _ _ _ _ _ _ rfl hdd) (.cons _ _ _ _ (.refl _) (.cons _ _ _ _ (.refl _) .nil)))), hK k (by omega) _, rfl, ?_⟩)
      ((conv=>whnf);repeat(refine And.intro rfl ?_;(conv=>whnf)))
      exact .refl _
    · rw [if_pos ⟨q0, rfl⟩]
      ((conv=>whnf);repeat(refine And.intro rfl ?_;(conv=>whnf)))
      exact .refl _
def c25_1 : PC := .seq (.seq (.ops [⟨(some 43), .move (.tmp 10), none, 0⟩,
    ⟨(some 44), .load1 (.tmp 5), none, 0⟩,
    ⟨(some 45), .bin .lss (.tmp 43) (.tmp 44), none, 0⟩] false) (.cond (.tmp 45) (.skip) (.exit 1))) (.seq (.block 2 (.seq (.ops [⟨(some 48), .loadA 2 (.tmp 3), none, 0⟩,
    ⟨(some 49), .move (.tmp 10), none, 0⟩,
    ⟨(some 50), .faddr 4 (.tmp 2), none, 0⟩,
    ⟨(some 51), .load1 (.tmp 50), none, 0⟩,
    ⟨(some 52), .call 59 [(.tmp 48), (.tmp 49), (.tmp 51)], none, 0⟩] false) (.cond (.tmp 52) (.seq (.ops [⟨(some 53), .move (.tmp 8), none, 0⟩,
    ⟨(some 54), .move (.tmp 10), none, 0⟩,
    ⟨(some 55), .move (.tmp 9), none, 0⟩,
    ⟨(some 56), .callv (.tmp 53) [(.tmp 54), (.tmp 55), (.const (.bool false))], none, 0⟩,
    ⟨(some 4), .move (.tmp 56), none, 0⟩] false) (.ret)) (.skip)))) (.ops [⟨(some 46), .move (.tmp 10), none, 0⟩,
    ⟨(some 47), .bin .add (.tmp 46) (.const (.int .i64 1)), none, 0⟩,
    ⟨(some 10), .move (.tmp 47), none, 0⟩] false))
def c25_2 : PC := .seq (.seq (.ops [⟨(some 57), .move (.tmp 11), none, 0⟩,
    ⟨(some 58), .load1 (.tmp 5), none, 0⟩,
    ⟨(some 59), .bin .lss (.tmp 57) (.tmp 58), none, 0⟩] false) (.cond (.tmp 59) (.skip) (.exit 3))) (.seq (.block 4 (.seq (.ops [⟨(some 62), .move (.tmp 11), none, 0⟩,
    ⟨(some 12), .alloc [(.int .i64 0)], none, 0⟩,
    ⟨none, .store 1 (.tmp 12) (.tmp 62), none, 0⟩] false) (.seq (.ops [⟨(some 63), .loadA 2 (.tmp 3), none, 0⟩,
    ⟨(some 64), .move (.tmp 11), none, 0⟩,
    ⟨(some 65), .faddr 4 (.tmp 2), none, 0⟩,
    ⟨(some 66), .load1 (.tmp 65), none, 0⟩,
    ⟨(some 67), .call 59 [(.tmp 63), (.tmp 64), (.tmp 66)], none, 0⟩,
    ⟨(some 68), .move (.tmp 67), none, 0⟩,
    ⟨(some 69), .loadA 2 (.tmp 3), (some (68, true)), 0⟩,
    ⟨(some 70), .move (.tmp 11), (some (68, true)), 0⟩,
    ⟨(some 71), .faddr 5 (.tmp 2), (some (68, true)), 0⟩,
    ⟨(some 72), .load1 (.tmp 71), (some (68, true)), 0⟩,
    ⟨(some 73), .call 59 [(.tmp 69), (.tmp 70), (.tmp 72)], (some (68, true)), 0⟩,
    ⟨(some 74), .un .not (.tmp 73), (some (68, true)), 0⟩,
    ⟨(some 75), .pick (.tmp 68) (.tmp 74) (.const (.bool false)), none, 0⟩,
    ⟨(some 76), .move (.tmp 75), none, 0⟩,
    ⟨(some 77), .move (.tmp 8), (some (76, true)), 0⟩,
    ⟨(some 78), .load1 (.tmp 12), (some (76, true)), 0⟩,
    ⟨(some 79), .mkfn (.func 60) [] [(.tmp 12), (.tmp 3), (.tmp 2)], (some (76, true)), 0⟩,
    ⟨(some 80), .faddr 1 (.tmp 2), (some (76, true)), 0⟩,
    ⟨(some 81), .load1 (.tmp 80), (some (76, true)), 0⟩,
    ⟨(some 82), .bin .eql (.tmp 81) (.const (.int .i64 4)), (some (76, true)), 0⟩,
    ⟨(some 83), .callv (.tmp 77) [(.tmp 78), (.tmp 79), (.tmp 82)], (some (76, true)), 0⟩,
    ⟨(some 84), .un .not (.tmp 83), (some (76, true)), 0⟩,
    ⟨(some 85), .pick (.tmp 76) (.tmp 84) (.const (.bool false)), none, 0⟩] false) (.cond (.tmp 85) (.seq (.ops [⟨(some 4), .move (.const (.bool false)), none, 0⟩] false) (.ret)) (.skip))))) (.ops [⟨(some 60), .move (.tmp 11), none, 0⟩,
    ⟨(some 61), .bin .add (.tmp 60) (.const (.int .i64 1)), none, 0⟩,
    ⟨(some 11), .move (.tmp 61), none, 0⟩] false))
def c25 : PC := .seq (.ops [⟨(some 2), .box (.tmp 0), none, 0⟩,
    ⟨(some 3), .box (.tmp 1), none, 0⟩,
    ⟨(some 4), .move (.const (.bool false)), none, 0⟩] false) (.seq (.ops [⟨(some 13), .faddr 0 (.tmp 3), none, 0⟩,
    ⟨(some 14), .load1 (.tmp 13), none, 1⟩,
    ⟨(some 15), .len (.tmp 14), none, 3⟩,
    ⟨(some 16), .faddr 1 (.tmp 3), none, 0⟩,
    ⟨(some 17), .load1 (.tmp 16), none, 8⟩,
    ⟨(some 18), .len (.tmp 17), none, 24⟩,
    ⟨(some 19), .bin .add (.tmp 15) (.tmp 18), none, 63⟩,
    ⟨(some 20), .faddr 1 (.tmp 3), none, 0⟩,
    ⟨(some 21), .load1 (.tmp 20), none, 128⟩,
    ⟨(some 22), .len (.tmp 21), none, 384⟩,
    ⟨(some 5), .alloc [(.int .i64 0)], none, 0⟩,
    ⟨none, .store 1 (.tmp 5) (.tmp 19), none, 1151⟩,
    ⟨(some 6), .move (.tmp 22), none, 4095⟩] true) (.seq (.ops [⟨(some 23), .load1 (.tmp 5), none, 0⟩,
    ⟨(some 24), .bin .mul (.const (.int .i64 2)) (.tmp 23), none, 0⟩,
    ⟨(some 25), .move (.tmp 6), none, 0⟩,
    ⟨(some 26), .bin .mul (.const (.int .i64 7)) (.tmp 25), none, 0⟩,
    ⟨(some 27), .bin .add (.tmp 24) (.tmp 26), none, 0⟩,
    ⟨(some 7), .alloc [(.int .i64 0)], none, 0⟩,
    ⟨none, .store 1 (.tmp 7) (.tmp 27), none, 0⟩] false) (.seq (.ops [⟨(some 28), .mkfn (.func 55) [] [(.tmp 7), (.tmp 2), (.tmp 3), (.tmp 5)], none, 0⟩,
    ⟨(some 8), .move (.tmp 28), none, 0⟩] false) (.seq (.ops [⟨(some 9), .move (.func 57), none, 0⟩] false) (.seq (.seq (.ops [⟨(some 29), .faddr 1 (.tmp 2), none, 0⟩,
    ⟨(some 30), .load1 (.tmp 29), none, 0⟩] false) (.block 0 (.seq (.ops [⟨(some 32), .bin .eql (.tmp 30) (.const (.int .i64 1)), none, 0⟩,
    ⟨(some 31), .move (.tmp 32), none, 0⟩] false) (.cond (.tmp 31) (.seq (.ops [⟨(some 33), .move (.tmp 8), none, 0⟩,
    ⟨(some 34), .move (.tmp 9), none, 0⟩,
    ⟨(some 35), .callv (.tmp 33) [(.const (.int .i64 0)), (.tmp 34), (.const (.bool false))], none, 0⟩,
    ⟨(some 4), .move (.tmp 35), none, 0⟩] false) (.ret)) (.seq (.ops [⟨(some 37), .bin .eql (.tmp 30) (.const (.int .i64 2)), none, 0⟩,
    ⟨(some 36), .move (.tmp 37), none, 0⟩] false) (.cond (.tmp 36) (.seq (.ops [⟨(some 38), .move (.tmp 8), none, 0⟩,
    ⟨(some 39), .mkfn (.func 58) [] [(.tmp 3), (.tmp 2)], none, 0⟩,
    ⟨(some 40), .callv (.tmp 38) [(.const (.int .i64 0)), (.tmp 39), (.const (.bool true))], none, 0⟩,
    ⟨(some 4), .move (.tmp 40), none, 0⟩] false) (.ret)) (.seq (.ops [⟨(some 42), .bin .eql (.tmp 30) (.const (.int .i64 3)), none, 0⟩,
    ⟨(some 41), .move (.tmp 42), none, 0⟩] false) (.cond (.tmp 41) (.seq (.seq (.ops [⟨(some 10), .move (.const (.int .i64 0)), none, 0⟩] false) (.block 1 (.loop c25_1))) (.seq (.ops [⟨(some 4), .move (.const (.bool true)), none, 0⟩] false) (.ret))) (.skip))))))))) (.seq (.seq (.ops [⟨(some 11), .move (.const (.int .i64 0)), none, 0⟩] false) (.block 3 (.loop c25_2))) (.seq (.ops [⟨(some 4), .move (.const (.bool true)), none, 0⟩] false) (.ret))))))))
set_option maxRecDepth 100000 in
theorem c25_ok : FunOK Try.prog 25 86 [.tmp 4] c25 := ⟨⟨Try.f25, Try.func25, rfl, by kernel_rfl, rfl, by kernel_rfl⟩⟩
set_option maxRecDepth 100000 in
theorem ref_Keeps (x : Pat) (s l : List Int) (h : PW x s l) : PCall Try.prog 25 [dpat x, dword s l] (.sc (.bool (refKB x.scope x.kind x.count (hasP s l x.p) (hasP s l x.s) (hasP s l x.q) (hasP s l x.r) s.length l.length))) := by
  obtain ⟨⟨k1, k2⟩, ⟨k3, k4⟩, ⟨k5, k6⟩, ⟨k7, k8⟩, ⟨k9, k10⟩, ⟨k11, k12⟩, k13, k14⟩ := h.nums
  have hl := h.lens
  have hQ : ∀ j : Nat, j ≤ 1000 → PCall Try.prog 59 [dword s l, .sc (.int .i64 j), .sc (.int .i64 x.q)] (.sc (.bool (hasP s l x.q j))) := fun j hj => ref_Has s l hl.2 hl.1 j hj x.q k9
  have hR : ∀ j : Nat, j ≤ 1000 → PCall Try.prog 59 [dword s l, .sc (.int .i64 j), .sc (.int .i64 x.r)] (.sc (.bool (hasP s l x.r j))) := fun j hj => ref_Has s l hl.2 hl.1 j hj x.r k11
  have iN := fun a ha => ref_interval x s l h neverT 57 [] trivial (fun i _ => ref_never i) a ha false
  have iR := ref_interval x s l h (hasP s l x.r) 58 [.ipt (wcells s l), .ipt (patCells x)] (by simp [PureL, Pure, patCells, wcells, pure_dlet']) (fun i hi => ref_before x s l h i hi) 0 (by omega) true
  have iT := fun a ha b => ref_interval x s l h (tillT (hasP s l x.r) a) 60 [.ipt [.sc (.int .i64 a)], .ipt (wcells s l), .ipt (patCells x)] (by simp [PureL, Pure, patCells, wcells, pure_dlet']) (fun i hi => ref_next x s l h a i hi) a ha b
  refine pcall_intro c25_ok (by simp) (by simp [PureL, Pure, pure_dpat, pure_dword]) ?_ (by simp [Pure])
  unfold refKB
  generalize hasP s l x.p = P at *
  generalize hasP s l x.s = S at *
  generalize hasP s l x.q = Q at *
  generalize hasP s l x.r = R at *
  unfold dpat patCells at *
  (apply rd_sound; focus (repeat' constructor))
  ((conv=>whnf);repeat(refine And.intro rfl ?_;(conv=>whnf)))
  rw [List.length_map, List.length_map]
  (refine .inl ⟨by (unfold InR; rw [IntKind.wrap_i64]; omega), ?_⟩; ((conv=>whnf);repeat(refine And.intro rfl ?_;(conv=>whnf))))
  rw [show (s.length : Int) + (l.length : Int) = ((s.length + l.length : Nat) : Int) by omega]
  (refine .inl ⟨by (unfold InR; rw [IntKind.wrap_i64]; omega), ?_⟩; ((conv=>whnf);repeat(refine And.intro rfl ?_;(conv=>whnf))))
  rw [List.length_map]
  (refine .inl ⟨by (unfold InR; rw [IntKind.wrap_i64]; omega), ?_⟩; ((conv=>whnf);repeat(refine And.intro rfl ?_;(conv=>whnf))))
  (refine .inl ⟨by (unfold InR; rw [IntKind.wrap_i64]; omega), ?_⟩; ((conv=>whnf);repeat(refine And.intro rfl ?_;(conv=>whnf))))
  rw [show 2 * ((s.length + l.length : Nat) : Int) + 7 * (l.length : Int) = ((2 * (s.length + l.length) + 7 * l.length : Nat) : Int) by omega]
  (refine ifK_split (fun q1 => ?_) (fun q1 => ?_) <;> (rw [q1]; ((conv=>whnf);repeat(refine And.intro rfl ?_;(conv=>whnf)))))
  · have q1 : x.scope = 1 := by ((try simp only [oo, reduceCtorEq] at *) <;> omega)
    rw [if_pos q1]
    (refine .inr (.inl ⟨_, _, (by (repeat' (first | exact Deep.refl _ | exact Deep.none _ | exact deep_row _ | exact DeepL.nil | exact DeepLL.nil | refine Deep.agg _ _ ?_ | refine Deep.tup _ _ ?_ | refine Deep.own _ _ _ _ _ _ _ _ rfl ?_ | refine Deep.loc _ _ _ _ _ rfl ?_ | refine Deep.ifc _ _ _ ?_ | refine Deep.fn _ _ _ _ _ ?_ ?_ | refine DeepL.cons _ _ _ _ ?_ ?_ | refine DeepLL.cons _ _ _ _ ?_ ?_))), (iN 0 (by omega)), rfl, ?_⟩); ((conv=>whnf);repeat(refine And.intro rfl ?_;(conv=>whnf))))
    exact .refl _
  have q1 : ¬ x.scope = 1 := by ((try simp only [oo, reduceCtorEq] at *) <;> omega)
  rw [if_neg q1]
  (refine ifK_split (fun q2 => ?_) (fun q2 => ?_) <;> (rw [q2]; ((conv=>whnf);repeat(refine And.intro rfl ?_;(conv=>whnf)))))
  · have q2 : x.scope = 2 := by ((try simp only [oo, reduceCtorEq] at *) <;> omega)
    rw [if_pos q2]
    (refine .inr (.inl ⟨_, _, (by (repeat' (first | exact Deep.refl _ | exact Deep.none _ | exact deep_row _ | exact DeepL.nil | exact DeepLL.nil | refine Deep.agg _ _ ?_ | refine Deep.tup _ _ ?_ | refine Deep.own _ _ _ _ _ _ _ _ rfl ?_ | refine Deep.loc _ _ _ _ _ rfl ?_ | refine Deep.ifc _ _ _ ?_ | refine Deep.fn _ _ _ _ _ ?_ ?_ | refine DeepL.cons _ _ _ _ ?_ ?_ | refine DeepLL.cons _ _ _ _ ?_ ?_))), iR, rfl, ?_⟩); ((conv=>whnf);repeat(refine And.intro rfl ?_;(conv=>whnf))))
    exact .refl _
  have q2 : ¬ x.scope = 2 := by ((try simp only [oo, reduceCtorEq] at *) <;> omega)
  rw [if_neg q2]
  (refine ifK_split (fun q3 => ?_) (fun q3 => ?_) <;> (rw [q3]; ((conv=>whnf);repeat(refine And.intro rfl ?_;(conv=>whnf)))))
  · have q3 : x.scope = 3 := by ((try simp only [oo, reduceCtorEq] at *) <;> omega)
    rw [if_pos q3]
    refine pwp_for [2, 3, 5, 8, 9] (fun k : Nat => [(10, .sc (.int .i64 k))]) (fun _ => []) (fun k => k ≤ s.length + l.length ∧ ∀ j, 0 ≤ j → j < k → Q j = false) (fun k => s.length + l.length - k) 0 ?_
    ((conv=>whnf);repeat(refine And.intro rfl ?_;(conv=>whnf)))
    refine ⟨⟨by omega, fun j h1 h2 => by omega⟩, by (repeat' (first | exact trivial | refine And.intro rfl ?_)), rfl, ?_⟩
    rintro k ⟨hk, hno⟩
    ((conv=>whnf);repeat(refine And.intro rfl ?_;(conv=>whnf)))
    (apply rd_sound; focus (repeat' constructor))
    ((conv=>whnf);repeat(refine And.intro rfl ?_;(conv=>whnf)))
    (refine ifK_split (fun q4 => ?_) (fun q4 => ?_) <;> (rw [q4]; ((conv=>whnf);repeat(refine And.intro rfl ?_;(conv=>whnf)))))
    · have q4 : k < s.length + l.length := by ((try simp only [oo, reduceCtorEq] at *) <;> omega)
      (refine .inl ⟨_, (hQ k (by omega)), ?_⟩; ((conv=>whnf);repeat(refine And.intro rfl ?_;(conv=>whnf))))
      cases t : Q k
      · ((conv=>whnf);repeat(refine And.intro rfl ?_;(conv=>whnf)))
        (refine .inl ⟨by (unfold InR; rw [IntKind.wrap_i64]; omega), ?_⟩; ((conv=>whnf);repeat(refine And.intro rfl ?_;(conv=>whnf))))
        refine ⟨k + 1, ⟨by omega, fun j h1 h2 => ?_⟩, by dsimp only; omega, leB_envH (by (repeat' (first | exact trivial | refine And.intro rfl ?_))) rfl⟩
        by_cases e : j = k
        · subst e; exact t
        · exact hno j h1 (by omega)
      · have e1 : fst Q (s.length + l.length) 0 = k := fst_eq (Nat.zero_le _) hk hno (fun _ => t)
        rw [e1, if_pos q4]
        ((conv=>whnf);repeat(refine And.intro rfl ?_;(conv=>whnf)))
        (refine .inr (.inl ⟨_, _, (by (repeat' (first | exact Deep.refl _ | exact Deep.none _ | exact deep_row _ | exact DeepL.nil | exact DeepLL.nil | refine Deep.agg _ _ ?_ | refine Deep.tup _ _ ?_ | refine Deep.own _ _ _ _ _ _ _ _ rfl ?_ | refine Deep.loc _ _ _ _ _ rfl ?_ | refine Deep.ifc _ _ _ ?_ | refine Deep.fn _ _ _ _ _ ?_ ?_ | refine DeepL.cons _ _ _ _ ?_ ?_ | refine DeepLL.cons _ _ _ _ ?_ ?_))), (iN k (by omega)), rfl, ?_⟩); ((conv=>whnf);repeat(refine And.intro rfl ?_;(conv=>whnf))))
        exact .refl _
    · have q4 : k = s.length + l.length := by have : ¬ k < s.length + l.length := by ((try simp only [oo, reduceCtorEq] at *) <;> omega)
                                              omega
      have e1 : fst Q (s.length + l.length) 0 = k := fst_eq (Nat.zero_le _) hk hno (fun q => by omega)
      rw [e1, if_neg (by omega)]
      exact .refl _
  have q3 : ¬ x.scope = 3 := by ((try simp only [oo, reduceCtorEq] at *) <;> omega)
  rw [if_neg q3]
  have q45 : x.scope = 4 ∨ x.scope = 5 := by omega
  refine pwp_for [2, 3, 5, 8] (fun k : Nat => [(11, .sc (.int .i64 k))]) (fun _ => []) (fun k => k ≤ s.length + l.length ∧ (List.range k).all (fun i => !(Q i && !R i) || intB x.kind x.count P S (tillT R i) s.length l.length i (decide (x.scope = 4))) = true) (fun k => s.length + l.length - k) 0 ?_
  ((conv=>whnf);repeat(refine And.intro rfl ?_;(conv=>whnf)))
  refine ⟨⟨by omega, by simp⟩, by (repeat' (first | exact trivial | refine And.intro rfl ?_)), rfl, ?_⟩
  rintro k ⟨hk, hall⟩
  ((conv=>whnf);repeat(refine And.intro rfl ?_;(conv=>whnf)))
  (apply rd_sound; focus (repeat' constructor))
  ((conv=>whnf);repeat(refine And.intro rfl ?_;(conv=>whnf)))
  (refine ifK_split (fun q4 => ?_) (fun q4 => ?_) <;> (rw [q4]; ((conv=>whnf);repeat(refine And.intro rfl ?_;(conv=>whnf)))))
  · have q4 : k < s.length + l.length := by ((try simp only [oo, reduceCtorEq] at *) <;> omega)
    have eA : (List.range (k + 1)).all (fun i => !(Q i && !R i) || intB x.kind x.count P S (tillT R i) s.length l.length i (decide (x.scope = 4))) = (!(Q k && !R k) || intB x.kind x.count P S (tillT R k) s.length l.length k (decide (x.scope = 4))) := by
      rw [List.range_succ, List.all_append, hall]
      simp
    (refine .inl ⟨_, (hQ k (by omega)), ?_⟩; ((conv=>whnf);repeat(refine And.intro rfl ?_;(conv=>whnf))))
    cases t : Q k
    · rw [t] at eA
      ((conv=>whnf);repeat(refine And.intro rfl ?_;(conv=>whnf)))
      (refine .inl ⟨by (unfold InR; rw [IntKind.wrap_i64]; omega), ?_⟩; ((conv=>whnf);repeat(refine And.intro rfl ?_;(conv=>whnf))))
      refine ⟨k + 1, ⟨by omega, by rw [eA]; rfl⟩, by dsimp only; omega, ?_⟩
      (refine leB_close 4 (by simp) rfl ?_ ?_ <;> (repeat' (first | exact trivial | exact rfl | exact DeepM.refl _ | exact DeepML.refl _ | exact DeepMLL.refl _ | refine And.intro ?_ ?_ | (simp [Under, UnderL, UnderLL, -List.map_take, -List.map_drop]; done))))
    · rw [t] at eA
      ((conv=>whnf);repeat(refine And.intro rfl ?_;(conv=>whnf)))
      (refine .inl ⟨_, (hR k (by omega)), ?_⟩; ((conv=>whnf);repeat(refine And.intro rfl ?_;(conv=>whnf))))
      cases u : R k
      · rw [u] at eA
        ((conv=>whnf);repeat(refine And.intro rfl ?_;(conv=>whnf)))
        have hb : (x.scope == 4) = decide (x.scope = 4) := rfl
        (refine .inr (.inl ⟨_, _, (by (repeat' (first | exact Deep.refl _ | exact Deep.none _ | exact deep_row _ | exact DeepL.nil | exact DeepLL.nil | refine Deep.agg _ _ ?_ | refine Deep.tup _ _ ?_ | refine Deep.own _ _ _ _ _ _ _ _ rfl ?_ | refine Deep.loc _ _ _ _ _ rfl ?_ | refine Deep.ifc _ _ _ ?_ | refine Deep.fn _ _ _ _ _ ?_ ?_ | refine DeepL.cons _ _ _ _ ?_ ?_ | refine DeepLL.cons _ _ _ _ ?_ ?_))), (iT k (by omega) _), rfl, ?_⟩); ((conv=>whnf);repeat(refine And.intro rfl ?_;(conv=>whnf))))
        cases r : intB x.kind x.count P S (tillT R k) s.length l.length k (x.scope == 4)
        · rw [hb] at r
          ((conv=>whnf);repeat(refine And.intro rfl ?_;(conv=>whnf)))
          refine deep_eq ?_
          have : (List.range (s.length + l.length)).all (fun i => !(Q i && !R i) || intB x.kind x.count P S (tillT R i) s.length l.length i (decide (x.scope = 4))) = false := by
            rw [Bool.eq_false_iff]
            intro q
            have q' := all_range.1 q k q4
            rw [t, u, r] at q'
            cases q'
          rw [this]
        · rw [hb] at r
          rw [r] at eA
          ((conv=>whnf);repeat(refine And.intro rfl ?_;(conv=>whnf)))
          (refine .inl ⟨by (unfold InR; rw [IntKind.wrap_i64]; omega), ?_⟩; ((conv=>whnf);repeat(refine And.intro rfl ?_;(conv=>whnf))))
          refine ⟨k + 1, ⟨by omega, by rw [eA]; rfl⟩, by dsimp only; omega, ?_⟩
          (refine leB_close 4 (by simp) rfl ?_ ?_ <;> (repeat' (first | exact trivial | exact rfl | exact DeepM.refl _ | exact DeepML.refl _ | exact DeepMLL.refl _ | refine And.intro ?_ ?_ | (simp [Under, UnderL, UnderLL, -List.map_take, -List.map_drop]; done))))
      · rw [u] at eA
        ((conv=>whnf);repeat(refine And.intro rfl ?_;(conv=>whnf)))
        (refine .inl ⟨by (unfold InR; rw [IntKind.wrap_i64]; omega), ?_⟩; ((conv=>whnf);repeat(refine And.intro rfl ?_;(conv=>whnf))))
        refine ⟨k + 1, ⟨by omega, by rw [eA]; rfl⟩, by dsimp only; omega, ?_⟩
        (refine leB_close 4 (by simp) rfl ?_ ?_ <;> (repeat' (first | exact trivial | exact rfl | exact DeepM.refl _ | exact DeepML.refl _ | exact DeepMLL.refl _ | refine And.intro ?_ ?_ | (simp [Under, UnderL, UnderLL, -List.map_take, -List.map_drop]; done))))
  · have q4 : k = s.length + l.length := by have : ¬ k < s.length + l.length := by ((try simp only [oo, reduceCtorEq] at *) <;> omega)
                                            omega
    subst q4
    rw [hall]
    exact .refl _
end Go.Proofs.Ytgohkomfkfilnaa
