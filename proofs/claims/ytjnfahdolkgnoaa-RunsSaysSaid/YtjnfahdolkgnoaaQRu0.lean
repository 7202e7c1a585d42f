/-
  The world of a process: its states, marking by marking. Plain Lean. No statement is proved here.
-/
import Derived.Test.YtjnfahdolkgnoaaQSpA
namespace Go.Proofs.Ytjnfahdolkgnoaa
/-- The states of a marking; where they lead. -/
def stOf (N : List (List EdgeD)) (m : Nat) : List EdgeD := if (N.getD m []).length = 0 then [(-1, (m : Int))] else (N.getD m []).map fun x => (x.1, (m : Int))
def gsOf (N : List (List EdgeD)) (m : Nat) : List Int := if (N.getD m []).length = 0 then [(m : Int)] else (N.getD m []).map fun x => x.2
def ofTo (N : List (List EdgeD)) : Nat → List EdgeD
  | 0 => []
  | m + 1 => ofTo N m ++ stOf N m
def gsTo (N : List (List EdgeD)) : Nat → List Int
  | 0 => []
  | m + 1 => gsTo N m ++ gsOf N m
def atL (N : List (List EdgeD)) (m : Nat) : Nat := (ofTo N m).length
def manyL (N : List (List EdgeD)) (m : Nat) : Nat := (stOf N m).length
theorem many_eq (N : List (List EdgeD)) (m : Nat) : manyL N m = if (N.getD m []).length = 0 then 1 else (N.getD m []).length := by
  unfold manyL stOf
  split <;> simp
theorem gs_len (N : List (List EdgeD)) (m : Nat) : (gsOf N m).length = manyL N m := by
  rw [many_eq]
  unfold gsOf
  split <;> simp
theorem at_succ (N : List (List EdgeD)) (m : Nat) : atL N (m + 1) = atL N m + manyL N m := by simp [atL, manyL, ofTo]
theorem gsTo_len (N : List (List EdgeD)) : ∀ m, (gsTo N m).length = atL N m
  | 0 => rfl
  | m + 1 => by rw [at_succ]; simp only [gsTo, List.length_append, gs_len, gsTo_len N m]
theorem at_mono {N : List (List EdgeD)} {m n : Nat} (h : m ≤ n) : atL N m ≤ atL N n := by
  induction n with
  | zero => rw [show m = 0 by omega]; exact Nat.le_refl _
  | succ n ih =>
    by_cases e : m = n + 1
    · subst e; exact Nat.le_refl _
    · rw [at_succ]; have := ih (by omega); omega
theorem getD_appL {α : Type} {l r : List α} {a : Nat} {d : α} (h : a < l.length) : (l ++ r).getD a d = l.getD a d := by
  rw [List.getD_eq_getElem?_getD, List.getD_eq_getElem?_getD, List.getElem?_append_left h]
theorem getD_appR {α : Type} {l r : List α} {a k : Nat} {d : α} (h : a = l.length + k) : (l ++ r).getD a d = r.getD k d := by
  subst h
  rw [List.getD_eq_getElem?_getD, List.getD_eq_getElem?_getD, List.getElem?_append_right (by omega), Nat.add_sub_cancel_left]
theorem ofTo_at {N : List (List EdgeD)} {m k : Nat} (hk : k < manyL N m) : ∀ n, m < n → (ofTo N n).getD (atL N m + k) (0, 0) = (stOf N m).getD k (0, 0)
  | 0, h => by omega
  | n + 1, h => by
    simp only [ofTo]
    by_cases e : m = n
    · subst e
      exact getD_appR rfl
    · have h1 := at_mono (N := N) (show m + 1 ≤ n by omega)
      rw [at_succ] at h1
      rw [getD_appL (show atL N m + k < (ofTo N n).length by unfold atL at h1 ⊢; omega), ofTo_at hk n (by omega)]
theorem gsTo_at {N : List (List EdgeD)} {m k : Nat} (hk : k < manyL N m) : ∀ n, m < n → (gsTo N n).getD (atL N m + k) 0 = (gsOf N m).getD k 0
  | 0, h => by omega
  | n + 1, h => by
    simp only [gsTo]
    by_cases e : m = n
    · subst e
      exact getD_appR (by rw [gsTo_len])
    · have h1 := at_mono (N := N) (show m + 1 ≤ n by omega)
      rw [at_succ] at h1
      rw [getD_appL (by rw [gsTo_len]; omega), gsTo_at hk n (by omega)]
theorem st_mark {N : List (List EdgeD)} {m k : Nat} (hk : k < manyL N m) : ((stOf N m).getD k (0, 0)).2 = (m : Int) := by
  rw [many_eq] at hk
  unfold stOf
  split
  · rename_i h
    rw [if_pos h] at hk
    rw [show k = 0 by omega]
    rfl
  · rename_i h
    rw [if_neg h] at hk
    rw [List.getD_eq_getElem?_getD, List.getElem?_map, List.getElem?_eq_getElem hk]
    rfl
/-- Each state is one of some marking. -/
theorem of_split {N : List (List EdgeD)} : ∀ {n i : Nat}, i < atL N n → ∃ m k, m < n ∧ k < manyL N m ∧ i = atL N m + k
  | 0, i, h => by simp [atL, ofTo] at h
  | n + 1, i, h => by
    rw [at_succ] at h
    by_cases q : i < atL N n
    · obtain ⟨m, k, h1, h2, h3⟩ := of_split q
      exact ⟨m, k, by omega, h2, h3⟩
    · exact ⟨n, i - atL N n, by omega, by omega, by omega⟩
/-- The states of a marking, by their numbers. -/
def allL (N : List (List EdgeD)) (t : Nat) : List Int := (List.range (manyL N t)).map fun (i : Nat) => ((atL N t + i : Nat) : Int)
/-- Numbers of states of a marking among the first ones. -/
def pkTo (of : List EdgeD) (t : Int) : Nat → List Int
  | 0 => []
  | k + 1 => if (of.getD k (0, 0)).2 = t then pkTo of t k ++ [(k : Int)] else pkTo of t k
theorem pkTo_eq {N : List (List EdgeD)} {n t : Nat} (ht : t < n) : ∀ k, k ≤ atL N n → pkTo (ofTo N n) (t : Int) k = (List.range (min (k - atL N t) (manyL N t))).map fun (i : Nat) => ((atL N t + i : Nat) : Int)
  | 0, _ => by simp [pkTo]
  | k + 1, hk => by
    obtain ⟨m, j, h1, h2, h3⟩ := of_split (show k < atL N n by omega)
    have hm : ((ofTo N n).getD k (0, 0)).2 = (m : Int) := by rw [h3, ofTo_at h2 n h1, st_mark h2]
    simp only [pkTo]
    rw [hm, pkTo_eq ht k (by omega)]
    by_cases e : m = t
    · subst e
      rw [if_pos rfl, show min (k + 1 - atL N m) (manyL N m) = min (k - atL N m) (manyL N m) + 1 by omega, List.range_succ, List.map_append, show min (k - atL N m) (manyL N m) = k - atL N m by omega]
      simp
      omega
    · rw [if_neg (by omega)]
      congr 2
      rcases Nat.lt_or_ge m t with q | q
      · have := at_mono (N := N) (show m + 1 ≤ t by omega)
        rw [at_succ] at this
        omega
      · have := at_mono (N := N) (show t + 1 ≤ m by omega)
        rw [at_succ] at this
        omega
theorem pk_all {N : List (List EdgeD)} {n t : Nat} (ht : t < n) : pkTo (ofTo N n) (t : Int) (atL N n) = allL N t := by
  rw [pkTo_eq ht _ (Nat.le_refl _)]
  unfold allL
  have := at_mono (N := N) (show t + 1 ≤ n by omega)
  rw [at_succ] at this
  rw [show min (atL N n - atL N t) (manyL N t) = manyL N t by omega]
theorem all_one {N : List (List EdgeD)} {m : Nat} (h : (N.getD m []).length = 0) : allL N m = [(atL N m : Int)] := by
  unfold allL
  rw [many_eq, if_pos h]
  rfl
theorem allL_len (N : List (List EdgeD)) (t : Nat) : (allL N t).length = manyL N t := by simp [allL]
/-- May a step be taken at a marking? -/
def canB (N : List (List EdgeD)) (m : Nat) (k : Int) : Bool := (N.getD m []).any fun y => y.1 == k
/-- The fair set of a step, among the first states. -/
def fairTo (N : List (List EdgeD)) (of : List EdgeD) (s : Int) : Nat → List Int
  | 0 => []
  | i + 1 => if canB N (of.getD i (0, 0)).2.toNat s = false ∨ (of.getD i (0, 0)).1 = s then fairTo N of s i ++ [(i : Int)] else fairTo N of s i
theorem fairTo_len (N : List (List EdgeD)) (of : List EdgeD) (s : Int) : ∀ i, (fairTo N of s i).length ≤ i
  | 0 => by simp [fairTo]
  | i + 1 => by
    simp only [fairTo]
    have := fairTo_len N of s i
    split <;> simp <;> omega
end Go.Proofs.Ytjnfahdolkgnoaa
