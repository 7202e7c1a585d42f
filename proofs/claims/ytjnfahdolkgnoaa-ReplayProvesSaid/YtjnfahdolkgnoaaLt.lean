/-
  Formulas of one way along a word that goes round. Plain Lean. No statement is proved here.
-/
import Derived.Test.YtjnfahdolkgnoaaLw
import Derived.Test.YtjnfahdolkgnoaaBit
import Derived.Test.YtjnfahdolkgnoaaSlim
namespace Go.Proofs.Ytjnfahdolkgnoaa

/-- A place up to one loop behind the first one. -/
def wr (n m i : Nat) : Nat := if i < n then i else i - m
/-- Until, over so many places from one on. -/
def vv (n m : Nat) (a b : Nat → Bool) : Nat → Nat → Bool
  | _, 0 => false
  | j, f + 1 => b (wr n m j) || (a (wr n m j) && vv n m a b (j + 1) f)
def untilF (n m : Nat) (a b : Nat → Bool) (i : Nat) : Bool := vv n m a b i (n + m - i)
/-- One round of the program from behind: e: what holds behind the last place. -/
def rr (a b : Nat → Bool) (e : Bool) : Nat → Nat → Bool
  | _, 0 => e
  | j, f + 1 => b j || (a j && rr a b e (j + 1) f)
theorem vv_congr {n m : Nat} {a b a' b' : Nat → Bool} (hm : 1 ≤ m) (hmn : m ≤ n) (ha : ∀ i, i < n → a i = a' i) (hb : ∀ i, i < n → b i = b' i) : ∀ (f j : Nat), j + f ≤ n + m → vv n m a b j f = vv n m a' b' j f
  | 0, _, _ => rfl
  | f + 1, j, h => by
    have hw : wr n m j < n := by unfold wr; split <;> omega
    simp only [vv]
    rw [ha _ hw, hb _ hw, vv_congr hm hmn ha hb f (j + 1) (by omega)]
/-- Behind the first round: the loop's places once more. -/
theorem vv_tail {n m s : Nat} {a b : Nat → Bool} (hn : n = s + m) : ∀ (f d : Nat), d + f = m → vv n m a b (n + d) f = rr a b false (s + d) f
  | 0, _, _ => rfl
  | f + 1, d, h => by
    have hw : wr n m (n + d) = s + d := by unfold wr; rw [if_neg (by omega)]; omega
    simp only [vv, rr]
    rw [hw, show n + d + 1 = n + (d + 1) by omega, vv_tail hn f (d + 1) (by omega)]
    rfl
theorem vv_head {n m : Nat} {a b : Nat → Bool} : ∀ (f j : Nat), j + f = n → vv n m a b j (f + m) = rr a b (vv n m a b n m) j f
  | 0, j, h => by
    have : j = n := by omega
    subst this
    simp only [rr, Nat.zero_add]
  | f + 1, j, h => by
    have hw : wr n m j = j := by unfold wr; rw [if_pos (by omega)]
    rw [show f + 1 + m = (f + m) + 1 by omega]
    simp only [vv, rr]
    rw [hw, vv_head f (j + 1) (by omega)]
/-- Two rounds of the program are enough. -/
theorem until_rounds {n m s : Nat} {a b : Nat → Bool} (hn : n = s + m) {i : Nat} (hi : i ≤ n) : untilF n m a b i = rr a b (rr a b false s m) i (n - i) := by
  unfold untilF
  have h1 := vv_head (n := n) (m := m) (a := a) (b := b) (n - i) i (by omega)
  have h2 := vv_tail (a := a) (b := b) hn m 0 (by omega)
  rw [show n - i + m = n + m - i by omega] at h1
  rw [h1]
  simp only [Nat.add_zero] at h2
  rw [h2]

section
variable (s l : List Int)
/-- What holds at a place, of the kids' truths. -/
def trF (k num : Int) (a b : Nat → Bool) (i : Nat) : Bool :=
  if k = 1 then true
  else if k = 3 then bitB (atW s l i) num
  else if k = 4 then !(a i)
  else if k = 5 then a i && b i
  else if k = 6 then a i || b i
  else if k = 7 then a (wr (s.length + l.length) l.length (i + 1))
  else if k = 8 then untilF (s.length + l.length) l.length a b i
  else if k = 9 then !(untilF (s.length + l.length) l.length (fun j => !(a j)) (fun j => !(b j)) i)
  else if k = 10 then untilF (s.length + l.length) l.length (fun _ => true) a i
  else if k = 11 then !(untilF (s.length + l.length) l.length (fun _ => true) (fun j => !(a j)) i)
  else false
mutual
def trT : Tree → Nat → Bool
  | .node k num ks => trF s l k num ((trL ks).getD 0 fun _ => false) ((trL ks).getD 1 fun _ => false)
def trL : List Tree → List (Nat → Bool)
  | [] => []
  | t :: r => trT t :: trL r
end
theorem trL_map : ∀ ks, trL s l ks = ks.map (trT s l)
  | [] => by simp only [trL, List.map_nil]
  | t :: r => by simp only [trL, List.map_cons, trL_map r]
def kidT (t : Tree) (j : Nat) : Nat → Bool := (t.kids.map (trT s l)).getD j fun _ => false
theorem trT_eq (t : Tree) : trT s l t = trF s l t.kind t.num (kidT s l t 0) (kidT s l t 1) := by
  cases t; simp only [trT, trL_map]; rfl
theorem kidT_eq {t : Tree} {j : Nat} (h : j < t.width) : kidT s l t j = trT s l (t.kid j) := by
  unfold kidT
  rw [List.getD_eq_getElem?_getD, List.getElem?_map, Tree.kid_get h, List.getElem?_eq_getElem h]
  rfl
end

/-! The reference's loops. -/
/-- Until, looked for from a place on. -/
theorem vv_step {n m : Nat} {a b : Nat → Bool} {j : Nat} (hj : j < n + m) : untilF n m a b j = (b (wr n m j) || (a (wr n m j) && untilF n m a b (j + 1))) := by
  unfold untilF
  obtain ⟨f, hf⟩ : ∃ f, n + m - j = f + 1 := ⟨n + m - j - 1, by omega⟩
  rw [hf, show n + m - (j + 1) = f by omega]
  rfl
theorem vv_end {n m : Nat} {a b : Nat → Bool} {j : Nat} (hj : n + m ≤ j) : untilF n m a b j = false := by
  unfold untilF
  rw [show n + m - j = 0 by omega]
  rfl
end Go.Proofs.Ytjnfahdolkgnoaa
