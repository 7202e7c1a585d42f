/-
  Au7 Au8 Au9 Aua joined. No statement is proved here.
-/
import Derived.Test.YtfaekhadjlgbbaaQAu2
import Derived.Test.YtfaekhadjlgbbaaQWi
import Derived.Test.YtfaekhadjlgbbaaQAgL
import Derived.Test.YtfaekhadjlgbbaaQAuA
import Derived.Test.YtfaekhadjlgbbaaQBo
namespace Go.Proofs.Ytfaekhadjlgbbaa
/-! ### XAu7 -/
section
open Go.RowKit
set_option linter.unusedSimpArgs false
set_option linter.unusedVariables false
theorem mem_getDR {l : List (List Int)} {k : Nat} (h : k < l.length) : l.getD k [] ∈ l := by
  rw [List.getD_eq_getElem?_getD, List.getElem?_eq_getElem h]; simp
theorem seg_two (f : Nat → Int) (a p : Nat) : seg f 0 a ++ seg f a p = seg f 0 (a + p) := by
  induction p with
  | zero => simp [seg]
  | succ p ih => rw [← Nat.add_assoc, seg_succ, seg_succ, ← List.append_assoc, ih, Nat.zero_add]
theorem divmod_at {n k j : Nat} (hj : j < n) : (k * n + j) % n = j ∧ (k * n + j) / n = k := by
  refine ⟨?_, ?_⟩
  · rw [Nat.mul_comm, Nat.mul_add_mod, Nat.mod_eq_of_lt hj]
  · rw [Nat.mul_comm, Nat.mul_add_div (by omega), Nat.div_eq_of_lt hj, Nat.add_zero]
theorem node_lt {n m k j : Nat} (hj : j < n) (hk : k < m) : k * n + j < n * m := by
  have := Nat.mul_le_mul_right n (show k + 1 ≤ m by omega)
  rw [Nat.add_mul, Nat.one_mul, Nat.mul_comm m n] at this
  omega
/-- States next to a state that fit at the place behind, of the first ones. -/
def nextsT (A : AutoD) (f : Nat → Int) (a p s i j : Nat) : List Int := if fitsV A s (f i) = true then ((A.next.getD s []).take j).filter fun t => fitsV A t.toNat (f (thenW a p i)) else []
theorem nextsT_zero (A : AutoD) (f : Nat → Int) (a p s i : Nat) : nextsT A f a p s i 0 = [] := by unfold nextsT; simp
theorem nextsT_all (A : AutoD) (f : Nat → Int) (a p s i : Nat) : nextsT A f a p s i (A.next.getD s []).length = nexts A f a p s i := by unfold nextsT nexts; rw [List.take_length]
theorem nextsT_no {A : AutoD} {f : Nat → Int} {a p s i j : Nat} (h : fitsV A s (f i) = false) : nextsT A f a p s i j = [] := by unfold nextsT; rw [h]; rfl
theorem nextsT_succ {A : AutoD} {f : Nat → Int} {a p s i j : Nat} (hf : fitsV A s (f i) = true) (h : j < (A.next.getD s []).length) :
    nextsT A f a p s i (j + 1) = if fitsV A ((A.next.getD s []).getD j 0).toNat (f (thenW a p i)) = true then nextsT A f a p s i j ++ [(A.next.getD s []).getD j 0] else nextsT A f a p s i j := by
  unfold nextsT
  rw [if_pos hf, if_pos hf, List.take_add_one, List.getElem?_eq_getElem h, List.filter_append, List.getD_eq_getElem?_getD (l := A.next.getD s []), List.getElem?_eq_getElem h]
  simp only [Option.toList_some, Option.getD_some, List.filter_cons, List.filter_nil]
  split <;> simp
theorem nextsT_len (A : AutoD) (f : Nat → Int) (a p s i j : Nat) : (nextsT A f a p s i j).length ≤ (A.next.getD s []).length ∧ (nextsT A f a p s i j).length ≤ j := by
  unfold nextsT
  split
  · have := List.length_filter_le (fun t : Int => fitsV A t.toNat (f (thenW a p i))) ((A.next.getD s []).take j)
    rw [List.length_take] at this
    omega
  · simp
/-! ### The program's product -/
def cellP (n a p i : Nat) (l : List Int) : List Int := l.map fun t => ((thenW a p i * n : Nat) : Int) + t
def rowP (A : AutoD) (f : Nat → Int) (a p v : Nat) : List Int := cellP A.next.length a p (v / A.next.length) (nexts A f a p (v % A.next.length) (v / A.next.length))
theorem rowP_at {A : AutoD} {f : Nat → Int} {a p i s : Nat} (hs : s < A.next.length) : rowP A f a p (i * A.next.length + s) = cellP A.next.length a p i (nexts A f a p s i) := by
  unfold rowP
  rw [(divmod_at hs).1, (divmod_at hs).2]
@[simp] theorem prodP_len (A : AutoD) (f : Nat → Int) (a p : Nat) : (prodP A f a p).length = A.next.length * (a + p) := by simp [prodP]
theorem prodP_fine {A : AutoD} (hin : ∀ l ∈ A.next, inB l A.next.length = true) {L : Nat} (hL : ∀ l ∈ A.next, l.length ≤ L) (f : Nat → Int) {a p : Nat} (hp : 1 ≤ p) :
    (∀ l ∈ prodP A f a p, inB l (prodP A f a p).length = true) ∧ ∀ l ∈ prodP A f a p, l.length ≤ L := by
  have hn : ∀ v, v < A.next.length * (a + p) → 0 < A.next.length := fun v hv => by
    rcases Nat.eq_zero_or_pos A.next.length with e | e
    · rw [e, Nat.zero_mul] at hv; omega
    · exact e
  refine ⟨fun l hl => ?_, fun l hl => ?_⟩
  · obtain ⟨v, hv, rfl⟩ := List.mem_map.1 hl
    have hv := List.mem_range.1 hv
    rw [prodP_len]
    refine inB_of fun x hx => ?_
    obtain ⟨t, h1, rfl⟩ := List.mem_map.1 hx
    have ht := inB_mem (inB_row hin _) (mem_nexts.1 h1).2.1
    have hd : v / A.next.length < a + p := Nat.div_lt_of_lt_mul hv
    have := node_lt (n := A.next.length) (k := thenW a p (v / A.next.length)) (j := t.toNat) (by omega) (thenW_lt hp hd)
    omega
  · obtain ⟨v, hv, rfl⟩ := List.mem_map.1 hl
    rw [List.length_map, ← nextsT_all]
    have h1 := nextsT_len A f a p (v % A.next.length) (v / A.next.length) (A.next.getD (v % A.next.length) []).length
    have hm : v % A.next.length < A.next.length := Nat.mod_lt _ (hn v (List.mem_range.1 hv))
    have h2 := hL _ (mem_getDR hm)
    omega
/-! ### The reference's product -/
def cellR (m j : Nat) (l : List Int) : List Int := l.map fun t => t * (m : Int) + (j : Int)
/-- What stands in a row when places ahead of i are done, and at i the states ahead of s, and of s the first k. -/
def curR (A : AutoD) (f : Nat → Int) (a p i s k : Nat) (x : Nat) : List Int :=
  if x % (a + p) < i ∨ (x % (a + p) = i ∧ x / (a + p) < s) then cellR (a + p) (thenW a p (x % (a + p))) (nexts A f a p (x / (a + p)) (x % (a + p)))
  else if x % (a + p) = i ∧ x / (a + p) = s then cellR (a + p) (thenW a p i) (nextsT A f a p s i k) else []
def gridR (A : AutoD) (f : Nat → Int) (a p i s k : Nat) : List (List Int) := (List.range (A.next.length * (a + p))).map (curR A f a p i s k)
@[simp] theorem gridR_len (A : AutoD) (f : Nat → Int) (a p i s k : Nat) : (gridR A f a p i s k).length = A.next.length * (a + p) := by simp [gridR]
@[simp] theorem prodR_len (A : AutoD) (f : Nat → Int) (a p : Nat) : (prodR A f a p).length = A.next.length * (a + p) := by simp [prodR]
theorem gridR_zero (A : AutoD) (f : Nat → Int) (a p : Nat) : gridR A f a p 0 0 0 = List.replicate (A.next.length * (a + p)) [] := by
  refine List.ext_getElem? fun i => ?_
  by_cases h : i < A.next.length * (a + p)
  · rw [List.getElem?_eq_getElem (by simpa using h), List.getElem?_eq_getElem (by simpa using h)]
    simp only [gridR, List.getElem_map, List.getElem_range, List.getElem_replicate, curR]
    rw [if_neg (by simp), nextsT_zero]
    split <;> rfl
  · rw [List.getElem?_eq_none (by simp; omega), List.getElem?_eq_none (by simp; omega)]
theorem gridR_at {A : AutoD} {f : Nat → Int} {a p i s k : Nat} (hs : s < A.next.length) (hi : i < a + p) : (gridR A f a p i s k).getD (s * (a + p) + i) [] = cellR (a + p) (thenW a p i) (nextsT A f a p s i k) := by
  have hlt : s * (a + p) + i < A.next.length * (a + p) := by rw [Nat.mul_comm A.next.length]; exact node_lt hi hs
  rw [List.getD_eq_getElem?_getD, List.getElem?_eq_getElem (by simpa using hlt)]
  simp only [gridR, List.getElem_map, List.getElem_range, Option.getD_some, curR, (divmod_at hi).1, (divmod_at hi).2]
  rw [if_neg (by omega), if_pos (by simp)]
theorem gridR_set {A : AutoD} {f : Nat → Int} {a p i s k k' : Nat} (hs : s < A.next.length) (hi : i < a + p) : (gridR A f a p i s k).set (s * (a + p) + i) (cellR (a + p) (thenW a p i) (nextsT A f a p s i k')) = gridR A f a p i s k' := by
  refine List.ext_getElem? fun x => ?_
  rw [List.getElem?_set]
  have hlt : s * (a + p) + i < A.next.length * (a + p) := by rw [Nat.mul_comm A.next.length]; exact node_lt hi hs
  by_cases e : s * (a + p) + i = x
  · subst e
    rw [if_pos rfl, if_pos (by simpa using hlt), List.getElem?_eq_getElem (by simpa using hlt)]
    simp only [gridR, List.getElem_map, List.getElem_range, curR, (divmod_at hi).1, (divmod_at hi).2]
    rw [if_neg (by omega), if_pos (by simp)]
  · rw [if_neg e]
    by_cases hx : x < A.next.length * (a + p)
    · rw [List.getElem?_eq_getElem (by simpa using hx), List.getElem?_eq_getElem (by simpa using hx)]
      simp only [gridR, List.getElem_map, List.getElem_range, curR]
      have hne : ¬ (x % (a + p) = i ∧ x / (a + p) = s) := fun ⟨q1, q2⟩ => e (by rw [← q1, ← q2, Nat.mul_comm]; exact Nat.div_add_mod x (a + p))
      rw [if_neg hne, if_neg hne]
    · rw [List.getElem?_eq_none (by simp; omega), List.getElem?_eq_none (by simp; omega)]
theorem gridR_next {A : AutoD} {f : Nat → Int} {a p i s k : Nat} (h : nextsT A f a p s i k = nexts A f a p s i) : gridR A f a p i s k = gridR A f a p i (s + 1) 0 := by
  unfold gridR
  refine List.map_congr_left fun x _ => ?_
  unfold curR
  by_cases q : x % (a + p) < i ∨ (x % (a + p) = i ∧ x / (a + p) < s)
  · rw [if_pos q, if_pos (by omega)]
  · rw [if_neg q]
    by_cases r : x % (a + p) = i ∧ x / (a + p) = s
    · rw [if_pos r, if_pos (by omega), h, r.1, r.2]
    · rw [if_neg r, if_neg (by omega)]
      split
      · rw [nextsT_zero]; rfl
      · rfl
theorem gridR_turn (A : AutoD) (f : Nat → Int) (a p i : Nat) : gridR A f a p i A.next.length 0 = gridR A f a p (i + 1) 0 0 := by
  unfold gridR
  refine List.map_congr_left fun x hx => ?_
  have hx := List.mem_range.1 hx
  have hd : x / (a + p) < A.next.length := Nat.div_lt_of_lt_mul (by rw [Nat.mul_comm]; exact hx)
  unfold curR
  generalize x / (a + p) = xd at *
  generalize x % (a + p) = xm at *
  by_cases q : xm < i + 1
  · rw [if_pos (by omega), if_pos (by omega)]
  · rw [if_neg (by omega), if_neg (by omega), if_neg (by omega)]
    split
    · rw [nextsT_zero]; rfl
    · rfl
theorem gridR_done (A : AutoD) (f : Nat → Int) {a p : Nat} (hp : 1 ≤ p) : gridR A f a p (a + p) 0 0 = prodR A f a p := by
  unfold gridR prodR
  refine List.map_congr_left fun x _ => ?_
  unfold curR
  rw [if_pos (.inl (Nat.mod_lt _ (by omega)))]
  rfl
theorem prodR_fine {A : AutoD} (hin : ∀ l ∈ A.next, inB l A.next.length = true) {L : Nat} (hL : ∀ l ∈ A.next, l.length ≤ L) (f : Nat → Int) {a p : Nat} (hp : 1 ≤ p) :
    (∀ l ∈ prodR A f a p, inB l (prodR A f a p).length = true) ∧ ∀ l ∈ prodR A f a p, l.length ≤ L := by
  refine ⟨fun l hl => ?_, fun l hl => ?_⟩
  · obtain ⟨v, hv, rfl⟩ := List.mem_map.1 hl
    have hv := List.mem_range.1 hv
    rw [prodR_len]
    refine inB_of fun x hx => ?_
    obtain ⟨t, h1, rfl⟩ := List.mem_map.1 hx
    have ht := inB_mem (inB_row hin _) (mem_nexts.1 h1).2.1
    have hj := thenW_lt (a := a) hp (Nat.mod_lt v (show 0 < a + p by omega))
    have := node_lt (n := a + p) (m := A.next.length) (k := t.toNat) hj (by omega)
    obtain ⟨k, rfl⟩ : ∃ k : Nat, t = k := ⟨t.toNat, by omega⟩
    rw [Int.toNat_natCast] at this
    rw [← Int.natCast_mul, ← Int.natCast_add, Nat.mul_comm A.next.length]
    omega
  · obtain ⟨v, hv, rfl⟩ := List.mem_map.1 hl
    rw [List.length_map, ← nextsT_all]
    have h1 := nextsT_len A f a p (v / (a + p)) (v % (a + p)) (A.next.getD (v / (a + p)) []).length
    have hd : v / (a + p) < A.next.length := Nat.div_lt_of_lt_mul (by rw [Nat.mul_comm]; exact List.mem_range.1 hv)
    have h2 := hL _ (mem_getDR hd)
    omega
end

/-! ### XAu8 -/
section
open Go.RowKit
set_option linter.unusedSimpArgs false
set_option linter.unusedVariables false
theorem cellP_snoc (n a p i : Nat) (l : List Int) (t : Int) : cellP n a p i (l ++ [t]) = cellP n a p i l ++ [((thenW a p i * n : Nat) : Int) + t] := by simp [cellP]
@[simp] theorem cellP_len (n a p i : Nat) (l : List Int) : (cellP n a p i l).length = l.length := by simp [cellP]
def gridP (A : AutoD) (f : Nat → Int) (a p i s j : Nat) : List (List Int) := curL (A.next.length * (a + p)) (rowP A f a p) (i * A.next.length + s) (cellP A.next.length a p i (nextsT A f a p s i j))
@[simp] theorem gridP_len (A : AutoD) (f : Nat → Int) (a p i s j : Nat) : (gridP A f a p i s j).length = A.next.length * (a + p) := by simp [gridP]
theorem gridP_zero (A : AutoD) (f : Nat → Int) (a p : Nat) : gridP A f a p 0 0 0 = List.replicate (A.next.length * (a + p)) [] := by
  unfold gridP
  rw [nextsT_zero, Nat.zero_mul]
  exact curL_zero _ _
theorem gridP_next {A : AutoD} {f : Nat → Int} {a p i s j : Nat} (hs : s < A.next.length) (h : nextsT A f a p s i j = nexts A f a p s i) : gridP A f a p i s j = gridP A f a p i (s + 1) 0 := by
  unfold gridP
  rw [h, nextsT_zero, ← rowP_at hs]
  exact curL_next
theorem gridP_turn (A : AutoD) (f : Nat → Int) (a p i : Nat) : gridP A f a p i A.next.length 0 = gridP A f a p (i + 1) 0 0 := by
  unfold gridP
  rw [nextsT_zero, nextsT_zero, Nat.add_mul, Nat.one_mul, Nat.add_zero]
  rfl
theorem gridP_done (A : AutoD) (f : Nat → Int) (a p : Nat) : gridP A f a p (a + p) 0 0 = prodP A f a p := by
  unfold gridP
  rw [Nat.add_zero, Nat.mul_comm (a + p)]
  exact curL_done _ _ _
theorem gridP_at {A : AutoD} {f : Nat → Int} {a p i s j : Nat} (hs : s < A.next.length) (hi : i < a + p) : (gridP A f a p i s j).getD (i * A.next.length + s) [] = cellP A.next.length a p i (nextsT A f a p s i j) := curL_at (node_lt hs hi)
theorem gridP_set {A : AutoD} {f : Nat → Int} {a p i s j k : Nat} (hs : s < A.next.length) (hi : i < a + p) : (gridP A f a p i s j).set (i * A.next.length + s) (cellP A.next.length a p i (nextsT A f a p s i k)) = gridP A f a p i s k := curL_set (node_lt hs hi)
def letL (f : Nat → Int) (m : Nat) : List (List D) := (seg f 0 m).map fun n => [D.sc (.int .u64 n)]
theorem letL_at {f : Nat → Int} {m z i : Nat} (hz : z = i) (h : i < m) : (letL f m)[z]? = some [D.sc (.int .u64 (f i))] := by
  have := u64a_at (l := seg f 0 m) hz (by rw [seg_len]; exact h)
  rw [seg_getD h, Nat.zero_add] at this
  exact this
theorem pure_letL (f : Nat → Int) (m : Nat) : PureLL (letL f m) := pureLL_map _ (fun _ => by simp [PureL, Pure]) _
theorem letL_two (f : Nat → Int) (a p : Nat) : List.drop 0 (List.take a ((seg f 0 a).map fun n => [D.sc (.int .u64 n)])) ++ ((seg f a p).map fun n => [D.sc (.int .u64 n)]) = letL f (a + p) := by
  rw [List.drop_zero, List.take_of_length_le (by simp), ← List.map_append, seg_two]; rfl
def c87_3 : PC := .seq (.ops [⟨some 66,.bin .lss (.tmp 65) (.tmp 64),none,0⟩] false) (.seq (.cond (.tmp 66) (.skip) (.exit 4)) (.seq (.block 5 (.seq (.ops [⟨some 67,.iaddr 1 (.tmp 63) (.tmp 65),none,0⟩,
 ⟨some 68,.load1 (.tmp 67),none,0⟩,
 ⟨some 14,.move (.tmp 68),none,0⟩] false) (.seq (.ops [⟨some 69,.loadA 5 (.tmp 2),none,0⟩,
 ⟨some 70,.move (.tmp 14),none,0⟩,
 ⟨some 71,.move (.tmp 7),none,0⟩,
 ⟨some 72,.move (.tmp 11),none,0⟩,
 ⟨some 73,.iaddr 1 (.tmp 71) (.tmp 72),none,12⟩,
 ⟨some 74,.load1 (.tmp 73),none,28⟩,
 ⟨some 75,.call 89 [(.tmp 69), (.tmp 70), (.tmp 74)],none,63⟩] true) (.cond (.tmp 75) (.ops [⟨some 76,.move (.tmp 8),none,0⟩,
 ⟨some 77,.move (.tmp 9),none,0⟩,
 ⟨some 78,.move (.tmp 5),none,0⟩,
 ⟨some 79,.bin .mul (.tmp 77) (.tmp 78),none,0⟩,
 ⟨some 80,.move (.tmp 12),none,0⟩,
 ⟨some 81,.bin .add (.tmp 79) (.tmp 80),none,0⟩,
 ⟨some 82,.move (.tmp 8),none,0⟩,
 ⟨some 83,.move (.tmp 9),none,0⟩,
 ⟨some 84,.move (.tmp 5),none,0⟩,
 ⟨some 85,.bin .mul (.tmp 83) (.tmp 84),none,0⟩,
 ⟨some 86,.move (.tmp 12),none,0⟩,
 ⟨some 87,.bin .add (.tmp 85) (.tmp 86),none,0⟩,
 ⟨some 88,.iaddr 1 (.tmp 82) (.tmp 87),none,0⟩,
 ⟨some 89,.load1 (.tmp 88),none,0⟩,
 ⟨some 90,.move (.tmp 11),none,0⟩,
 ⟨some 91,.move (.tmp 5),none,0⟩,
 ⟨some 92,.bin .mul (.tmp 90) (.tmp 91),none,0⟩,
 ⟨some 93,.move (.tmp 14),none,0⟩,
 ⟨some 94,.bin .add (.tmp 92) (.tmp 93),none,0⟩,
 ⟨some 95,.bslice 1 1 [(.tmp 94)],none,0⟩,
 ⟨some 96,.append 1 8 (.tmp 89) (.tmp 95),none,0⟩,
 ⟨some 97,.iaddr 1 (.tmp 76) (.tmp 81),none,0⟩,
 ⟨none,.store 1 (.tmp 97) (.tmp 96),none,0⟩] false) (.skip))))) (.ops [⟨some 98,.bin .add (.tmp 65) (.const (.int .i64 1)),none,0⟩,
 ⟨some 65,.move (.tmp 98),none,0⟩] false)))
def c87_2 : PC := .seq (.ops [⟨some 52,.bin .lss (.tmp 51) (.tmp 50),none,0⟩] false) (.seq (.cond (.tmp 52) (.skip) (.exit 2)) (.seq (.block 3 (.seq (.ops [⟨some 53,.move (.tmp 51),none,0⟩,
 ⟨some 12,.move (.tmp 53),none,0⟩] false) (.seq (.seq (.ops [⟨some 54,.loadA 5 (.tmp 2),none,0⟩,
 ⟨some 55,.move (.tmp 12),none,0⟩,
 ⟨some 56,.move (.tmp 10),none,0⟩,
 ⟨some 57,.call 89 [(.tmp 54), (.tmp 55), (.tmp 56)],none,0⟩,
 ⟨some 58,.un .not (.tmp 57),none,0⟩] false) (.cond (.tmp 58) (.exit 3) (.skip))) (.seq (.ops [⟨some 59,.faddr 1 (.tmp 2),none,0⟩,
 ⟨some 60,.load1 (.tmp 59),none,0⟩,
 ⟨some 61,.move (.tmp 12),none,0⟩,
 ⟨some 62,.iaddr 1 (.tmp 60) (.tmp 61),none,0⟩,
 ⟨some 63,.load1 (.tmp 62),none,0⟩,
 ⟨some 64,.len (.tmp 63),none,0⟩,
 ⟨some 65,.move (.const (.int .i64 0)),none,0⟩] false) (.block 4 (.loop c87_3)))))) (.ops [⟨some 99,.bin .add (.tmp 51) (.const (.int .i64 1)),none,0⟩,
 ⟨some 51,.move (.tmp 99),none,0⟩] false)))
def c87_1 : PC := .seq (.ops [⟨some 38,.bin .lss (.tmp 37) (.tmp 36),none,0⟩] false) (.seq (.cond (.tmp 38) (.skip) (.exit 0)) (.seq (.block 1 (.seq (.ops [⟨some 39,.move (.tmp 37),none,0⟩,
 ⟨some 40,.iaddr 1 (.tmp 35) (.tmp 37),none,0⟩,
 ⟨some 41,.load1 (.tmp 40),none,0⟩,
 ⟨some 9,.move (.tmp 39),none,0⟩,
 ⟨some 10,.move (.tmp 41),none,0⟩] false) (.seq (.ops [⟨some 42,.move (.tmp 9),none,0⟩,
 ⟨some 43,.bin .add (.tmp 42) (.const (.int .i64 1)),none,0⟩,
 ⟨some 11,.move (.tmp 43),none,0⟩] false) (.seq (.stop (.seq (.ops [⟨some 44,.move (.tmp 11),none,0⟩,
 ⟨some 45,.move (.tmp 6),none,0⟩,
 ⟨some 46,.bin .eql (.tmp 44) (.tmp 45),none,0⟩] false) (.cond (.tmp 46) (.ops [⟨some 47,.faddr 0 (.tmp 3),none,0⟩,
 ⟨some 48,.load1 (.tmp 47),none,0⟩,
 ⟨some 49,.len (.tmp 48),none,0⟩,
 ⟨some 11,.move (.tmp 49),none,0⟩] false) (.skip)))) (.seq (.ops [⟨some 50,.move (.tmp 5),none,0⟩,
 ⟨some 51,.move (.const (.int .i64 0)),none,0⟩] false) (.block 2 (.loop c87_2))))))) (.ops [⟨some 100,.bin .add (.tmp 37) (.const (.int .i64 1)),none,0⟩,
 ⟨some 37,.move (.tmp 100),none,0⟩] false)))
def c87 : PC := .seq (.ops [⟨some 2,.box (.tmp 0),none,0⟩,
 ⟨some 3,.box (.tmp 1),none,0⟩,
 ⟨some 4,.move (.const (.slice none 0 0)),none,0⟩] false) (.seq (.ops [⟨some 15,.faddr 1 (.tmp 2),none,0⟩,
 ⟨some 16,.load1 (.tmp 15),none,1⟩,
 ⟨some 17,.len (.tmp 16),none,3⟩,
 ⟨some 18,.faddr 0 (.tmp 3),none,0⟩,
 ⟨some 19,.load1 (.tmp 18),none,8⟩,
 ⟨some 20,.len (.tmp 19),none,24⟩,
 ⟨some 21,.faddr 1 (.tmp 3),none,0⟩,
 ⟨some 22,.load1 (.tmp 21),none,64⟩,
 ⟨some 23,.len (.tmp 22),none,192⟩,
 ⟨some 24,.bin .add (.tmp 20) (.tmp 23),none,504⟩,
 ⟨some 5,.move (.tmp 17),none,7⟩,
 ⟨some 6,.move (.tmp 24),none,2047⟩] true) (.seq (.ops [⟨some 25,.faddr 0 (.tmp 3),none,0⟩,
 ⟨some 26,.load1 (.tmp 25),none,1⟩,
 ⟨some 27,.call 88 [(.tmp 26)],none,3⟩,
 ⟨some 28,.faddr 1 (.tmp 3),none,0⟩,
 ⟨some 29,.load1 (.tmp 28),none,8⟩,
 ⟨some 30,.append 1 8 (.tmp 27) (.tmp 29),none,31⟩,
 ⟨some 7,.move (.tmp 30),none,63⟩] true) (.seq (.ops [⟨some 31,.move (.tmp 5),none,0⟩,
 ⟨some 32,.move (.tmp 6),none,0⟩,
 ⟨some 33,.bin .mul (.tmp 31) (.tmp 32),none,0⟩,
 ⟨some 34,.mslice 1 24 [(.slice none 0 0)] (.tmp 33) (.tmp 33),none,0⟩,
 ⟨some 8,.move (.tmp 34),none,0⟩] false) (.seq (.seq (.ops [⟨some 35,.move (.tmp 7),none,0⟩,
 ⟨some 36,.len (.tmp 35),none,0⟩,
 ⟨some 37,.move (.const (.int .i64 0)),none,0⟩] false) (.stop (.block 0 (.loop c87_1)))) (.seq (.ops [⟨some 101,.move (.tmp 8),none,0⟩,
 ⟨some 4,.move (.tmp 101),none,0⟩] false) (.ret))))))
set_option maxRecDepth 100000 in
theorem c87_ok : FunOK Try.prog 87 102 [.tmp 4] c87 := ⟨⟨Try.f87, Try.func87, rfl, by kernel_rfl, rfl, by kernel_rfl⟩⟩
set_option maxRecDepth 100000 in
theorem au_product (A : AutoD) (hc : A.chk = 0) (hF : FitsG A.next) (f : Nat → Int) (a p : Nat) (hp : 1 ≤ p) (h60 : a + p ≤ 60) : PCall Try.prog 87 [dauto A, dword (seg f 0 a) (seg f a p)] (dgrid (prodP A f a p)) := by
  obtain ⟨hm, hnn, h2048, h80, hst, hin, hfr⟩ := chk_auto A hc
  have hrow := fun k => inB_row hin k
  have hfit := fun s (hs : s < A.next.length) x => au_Fits A hm hnn s hs x
  have hnm : A.next.length * (a + p) ≤ 2048 * 60 := Nat.mul_le_mul h2048 h60
  have hls : (seg f 0 a).length = a := seg_len _ _ _
  have hll : (seg f a p).length = p := seg_len _ _ _
  have hCl := cloneO_u64 (seg f 0 a) (by omega)
  have hcw := pure_wcells (seg f 0 a) (seg f a p)
  refine pcall_intro c87_ok (by simp) (by simp [PureL, Pure, pure_dauto, pure_dword]) ?_ (pure_dgrid _)
  unfold dauto dword wcells dlet
  (apply rd_sound; focus (repeat' constructor))
  ((conv=>whnf);repeat(refine .intro rfl ?_;conv=>whnf))
  rw [List.length_map, List.length_map, List.length_map, hls, hll]
  (refine .inl ⟨by (unfold InR; rw [IntKind.wrap_i64]; omega), ?_⟩; ((conv=>whnf);repeat(refine .intro rfl ?_;conv=>whnf)))
  (refine .inr (.inr (.inr (.inr (.inl ⟨_, _, _, (acallAt_new hCl (by simp [PureL, Pure]) [2] rfl rfl (by simp [AObj.ren, renL, D.ren]; rfl)), ?_⟩)))); ((conv=>whnf);repeat(refine .intro rfl ?_;conv=>whnf)))
  refine ⟨(by unfold sliceAppend; simp only [ll]; omega), ?_⟩
  ((conv=>whnf);repeat(refine .intro rfl ?_;conv=>whnf))
  rw [hls, List.length_map, hll, letL_two, show ((A.next.length : Int) * ((a : Int) + (p : Int))) = ((A.next.length * (a + p) : Nat) : Int) by rw [Int.natCast_mul, Int.natCast_add]]
  (refine .inl ⟨by (unfold InR; rw [IntKind.wrap_i64]; omega), ?_⟩; ((conv=>whnf);repeat(refine .intro rfl ?_;conv=>whnf)))
  generalize hN : A.next.length * (a + p) = N at *
  refine ⟨by omega, by omega, by omega, ?_⟩
  rw [Int.toNat_natCast]
  ((conv=>whnf);repeat(refine .intro rfl ?_;conv=>whnf))
  simp only [Nat.sub_zero]
  have hgl : ∀ i s j, (gridP A f a p i s j).length = N := fun i s j => by rw [gridP_len, hN]
  obtain ⟨W, hW⟩ : ∃ W : List D, W = [D.lst 1 (List.map (fun n => [D.sc (.int .u64 n)]) (seg f 0 a)), D.lst 1 (List.map (fun n => [D.sc (.int .u64 n)]) (seg f a p))] := ⟨_, rfl⟩
  have hcW : PureL W := by rw [hW]; exact hcw
  refine pwp_cut (fun _ : Unit => [(8, .own 3 0 0 N)]) (fun _ => [.row true A.cells, .row true W, .vec true 2 1 (letL f (a + p)), .vec true 0 1 ((prodP A f a p).map fun l => [dints l])]) (fun _ => True) ?_ ?_
  · rw [← hW]
    (apply rd_sound; focus (repeat' constructor))
    ((conv=>whnf);repeat(refine .intro rfl ?_;conv=>whnf))
    refine pwp_ghostB (leB_nils 3 1 N 0 (by simp) rfl) ?_
    refine pwp_forH [2, 3, 5, 6, 7, 8, 35, 36] (fun i : Nat => [(37, .sc (.int .i64 i))]) (fun i => .row true A.cells :: .row true W :: .vec true 2 1 (letL f (a + p)) :: .vec true 0 1 (ogRows 4 (gridP A f a p i 0 0)) :: ogObjs 1 ncell (gridP A f a p i 0 0)) (fun i => i ≤ a + p) (fun i => a + p - i) 0 ?_
    ((conv=>whnf);repeat(refine .intro rfl ?_;conv=>whnf))
    refine ⟨by omega, by (repeat' (first | exact trivial | refine And.intro rfl ?_)), ?_, ?_⟩
    · rw [gridP_zero, hN]
      show _ :: _ :: _ :: _ :: _ = _ :: _ :: _ :: _ :: _
      rw [ogObjs_nils 1 _ ncell]
      exact congrArg (fun x => _ :: _ :: _ :: AObj.vec true 0 1 x :: _) (ogRows_nils (α := Int) 4 _)
    rintro i hi
    ((conv=>whnf);repeat(refine .intro rfl ?_;conv=>whnf))
    (apply rd_sound; focus (repeat' constructor))
    ((conv=>whnf);repeat(refine .intro rfl ?_;conv=>whnf))
    (refine ifK_split (fun q0 => ?_) (fun q0 => ?_) <;> (rw [q0]; ((conv=>whnf);repeat(refine .intro rfl ?_;conv=>whnf))))
    · have q0 : i < a + p := by ((try simp only[oo,reduceCtorEq]at*)<;>omega)
      (refine ⟨by omega, (by first | omega | (simp; done) | (simp; omega) | (simp only [ll]; omega)), ?_⟩; ((conv=>whnf);repeat(refine .intro rfl ?_;conv=>whnf)))
      refine ⟨_, letL_at (i := i) (by omega) q0, ?_⟩
      ((conv=>whnf);repeat(refine .intro rfl ?_;conv=>whnf))
      (refine .inl ⟨by (unfold InR; rw [IntKind.wrap_i64]; omega), ?_⟩; ((conv=>whnf);repeat(refine .intro rfl ?_;conv=>whnf)))
      refine pwp_cut (fun _ : Unit => [(2, .loc 0 0), (3, .loc 1 0), (5, .sc (.int .i64 A.next.length)), (6, .sc (.int .i64 ((a : Int) + p))), (7, .own 2 2 0 (a + p)), (8, .own 3 0 0 N), (9, .sc (.int .i64 i)), (10, .sc (.int .u64 (f i))), (11, .sc (.int .i64 (thenW a p i))), (35, .own 2 2 0 (a + p)), (36, .sc (.int .i64 ((a + p : Nat) : Int))), (37, .sc (.int .i64 i))])
        (fun _ => .row true A.cells :: .row true W :: .vec true 2 1 (letL f (a + p)) :: .vec true 0 1 (ogRows 4 (gridP A f a p i 0 0)) :: ogObjs 1 ncell (gridP A f a p i 0 0)) (fun _ => True) ?_ ?_
      · (apply rd_sound; focus (repeat' constructor))
        ((conv=>whnf);repeat(refine .intro rfl ?_;conv=>whnf))
        (refine ifK_split (fun q1 => ?_) (fun q1 => ?_) <;> (rw [q1]; ((conv=>whnf);repeat(refine .intro rfl ?_;conv=>whnf))))
        · have e : thenW a p i = a := by unfold thenW; rw [if_pos (by ((try simp only[oo,reduceCtorEq]at*)<;>omega))]
          rw [e, hW]
          ((conv=>whnf);repeat(refine .intro rfl ?_;conv=>whnf))
          rw [List.length_map, hls]
          exact ⟨(), trivial, leB_env (by (repeat' (first | exact trivial | refine And.intro rfl ?_)))⟩
        · have e : thenW a p i = i + 1 := by unfold thenW; rw [if_neg (by ((try simp only[oo,reduceCtorEq]at*)<;>omega))]
          rw [e]
          exact ⟨(), trivial, leB_env (by (repeat' (first | exact trivial | refine And.intro rfl ?_)))⟩
      rintro _ _
      have hth := thenW_lt (a := a) hp q0
      ((conv=>whnf);repeat(refine .intro rfl ?_;conv=>whnf))
      refine pwp_forH [2, 3, 5, 6, 7, 8, 9, 10, 11, 35, 36, 37, 50] (fun s : Nat => [(51, .sc (.int .i64 s))]) (fun s => .row true A.cells :: .row true W :: .vec true 2 1 (letL f (a + p)) :: .vec true 0 1 (ogRows 4 (gridP A f a p i s 0)) :: ogObjs 1 ncell (gridP A f a p i s 0)) (fun s => s ≤ A.next.length) (fun s => A.next.length - s) 0 ?_
      ((conv=>whnf);repeat(refine .intro rfl ?_;conv=>whnf))
      refine ⟨by omega, by (repeat' (first | exact trivial | refine And.intro rfl ?_)), rfl, ?_⟩
      rintro s hs
      ((conv=>whnf);repeat(refine .intro rfl ?_;conv=>whnf))
      (apply rd_sound; focus (repeat' constructor))
      ((conv=>whnf);repeat(refine .intro rfl ?_;conv=>whnf))
      (refine ifK_split (fun q1 => ?_) (fun q1 => ?_) <;> (rw [q1]; ((conv=>whnf);repeat(refine .intro rfl ?_;conv=>whnf))))
      · have q1 : s < A.next.length := by ((try simp only[oo,reduceCtorEq]at*)<;>omega)
        (refine .inl ⟨_, (hfit s q1 (f i)), ?_⟩; ((conv=>whnf);repeat(refine .intro rfl ?_;conv=>whnf)))
        have hnode := node_lt (m := a + p) q1 q0
        rw [hN] at hnode
        cases r : fitsV A s (f i)
        · ((conv=>whnf);repeat(refine .intro rfl ?_;conv=>whnf))
          rw [gridP_next q1 (by rw [← nextsT_all, nextsT_no r, nextsT_no r])]
          (refine .inl ⟨by (unfold InR; rw [IntKind.wrap_i64]; omega), ?_⟩; ((conv=>whnf);repeat(refine .intro rfl ?_;conv=>whnf)))
          exact ⟨s + 1, by omega, by dsimp only; omega, leB_envH (by (repeat' (first | exact trivial | refine And.intro rfl ?_))) rfl⟩
        · ((conv=>whnf);repeat(refine .intro rfl ?_;conv=>whnf))
          have hgF := hF.at s
          refine ⟨by omega, _, gridD_at (g := A.next) (k := s) (by omega) q1, ?_⟩
          ((conv=>whnf);repeat(refine .intro rfl ?_;conv=>whnf))
          rw [List.length_map]
          refine pwp_forH [2, 3, 5, 6, 7, 8, 9, 10, 11, 12, 35, 36, 37, 50, 51, 63, 64] (fun j : Nat => [(65, .sc (.int .i64 j))]) (fun j => .row true A.cells :: .row true W :: .vec true 2 1 (letL f (a + p)) :: .vec true 0 1 (ogRows 4 (gridP A f a p i s j)) :: ogObjs 1 ncell (gridP A f a p i s j)) (fun j => j ≤ (A.next.getD s []).length) (fun j => (A.next.getD s []).length - j) 0 ?_
          ((conv=>whnf);repeat(refine .intro rfl ?_;conv=>whnf))
          refine ⟨by omega, by (repeat' (first | exact trivial | refine And.intro rfl ?_)), rfl, ?_⟩
          rintro j hj
          ((conv=>whnf);repeat(refine .intro rfl ?_;conv=>whnf))
          (apply rd_sound; focus (repeat' constructor))
          ((conv=>whnf);repeat(refine .intro rfl ?_;conv=>whnf))
          (refine ifK_split (fun q2 => ?_) (fun q2 => ?_) <;> (rw [q2]; ((conv=>whnf);repeat(refine .intro rfl ?_;conv=>whnf))))
          · have q2 : j < (A.next.getD s []).length := by ((try simp only[oo,reduceCtorEq]at*)<;>omega)
            have eS := nextsT_succ (a := a) (p := p) r q2
            have hx := inB_mem (hrow s) (mem_getD q2)
            have hrl := nextsT_len A f a p s i j
            refine ⟨by omega, _, intsD_at (l := A.next.getD s []) (k := j) (by omega) q2, ?_⟩
            ((conv=>whnf);repeat(refine .intro rfl ?_;conv=>whnf))
            (refine ⟨by omega, (by first | omega | (simp; done) | (simp; omega) | (simp only [ll]; omega)), ?_⟩; ((conv=>whnf);repeat(refine .intro rfl ?_;conv=>whnf)))
            refine ⟨_, letL_at (i := thenW a p i) (by omega) hth, ?_⟩
            ((conv=>whnf);repeat(refine .intro rfl ?_;conv=>whnf))
            generalize (A.next.getD s []).getD j 0 = x at *
            have hfx := hfit x.toNat (by omega) (f (thenW a p i))
            rw [Int.toNat_of_nonneg hx.1] at hfx
            (refine .inl ⟨_, hfx, ?_⟩; ((conv=>whnf);repeat(refine .intro rfl ?_;conv=>whnf)))
            cases r2 : fitsV A x.toNat (f (thenW a p i))
            · rw [r2, if_neg (by decide)] at eS
              ((conv=>whnf);repeat(refine .intro rfl ?_;conv=>whnf))
              (refine .inl ⟨by (unfold InR; rw [IntKind.wrap_i64]; omega), ?_⟩; ((conv=>whnf);repeat(refine .intro rfl ?_;conv=>whnf)))
              have hsame : gridP A f a p i s (j + 1) = gridP A f a p i s j := by unfold gridP; rw [eS]
              refine ⟨j + 1, by omega, by dsimp only; omega, leB_envH (by (repeat' (first | exact trivial | refine And.intro rfl ?_))) ?_⟩
              dsimp only
              rw [hsame]
            · rw [r2, if_pos rfl] at eS
              have hset := gridP_set (A := A) (f := f) (a := a) (p := p) (j := j) (k := j + 1) q1 q0
              rw [eS, cellP_snoc] at hset
              have hgk := gridP_at (A := A) (f := f) (a := a) (p := p) (j := j) q1 q0
              have hlen := hgl i s j
              have hcl := cellP_len A.next.length a p i (nextsT A f a p s i j)
              generalize hcv : cellP A.next.length a p i (nextsT A f a p s i j) = C at *
              have e1 : (i : Int) * (A.next.length : Int) = ((i * A.next.length : Nat) : Int) := by rw [Int.natCast_mul]
              have hth2 := node_lt (n := A.next.length) (m := a + p) (k := thenW a p i) (j := x.toNat) (by omega) hth
              rw [hN] at hth2
              have e2 : (thenW a p i : Int) * (A.next.length : Int) = ((thenW a p i * A.next.length : Nat) : Int) := by rw [Int.natCast_mul]
              generalize hR2 : gridP A f a p i s (j + 1) = R2 at *
              generalize hR : gridP A f a p i s j = R at *
              ((conv=>whnf);repeat(refine .intro rfl ?_;conv=>whnf))
              rw [e1]
              generalize hv : i * A.next.length = v at *
              generalize thenW a p i * A.next.length = v2 at *
              (refine .inl ⟨by (unfold InR; rw [IntKind.wrap_i64]; omega), ?_⟩; ((conv=>whnf);repeat(refine .intro rfl ?_;conv=>whnf)))
              (refine .inl ⟨by (unfold InR; rw [IntKind.wrap_i64]; omega), ?_⟩; ((conv=>whnf);repeat(refine .intro rfl ?_;conv=>whnf)))
              rw [e1]
              (refine .inl ⟨by (unfold InR; rw [IntKind.wrap_i64]; omega), ?_⟩; ((conv=>whnf);repeat(refine .intro rfl ?_;conv=>whnf)))
              (refine .inl ⟨by (unfold InR; rw [IntKind.wrap_i64]; omega), ?_⟩; ((conv=>whnf);repeat(refine .intro rfl ?_;conv=>whnf)))
              (refine ⟨by omega, (by first | omega | (simp; done) | (simp; omega) | (simp only [ll]; omega)), ?_⟩; ((conv=>whnf);repeat(refine .intro rfl ?_;conv=>whnf)))
              refine ⟨_, ogRows_at (i := v + s) (by omega) (by omega), ?_⟩
              ((conv=>whnf);repeat(refine .intro rfl ?_;conv=>whnf))
              rw [e2]
              (refine .inl ⟨by (unfold InR; rw [IntKind.wrap_i64]; omega), ?_⟩; ((conv=>whnf);repeat(refine .intro rfl ?_;conv=>whnf)))
              (refine .inl ⟨by (unfold InR; rw [IntKind.wrap_i64]; omega), ?_⟩; ((conv=>whnf);repeat(refine .intro rfl ?_;conv=>whnf)))
              refine og_push ?_
              ((conv=>whnf);repeat(refine .intro rfl ?_;conv=>whnf))
              (repeat (first | (refine og_getE 0 rfl ?_; ((conv=>whnf);repeat(refine .intro rfl ?_;conv=>whnf))) | (refine og_putE 0 rfl ?_; ((conv=>whnf);repeat(refine .intro rfl ?_;conv=>whnf))) | (refine og_getE 1 rfl ?_; ((conv=>whnf);repeat(refine .intro rfl ?_;conv=>whnf))) | (refine og_putE 1 rfl ?_; ((conv=>whnf);repeat(refine .intro rfl ?_;conv=>whnf)))))
              refine og_getT (by omega) ?_
              ((conv=>whnf);repeat(refine .intro rfl ?_;conv=>whnf))
              rw [hgk]
              refine ⟨by unfold sliceAppend; simp only [List.length_drop, List.length_take, List.length_cons, List.length_nil]; omega, ?_⟩
              ((conv=>whnf);repeat(refine .intro rfl ?_;conv=>whnf))
              refine og_putT (C ++ [(v2 : Int) + x]) (by omega) ?_ ?_
              · exact og_app
              ((conv=>whnf);repeat(refine .intro rfl ?_;conv=>whnf))
              (refine ⟨by omega, (by first | omega | (simp; done) | (simp; omega) | (simp only [ll]; omega)), ?_⟩; ((conv=>whnf);repeat(refine .intro rfl ?_;conv=>whnf)))
              refine ⟨_, ogRows_at (i := v + s) (by omega) (by omega), ?_⟩
              ((conv=>whnf);repeat(refine .intro rfl ?_;conv=>whnf))
              (refine .inl ⟨by (unfold InR; rw [IntKind.wrap_i64]; omega), ?_⟩; ((conv=>whnf);repeat(refine .intro rfl ?_;conv=>whnf)))
              refine ⟨j + 1, by omega, by dsimp only; omega, ?_⟩
              dsimp only
              rw [hR2]
              have hl2 : R2.length = N := by rw [← hset, List.length_set, hlen]
              refine leB_close (N + 4) (by simp [hN]) (by simp [hl2]) (by (repeat' (first | exact trivial | exact rfl | exact DeepM.refl _ | exact DeepML.refl _ | exact DeepMLL.refl _ | refine And.intro ?_ ?_ | (simp [Under, UnderL, UnderLL, -List.map_take, -List.map_drop]; done)))) ⟨⟨rfl, .refl _, underL_pure _ (pure_aucells A)⟩, ⟨rfl, .refl _, underL_pure _ hcW⟩, ⟨rfl, rfl, rfl, .refl _, underLL_pure _ (pure_letL _ _)⟩, ⟨rfl, rfl, rfl, deepMLL_eq ?_, underLL_ogRows (by rw [← hset, List.length_set]; omega)⟩, by rw [← hset]; exact closeH_og under_ncell⟩
              rw [← hset]
              exact (ogRows_set (by omega) (by omega) (C ++ [(v2 : Int) + x]) (by simp))
          · have q2 : j = (A.next.getD s []).length := by have : ¬ j < (A.next.getD s []).length := by ((try simp only[oo,reduceCtorEq]at*)<;>omega)
                                                          omega
            subst q2
            rw [gridP_next q1 (nextsT_all ..)]
            (refine .inl ⟨by (unfold InR; rw [IntKind.wrap_i64]; omega), ?_⟩; ((conv=>whnf);repeat(refine .intro rfl ?_;conv=>whnf)))
            exact ⟨s + 1, by omega, by dsimp only; omega, leB_envH (by (repeat' (first | exact trivial | refine And.intro rfl ?_))) rfl⟩
      · have q1 : s = A.next.length := by have : ¬ s < A.next.length := by ((try simp only[oo,reduceCtorEq]at*)<;>omega)
                                          omega
        subst q1
        rw [gridP_turn]
        (refine .inl ⟨by (unfold InR; rw [IntKind.wrap_i64]; omega), ?_⟩; ((conv=>whnf);repeat(refine .intro rfl ?_;conv=>whnf)))
        exact ⟨i + 1, by omega, by dsimp only; omega, leB_envH (by (repeat' (first | exact trivial | refine And.intro rfl ?_))) rfl⟩
    · have q0 : i = a + p := by have : ¬ i < a + p := by ((try simp only[oo,reduceCtorEq]at*)<;>omega)
                                omega
      subst q0
      rw [gridP_done]
      refine ⟨(), trivial, leB_close 4 (by simp) rfl (by (repeat' (first | exact trivial | exact rfl | exact DeepM.refl _ | exact DeepML.refl _ | exact DeepMLL.refl _ | refine And.intro ?_ ?_ | (simp [Under, UnderL, UnderLL, -List.map_take, -List.map_drop]; done)))) ⟨⟨rfl, .refl _, underL_pure _ (pure_aucells A)⟩, ⟨rfl, .refl _, underL_pure _ hcW⟩, ⟨rfl, rfl, rfl, .refl _, underLL_pure _ (pure_letL _ _)⟩, ⟨rfl, rfl, rfl, deepM_ogRows (c := ncell) (fun i hi => by simp [fromN]) (fun i hi => ?_), underLL_pure _ (pure_gridV _)⟩, closeH_nil _⟩⟩
      show (ogObjs 1 ncell (prodP A f a p))[i]? = _
      exact ogObjs_at hi
  · intro _ _
    ((conv=>whnf);repeat(refine .intro rfl ?_;conv=>whnf))
    exact .own _ _ _ _ _ _ _ _ rfl (by rw [drop_take_all (by simp [← hN])]; exact deepLL_refl _)
end

/-! ### XAu9 -/
section
open Go.RowKit
set_option linter.unusedSimpArgs false
set_option linter.unusedVariables false
theorem pigeon : ∀ (n m : Nat) (h : Nat → Nat), (∀ i, i < m → h i < n) → (∀ i j, i < m → j < m → h i = h j → i = j) → m ≤ n
  | 0, m, h, h1, _ => by
    rcases Nat.eq_zero_or_pos m with e | e
    · omega
    · have := h1 0 e; omega
  | n + 1, m, h, h1, h2 => by
    by_cases q : ∃ i, i < m ∧ h i = n
    · obtain ⟨i0, q1, q2⟩ := q
      have := pigeon n (m - 1) (fun i => h (if i = i0 then m - 1 else i)) (fun i hi => by
        split
        · rename_i e
          have a1 := h1 (m - 1) (by omega)
          have a2 : h (m - 1) ≠ n := fun e2 => by have := h2 (m - 1) i0 (by omega) q1 (by rw [e2, q2]); omega
          omega
        · rename_i e
          have a1 := h1 i (by omega)
          have a2 : h i ≠ n := fun e2 => e (h2 i i0 (by omega) q1 (by rw [e2, q2]))
          omega) (fun i j hi hj e => by
        have := h2 _ _ (by split <;> omega) (by split <;> omega) e
        split at this <;> split at this <;> omega)
      omega
    · have := pigeon n m h (fun i hi => by have := h1 i hi; have : h i ≠ n := fun e => q ⟨i, hi, e⟩; omega) h2
      omega
theorem ReI.short {g : List (List Int)} {from_ : List Int} {num : Nat → Int} {L T : List Int} (h : ReI g from_ num L T) : L.length ≤ g.length :=
  pigeon g.length L.length (fun i => (L.getD i 0).toNat) (fun i hi => (h.rngL _ (mem_getD hi)).2) fun i j hi hj e => by
    have a := h.at_ i hi
    have b := h.at_ j hj
    rw [e] at a
    omega
theorem small_fine {g : List (List Int)} {from_ : List Int} {s : ReS} (h : ReI g from_ s.num s.L []) {L : Nat} (hL : ∀ l ∈ g, l.length ≤ L) : (∀ l ∈ smallG g s, inB l (smallG g s).length = true) ∧ (smallG g s).length = s.L.length ∧ ∀ l ∈ smallG g s, l.length ≤ L := by
  have hl : (smallG g s).length = s.L.length := by simp [smallG]
  refine ⟨fun l hl' => ?_, hl, fun l hl' => ?_⟩
  · obtain ⟨i, hi, rfl⟩ := List.mem_map.1 hl'
    have hi := List.mem_range.1 hi
    rw [hl]
    refine inB_of fun x hx => ?_
    obtain ⟨y, h1, rfl⟩ := List.mem_map.1 hx
    have hy := (h.closed _ (mem_getD (l := s.L) (k := i) hi) y h1).resolve_right (by simp)
    obtain ⟨j, hj, e⟩ := getD_mem hy
    have := h.at_ j hj
    rw [e] at this
    omega
  · obtain ⟨i, hi, rfl⟩ := List.mem_map.1 hl'
    rw [List.length_map, List.getD_eq_getElem?_getD]
    cases e : g[(s.L.getD i 0).toNat]? with
    | none => simp
    | some l => exact hL l (List.mem_of_getElem? e)
/-- The states at which one may begin. -/
def fromT (A : AutoD) (x : Int) (k : Nat) : List Int := (A.start.take k).filter fun s => fitsV A s.toNat x
theorem fromT_succ {A : AutoD} {x : Int} {k : Nat} (h : k < A.start.length) : fromT A x (k + 1) = if fitsV A (A.start.getD k 0).toNat x = true then fromT A x k ++ [A.start.getD k 0] else fromT A x k := by
  unfold fromT
  rw [List.take_add_one, List.getElem?_eq_getElem h, List.filter_append, List.getD_eq_getElem?_getD, List.getElem?_eq_getElem h]
  simp only [Option.toList_some, Option.getD_some, List.filter_cons, List.filter_nil]
  split <;> simp
theorem fromT_len (A : AutoD) (x : Int) (k : Nat) : (fromT A x k).length ≤ k := Nat.le_trans (List.length_filter_le _ _) (by simp; omega)
theorem fromT_all (A : AutoD) (x : Int) : fromT A x A.start.length = A.start.filter fun s => fitsV A s.toNat x := by unfold fromT; rw [List.take_length]
/-- A set as what can be come to has it. -/
def setL (n : Nat) (L : List Int) (l : List Int) : Nat → Bool := fun v => setB l ((L.getD v 0).toNat % n)
noncomputable def goodK (g : List (List Int)) (n : Nat) (L : List Int) (F : List (List Int)) (k : Nat) : Nat → Bool := fun i => okT g g.length i && (F.take k).all fun l => hasF g (setL n L l) g.length i
theorem goodK_succ {g : List (List Int)} {n : Nat} {L : List Int} {F : List (List Int)} {k : Nat} (h : k < F.length) (i : Nat) : goodK g n L F (k + 1) i = (goodK g n L F k i && hasF g (setL n L (F.getD k [])) g.length i) := by
  unfold goodK
  rw [List.take_add_one, List.getElem?_eq_getElem h, List.all_append, List.getD_eq_getElem?_getD, List.getElem?_eq_getElem h]
  simp only [Option.toList_some, Option.getD_some, List.all_cons, List.all_nil, Bool.and_true, Bool.and_assoc]
theorem goodK_all {g : List (List Int)} {n : Nat} {L : List Int} {F : List (List Int)} (i : Nat) : goodK g n L F F.length i = goodS g (F.map (setL n L)) i := by
  unfold goodK goodS
  rw [List.take_length, List.all_map]
  rfl
theorem accepts_iff {A : AutoD} (hin : ∀ l ∈ A.start, True) {g : List (List Int)} (hg : ∀ l ∈ g, inB l g.length = true) {x : Int} (hf : inB (A.start.filter fun s => fitsV A s.toNat x) g.length = true) (n : Nat) (F : List (List Int)) :
    (∃ i, i < (smallG g (finD g (A.start.filter fun s => fitsV A s.toNat x))).length ∧ goodK (smallG g (finD g (A.start.filter fun s => fitsV A s.toNat x))) n (finD g (A.start.filter fun s => fitsV A s.toNat x)).L F F.length i = true) ↔ ∃ s ∈ A.start, fitsV A s.toNat x = true ∧ Fw g (F.map (setP n)) s.toNat := by
  generalize hfr : (A.start.filter fun s => fitsV A s.toNat x) = from_ at *
  have hin : ∀ v x, x ∈ g.getD v [] → 0 ≤ x ∧ x.toNat < g.length := fun v x hx => by have := inB_mem (inB_row hg v) hx; omega
  have hI0 : ReI g from_ (beginD from_).num (beginD from_).L (beginD from_).T := ReI.begin fun x hx => by have := inB_mem hf hx; omega
  have hI := itD_inv hin hI0 (muD g (beginD from_))
  have hT : (finD g from_).T = [] := List.length_eq_zero_iff.1 (itD_end hin hI0)
  change ReI g from_ (finD g from_).num (finD g from_).L (finD g from_).T at hI
  rw [hT] at hI
  obtain ⟨f1, f2, _⟩ := small_fine hI (L := (g.map List.length).foldl Nat.max 0 + g.length * 0 + (g.map List.length).sum) fun l hl => by
    have : ∀ (q : List (List Int)), l ∈ q → l.length ≤ (q.map List.length).sum := fun q => by
      induction q with
      | nil => intro h; cases h
      | cons a r ih => intro h; rcases List.mem_cons.1 h with rfl | h <;> simp only [List.map_cons, List.sum_cons]; omega; have := ih h; omega
    have := this g hl
    omega
  generalize finD g from_ = s at *
  simp only [goodK_all]
  rw [goodS_any (fun v x hx => by have := inB_mem (inB_row f1 v) hx; omega)]
  have := hI.fin (small := smallG g s) f2 (fun i hi => by
    rw [List.getD_eq_getElem?_getD]; simp [smallG, hi]) (F.map (setP n))
  rw [List.map_map] at this
  refine Iff.trans this ?_
  subst hfr
  constructor
  · rintro ⟨y, h1, h2⟩
    obtain ⟨h3, h4⟩ := List.mem_filter.1 h1
    exact ⟨y, h3, h4, h2⟩
  · rintro ⟨y, h1, h2, h3⟩
    exact ⟨y, List.mem_filter.2 ⟨h1, h2⟩, h3⟩
end

/-! ### XAua -/
section
open Go.RowKit
set_option linter.unusedSimpArgs false
set_option linter.unusedVariables false
structure AutoD.Tame (A : AutoD) : Prop where
  start : A.start.length ≤ 1048576
  next : ∀ l ∈ A.next, l.length ≤ 1048576
  fair : ∀ l ∈ A.fair, l.length ≤ 1048576
def c28_1 : PC := .seq (.ops [⟨some 38,.bin .lss (.tmp 37) (.tmp 36),none,0⟩] false) (.seq (.cond (.tmp 38) (.skip) (.exit 0)) (.seq (.block 1 (.seq (.ops [⟨some 39,.iaddr 1 (.tmp 35) (.tmp 37),none,0⟩,
 ⟨some 40,.load1 (.tmp 39),none,0⟩,
 ⟨some 11,.move (.tmp 40),none,0⟩] false) (.seq (.ops [⟨some 41,.loadA 5 (.tmp 3),none,0⟩,
 ⟨some 42,.move (.tmp 11),none,0⟩,
 ⟨some 43,.move (.tmp 9),none,0⟩,
 ⟨some 44,.call 89 [(.tmp 41), (.tmp 42), (.tmp 43)],none,0⟩] false) (.cond (.tmp 44) (.ops [⟨some 45,.move (.tmp 8),none,0⟩,
 ⟨some 46,.move (.tmp 11),none,0⟩,
 ⟨some 47,.bslice 1 1 [(.tmp 46)],none,0⟩,
 ⟨some 48,.append 1 8 (.tmp 45) (.tmp 47),none,0⟩,
 ⟨some 8,.move (.tmp 48),none,0⟩] false) (.skip))))) (.ops [⟨some 49,.bin .add (.tmp 37) (.const (.int .i64 1)),none,0⟩,
 ⟨some 37,.move (.tmp 49),none,0⟩] false)))
def c28_3 : PC := .seq (.ops [⟨some 77,.bin .lss (.tmp 76) (.tmp 75),none,0⟩] false) (.seq (.cond (.tmp 77) (.skip) (.exit 4)) (.seq (.block 5 (.seq (.ops [⟨some 78,.move (.tmp 76),none,0⟩,
 ⟨some 79,.iaddr 1 (.tmp 74) (.tmp 76),none,0⟩,
 ⟨some 80,.load1 (.tmp 79),none,0⟩,
 ⟨some 20,.move (.tmp 78),none,0⟩,
 ⟨some 21,.move (.tmp 80),none,0⟩] false) (.ops [⟨some 81,.move (.tmp 19),none,0⟩,
 ⟨some 82,.move (.tmp 14),none,0⟩,
 ⟨some 83,.move (.tmp 20),none,0⟩,
 ⟨some 84,.iaddr 1 (.tmp 82) (.tmp 83),none,6⟩,
 ⟨some 85,.load1 (.tmp 84),none,14⟩,
 ⟨some 86,.move (.tmp 19),none,0⟩,
 ⟨some 87,.move (.tmp 14),none,0⟩,
 ⟨some 88,.move (.tmp 20),none,0⟩,
 ⟨some 89,.iaddr 1 (.tmp 87) (.tmp 88),none,192⟩,
 ⟨some 90,.load1 (.tmp 89),none,448⟩,
 ⟨some 91,.iaddr 1 (.tmp 86) (.tmp 90),none,992⟩,
 ⟨some 92,.load1 (.tmp 91),none,2016⟩,
 ⟨some 93,.move (.tmp 92),none,4064⟩,
 ⟨some 94,.move (.tmp 18),some (93,false),8160⟩,
 ⟨some 95,.move (.tmp 21),some (93,false),8160⟩,
 ⟨some 96,.move (.tmp 2),some (93,false),8160⟩,
 ⟨some 97,.bin .rem (.tmp 95) (.tmp 96),some (93,false),57312⟩,
 ⟨some 98,.iaddr 1 (.tmp 94) (.tmp 97),some (93,false),131040⟩,
 ⟨some 99,.load1 (.tmp 98),some (93,false),262112⟩,
 ⟨some 100,.pick (.tmp 93) (.const (.bool true)) (.tmp 99),none,524256⟩,
 ⟨some 101,.iaddr 1 (.tmp 81) (.tmp 85),none,1048575⟩,
 ⟨none,.store 1 (.tmp 101) (.tmp 100),none,2097151⟩] true))) (.ops [⟨some 102,.bin .add (.tmp 76) (.const (.int .i64 1)),none,0⟩,
 ⟨some 76,.move (.tmp 102),none,0⟩] false)))
def c28_4 : PC := .seq (.ops [⟨some 106,.bin .lss (.tmp 105) (.tmp 104),none,0⟩] false) (.seq (.cond (.tmp 106) (.skip) (.exit 6)) (.seq (.block 7 (.seq (.ops [⟨some 107,.move (.tmp 105),none,0⟩,
 ⟨some 22,.move (.tmp 107),none,0⟩] false) (.ops [⟨some 108,.move (.tmp 15),none,0⟩,
 ⟨some 109,.move (.tmp 22),none,0⟩,
 ⟨some 110,.move (.tmp 15),none,0⟩,
 ⟨some 111,.move (.tmp 22),none,0⟩,
 ⟨some 112,.iaddr 1 (.tmp 110) (.tmp 111),none,0⟩,
 ⟨some 113,.load1 (.tmp 112),none,0⟩,
 ⟨some 114,.move (.tmp 113),none,0⟩,
 ⟨some 115,.move (.tmp 19),some (114,true),0⟩,
 ⟨some 116,.move (.tmp 22),some (114,true),0⟩,
 ⟨some 117,.iaddr 1 (.tmp 115) (.tmp 116),some (114,true),0⟩,
 ⟨some 118,.load1 (.tmp 117),some (114,true),0⟩,
 ⟨some 119,.pick (.tmp 114) (.tmp 118) (.const (.bool false)),none,0⟩,
 ⟨some 120,.iaddr 1 (.tmp 108) (.tmp 109),none,0⟩,
 ⟨none,.store 1 (.tmp 120) (.tmp 119),none,0⟩] false))) (.ops [⟨some 121,.bin .add (.tmp 105) (.const (.int .i64 1)),none,0⟩,
 ⟨some 105,.move (.tmp 121),none,0⟩] false)))
def c28_2 : PC := .seq (.ops [⟨some 65,.bin .lss (.tmp 64) (.tmp 63),none,0⟩] false) (.seq (.cond (.tmp 65) (.skip) (.exit 2)) (.seq (.block 3 (.seq (.ops [⟨some 66,.iaddr 1 (.tmp 62) (.tmp 64),none,0⟩,
 ⟨some 67,.load1 (.tmp 66),none,0⟩,
 ⟨some 17,.move (.tmp 67),none,0⟩] false) (.seq (.ops [⟨some 68,.move (.tmp 17),none,0⟩,
 ⟨some 69,.move (.tmp 2),none,0⟩,
 ⟨some 70,.call 37 [(.tmp 68), (.tmp 69)],none,0⟩,
 ⟨some 18,.move (.tmp 70),none,0⟩] false) (.seq (.ops [⟨some 71,.move (.tmp 13),none,0⟩,
 ⟨some 72,.len (.tmp 71),none,0⟩,
 ⟨some 73,.mslice 1 1 [(.bool false)] (.tmp 72) (.tmp 72),none,0⟩,
 ⟨some 19,.move (.tmp 73),none,0⟩] false) (.seq (.seq (.ops [⟨some 74,.move (.tmp 12),none,0⟩,
 ⟨some 75,.len (.tmp 74),none,0⟩,
 ⟨some 76,.move (.const (.int .i64 0)),none,0⟩] false) (.block 4 (.loop c28_3))) (.seq (.ops [⟨some 103,.move (.tmp 15),none,0⟩,
 ⟨some 104,.len (.tmp 103),none,0⟩,
 ⟨some 105,.move (.const (.int .i64 0)),none,0⟩] false) (.block 6 (.loop c28_4)))))))) (.ops [⟨some 122,.bin .add (.tmp 64) (.const (.int .i64 1)),none,0⟩,
 ⟨some 64,.move (.tmp 122),none,0⟩] false)))
def c28 : PC := .seq (.ops [⟨some 3,.box (.tmp 0),none,0⟩,
 ⟨some 4,.box (.tmp 1),none,0⟩,
 ⟨some 6,.move (.const (.bool false)),none,0⟩] false) (.seq (.ops [⟨some 23,.loadA 5 (.tmp 3),none,0⟩,
 ⟨some 24,.loadA 2 (.tmp 4),none,0⟩,
 ⟨some 25,.call 87 [(.tmp 23), (.tmp 24)],none,0⟩,
 ⟨some 7,.move (.tmp 25),none,0⟩] false) (.seq (.ops [⟨some 8,.move (.const (.slice none 0 0)),none,0⟩] false) (.seq (.ops [⟨some 26,.faddr 0 (.tmp 4),none,0⟩,
 ⟨some 27,.load1 (.tmp 26),none,1⟩,
 ⟨some 28,.call 88 [(.tmp 27)],none,3⟩,
 ⟨some 29,.faddr 1 (.tmp 4),none,0⟩,
 ⟨some 30,.load1 (.tmp 29),none,8⟩,
 ⟨some 31,.append 1 8 (.tmp 28) (.tmp 30),none,31⟩,
 ⟨some 32,.iaddr 1 (.tmp 31) (.const (.int .i64 0)),none,63⟩,
 ⟨some 33,.load1 (.tmp 32),none,127⟩,
 ⟨some 9,.move (.tmp 33),none,255⟩] true) (.seq (.seq (.ops [⟨some 34,.faddr 0 (.tmp 3),none,0⟩,
 ⟨some 35,.load1 (.tmp 34),none,0⟩,
 ⟨some 36,.len (.tmp 35),none,0⟩,
 ⟨some 37,.move (.const (.int .i64 0)),none,0⟩] false) (.block 0 (.loop c28_1))) (.seq (.ops [⟨some 51,.move (.tmp 7),none,0⟩,
 ⟨some 52,.move (.tmp 8),none,0⟩,
 ⟨some 53,.call 90 [(.tmp 51), (.tmp 52)],none,0⟩,
 ⟨some 50,.move (.tmp 53),none,0⟩,
 ⟨some 54,.ext 0 (.tmp 50),none,0⟩,
 ⟨some 55,.ext 1 (.tmp 50),none,0⟩,
 ⟨some 12,.move (.tmp 54),none,0⟩,
 ⟨some 13,.move (.tmp 55),none,0⟩] false) (.seq (.ops [⟨some 56,.move (.tmp 13),none,0⟩,
 ⟨some 57,.call 56 [(.tmp 56)],none,0⟩,
 ⟨some 14,.move (.tmp 57),none,0⟩] false) (.seq (.ops [⟨some 58,.move (.tmp 13),none,0⟩,
 ⟨some 59,.move (.tmp 14),none,0⟩,
 ⟨some 60,.call 91 [(.tmp 58), (.tmp 59)],none,0⟩,
 ⟨some 15,.move (.tmp 60),none,0⟩] false) (.seq (.seq (.ops [⟨some 61,.faddr 4 (.tmp 3),none,0⟩,
 ⟨some 62,.load1 (.tmp 61),none,0⟩,
 ⟨some 63,.len (.tmp 62),none,0⟩,
 ⟨some 64,.move (.const (.int .i64 0)),none,0⟩] false) (.block 2 (.loop c28_2))) (.seq (.ops [⟨some 123,.move (.tmp 15),none,0⟩,
 ⟨some 124,.call 92 [(.tmp 123), (.const (.bool true))],none,0⟩,
 ⟨some 6,.move (.tmp 124),none,0⟩] false) (.ret))))))))))
set_option maxRecDepth 100000 in
theorem c28_ok : FunOK Try.prog 28 125 [.tmp 6] c28 := ⟨⟨Try.f28, Try.func28, rfl, by kernel_rfl, rfl, by kernel_rfl⟩⟩
set_option maxRecDepth 100000 in
theorem au_accepts (A : AutoD) (hc : A.chk = 0) (hT : A.Tame) (hn : 1 ≤ A.next.length) (f : Nat → Int) (a p : Nat) (hp : 1 ≤ p) (h60 : a + p ≤ 60) (b : Bool) (hb : b = true ↔ ∃ s ∈ A.start, fitsV A s.toNat (f 0) = true ∧ Fw (prodP A f a p) (A.fair.map (setP A.next.length)) s.toNat) :
    PCall Try.prog 28 [dauto A, dword (seg f 0 a) (seg f a p), .sc (.int .i64 A.next.length)] (.sc (.bool b)) := by
  obtain ⟨hm, hnn, h2048, h80, hst, hin, hfr⟩ := chk_auto A hc
  have hF : FitsG A.next := ⟨by omega, fun l hl => by have := hT.next l hl; omega⟩
  have hFF : FitsG A.fair := ⟨by omega, fun l hl => by have := hT.fair l hl; omega⟩
  have hsl := hT.start
  have hnm : A.next.length * (a + p) ≤ 2048 * 60 := Nat.mul_le_mul h2048 h60
  have hPr := au_product A hc hF f a p hp h60
  obtain ⟨g1, g2⟩ := prodP_fine hin hT.next f (a := a) hp
  have hgl := prodP_len A f a p
  have hgF : FitsG (prodP A f a p) := ⟨by omega, fun l hl => by have := g2 l hl; omega⟩
  have hfit := fun s (hs : s < A.next.length) x => au_Fits A hm hnn s hs x
  have hfi : inB (fromT A (f 0) A.start.length) (prodP A f a p).length = true := by
    rw [fromT_all]
    refine inB_of fun x hx => ?_
    have h1 := inB_mem hst (List.mem_filter.1 hx).1
    have h2 := Nat.le_mul_of_pos_right A.next.length (show 0 < a + p by omega)
    omega
  have hfl := fromT_len A (f 0) A.start.length
  have hpot := potG_small (L := 1048576) g2 (fun _ => false)
  have hacc := accepts_iff (A := A) (fun _ _ => trivial) g1 (x := f 0) (by rw [← fromT_all]; exact hfi) A.next.length A.fair
  rw [← fromT_all] at hacc
  rw [← hacc] at hb
  clear hacc
  have hB : muD (prodP A f a p) (beginD (fromT A (f 0) A.start.length)) ≤ 1000000000000 := by
    have h0 : seenD (beginD (fromT A (f 0) A.start.length)) = fun _ => false := rfl
    unfold muD
    rw [h0]
    have h1 := Nat.mul_le_mul_right 1048576 (show (prodP A f a p).length ≤ 122880 by omega)
    show (fromT A (f 0) A.start.length).length + _ ≤ _
    omega
  have hRe := au_reached (prodP A f a p) (by omega) g1 hgF (fromT A (f 0) A.start.length) hfi hB
  have hinp : ∀ v x, x ∈ (prodP A f a p).getD v [] → 0 ≤ x ∧ x.toNat < (prodP A f a p).length := fun v x hx => by have := inB_mem (inB_row g1 v) hx; omega
  have hI0 : ReI (prodP A f a p) (fromT A (f 0) A.start.length) (beginD (fromT A (f 0) A.start.length)).num (beginD (fromT A (f 0) A.start.length)).L (beginD (fromT A (f 0) A.start.length)).T := ReI.begin fun x hx => by have := inB_mem hfi hx; omega
  have hI := itD_inv hinp hI0 (muD (prodP A f a p) (beginD (fromT A (f 0) A.start.length)))
  have hTn : (finD (prodP A f a p) (fromT A (f 0) A.start.length)).T = [] := List.length_eq_zero_iff.1 (itD_end hinp hI0)
  change ReI (prodP A f a p) (fromT A (f 0) A.start.length) (finD (prodP A f a p) (fromT A (f 0) A.start.length)).num (finD (prodP A f a p) (fromT A (f 0) A.start.length)).L (finD (prodP A f a p) (fromT A (f 0) A.start.length)).T at hI
  rw [hTn] at hI
  have hshort := hI.short
  obtain ⟨s1, s2, s3⟩ := small_fine hI g2
  have hrL := hI.rngL
  clear hI hTn hI0 hinp hpot hB
  generalize hS : smallG (prodP A f a p) (finD (prodP A f a p) (fromT A (f 0) A.start.length)) = S at *
  generalize hLL : (finD (prodP A f a p) (fromT A (f 0) A.start.length)).L = L at *
  generalize hG : prodP A f a p = G at *
  have hSF : FitsG S := ⟨by omega, fun l hl => by have := s3 l hl; omega⟩
  have hSp := scc_Split S (by omega) s1 hSF
  have hRo := au_round S (by omega) s1 hSF
  have hpl := fun k (hk : k < S.length) => parts_lt (g := S) hk
  have hmem := fun k (hk : k < A.fair.length) => au_member (A.fair.getD k []) A.next.length (by omega) (hFF.at k) (inB_row hfr k)
  have hCo := contains_truth S.length (goodK S A.next.length L A.fair A.fair.length) (by omega) true
  rw [show ((List.range S.length).map (goodK S A.next.length L A.fair A.fair.length)).contains true = b from by rw [Bool.eq_iff_iff, contains_truth_iff, hb]] at hCo
  have hls : (seg f 0 a).length = a := seg_len _ _ _
  have hll : (seg f a p).length = p := seg_len _ _ _
  have hCl := cloneO_u64 (seg f 0 a) (by omega)
  have hcw := pure_wcells (seg f 0 a) (seg f a p)
  refine pcall_intro c28_ok (by simp) (by simp [PureL, Pure, pure_dauto, pure_dword]) ?_ (by simp [Pure])
  unfold dauto dword wcells dlet at *
  (apply rd_sound; focus (repeat' constructor))
  ((conv=>whnf);repeat(refine .intro rfl ?_;conv=>whnf))
  (refine .inl ⟨_, hPr, ?_⟩; ((conv=>whnf);repeat(refine .intro rfl ?_;conv=>whnf)))
  (refine .inr (.inr (.inr (.inr (.inl ⟨_, _, _, (acallAt_new hCl (by simp [PureL, Pure]) [2] rfl rfl (by simp [AObj.ren, renL, D.ren]; rfl)), ?_⟩)))); ((conv=>whnf);repeat(refine .intro rfl ?_;conv=>whnf)))
  refine ⟨(by unfold sliceAppend; simp only [ll]; omega), ?_⟩
  ((conv=>whnf);repeat(refine .intro rfl ?_;conv=>whnf))
  rw [hls, List.length_map, hll, letL_two]
  (refine ⟨by omega, (by first | omega | (simp; done) | (simp; omega) | (simp only [ll]; omega)), ?_⟩; ((conv=>whnf);repeat(refine .intro rfl ?_;conv=>whnf)))
  refine ⟨_, letL_at (i := 0) (by omega) (by omega), ?_⟩
  ((conv=>whnf);repeat(refine .intro rfl ?_;conv=>whnf))
  obtain ⟨W, hW⟩ : ∃ W : List D, W = [D.lst 1 (List.map (fun n => [D.sc (.int .u64 n)]) (seg f 0 a)), D.lst 1 (List.map (fun n => [D.sc (.int .u64 n)]) (seg f a p))] := ⟨_, rfl⟩
  rw [← hW] at hcw ⊢
  rw [List.length_map]
  refine pwp_ghostB (leB_nil 8 1 (by simp) rfl) ?_
  refine pwp_for [2, 3, 7, 9, 35, 36] (fun ((k, c) : Nat × Nat) => [(8, .own 3 c 0 c), (37, .sc (.int .i64 k))]) (fun (k, c) => [(3, .vec true c 1 (i64s (fromT A (f 0) k)))]) (fun (k, c) => k ≤ A.start.length ∧ (fromT A (f 0) k).length = c) (fun (k, c) => A.start.length - k) (0, 0) ?_
  ((conv=>whnf);repeat(refine .intro rfl ?_;conv=>whnf))
  refine ⟨⟨by omega, by simp [fromT]⟩, by (repeat' (first | exact trivial | refine And.intro rfl ?_)), by simp [fromT]; rfl, ?_⟩
  rintro ⟨k, c⟩ ⟨hk, hc'⟩
  have hcl := fromT_len A (f 0) k
  ((conv=>whnf);repeat(refine .intro rfl ?_;conv=>whnf))
  (apply rd_sound; focus (repeat' constructor))
  ((conv=>whnf);repeat(refine .intro rfl ?_;conv=>whnf))
  (refine ifK_split (fun q0 => ?_) (fun q0 => ?_) <;> (rw [q0]; ((conv=>whnf);repeat(refine .intro rfl ?_;conv=>whnf))))
  · have q0 : k < A.start.length := by ((try simp only[oo,reduceCtorEq]at*)<;>omega)
    have eS := fromT_succ (x := f 0) q0
    have hx := inB_mem hst (mem_getD q0)
    refine ⟨by omega, _, intsD_at (l := A.start) (k := k) (by omega) q0, ?_⟩
    ((conv=>whnf);repeat(refine .intro rfl ?_;conv=>whnf))
    generalize A.start.getD k 0 = x at *
    have hfx := hfit x.toNat (by omega) (f 0)
    rw [Int.toNat_of_nonneg hx.1] at hfx
    (refine .inl ⟨_, hfx, ?_⟩; ((conv=>whnf);repeat(refine .intro rfl ?_;conv=>whnf)))
    cases r : fitsV A x.toNat (f 0)
    · rw [r, if_neg (by decide)] at eS
      ((conv=>whnf);repeat(refine .intro rfl ?_;conv=>whnf))
      (refine .inl ⟨by (unfold InR; rw [IntKind.wrap_i64]; omega), ?_⟩; ((conv=>whnf);repeat(refine .intro rfl ?_;conv=>whnf)))
      refine ⟨(k + 1, c), ⟨by omega, by rw [eS]; exact hc'⟩, by dsimp only; omega, leB_envH (by (repeat' (first | exact trivial | refine And.intro rfl ?_))) ?_⟩
      dsimp only
      rw [eS]
      rfl
    · rw [r, if_pos rfl] at eS
      ((conv=>whnf);repeat(refine .intro rfl ?_;conv=>whnf))
      refine ⟨(by unfold sliceAppend; simp only [ll]; omega), ?_⟩
      ((conv=>whnf);repeat(refine .intro rfl ?_;conv=>whnf))
      (refine .inl ⟨by (unfold InR; rw [IntKind.wrap_i64]; omega), ?_⟩; ((conv=>whnf);repeat(refine .intro rfl ?_;conv=>whnf)))
      refine ⟨(k + 1, c + 1), ⟨by omega, by rw [eS, List.length_append, hc']; rfl⟩, by dsimp only; omega, ?_⟩
      dsimp only
      rw [eS]
      (refine leB_close 4 (by simp) rfl ?_ ?_ <;> (repeat' (first | exact trivial | exact rfl | exact DeepM.refl _ | exact DeepML.refl _ | exact DeepMLL.refl _ | refine And.intro ?_ ?_ | (simp [Under, UnderL, UnderLL, -List.map_take, -List.map_drop]; done))))
      all_goals first | exact underL_pure _ hcw | exact underLL_pure _ (pure_letL _ _) | exact underL_pure _ (pure_aucells A) | exact deepMLL_eq (by rw [← hc', i64s_app, List.take_length])
  have q0 : k = A.start.length := by have : ¬ k < A.start.length := by ((try simp only[oo,reduceCtorEq]at*)<;>omega)
                                     omega
  subst q0
  rw [show dints (fromT A (f 0) A.start.length) = D.lst 1 (List.drop 0 (List.take c (i64s (fromT A (f 0) A.start.length)))) from by rw [drop_take_all (by simp [i64s]; omega)]; rfl] at hRe
  (refine .inr (.inr (.inr (.inr (.inl ⟨_, _, _, (acallAt_frz1 (pre := [_]) (post := []) hRe (by simp [Pure, PureL, pure_dints, pure_dgrid]) ⟨pure_dgrid _, trivial⟩ trivial (pureLL_map _ (fun l => by simp [PureL, Pure]) _) rfl), ?_⟩)))); ((conv=>whnf);repeat(refine .intro rfl ?_;conv=>whnf)))
  (refine .inl ⟨_, hSp, ?_⟩; ((conv=>whnf);repeat(refine .intro rfl ?_;conv=>whnf)))
  (refine .inr (.inr (.inr (.inr (.inl ⟨_, _, _, (acallAt_new hRo (by simp [PureL, Pure, pure_dints, pure_dgrid]) [4] rfl rfl (by simp [AObj.ren, renL, D.ren]; rfl)), ?_⟩)))); ((conv=>whnf);repeat(refine .intro rfl ?_;conv=>whnf)))
  rw [List.length_map]
  refine pwp_for [2, 12, 13, 14, 15, 62, 63] (fun k : Nat => [(64, .sc (.int .i64 k))]) (fun k => [(4, .vec true 0 1 (rbl S.length (goodK S A.next.length L A.fair k)))]) (fun k => k ≤ A.fair.length) (fun k => A.fair.length - k) 0 ?_
  ((conv=>whnf);repeat(refine .intro rfl ?_;conv=>whnf))
  refine ⟨by omega, by (repeat' (first | exact trivial | refine And.intro rfl ?_)), by rw [show goodK S A.next.length L A.fair 0 = okT S S.length from funext fun i => by simp [goodK]]; rfl, ?_⟩
  rintro k hk
  ((conv=>whnf);repeat(refine .intro rfl ?_;conv=>whnf))
  (apply rd_sound; focus (repeat' constructor))
  ((conv=>whnf);repeat(refine .intro rfl ?_;conv=>whnf))
  (refine ifK_split (fun q1 => ?_) (fun q1 => ?_) <;> (rw [q1]; ((conv=>whnf);repeat(refine .intro rfl ?_;conv=>whnf))))
  · have q1 : k < A.fair.length := by ((try simp only[oo,reduceCtorEq]at*)<;>omega)
    have hMe := hmem k q1
    have eG := fun i => goodK_succ (g := S) (n := A.next.length) (L := L) q1 i
    refine ⟨by omega, _, gridD_at (g := A.fair) (k := k) (by omega) q1, ?_⟩
    ((conv=>whnf);repeat(refine .intro rfl ?_;conv=>whnf))
    (refine .inl ⟨_, hMe, ?_⟩; ((conv=>whnf);repeat(refine .intro rfl ?_;conv=>whnf)))
    generalize A.fair.getD k [] = l at *
    rw [List.length_map]
    refine ⟨by omega, by omega, by omega, ?_⟩
    rw [Int.toNat_natCast, show List.map D.sc [Value.bool false] = [D.sc (.bool false)] from rfl, rbl_rep]
    ((conv=>whnf);repeat(refine .intro rfl ?_;conv=>whnf))
    rw [List.length_map]
    refine pwp_for [2, 12, 13, 14, 15, 18, 19, 62, 63, 64, 74, 75] (fun j : Nat => [(76, .sc (.int .i64 j))]) (fun j => [(5, .vec true 0 1 (rbl S.length (hasF S (setL A.next.length L l) j)))]) (fun j => j ≤ L.length) (fun j => L.length - j) 0 ?_
    ((conv=>whnf);repeat(refine .intro rfl ?_;conv=>whnf))
    refine ⟨by omega, by (repeat' (first | exact trivial | refine And.intro rfl ?_)), by rw [show hasF S (setL A.next.length L l) 0 = fun _ => false from funext fun i => rfl]; rfl, ?_⟩
    rintro j hj
    ((conv=>whnf);repeat(refine .intro rfl ?_;conv=>whnf))
    (apply rd_sound; focus (repeat' constructor))
    ((conv=>whnf);repeat(refine .intro rfl ?_;conv=>whnf))
    (refine ifK_split (fun q2 => ?_) (fun q2 => ?_) <;> (rw [q2]; ((conv=>whnf);repeat(refine .intro rfl ?_;conv=>whnf))))
    · have q2 : j < L.length := by ((try simp only[oo,reduceCtorEq]at*)<;>omega)
      have eH := fun i => hasF_succ S (setL A.next.length L l) j i
      have hx := hrL _ (mem_getD q2)
      have hpj := hpl j (by omega)
      have hset : setL A.next.length L l j = setB l ((L.getD j 0).toNat % A.next.length) := rfl
      have hmod := Nat.mod_lt (L.getD j 0).toNat (show A.next.length > 0 by omega)
      refine ⟨by omega, _, intsD_at (l := L) (k := j) (by omega) q2, ?_⟩
      ((conv=>whnf);repeat(refine .intro rfl ?_;conv=>whnf))
      generalize L.getD j 0 = x at *
      refine ⟨by omega, _, gl_atN j (by omega) (by omega), ?_⟩
      ((conv=>whnf);repeat(refine .intro rfl ?_;conv=>whnf))
      refine ⟨by omega, _, gl_atN j (by omega) (by omega), ?_⟩
      ((conv=>whnf);repeat(refine .intro rfl ?_;conv=>whnf))
      (refine ⟨by omega, (by first | omega | (simp; done) | (simp; omega) | (simp only [ll]; omega)), ?_⟩; ((conv=>whnf);repeat(refine .intro rfl ?_;conv=>whnf)))
      refine ⟨_, rbl_atN (partsG S j).toNat (by omega) (by omega), ?_⟩
      ((conv=>whnf);repeat(refine .intro rfl ?_;conv=>whnf))
      have fin : ∀ v, (v = true ↔ hasF S (setL A.next.length L l) j (partsG S j).toNat = true ∨ setL A.next.length L l j = true) → (rbl S.length (hasF S (setL A.next.length L l) j)).set (partsG S j).toNat [.sc (.bool v)] = rbl S.length (hasF S (setL A.next.length L l) (j + 1)) := fun v hv =>
        rbl_put rfl fun q _ => by
          rw [eH]
          by_cases e : q = (partsG S j).toNat
          · subst e
            rw [if_pos rfl, show (partsG S j == (((partsG S j).toNat : Nat) : Int)) = true by rw [beq_iff_eq]; omega, Bool.true_and, Bool.eq_iff_iff, Bool.or_eq_true, hv]
          · rw [if_neg e, show (partsG S j == (q : Int)) = false by rw [beq_eq_false_iff_ne]; omega, Bool.false_and, Bool.or_false]
      cases r : hasF S (setL A.next.length L l) j (partsG S j).toNat
      · ((conv=>whnf);repeat(refine .intro rfl ?_;conv=>whnf))
        refine ⟨by omega, ?_⟩
        rw [show x.tmod (A.next.length : Int) = ((x.toNat % A.next.length : Nat) : Int) by rw [show x = ((x.toNat : Nat) : Int) by omega, Int.toNat_natCast, ← Int.ofNat_tmod]]
        ((conv=>whnf);repeat(refine .intro rfl ?_;conv=>whnf))
        refine ⟨by omega, _, rbl_atN (x.toNat % A.next.length) (by omega) hmod, ?_⟩
        ((conv=>whnf);repeat(refine .intro rfl ?_;conv=>whnf))
        (refine ⟨by omega, (by first | omega | (simp; done) | (simp; omega) | (simp only [ll]; omega)), ?_⟩; ((conv=>whnf);repeat(refine .intro rfl ?_;conv=>whnf)))
        refine ⟨_, rbl_atN (partsG S j).toNat (by omega) (by omega), ?_⟩
        ((conv=>whnf);repeat(refine .intro rfl ?_;conv=>whnf))
        (refine .inl ⟨by (unfold InR; rw [IntKind.wrap_i64]; omega), ?_⟩; ((conv=>whnf);repeat(refine .intro rfl ?_;conv=>whnf)))
        refine ⟨j + 1, by omega, by dsimp only; omega, leB_envH (by (repeat' (first | exact trivial | refine And.intro rfl ?_))) ?_⟩
        have := fin (setB l (x.toNat % A.next.length)) (by rw [hset, r]; simp)
        rw [Nat.zero_add, this]
        rfl
      · ((conv=>whnf);repeat(refine .intro rfl ?_;conv=>whnf))
        (refine ⟨by omega, (by first | omega | (simp; done) | (simp; omega) | (simp only [ll]; omega)), ?_⟩; ((conv=>whnf);repeat(refine .intro rfl ?_;conv=>whnf)))
        refine ⟨_, rbl_atN (partsG S j).toNat (by omega) (by omega), ?_⟩
        ((conv=>whnf);repeat(refine .intro rfl ?_;conv=>whnf))
        (refine .inl ⟨by (unfold InR; rw [IntKind.wrap_i64]; omega), ?_⟩; ((conv=>whnf);repeat(refine .intro rfl ?_;conv=>whnf)))
        refine ⟨j + 1, by omega, by dsimp only; omega, leB_envH (by (repeat' (first | exact trivial | refine And.intro rfl ?_))) ?_⟩
        have := fin true (by rw [r]; simp)
        rw [Nat.zero_add, this]
        rfl
    · have q2 : j = S.length := by have : ¬ j < L.length := by ((try simp only[oo,reduceCtorEq]at*)<;>omega)
                                   omega
      rw [q2]
      clear q2
      refine pwp_for [2, 12, 13, 14, 15, 19, 62, 63, 64, 104] (fun i : Nat => [(105, .sc (.int .i64 i))]) (fun i => [(4, .vec true 0 1 (rbl S.length fun x => if x < i then goodK S A.next.length L A.fair (k + 1) x else goodK S A.next.length L A.fair k x))]) (fun i => i ≤ S.length) (fun i => S.length - i) 0 ?_
      ((conv=>whnf);repeat(refine .intro rfl ?_;conv=>whnf))
      refine ⟨by omega, by (repeat' (first | exact trivial | refine And.intro rfl ?_)), by simp; rfl, ?_⟩
      rintro i hi
      ((conv=>whnf);repeat(refine .intro rfl ?_;conv=>whnf))
      (apply rd_sound; focus (repeat' constructor))
      ((conv=>whnf);repeat(refine .intro rfl ?_;conv=>whnf))
      (refine ifK_split (fun q3 => ?_) (fun q3 => ?_) <;> (rw [q3]; ((conv=>whnf);repeat(refine .intro rfl ?_;conv=>whnf))))
      · have q3 : i < S.length := by ((try simp only[oo,reduceCtorEq]at*)<;>omega)
        have fin : (rbl S.length fun x => if x < i then goodK S A.next.length L A.fair (k + 1) x else goodK S A.next.length L A.fair k x).set i [.sc (.bool (goodK S A.next.length L A.fair (k + 1) i))] = rbl S.length fun x => if x < i + 1 then goodK S A.next.length L A.fair (k + 1) x else goodK S A.next.length L A.fair k x :=
          rbl_put rfl fun q _ => by
            by_cases e : q = i
            · subst e; rw [if_pos (by omega), if_pos rfl]
            · rw [if_neg e]
              by_cases e2 : q < i
              · rw [if_pos e2, if_pos (by omega)]
              · rw [if_neg e2, if_neg (by omega)]
        have eGi := eG i
        have hat : (rbl S.length fun x => if x < i then goodK S A.next.length L A.fair (k + 1) x else goodK S A.next.length L A.fair k x)[i]? = some [.sc (.bool (goodK S A.next.length L A.fair k i))] := by
          rw [rbl_atN i rfl q3, if_neg (by omega)]
        (refine ⟨by omega, (by first | omega | (simp; done) | (simp; omega) | (simp only [ll]; omega)), ?_⟩; ((conv=>whnf);repeat(refine .intro rfl ?_;conv=>whnf)))
        refine ⟨_, by rw [Nat.zero_add]; exact hat, ?_⟩
        ((conv=>whnf);repeat(refine .intro rfl ?_;conv=>whnf))
        cases r : goodK S A.next.length L A.fair k i
        · rw [r, Bool.false_and] at eGi
          rw [eGi] at fin
          ((conv=>whnf);repeat(refine .intro rfl ?_;conv=>whnf))
          (refine ⟨by omega, (by first | omega | (simp; done) | (simp; omega) | (simp only [ll]; omega)), ?_⟩; ((conv=>whnf);repeat(refine .intro rfl ?_;conv=>whnf)))
          refine ⟨_, by rw [Nat.zero_add]; exact hat, ?_⟩
          ((conv=>whnf);repeat(refine .intro rfl ?_;conv=>whnf))
          (refine .inl ⟨by (unfold InR; rw [IntKind.wrap_i64]; omega), ?_⟩; ((conv=>whnf);repeat(refine .intro rfl ?_;conv=>whnf)))
          refine ⟨i + 1, by omega, by dsimp only; omega, leB_envH (by (repeat' (first | exact trivial | refine And.intro rfl ?_))) ?_⟩
          rw [Nat.zero_add, show (i : Int).toNat = i from Int.toNat_natCast i, fin]
          rfl
        · rw [r, Bool.true_and] at eGi
          rw [eGi] at fin
          ((conv=>whnf);repeat(refine .intro rfl ?_;conv=>whnf))
          (refine ⟨by omega, (by first | omega | (simp; done) | (simp; omega) | (simp only [ll]; omega)), ?_⟩; ((conv=>whnf);repeat(refine .intro rfl ?_;conv=>whnf)))
          refine ⟨_, rbl_atN i (by omega) q3, ?_⟩
          ((conv=>whnf);repeat(refine .intro rfl ?_;conv=>whnf))
          (refine ⟨by omega, (by first | omega | (simp; done) | (simp; omega) | (simp only [ll]; omega)), ?_⟩; ((conv=>whnf);repeat(refine .intro rfl ?_;conv=>whnf)))
          refine ⟨_, by rw [Nat.zero_add]; exact hat, ?_⟩
          ((conv=>whnf);repeat(refine .intro rfl ?_;conv=>whnf))
          (refine .inl ⟨by (unfold InR; rw [IntKind.wrap_i64]; omega), ?_⟩; ((conv=>whnf);repeat(refine .intro rfl ?_;conv=>whnf)))
          refine ⟨i + 1, by omega, by dsimp only; omega, leB_envH (by (repeat' (first | exact trivial | refine And.intro rfl ?_))) ?_⟩
          rw [Nat.zero_add, show (i : Int).toNat = i from Int.toNat_natCast i, fin]
          rfl
      · have q3 : i = S.length := by have : ¬ i < S.length := by ((try simp only[oo,reduceCtorEq]at*)<;>omega)
                                     omega
        subst q3
        (refine .inl ⟨by (unfold InR; rw [IntKind.wrap_i64]; omega), ?_⟩; ((conv=>whnf);repeat(refine .intro rfl ?_;conv=>whnf)))
        refine ⟨k + 1, by omega, by dsimp only; omega, ?_⟩
        dsimp only
        (refine leB_close 5 (by simp) rfl ?_ ?_ <;> (repeat' (first | exact trivial | exact rfl | exact DeepM.refl _ | exact DeepML.refl _ | exact DeepMLL.refl _ | refine And.intro ?_ ?_ | (simp [Under, UnderL, UnderLL, -List.map_take, -List.map_drop]; done))))
        all_goals first | exact underL_pure _ hcw | exact underLL_pure _ (pure_letL _ _) | exact underL_pure _ (pure_aucells A) | exact underLL_pure _ (pure_rbl _ _) | exact underLL_pure _ (pureLL_map _ (fun l => by simp [PureL, Pure]) _) | exact (by decide : 4 < 5) | exact deepMLL_eq (rbl_congr fun i hi => by rw [if_pos hi])
  · have q1 : k = A.fair.length := by have : ¬ k < A.fair.length := by ((try simp only[oo,reduceCtorEq]at*)<;>omega)
                                      omega
    subst q1
    rw [show dbl S.length (goodK S A.next.length L A.fair A.fair.length) = D.lst 1 (List.drop 0 (List.take S.length (rbl S.length (goodK S A.next.length L A.fair A.fair.length)))) from by rw [rbl_all]; rfl] at hCo
    (refine .inr (.inr (.inr (.inr (.inl ⟨_, _, _, (acallAt_frz1 (pre := []) (post := [_]) hCo (by simp [Pure]) trivial ⟨by simp [Pure], trivial⟩ (pure_rbl _ _) rfl), ?_⟩)))); ((conv=>whnf);repeat(refine .intro rfl ?_;conv=>whnf)))
    exact .refl _
end

end Go.Proofs.Ytfaekhadjlgbbaa
