/-
  Lists of truths over deep values. No statement is proved here.
-/
import Derived.Test.YtgkodbnomgabdaaDoorFn
namespace Go.Proofs.YtgkodbnomgabdaaDoor
open Go.RowKit
set_option linter.unusedSimpArgs false
set_option linter.unusedVariables false
/-! ### Lists of truths -/
def rbl (n : Nat) (g : Nat → Bool) : List (List D) := (List.range n).map fun i => [.sc (.bool (g i))]
def dbl (n : Nat) (g : Nat → Bool) : D := .lst 1 (rbl n g)
@[simp] theorem rbl_len (n : Nat) (g : Nat → Bool) : (rbl n g).length = n := by simp [rbl]
theorem rbl_at {n i : Nat} {g : Nat → Bool} (h : i < n) : (rbl n g)[i]? = some [.sc (.bool (g i))] := by
  simp [rbl, List.getElem?_map, List.getElem?_range h]
theorem rbl_atN {n : Nat} {g : Nat → Bool} {z : Nat} (i : Nat) (hz : z = i) (h : i < n) : (rbl n g)[z]? = some [.sc (.bool (g i))] := by
  subst hz
  exact rbl_at h
theorem rbl_atZ {n : Nat} {g : Nat → Bool} {z : Int} (i : Nat) (hz : z = i) (h : i < n) : 0 ≤ z ∧ (rbl n g)[z.toNat]? = some [.sc (.bool (g i))] := by
  subst hz
  exact ⟨by omega, rbl_at h⟩
theorem rbl_congr {n : Nat} {g g' : Nat → Bool} (h : ∀ i, i < n → g i = g' i) : rbl n g = rbl n g' := by
  unfold rbl
  exact List.map_congr_left fun i hi => by rw [h i (List.mem_range.1 hi)]
theorem rbl_set (n : Nat) (g : Nat → Bool) (k : Nat) (v : Bool) : (rbl n g).set k [.sc (.bool v)] = rbl n (fun i => if i = k then v else g i) := by
  apply List.ext_getElem?
  intro i
  by_cases hi : i < n
  · by_cases hk : i = k
    · subst hk
      rw [List.getElem?_set_self (by simpa using hi), rbl_at hi]
      simp
    · rw [List.getElem?_set_ne (fun e => hk e.symm), rbl_at hi, rbl_at hi]
      simp [hk]
  · rw [List.getElem?_eq_none (by simp; omega), List.getElem?_eq_none (by simp; omega)]
theorem rbl_rep (n : Nat) : List.replicate n [D.sc (.bool false)] = rbl n (fun _ => false) := by
  apply List.ext_getElem?
  intro i
  by_cases hi : i < n
  · rw [rbl_at hi, List.getElem?_replicate, if_pos hi]
  · rw [List.getElem?_eq_none (by simp; omega), List.getElem?_eq_none (by simp; omega)]
theorem pure_rbl (n : Nat) (g : Nat → Bool) : PureLL (rbl n g) := pureLL_map _ (fun i => by simp [PureL, Pure]) _
theorem pure_dbl (n : Nat) (g : Nat → Bool) : Pure (dbl n g) := by simp only [dbl, Pure]; exact pure_rbl n g
theorem rbl_all (n : Nat) (g : Nat → Bool) : List.drop 0 (List.take n (rbl n g)) = rbl n g := by rw [List.drop_zero, List.take_of_length_le (by simp)]
theorem dbl_congr {n : Nat} {g g' : Nat → Bool} (h : ∀ i, i < n → g i = g' i) : dbl n g = dbl n g' := by unfold dbl; rw [rbl_congr h]
theorem le_envH {n : Nat} {env env' : Env} {H H' : List AObj} (h : sameE env env') (e : H = H') : St.le n env H env' H' := e ▸ le_env h
theorem deep_vec {H : List AObj} {id v n : Nat} {q : Bool} {g : Nat → Bool} (h : H[id]? = some (.vec q v 1 (rbl n g))) : Deep H (.own id v 0 n) (dbl n g) := .own _ _ _ _ _ _ _ _ h (by rw [rbl_all]; exact deepLL_refl _)
/-- What is known of the places ahead of one; what stands there. -/
def curF (T : Nat → Bool) (k : Nat) (o : Bool) : Nat → Bool := fun i => if i < k then T i else if i = k then o else false
@[simp] theorem curF_at (T : Nat → Bool) (k : Nat) (o : Bool) : curF T k o k = o := by simp [curF]
theorem cur_set {n k : Nat} {T : Nat → Bool} {o v : Bool} {z : Nat} (hz : z = k) : (rbl n (curF T k o)).set z [.sc (.bool v)] = rbl n (curF T k v) := by
  subst hz
  rw [rbl_set]
  refine rbl_congr fun i _ => ?_
  unfold curF
  by_cases e : i = z
  · subst e; simp
  · simp [e]
theorem cur_next {n k : Nat} {T : Nat → Bool} {o : Bool} (h : o = T k) : rbl n (curF T k o) = rbl n (curF T (k + 1) false) := by
  refine rbl_congr fun i _ => ?_
  unfold curF
  by_cases e : i = k
  · subst e; simp [h]
  · by_cases e2 : i < k
    · rw [if_pos e2, if_pos (by omega)]
    · rw [if_neg e2, if_neg e, if_neg (by omega)]
      split <;> rfl
theorem cur_zero (n : Nat) (T : Nat → Bool) : rbl n (fun _ => false) = rbl n (curF T 0 false) := by
  refine rbl_congr fun i _ => ?_
  unfold curF
  simp
theorem cur_done (n : Nat) (T : Nat → Bool) (o : Bool) : rbl n (curF T n o) = rbl n T := rbl_congr fun i hi => if_pos hi
@[simp] theorem underLL_rbl {m n : Nat} (g : Nat → Bool) : UnderLL m (rbl n g) ↔ True := ⟨fun _ => trivial, fun _ => underLL_pure _ (pure_rbl n g)⟩
@[simp] theorem under_dbl {m n : Nat} (g : Nat → Bool) : Under m (dbl n g) ↔ True := ⟨fun _ => trivial, fun _ => under_pure _ (pure_dbl n g)⟩
@[simp] theorem renLL_rbl {ρ : Nat → Nat} {n : Nat} (g : Nat → Bool) : renLL ρ (rbl n g) = rbl n g := renLL_pure _ (pure_rbl n g)
@[simp] theorem ren_dbl {ρ : Nat → Nat} {n : Nat} (g : Nat → Bool) : D.ren ρ (dbl n g) = dbl n g := ren_pure _ (pure_dbl n g)
theorem rbl_map (n : Nat) (g : Nat → Bool) : rbl n g = ((List.range n).map g).map fun a => [D.sc (.bool a)] := by simp [rbl]
theorem contains_truth (n : Nat) (g : Nat → Bool) (hn : n ≤ 9223372036854775807) (b : Bool) : PCall Tryd.prog 14 [dbl n g, .sc (.bool b)] (.sc (.bool (((List.range n).map g).contains b))) := by
  have := contains_bool ((List.range n).map g) (by simpa using hn) b
  rwa [← rbl_map] at this
theorem contains_truth_iff {n : Nat} {g : Nat → Bool} {b : Bool} : ((List.range n).map g).contains b = true ↔ ∃ i, i < n ∧ g i = b := by
  simp [List.contains_iff_mem, List.mem_map]
end Go.Proofs.YtgkodbnomgabdaaDoor
