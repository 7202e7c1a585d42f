/-
  Lists of numbers that are written place by place, over deep values. No statement is proved here.
-/
import Derived.Test.YtfaekhadjlgbbaaQSc2
namespace Go.Proofs.Ytfaekhadjlgbbaa
open Go.RowKit
set_option linter.unusedSimpArgs false
set_option linter.unusedVariables false
/-! ### Lists by place -/
def gl (n : Nat) (g : Nat → Int) : List Int := (List.range n).map g
@[simp] theorem gl_len (n : Nat) (g : Nat → Int) : (gl n g).length = n := by simp [gl]
theorem gl_getD {n k : Nat} {g : Nat → Int} (h : k < n) : (gl n g).getD k 0 = g k := by
  rw [List.getD_eq_getElem?_getD]
  simp [gl, List.getElem?_map, List.getElem?_range h]
@[simp] theorem i64s_len (l : List Int) : (i64s l).length = l.length := by simp [i64s]
theorem i64s_at {l : List Int} {z k : Nat} (hz : z = k) (h : k < l.length) : (i64s l)[z]? = some [.sc (.int .i64 (l.getD k 0))] := intsD_at hz h
theorem gl_atN {n : Nat} {g : Nat → Int} {z : Nat} (k : Nat) (hz : z = k) (h : k < n) : (i64s (gl n g))[z]? = some [.sc (.int .i64 (g k))] := by
  rw [i64s_at hz (by rw [gl_len]; exact h), gl_getD h]
theorem gl_congr {n : Nat} {g g' : Nat → Int} (h : ∀ i, i < n → g i = g' i) : gl n g = gl n g' := List.map_congr_left fun i hi => h i (List.mem_range.1 hi)
def putA (g : Nat → Int) (k : Nat) (v : Int) : Nat → Int := fun i => if i = k then v else g i
@[simp] theorem putA_self (g : Nat → Int) (k : Nat) (v : Int) : putA g k v k = v := by simp [putA]
theorem putA_ne {g : Nat → Int} {k i : Nat} {v : Int} (h : i ≠ k) : putA g k v i = g i := by simp [putA, h]
theorem gl_set {n z k : Nat} {g : Nat → Int} {v : Int} (hz : z = k) : (i64s (gl n g)).set z [.sc (.int .i64 v)] = i64s (gl n (putA g k v)) := by
  subst hz
  apply List.ext_getElem?
  intro i
  by_cases hi : i < n
  · rw [List.getElem?_set]
    by_cases e : z = i
    · subst e
      rw [if_pos rfl, if_pos (by simp; exact hi), gl_atN z rfl hi, putA_self]
    · rw [if_neg e, gl_atN i rfl hi, gl_atN i rfl hi, putA_ne (fun q => e q.symm)]
  · rw [List.getElem?_eq_none (by simp; omega), List.getElem?_eq_none (by simp; omega)]
theorem gl_rep (n : Nat) : List.replicate n [D.sc (.int .i64 0)] = i64s (gl n fun _ => 0) := by
  apply List.ext_getElem?
  intro i
  by_cases hi : i < n
  · rw [gl_atN i rfl hi, List.getElem?_replicate, if_pos hi]
  · rw [List.getElem?_eq_none (by simp; omega), List.getElem?_eq_none (by simp; omega)]
theorem deep_gl {H : List AObj} {id v n : Nat} {q : Bool} {g : Nat → Int} (h : H[id]? = some (.vec q v 1 (i64s (gl n g)))) : Deep H (.own id v 0 n) (dints (gl n g)) := .own _ _ _ _ _ _ _ _ h (by rw [List.drop_zero, List.take_of_length_le (by simp [i64s, gl])]; exact deepLL_refl _)
end Go.Proofs.Ytfaekhadjlgbbaa
