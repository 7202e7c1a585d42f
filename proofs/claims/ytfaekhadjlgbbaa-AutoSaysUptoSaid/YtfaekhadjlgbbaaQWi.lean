/-
  Fair ways of a world that stay among some states: the program's Within, over deep values. No statement is proved here.
-/
import Derived.Test.YtfaekhadjlgbbaaQFp
import Derived.Test.YtfaekhadjlgbbaaQWoL
import Derived.Test.YtfaekhadjlgbbaaQWxA
import Derived.Test.YtfaekhadjlgbbaaQFz
namespace Go.Proofs.Ytfaekhadjlgbbaa
open Go.RowKit
set_option linter.unusedSimpArgs false
set_option linter.unusedVariables false
/-! ### A grid that is being built, row by row -/
def curL (N : Nat) (T : Nat → List Int) (k : Nat) (c : List Int) : List (List Int) := (List.range N).map fun i => if i < k then T i else if i = k then c else []
@[simp] theorem curL_len (N : Nat) (T : Nat → List Int) (k : Nat) (c : List Int) : (curL N T k c).length = N := by simp [curL]
theorem curL_get {N i : Nat} {T : Nat → List Int} {k : Nat} {c : List Int} (h : i < N) : (curL N T k c).getD i [] = if i < k then T i else if i = k then c else [] := by
  rw [List.getD_eq_getElem?_getD, List.getElem?_eq_getElem (by simpa using h)]; simp [curL]
theorem curL_at {N : Nat} {T : Nat → List Int} {k : Nat} {c : List Int} (h : k < N) : (curL N T k c).getD k [] = c := by
  rw [curL_get h, if_neg (by omega), if_pos rfl]
theorem curL_set {N : Nat} {T : Nat → List Int} {k : Nat} {c c' : List Int} (h : k < N) : (curL N T k c).set k c' = curL N T k c' := by
  refine List.ext_getElem? fun i => ?_
  rw [List.getElem?_set]
  by_cases e : k = i
  · subst e
    rw [if_pos rfl, if_pos (by simpa using h), List.getElem?_eq_getElem (by simpa using h)]
    simp [curL]
  · rw [if_neg e]
    by_cases hi : i < N
    · rw [List.getElem?_eq_getElem (by simpa using hi), List.getElem?_eq_getElem (by simpa using hi)]
      simp only [curL, List.getElem_map, List.getElem_range]
      congr 1
      by_cases q : i < k
      · rw [if_pos q, if_pos q]
      · rw [if_neg q, if_neg q, if_neg (fun z => e z.symm), if_neg (fun z => e z.symm)]
    · rw [List.getElem?_eq_none (by simp; omega), List.getElem?_eq_none (by simp; omega)]
theorem curL_next {N : Nat} {T : Nat → List Int} {k : Nat} : curL N T k (T k) = curL N T (k + 1) [] := by
  unfold curL
  refine List.map_congr_left fun i _ => ?_
  by_cases q : i < k
  · rw [if_pos q, if_pos (by omega)]
  · rw [if_neg q]
    by_cases e : i = k
    · subst e; rw [if_pos rfl, if_pos (by omega)]
    · rw [if_neg e, if_neg (by omega)]; split <;> rfl
theorem curL_zero (N : Nat) (T : Nat → List Int) : curL N T 0 [] = List.replicate N [] := by
  refine List.ext_getElem? fun i => ?_
  by_cases h : i < N
  · rw [List.getElem?_eq_getElem (by simpa using h), List.getElem?_eq_getElem (by simpa using h)]
    simp [curL]
  · rw [List.getElem?_eq_none (by simp; omega), List.getElem?_eq_none (by simp; omega)]
theorem curL_done (N : Nat) (T : Nat → List Int) (c : List Int) : curL N T N c = (List.range N).map T := by
  unfold curL
  exact List.map_congr_left fun i hi => if_pos (List.mem_range.1 hi)
def ncell (n : Int) : List D := [.sc (.int .i64 n)]
@[simp] theorem under_ncell {m : Nat} (n : Int) : UnderL m (ncell n) := by simp [ncell, UnderL, Under]
/-! ### A part of a graph is a graph -/
theorem gridV_cut {L : List (List Int)} {n : Nat} (hn : n = L.length) : D.lst 1 (((L.map fun l => [dints l]).take n).drop 0) = dgrid L := by
  subst hn
  unfold dgrid
  rw [drop_take_all (by simp)]
theorem pure_gridV (L : List (List Int)) : PureLL (L.map fun l => [dints l]) := pureLL_map _ (fun l => by simp [PureL, pure_dints]) L
@[simp] theorem under_dlet3 {m : Nat} (l : List Int) : Under m (dlet l) ↔ True := ⟨fun _ => trivial, fun _ => under_pure _ (pure_dlet l)⟩
/-! ### Within -/
end Go.Proofs.Ytfaekhadjlgbbaa
