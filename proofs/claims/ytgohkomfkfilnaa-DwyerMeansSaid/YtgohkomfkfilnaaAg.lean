/-
  Arguments of a law: graphs, lists of numbers and of truths. No statement is proved here.
-/
import Derived.Test.YtgohkomfkfilnaaDC
import Derived.Test.YtgohkomfkfilnaaSc
import Derived.Test.YtgohkomfkfilnaaBo
namespace Go.Proofs.Ytgohkomfkfilnaa
open Go.RowKit Go.ChangeShapes Go.WideShapes Go.ChangeAt
set_option linter.unusedSimpArgs false
theorem ofT_of {P : Program} {t e : TypeId} {d : D} (ht : P.underlying t = some (.slice e)) (h : OfA P t d) : OfT P t [d] := by
  unfold OfA OfAz at h
  rw [ht] at h
  exact h
theorem ints_of {P : Program} {t u : TypeId} {k : IntKind} {cs : List D} (ht : P.underlying t = some (.slice u)) (hu : P.underlying u = some (.int k)) (hc : P.cellsOf u = 1) (hb : P.bytesOf u = 8) (h : OfT P t cs) :
    ∃ l : List Int, cs = [.lst 1 (l.map fun n => [.sc (.int k n)])] ∧ l.length ≤ 17592186043904 ∧ ∀ x ∈ l, k.min ≤ x ∧ x ≤ k.max := by
  obtain ⟨xs, rfl, ⟨_, hz⟩, hx⟩ := of_sliceZ ht h
  obtain ⟨l, rfl, hl⟩ := of_cells (f := fun n : Int => .int k n) (ok := fun x => k.min ≤ x ∧ x ≤ k.max) (fun cs h => by obtain ⟨n, e, q⟩ := of_int hu h; exact ⟨n, e, q⟩) hx
  rw [hc]
  rw [hb, List.length_map] at hz
  exact ⟨l, rfl, by omega, hl⟩
theorem argIntsB {P : Program} {t u : TypeId} {d : D} (ht : P.underlying t = some (.slice u)) (hu : P.underlying u = some (.int .i64)) (hc : P.cellsOf u = 1) (hb : P.bytesOf u = 8) (h : OfA P t d) :
    ∃ l : List Int, d = dints l ∧ l.length ≤ 17592186043904 := by
  obtain ⟨l, e, hl, _⟩ := ints_of ht hu hc hb (ofT_of ht h)
  cases e
  exact ⟨l, rfl, hl⟩
theorem grid_of {P : Program} {t e u : TypeId} {cs : List D} (ht : P.underlying t = some (.slice e)) (he : P.underlying e = some (.slice u)) (hu : P.underlying u = some (.int .i64)) (hc : P.cellsOf u = 1) (hce : P.cellsOf e = 1) (hb : P.bytesOf u = 8) (hbe : 8 ≤ P.bytesOf e) (h : OfT P t cs) :
    ∃ g : List (List Int), cs = [dgrid g] ∧ FitsG g := by
  obtain ⟨xs, rfl, ⟨hz0, hz⟩, hx⟩ := of_sliceZ ht h
  have : ∃ g : List (List Int), xs = g.map (fun l => [dints l]) ∧ ∀ l ∈ g, l.length ≤ 17592186043904 := by
    clear hz hz0 h
    induction xs with
    | nil => exact ⟨[], rfl, by simp⟩
    | cons x xs ih =>
      cases hx with
      | cons _ _ _ h1 h2 =>
        obtain ⟨g, rfl, hg⟩ := ih h2
        obtain ⟨l, rfl, hl, _⟩ := ints_of he hu hc hb h1
        refine ⟨l :: g, rfl, fun a ha => ?_⟩
        rcases List.mem_cons.1 ha with rfl | ha
        · exact hl
        · exact hg a ha
  obtain ⟨g, rfl, hg⟩ := this
  rw [hce]
  rw [List.length_map] at hz
  have := Nat.mul_le_mul_left g.length hbe
  exact ⟨g, rfl, by omega, hg⟩
theorem argGridB {P : Program} {t e u : TypeId} {d : D} (ht : P.underlying t = some (.slice e)) (he : P.underlying e = some (.slice u)) (hu : P.underlying u = some (.int .i64)) (hc : P.cellsOf u = 1) (hce : P.cellsOf e = 1) (hb : P.bytesOf u = 8) (hbe : 8 ≤ P.bytesOf e) (h : OfA P t d) :
    ∃ g : List (List Int), d = dgrid g ∧ FitsG g := by
  obtain ⟨g, e, hg⟩ := grid_of ht he hu hc hce hb hbe (ofT_of ht h)
  cases e
  exact ⟨g, rfl, hg⟩
theorem rbl_list (l : List Bool) : (l.map fun b => [D.sc (.bool b)]) = rbl l.length (fun i => l.getD i false) := by
  apply List.ext_getElem?
  intro i
  by_cases hi : i < l.length
  · rw [rbl_at hi, List.getElem?_map, List.getElem?_eq_getElem hi, List.getD_eq_getElem?_getD, List.getElem?_eq_getElem hi]; rfl
  · rw [List.getElem?_eq_none (by simp; omega), List.getElem?_eq_none (by simp; omega)]
theorem argTruths {P : Program} {t u : TypeId} {d : D} (ht : P.underlying t = some (.slice u)) (hu : P.underlying u = some .bool) (hc : P.cellsOf u = 1) (h : OfA P t d) :
    ∃ (n : Nat) (to : Nat → Bool), d = dbl n to ∧ n ≤ 9223372036854775807 ∧ ∀ i, n ≤ i → to i = false := by
  have h := ofT_of ht h
  obtain ⟨xs, e1, hl, hx⟩ := of_slice ht h
  obtain ⟨l, rfl, _⟩ := of_cells (f := fun b : Bool => .bool b) (ok := fun _ => True) (fun cs h => by obtain ⟨n, e⟩ := of_bool hu h; exact ⟨n, e, trivial⟩) hx
  rw [hc] at e1
  cases e1
  refine ⟨l.length, fun i => l.getD i false, by rw [rbl_list]; rfl, by simpa using hl, fun i hi => ?_⟩
  show l.getD i false = false
  rw [List.getD_eq_getElem?_getD, List.getElem?_eq_none hi]; rfl
end Go.Proofs.Ytgohkomfkfilnaa
