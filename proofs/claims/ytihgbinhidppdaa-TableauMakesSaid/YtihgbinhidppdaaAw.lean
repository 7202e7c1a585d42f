/-
  Arguments of a law: words and numbers. No statement is proved here.
-/
import Derived.Test.YtihgbinhidppdaaDC
import Derived.Test.YtihgbinhidppdaaLas
namespace Go.Proofs.Ytihgbinhidppdaa
open Go.RowKit Go.ChangeShapes Go.WideShapes Go.ChangeAt
set_option linter.unusedSimpArgs false
/-- Letters of a word. -/
def Lett (l : List Int) : Prop := ∀ x ∈ l, 0 ≤ x ∧ x < 18446744073709551616
theorem argWordL {P : Program} {t e u : TypeId} {f0 f1 : Field} {d : D} (ht : P.underlying t = some (.struct #[f0, f1])) (h0 : f0.type = e) (h1 : f1.type = e) (he : P.underlying e = some (.slice u)) (hu : P.underlying u = some (.int .u64)) (hc : P.cellsOf u = 1)
    (h : OfA P t d) : ∃ s l : List Int, d = dword s l ∧ Lett s ∧ Lett l := by
  unfold OfA OfAz at h
  rw [ht] at h
  obtain ⟨cs, rfl, h⟩ := h
  have := of_struct ht h
  simp only [List.map_cons, List.map_nil, h0, h1] at this
  obtain ⟨xs, b, rfl, _, hx, this⟩ := ofTs_slice he this
  obtain ⟨ys, c, rfl, _, hy, this⟩ := ofTs_slice he this
  obtain rfl := ofTs_nil this
  have one : ∀ cs, OfT P u cs → ∃ a, cs = [.sc ((fun n : Int => Value.int .u64 n) a)] ∧ (fun x : Int => 0 ≤ x ∧ x < 18446744073709551616) a := fun cs h => by
    obtain ⟨n, e, h1, h2⟩ := of_int hu h
    refine ⟨n, e, ?_⟩
    simp [IntKind.min, IntKind.max, IntKind.signed, IntKind.bits] at h1 h2
    dsimp only
    omega
  obtain ⟨s, rfl, hs⟩ := of_cells (f := fun n : Int => .int .u64 n) (ok := fun x => 0 ≤ x ∧ x < 18446744073709551616) one hx
  obtain ⟨l, rfl, hl⟩ := of_cells (f := fun n : Int => .int .u64 n) (ok := fun x => 0 ≤ x ∧ x < 18446744073709551616) one hy
  rw [hc]
  exact ⟨s, l, rfl, hs, hl⟩
theorem argInt {P : Program} {t : TypeId} {d : D} (ht : P.underlying t = some (.int .i64)) (h : OfA P t d) : ∃ i : Int, d = .sc (.int .i64 i) ∧ -9223372036854775808 ≤ i ∧ i ≤ 9223372036854775807 := by
  unfold OfA OfAz at h
  rw [ht] at h
  obtain ⟨n, e, h1, h2⟩ := of_int ht h
  cases e
  refine ⟨n, rfl, ?_⟩
  simp [IntKind.min, IntKind.max, IntKind.signed, IntKind.bits] at h1 h2
  omega
end Go.Proofs.Ytihgbinhidppdaa
