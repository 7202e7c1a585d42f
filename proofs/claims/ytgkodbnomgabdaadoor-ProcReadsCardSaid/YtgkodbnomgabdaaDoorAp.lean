/-
  Arguments of a law: processes. No statement is proved here.
-/
import Derived.Test.YtgkodbnomgabdaaDoorDC
import Derived.Test.YtgkodbnomgabdaaDoorPrA
namespace Go.Proofs.YtgkodbnomgabdaaDoor
open Go.RowKit Go.ChangeShapes Go.WideShapes Go.ChangeAt
set_option linter.unusedSimpArgs false
/-- A list of rows. -/
theorem of_rows {P : Program} {α : Type} {e : TypeId} {f : α → List D} {ok : α → Prop} (he : ∀ cs, OfT P e cs → ∃ a, cs = f a ∧ ok a) {xs : List (List D)} (h : OfTL P e xs) : ∃ l : List α, xs = l.map f ∧ ∀ a ∈ l, ok a := by
  induction xs with
  | nil => exact ⟨[], rfl, by simp⟩
  | cons x r ih =>
    cases h with
    | cons _ _ _ h k =>
      obtain ⟨a, rfl, ha⟩ := he x h
      obtain ⟨l, rfl, hl⟩ := ih k
      exact ⟨a :: l, rfl, fun b hb => by
        rcases List.mem_cons.1 hb with rfl | hb
        · exact ha
        · exact hl b hb⟩
set_option maxRecDepth 100000 in
theorem argProc {d : D} (h : OfA Tryd.prog 25 d) : ∃ P : ProcD, d = dproc P ∧ P.Fits := by
  unfold OfA OfAz at h
  rw [Tryd.underlying25] at h
  obtain ⟨cs, rfl, h⟩ := h
  have h := of_struct Tryd.underlying25 h
  simp only [List.map_cons, List.map_nil] at h
  obtain ⟨xs, r, rfl, hx0, hx, h⟩ := ofTs_slice Tryd.underlying22 h
  obtain ⟨ys, r, rfl, hy0, hy, h⟩ := ofTs_slice Tryd.underlying23 h
  obtain rfl := ofTs_nil h
  obtain ⟨nodes, rfl, hn⟩ := of_rows (f := nrow) (ok := fun x => x.1.size ≤ 9223372036854775807) (fun cs h => by
    have h := of_struct Tryd.underlying37 h
    simp only [List.map_cons, List.map_nil] at h
    obtain ⟨s, _, rfl, hs, h⟩ := ofTs_str Tryd.underlying9 h
    obtain ⟨k, _, rfl, _, h⟩ := ofTs_int Tryd.underlying3 h
    obtain rfl := ofTs_nil h
    exact ⟨(s, k), rfl, hs⟩) hx
  obtain ⟨flows, rfl, _⟩ := of_rows (f := frow) (ok := fun _ => True) (fun cs h => by
    have h := of_struct Tryd.underlying40 h
    simp only [List.map_cons, List.map_nil] at h
    obtain ⟨s, _, rfl, hs, h⟩ := ofTs_int Tryd.underlying3 h
    obtain ⟨k, _, rfl, _, h⟩ := ofTs_int Tryd.underlying3 h
    obtain rfl := ofTs_nil h
    exact ⟨(s, k), rfl, trivial⟩) hy
  refine ⟨⟨nodes, flows⟩, ?_, ⟨by simpa using hx0, by simpa using hy0, hn⟩⟩
  rw [show Tryd.prog.cellsOf 37 = 2 by kernel_rfl, show Tryd.prog.cellsOf 40 = 2 by kernel_rfl]
  rfl
end Go.Proofs.YtgkodbnomgabdaaDoor
