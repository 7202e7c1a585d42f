/-
  Arguments: formulas. No statement is proved here.
-/
import Derived.Test.YtjbkbjedlgkibaaDoorDC
import Derived.Test.YtjbkbjedlgkibaaDoorDk
import Derived.Test.YtjbkbjedlgkibaaDoorProg
namespace Go.Proofs.YtjbkbjedlgkibaaDoor
open Go.RowKit
theorem small_of {t : Tree} (h : t.kids.length ≤ 9223372036854775807) (k : ∀ u ∈ t.kids, Small u) : Small t :=
  .mk t h fun j hj => by rw [Tree.kid_get hj]; exact k _ (List.getElem_mem _)
theorem tree_of {P : Program} {L : Nat} {T E I : TypeId} {f0 f1 f2 : Field} (hT : P.underlying T = some (.struct #[f0, f1, f2])) (h0 : f0.type = I) (h1 : f1.type = I) (h2 : f2.type = E) (hE : P.underlying E = some (.slice T)) (hI : P.underlying I = some (.int .i64)) (hC : P.cellsOf T = 3) :
    ∀ (m : Nat) (ds : List D), SizeOf.sizeOf ds ≤ m → OfTz P L T ds → ∃ t : Tree, ds = drow t ∧ Small t := by
  intro m
  induction m with
  | zero => intro ds hm; exact absurd hm (by cases ds <;> simp <;> omega)
  | succ m ih =>
    intro ds hm h
    have := of_struct hT h
    simp only [List.map_cons, List.map_nil, h0, h1, h2] at this
    obtain ⟨a, b, rfl, ha, hb⟩ := ofTs_cons this
    obtain ⟨c, d, rfl, hc, hd⟩ := ofTs_cons hb
    obtain ⟨e, f, rfl, he, hf⟩ := ofTs_cons hd
    obtain rfl := ofTs_nil hf
    obtain ⟨k, rfl, _⟩ := of_int hI ha
    obtain ⟨n, rfl, _⟩ := of_int hI hc
    obtain ⟨xs, rfl, hl, hx⟩ := of_slice hE he
    rw [hC] at hm ⊢
    have each : ∀ x ∈ xs, ∃ t : Tree, x = drow t ∧ Small t := fun x hx' => ih x (by
      have := List.sizeOf_lt_of_mem hx'
      simp at hm
      omega) (ofTL_mem hx x hx')
    have all : ∃ ts : List Tree, xs = ts.map dcells ∧ ∀ t ∈ ts, Small t := by
      clear hm hx hl he hd hb this h ih
      induction xs with
      | nil => exact ⟨[], rfl, by simp⟩
      | cons x r ihx =>
        obtain ⟨t, rfl, ht⟩ := each x (by simp)
        obtain ⟨ts, rfl, hts⟩ := ihx fun y hy => each y (by simp [hy])
        refine ⟨t :: ts, by rw [List.map_cons, dcells_eq], fun u hu => ?_⟩
        rcases List.mem_cons.1 hu with rfl | hu
        · exact ht
        · exact hts u hu
    obtain ⟨ts, rfl, hts⟩ := all
    exact ⟨.node k n ts, rfl, small_of (by simpa [Tree.kids] using hl) hts⟩
set_option maxRecDepth 100000 in
theorem argLtl {L : Nat} {d : D} (h : OfAz Tryd.prog L 25 d) : ∃ t : Tree, d = dtree t ∧ Small t := by
  unfold OfAz at h
  rw [Tryd.underlying25] at h
  obtain ⟨cs, rfl, h⟩ := h
  obtain ⟨t, rfl, ht⟩ := tree_of (I := 3) (E := 23) Tryd.underlying25 rfl rfl rfl Tryd.underlying23 Tryd.underlying3 (by kernel_rfl) _ _ (Nat.le_refl _) h
  exact ⟨t, rfl, ht⟩
end Go.Proofs.YtjbkbjedlgkibaaDoor
