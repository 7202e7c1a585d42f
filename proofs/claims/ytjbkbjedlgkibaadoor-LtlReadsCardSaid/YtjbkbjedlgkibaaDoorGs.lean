/-
  What a row's condition on package variables gives: sentinels, and the handle of a type. No statement is proved here.
-/
import Derived.Test.YtjbkbjedlgkibaaDoorGw
import Derived.Test.YtjbkbjedlgkibaaDoorDC
import Derived.Test.YtjbkbjedlgkibaaDoorDk
import Derived.ChangeShapes
import Derived.LaidLaws
import Derived.LaidHandle
import Derived.Lay
import Derived.Stop.LaidErr
namespace Go.Proofs.YtjbkbjedlgkibaaDoor
open Go.RowKit Go.ChangeShapes
set_option linter.unusedSimpArgs false
set_option linter.unusedVariables false
theorem sent_of_laid {P : Program} {n nm : String} {text : List UInt8} {r : List (String × DataW Unit)} {W : World} {g : Nat} {ti tp te ts : TypeId} {ms : Array (String × TypeId)} {f : Field}
    (h : laidMet P ((n, .iface nm (.ptr (.agg [.lit (.string text)]))) :: r) W)
    (hg : P.globalNamed n = some g) (ht : (P.globals[g]?).map (·.type) = some ti) (hi : P.underlying ti = some (.interface ms)) (hrow : ∀ u, P.typeName? 3 u = some nm → u = tp)
    (hp : P.underlying tp = some (.pointer te)) (he : P.underlying te = some (.struct #[f])) (hft : f.type = ts) (hfo : f.offset = 0) (hs : P.underlying ts = some .string) (hc : P.cellsOf te = 1) (hcs : P.cellsOf ts = 1) :
    laidMet P r W ∧ ∃ b o vals te', W.cell? ⟨g, 0, none⟩ = some (.iface tp (.pointer (some ⟨b, o, none⟩))) ∧ W.heap[b]? = some (.cells vals te' (0, 0)) ∧ W.cell? ⟨b, o, none⟩ = some (.string ⟨text.toArray⟩) := by
  refine ⟨h.tail, ?_⟩
  obtain ⟨ps, ⟨g0, t0, cs0, f0, p0, q0, hg0, ht0, hv0, hd0, _, e0⟩, _, hrows⟩ := h
  obtain rfl := Option.some.inj (hg.symm.trans hg0)
  obtain rfl := Option.some.inj (ht.symm.trans ht0)
  subst e0
  obtain ⟨l0⟩ := cs0
  have ok0 : ∀ u v, l0 = [.iface u v] → Value.okWide P W .any 0 u v := fun u v e => by
    subst e
    exact (hrows g 0 (by simp [MemPlace.row])).2 u v (by simpa using World.var?_cell hg0 hv0 0)
  obtain ⟨f1, u, v, rfl, hn, h1⟩ := iface_of_trod hi hd0
  obtain rfl := hrow u hn
  have hg1 := World.var?_cell hg0 hv0 0
  rcases open_ptr hp (by omega) (ok0 _ _ rfl) ⟨f1, h1⟩ with ⟨_, hd, _⟩ | ⟨ab, ao, cs, y, fuel, rfl, hd, rfl, hlen, hcell, hy⟩
  · cases hd
  obtain ⟨c1, t1, hh⟩ := (hrows ab ao (by simp [MemPlace.row, hc])).1
  have hd' : y.1 = .agg [.lit (.string text)] := by injection hd with hd; exact hd.symm
  obtain ⟨y1, y2⟩ := y
  have hd' : y1 = .agg [.lit (.string text)] := hd'
  subst hd'
  obtain ⟨y0, n, hx, hl, hz⟩ := trod_struct1 he hy
  rw [hft, hfo, hcs] at hz
  rw [hc] at hcell hlen
  obtain ⟨c, rfl⟩ : ∃ c, cs = [c] := by
    match cs, hlen with
    | [c], _ => exact ⟨c, rfl⟩
  obtain ⟨s, hcs', rfl, hsz⟩ := DataW.trod_string hs hz
  simp only [List.drop_zero, List.take_succ_cons, List.take_zero, List.cons.injEq, and_true] at hcs'
  subst hcs'
  simp only [Prod.mk.injEq, DataW.agg.injEq, List.cons.injEq, DataW.lit.injEq, Lit.string.injEq, and_true] at hx
  obtain ⟨rfl, rfl⟩ := hx
  have := hcell 0 (by omega)
  exact ⟨ab, ao, c1, t1, by simpa using hg1, hh, by simpa using this⟩
end Go.Proofs.YtjbkbjedlgkibaaDoor
