/-
  Parts in which one may go round fairly: plain law, and the program's fairParts over deep values. No statement is proved here.
-/
import Derived.Test.YtfaekhadjlgbbaaQTj6
import Derived.Test.YtfaekhadjlgbbaaQEl0
import Derived.Test.YtfaekhadjlgbbaaQRt
import Derived.Test.YtfaekhadjlgbbaaQFn
namespace Go.Proofs.Ytfaekhadjlgbbaa
open Go.RowKit
set_option linter.unusedSimpArgs false
set_option linter.unusedVariables false
/-! ### Plain -/
/-- The numbers of a list, as truths. -/
def setB (l : List Int) : Nat → Bool := fun v => l.contains (v : Int)
noncomputable def loopB (g : List (List Int)) (n : Nat) : Bool := (g.getD n []).any fun x => partsG g x.toNat == partsG g n
noncomputable def okT (g : List (List Int)) (k i : Nat) : Bool := (List.range k).any fun n => partsG g n == (i : Int) && loopB g n
theorem parts_eq {g : List (List Int)} {a b : Nat} (ha : a < g.length) (hb : b < g.length) : partsG g a = partsG g b ↔ mutB g a b = true := by
  rw [← pnum_eq (eqv_mut g g.length) ha hb]
  unfold partsG gn
  omega
theorem parts_lt {g : List (List Int)} {a : Nat} (ha : a < g.length) : 0 ≤ partsG g a ∧ partsG g a < (g.length : Int) := by
  have := pnum_lt (eqv_mut g g.length) ha
  unfold partsG gn
  omega
theorem loop_iff {g : List (List Int)} (hin : ∀ v x, x ∈ g.getD v [] → x.toNat < g.length) {n : Nat} (hn : n < g.length) : loopB g n = true ↔ Nontriv g n := by
  unfold loopB
  rw [List.any_eq_true]
  constructor
  · rintro ⟨x, hx, e⟩
    rw [beq_iff_eq, parts_eq (hin n x hx) hn, mutB_iff] at e
    exact ⟨x, hx, e.1⟩
  · rintro ⟨x, hx, e⟩
    exact ⟨x, hx, by rw [beq_iff_eq, parts_eq (hin n x hx) hn, mutB_iff]; exact ⟨e, to_edge hx⟩⟩
theorem okT_succ (g : List (List Int)) (k i : Nat) : okT g (k + 1) i = (okT g k i || (partsG g k == (i : Int) && loopB g k)) := by
  unfold okT; rw [List.range_succ, List.any_append]; simp
theorem all_take {α : Type} {p : α → Bool} {l : List α} {k : Nat} (h : k < l.length) (d : α) : (l.take (k + 1)).all p = ((l.take k).all p && p (l.getD k d)) := by
  rw [List.take_add_one, List.getElem?_eq_getElem h, List.all_append, List.getD_eq_getElem?_getD, List.getElem?_eq_getElem h]
  simp
/-- Marks at the parts of a graph. -/
theorem rbl_put {n z i : Nat} {f f' : Nat → Bool} {b : Bool} (hz : z = i) (h : ∀ v, v < n → f' v = if v = i then b else f v) : (rbl n f).set z [.sc (.bool b)] = rbl n f' := by
  subst hz
  rw [rbl_set]
  exact rbl_congr fun v hv => (h v hv).symm
/-! ### The program -/
end Go.Proofs.Ytfaekhadjlgbbaa
