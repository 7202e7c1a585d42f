/-
  Paths of a world, as deep values; what a fair way is. No statement is proved here.
-/
import Derived.Test.YtfgklgjbnpjpoaaQWo
namespace Go.Proofs.Ytfgklgjbnpjpoaa
open Go.RowKit
set_option linter.unusedSimpArgs false
set_option linter.unusedVariables false
def pcells (s l : List Int) : List D := [dints s, dints l]
def dpath (s l : List Int) : D := .agg (pcells s l)
theorem pure_pcells (s l : List Int) : PureL (pcells s l) := by simp [pcells, PureL, pure_dints]
theorem pure_dpath (s l : List Int) : Pure (dpath s l) := by simp [dpath, Pure, pure_pcells]
@[simp] theorem underL_pcells {m : Nat} (s l : List Int) : UnderL m (pcells s l) ↔ True := ⟨fun _ => trivial, fun _ => underL_pure _ (pure_pcells s l)⟩
@[simp] theorem underL_wocells {m : Nat} (W : WorldD) : UnderL m W.cells ↔ True := ⟨fun _ => trivial, fun _ => underL_pure _ (pure_wocells W)⟩
/-- Is a path of a world's states, and goes round? -/
def WorldD.onB (W : WorldD) (s l : List Int) : Bool := !(l.isEmpty) && inB s W.next.length && inB l W.next.length
theorem onB_iff (W : WorldD) (s l : List Int) : W.onB s l = true ↔ l.length ≠ 0 ∧ inB s W.next.length = true ∧ inB l W.next.length = true := by
  unfold WorldD.onB
  simp only [Bool.and_eq_true, Bool.not_eq_true', ← Bool.not_eq_true, List.isEmpty_iff_length_eq_zero]
  exact ⟨fun h => ⟨h.1.1, h.1.2, h.2⟩, fun h => ⟨⟨h.1, h.2.1⟩, h.2.2⟩⟩
/-- A path's states, and the first of its loop once more. -/
def roundA (s l : List Int) : List Int := s ++ l ++ [l.getD 0 0]
theorem roundA_len (s l : List Int) : (roundA s l).length = s.length + l.length + 1 := by simp [roundA]; omega
def WorldD.goes (W : WorldD) (a b : Int) : Bool := (W.next.getD a.toNat []).contains b
theorem goes_at {W : WorldD} {a : Int} (h : a.toNat < W.next.length) (b : Int) : (W.next[a.toNat]).contains b = W.goes a b := by
  unfold WorldD.goes
  rw [List.getD_eq_getElem?_getD, List.getElem?_eq_getElem h]
  rfl
/-- Is a path a fair way from one of these states on? -/
def WorldD.good (W : WorldD) (from_ s l : List Int) : Prop := W.onB s l = true ∧ from_.contains ((roundA s l).getD 0 0) = true ∧ (∀ i, i < s.length + l.length → W.goes ((roundA s l).getD i 0) ((roundA s l).getD (i + 1) 0) = true) ∧ ∀ f ∈ W.fair, (f.any fun x => l.contains x) = true
open Classical in
noncomputable def WorldD.goodB (W : WorldD) (from_ s l : List Int) : Bool := decide (W.good from_ s l)
theorem goodB_no {W : WorldD} {f s l : List Int} (h : ¬ W.good f s l) : W.goodB f s l = false := by unfold WorldD.goodB; simp [h]
theorem goodB_yes {W : WorldD} {f s l : List Int} (h : W.good f s l) : W.goodB f s l = true := by unfold WorldD.goodB; simp [h]
end Go.Proofs.Ytfgklgjbnpjpoaa
