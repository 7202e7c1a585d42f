/-
  Formulas as texts: what a writer answers. Plain Lean. No statement is proved here.
-/
import Derived.Test.YtjnfahdolkgnoaaQSlim
import Derived.ChangeKeysEq
namespace Go.Proofs.Ytjnfahdolkgnoaa

def eqS (a b : ByteArray) : Bool := a.toList == b.toList
@[simp] theorem eqS_refl (a : ByteArray) : eqS a a = true := by simp [eqS]
theorem eqS_empty (a : ByteArray) : eqS a ⟨#[]⟩ = true ↔ a.size = 0 := by
  unfold eqS
  rw [beq_iff_eq, ByteArray.toList_eq, ByteArray.toList_eq]
  show a.data.toList = [] ↔ a.data.size = 0
  rw [List.eq_nil_iff_length_eq_zero, Array.length_toList]
def sTrue : ByteArray := ⟨#[116, 114, 117, 101]⟩
def sFalse : ByteArray := ⟨#[102, 97, 108, 115, 101]⟩
def sSilent : ByteArray := ⟨#[115, 105, 108, 101, 110, 116]⟩
/-- Small letters alone. -/
def lowAt (s : ByteArray) (i : Nat) : Bool := match s[i]? with
  | some b => decide (97 ≤ b.toNat) && decide (b.toNat ≤ 122)
  | none => true
def lowB (s : ByteArray) : Bool := (List.range s.size).all (lowAt s)
theorem lowB_true {s : ByteArray} (h : ∀ i, i < s.size → lowAt s i = true) : lowB s = true := by
  unfold lowB
  rw [List.all_eq_true]
  exact fun i hi => h i (List.mem_range.1 hi)
theorem lowB_false {s : ByteArray} {i : Nat} (hi : i < s.size) (h : lowAt s i = false) : lowB s = false := by
  unfold lowB
  rw [List.all_eq_false]
  exact ⟨i, List.mem_range.2 hi, by simp [h]⟩
def namedB (s : ByteArray) : Bool := !(eqS s ⟨#[]⟩) && decide (s.size ≤ 8) && !(eqS s sTrue) && !(eqS s sFalse) && !(eqS s sSilent) && lowB s
end Go.Proofs.Ytjnfahdolkgnoaa
