/-
  So0 So1 So2 joined. No statement is proved here.
-/
import Derived.Test.YtjnfahdolkgnoaaQSpA
import Derived.Test.YtjnfahdolkgnoaaQWxA
import Derived.Test.YtjnfahdolkgnoaaQSpB
namespace Go.Proofs.Ytjnfahdolkgnoaa
/-! ### XSo0 -/
section
/-! ### The graph of a space -/
def gN (N : List (List EdgeD)) : List (List Int) := N.map fun l => l.map fun x => x.2
@[simp] theorem gN_len (N : List (List EdgeD)) : (gN N).length = N.length := by simp [gN]
/-- All of a space's numbers are right. -/
structure SpN (M : List (List Int)) (N : List (List EdgeD)) (s : Nat) : Prop where
  len : N.length = M.length
  pos : 1 ≤ M.length
  few : M.length ≤ 200
  row : ∀ l ∈ N, l.length ≤ 60
  edge : ∀ l ∈ N, ∀ x ∈ l, 0 ≤ x.1 ∧ x.1 < (s : Int) ∧ 0 ≤ x.2 ∧ x.2 < (M.length : Int)
  mark : ∀ m ∈ M, m.length ≤ 30 ∧ ∀ x ∈ m, 0 ≤ x
theorem SpN.rowAt {M : List (List Int)} {N : List (List EdgeD)} {s : Nat} (h : SpN M N s) (i : Nat) : (N.getD i []).length ≤ 60 := by
  rw [List.getD_eq_getElem?_getD]
  cases e : N[i]? with
  | none => simp
  | some l => exact h.row l (List.mem_of_getElem? e)
theorem mem_getDE {l : List EdgeD} {k : Nat} (h : k < l.length) : l.getD k (0, 0) ∈ l := by
  rw [List.getD_eq_getElem?_getD, List.getElem?_eq_getElem h]; exact List.getElem_mem h
theorem SpN.edgeAt {M : List (List Int)} {N : List (List EdgeD)} {s : Nat} (h : SpN M N s) {i k : Nat} (hk : k < (N.getD i []).length) : 0 ≤ ((N.getD i []).getD k (0, 0)).1 ∧ ((N.getD i []).getD k (0, 0)).1 < (s : Int) ∧ 0 ≤ ((N.getD i []).getD k (0, 0)).2 ∧ ((N.getD i []).getD k (0, 0)).2 < (M.length : Int) := by
  have hm := mem_getDE hk
  have hi : N.getD i [] ∈ N := by
    rw [List.getD_eq_getElem?_getD] at hk ⊢
    cases e : N[i]? with
    | none => rw [e] at hk; simp at hk
    | some l => exact List.mem_of_getElem? e
  exact h.edge _ hi _ hm
theorem SpN.graph {M : List (List Int)} {N : List (List EdgeD)} {s : Nat} (h : SpN M N s) : chkG (gN N) = 0 ∧ FitsG (gN N) := by
  have hf := h.few
  have hl := h.len
  refine ⟨chkG_zero.2 ⟨by simp; omega, fun l hl' => ?_⟩, ⟨by simp; omega, fun l hl' => ?_⟩⟩
  · unfold gN at hl'
    obtain ⟨r, hr, rfl⟩ := List.mem_map.1 hl'
    refine inB_of fun x hx => ?_
    obtain ⟨e, he, rfl⟩ := List.mem_map.1 hx
    have := h.edge r hr e he
    rw [gN_len, hl]
    omega
  · unfold gN at hl'
    obtain ⟨r, hr, rfl⟩ := List.mem_map.1 hl'
    have := h.row r hr
    simp
    omega
/-! ### The first of some -/
/-! ### What comes: turned round -/
theorem Rch.one (g : List (List Int)) (v : Nat) : Rch g [(v : Int)] v := by
  have := Rch.base (g := g) (from_ := [(v : Int)]) (x := (v : Int)) (by simp)
  rwa [Int.toNat_natCast] at this
theorem Rch.trans {g : List (List Int)} {a : List Int} {u v : Nat} (h : Rch g a u) (k : Rch g [(u : Int)] v) : Rch g a v := by
  induction k with
  | base hx =>
    rw [List.mem_singleton] at hx
    subst hx
    simpa using h
  | step _ hx ih => exact .step ih hx
/-! ### Ways, and steps along -/
end

/-! ### XSo1 -/
section
open Go.RowKit
set_option linter.unusedSimpArgs false
set_option linter.unusedVariables false
/-! ### A space's graph, while it is built -/
def rowT (N : List (List EdgeD)) (i : Nat) : List Int := (N.getD i []).map fun x => x.2
@[simp] theorem rowT_len (N : List (List EdgeD)) (i : Nat) : (rowT N i).length = (N.getD i []).length := by simp [rowT]
def gToF (N : List (List EdgeD)) (n k i : Nat) : List Int := if i < n then rowT N i else if i = n then (rowT N i).take k else []
def gTo (N : List (List EdgeD)) (n k : Nat) : List (List Int) := (List.range N.length).map (gToF N n k)
@[simp] theorem gTo_len (N : List (List EdgeD)) (n k : Nat) : (gTo N n k).length = N.length := by simp [gTo]
theorem erowD_at {L : List (List EdgeD)} {z k : Nat} (hz : z = k) (h : k < L.length) : (erows L)[z]? = some [dpairs (L.getD k [])] := by
  rw [erow_at hz h, List.getD_eq_getElem?_getD, List.getElem?_eq_getElem h]
  rfl
def scells (M : List (List Int)) (N : List (List EdgeD)) : List D := [dgrid M, .lst 1 (erows N)]
end

/-! ### XSo2 -/
section
open Go.RowKit
set_option linter.unusedSimpArgs false
set_option linter.unusedVariables false
/-! ### Plain -/
/-- All the numbers of what is looked at. -/
structure FndN (P : ProcD) (M : List (List Int)) (N : List (List EdgeD)) : Prop where
  sp : SpN M N P.stepsL.length
  steps : P.stepsE = 0
end

end Go.Proofs.Ytjnfahdolkgnoaa
