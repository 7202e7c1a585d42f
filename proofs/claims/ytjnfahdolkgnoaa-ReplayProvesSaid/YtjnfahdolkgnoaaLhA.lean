/-
  Lh Lh2 joined. No statement is proved here.
-/
import Derived.Test.YtjnfahdolkgnoaaLa
import Derived.Test.YtjnfahdolkgnoaaBo
import Derived.Test.YtjnfahdolkgnoaaLt
import Derived.Test.YtjnfahdolkgnoaaCk
import Derived.Test.YtjnfahdolkgnoaaDl
import Derived.Test.YtjnfahdolkgnoaaAw
namespace Go.Proofs.Ytjnfahdolkgnoaa
/-! ### XLh -/
section
open Go.RowKit
set_option linter.unusedSimpArgs false
set_option linter.unusedVariables false

/-- A call on one of the caller's slices that makes a new one. -/
theorem acall_own1 {P : Program} {f : FuncId} {v lo hi v' lo' hi' : Nat} {o x : AObj} (h : ACall P f [.own 0 v lo hi] [o] (.own 1 v' lo' hi') [o, x]) (ho : ∀ ρ, o.ren ρ = o) (hx : ∀ ρ, x.ren ρ = x) (hu : o.under 1)
    {H : List AObj} {id : Nat} (hid : H[id]? = some o) : ACall P f [.own id v lo hi] H (.own H.length v' lo' hi') (H ++ [x]) := by
  have hlt := get_lt hid
  refine acall_frame (H := H) (H' := H ++ [x]) (fun i => if i = 0 then id else H.length) h (fun i j hi hj e => ?_) (fun i q hq => ?_) (fun i h1 h2 => ?_) (by simp) (fun i q hq => ?_) (fun j hj _ => ?_) ⟨by simp [Under], trivial⟩ (fun q hq => ?_)
  · simp only [List.length_cons, List.length_nil] at hi hj
    (repeat' split at e) <;> omega
  · cases i with
    | zero => simp at hq; subst hq; rw [ho]; exact hid
    | succ i => simp at hq
  · simp only [List.length_cons, List.length_nil] at h1 h2
    rw [if_neg (by omega)]
    exact Nat.le_refl _
  · match i with
    | 0 => simp at hq; subst hq; rw [ho]; simp only [if_true]; rw [List.getElem?_append_left hlt]; exact hid
    | 1 => simp at hq; subst hq; rw [hx]; simp
    | i + 2 => simp at hq
  · rw [List.getElem?_append_left hj]
  · simp at hq; subst hq; exact hu

/-! ### The program's functions -/
end

/-! ### XLh2 -/
section
open Go.RowKit
set_option linter.unusedSimpArgs false
/-- The kids' truths. -/
def kidsV (s l : List Int) (t : Tree) (k : Nat) : List (List D) := (List.range k).map fun j => [dbl (s.length + l.length) (trT s l (t.kid j))]
@[simp] theorem kidsV_len (s l : List Int) (t : Tree) (k : Nat) : (kidsV s l t k).length = k := by simp [kidsV]
theorem kidsV_at {s l : List Int} {t : Tree} {k j : Nat} (h : j < k) : (kidsV s l t k)[j]? = some [dbl (s.length + l.length) (trT s l (t.kid j))] := by
  simp [kidsV, List.getElem?_map, List.getElem?_range h]
theorem kidsV_succ (s l : List Int) (t : Tree) (k : Nat) : List.drop 0 (List.take k (kidsV s l t k)) ++ [[dbl (s.length + l.length) (trT s l (t.kid k))]] = kidsV s l t (k + 1) := by
  rw [List.drop_zero, List.take_of_length_le (by simp)]
  simp [kidsV, List.range_succ]
theorem pure_kidsV (s l : List Int) (t : Tree) (k : Nat) : PureLL (kidsV s l t k) := pureLL_map _ (fun j => by simp [PureL, pure_dbl]) _
end

end Go.Proofs.Ytjnfahdolkgnoaa
