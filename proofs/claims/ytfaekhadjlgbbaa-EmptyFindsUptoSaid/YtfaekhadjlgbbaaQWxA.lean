/-
  Wt Wu Wv Wx joined. No statement is proved here.
-/
import Derived.Test.YtfaekhadjlgbbaaQWyA
import Derived.Test.YtfaekhadjlgbbaaQSc2
import Derived.Test.YtfaekhadjlgbbaaQOg
import Derived.Test.YtfaekhadjlgbbaaQGl
import Derived.Test.YtfaekhadjlgbbaaQBo
namespace Go.Proofs.Ytfaekhadjlgbbaa
/-! ### XWt -/
section
open Go.RowKit
set_option linter.unusedSimpArgs false
set_option linter.unusedVariables false
def wcell (n : Int) : List D := [.sc (.int .i64 n)]
@[simp] theorem under_wcell {m : Nat} (n : Int) : UnderL m (wcell n) := by simp [wcell, UnderL, Under]
end

/-! ### XWu -/
section
open Go.RowKit
set_option linter.unusedSimpArgs false
set_option linter.unusedVariables false
open Classical in
theorem headQ {Z : List Int} {lo hi : Nat} (h1 : lo < hi) (h2 : hi ≤ Z.length) : (Z.take hi).drop lo = Z.getD lo 0 :: (Z.take hi).drop (lo + 1) := by
  rw [List.drop_eq_getElem_cons (by rw [List.length_take]; omega), List.getElem_take, List.getD_eq_getElem?_getD, List.getElem?_eq_getElem (by omega)]
  rfl
theorem i64s_queueW {Z : List Int} {lo hi : Nat} {k : Int} : ((i64s Z).take hi).drop lo ++ [[D.sc (.int .i64 k)]] = i64s ((Z.take hi).drop lo ++ [k]) := by
  simp [i64s]
end

/-! ### XWv -/
section
open Go.RowKit
set_option linter.unusedSimpArgs false
set_option linter.unusedVariables false
/-- A queue's state. -/
structure QOk (g : List (List Int)) (to : Nat → Bool) (o : Nat → Int) (Z : List Int) : Prop where
  rng : ∀ x ∈ Z, 0 ≤ x ∧ x < (g.length : Int)
  low : ∀ n, -1 ≤ o n
  out : ∀ n, g.length ≤ n → o n = -1
theorem QOk.put {g : List (List Int)} {to : Nat → Bool} {o : Nat → Int} {Z : List Int} (h : QOk g to o Z) {k : Nat} (hk : k < g.length) {v : Int} (hv : 0 ≤ v) {lo hi : Nat} : QOk g to (setO o k v) ((Z.take hi).drop lo ++ [(k : Int)]) where
  rng x hx := by
    rcases List.mem_append.1 hx with q | q
    · exact h.rng x (List.mem_of_mem_take (List.mem_of_mem_drop q))
    · rw [List.mem_singleton] at q; subst q; omega
  low n := by
    by_cases e : n = k
    · subst e; rw [setO_self]; omega
    · rw [setO_ne e]; exact h.low n
  out n hn := by rw [setO_ne (by omega)]; exact h.out n hn
end

/-! ### XWx -/
section
open Go.RowKit
set_option linter.unusedSimpArgs false
set_option linter.unusedVariables false
end

end Go.Proofs.Ytfaekhadjlgbbaa
