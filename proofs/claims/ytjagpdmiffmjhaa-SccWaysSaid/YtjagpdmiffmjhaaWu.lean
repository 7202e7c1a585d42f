/-
  How far the next marked node is, over deep values. No statement is proved here.
-/
import Derived.Test.YtjagpdmiffmjhaaWt
import Derived.Test.YtjagpdmiffmjhaaWy3
import Derived.Test.YtjagpdmiffmjhaaGl
import Derived.Test.YtjagpdmiffmjhaaBo
namespace Go.Proofs.Ytjagpdmiffmjhaa
open Go.RowKit
set_option linter.unusedSimpArgs false
set_option linter.unusedVariables false
open Classical in
/-- The distance; -1: there is none. -/
noncomputable def dis (g : List (List Int)) (to : Nat → Bool) (n : Nat) : Int := if h : ∃ d, Far g to n d then ((Classical.choose h : Nat) : Int) else -1
theorem dis_far {g : List (List Int)} {to : Nat → Bool} {n d : Nat} : Far g to n d ↔ dis g to n = d := by
  unfold dis
  constructor
  · intro h
    have hx : ∃ d, Far g to n d := ⟨d, h⟩
    rw [dif_pos hx]
    exact congrArg _ (far_one (Classical.choose_spec hx) h)
  · intro h
    split at h
    · rename_i hx
      have e : Classical.choose hx = d := by omega
      rw [← e]
      exact Classical.choose_spec hx
    · omega
theorem dis_none {g : List (List Int)} {to : Nat → Bool} {n : Nat} (h : dis g to n < 0) : dis g to n = -1 := by
  unfold dis at h ⊢
  split at h
  · omega
  · rename_i q; rw [dif_neg q]
theorem bfs_dis {g : List (List Int)} {to : Nat → Bool} {o : Nat → Int} (h : Bfs g to o []) (hm : ∀ n, -1 ≤ o n) (n : Nat) : o n = dis g to n := by
  rcases Int.lt_or_le (o n) 0 with q | q
  · rcases Int.lt_or_le (dis g to n) 0 with w | w
    · rw [dis_none w]; have := hm n; omega
    · have := h.fin.1 (dis_far.2 (show dis g to n = ((dis g to n).toNat : Nat) by omega))
      omega
  · have := dis_far.1 (h.fin.2 (show o n = ((o n).toNat : Nat) by omega))
    omega
def marksTo (to : Nat → Bool) : Nat → List Int
  | 0 => []
  | n + 1 => if to n = true then marksTo to n ++ [(n : Int)] else marksTo to n
theorem marksTo_mem {to : Nat → Bool} {x : Int} : ∀ {n : Nat}, x ∈ marksTo to n ↔ ∃ i, i < n ∧ to i = true ∧ x = (i : Int)
  | 0 => by simp [marksTo]
  | n + 1 => by
    simp only [marksTo]
    split
    · rename_i h
      rw [List.mem_append, marksTo_mem, List.mem_singleton]
      constructor
      · rintro (⟨i, h1, h2, h3⟩ | h1)
        · exact ⟨i, by omega, h2, h3⟩
        · exact ⟨n, by omega, h, h1⟩
      · rintro ⟨i, h1, h2, h3⟩
        by_cases e : i = n
        · subst e; exact .inr h3
        · exact .inl ⟨i, by omega, h2, h3⟩
    · rename_i h
      rw [marksTo_mem]
      constructor
      · rintro ⟨i, h1, h2, h3⟩; exact ⟨i, by omega, h2, h3⟩
      · rintro ⟨i, h1, h2, h3⟩
        refine ⟨i, ?_, h2, h3⟩
        by_cases e : i = n
        · subst e; exact absurd h2 h
        · omega
theorem marksTo_len (to : Nat → Bool) : ∀ n, (marksTo to n).length ≤ n
  | 0 => by simp [marksTo]
  | n + 1 => by simp only [marksTo]; have := marksTo_len to n; split <;> simp <;> omega
theorem headQ {Z : List Int} {lo hi : Nat} (h1 : lo < hi) (h2 : hi ≤ Z.length) : (Z.take hi).drop lo = Z.getD lo 0 :: (Z.take hi).drop (lo + 1) := by
  rw [List.drop_eq_getElem_cons (by rw [List.length_take]; omega), List.getElem_take, List.getD_eq_getElem?_getD, List.getElem?_eq_getElem (by omega)]
  rfl
theorem i64s_queueW {Z : List Int} {lo hi : Nat} {k : Int} : ((i64s Z).take hi).drop lo ++ [[D.sc (.int .i64 k)]] = i64s ((Z.take hi).drop lo ++ [k]) := by
  simp [i64s]
end Go.Proofs.Ytjagpdmiffmjhaa
