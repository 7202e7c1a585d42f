/-
  The parts of a graph: the search as a function. Plain Lean. No statement is proved here.
-/
import Derived.Test.YtfaekhadjlgbbaaQTj3
namespace Go.Proofs.Ytfaekhadjlgbbaa
set_option linter.unusedVariables false
structure TR where
  S : TJ
  Z : List Int
  ver : Nat
structure ZOK (st : List Nat) (Z : List Int) : Prop where
  len : st.length ≤ Z.length
  at_ : ∀ j, j < st.length → Z.getD (st.length - 1 - j) 0 = ((st.getD j 0 : Nat) : Int)
theorem ZOK.push {st : List Nat} {Z : List Int} (h : ZOK st Z) (v : Nat) : ZOK (v :: st) (Z.take st.length ++ [(v : Int)]) where
  len := by have := h.len; simp; omega
  at_ j hj := by
    have hl := h.len
    simp only [List.length_cons] at hj ⊢
    cases j with
    | zero =>
      rw [List.getD_eq_getElem?_getD, List.getElem?_append_right (by simp; omega)]
      rw [show st.length + 1 - 1 - 0 - (Z.take st.length).length = 0 by simp; omega]
      rfl
    | succ j =>
      have := h.at_ j (by omega)
      rw [List.getD_cons_succ, ← this, List.getD_eq_getElem?_getD, List.getD_eq_getElem?_getD, List.getElem?_append_left (by simp; omega), List.getElem?_take, if_pos (by omega), show st.length + 1 - 1 - (j + 1) = st.length - 1 - j by omega]
theorem ZOK.drop {pre post : List Nat} {Z : List Int} (h : ZOK (pre ++ post) Z) : ZOK post Z where
  len := by have := h.len; simp at this; omega
  at_ j hj := by
    have := h.at_ (pre.length + j) (by simp; omega)
    rw [List.getD_eq_getElem?_getD (l := pre ++ post), List.getElem?_append_right (by omega), Nat.add_sub_cancel_left, ← List.getD_eq_getElem?_getD, List.length_append, show pre.length + post.length - 1 - (pre.length + j) = post.length - 1 - j by omega] at this
    exact this
def TR.open (R : TR) (v : Nat) (path : List (Nat × Nat)) : TR := ⟨R.S.open v path, R.Z.take R.S.stack.length ++ [(v : Int)], R.ver + 1⟩
/-- The stack above a node of it. -/
theorem TjI.split {g : List (List Int)} {S : TJ} (h : TjI g S) {n : Nat} (hn : n ∈ S.stack) : ∃ pre post, S.stack = pre ++ n :: post ∧ n ∉ pre ∧ (∀ v, v ∈ pre ++ [n] ↔ v ∈ S.stack ∧ S.num n ≤ S.num v) ∧ S.stack.filter (fun v => decide (S.num v < S.num n)) = post := by
  obtain ⟨pre, post, e⟩ := List.append_of_mem hn
  have hs := h.srt
  rw [e, List.pairwise_append] at hs
  obtain ⟨s1, s2, s3⟩ := hs
  rw [List.pairwise_cons] at s2
  have p1 : ∀ v ∈ pre, S.num n < S.num v := fun v hv => s3 v hv n (by simp)
  have p2 : ∀ v ∈ post, S.num v < S.num n := fun v hv => s2.1 v hv
  refine ⟨pre, post, e, fun q => by have := p1 n q; omega, fun v => ?_, ?_⟩
  · rw [e]
    simp only [List.mem_append, List.mem_cons, List.not_mem_nil, or_false]
    constructor
    · rintro (q | q)
      · exact ⟨.inl q, Nat.le_of_lt (p1 v q)⟩
      · subst q; exact ⟨.inr (.inl rfl), Nat.le_refl _⟩
    · rintro ⟨q | q | q, k⟩
      · exact .inl q
      · exact .inr q
      · have := p2 v q; omega
  · rw [e, List.filter_append, List.filter_cons, if_neg (by simp)]
    have f1 : pre.filter (fun v => decide (S.num v < S.num n)) = [] := List.filter_eq_nil_iff.2 fun v hv => by have := p1 v hv; simp; omega
    have f2 : post.filter (fun v => decide (S.num v < S.num n)) = post := List.filter_eq_self.2 fun v hv => by simpa using p2 v hv
    rw [f1, f2]; rfl
end Go.Proofs.Ytfaekhadjlgbbaa
