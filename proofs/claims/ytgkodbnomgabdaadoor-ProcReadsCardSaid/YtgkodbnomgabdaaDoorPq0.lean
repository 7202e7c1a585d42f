/-
  Processes read from texts and written as texts. Plain Lean. No statement is proved here.
-/
import Derived.Test.YtgkodbnomgabdaaDoorRd0
import Derived.Test.YtgkodbnomgabdaaDoorPrA
namespace Go.Proofs.YtgkodbnomgabdaaDoor
set_option linter.unusedSimpArgs false
set_option linter.unusedVariables false
/-- The first place from p on where a byte stands, or the end. -/
def fndE (c : Nat) (s : ByteArray) (p : Nat) : Nat := if p < s.size ∧ chr s p ≠ c then fndE c s (p + 1) else p
termination_by s.size - p
theorem fndE_step {c : Nat} {s : ByteArray} {p : Nat} (h : p < s.size) (k : chr s p ≠ c) : fndE c s p = fndE c s (p + 1) := by rw [fndE, if_pos ⟨h, k⟩]
theorem fndE_stop {c : Nat} {s : ByteArray} {p : Nat} (h : p < s.size → chr s p = c) : fndE c s p = p := by rw [fndE, if_neg fun q => q.2 (h q.1)]
theorem fndE_le {c : Nat} {s : ByteArray} : ∀ (n p : Nat), s.size - p = n → p ≤ s.size → p ≤ fndE c s p ∧ fndE c s p ≤ s.size ∧ (fndE c s p < s.size → chr s (fndE c s p) = c)
  | 0, p, h, hp => by rw [fndE_stop fun q => by omega]; exact ⟨by omega, by omega, fun q => by omega⟩
  | n + 1, p, h, hp => by
    by_cases hc : chr s p = c
    · rw [fndE_stop fun _ => hc]; exact ⟨by omega, by omega, fun _ => hc⟩
    · rw [fndE_step (by omega) hc]
      have := fndE_le (c := c) (s := s) n (p + 1) (by omega) (by omega)
      exact ⟨by omega, this.2.1, this.2.2⟩
theorem fndE_out {c : Nat} {s : ByteArray} {p : Nat} (h : s.size ≤ p) : fndE c s p = p := fndE_stop fun q => by omega
theorem fndE_ge {c : Nat} {s : ByteArray} (p : Nat) : p ≤ fndE c s p := by
  rcases Nat.lt_or_ge s.size p with h | h
  · rw [fndE_out (by omega)]; omega
  · exact (fndE_le _ p rfl h).1
theorem fndE_no {c : Nat} {s : ByteArray} : ∀ (n p : Nat), s.size - p = n → ∀ q, p ≤ q → q < fndE c s p → chr s q ≠ c
  | 0, p, h, q, h1, h2 => by rw [fndE_out (by omega)] at h2; omega
  | n + 1, p, h, q, h1, h2 => by
    by_cases hc : chr s p = c
    · rw [fndE_stop fun _ => hc] at h2; omega
    · rw [fndE_step (by omega) hc] at h2
      by_cases e : q = p
      · subst e; exact hc
      · exact fndE_no n (p + 1) (by omega) q (by omega) h2
/-- The pieces of a text between blanks, from p on. -/
def pcs (s : ByteArray) (p : Nat) : List ByteArray :=
  if h : fndE 32 s p < s.size then s.extract p (fndE 32 s p) :: pcs s (fndE 32 s p + 1) else [s.extract p (fndE 32 s p)]
termination_by s.size - p
decreasing_by have := fndE_ge (c := 32) (s := s) p; omega
theorem pcs_more {s : ByteArray} {p : Nat} (h : fndE 32 s p < s.size) : pcs s p = s.extract p (fndE 32 s p) :: pcs s (fndE 32 s p + 1) := by rw [pcs, dif_pos h]
theorem pcs_last {s : ByteArray} {p : Nat} (h : ¬ fndE 32 s p < s.size) : pcs s p = [s.extract p (fndE 32 s p)] := by rw [pcs, dif_neg h]
theorem pcs_pos (s : ByteArray) (p : Nat) : 0 < (pcs s p).length := by
  by_cases h : fndE 32 s p < s.size
  · rw [pcs_more h]; simp
  · rw [pcs_last h]; simp
theorem pcs_len (s : ByteArray) : ∀ (n p : Nat), s.size - p = n → p ≤ s.size → (pcs s p).length ≤ s.size - p + 1
  | n, p, h, hp => by
    by_cases hc : fndE 32 s p < s.size
    · rw [pcs_more hc]
      have h1 := fndE_ge (c := 32) (s := s) p
      have := pcs_len s (s.size - (fndE 32 s p + 1)) (fndE 32 s p + 1) rfl (by omega)
      simp only [List.length_cons]; omega
    · rw [pcs_last hc]; simp
termination_by n => n
theorem pcs_size (s : ByteArray) : ∀ (n p : Nat), s.size - p = n → p ≤ s.size → ∀ x ∈ pcs s p, x.size ≤ s.size
  | n, p, h, hp, x, hx => by
    by_cases hc : fndE 32 s p < s.size
    · rw [pcs_more hc] at hx
      rcases List.mem_cons.1 hx with rfl | hx
      · rw [ByteArray.size_extract]; omega
      · have h1 := fndE_ge (c := 32) (s := s) p
        exact pcs_size s (s.size - (fndE 32 s p + 1)) (fndE 32 s p + 1) rfl (by omega) x hx
    · rw [pcs_last hc, List.mem_singleton] at hx
      subst hx
      rw [ByteArray.size_extract]; omega
termination_by n => n

/-! ### Words of kinds -/
def wordsK : List ByteArray := [⟨#[]⟩, ⟨#[115, 116, 97, 114, 116]⟩, ⟨#[101, 110, 100]⟩, ⟨#[115, 116, 111, 112]⟩, ⟨#[116, 97, 115, 107]⟩, ⟨#[120, 111, 114]⟩, ⟨#[97, 110, 100]⟩, ⟨#[111, 114]⟩]
def wordK (k : Nat) : ByteArray := wordsK.getD k ⟨#[]⟩
def sFlow : ByteArray := ⟨#[102, 108, 111, 119]⟩
/-- The kind that a word tells; 0: none. -/
def kindW (w : ByteArray) : Nat → Nat
  | 0 => 0
  | n + 1 => if kindW w n ≠ 0 then kindW w n else if eqS w (wordK (n + 1)) = true then n + 1 else 0

/-! ### Reading -/
structure RdS where
  nodes : List (ByteArray × Int)
  flows : List (ByteArray × ByteArray × Int)
def w0 (w : List ByteArray) (i : Nat) : ByteArray := w.getD i ⟨#[]⟩
def lineR (st : RdS) (ln : ByteArray) (a : Int) : Option RdS :=
  if eqS (w0 (pcs ln 0) 0) sFlow = true then
    if (pcs ln 0).length = 3 ∧ namedB (w0 (pcs ln 0) 1) = true ∧ namedB (w0 (pcs ln 0) 2) = true then some { st with flows := st.flows ++ [(w0 (pcs ln 0) 1, w0 (pcs ln 0) 2, a)] } else none
  else if kindW (w0 (pcs ln 0) 0) 7 ≠ 0 then
    if (pcs ln 0).length = 2 ∧ namedB (w0 (pcs ln 0) 1) = true ∧ st.flows = [] then some { st with nodes := st.nodes ++ [(w0 (pcs ln 0) 1, ((kindW (w0 (pcs ln 0) 0) 7 : Nat) : Int))] } else none
  else none
inductive RdA (α : Type) where
  | done (x : α)
  | bad (a : Int)
/-- Line by line, from p on; a: the line's number. -/
def linesR (s : ByteArray) : Nat → Nat → Int → RdS → RdA RdS
  | 0, _, a, _ => .bad a
  | f + 1, p, a, st =>
    if p < s.size then
      if fndE 10 s p < s.size then
        match lineR st (s.extract p (fndE 10 s p)) a with
        | some st' => linesR s f (fndE 10 s p + 1) (a + 1) st'
        | none => .bad a
      else .bad a
    else .done st
def nodeI (nodes : List (ByteArray × Int)) (x : ByteArray) : Option Nat := nodes.findIdx? fun n => eqS n.1 x
def flowsR (nodes : List (ByteArray × Int)) : List (ByteArray × ByteArray × Int) → List (Int × Int) → RdA (List (Int × Int))
  | [], out => .done out
  | (x, y, a) :: r, out => match nodeI nodes x, nodeI nodes y with
    | some i, some j => flowsR nodes r (out ++ [((i : Int), (j : Int))])
    | _, _ => .bad a
noncomputable def procR (s : ByteArray) : ProcD × Int × Int :=
  match linesR s (s.size + 1) 0 1 ⟨[], []⟩ with
  | .bad a => (⟨[], []⟩, a, 3)
  | .done st => match flowsR st.nodes st.flows [] with
    | .bad a => (⟨[], []⟩, a, 4)
    | .done fl => if (ProcD.mk st.nodes fl).chk = 0 then (⟨st.nodes, fl⟩, 0, 0) else (⟨[], []⟩, 0, (ProcD.mk st.nodes fl).chk)

/-! ### Writing -/
def sp : ByteArray := ⟨#[32]⟩
def nl : ByteArray := ⟨#[10]⟩
def nodeT (x : ByteArray × Int) : ByteArray := wordK x.2.toNat ++ sp ++ x.1 ++ nl
def flowT (P : ProcD) (f : Int × Int) : ByteArray := ⟨#[102, 108, 111, 119, 32]⟩ ++ P.name f.1.toNat ++ sp ++ P.name f.2.toNat ++ nl
def textN (l : List (ByteArray × Int)) : ByteArray := l.foldl (fun t x => t ++ nodeT x) ⟨#[]⟩
def textP (P : ProcD) (l : List (Int × Int)) : ByteArray := l.foldl (fun t x => t ++ flowT P x) (textN P.nodes)
end Go.Proofs.YtgkodbnomgabdaaDoor
