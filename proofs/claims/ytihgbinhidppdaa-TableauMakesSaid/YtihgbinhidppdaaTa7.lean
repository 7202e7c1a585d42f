/-
  The reference's automaton of a formula, plain: what it keeps, row by row. No statement is proved here.
-/
import Derived.Test.YtihgbinhidppdaaTa6
namespace Go.Proofs.Ytihgbinhidppdaa
open Go.RowKit
set_option linter.unusedSimpArgs false
set_option linter.unusedVariables false
/-! ### Lists of lists that are made row by row -/
def curG {α : Type} (N : Nat) (T : Nat → List α) (k : Nat) (c : List α) : List (List α) := (List.range N).map fun i => if i < k then T i else if i = k then c else []
@[simp] theorem curG_len {α : Type} (N : Nat) (T : Nat → List α) (k : Nat) (c : List α) : (curG N T k c).length = N := by simp [curG]
theorem curG_at {α : Type} {N : Nat} {T : Nat → List α} {k : Nat} {c : List α} (h : k < N) : (curG N T k c).getD k [] = c := by
  rw [List.getD_eq_getElem?_getD, List.getElem?_eq_getElem (by simpa using h)]; simp [curG]
theorem curG_set {α : Type} {N : Nat} {T : Nat → List α} {k : Nat} {c c' : List α} (h : k < N) : (curG N T k c).set k c' = curG N T k c' := by
  refine List.ext_getElem? fun i => ?_
  rw [List.getElem?_set]
  by_cases e : k = i
  · subst e
    rw [if_pos rfl, if_pos (by simpa using h), List.getElem?_eq_getElem (by simpa using h)]
    simp [curG]
  · rw [if_neg e]
    by_cases hi : i < N
    · rw [List.getElem?_eq_getElem (by simpa using hi), List.getElem?_eq_getElem (by simpa using hi)]
      simp only [curG, List.getElem_map, List.getElem_range]
      congr 1
      by_cases q : i < k
      · rw [if_pos q, if_pos q]
      · rw [if_neg q, if_neg q, if_neg (fun z => e z.symm), if_neg (fun z => e z.symm)]
    · rw [List.getElem?_eq_none (by simp; omega), List.getElem?_eq_none (by simp; omega)]
theorem curG_next {α : Type} {N : Nat} {T : Nat → List α} {k : Nat} {c : List α} (hc : c = T k) : curG N T k c = curG N T (k + 1) [] := by
  subst hc
  unfold curG
  refine List.map_congr_left fun i _ => ?_
  by_cases q : i < k
  · rw [if_pos q, if_pos (by omega)]
  · rw [if_neg q]
    by_cases e : i = k
    · subst e; rw [if_pos rfl, if_pos (by omega)]
    · rw [if_neg e, if_neg (by omega)]; split <;> rfl
theorem curG_zero {α : Type} (N : Nat) (T : Nat → List α) : curG N T 0 [] = List.replicate N [] := by
  refine List.ext_getElem? fun i => ?_
  by_cases h : i < N
  · rw [List.getElem?_eq_getElem (by simpa using h), List.getElem?_eq_getElem (by simpa using h)]
    simp [curG]
  · rw [List.getElem?_eq_none (by simp; omega), List.getElem?_eq_none (by simp; omega)]
theorem curG_done {α : Type} (N : Nat) (T : Nat → List α) (c : List α) : curG N T N c = (List.range N).map T := by
  unfold curG
  exact List.map_congr_left fun i hi => if_pos (List.mem_range.1 hi)
/-! ### What the reference keeps of a state -/
/-- The elements: atoms, then parts. -/
def elL (A : List Int) (P : List Tree) : List Tree := atomTs A ++ P
@[simp] theorem elL_len (A : List Int) (P : List Tree) : (elL A P).length = A.length + P.length := by simp [elL]
theorem elL_atom {A : List Int} {P : List Tree} {i : Nat} (h : i < A.length) : (elL A P).getD i default = atomT (A.getD i 0) := by
  unfold elL atomTs
  rw [List.getD_eq_getElem?_getD, List.getElem?_append_left (by simpa using h), List.getElem?_map, List.getElem?_eq_getElem h, List.getD_eq_getElem?_getD, List.getElem?_eq_getElem h]
  rfl
theorem elL_part {A : List Int} {P : List Tree} {i : Nat} (h : A.length ≤ i) : (elL A P).getD i default = P.getD (i - A.length) default := by
  unfold elL
  rw [List.getD_eq_getElem?_getD, List.getElem?_append_right (by simpa using h), List.getD_eq_getElem?_getD]
  simp
theorem TabI.el {A : List Int} {P : List Tree} (hI : TabI A P) {i : Nat} (h : i < A.length + P.length) : ((elL A P).getD i default).wf pKids ∧ Told A P ((elL A P).getD i default) ∧ (((elL A P).getD i default).kind = 3 ↔ i < A.length) ∧ (((elL A P).getD i default).kind = 3 ∨ ((elL A P).getD i default).kind = 7 ∨ ((elL A P).getD i default).kind = 8 ∨ ((elL A P).getD i default).kind = 9) := by
  by_cases q : i < A.length
  · rw [elL_atom q]
    have hr := hI.atoms _ (mem_getD q)
    have hmem := mem_getD q
    generalize A.getD i 0 = n at *
    refine ⟨wf_nodeP ?_ (by simp), ⟨?_, ?_⟩, ⟨fun _ => q, fun _ => rfl⟩, .inl rfl⟩
    · unfold oddNode
      have e1 : (Tree.node 3 n []).kind = 3 := rfl
      have e2 : (Tree.node 3 n []).num = n := rfl
      have e3 : (Tree.node 3 n []).width = 0 := rfl
      rw [e1, e2, e3]
      simp [pKids, lKids]
      omega
    · intro x hx
      rw [show atomsOf (atomT n) = [n] from by simp [atomT, mk0, atomsOf, atomsF]] at hx
      rw [List.mem_singleton] at hx
      subst hx
      exact hmem
    · intro x hx
      rw [show partsOf (atomT n) = [] from by simp [atomT, mk0, partsOf, partsF]] at hx
      cases hx
  · rw [elL_part (by omega)]
    have hg := treeP_mem (P := P) (k := i - A.length) (by omega)
    obtain ⟨h1, h2⟩ := hI.wf _ hg
    exact ⟨h1, hI.told _ hg, ⟨fun h3 => by omega, fun h3 => absurd h3 q⟩, .inr h2⟩
/-- What is kept of one element. -/
noncomputable def rk (A : List Int) (P : List Tree) (s i : Nat) : Bool := holdsT (chE A P s) (baseT ((elL A P).getD i default))
noncomputable def rkRow (A : List Int) (P : List Tree) (s k : Nat) : List Bool := (List.range k).map (rk A P s)
theorem rkRow_succ (A : List Int) (P : List Tree) (s k : Nat) : rkRow A P s (k + 1) = rkRow A P s k ++ [rk A P s k] := by simp [rkRow, List.range_succ]
@[simp] theorem rkRow_len (A : List Int) (P : List Tree) (s k : Nat) : (rkRow A P s k).length = k := by simp [rkRow]
theorem rkRow_at {A : List Int} {P : List Tree} {s k i : Nat} (h : i < k) : (rkRow A P s k).getD i false = rk A P s i := by
  unfold rkRow
  rw [List.getD_eq_getElem?_getD, List.getElem?_map, List.getElem?_range h]; rfl
/-- Does t come behind s, as far as the first elements say? -/
noncomputable def rOk (A : List Int) (P : List Tree) (s t k : Nat) : Bool := (List.range k).all fun i => decide (i < A.length) || (rk A P t i == s.testBit i)
theorem rOk_succ (A : List Int) (P : List Tree) (s t k : Nat) : rOk A P s t (k + 1) = (rOk A P s t k && (decide (k < A.length) || (rk A P t k == s.testBit k))) := by
  unfold rOk
  rw [List.range_succ, List.all_append]
  simp
theorem rOk_all (A : List Int) (P : List Tree) {s t : Nat} (hs : s < 2 ^ (A.length + P.length)) : rOk A P s t (A.length + P.length) = (keptE A P t == s / 2 ^ A.length) := by
  rw [kept_iff A P s t hs]
  unfold rOk
  rw [Bool.eq_iff_iff, List.all_eq_true, List.all_eq_true]
  have hk : ∀ i, rk A P t (A.length + i) = hK A P t i := fun i => by unfold rk hK; rw [elL_part (by omega), Nat.add_sub_cancel_left]
  constructor
  · intro h i hi
    have hi := List.mem_range.1 hi
    have := h (A.length + i) (List.mem_range.2 (by omega))
    rw [hk, decide_eq_false (show ¬ A.length + i < A.length by omega), Bool.false_or] at this
    exact this
  · intro h i hi
    have hi := List.mem_range.1 hi
    by_cases q : i < A.length
    · simp [q]
    · have := h (i - A.length) (List.mem_range.2 (by omega))
      rw [← hk, show A.length + (i - A.length) = i by omega] at this
      rw [this]
      simp
theorem rOk_mono {A : List Int} {P : List Tree} {s t k m : Nat} (h : rOk A P s t k = false) (hm : k ≤ m) : rOk A P s t m = false := by
  induction m with
  | zero => rw [show k = 0 by omega] at h; exact h
  | succ m ih =>
    by_cases e : k = m + 1
    · subst e; exact h
    · rw [rOk_succ, ih (by omega), Bool.false_and]
/-! ### Letters and fair sets -/
def lettR (A : List Int) (s : Nat) (is : Bool) (k : Nat) : Int := lettA A s is (min k A.length)
theorem lettR_succ {A : List Int} {s : Nat} {is : Bool} {k : Nat} (h : k < A.length) : lettR A s is (k + 1) = if (s.testBit k == is) = true then bitsV .or .u64 (lettR A s is k) (2 ^ (A.getD k 0).toNat) else lettR A s is k := by
  unfold lettR
  rw [Nat.min_eq_left (by omega), Nat.min_eq_left (by omega)]
  rfl
theorem lettR_part {A : List Int} {s : Nat} {is : Bool} {k : Nat} (h : A.length ≤ k) : lettR A s is (k + 1) = lettR A s is k := by
  unfold lettR
  rw [Nat.min_eq_right (by omega), Nat.min_eq_right (by omega)]
theorem lettR_all {A : List Int} {P : List Tree} {s : Nat} {is : Bool} : lettR A s is (A.length + P.length) = lettA A s is A.length := by
  unfold lettR
  rw [Nat.min_eq_right (by omega)]
noncomputable def fairR (A : List Int) (P : List Tree) (k : Nat) : List (List Int) := fairsE A P (A.length + P.length) (k - A.length)
theorem fairR_atom {A : List Int} {P : List Tree} {k : Nat} (h : k < A.length) : fairR A P (k + 1) = fairR A P k := by
  unfold fairR
  rw [show k + 1 - A.length = 0 by omega, show k - A.length = 0 by omega]
theorem fairR_part {A : List Int} {P : List Tree} {k : Nat} (h : A.length ≤ k) (hk : k < A.length + P.length) : fairR A P (k + 1) = if ((elL A P).getD k default).kind = 7 then fairR A P k else fairR A P k ++ [setE A P (A.length + P.length) ((elL A P).getD k default)] := by
  unfold fairR
  rw [show k + 1 - A.length = k - A.length + 1 by omega, fairsE_succ A P _ (show k - A.length < P.length by omega), elL_part h]
theorem fairR_len (A : List Int) (P : List Tree) (k : Nat) : (fairR A P k).length ≤ k := Nat.le_trans (fairsE_len ..) (Nat.sub_le ..)
def bcell (b : Bool) : List D := [.sc (.bool b)]
@[simp] theorem under_bcell {m : Nat} (b : Bool) : UnderL m (bcell b) := by simp [bcell, UnderL, Under]
theorem pure_boolV (L : List (List Bool)) : PureLL (L.map fun l => [D.lst 1 (l.map bcell)]) := pureLL_map _ (fun l => by simp only [PureL, Pure, and_true]; exact pureLL_map _ (fun b => by simp [bcell, PureL, Pure]) l) L
/-- What comes behind a state, as the reference finds it. -/
noncomputable def nxR (A : List Int) (P : List Tree) (s k : Nat) : List Int := numsF (fun t => rOk A P s t (A.length + P.length)) k
theorem nxR_succ (A : List Int) (P : List Tree) (s k : Nat) : nxR A P s (k + 1) = if rOk A P s k (A.length + P.length) = true then nxR A P s k ++ [(k : Int)] else nxR A P s k := numsF_succ _ _
theorem nxR_len (A : List Int) (P : List Tree) (s k : Nat) : (nxR A P s k).length ≤ k := numsF_len _ _
theorem nxR_all {A : List Int} {P : List Tree} {s : Nat} (hs : s < 2 ^ (A.length + P.length)) : nxR A P s (2 ^ (A.length + P.length)) = nextE A P (A.length + P.length) s := by
  unfold nxR nextE
  congr 1
  funext t
  exact rOk_all A P hs
theorem rows_at {A : List Int} {P : List Tree} {N n z t : Nat} (hz : z = t) (ht : t < N) : (((List.range N).map fun s => rkRow A P s n).map fun l => [D.lst 1 (l.map bcell)])[z]? = some [D.lst 1 ((rkRow A P t n).map bcell)] := by
  subst hz
  rw [List.getElem?_map, List.getElem?_map, List.getElem?_range ht]; rfl
theorem rkc_at {A : List Int} {P : List Tree} {t n z i : Nat} (hz : z = i) (hi : i < n) : ((rkRow A P t n).map bcell)[z]? = some [D.sc (.bool (rk A P t i))] := by
  subst hz
  unfold rkRow
  rw [List.getElem?_map, List.getElem?_map, List.getElem?_range hi]; rfl
end Go.Proofs.Ytihgbinhidppdaa
