/-
  Formulas as texts: what a writer answers. Plain Lean. No statement is proved here.
-/
import Derived.Test.YtgkodbnomgabdaaDoorSlim
import Derived.ChangeKeysEq
namespace Go.Proofs.YtgkodbnomgabdaaDoor

def eqS (a b : ByteArray) : Bool := a.toList == b.toList
theorem eqS_symm (a b : ByteArray) : eqS a b = eqS b a := by
  unfold eqS
  exact BEq.comm
@[simp] theorem eqS_refl (a : ByteArray) : eqS a a = true := by simp [eqS]
theorem eqS_empty (a : ByteArray) : eqS a ⟨#[]⟩ = true ↔ a.size = 0 := by
  unfold eqS
  rw [beq_iff_eq, ByteArray.toList_eq, ByteArray.toList_eq]
  show a.data.toList = [] ↔ a.data.size = 0
  rw [List.eq_nil_iff_length_eq_zero, Array.length_toList]
theorem size_mk (l : Array UInt8) : (⟨l⟩ : ByteArray).size = l.size := rfl
def sTrue : ByteArray := ⟨#[116, 114, 117, 101]⟩
def sFalse : ByteArray := ⟨#[102, 97, 108, 115, 101]⟩
def sSilent : ByteArray := ⟨#[115, 105, 108, 101, 110, 116]⟩
/-- Small letters alone. -/
def lowAt (s : ByteArray) (i : Nat) : Bool := match s[i]? with
  | some b => decide (97 ≤ b.toNat) && decide (b.toNat ≤ 122)
  | none => true
def lowB (s : ByteArray) : Bool := (List.range s.size).all (lowAt s)
theorem lowB_true {s : ByteArray} (h : ∀ i, i < s.size → lowAt s i = true) : lowB s = true := by
  unfold lowB
  rw [List.all_eq_true]
  exact fun i hi => h i (List.mem_range.1 hi)
theorem lowB_false {s : ByteArray} {i : Nat} (hi : i < s.size) (h : lowAt s i = false) : lowB s = false := by
  unfold lowB
  rw [List.all_eq_false]
  exact ⟨i, List.mem_range.2 hi, by simp [h]⟩
def namedB (s : ByteArray) : Bool := !(eqS s ⟨#[]⟩) && decide (s.size ≤ 8) && !(eqS s sTrue) && !(eqS s sFalse) && !(eqS s sSilent) && lowB s
/-- Does a text stand among the first n? -/
def dupB (names : List ByteArray) (n : Nat) (s : ByteArray) : Bool := (List.range n).any fun i => eqS (names.getD i ⟨#[]⟩) s
theorem dupB_false {names : List ByteArray} {n : Nat} {s : ByteArray} (h : ∀ i, i < n → eqS (names.getD i ⟨#[]⟩) s = false) : dupB names n s = false := by
  unfold dupB
  rw [List.any_eq_false]
  exact fun i hi => by rw [h i (List.mem_range.1 hi)]; simp
theorem dupB_true {names : List ByteArray} {n i : Nat} {s : ByteArray} (hi : i < n) (h : eqS (names.getD i ⟨#[]⟩) s = true) : dupB names n s = true := by
  unfold dupB
  rw [List.any_eq_true]
  exact ⟨i, List.mem_range.2 hi, h⟩
/-- The name of an atom; none: the empty text. -/
def nm (names : List ByteArray) (n : Int) : ByteArray :=
  if n = 63 then sSilent
  else if (names.length : Int) ≤ n then ⟨#[]⟩
  else if namedB (names.getD n.toNat ⟨#[]⟩) = false then ⟨#[]⟩
  else if dupB names n.toNat (names.getD n.toNat ⟨#[]⟩) = true then ⟨#[]⟩
  else names.getD n.toNat ⟨#[]⟩
theorem nm_size (names : List ByteArray) (n : Int) : (nm names n).size ≤ 8 := by
  unfold nm
  split
  · decide
  split
  · decide
  split
  · decide
  split
  · decide
  · rename_i h _
    have : namedB (names.getD n.toNat ⟨#[]⟩) = true := by simpa using h
    unfold namedB at this
    simp only [Bool.and_eq_true, decide_eq_true_eq] at this
    exact this.1.1.1.1.2

/-- In brackets, if it may not stand bare. -/
def wrapS (b : Bool) (s : ByteArray) : ByteArray := if b then s else ⟨#[40]⟩ ++ s ++ ⟨#[41]⟩
theorem wrap_size (b : Bool) (s : ByteArray) : (wrapS b s).size ≤ s.size + 2 := by
  unfold wrapS
  split
  · omega
  · simp only [ByteArray.size_append]
    have : (⟨#[40]⟩ : ByteArray).size = 1 := rfl
    have : (⟨#[41]⟩ : ByteArray).size = 1 := rfl
    omega
def bareL (k i c : Int) : Bool := if c = 5 then k == 6 || (k == 5 && i == 0) else if c = 6 then k == 6 && i == 0 else if c = 8 ∨ c = 9 then k == c && i == 1 else true
def bareC0 (k i c : Int) : Bool := if c = 5 then k == 6 || (k == 5 && i == 0) else if c = 6 then k == 6 && i == 0 else true
def bareC (k i c : Int) : Bool := if k = 10 ∨ k = 14 then true else bareC0 k i c
def joinL (names : List ByteArray) (k n : Int) (a b : ByteArray) : ByteArray :=
  if k = 1 then sTrue else if k = 2 then sFalse else if k = 3 then nm names n
  else if k = 4 then ⟨#[33]⟩ ++ a else if k = 7 then ⟨#[88, 32]⟩ ++ a else if k = 10 then ⟨#[70, 32]⟩ ++ a else if k = 11 then ⟨#[71, 32]⟩ ++ a
  else if k = 5 then a ++ ⟨#[32, 38, 32]⟩ ++ b else if k = 6 then a ++ ⟨#[32, 47, 32]⟩ ++ b else if k = 8 then a ++ ⟨#[32, 85, 32]⟩ ++ b else a ++ ⟨#[32, 82, 32]⟩ ++ b
def joinC (names : List ByteArray) (k n : Int) (a b : ByteArray) : ByteArray :=
  if k = 1 then sTrue else if k = 2 then sFalse else if k = 3 then nm names n
  else if k = 5 then a ++ ⟨#[32, 38, 32]⟩ ++ b else if k = 6 then a ++ ⟨#[32, 47, 32]⟩ ++ b
  else if k = 10 then ⟨#[69, 32, 91]⟩ ++ a ++ ⟨#[32, 85, 32]⟩ ++ b ++ ⟨#[93]⟩ else if k = 14 then ⟨#[65, 32, 91]⟩ ++ a ++ ⟨#[32, 85, 32]⟩ ++ b ++ ⟨#[93]⟩
  else if k = 4 then ⟨#[33]⟩ ++ a else if k = 7 then ⟨#[69, 88, 32]⟩ ++ a else if k = 8 then ⟨#[69, 70, 32]⟩ ++ a else if k = 9 then ⟨#[69, 71, 32]⟩ ++ a
  else if k = 11 then ⟨#[65, 88, 32]⟩ ++ a else if k = 12 then ⟨#[65, 70, 32]⟩ ++ a else ⟨#[65, 71, 32]⟩ ++ a
theorem ite_size {p : Prop} [Decidable p] {a b : ByteArray} {n : Nat} (h : p → a.size ≤ n) (k : ¬ p → b.size ≤ n) : (if p then a else b).size ≤ n := by
  split
  · exact h ‹_›
  · exact k ‹_›
theorem kind_node (k n : Int) (ks : List Tree) : (Tree.node k n ks).kind = k := rfl
theorem num_node (k n : Int) (ks : List Tree) : (Tree.node k n ks).num = n := rfl
theorem kids_node (k n : Int) (ks : List Tree) : (Tree.node k n ks).kids = ks := rfl
theorem joinL_size (names : List ByteArray) (k n : Int) (a b : ByteArray) : (joinL names k n a b).size ≤ a.size + b.size + 8 := by
  have := nm_size names n
  unfold joinL sTrue sFalse
  generalize nm names n = z at this ⊢
  repeat' (refine ite_size (fun _ => ?_) (fun _ => ?_))
  all_goals ((try simp only [ByteArray.size_append]); (try simp only [size_mk, List.size_toArray, List.length_cons, List.length_nil]); omega)
theorem joinC_size (names : List ByteArray) (k n : Int) (a b : ByteArray) : (joinC names k n a b).size ≤ a.size + b.size + 8 := by
  have := nm_size names n
  unfold joinC sTrue sFalse
  generalize nm names n = z at this ⊢
  repeat' (refine ite_size (fun _ => ?_) (fun _ => ?_))
  all_goals ((try simp only [ByteArray.size_append]); (try simp only [size_mk, List.size_toArray, List.length_cons, List.length_nil]); omega)
mutual
def txtL (names : List ByteArray) : Tree → ByteArray
  | .node k n ks => joinL names k n ((txtsL names k 0 ks).getD 0 ⟨#[]⟩) ((txtsL names k 0 ks).getD 1 ⟨#[]⟩)
def txtsL (names : List ByteArray) (k i : Int) : List Tree → List ByteArray
  | [] => []
  | t :: r => wrapS (bareL k i t.kind) (txtL names t) :: txtsL names k (i + 1) r
end
/-- A kid's text as it stands in its elder's. -/
def kidSL (names : List ByteArray) (t : Tree) (j : Nat) : ByteArray := wrapS (bareL t.kind j (t.kid j).kind) (txtL names (t.kid j))
theorem txtsL_get (names : List ByteArray) (k : Int) : ∀ (ks : List Tree) (i : Int) (j : Nat), j < ks.length → (txtsL names k i ks).getD j ⟨#[]⟩ = wrapS (bareL k (i + j) (ks.getD j default).kind) (txtL names (ks.getD j default))
  | [], _, _, h => by simp at h
  | t :: r, i, 0, _ => by simp [txtsL]
  | t :: r, i, j + 1, h => by
    have := txtsL_get names k r (i + 1) j (by simpa using h)
    simp only [txtsL, List.getD_cons_succ]
    rw [this, show i + 1 + (j : Int) = i + ((j + 1 : Nat) : Int) by omega]
theorem txtsL_none (names : List ByteArray) (k : Int) : ∀ (ks : List Tree) (i : Int) (j : Nat), ks.length ≤ j → (txtsL names k i ks).getD j ⟨#[]⟩ = ⟨#[]⟩
  | [], _, _, _ => by simp [txtsL]
  | t :: r, i, 0, h => by simp at h
  | t :: r, i, j + 1, h => by
    simp only [txtsL, List.getD_cons_succ]
    exact txtsL_none names k r (i + 1) j (by simpa using h)
theorem txtL_eq (names : List ByteArray) (t : Tree) : txtL names t = joinL names t.kind t.num ((txtsL names t.kind 0 t.kids).getD 0 ⟨#[]⟩) ((txtsL names t.kind 0 t.kids).getD 1 ⟨#[]⟩) := by
  cases t; simp only [txtL]; rfl
theorem txtL_0 (names : List ByteArray) {t : Tree} (h : t.width = 0) : txtL names t = joinL names t.kind t.num ⟨#[]⟩ ⟨#[]⟩ := by
  rw [txtL_eq, txtsL_none _ _ _ _ _ (by unfold Tree.width at h; omega), txtsL_none _ _ _ _ _ (by unfold Tree.width at h; omega)]
theorem txtL_1 (names : List ByteArray) {t : Tree} (h : t.width = 1) : txtL names t = joinL names t.kind t.num (kidSL names t 0) ⟨#[]⟩ := by
  rw [txtL_eq, txtsL_get _ _ _ _ _ (by unfold Tree.width at h; omega), txtsL_none _ _ _ _ _ (by unfold Tree.width at h; omega)]
  simp [kidSL, Tree.kid]
theorem txtL_2 (names : List ByteArray) {t : Tree} (h : t.width = 2) : txtL names t = joinL names t.kind t.num (kidSL names t 0) (kidSL names t 1) := by
  rw [txtL_eq, txtsL_get _ _ _ _ _ (by unfold Tree.width at h; omega), txtsL_get _ _ _ _ _ (by unfold Tree.width at h; omega)]
  simp [kidSL, Tree.kid]
theorem txtL_size (names : List ByteArray) (t : Tree) : (txtL names t).size ≤ 12 * t.size := by
  induction t using Tree.ind with
  | h t ih =>
    rw [txtL_eq]
    have hj := joinL_size names t.kind t.num ((txtsL names t.kind 0 t.kids).getD 0 ⟨#[]⟩) ((txtsL names t.kind 0 t.kids).getD 1 ⟨#[]⟩)
    refine Nat.le_trans hj ?_
    have e0 : (⟨#[]⟩ : ByteArray).size = 0 := rfl
    obtain ⟨k, n, ks⟩ := t
    match ks with
    | [] => simp only [kids_node, txtsL, List.getD_nil, e0, Tree.size]; omega
    | [a] =>
      have h0 := ih 0 (by simp [Tree.width, Tree.kids])
      have w0 := wrap_size (bareL k 0 a.kind) (txtL names a)
      simp only [kids_node, kind_node, txtsL, List.getD_cons_zero, List.getD_cons_succ, List.getD_nil, e0, Tree.size, Tree.sizes, Tree.kid] at h0 ⊢
      omega
    | a :: b :: r =>
      have h0 := ih 0 (by simp [Tree.width, Tree.kids])
      have h1 := ih 1 (by simp [Tree.width, Tree.kids])
      have w0 := wrap_size (bareL k 0 a.kind) (txtL names a)
      have w1 := wrap_size (bareL k (0 + 1) b.kind) (txtL names b)
      simp only [kids_node, kind_node, txtsL, List.getD_cons_zero, List.getD_cons_succ, Tree.size, Tree.sizes, Tree.kid] at h0 h1 ⊢
      omega
mutual
def txtC (names : List ByteArray) : Tree → ByteArray
  | .node k n ks => joinC names k n ((txtsC names k 0 ks).getD 0 ⟨#[]⟩) ((txtsC names k 0 ks).getD 1 ⟨#[]⟩)
def txtsC (names : List ByteArray) (k i : Int) : List Tree → List ByteArray
  | [] => []
  | t :: r => wrapS (bareC k i t.kind) (txtC names t) :: txtsC names k (i + 1) r
end
/-- A kid's text as it stands in its elder's. -/
def kidSC (names : List ByteArray) (t : Tree) (j : Nat) : ByteArray := wrapS (bareC t.kind j (t.kid j).kind) (txtC names (t.kid j))
theorem txtsC_get (names : List ByteArray) (k : Int) : ∀ (ks : List Tree) (i : Int) (j : Nat), j < ks.length → (txtsC names k i ks).getD j ⟨#[]⟩ = wrapS (bareC k (i + j) (ks.getD j default).kind) (txtC names (ks.getD j default))
  | [], _, _, h => by simp at h
  | t :: r, i, 0, _ => by simp [txtsC]
  | t :: r, i, j + 1, h => by
    have := txtsC_get names k r (i + 1) j (by simpa using h)
    simp only [txtsC, List.getD_cons_succ]
    rw [this, show i + 1 + (j : Int) = i + ((j + 1 : Nat) : Int) by omega]
theorem txtsC_none (names : List ByteArray) (k : Int) : ∀ (ks : List Tree) (i : Int) (j : Nat), ks.length ≤ j → (txtsC names k i ks).getD j ⟨#[]⟩ = ⟨#[]⟩
  | [], _, _, _ => by simp [txtsC]
  | t :: r, i, 0, h => by simp at h
  | t :: r, i, j + 1, h => by
    simp only [txtsC, List.getD_cons_succ]
    exact txtsC_none names k r (i + 1) j (by simpa using h)
theorem txtC_eq (names : List ByteArray) (t : Tree) : txtC names t = joinC names t.kind t.num ((txtsC names t.kind 0 t.kids).getD 0 ⟨#[]⟩) ((txtsC names t.kind 0 t.kids).getD 1 ⟨#[]⟩) := by
  cases t; simp only [txtC]; rfl
theorem txtC_0 (names : List ByteArray) {t : Tree} (h : t.width = 0) : txtC names t = joinC names t.kind t.num ⟨#[]⟩ ⟨#[]⟩ := by
  rw [txtC_eq, txtsC_none _ _ _ _ _ (by unfold Tree.width at h; omega), txtsC_none _ _ _ _ _ (by unfold Tree.width at h; omega)]
theorem txtC_1 (names : List ByteArray) {t : Tree} (h : t.width = 1) : txtC names t = joinC names t.kind t.num (kidSC names t 0) ⟨#[]⟩ := by
  rw [txtC_eq, txtsC_get _ _ _ _ _ (by unfold Tree.width at h; omega), txtsC_none _ _ _ _ _ (by unfold Tree.width at h; omega)]
  simp [kidSC, Tree.kid]
theorem txtC_2 (names : List ByteArray) {t : Tree} (h : t.width = 2) : txtC names t = joinC names t.kind t.num (kidSC names t 0) (kidSC names t 1) := by
  rw [txtC_eq, txtsC_get _ _ _ _ _ (by unfold Tree.width at h; omega), txtsC_get _ _ _ _ _ (by unfold Tree.width at h; omega)]
  simp [kidSC, Tree.kid]
theorem txtC_size (names : List ByteArray) (t : Tree) : (txtC names t).size ≤ 12 * t.size := by
  induction t using Tree.ind with
  | h t ih =>
    rw [txtC_eq]
    have hj := joinC_size names t.kind t.num ((txtsC names t.kind 0 t.kids).getD 0 ⟨#[]⟩) ((txtsC names t.kind 0 t.kids).getD 1 ⟨#[]⟩)
    refine Nat.le_trans hj ?_
    have e0 : (⟨#[]⟩ : ByteArray).size = 0 := rfl
    obtain ⟨k, n, ks⟩ := t
    match ks with
    | [] => simp only [kids_node, txtsC, List.getD_nil, e0, Tree.size]; omega
    | [a] =>
      have h0 := ih 0 (by simp [Tree.width, Tree.kids])
      have w0 := wrap_size (bareC k 0 a.kind) (txtC names a)
      simp only [kids_node, kind_node, txtsC, List.getD_cons_zero, List.getD_cons_succ, List.getD_nil, e0, Tree.size, Tree.sizes, Tree.kid] at h0 ⊢
      omega
    | a :: b :: r =>
      have h0 := ih 0 (by simp [Tree.width, Tree.kids])
      have h1 := ih 1 (by simp [Tree.width, Tree.kids])
      have w0 := wrap_size (bareC k 0 a.kind) (txtC names a)
      have w1 := wrap_size (bareC k (0 + 1) b.kind) (txtC names b)
      simp only [kids_node, kind_node, txtsC, List.getD_cons_zero, List.getD_cons_succ, Tree.size, Tree.sizes, Tree.kid] at h0 h1 ⊢
      omega
/-- Have all atoms names? -/
def okHead (names : List ByteArray) (k n : Int) : Bool := k != 3 || !(eqS (nm names n) ⟨#[]⟩)
mutual
def okN (names : List ByteArray) : Tree → Bool
  | .node k n ks => okHead names k n && oksN names ks
def oksN (names : List ByteArray) : List Tree → Bool
  | [] => true
  | t :: r => okN names t && oksN names r
end
theorem oksN_all (names : List ByteArray) : ∀ ks, oksN names ks = ks.all (okN names)
  | [] => by simp only [oksN, List.all_nil]
  | t :: r => by simp only [oksN, List.all_cons, oksN_all names r]
theorem okN_eq (names : List ByteArray) (t : Tree) : okN names t = (okHead names t.kind t.num && t.kids.all (okN names)) := by
  cases t; simp only [okN, oksN_all]; rfl
theorem kids_1 {t : Tree} (h : t.width = 1) : t.kids = [t.kid 0] := by
  unfold Tree.width at h
  unfold Tree.kid
  match e : t.kids, h with
  | [a], _ => rfl
theorem kids_2 {t : Tree} (h : t.width = 2) : t.kids = [t.kid 0, t.kid 1] := by
  unfold Tree.width at h
  unfold Tree.kid
  match e : t.kids, h with
  | [a, b], _ => rfl
theorem okN_0 (names : List ByteArray) {t : Tree} (h : t.width = 0) : okN names t = okHead names t.kind t.num := by
  rw [okN_eq, List.length_eq_zero_iff.1 h]; simp
theorem okN_1 (names : List ByteArray) {t : Tree} (h : t.width = 1) (hk : t.kind ≠ 3) : okN names t = okN names (t.kid 0) := by
  rw [okN_eq, kids_1 h]; simp [hk, okHead]
theorem okN_2 (names : List ByteArray) {t : Tree} (h : t.width = 2) (hk : t.kind ≠ 3) : okN names t = (okN names (t.kid 0) && okN names (t.kid 1)) := by
  rw [okN_eq, kids_2 h]; simp [hk, okHead]
end Go.Proofs.YtgkodbnomgabdaaDoor
