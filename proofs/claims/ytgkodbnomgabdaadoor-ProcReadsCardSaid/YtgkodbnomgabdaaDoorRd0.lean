/-
  Formulas read from texts: tokens, and what a reader answers. Plain Lean. No statement is proved here.
-/
import Derived.Test.YtgkodbnomgabdaaDoorTxp
namespace Go.Proofs.YtgkodbnomgabdaaDoor
set_option linter.unusedSimpArgs false
set_option linter.unusedVariables false

/-! ### Tokens -/
/-- The byte at a place. -/
def chr (s : ByteArray) (p : Nat) : Nat := match s[p]? with
  | some b => b.toNat
  | none => 0
/-- Behind blanks. -/
def skB (s : ByteArray) (p : Nat) : Nat := if p < s.size ∧ chr s p = 32 then skB s (p + 1) else p
termination_by s.size - p
/-- Behind small letters. -/
def loE (s : ByteArray) (p : Nat) : Nat := if p < s.size ∧ 97 ≤ chr s p ∧ chr s p ≤ 122 then loE s (p + 1) else p
termination_by s.size - p
theorem skB_step {s : ByteArray} {p : Nat} (h : p < s.size) (k : chr s p = 32) : skB s p = skB s (p + 1) := by rw [skB, if_pos ⟨h, k⟩]
theorem skB_stop {s : ByteArray} {p : Nat} (h : p < s.size → chr s p ≠ 32) : skB s p = p := by rw [skB, if_neg fun q => h q.1 q.2]
theorem loE_step {s : ByteArray} {p : Nat} (h : p < s.size) (k : 97 ≤ chr s p) (k' : chr s p ≤ 122) : loE s p = loE s (p + 1) := by rw [loE, if_pos ⟨h, k, k'⟩]
theorem loE_stop {s : ByteArray} {p : Nat} (h : p < s.size → ¬ (97 ≤ chr s p ∧ chr s p ≤ 122)) : loE s p = p := by rw [loE, if_neg fun q => h q.1 q.2]
theorem skB_le {s : ByteArray} : ∀ (n p : Nat), s.size - p = n → p ≤ s.size → p ≤ skB s p ∧ skB s p ≤ s.size ∧ (skB s p < s.size → chr s (skB s p) ≠ 32)
  | 0, p, h, hp => by rw [skB_stop fun q => by omega]; exact ⟨by omega, by omega, fun q => by omega⟩
  | n + 1, p, h, hp => by
    by_cases hc : chr s p = 32
    · rw [skB_step (by omega) hc]
      have := skB_le (s := s) n (p + 1) (by omega) (by omega)
      exact ⟨by omega, this.2.1, this.2.2⟩
    · rw [skB_stop fun _ => hc]; exact ⟨by omega, by omega, fun _ => hc⟩
theorem loE_le {s : ByteArray} : ∀ (n p : Nat), s.size - p = n → p ≤ s.size → p ≤ loE s p ∧ loE s p ≤ s.size
  | 0, p, h, hp => by rw [loE_stop fun q => by omega]; omega
  | n + 1, p, h, hp => by
    by_cases hc : 97 ≤ chr s p ∧ chr s p ≤ 122
    · rw [loE_step (by omega) hc.1 hc.2]
      have := loE_le (s := s) n (p + 1) (by omega) (by omega)
      omega
    · rw [loE_stop fun _ => hc]; omega
theorem loE_gt {s : ByteArray} {p : Nat} (hp : p < s.size) : p < loE s p ↔ 97 ≤ chr s p ∧ chr s p ≤ 122 := by
  constructor
  · intro h
    by_cases hc : 97 ≤ chr s p ∧ chr s p ≤ 122
    · exact hc
    · rw [loE_stop fun _ => hc] at h; omega
  · intro hc
    rw [loE_step hp hc.1 hc.2]
    have := (loE_le (s := s) _ (p + 1) rfl (by omega)).1
    omega
/-- The end of a token that begins at i. -/
def tkE (s : ByteArray) (i : Nat) : Nat :=
  if i < loE s i then loE s i else if i = s.size then i else if chr s i = 45 ∧ i + 1 < s.size ∧ chr s (i + 1) = 62 then i + 2 else i + 1
theorem tkE_le {s : ByteArray} {i : Nat} (hi : i ≤ s.size) : i ≤ tkE s i ∧ tkE s i ≤ s.size ∧ (i < s.size → i < tkE s i) := by
  have := loE_le (s := s) _ i rfl hi
  unfold tkE
  (repeat' split) <;> omega
/-- Where the token of a number begins to be looked for. -/
def posT (s : ByteArray) : Nat → Nat
  | 0 => 0
  | n + 1 => tkE s (skB s (posT s n))
def atT (s : ByteArray) (n : Nat) : Nat := skB s (posT s n)
def tokT (s : ByteArray) (n : Nat) : ByteArray := s.extract (atT s n) (posT s (n + 1))
theorem posT_le (s : ByteArray) : ∀ n, posT s n ≤ s.size
  | 0 => Nat.zero_le _
  | n + 1 => (tkE_le (skB_le (s := s) _ _ rfl (posT_le s n)).2.1).2.1
theorem atT_le (s : ByteArray) (n : Nat) : posT s n ≤ atT s n ∧ atT s n ≤ s.size := ⟨(skB_le _ _ rfl (posT_le s n)).1, (skB_le _ _ rfl (posT_le s n)).2.1⟩
theorem posT_next (s : ByteArray) (n : Nat) : atT s n ≤ posT s (n + 1) ∧ posT s (n + 1) ≤ s.size ∧ (atT s n < s.size → atT s n < posT s (n + 1)) := tkE_le (atT_le s n).2
theorem tokT_size (s : ByteArray) (n : Nat) : (tokT s n).size = posT s (n + 1) - atT s n := by
  unfold tokT
  rw [ByteArray.size_extract]
  have := (posT_next s n).2.1
  omega
theorem tokT_empty {s : ByteArray} {n : Nat} : eqS (tokT s n) ⟨#[]⟩ = true ↔ atT s n = s.size := by
  rw [eqS_empty, tokT_size]
  have := posT_next s n
  have := atT_le s n
  constructor
  · intro h; omega
  · intro h; omega
theorem atT_grow {s : ByteArray} : ∀ n, atT s n < s.size → n ≤ atT s n
  | 0, _ => Nat.zero_le _
  | n + 1, h => by
    have h1 := posT_next s n
    have h2 := atT_le s (n + 1)
    by_cases hn : atT s n < s.size
    · have := atT_grow n hn
      have := h1.2.2 hn
      omega
    · omega
theorem tok_none {s : ByteArray} {n : Nat} (h : s.size ≤ n) : eqS (tokT s n) ⟨#[]⟩ = true := by
  rw [tokT_empty]
  have := atT_le s n
  by_cases h1 : atT s n < s.size
  · have := atT_grow n h1; omega
  · omega
/-- How many tokens there are ahead of the empty one. -/
theorem tok_end (s : ByteArray) : ∃ K, K ≤ s.size ∧ eqS (tokT s K) ⟨#[]⟩ = true ∧ ∀ n, n < K → eqS (tokT s n) ⟨#[]⟩ = false := by
  have key : ∀ m, (∃ K, K ≤ m ∧ eqS (tokT s K) ⟨#[]⟩ = true ∧ ∀ n, n < K → eqS (tokT s n) ⟨#[]⟩ = false) ∨ ∀ n, n ≤ m → eqS (tokT s n) ⟨#[]⟩ = false := fun m => by
    induction m with
    | zero =>
      cases h : eqS (tokT s 0) ⟨#[]⟩ with
      | true => exact .inl ⟨0, Nat.le_refl _, h, fun n hn => by omega⟩
      | false => exact .inr fun n hn => by rw [show n = 0 by omega]; exact h
    | succ m ih =>
      rcases ih with ⟨K, h1, h2, h3⟩ | ih
      · exact .inl ⟨K, by omega, h2, h3⟩
      · cases h : eqS (tokT s (m + 1)) ⟨#[]⟩ with
        | true => exact .inl ⟨m + 1, Nat.le_refl _, h, fun n hn => ih n (by omega)⟩
        | false =>
          refine .inr fun n hn => ?_
          by_cases e : n = m + 1
          · subst e; exact h
          · exact ih n (by omega)
  rcases key s.size with h | h
  · exact h
  · have := h s.size (Nat.le_refl _)
    rw [tok_none (Nat.le_refl _)] at this
    cases this
/-- Does a token begin with a small letter? -/
def lowT (t : ByteArray) : Bool := decide (0 < t.size) && decide (97 ≤ chr t 0) && decide (chr t 0 ≤ 122)

theorem eqS_size {a b : ByteArray} (h : eqS a b = true) : a.size = b.size := by
  unfold eqS at h
  rw [beq_iff_eq, ByteArray.toList_eq, ByteArray.toList_eq] at h
  have := congrArg List.length h
  simpa using this

/-! ### What is read -/
inductive Job where
  | formula
  | row (hi : Bool)
  | rowL (hi : Bool) (a : Tree)
  | way
  | single
  | ways (e : Bool)
/-- What is answered: a tree and how far it reads; or what is wrong, where, and the trees that the program and the reference hand back all the same. -/
inductive Res where
  | ok (a : Tree) (m : Nat)
  | bad (c : Int) (m : Nat) (x y : Tree)
def bindR (r : Option Res) (gx gy : Tree → Tree) (k : Tree → Nat → Option Res) : Option Res := match r with
  | some (.ok a m) => k a m
  | some (.bad c m x y) => some (.bad c m (gx x) (gy y))
  | none => none
theorem bindR_some {r : Option Res} {gx gy : Tree → Tree} {k : Tree → Nat → Option Res} {x : Res} (h : bindR r gx gy k = some x) : (∃ a m, r = some (.ok a m) ∧ k a m = some x) ∨ ∃ c m u v, r = some (.bad c m u v) ∧ x = .bad c m (gx u) (gy v) := by
  unfold bindR at h
  split at h
  · exact .inl ⟨_, _, rfl, h⟩
  · exact .inr ⟨_, _, _, _, rfl, (Option.some.inj h).symm⟩
  · cases h
def one (b : UInt8) : ByteArray := ⟨#[b]⟩
def sArrow : ByteArray := ⟨#[45, 62]⟩
def sgnR (hi : Bool) : ByteArray := match hi with | true => one 47 | false => one 38
def kndR (hi : Bool) : Int := match hi with | true => 6 | false => 5
def partR (hi : Bool) : Job := match hi with | true => .row false | false => .way
/-- The kind of a sign ahead of a formula; 0: it is none. -/
def preK (all : Bool) (t : ByteArray) : Int := if eqS t (one 33) then 4 else if all then 0 else if eqS t (one 88) then 7 else if eqS t (one 70) then 10 else if eqS t (one 71) then 11 else 0
def wayK (t : ByteArray) : Int := if eqS t (one 88) then 7 else if eqS t (one 70) then 8 else if eqS t (one 71) then 9 else 0
section
variable (T : Nat → ByteArray) (names : List ByteArray) (all : Bool)
/-- A fault where nothing is made. -/
def noR (c : Int) (n : Nat) : Res := .bad c n (mk0 0 0) (mk0 3 0)
/-- A truth, or a name. -/
def wordR (n : Nat) : Res :=
  if lowT (T n) = false then noR 3 n
  else if eqS (T n) sTrue then .ok (mk0 1 0) (n + 1)
  else if eqS (T n) sFalse then .ok (mk0 2 0) (n + 1)
  else if eqS (T n) sSilent then .ok (mk0 3 63) (n + 1)
  else match names.findIdx? (eqS (T n)) with
    | some i => if i < 63 ∧ namedB (T n) = true then .ok (mk0 3 i) (n + 1) else noR 4 n
    | none => noR 4 n
def orTrue (b : Tree) : Tree := if 60 < b.size then mk0 1 0 else b
def runR : Nat → Job → Nat → Nat → Option Res
  | 0, _, _, _ => none
  | f + 1, .formula, o, n => bindR (runR f (.row true) o n) id id fun a m =>
    if eqS (T m) sArrow then bindR (runR f .formula o (m + 1)) id (mk2 6 (mk1 4 a)) fun b k => some (.ok (mk2 6 (mk1 4 a) b) k) else some (.ok a m)
  | f + 1, .row hi, o, n => bindR (runR f (partR hi) o n) id id fun a m => runR f (.rowL hi a) o m
  | f + 1, .rowL hi a, o, n => if eqS (T n) (sgnR hi) then bindR (runR f (partR hi) o (n + 1)) (mk2 (kndR hi) a) (mk2 (kndR hi) a) fun b m => runR f (.rowL hi (mk2 (kndR hi) a b)) o m else some (.ok a n)
  | f + 1, .way, o, n => bindR (runR f .single o n) id id fun a m =>
    if all then some (.ok a m)
    else if eqS (T m) (one 85) then bindR (runR f .way o (m + 1)) (fun _ => a) (mk2 8 a) fun b k => some (.ok (mk2 8 a b) k)
    else if eqS (T m) (one 82) then bindR (runR f .way o (m + 1)) (fun _ => a) (mk2 9 a) fun b k => some (.ok (mk2 9 a b) k)
    else if eqS (T m) (one 87) then bindR (runR f .way o (m + 1)) (fun _ => a) (fun b => mk2 9 b (mk2 6 a (orTrue b))) fun b k => some (.ok (mk2 9 b (mk2 6 a (orTrue b))) k)
    else some (.ok a m)
  | f + 1, .single, o, n =>
    if eqS (T n) (one 40) then
      if o = 20 then some (noR 5 n) else bindR (runR f .formula (o + 1) (n + 1)) id (fun _ => mk0 3 0) fun a m => if eqS (T m) (one 41) then some (.ok a (m + 1)) else some (.bad 3 m a (mk0 3 0))
    else if preK all (T n) ≠ 0 then
      if o = 20 then some (.bad 5 n (mk1 (preK all (T n)) (mk0 0 0)) (mk0 3 0)) else bindR (runR f .single (o + 1) (n + 1)) (mk1 (preK all (T n))) (mk1 (preK all (T n))) fun a m => some (.ok (mk1 (preK all (T n)) a) m)
    else if all = true ∧ (eqS (T n) (one 69) = true ∨ eqS (T n) (one 65) = true) then
      if o = 20 then some (noR 5 n) else runR f (.ways (eqS (T n) (one 69))) (o + 1) (n + 1)
    else some (wordR T names n)
  | f + 1, .ways e, o, n =>
    if eqS (T n) (one 91) then bindR (runR f .formula o (n + 1)) id (fun _ => mk0 3 0) fun a m =>
      if eqS (T m) (one 85) then bindR (runR f .formula o (m + 1)) (mk2 (if e then 10 else 14) a) (fun _ => mk0 3 0) fun b k => if eqS (T k) (one 93) then some (.ok (mk2 (if e then 10 else 14) a b) (k + 1)) else some (.bad 3 k (mk2 (if e then 10 else 14) a b) (mk0 3 0))
      else some (.bad 3 m a (mk0 3 0))
    else if wayK (T n) ≠ 0 then bindR (runR f .single o (n + 1)) (mk1 (if e then wayK (T n) else wayK (T n) + 4)) (mk1 (if e then wayK (T n) else wayK (T n) + 4)) fun a m => some (.ok (mk1 (if e then wayK (T n) else wayK (T n) + 4) a) m)
    else some (noR 3 n)

/-! ### It ends, and reads on -/
def lvlJ : Job → Nat
  | .single => 0
  | .way => 1
  | .row false => 2
  | .row true => 3
  | .formula => 4
  | .rowL _ _ => 6
  | .ways _ => 5
def afterJ : Job → Bool
  | .rowL _ _ => false
  | _ => true
variable {T names all}
theorem runR_ends {K : Nat} (hK : eqS (T K) ⟨#[]⟩ = true) : ∀ (f : Nat) (j : Job) (o n : Nat), n ≤ K → 8 * (K - n) + lvlJ j < f →
    ∃ r, runR T names all f j o n = some r ∧ (∀ a m, r = .ok a m → n ≤ m ∧ m ≤ K ∧ (afterJ j = true → n < m)) ∧ (∀ c m x y, r = .bad c m x y → m ≤ K ∧ (c = 3 ∨ c = 4 ∨ c = 5)) := by
  have hK := (eqS_empty _).1 hK
  have lt : ∀ {n : Nat} {t : ByteArray}, n ≤ K → eqS (T n) t = true → 0 < t.size → n < K := fun {n t} hn h h0 => by
    rcases Nat.lt_or_ge n K with h1 | h1
    · exact h1
    · rw [show n = K by omega] at h
      have := eqS_size h
      omega
  have hb : ∀ {j : Job} {o n f : Nat} {n' : Nat} {gx gy : Tree → Tree} {k : Tree → Nat → Option Res} {P : Prop}, (∃ r, runR T names all f j o n = some r ∧ (∀ a m, r = .ok a m → n ≤ m ∧ m ≤ K ∧ (afterJ j = true → n < m)) ∧ (∀ c m x y, r = .bad c m x y → m ≤ K ∧ (c = 3 ∨ c = 4 ∨ c = 5))) →
      (∀ a m, n ≤ m → m ≤ K → (afterJ j = true → n < m) → ∃ r, k a m = some r ∧ (∀ a m, r = .ok a m → n' ≤ m ∧ m ≤ K ∧ (P → n' < m)) ∧ (∀ c m x y, r = .bad c m x y → m ≤ K ∧ (c = 3 ∨ c = 4 ∨ c = 5))) →
      ∃ r, bindR (runR T names all f j o n) gx gy k = some r ∧ (∀ a m, r = .ok a m → n' ≤ m ∧ m ≤ K ∧ (P → n' < m)) ∧ (∀ c m x y, r = .bad c m x y → m ≤ K ∧ (c = 3 ∨ c = 4 ∨ c = 5)) := by
    rintro j o n f n' gx gy k P ⟨r, h1, h2, h3⟩ hk
    rw [h1]
    cases r with
    | ok a m => have := h2 a m rfl; exact hk a m this.1 this.2.1 this.2.2
    | bad c m x y => exact ⟨_, rfl, fun a m h => (by cases h), fun c' m' x' y' h => (by cases h; exact h3 _ _ _ _ rfl)⟩
  have ok : ∀ {a : Tree} {m n' : Nat} {P : Prop}, n' ≤ m → m ≤ K → (P → n' < m) → ∃ r, some (Res.ok a m) = some r ∧ (∀ a m, r = .ok a m → n' ≤ m ∧ m ≤ K ∧ (P → n' < m)) ∧ (∀ c m x y, r = .bad c m x y → m ≤ K ∧ (c = 3 ∨ c = 4 ∨ c = 5)) := fun h1 h2 h3 =>
    ⟨_, rfl, fun a m h => (by cases h; exact ⟨h1, h2, h3⟩), fun c m x y h => (by cases h)⟩
  have bad : ∀ {c : Int} {m n' : Nat} {x y : Tree} {P : Prop}, m ≤ K → (c = 3 ∨ c = 4 ∨ c = 5) → ∃ r, some (Res.bad c m x y) = some r ∧ (∀ a m, r = .ok a m → n' ≤ m ∧ m ≤ K ∧ (P → n' < m)) ∧ (∀ c m x y, r = .bad c m x y → m ≤ K ∧ (c = 3 ∨ c = 4 ∨ c = 5)) := fun h1 h2 =>
    ⟨_, rfl, fun a m h => (by cases h), fun c m x y h => (by cases h; exact ⟨h1, h2⟩)⟩
  intro f
  induction f with
  | zero => intro j o n _ h; omega
  | succ f ih =>
    intro j o n hn hf
    cases j with
    | formula =>
      simp only [lvlJ] at hf
      simp only [runR]
      refine hb (ih (.row true) o n hn (by simp only [lvlJ]; omega)) fun a m h1 h2 h3 => ?_
      have h3 := h3 rfl
      split
      · rename_i he
        have hm := lt h2 he (by decide)
        refine hb (ih .formula o (m + 1) (by omega) (by simp only [lvlJ]; omega)) fun b k g1 g2 g3 => ok (by omega) g2 (fun _ => by omega)
      · exact ok h1 h2 fun _ => h3
    | row hi =>
      simp only [runR]
      have hl : lvlJ (partR hi) < lvlJ (.row hi) := by cases hi <;> simp [partR, lvlJ]
      have ha : afterJ (partR hi) = true := by cases hi <;> rfl
      have hl3 : lvlJ (.row hi) ≤ 3 := by cases hi <;> simp [lvlJ]
      refine hb (ih _ o n hn (by omega)) fun a m h1 h2 h3 => ?_
      have h3 := h3 ha
      obtain ⟨r, e1, e2, e3⟩ := ih (.rowL hi a) o m h2 (by simp only [lvlJ]; omega)
      exact ⟨r, e1, fun a' m' h => by have := e2 a' m' h; exact ⟨by omega, this.2.1, fun _ => by omega⟩, e3⟩
    | rowL hi a =>
      simp only [lvlJ] at hf
      simp only [runR]
      split
      · rename_i he
        have hm := lt hn he (by cases hi <;> decide)
        have hl : lvlJ (partR hi) ≤ 2 := by cases hi <;> simp [partR, lvlJ]
        refine hb (ih _ o (n + 1) (by omega) (by omega)) fun b m h1 h2 h3 => ?_
        obtain ⟨r, e1, e2, e3⟩ := ih (.rowL hi (mk2 (kndR hi) a b)) o m h2 (by simp only [lvlJ]; omega)
        exact ⟨r, e1, fun a' m' h => by have := e2 a' m' h; exact ⟨by omega, this.2.1, fun _ => by omega⟩, e3⟩
      · exact ok (Nat.le_refl _) hn fun h => by cases h
    | way =>
      simp only [lvlJ] at hf
      simp only [runR]
      refine hb (ih .single o n hn (by simp only [lvlJ]; omega)) fun a m h1 h2 h3 => ?_
      have h3 := h3 rfl
      have go : ∀ {t : ByteArray} {g gx gy : Tree → Tree}, eqS (T m) t = true → 0 < t.size → ∃ r, (bindR (runR T names all f .way o (m + 1)) gx gy fun b k => some (.ok (g b) k)) = some r ∧ (∀ a m, r = .ok a m → n ≤ m ∧ m ≤ K ∧ (afterJ .way = true → n < m)) ∧ (∀ c m x y, r = .bad c m x y → m ≤ K ∧ (c = 3 ∨ c = 4 ∨ c = 5)) := fun {t g gx gy} he h0 => by
        have hm := lt h2 he h0
        exact hb (ih .way o (m + 1) (by omega) (by simp only [lvlJ]; omega)) fun b k g1 g2 g3 => ok (by omega) g2 (fun _ => by omega)
      split
      · exact ok h1 h2 fun _ => h3
      split
      · exact go ‹_› (by decide)
      split
      · exact go ‹_› (by decide)
      split
      · exact go (g := fun b => mk2 9 b (mk2 6 a (orTrue b))) ‹_› (by decide)
      · exact ok h1 h2 fun _ => h3
    | single =>
      simp only [lvlJ] at hf
      simp only [runR]
      split
      · rename_i he
        have hm := lt hn he (by decide)
        split
        · exact bad hn (by omega)
        refine hb (ih .formula (o + 1) (n + 1) (by omega) (by simp only [lvlJ]; omega)) fun a m h1 h2 h3 => ?_
        split
        · rename_i h4
          have := lt h2 h4 (by decide)
          exact ok (by omega) (by omega) fun _ => by omega
        · exact bad h2 (by omega)
      split
      · rename_i he
        have hm : n < K := by
          unfold preK at he
          split at he
          · exact lt hn ‹_› (by decide)
          split at he
          · exact absurd rfl he
          repeat (split at he; · exact lt hn ‹_› (by decide))
          exact absurd rfl he
        split
        · exact bad hn (by omega)
        refine hb (ih .single (o + 1) (n + 1) (by omega) (by simp only [lvlJ]; omega)) fun a m h1 h2 h3 => ?_
        have := h3 rfl
        exact ok (by omega) h2 fun _ => by omega
      split
      · rename_i he
        have hm : n < K := he.2.elim (fun h => lt hn h (by decide)) (fun h => lt hn h (by decide))
        split
        · exact bad hn (by omega)
        obtain ⟨r, e1, e2, e3⟩ := ih (.ways (eqS (T n) (one 69))) (o + 1) (n + 1) (by omega) (by simp only [lvlJ]; omega)
        exact ⟨r, e1, fun a' m' h => by have := e2 a' m' h; exact ⟨by omega, this.2.1, fun _ => by omega⟩, e3⟩
      · unfold wordR
        split
        · exact bad hn (by omega)
        rename_i hl
        have hm : n < K := by
          rcases Nat.lt_or_ge n K with h1 | h1
          · exact h1
          · refine absurd ?_ hl
            rw [show n = K by omega]
            unfold lowT
            rw [hK]
            rfl
        (repeat' split) <;> first
          | exact ok (by omega) (by omega) fun _ => by omega
          | exact bad hn (by omega)
    | ways e =>
      simp only [lvlJ] at hf
      simp only [runR]
      split
      · rename_i he
        have hm := lt hn he (by decide)
        refine hb (ih .formula o (n + 1) (by omega) (by simp only [lvlJ]; omega)) fun a m h1 h2 h3 => ?_
        have h3 := h3 rfl
        split
        · rename_i he2
          have hm2 := lt h2 he2 (by decide)
          refine hb (ih .formula o (m + 1) (by omega) (by simp only [lvlJ]; omega)) fun b k g1 g2 g3 => ?_
          have g3 := g3 rfl
          split
          · rename_i he3
            have hm3 := lt g2 he3 (by decide)
            exact ok (by omega) (by omega) fun _ => by omega
          · exact bad g2 (by omega)
        · exact bad h2 (by omega)
      split
      · rename_i he
        have hm : n < K := by
          unfold wayK at he
          repeat (split at he; · exact lt hn ‹_› (by decide))
          exact absurd rfl he
        refine hb (ih .single o (n + 1) (by omega) (by simp only [lvlJ]; omega)) fun a m h1 h2 h3 => ?_
        have := h3 rfl
        exact ok (by omega) h2 fun _ => by omega
      · exact bad hn (by omega)
end
end Go.Proofs.YtgkodbnomgabdaaDoor
