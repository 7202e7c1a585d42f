/-
  Deep values: what a Go value reads as, a heap of the call's own objects, and what operations do to them. No statement is proved here.
-/
import Derived.WalkKit
import Derived.Below
import Derived.Lib.Hide
import Derived.Laws.MakeOwn
import Derived.Laws.Append
import Derived.Deep.AppendSrc
import Derived.Maps.Keyed
import Derived.Carry
namespace Go.Proofs.YtgkodbnomgabdaaDoor
/-! ### XDp -/
section
open Go.RowKit

/-- Tests, said plainly: for the end of a test. -/
theorem oo : (∀ {α : Type} [BEq α] [LawfulBEq α] {a b : α}, (a != b) = true ↔ a ≠ b) ∧ (∀ {α : Type} (a b : α), (a ≠ b) = ¬a = b) ∧ (∀ {α : Type} [BEq α] [LawfulBEq α] {a b : α}, (a != b) = false ↔ a = b) ∧
    (∀ {α : Type} [BEq α] [LawfulBEq α] {a b : α}, (a == b) = true ↔ a = b) ∧ (∀ {α : Type} [BEq α] [LawfulBEq α] {a b : α}, (a == b) = false ↔ a ≠ b) ∧ (∀ {p : Prop} [Decidable p], (decide p = true) = p) ∧ (∀ {p : Prop} [Decidable p], decide p = false ↔ ¬p) ∧
    (∀ {α β : Type} {as : List α} (f : α → β), (List.map f as).length = as.length) ∧ (∀ b : Bool, (¬b = true) = (b = false)) ∧ (∀ b : Bool, (¬b = false) = (b = true)) ∧ (∀ a b : Bool, ((a && b) = true) = (a = true ∧ b = true)) ∧ (∀ a b : Bool, ((a || b) = true) = (a = true ∨ b = true)) ∧
    (∀ {x y : Bool}, (x && y) = false ↔ x = false ∨ y = false) ∧ (∀ {x y : Bool}, (x || y) = false ↔ x = false ∧ y = false) ∧ (∀ b : Bool, ((!b) = true) = (b = false)) ∧ (∀ b : Bool, ((!b) = false) = (b = true)) ∧ (!true) = false ∧ (!false) = true ∧
    (∀ {a b : Bool}, (!a) = b ↔ a = !b) ∧ (¬True) = False ∧ (¬False) = True ∧ (∀ b : Bool, (true || b) = true) ∧ (∀ b : Bool, (false || b) = b) ∧ (∀ b : Bool, (b || true) = true) ∧ (∀ b : Bool, (b || false) = b) ∧ (∀ b : Bool, (true && b) = b) ∧ (∀ b : Bool, (b && true) = b) ∧
    (∀ b : Bool, (false && b) = false) ∧ (∀ b : Bool, (b && false) = false) ∧ (∀ p : Prop, (True ∧ p) = p) ∧ (∀ p : Prop, (p ∧ True) = p) ∧ (∀ p : Prop, (p ∨ False) = p) ∧ (∀ p : Prop, (False ∨ p) = p) ∧ (∀ p : Prop, (True ∨ p) = True) ∧ (∀ p : Prop, (p ∨ True) = True) ∧
    (∀ p : Prop, (False ∧ p) = False) ∧ (∀ p : Prop, (p ∧ False) = False) ∧ (true = false) = False ∧ (false = true) = False :=
  ⟨bne_iff_ne, ne_eq, bne_eq_false_iff_eq, beq_iff_eq, beq_eq_false_iff_ne, decide_eq_true_eq, decide_eq_false_iff_not, List.length_map, Bool.not_eq_true, Bool.not_eq_false, Bool.and_eq_true, Bool.or_eq_true, Bool.and_eq_false_iff, Bool.or_eq_false_iff, Bool.not_eq_true', Bool.not_eq_false', Bool.not_true, Bool.not_false,
    Bool.not_eq_eq_eq_not, not_true_eq_false, not_false_eq_true, Bool.true_or, Bool.false_or, Bool.or_true, Bool.or_false, Bool.true_and, Bool.and_true, Bool.false_and, Bool.and_false, true_and, and_true, or_false, false_or, true_or, or_true, false_and, and_false, Bool.true_eq_false, Bool.false_eq_true⟩
/-- Lengths, said plainly. -/
theorem ll : (∀ {α β : Type} {as : List α} (f : α → β), (List.map f as).length = as.length) ∧ (∀ {α : Type} {a : α} {as : List α}, (a :: as).length = as.length + 1) ∧ (∀ {α : Type}, ([] : List α).length = 0) ∧ (∀ {α : Type} {as bs : List α}, (as ++ bs).length = as.length + bs.length) ∧
    (∀ {α : Type} {i : Nat} {l : List α}, (l.take i).length = min i l.length) ∧ (∀ {α : Type} {i : Nat} {l : List α}, (l.drop i).length = l.length - i) ∧ (∀ {α : Type} {l : List α}, l.drop 0 = l) ∧ (∀ {α : Type} {a : α} {as : List α} {i : Nat}, (a :: as).take (i + 1) = a :: as.take i) ∧ (∀ {α : Type} {l : List α}, l.take 0 = []) :=
  ⟨List.length_map, List.length_cons, List.length_nil, List.length_append, List.length_take, List.length_drop, List.drop_zero, List.take_succ_cons, List.take_zero⟩
/-- A value as data: what is not the call's own memory is read to the bottom; the call's own memory is named by numbers. -/
inductive D where
  | junk
  | sc (v : Value)
  | loc (id off : Nat)
  | elt (id ver i off : Nat)
  | ipt (cs : List D)
  | lst (esz : Nat) (xs : List (List D))
  | own (id ver lo hi : Nat)
  | fn (f : Fn) (first cap : List D)
  | ifc (t : TypeId) (d : D)
  | agg (cs : List D)
  | tup (cs : List D)
  | mp (id : Nat)
  | gv (g : Nat)
  deriving Inhabited

/-- An object of the call's own: a row of cells, or a slice's array (elements of esz cells), or a map whose entries are so. -/
inductive AObj where
  | row (m : Bool) (cs : List D)
  | vec (m : Bool) (ver esz : Nat) (xs : List (List D))
  | mapo (m : Bool) (I : Array MapEntry → Prop)
  deriving Inhabited

/-- Where an object lies. -/
structure Site where
  row : Bool
  ver : Nat
  ad : Option Addr
  esz : Nat
  cap : Nat
  len : Nat

def Site.blk (s : Site) : Option Nat := if s.row = false ∧ s.cap = 0 then none else s.ad.map (·.block)

abbrev Inj := Nat → Option Site

/-- No struct and no tuple. -/
def oneCell : Value → Bool
  | .agg _ | .tuple _ => false
  | _ => true

section
variable (J : Inj) (F : Nat → Prop) (w : World)
mutual
def rep : D → Value → Prop
  | .junk, _ => True
  | .sc u, v => v = u
  | .loc id off, v => ∃ s b, J id = some s ∧ s.row = true ∧ s.ad = some ⟨b, 0, none⟩ ∧ v = .pointer (some ⟨b, off, none⟩)
  | .elt id ver i off, v => ∃ s a, J id = some s ∧ v = .pointer (some a) ∧ ver ≤ s.ver ∧ (ver = s.ver → ∃ b o, s.row = false ∧ s.ad = some ⟨b, o, none⟩ ∧ i < s.len ∧ a = ⟨b, o + i * s.esz + off, none⟩)
  | .ipt cs, v => ∃ b o, v = .pointer (some ⟨b, o, none⟩) ∧ F b ∧ repCells b cs o
  | .lst esz xs, v => ∃ A n c, v = .slice A n c ∧ n = xs.length ∧ n ≤ c ∧ (n = 0 ∨ ∃ b o, A = some ⟨b, o, none⟩ ∧ F b ∧ repRows b esz xs o)
  | .own id ver lo hi, v => ∃ s A n c, J id = some s ∧ v = .slice A n c ∧ ver ≤ s.ver ∧ (ver = s.ver → s.row = false ∧ lo ≤ hi ∧ hi ≤ s.len ∧ n = hi - lo ∧ c = s.cap - lo ∧ (s.cap = lo ∨ ∃ b o, s.ad = some ⟨b, o, none⟩ ∧ A = some ⟨b, o + lo * s.esz, none⟩))
  | .fn f first cap, v => ∃ vs us, v = .func f vs.toArray us.toArray ∧ repL first vs ∧ repL cap us
  | .ifc t d, v => ∃ u, v = .iface t u ∧ rep d u
  | .agg cs, v => ∃ vs, v = .agg vs.toArray ∧ repL cs vs
  | .tup cs, v => ∃ vs, v = .tuple vs.toArray ∧ repL cs vs
  | .mp id, v => ∃ s b, J id = some s ∧ s.row = true ∧ s.ad = some ⟨b, 0, none⟩ ∧ v = .map (some b)
  | .gv g, v => F g ∧ w.cell? ⟨g, 0, none⟩ = some v ∧ oneCell v = true
def repL : List D → List Value → Prop
  | [], vs => vs = []
  | d :: ds, vs => ∃ v us, vs = v :: us ∧ rep d v ∧ repL ds us
def repCells (b : Nat) : List D → Nat → Prop
  | [], _ => True
  | c :: r, o => (∃ u, w.cell? ⟨b, o, none⟩ = some u ∧ oneCell u = true ∧ rep c u) ∧ repCells b r (o + 1)
def repRows (b esz : Nat) : List (List D) → Nat → Prop
  | [], _ => True
  | x :: r, o => x.length = esz ∧ repCells b x o ∧ repRows b esz r (o + esz)
end
end

/-- Sites only grow older; a row's never turns. -/
def Inj.le (J J' : Inj) : Prop := ∀ id s, J id = some s → ∃ s', J' id = some s' ∧ s.ver ≤ s'.ver ∧ (s.ver = s'.ver ∨ s.row = true → s' = s)

theorem Inj.le_refl (J : Inj) : J.le J := fun _ s h => ⟨s, h, Nat.le_refl _, fun _ => rfl⟩
theorem Inj.le_trans {J J' J'' : Inj} (h : J.le J') (k : J'.le J'') : J.le J'' := fun id s e => by
  obtain ⟨s1, e1, l1, q1⟩ := h id s e
  obtain ⟨s2, e2, l2, q2⟩ := k id s1 e1
  refine ⟨s2, e2, Nat.le_trans l1 l2, fun q => ?_⟩
  rcases q with q | q
  · rw [q2 (.inl (by omega)), q1 (.inl (by omega))]
  · have h1 := q1 (.inr q)
    subst h1
    exact q2 (.inr q)

theorem cell_of_heap {w w' : World} {b : Nat} (h : w'.heap[b]? = w.heap[b]?) (o : Nat) : w'.cell? ⟨b, o, none⟩ = w.cell? ⟨b, o, none⟩ := by
  simp only [World.cell?, h]

section
variable {J J' : Inj} {F F' : Nat → Prop} {w w' : World}
mutual
theorem rep_mono (hJ : J.le J') (hF : ∀ b, F b → F' b) (hw : ∀ b, F b → w'.heap[b]? = w.heap[b]?) : ∀ (d : D) (v : Value), rep J F w d v → rep J' F' w' d v
  | .junk, v, _ => by simp only [rep]
  | .sc u, v, h => by simpa only [rep] using h
  | .loc id off, v, h => by
    simp only [rep] at h ⊢
    obtain ⟨s, b, h1, h2, h3, h4⟩ := h
    obtain ⟨s', e, _, q⟩ := hJ id s h1
    rw [q (.inr h2)] at e
    exact ⟨s, b, e, h2, h3, h4⟩
  | .elt id ver i off, v, h => by
    simp only [rep] at h ⊢
    obtain ⟨s, a, h1, h4, h2, h3⟩ := h
    obtain ⟨s', e, l, q⟩ := hJ id s h1
    refine ⟨s', a, e, h4, by omega, fun q' => ?_⟩
    rw [q (.inl (by omega))]
    exact h3 (by omega)
  | .ipt cs, v, h => by
    simp only [rep] at h ⊢
    obtain ⟨b, o, h1, h2, h3⟩ := h
    exact ⟨b, o, h1, hF b h2, repCells_mono hJ hF hw b (cell_of_heap (hw b h2)) cs o h3⟩
  | .lst esz xs, v, h => by
    simp only [rep] at h ⊢
    obtain ⟨A, n, c, h1, h2, hc, h3⟩ := h
    refine ⟨A, n, c, h1, h2, hc, h3.imp id fun ⟨b, o, h4, h5, h6⟩ => ⟨b, o, h4, hF b h5, repRows_mono hJ hF hw b esz (cell_of_heap (hw b h5)) xs o h6⟩⟩
  | .own id ver lo hi, v, h => by
    simp only [rep] at h ⊢
    obtain ⟨s, A, n, c, h1, h4, h2, h3⟩ := h
    obtain ⟨s', e, l, q⟩ := hJ id s h1
    refine ⟨s', A, n, c, e, h4, by omega, fun q' => ?_⟩
    rw [q (.inl (by omega))]
    exact h3 (by omega)
  | .fn f first cap, v, h => by
    simp only [rep] at h ⊢
    obtain ⟨vs, us, h1, h2, h3⟩ := h
    exact ⟨vs, us, h1, repL_mono hJ hF hw first vs h2, repL_mono hJ hF hw cap us h3⟩
  | .ifc t d, v, h => by
    simp only [rep] at h ⊢
    obtain ⟨u, h1, h2⟩ := h
    exact ⟨u, h1, rep_mono hJ hF hw d u h2⟩
  | .agg cs, v, h => by
    simp only [rep] at h ⊢
    obtain ⟨vs, h1, h2⟩ := h
    exact ⟨vs, h1, repL_mono hJ hF hw cs vs h2⟩
  | .tup cs, v, h => by
    simp only [rep] at h ⊢
    obtain ⟨vs, h1, h2⟩ := h
    exact ⟨vs, h1, repL_mono hJ hF hw cs vs h2⟩
  | .gv g, v, h => by
    simp only [rep] at h ⊢
    exact ⟨hF g h.1, (cell_of_heap (hw g h.1) 0).trans h.2.1, h.2.2⟩
  | .mp id, v, h => by
    simp only [rep] at h ⊢
    obtain ⟨s, b, h1, h2, h3, h4⟩ := h
    obtain ⟨s', e, _, q⟩ := hJ id s h1
    rw [q (.inr h2)] at e
    exact ⟨s, b, e, h2, h3, h4⟩
theorem repL_mono (hJ : J.le J') (hF : ∀ b, F b → F' b) (hw : ∀ b, F b → w'.heap[b]? = w.heap[b]?) : ∀ (ds : List D) (vs : List Value), repL J F w ds vs → repL J' F' w' ds vs
  | [], vs, h => by simpa only [repL] using h
  | d :: ds, vs, h => by
    simp only [repL] at h ⊢
    obtain ⟨v, us, h1, h2, h3⟩ := h
    exact ⟨v, us, h1, rep_mono hJ hF hw d v h2, repL_mono hJ hF hw ds us h3⟩
theorem repCells_mono (hJ : J.le J') (hF : ∀ b, F b → F' b) (hw : ∀ b, F b → w'.heap[b]? = w.heap[b]?) (b : Nat) (hb : ∀ o, w'.cell? ⟨b, o, none⟩ = w.cell? ⟨b, o, none⟩) : ∀ (ds : List D) (o : Nat), repCells J F w b ds o → repCells J' F' w' b ds o
  | [], o, h => by simp only [repCells]
  | c :: r, o, h => by
    simp only [repCells] at h ⊢
    obtain ⟨⟨u, h1, h0, h2⟩, h3⟩ := h
    exact ⟨⟨u, by rw [hb]; exact h1, h0, rep_mono hJ hF hw c u h2⟩, repCells_mono hJ hF hw b hb r (o + 1) h3⟩
theorem repRows_mono (hJ : J.le J') (hF : ∀ b, F b → F' b) (hw : ∀ b, F b → w'.heap[b]? = w.heap[b]?) (b esz : Nat) (hb : ∀ o, w'.cell? ⟨b, o, none⟩ = w.cell? ⟨b, o, none⟩) : ∀ (xs : List (List D)) (o : Nat), repRows J F w b esz xs o → repRows J' F' w' b esz xs o
  | [], o, h => by simp only [repRows]
  | x :: r, o, h => by
    simp only [repRows] at h ⊢
    obtain ⟨h1, h2, h3⟩ := h
    exact ⟨h1, repCells_mono hJ hF hw b hb x o h2, repRows_mono hJ hF hw b esz hb r (o + esz) h3⟩
end

theorem repCells_get {b : Nat} : ∀ (cs : List D) (o j : Nat) (c : D), cs[j]? = some c → repCells J F w b cs o → ∃ u, w.cell? ⟨b, o + j, none⟩ = some u ∧ oneCell u = true ∧ rep J F w c u
  | [], _, _, _, h, _ => by simp at h
  | c :: r, o, 0, _, h, k => by
    simp only [repCells] at k
    simp at h; subst h
    exact k.1
  | c :: r, o, j + 1, d, h, k => by
    simp only [repCells] at k
    have := repCells_get r (o + 1) j d (by simpa using h) k.2
    rwa [show o + 1 + j = o + (j + 1) by omega] at this
theorem repRows_get {b esz : Nat} : ∀ (xs : List (List D)) (o j : Nat) (x : List D), xs[j]? = some x → repRows J F w b esz xs o → x.length = esz ∧ repCells J F w b x (o + j * esz)
  | [], _, _, _, h, _ => by simp at h
  | x :: r, o, 0, _, h, k => by
    simp only [repRows] at k
    simp at h; subst h
    exact ⟨k.1, by simpa using k.2.1⟩
  | x :: r, o, j + 1, d, h, k => by
    simp only [repRows] at k
    have := repRows_get r (o + esz) j d (by simpa using h) k.2.2
    rwa [show o + esz + j * esz = o + (j + 1) * esz by rw [Nat.add_mul]; omega] at this
theorem repCells_mk {b : Nat} : ∀ (cs : List D) (o : Nat), (∀ (j : Nat) (c : D), cs[j]? = some c → ∃ u, w.cell? ⟨b, o + j, none⟩ = some u ∧ oneCell u = true ∧ rep J F w c u) → repCells J F w b cs o
  | [], _, _ => by simp only [repCells]
  | c :: r, o, h => by
    simp only [repCells]
    refine ⟨by simpa using h 0 c rfl, repCells_mk r (o + 1) fun j d hd => ?_⟩
    have := h (j + 1) d (by simpa using hd)
    rwa [show o + (j + 1) = o + 1 + j by omega] at this
theorem repRows_mk {b esz : Nat} : ∀ (xs : List (List D)) (o : Nat), (∀ (j : Nat) (x : List D), xs[j]? = some x → x.length = esz ∧ repCells J F w b x (o + j * esz)) → repRows J F w b esz xs o
  | [], _, _ => by simp only [repRows]
  | x :: r, o, h => by
    simp only [repRows]
    refine ⟨(h 0 x rfl).1, by simpa using (h 0 x rfl).2, repRows_mk r (o + esz) fun j d hd => ?_⟩
    have := h (j + 1) d (by simpa using hd)
    rwa [show o + (j + 1) * esz = o + esz + j * esz by rw [Nat.add_mul]; omega] at this
theorem repL_len : ∀ (ds : List D) (vs : List Value), repL J F w ds vs → vs.length = ds.length
  | [], vs, h => by simp only [repL] at h; simp [h]
  | d :: ds, vs, h => by
    simp only [repL] at h
    obtain ⟨v, us, rfl, _, h3⟩ := h
    simp [repL_len ds us h3]
theorem repL_get : ∀ (ds : List D) (vs : List Value) (j : Nat) (d : D), ds[j]? = some d → repL J F w ds vs → ∃ v, vs[j]? = some v ∧ rep J F w d v
  | [], _, _, _, h, _ => by simp at h
  | d :: ds, vs, 0, _, h, k => by
    simp only [repL] at k
    obtain ⟨v, us, rfl, h2, _⟩ := k
    simp at h; subst h
    exact ⟨v, rfl, h2⟩
  | d :: ds, vs, j + 1, e, h, k => by
    simp only [repL] at k
    obtain ⟨v, us, rfl, _, h3⟩ := k
    simpa using repL_get ds us j e (by simpa using h) h3
theorem repL_mk : ∀ (ds : List D) (vs : List Value), vs.length = ds.length → (∀ (j : Nat) (d : D) (v : Value), ds[j]? = some d → vs[j]? = some v → rep J F w d v) → repL J F w ds vs
  | [], vs, h, _ => by simp only [repL]; exact List.length_eq_zero_iff.1 h
  | d :: ds, [], h, _ => by simp at h
  | d :: ds, v :: vs, h, k => by
    simp only [repL]
    exact ⟨v, vs, rfl, k 0 d v rfl rfl, repL_mk ds vs (by simpa using h) fun j e u he hu => k (j + 1) e u (by simpa using he) (by simpa using hu)⟩
theorem repL_append {a b : List D} : ∀ {va vb : List Value}, repL J F w a va → repL J F w b vb → repL J F w (a ++ b) (va ++ vb) := by
  induction a with
  | nil => intro va vb h k; simp only [repL] at h; subst h; simpa using k
  | cons d ds ih =>
    intro va vb h k
    simp only [repL] at h
    obtain ⟨v, us, rfl, h2, h3⟩ := h
    simp only [List.cons_append, repL]
    exact ⟨v, us ++ vb, rfl, h2, ih h3 k⟩
end

/-! ### The heap of the call's own objects -/

def AObj.mut : AObj → Bool | .row m _ => m | .vec m _ _ _ => m | .mapo m _ => m

/-- Package-level variables that hold known data, and hold it to the end: the number of each one's block, its cells. -/
def theGlobs : List (Nat × List D) := []
/-- Package-level variables that hold an error of one text each, told apart by their addresses: number, type of the error, text. -/
def theSents : List (Nat × Nat × ByteArray) := []
/-- Blocks that turn no more: they are there, and the known variables are among them and read as they should. -/
structure FOK (F : Nat → Prop) (w : World) : Prop where
  lt : ∀ b, F b → b < w.heap.size
  gl : ∀ g cs, (g, cs) ∈ theGlobs → F g ∧ repCells (fun _ => none) F w g cs 0
  se : ∀ g t s, (g, t, s) ∈ theSents → F g ∧ ∃ b o vals te, w.cell? ⟨g, 0, none⟩ = some (.iface t (.pointer (some ⟨b, o, none⟩))) ∧ F b ∧ w.heap[b]? = some (.cells vals te (0, 0)) ∧ w.cell? ⟨b, o, none⟩ = some (.string s)
instance {F : Nat → Prop} {w : World} : CoeFun (FOK F w) fun _ => ∀ b, F b → b < w.heap.size := ⟨FOK.lt⟩
theorem FOK.mono {F F' : Nat → Prop} {w w' : World} (h : FOK F w) (hF : ∀ b, F b → F' b) (hw : ∀ b, F b → w'.heap[b]? = w.heap[b]?) (hlt : ∀ b, F' b → b < w'.heap.size) : FOK F' w' where
  lt := hlt
  se g t s hg := by
    obtain ⟨h1, b, o, vals, te, h2, h3, h4, h5⟩ := h.se g t s hg
    exact ⟨hF g h1, b, o, vals, te, (cell_of_heap (hw g h1) 0).trans h2, hF b h3, (hw b h3).trans h4, (cell_of_heap (hw b h3) o).trans h5⟩
  gl g cs hg := by
    obtain ⟨h1, h2⟩ := h.gl g cs hg
    have k := rep_mono (J := fun _ => none) (J' := fun _ => none) (Inj.le_refl _) hF hw (.ipt cs) (.pointer (some ⟨g, 0, none⟩)) (by simp only [rep]; exact ⟨g, 0, rfl, h1, h2⟩)
    simp only [rep] at k
    obtain ⟨b, o, e, k1, k2⟩ := k
    cases e
    exact ⟨k1, k2⟩
theorem FOK.rep {F : Nat → Prop} {w : World} (h : FOK F w) (J : Inj) {g : Nat} {cs : List D} (hg : (g, cs) ∈ theGlobs) : rep J F w (.ipt cs) (.pointer (some ⟨g, 0, none⟩)) := by
  obtain ⟨h1, h2⟩ := h.gl g cs hg
  exact rep_mono (J := fun _ => none) (J' := J) (fun _ _ q => by cases q) (fun _ q => q) (fun _ _ => rfl) (.ipt cs) (.pointer (some ⟨g, 0, none⟩)) (by simp only [_root_.Go.Proofs.YtgkodbnomgabdaaDoor.rep]; exact ⟨g, 0, rfl, h1, h2⟩)

section
variable (J : Inj) (F : Nat → Prop) (w : World)
def ObjOK (s : Site) : AObj → Prop
  | .row m cs => s.row = true ∧ s.ver = 0 ∧ s.esz = 1 ∧ s.len = cs.length ∧ s.cap = cs.length ∧ ∃ b vals te, s.ad = some ⟨b, 0, none⟩ ∧ w.heap[b]? = some (.cells vals te (0, 0)) ∧ vals.size = cs.length ∧ repCells J F w b cs 0 ∧ (m = false → F b)
  | .vec m ver esz xs => s.row = false ∧ s.ver = ver ∧ s.esz = esz ∧ s.len = xs.length ∧ s.len ≤ s.cap ∧ (s.cap = 0 ∨ ∃ b o vals te, s.ad = some ⟨b, o, none⟩ ∧ w.heap[b]? = some (.cells vals te (0, 0)) ∧ o + s.cap * esz ≤ vals.size ∧ repRows J F w b esz xs o ∧ (m = false → F b))
  | .mapo _ I => s.row = true ∧ ∃ b es clock, s.ad = some ⟨b, 0, none⟩ ∧ w.heap[b]? = some (.map es clock) ∧ I es

structure StOK (H : Nat → Option AObj) : Prop where
  obj : ∀ id s, J id = some s → ∃ o, H id = some o ∧ ObjOK J F w s o
  one : ∀ id id' s s' b, J id = some s → J id' = some s' → s.blk = some b → s'.blk = some b → id = id'
  apart : ∀ id s b o, J id = some s → s.blk = some b → H id = some o → o.mut = true → ¬ F b
  lt : FOK F w

def Owns (b : Nat) : Prop := ∃ id s, J id = some s ∧ s.blk = some b
end

/-- What became of memory: nothing old but the call's own has turned. -/
structure Ext (J : Inj) (F : Nat → Prop) (w : World) (J' : Inj) (F' : Nat → Prop) (w' : World) : Prop where
  os : w'.os = w.os
  tape : w'.tape = w.tape
  output : w'.output = w.output
  size : w.heap.size ≤ w'.heap.size
  block : ∀ b, b < w.heap.size → ¬ Owns J b → w'.heap[b]? = w.heap[b]?
  frozen : ∀ b, F b → w'.heap[b]? = w.heap[b]?
  le : J.le J'
  grow : ∀ b, F b → F' b
  ownsBack : ∀ b, Owns J' b → Owns J b ∨ w.heap.size ≤ b
  growBack : ∀ b, F' b → F b ∨ Owns J b ∨ w.heap.size ≤ b

theorem Ext.refl (J : Inj) (F : Nat → Prop) (w : World) : Ext J F w J F w := ⟨rfl, rfl, rfl, Nat.le_refl _, fun _ _ _ => rfl, fun _ _ => rfl, Inj.le_refl J, fun _ h => h, fun _ h => .inl h, fun _ h => .inl h⟩

theorem Ext.trans {J J' J'' : Inj} {F F' F'' : Nat → Prop} {w w' w'' : World} (h : Ext J F w J' F' w') (k : Ext J' F' w' J'' F'' w'') : Ext J F w J'' F'' w'' where
  os := k.os.trans h.os
  tape := k.tape.trans h.tape
  output := k.output.trans h.output
  size := Nat.le_trans h.size k.size
  block b hb ho := by
    have h1 : ¬ Owns J' b := fun h' => (h.ownsBack b h').elim ho (fun h'' => by omega)
    rw [k.block b (by have := h.size; omega) h1, h.block b hb ho]
  frozen b hb := (k.frozen b (h.grow b hb)).trans (h.frozen b hb)
  le := Inj.le_trans h.le k.le
  grow b hb := k.grow b (h.grow b hb)
  ownsBack b hb := (k.ownsBack b hb).elim (h.ownsBack b) fun h' => .inr (Nat.le_trans h.size h')
  growBack b hb := by
    rcases k.growBack b hb with h1 | h1 | h1
    · exact h.growBack b h1
    · exact (h.ownsBack b h1).elim (fun h2 => .inr (.inl h2)) (fun h2 => .inr (.inr h2))
    · exact .inr (.inr (Nat.le_trans h.size h1))

theorem rep_ext {J J' : Inj} {F F' : Nat → Prop} {w w' : World} (h : Ext J F w J' F' w') {d : D} {v : Value} (k : rep J F w d v) : rep J' F' w' d v := rep_mono h.le h.grow h.frozen d v k
theorem repL_ext {J J' : Inj} {F F' : Nat → Prop} {w w' : World} (h : Ext J F w J' F' w') {d : List D} {v : List Value} (k : repL J F w d v) : repL J' F' w' d v := repL_mono h.le h.grow h.frozen d v k
end

/-! ### XDstep -/
section
open Go.RowKit

inductive POp where
  | move (x : Operand)
  | pick (c a b : Operand)
  | alloc (z : List Value)
  | box (x : Operand)
  | build (z : List Value) (parts : List (Nat × Nat × Operand))
  | bslice (esz n : Nat) (parts : List Operand)
  | load1 (a : Operand)
  | loadA (n : Nat) (a : Operand)
  | store (n : Nat) (a v : Operand)
  | nilchk (x : Operand)
  | bin (op : BinOp) (x y : Operand)
  | eqb (neq : Bool) (x y : Operand)
  | eqa (neq : Bool) (ks : List Nat) (x y : Operand)
  | isnil (kind : Nat) (neq : Bool) (x : Operand)
  | un (op : UnOp) (x : Operand)
  | ext (i : Nat) (x : Operand)
  | faddr (off : Nat) (x : Operand)
  | field (off n : Nat) (agg : Bool) (x : Operand)
  | iaddr (esz : Nat) (x i : Operand)
  | aaddr (len esz : Nat) (x i : Operand)
  | sidx (x i : Operand)
  | aidx (len esz : Nat) (agg : Bool) (x i : Operand)
  | mkfn (f : Fn) (first cap : List Operand)
  | mslice (esz bytes : Nat) (z : List Value) (l c : Operand)
  | slc (esz : Nat) (x : Operand) (lo hi mx : Option Operand)
  | sslc (x : Operand) (lo hi : Option Operand)
  | len (x : Operand)
  | slen (x : Operand)
  | append (esz bytes : Nat) (x y : Operand)
  | clr (u : Value) (x : Operand)
  | mx (big : Bool) (x y : Operand)
  | call (f : FuncId) (args : List Operand)
  | callv (x : Operand) (args : List Operand)
  | mkif (t : TypeId) (x : Operand)
  | conv (k : IntKind) (x : Operand)
  | mkmap (kt : TypeId)
  | look (kt : TypeId) (z : Value) (m x : Operand)
  | lookv (kt : TypeId) (m x : Operand)
  | mput (kt : TypeId) (m x v : Operand)

structure POper where
  dst : Option Tmp
  op : POp
  guard : Option (Tmp × Bool)
  mask : Nat

def qm (d s : Nat) : POper := ⟨some d, .move (.tmp s), none, 0⟩
def qw (d s m : Nat) : POper := ⟨some d, .move (.tmp s), none, m⟩
def q (d : Nat) (o : POp) : POper := ⟨some d, o, none, 0⟩
def qd (d : Nat) (o : POp) (m : Nat) : POper := ⟨some d, o, none, m⟩
def qn (o : POp) : POper := ⟨none, o, none, 0⟩
def qk (o : POp) (m : Nat) : POper := ⟨none, o, none, m⟩
inductive PC where
  | skip
  | ops (l : List POper) (draw : Bool)
  | seq (a b : PC)
  | cond (c : Operand) (a b : PC)
  | block (id : Nat) (c : PC)
  | loop (c : PC)
  | exit (id : Nat)
  | ret
  | stop (c : PC)

/-- The code without the marks at which the reckoning stops. -/
def PC.bare : PC → PC
  | .seq a b => .seq a.bare b.bare
  | .cond c a b => .cond c a.bare b.bare
  | .block id c => .block id c.bare
  | .loop c => .loop c.bare
  | .stop c => c.bare
  | c => c

abbrev Env := List (Nat × D)

/-! ### Reckoning -/

def lift : Value → D
  | .agg cs => .agg (cs.toList.map .sc)
  | v => .sc v

def lookD (t : Nat) : Env → D
  | [] => .junk
  | (k, d) :: r => match Nat.beq t k with | true => d | false => lookD t r

def globL (g : Nat) : List (Nat × List D) → D
  | [] => .sc (.pointer (some ⟨g, 0, none⟩))
  | (k, cs) :: r => match Nat.beq g k with | true => .ipt cs | false => globL g r
theorem rep_glob {J : Inj} {F : Nat → Prop} {w : World} (h : FOK F w) (g : Nat) : rep J F w (globL g theGlobs) (.pointer (some ⟨g, 0, none⟩)) := by
  have key : ∀ l : List (Nat × List D), (∀ x ∈ l, x ∈ theGlobs) → rep J F w (globL g l) (.pointer (some ⟨g, 0, none⟩)) := fun l => by
    induction l with
    | nil => intro _; simp only [globL, rep]
    | cons x r ih =>
      intro hl
      obtain ⟨k, cs⟩ := x
      simp only [globL]
      cases e : Nat.beq g k with
      | true =>
        have := Nat.eq_of_beq_eq_true e
        subst this
        exact h.rep J (hl _ (by simp))
      | false => exact ih fun y hy => hl y (by simp [hy])
  exact key _ fun _ h => h
def evalD (env : Env) : Operand → D
  | .tmp t => lookD t env
  | .const v => lift v
  | .global g => globL g theGlobs
  | .func f => .fn (.func f) [] []

def lookK (t : Nat) (K : D → Prop) : Env → Prop
  | [] => K .junk
  | (k, d) :: r => match Nat.beq t k with | true => K d | false => lookK t K r

/-- Plain values as data. -/
def scK : List Value → (List D → Prop) → Prop
  | [], K => K []
  | v :: r, K => scK r fun cs => K (.sc v :: cs)

def evK (env : Env) (x : Operand) (K : D → Prop) : Prop :=
  match x with
  | .tmp t => lookK t K env
  | .const v => match v with
    | .agg cs => scK cs.toList fun l => K (.agg l)
    | v => K (.sc v)
  | .global g => K (globL g theGlobs)
  | .func f => K (.fn (.func f) [] [])

def evLK (env : Env) : List Operand → (List D → Prop) → Prop
  | [], K => K []
  | x :: r, K => evK env x fun d => evLK env r fun ds => K (d :: ds)

/-- The cell at a place of a row. -/
def atK : List D → Nat → (D → Prop) → Prop
  | [], _, _ => False
  | c :: _, 0, K => K c
  | _ :: r, n + 1, K => atK r n K

/-- n cells from a place on. -/
def takeK : List D → Nat → (List D → Prop) → Prop
  | _, 0, K => K []
  | [], _ + 1, _ => False
  | c :: r, n + 1, K => takeK r n fun cs => K (c :: cs)
def dropK : List D → Nat → (List D → Prop) → Prop
  | cs, 0, K => K cs
  | [], _ + 1, _ => False
  | _ :: r, n + 1, K => dropK r n K

def cell1 : D → Bool
  | .agg _ | .tup _ | .junk => false
  | .sc (.agg _) | .sc (.tuple _) => false
  | _ => true
def cells1 : List D → Bool
  | [] => true
  | c :: r => match cell1 c with | true => cells1 r | false => false

/-- The cells of a value that is to be stored. -/
def cellsK (d : D) (K : List D → Prop) : Prop :=
  match d with
  | .agg cs => match cells1 cs with | true => K cs | false => False
  | d => match cell1 d with | true => K [d] | false => False

/-- cs written into a row at a place. -/
def putK : List D → Nat → List D → (List D → Prop) → Prop
  | r, 0, [], K => K r
  | _ :: r, 0, c :: cs, K => putK r 0 cs fun r' => K (c :: r')
  | [], 0, _ :: _, _ => False
  | [], _ + 1, _, _ => False
  | x :: r, n + 1, cs, K => putK r n cs fun r' => K (x :: r')

def hputK : List AObj → Nat → AObj → (List AObj → Prop) → Prop
  | [], _, _, _ => False
  | _ :: r, 0, o, K => K (o :: r)
  | x :: r, n + 1, o, K => hputK r n o fun r' => K (x :: r')
def hpushK : List AObj → AObj → (List AObj → Nat → Prop) → Prop
  | [], o, K => K [o] 0
  | x :: r, o, K => hpushK r o fun r' n => K (x :: r') (n + 1)
def hgetK : List AObj → Nat → (AObj → Prop) → Prop
  | [], _, _ => False
  | o :: _, 0, K => K o
  | _ :: r, n + 1, K => hgetK r n K

/-- A test. -/
def ifK (c : Bool) (A B : Prop) : Prop := match c with
  | true => A
  | false => B
theorem ifK_split {c : Bool} {A B : Prop} (h : c = true → A) (k : c = false → B) : ifK c A B := by
  cases c
  · exact k rfl
  · exact h rfl

/-- Two numbers that are one. -/
def sameK (a b : Nat) (A : Prop) : Prop := match Nat.beq a b with
  | true => A
  | false => False

abbrev Cont := D → List AObj → List Nat → List Nat → Prop

def InR (k : IntKind) (z : Int) : Prop := k.wrap z = z

/-- A sum: it fits, or it is wrapped. -/
def arithK (k : IntKind) (z : Int) (K : D → Prop) : Prop := (InR k z ∧ K (.sc (.int k z))) ∨ ∀ u, u = k.wrap z → K (.sc (.int k u))

def bitsV (op : BinOp) (k : IntKind) (x y : Int) : Int :=
  let a := BitVec.ofInt k.bits x
  let b := BitVec.ofInt k.bits y
  match op with
  | .and => k.wrap (a &&& b).toNat
  | .or => k.wrap (a ||| b).toNat
  | .xor => k.wrap (a ^^^ b).toNat
  | _ => k.wrap (a &&& ~~~b).toNat

def kindNo : IntKind → Nat
  | .i8 => 0 | .i16 => 1 | .i32 => 2 | .i64 => 3 | .u8 => 4 | .u16 => 5 | .u32 => 6 | .u64 => 7

def binK (op : BinOp) (x y : D) (K : D → Prop) : Prop :=
  match x, y with
  | .sc (.int k a), .sc (.int k' b) =>
    match op with
    | .shl => 0 ≤ b ∧ arithK k (a * 2 ^ min b.toNat k.bits) K
    | .shr => 0 ≤ b ∧ K (.sc (.int k (a.fdiv (2 ^ min b.toNat k.bits))))
    | op => match Nat.beq (kindNo k) (kindNo k') with
     | false => False
     | true =>
      match op with
      | .add => arithK k (a + b) K
      | .sub => arithK k (a - b) K
      | .mul => arithK k (a * b) K
      | .quo => b ≠ 0 ∧ arithK k (a.tdiv b) K
      | .rem => b ≠ 0 ∧ K (.sc (.int k (a.tmod b)))
      | .eql => K (.sc (.bool (a == b)))
      | .neq => K (.sc (.bool (a != b)))
      | .lss => K (.sc (.bool (decide (a < b))))
      | .leq => K (.sc (.bool (decide (a ≤ b))))
      | .gtr => K (.sc (.bool (decide (a > b))))
      | .geq => K (.sc (.bool (decide (a ≥ b))))
      | .and => K (.sc (.int k (bitsV .and k a b)))
      | .or => K (.sc (.int k (bitsV .or k a b)))
      | .xor => K (.sc (.int k (bitsV .xor k a b)))
      | .andNot => K (.sc (.int k (bitsV .andNot k a b)))
      | _ => False
  | .sc (.string a), .sc (.string b) =>
    match op with
    | .add => (((a.size + b.size : Nat) : Int) ≤ 9223372036854775807) ∧ K (.sc (.string (a ++ b)))
    | .eql => K (.sc (.bool (a.toList == b.toList)))
    | .neq => K (.sc (.bool (!(a.toList == b.toList))))
    | .lss => K (.sc (.bool (Op.bytesLess a.toList b.toList)))
    | .leq => K (.sc (.bool (Op.bytesLess a.toList b.toList || a.toList == b.toList)))
    | .gtr => K (.sc (.bool (!(Op.bytesLess a.toList b.toList || a.toList == b.toList))))
    | .geq => K (.sc (.bool (!Op.bytesLess a.toList b.toList)))
    | _ => False
  | _, _ => False

def eqbK (neq : Bool) (x y : D) (K : D → Prop) : Prop :=
  match x, y with
  | .sc (.bool a), .sc (.bool b) => match neq with
    | false => K (.sc (.bool (a == b)))
    | true => K (.sc (.bool (!(a == b))))
  | _, _ => False

def flipB (neq b : Bool) : Bool := match neq with
  | true => !b
  | false => b

/-- Are two cells alike? 0: numbers · 1: truths · 2: texts -/
def eqOneK (c : Nat) (x y : D) (K : Bool → Prop) : Prop :=
  match c, x, y with
  | 0, .sc (.int k a), .sc (.int k' b) => sameK (kindNo k) (kindNo k') (K (a == b))
  | 1, .sc (.bool a), .sc (.bool b) => K (a == b)
  | 2, .sc (.string a), .sc (.string b) => K (a.toList == b.toList)
  | _, _, _ => False

def eqLK : List Nat → List D → List D → (Bool → Prop) → Prop
  | [], [], [], K => K true
  | c :: cs, x :: xs, y :: ys, K => eqOneK c x y fun r => eqLK cs xs ys fun q => K (r && q)
  | _, _, _, _ => False

def eqaK (neq : Bool) (ks : List Nat) (x y : D) (K : D → Prop) : Prop :=
  match x, y with
  | .agg xs, .agg ys => eqLK ks xs ys fun b => K (.sc (.bool (flipB neq b)))
  | _, _ => False

/-- 0: a pointer · 1: an interface value · 2: a function value · 3: a slice -/
def isnilK (seq : Bool) (kind : Nat) (neq : Bool) (x : D) (K : D → Prop) : Prop :=
  match kind with
  | 0 => match x with
    | .sc (.pointer none) => K (.sc (.bool (!neq)))
    | .loc .. | .ipt .. | .elt .. => K (.sc (.bool neq))
    | _ => False
  | 1 => match x with
    | .sc .nilIface => K (.sc (.bool (!neq)))
    | .ifc .. => K (.sc (.bool neq))
    | _ => False
  | 2 => match x with
    | .sc .nilFunc => K (.sc (.bool (!neq)))
    | .fn .. => K (.sc (.bool neq))
    | _ => False
  | 3 => match x with
    | .sc (.slice none 0 0) => K (.sc (.bool (!neq)))
    | .lst _ xs => seq = true ∧ ∀ b : Bool, (b = true → xs = []) → K (.sc (.bool (flipB neq b)))
    | _ => False
  | _ => False

def unK (op : UnOp) (x : D) (K : D → Prop) : Prop :=
  match op, x with
  | .not, .sc (.bool b) => K (.sc (.bool (!b)))
  | .neg, .sc (.int k n) => arithK k (0 - n) K
  | _, _ => False

/-- A slice expression's bounds: lo ≤ hi ≤ cap. -/
def bndK (env : Env) (x : Option Operand) (dflt : Nat) (K : Nat → Prop) : Prop :=
  match x with
  | none => K dflt
  | some x => evK env x fun d => match d with
    | .sc (.int _ i) => 0 ≤ i ∧ K i.toNat
    | _ => False

def partsK (env : Env) : List (Nat × Nat × Operand) → List D → (List D → Prop) → Prop
  | [], cs, K => K cs
  | (off, n, x) :: r, cs, K => evK env x fun d => cellsK d fun xs => sameK n xs.length (putK cs off xs fun cs' => partsK env r cs' K)

def rowsK (env : Env) (esz : Nat) : List Operand → (List (List D) → Prop) → Prop
  | [], K => K []
  | x :: r, K => evK env x fun d => cellsK d fun xs => sameK esz xs.length (rowsK env esz r fun rows => K (xs :: rows))

/-- A function that a call enters. -/
def okFun (P : Program) (f : FuncId) : Prop := ∃ fn, P.funcs[f]? = some fn ∧ (fn.name == "runtime.NumGoroutine") = false ∧ fn.body.isNone = false

/-- A call. -/
structure ACall (P : Program) (f : FuncId) (args : List D) (H : List AObj) (d : D) (H2 : List AObj) : Prop where
  ok : okFun P f
  len : H.length ≤ H2.length
  run : ∀ (J : Inj) (F : Nat → Prop) (w : World) (vs : List Value), StOK J F w (fun i => H[i]?) → (∀ id, J id ≠ none → id < H.length) → repL J F w args vs →
    Calls P f vs.toArray w fun e w' => ∃ v J' F', e = .returned v ∧ StOK J' F' w' (fun i => H2[i]?) ∧ (∀ id, J' id ≠ none → id < H2.length) ∧ rep J' F' w' d v ∧ Ext J F w J' F' w'

/-- A call that turns the caller's objects of these numbers, or makes them, whatever the others are. -/
structure ACallAt (P : Program) (f : FuncId) (args : List D) (H : List AObj) (d : D) (H2 : List AObj) (L : List Nat) : Prop where
  ok : okFun P f
  len : H.length ≤ H2.length
  frame : ∀ id, id ∉ L → H2[id]? = H[id]?
  lt : ∀ id ∈ L, id < H2.length
  run : ∀ (J : Inj) (F : Nat → Prop) (w : World) (vs : List Value) (G : Nat → Option AObj), StOK J F w G → (∀ id ∈ L, G id = H[id]?) → (∀ id ∈ L, H.length ≤ id → J id = none) → repL J F w args vs →
    Calls P f vs.toArray w fun e w' => ∃ v J' F', e = .returned v ∧ StOK J' F' w' (fun id => if id ∈ L then H2[id]? else G id) ∧ (∀ id, J' id ≠ none → J id ≠ none ∨ id ∈ L) ∧ rep J' F' w' d v ∧ Ext J F w J' F' w'

/-- A call that reads the caller's objects of these numbers, and turns none. -/
structure ARead (P : Program) (f : FuncId) (args : List D) (H : List AObj) (d : D) (L : List Nat) : Prop where
  ok : okFun P f
  run : ∀ (J : Inj) (F : Nat → Prop) (w : World) (vs : List Value) (G : Nat → Option AObj), StOK J F w G → (∀ id ∈ L, G id = H[id]?) → repL J F w args vs →
    Calls P f vs.toArray w fun e w' => ∃ v J' F', e = .returned v ∧ StOK J' F' w' G ∧ (∀ id, J' id ≠ none → J id ≠ none) ∧ rep J' F' w' d v ∧ Ext J F w J' F' w'

def noInj : Inj := fun _ => none

/-- A call whose arguments are data to the bottom. -/
structure PCall (P : Program) (f : FuncId) (args : List D) (d : D) : Prop where
  ok : okFun P f
  run : ∀ (J : Inj) (F : Nat → Prop) (w : World) (vs : List Value), FOK F w → repL J F w args vs →
    Calls P f vs.toArray w fun e w' => ∃ v F', e = .returned v ∧ (∀ b, F' b → b < w'.heap.size) ∧ rep noInj F' w' d v ∧ Ext noInj F w noInj F' w'

mutual
/-- What the call's own memory reads as, to the bottom. -/
inductive Deep (H : List AObj) : D → D → Prop
  | refl (d : D) : Deep H d d
  | junk (d : D) : Deep H d .junk
  | none (esz : Nat) : Deep H (.sc (.slice none 0 0)) (.lst esz [])
  | loc (id off : Nat) (m : Bool) (cs ds : List D) (h : H[id]? = some (.row m cs)) (k : DeepL H (cs.drop off) ds) : Deep H (.loc id off) (.ipt ds)
  | own (id ver lo hi esz : Nat) (m : Bool) (xs ys : List (List D)) (h : H[id]? = some (.vec m ver esz xs)) (k : DeepLL H ((xs.take hi).drop lo) ys) : Deep H (.own id ver lo hi) (.lst esz ys)
  | fn (f : Fn) (a b c e : List D) (h : DeepL H a b) (k : DeepL H c e) : Deep H (.fn f a c) (.fn f b e)
  | ifc (t : TypeId) (d e : D) (h : Deep H d e) : Deep H (.ifc t d) (.ifc t e)
  | agg (a b : List D) (h : DeepL H a b) : Deep H (.agg a) (.agg b)
  | tup (a b : List D) (h : DeepL H a b) : Deep H (.tup a) (.tup b)
inductive DeepL (H : List AObj) : List D → List D → Prop
  | nil : DeepL H [] []
  | cons (d e : D) (a b : List D) (h : Deep H d e) (k : DeepL H a b) : DeepL H (d :: a) (e :: b)
inductive DeepLL (H : List AObj) : List (List D) → List (List D) → Prop
  | nil : DeepLL H [] []
  | cons (x y : List D) (a b : List (List D)) (h : DeepL H x y) (k : DeepLL H a b) : DeepLL H (x :: a) (y :: b)
end

def isScalar : D → Bool
  | .sc _ => true
  | _ => false
def areScalar : List D → Bool
  | [] => true
  | d :: r => match isScalar d with | true => areScalar r | false => false
/-- A result without memory. -/
def bareD : D → Bool
  | .sc _ => true
  | .tup ds | .agg ds => areScalar ds
  | _ => false

mutual
/-- Only objects below this number are named. -/
def Under (m : Nat) : D → Prop
  | .junk | .sc _ | .gv _ => True
  | .loc id _ | .elt id _ _ _ | .own id _ _ _ | .mp id => id < m
  | .ipt cs | .agg cs | .tup cs => UnderL m cs
  | .lst _ xs => UnderLL m xs
  | .fn _ a b => UnderL m a ∧ UnderL m b
  | .ifc _ d => Under m d
def UnderL (m : Nat) : List D → Prop
  | [] => True
  | d :: r => Under m d ∧ UnderL m r
def UnderLL (m : Nat) : List (List D) → Prop
  | [] => True
  | d :: r => UnderL m d ∧ UnderLL m r
end
def AObj.under (m : Nat) : AObj → Prop
  | .row _ cs => UnderL m cs
  | .vec _ _ _ xs => UnderLL m xs
  | .mapo _ _ => True
def UnderO (m : Nat) : List AObj → Prop
  | [] => True
  | o :: r => o.under m ∧ UnderO m r
/-- The numbers below one. -/
def upTo : Nat → List Nat
  | 0 => []
  | n + 1 => n :: upTo n

/-- An object that turns no more. -/
def AObj.frozen : AObj → AObj
  | .row _ cs => .row false cs
  | .vec _ v e xs => .vec false v e xs
  | .mapo _ I => .mapo false I
def frozenL : List AObj → List AObj
  | [] => []
  | o :: r => o.frozen :: frozenL r
/-- A call: of data alone; of what the own memory reads as, for a result without memory; at large. -/
def callK (P : Program) (seq : Bool) (f : FuncId) (args : List D) (H : List AObj) (K : Cont) : Prop :=
  (∃ d, PCall P f args d ∧ K d H [] []) ∨ (∃ args' d, DeepL H args args' ∧ PCall P f args' d ∧ bareD d = true ∧ K d H (List.range H.length) []) ∨
    (seq = true ∧ ∃ d H2, ACall P f args H d H2 ∧ K d H2 [] []) ∨
    (∃ d H2, UnderL H.length args ∧ UnderO H.length H ∧ ACall P f args H d H2 ∧ K d H2 (upTo H2.length) (upTo H2.length)) ∨
    (∃ d H2 L, ACallAt P f args H d H2 L ∧ K d H2 L L) ∨
    (seq = true ∧ ∃ args' d, DeepL H args args' ∧ PCall P f args' d ∧ K d (frozenL H) [] []) ∨
    (∃ d L, ARead P f args H d L ∧ K d H L [])

def sliceAppend (k : Nat) (bytes : Nat) (m : Nat) : Prop := (k + m) * bytes ≤ 140737488355328

/-- What is appended. -/
def srcK (H : List AObj) (esz : Nat) (dy : D) (K : List (List D) → List Nat → Prop) : Prop :=
  match dy with
  | .lst esz' ys => sameK esz esz' (K ys [])
  | .own id ver lo hi => hgetK H id fun o => match o with
    | .vec _ ver' esz' zs => ver = ver' ∧ sameK esz esz' (K ((zs.take hi).drop lo) [id])
    | _ => False
  | .sc (.slice none 0 0) => K [] []
  | _ => False

/-- The entries of a map: which keys it has, what stands there. -/
def mapIs (P : Program) (kt : TypeId) (f : Value → Option Value) : Array MapEntry → Prop := fun es =>
  (∀ e ∈ es.toList, ∃ l, keyOf P kt e.key = some l) ∧ (∀ e ∈ es.toList, f e.key = some e.val) ∧ ∀ key v, f key = some v → ∃ e ∈ es.toList, e.key = key
/-- A map with a key more. -/
noncomputable def putF (f : Value → Option Value) (key v : Value) : Value → Option Value := fun k => open Classical in if k = key then some v else f k
/-- A plain cell's value; a key, as a value. -/
def scV : D → Value
  | .sc v => v
  | _ => undef
def keyK (d : D) (K : Value → Prop) : Prop := match d with
  | .sc v => K v
  | .agg cs => areScalar cs = true ∧ K (.agg (cs.map scV).toArray)
  | _ => False

def step (P : Program) (seq : Bool) (p : POp) (env : Env) (H : List AObj) (K : Cont) : Prop :=
  match p with
  | .move x => evK env x fun d => K d H [] []
  | .pick c a b => evK env c fun dc => match dc with
    | .sc (.bool t) => ifK t (evK env a fun d => K d H [] []) (evK env b fun d => K d H [] [])
    | _ => False
  | .alloc z => scK z fun cs => hpushK H (.row true cs) fun H' id => K (.loc id 0) H' [] [id]
  | .box x => evK env x fun d => cellsK d fun cs => hpushK H (.row true cs) fun H' id => K (.loc id 0) H' [] [id]
  | .build z parts => scK z fun zs => partsK env parts zs fun cs => K (.agg cs) H [] []
  | .bslice esz n parts => rowsK env esz parts fun rows => sameK n rows.length (hpushK H (.vec true 0 esz rows) fun H' id => K (.own id 0 0 n) H' [] [id])
  | .load1 a => evK env a fun d => match d with
    | .loc id off => hgetK H id fun o => match o with
      | .row _ cs => atK cs off fun c => K c H [id] []
      | _ => False
    | .ipt cs => atK cs 0 fun c => K c H [] []
    | .elt id ver i off => hgetK H id fun o => match o with
      | .vec _ ver' _ xs => ver = ver' ∧ ∃ row, xs[i]? = some row ∧ atK row off fun c => K c H [id] []
      | _ => False
    | _ => False
  | .loadA n a => evK env a fun d => match d with
    | .loc id off => hgetK H id fun o => match o with
      | .row _ cs => dropK cs off fun r => takeK r n fun c => K (.agg c) H [id] []
      | _ => False
    | .ipt cs => takeK cs n fun c => K (.agg c) H [] []
    | .elt id ver i off => hgetK H id fun o => match o with
      | .vec _ ver' _ xs => ver = ver' ∧ ∃ row, xs[i]? = some row ∧ dropK row off fun r => takeK r n fun c => K (.agg c) H [id] []
      | _ => False
    | _ => False
  | .store n a x => evK env a fun d => evK env x fun dx => cellsK dx fun xs => sameK n xs.length (match d with
    | .loc id off => hgetK H id fun o => match o with
      | .row true cs => putK cs off xs fun cs' => hputK H id (.row true cs') fun H' => K (.sc undef) H' [] [id]
      | _ => False
    | .elt id ver i off => hgetK H id fun o => match o with
      | .vec true ver' esz ys => ver = ver' ∧ ∃ row, ys[i]? = some row ∧ putK row off xs fun row' => hputK H id (.vec true ver' esz (ys.set i row')) fun H' => K (.sc undef) H' [] [id]
      | _ => False
    | _ => False)
  | .nilchk x => evK env x fun d => match d with
    | .loc .. | .ipt .. | .elt .. | .fn (.func _) .. => K d H [] []
    | _ => False
  | .bin op x y => evK env x fun dx => evK env y fun dy => binK op dx dy fun d => K d H [] []
  | .eqb neq x y => evK env x fun dx => evK env y fun dy => eqbK neq dx dy fun d => K d H [] []
  | .eqa neq ks x y => evK env x fun dx => evK env y fun dy => eqaK neq ks dx dy fun d => K d H [] []
  | .isnil kind neq x => evK env x fun dx => isnilK seq kind neq dx fun d => K d H [] []
  | .un op x => evK env x fun dx => unK op dx fun d => K d H [] []
  | .ext i x => evK env x fun d => match d with
    | .tup cs => atK cs i fun c => K c H [] []
    | _ => False
  | .faddr off x => evK env x fun d => match d with
    | .loc id o => K (.loc id (o + off)) H [] []
    | .elt id ver i o => K (.elt id ver i (o + off)) H [] []
    | .ipt cs => dropK cs off fun r => K (.ipt r) H [] []
    | _ => False
  | .field off n agg x => evK env x fun d => match d with
    | .agg cs => match agg with
      | true => dropK cs off fun r => takeK r n fun c => K (.agg c) H [] []
      | false => atK cs off fun c => K c H [] []
    | _ => False
  | .iaddr esz x i => evK env x fun dx => evK env i fun di => match di with
    | .sc (.int _ z) => match dx with
      | .lst esz' xs => sameK esz esz' (0 ≤ z ∧ ∃ row, xs[z.toNat]? = some row ∧ K (.ipt row) H [] [])
      | .own id ver lo hi => hgetK H id fun o => match o with
        | .vec _ ver' esz' _ => ver = ver' ∧ sameK esz esz' (0 ≤ z ∧ z < (hi - lo : Nat) ∧ K (.elt id ver (lo + z.toNat) 0) H [id] [])
        | _ => False
      | _ => False
    | _ => False
  | .aaddr len esz x i => evK env x fun dx => evK env i fun di => match di with
    | .sc (.int _ z) => 0 ≤ z ∧ z < (len : Nat) ∧ match dx with
      | .loc id o => K (.loc id (o + z.toNat * esz)) H [] []
      | .elt id ver i o => K (.elt id ver i (o + z.toNat * esz)) H [] []
      | .ipt cs => dropK cs (z.toNat * esz) fun r => K (.ipt r) H [] []
      | _ => False
    | _ => False
  | .aidx len esz agg x i => evK env x fun dx => evK env i fun di => match di with
    | .sc (.int _ z) => match dx with
      | .agg cs => 0 ≤ z ∧ z < (len : Nat) ∧ match agg with
        | true => dropK cs (z.toNat * esz) fun r => takeK r esz fun c => K (.agg c) H [] []
        | false => ∃ c, cs[z.toNat * esz]? = some c ∧ K c H [] []
      | _ => False
    | _ => False
  | .sidx x i => evK env x fun dx => evK env i fun di => match dx, di with
    | .sc (.string s), .sc (.int _ z) => 0 ≤ z ∧ ∃ b, s[z.toNat]? = some b ∧ K (.sc (.int .u8 b.toNat)) H [] []
    | _, _ => False
  | .mkfn f first cap => evLK env first fun ds => evLK env cap fun cs => K (.fn f ds cs) H [] []
  | .mslice esz bytes z l c => evK env l fun dl => evK env c fun dc => match dl, dc with
    | .sc (.int .i64 nl), .sc (.int .i64 nc) => 0 ≤ nl ∧ nl ≤ nc ∧ nc * bytes ≤ 140737488355328 ∧
      hpushK H (.vec true 0 esz (List.replicate nl.toNat (z.map .sc))) fun H' id => K (.own id 0 0 nl.toNat) H' [] [id]
    | _, _ => False
  | .slc esz x lo hi mx => evK env x fun dx => match dx, mx with
    | .lst esz' xs, none => sameK esz esz' (bndK env hi xs.length fun h => bndK env lo 0 fun l => l ≤ h ∧ h ≤ xs.length ∧ K (.lst esz' ((xs.take h).drop l)) H [] [])
    | .lst esz' xs, some m => match hi with
      | none => False
      | some hi' => sameK esz esz' (bndK env (some hi') 0 fun h => bndK env lo 0 fun l => bndK env (some m) 0 fun mm => l ≤ h ∧ h ≤ mm ∧ mm ≤ xs.length ∧ K (.lst esz' ((xs.take h).drop l)) H [] [])
    | .own id ver a b, none => hgetK H id fun o => match o with
      | .vec _ ver' esz' _ => ver = ver' ∧ sameK esz esz' (bndK env hi (b - a) fun h => bndK env lo 0 fun l => l ≤ h ∧ h ≤ b - a ∧ K (.own id ver (a + l) (a + h)) H [id] [])
      | _ => False
    | _, _ => False
  | .sslc x lo hi => evK env x fun dx => match dx with
    | .sc (.string s) => bndK env hi s.size fun h => bndK env lo 0 fun l => l ≤ h ∧ h ≤ s.size ∧ K (.sc (.string (s.extract l h))) H [] []
    | _ => False
  | .len x => evK env x fun dx => match dx with
    | .lst _ xs => K (.sc (.int .i64 xs.length)) H [] []
    | .own id ver lo hi => hgetK H id fun o => match o with
      | .vec _ ver' _ _ => ver = ver' ∧ K (.sc (.int .i64 (hi - lo : Nat))) H [id] []
      | _ => False
    | .sc (.slice none 0 0) => K (.sc (.int .i64 0)) H [] []
    | _ => False
  | .slen x => evK env x fun dx => match dx with
    | .sc (.string s) => K (.sc (.int .i64 s.size)) H [] []
    | _ => False
  | .append esz bytes x y => evK env x fun dx => evK env y fun dy => srcK H esz dy fun ys rd =>
    match dx with
      | .sc (.slice none 0 0) => sliceAppend 0 bytes ys.length ∧ hpushK H (.vec true 0 esz ys) fun H' id => K (.own id 0 0 ys.length) H' rd [id]
      | .own id ver lo hi => hgetK H id fun o => match o with
        | .vec true ver' esz' zs => ver = ver' ∧ sameK esz esz' (sliceAppend (hi - lo) bytes ys.length ∧
          hputK H id (.vec true (ver + 1) esz ((zs.take hi).drop lo ++ ys)) fun H' => K (.own id (ver + 1) 0 (hi - lo + ys.length)) H' rd [id])
        | _ => False
      | _ => False
  | .clr u x => evK env x fun dx => match dx with
    | .own id ver lo hi => hgetK H id fun o => match o with
      | .vec true ver' esz zs => ver = ver' ∧ sameK esz 1 (hputK H id (.vec true ver 1 (zs.take lo ++ List.replicate (hi - lo) [.sc u] ++ zs.drop hi)) fun H' => K (.tup []) H' [] [id])
      | _ => False
    | _ => False
  | .mx big x y => evK env x fun dx => evK env y fun dy => match dx with
    | .sc (.int k n) => match dy with
      | .sc (.int _ m) => match big with
        | true => K (.sc (.int k (max n m))) H [] []
        | false => K (.sc (.int k (min n m))) H [] []
      | _ => False
    | _ => False
  | .call f args => evLK env args fun ds => callK P seq f ds H K
  | .callv x args => evK env x fun dx => match dx with
    | .fn (.func f) first cap => evLK env args fun ds => callK P seq f (first ++ ds ++ cap) H K
    | _ => False
  | .mkif t x => evK env x fun d => K (.ifc t d) H [] []
  | .conv k x => evK env x fun d => match d with
    | .sc (.int _ n) => arithK k n fun d => K d H [] []
    | _ => False
  | .mkmap kt => hpushK H (.mapo true (mapIs P kt fun _ => none)) fun H' id => K (.mp id) H' [] [id]
  | .look kt z m x => evK env m fun dm => evK env x fun dx => match dm with
    | .mp id => hgetK H id fun o => match o with
      | .mapo _ I => keyK dx fun key => ∃ f, I = mapIs P kt f ∧ Maps.Keyed P kt ∧ (∃ l, keyOf P kt key = some l) ∧ (∀ v, f key = some v → K (.tup [.sc v, .sc (.bool true)]) H [id] []) ∧ (f key = none → K (.tup [.sc z, .sc (.bool false)]) H [id] [])
      | _ => False
    | _ => False
  | .lookv kt m x => evK env m fun dm => evK env x fun dx => match dm with
    | .mp id => hgetK H id fun o => match o with
      | .mapo _ I => keyK dx fun key => ∃ f, I = mapIs P kt f ∧ Maps.Keyed P kt ∧ (∃ l, keyOf P kt key = some l) ∧ ∃ v, f key = some v ∧ K (.sc v) H [id] []
      | _ => False
    | _ => False
  | .mput kt m x v => evK env m fun dm => evK env x fun dx => evK env v fun dv => match dm with
    | .mp id => hgetK H id fun o => match o with
      | .mapo true I => keyK dx fun key => match dv with
        | .sc u => ∃ f, I = mapIs P kt f ∧ Maps.Keyed P kt ∧ (∃ l, keyOf P kt key = some l) ∧ f key = none ∧ hputK H id (.mapo true (mapIs P kt (putF f key u))) fun H' => K (.sc undef) H' [] [id]
        | _ => False
      | _ => False
    | _ => False

/-- Operations one behind the other. -/
def runOps (P : Program) : List POper → Env → List AObj → (Env → List AObj → Prop) → Prop
  | [], env, H, K => K env H
  | o :: r, env, H, K =>
    match o.guard with
    | none => step P true o.op env H fun d H' _ _ => match o.dst with
      | some t => runOps P r ((t, d) :: env) H' K
      | none => runOps P r env H' K
    | some (t, b) => lookK t (fun g => match g with
      | .sc (.bool c) => match b with
        | true => ifK c
          (step P true o.op env H fun d H' _ _ => match o.dst with
            | some u => runOps P r ((u, d) :: env) H' K
            | none => runOps P r env H' K)
          (match o.dst with
            | some u => runOps P r ((u, .sc undef) :: env) H K
            | none => runOps P r env H K)
        | false => ifK c
          (match o.dst with
            | some u => runOps P r ((u, .sc undef) :: env) H K
            | none => runOps P r env H K)
          (step P true o.op env H fun d H' _ _ => match o.dst with
            | some u => runOps P r ((u, d) :: env) H' K
            | none => runOps P r env H' K)
      | .sc (.tuple _) => match o.dst with
        | some u => runOps P r ((u, .sc undef) :: env) H K
        | none => runOps P r env H K
      | _ => False) env

/-- What a load reads of a box: whose, and where. -/
def lightOf (p : POp) (env : Env) : Option (Nat × Nat) := match p with
  | .load1 a => match evalD env a with
    | .loc id k => some (id, k)
    | _ => none
  | _ => none
/-- What is noted of an operation: what it reads and writes; what it reads of a box if it is no more than that; what it gives; memory behind it. -/
abbrev Trace := List ((List Nat × List Nat) × (Option (Nat × Nat) × D × List AObj))

/-- Operations of a region that draws its order, in the text's order; what each reads and writes is noted. -/
def runD (P : Program) : List POper → Env → List AObj → (Env → List AObj → Trace → Prop) → Prop
  | [], env, H, K => K env H []
  | o :: r, env, H, K =>
    match o.guard with
    | none => step P false o.op env H fun d H' rd wr => match o.dst with
      | some t => runD P r ((t, d) :: env) H' fun e h tr => K e h (((rd, wr), (lightOf o.op env, d, H')) :: tr)
      | none => runD P r env H' fun e h tr => K e h (((rd, wr), (lightOf o.op env, d, H')) :: tr)
    | some (t, b) => lookK t (fun g => match g with
      | .sc (.bool c) => match b with
        | true => ifK c
          (step P false o.op env H fun d H' rd wr => match o.dst with
            | some u => runD P r ((u, d) :: env) H' fun e h tr => K e h (((rd, wr), (none, d, H')) :: tr)
            | none => runD P r env H' fun e h tr => K e h (((rd, wr), (none, d, H')) :: tr))
          (match o.dst with
            | some u => runD P r ((u, .sc undef) :: env) H fun e h tr => K e h ((([], []), (none, .sc undef, H)) :: tr)
            | none => runD P r env H fun e h tr => K e h ((([], []), (none, .sc undef, H)) :: tr))
        | false => ifK c
          (match o.dst with
            | some u => runD P r ((u, .sc undef) :: env) H fun e h tr => K e h ((([], []), (none, .sc undef, H)) :: tr)
            | none => runD P r env H fun e h tr => K e h ((([], []), (none, .sc undef, H)) :: tr))
          (step P false o.op env H fun d H' rd wr => match o.dst with
            | some u => runD P r ((u, d) :: env) H' fun e h tr => K e h (((rd, wr), (none, d, H')) :: tr)
            | none => runD P r env H' fun e h tr => K e h (((rd, wr), (none, d, H')) :: tr))
      | .sc (.tuple _) => match o.dst with
        | some u => runD P r ((u, .sc undef) :: env) H fun e h tr => K e h ((([], []), (none, .sc undef, H)) :: tr)
        | none => runD P r env H fun e h tr => K e h ((([], []), (none, .sc undef, H)) :: tr)
      | _ => False) env

def memb (x : Nat) : List Nat → Bool
  | [] => false
  | y :: r => match Nat.beq x y with | true => true | false => memb x r
def meets : List Nat → List Nat → Bool
  | [], _ => false
  | x :: r, l => match memb x l with | true => true | false => meets r l
/-- Do two operations touch one object, one of them writing? -/
def clash (a b : List Nat × List Nat) : Bool := meets a.2 b.1 || meets a.2 b.2 || meets b.2 a.1
def bitOf (m i : Nat) : Bool := match Nat.beq ((m / 2 ^ i) % 2) 1 with | true => true | false => false
/-- The operation of mask m against those ahead of it, from number i on. -/
def traceOK (m : Nat) (b : List Nat × List Nat) : Nat → List (List Nat × List Nat) → Bool
  | _, [] => true
  | i, a :: r => match (bitOf m i || !clash a b) with | true => traceOK m b (i + 1) r | false => false
def memOK (pre : List (List Nat × List Nat)) : List POper → Trace → Bool
  | o :: r, (b, _) :: tr => match traceOK o.mask b 0 pre with | true => memOK (pre ++ [b]) r tr | false => false
  | _, _ => true
/-- The same, where a load of a box's cell is let by. -/
def memOKL (pre : List (List Nat × List Nat)) : List POper → Trace → Bool
  | o :: r, (b, (q, _)) :: tr => match traceOK o.mask b 0 pre with
    | true => match q with
      | some _ => memOKL (pre ++ [([], b.2)]) r tr
      | none => memOKL (pre ++ [b]) r tr
    | false => false
  | _, _ => true
/-- A box's cell holds what it held. -/
def cellK (H : List AObj) (id k : Nat) (d : D) (K : Prop) : Prop := hgetK H id fun o => match o with
  | .row _ cs => atK cs k fun c => c = d ∧ K
  | _ => False
def watchK (m : Nat) (wr : List Nat) (H : List AObj) (K : Prop) : List (Nat × (Nat × Nat) × D) → Prop
  | [] => K
  | (i, (id, k), d) :: r => match (bitOf m i || !memb id wr) with
    | true => watchK m wr H K r
    | false => cellK H id k d (watchK m wr H K r)
/-- What loads have read is there still behind each that writes to the box. -/
def lightK (K : Prop) : Nat → List (Nat × (Nat × Nat) × D) → List POper → Trace → Prop
  | i, ws, o :: r, (b, (q, d, H)) :: tr => watchK o.mask b.2 H (match q with
    | some l => lightK K (i + 1) (ws ++ [(i, l, d)]) r tr
    | none => lightK K (i + 1) ws r tr) ws
  | _, _, _, _ => K

/-- Operations in whatever order: reckoned in the text's. -/
def runDraw (P : Program) (l : List POper) (env : Env) (H : List AObj) (K : Env → List AObj → Prop) : Prop := runD P l env H fun e h tr => match memOK [] l tr with
  | true => K e h
  | false => match memOKL [] l tr with
    | true => lightK (K e h) 0 [] l tr
    | false => False
end

/-! ### XDwp -/
section
open Go.RowKit

/-! ### The translation's operations, with their types' numbers laid in -/

def isIntT (P : Program) (t : TypeId) : Bool := match P.underlying t with | some (.int _) => true | _ => false
def isStrT (P : Program) (t : TypeId) : Bool := match P.underlying t with | some .string => true | _ => false
def isBoolT (P : Program) (t : TypeId) : Bool := match P.underlying t with | some .bool => true | _ => false
/-- Which nil a type and a constant make. -/
def nilKind (P : Program) (t : TypeId) (y : Operand) : Option Nat :=
  match P.underlying t, y with
  | some (.pointer _), .const (.pointer none) => some 0
  | some (.interface _), .const .nilIface => some 1
  | some (.func _ _ _), .const .nilFunc => some 2
  | some (.slice _), .const (.slice none 0 0) => some 3
  | _, _ => none

/-- The kinds of a struct's fields, if each is one plain cell. -/
def fcode (P : Program) (t : TypeId) : Option Nat := match P.underlying t with
  | some (.int _) => some 0
  | some .bool => some 1
  | some .string => some 2
  | _ => none
def fcodes (P : Program) : Nat → List Field → Option (List Nat)
  | _, [] => some []
  | i, f :: r => if f.name ≠ "_" ∧ f.offset = i then match fcode P f.type, fcodes P (i + 1) r with
    | some c, some cs => some (c :: cs)
    | _, _ => none
    else none
def scodes (P : Program) (t : TypeId) : Option (List Nat) := match P.underlying t with
  | some (.struct fs) => if P.stoodInHeld t = false ∧ P.eqGuardType P.depth t = false then fcodes P 0 fs.toList else none
  | some (.array n e) => if P.eqGuardType P.depth t = false ∧ P.cellsOf e = 1 ∧ (P.info? e).isSome = true then (fcode P e).map (List.replicate n ·) else none
  | _ => none

def placeParts (place : Nat → Option (Nat × Nat)) : List (Nat × Operand) → Option (List (Nat × Nat × Operand))
  | [] => some []
  | (i, x) :: r => match place i, placeParts place r with
    | some (off, n), some l => some ((off, n, x) :: l)
    | _, _ => none

/-- The parts of a slice literal: each place once, in order. -/
def inOrder : Nat → List (Nat × Operand) → Option (List Operand)
  | _, [] => some []
  | k, (i, x) :: r => if i = k then (inOrder (k + 1) r).map (x :: ·) else none
/-- The parts of a list of so many, where what is not told is z. -/
def fillIn (z : Value) : Nat → Nat → List (Nat × Operand) → Option (List Operand)
  | _, 0, [] => some []
  | _, 0, _ :: _ => none
  | k, m + 1, [] => (fillIn z (k + 1) m []).map (.const z :: ·)
  | k, m + 1, (i, x) :: r => if i = k then (fillIn z (k + 1) m r).map (x :: ·) else (fillIn z (k + 1) m ((i, x) :: r)).map (.const z :: ·)

def aggT (P : Program) (t : TypeId) : Option Bool := match P.underlying t with
  | some (.struct _) | some (.array _ _) => some true
  | some _ => some false
  | none => none

def cop (P : Program) (o : Oper) : Option POp :=
  match o.op with
  | .move x | .assign x => some (.move x)
  | .pick c a b => some (.pick c a b)
  | .alloc t => match (P.info? t).bind (·.zero) with
    | some z => if z.cells.toList.all oneCell then some (.alloc z.cells.toList) else none
    | none => none
  | .box _ x => some (.box x)
  | .build t parts => match (P.info? t).bind (·.zero), P.underlying t with
    | some z, some (.struct fs) => match fs.toList.mapM (fun f => (P.info? f.type).map fun i => (f.offset, i.size)) with
      | some places => (placeParts (places.toArray[·]?) parts.toList).map (.build z.cells.toList)
      | none => none
    | some z, some (.array _ e) => match P.info? e with
      | some ie => (placeParts (fun i => some (i * ie.size, ie.size)) parts.toList).map (.build z.cells.toList)
      | none => none
    | _, _ => none
  | .buildSlice t n parts => match P.underlying t with
    | some (.slice e) => match (P.info? e).bind (·.zero) with
      | some z => if n * P.cellsOf e ≤ 16777216 ∧ 0 < P.cellsOf e then match inOrder 0 parts.toList with
        | some xs => some (.bslice (P.cellsOf e) n xs)
        | none => (fillIn z 0 n parts.toList).map (.bslice (P.cellsOf e) n)
        else none
      | none => none
    | _ => none
  | .load t a => match aggT P t with
    | some true => some (.loadA (P.cellsOf t) a)
    | some false => some (.load1 a)
    | none => none
  | .store t a v => if P.cellsOf t = 0 then none else some (.store (P.cellsOf t) a v)
  | .nilCheck x => some (.nilchk x)
  | .binOp op t x y _ =>
    if isIntT P t || isStrT P t then some (.bin op x y)
    else match op with
      | .eql => if isBoolT P t then some (.eqb false x y) else match scodes P t with
        | some ks => some (.eqa false ks x y)
        | none => (nilKind P t y).map (.isnil · false x)
      | .neq => if isBoolT P t then some (.eqb true x y) else match scodes P t with
        | some ks => some (.eqa true ks x y)
        | none => (nilKind P t y).map (.isnil · true x)
      | _ => none
  | .unOp op _ x => some (.un op x)
  | .extract x i => some (.ext i x)
  | .fieldAddr s x f => match P.underlying s with
    | some (.struct fs) => match fs[f]? with
      | some fd => if P.cellsOf fd.type = 0 then none else some (.faddr fd.offset x)
      | none => none
    | _ => none
  | .field s x f => match P.underlying s with
    | some (.struct fs) => match fs[f]? with
      | some fd => match aggT P fd.type with
        | some ag => some (.field fd.offset (P.cellsOf fd.type) ag x)
        | none => none
      | none => none
    | _ => none
  | .indexAddr t x i => match P.underlying t with
    | some (.slice e) => if P.cellsOf e = 0 then none else some (.iaddr (P.cellsOf e) x i)
    | some (.array n e) => if P.cellsOf e = 0 then none else some (.aaddr n (P.cellsOf e) x i)
    | _ => none
  | .index t x i => match P.underlying t with
    | some .string => some (.sidx x i)
    | some (.array n e) => match aggT P e with
      | some ag => some (.aidx n (P.cellsOf e) ag x i)
      | none => none
    | _ => none
  | .makeFunc f first cap => some (.mkfn f first.toList cap.toList)
  | .makeSlice t l c => match P.underlying t with
    | some (.slice e) => match (P.info? e).bind (·.zero) with
      | some z => if z.cells.size = P.cellsOf e ∧ 0 < P.cellsOf e ∧ 0 < P.bytesOf e ∧ z.cells.toList.all oneCell = true then some (.mslice (P.cellsOf e) (P.bytesOf e) z.cells.toList l c) else none
      | none => none
    | _ => none
  | .slice t x lo hi mx => match P.underlying t with
    | some (.slice e) => if 0 < P.cellsOf e then some (.slc (P.cellsOf e) x lo hi mx) else none
    | some .string => match mx with
      | none => some (.sslc x lo hi)
      | some _ => none
    | _ => none
  | .call { callee := .builtin .len, args, argTypes } => match args.toList, argTypes.toList with
    | [x], [t] => match P.underlying t with
      | some (.slice _) => some (.len x)
      | some .string => some (.slen x)
      | _ => none
    | _, _ => none
  | .call { callee := .builtin .append, args, argTypes } => match args.toList, argTypes.toList with
    | [x, y], [t, u] => match P.underlying t, P.underlying u with
      | some (.slice e), some (.slice _) => match (P.info? e).bind (·.zero) with
        | some z => if z.cells.size = P.cellsOf e ∧ 0 < P.cellsOf e ∧ 0 < P.bytesOf e then some (.append (P.cellsOf e) (P.bytesOf e) x y) else none
        | none => none
      | _, _ => none
    | _, _ => none
  | .call { callee := .builtin .clear, args, argTypes } => match args.toList, argTypes.toList with
    | [x], [t] => match P.underlying t with
      | some (.slice e) => match (P.info? e).bind (·.zero) with
        | some z => match z.cells.toList with
          | [u] => if P.cellsOf e = 1 ∧ oneCell u = true then some (.clr u x) else none
          | _ => none
        | none => none
      | _ => none
    | _, _ => none
  | .call { callee := .builtin .max, args, .. } => match args.toList with
    | [x, y] => some (.mx true x y)
    | _ => none
  | .call { callee := .builtin .min, args, .. } => match args.toList with
    | [x, y] => some (.mx false x y)
    | _ => none
  | .call { callee := .value (.func f), args, .. } => match P.funcs[f]? with
    | some fn => if fn.name == "runtime.NumGoroutine" || fn.body.isNone then none else some (.call f args.toList)
    | none => none
  | .call { callee := .value x, args, .. } => some (.callv x args.toList)
  | .convert src dst x => match P.underlying src, P.underlying dst with
    | some (.int _), some (.int k) => some (.conv k x)
    | _, _ => none
  | .makeMap t none => match P.underlying t with
    | some (.map k _) => some (.mkmap k)
    | _ => none
  | .lookup t m x true => match P.underlying t with
    | some (.map k e) => match (P.info? e).bind (·.zero) with
      | some z => if oneCell z = true then some (.look k z m x) else none
      | none => none
    | _ => none
  | .lookup t m x false => match P.underlying t with
    | some (.map k _) => some (.lookv k m x)
    | _ => none
  | .mapUpdate t m x v => match P.underlying t with
    | some (.map k _) => some (.mput k m x v)
    | _ => none
  | .makeInterface t x => match P.underlying t with
    | some (.interface _) => none
    | some _ => some (.mkif t x)
    | none => none
  | _ => none

def dstOK (n : Nat) (o : Oper) : Bool := match o.dst with
  | some d => decide (d < n)
  | none => true
def afterL (o : Oper) : List Nat := (o.after.toList.filter (Region.binds .any)).map (·.on)
/-- What must have come ahead, as bits. -/
def maskOf (ms : List Nat) : List Nat → Nat
  | [] => 0
  | i :: r => 2 ^ i ||| ms.getD i 0 ||| maskOf ms r
def masksOf : List Nat → List Oper → List Nat
  | acc, [] => acc
  | acc, o :: r => masksOf (acc ++ [maskOf acc (afterL o)]) r

/-- A region that may draw its order: each waits for elder ones alone; two that need not wait for each other touch no temporary of each other's. -/
def apartFrom (ops : Array Oper) (m : Nat) (o : Oper) : Nat → List Oper → Bool
  | _, [] => true
  | i, x :: r => (m.testBit i || x.apart ops o) && apartFrom ops m o (i + 1) r
def regOK (ops : Array Oper) (ms : List Nat) : List Oper → List Oper → Bool
  | _, [] => true
  | pre, o :: r => (afterL o).all (· < pre.length) && apartFrom ops (ms.getD pre.length 0) o 0 pre && regOK ops ms (pre ++ [o]) r

def cOper (P : Program) (n : Nat) (ops : Array Oper) (mask : Nat) (o : Oper) : Option POper :=
  match dstOK n o, cop P o, o.guard with
  | true, some p, none => some ⟨o.dst, p, none, mask⟩
  | true, some p, some (j, b) => match (ops[j]?).bind (·.dst) with
    | some t => some ⟨o.dst, p, some (t, b), mask⟩
    | none => none
  | _, _, _ => none

def cOpers (P : Program) (n : Nat) (ops : Array Oper) : List Nat → List Oper → Option (List POper)
  | _, [] => some []
  | ms, o :: r => match cOper P n ops (ms.headD 0) o, cOpers P n ops ms.tail r with
    | some p, some l => some (p :: l)
    | _, _ => none

def cRegion (P : Program) (n : Nat) (ops : Array Oper) (draw : Bool) : Option (List POper) :=
  match draw with
  | false => cOpers P n ops [] ops.toList
  | true => match P.follows .mixedOrders && regOK ops (masksOf [] ops.toList) [] ops.toList with
    | true => cOpers P n ops (masksOf [] ops.toList) ops.toList
    | false => none

def comp (P : Program) (n : Nat) : Code → Option PC
  | .skip => some .skip
  | .region _ ops draw => (cRegion P n ops draw).map (.ops · draw)
  | .seq a b => match comp P n a, comp P n b with
    | some x, some y => some (.seq x y)
    | _, _ => none
  | .cond c a b => match comp P n a, comp P n b with
    | some x, some y => some (.cond c x y)
    | _, _ => none
  | .block id c => (comp P n c).map (.block id)
  | .loop c => (comp P n c).map .loop
  | .exit id => some (.exit id)
  | .ret => some .ret
  | _ => none

/-! ### States, and what a piece of code does to them -/

structure StRep (n : Nat) (J : Inj) (F : Nat → Prop) (env : Env) (H : List AObj) (a : Act) (w : World) : Prop where
  defers : a.defers = []
  size : a.tmps.size = n
  tmps : ∀ t, rep J F w (lookD t env) (a.tmps.getD t undef)
  ok : StOK J F w (fun i => H[i]?)
  dom : ∀ id, J id ≠ none → id < H.length

abbrev Post := Exit → Env → List AObj → Prop

@[irreducible] def PWp (P : Program) (n : Nat) (p : PC) (Q : Post) (env : Env) (H : List AObj) : Prop :=
  ∀ c, comp P n c = some p.bare → ∀ (J : Inj) (F : Nat → Prop) (a : Act) (w : World), StRep n J F env H a w →
    c.wp P (fun e a' w' => ∃ env' H' J' F', Q e env' H' ∧ StRep n J' F' env' H' a' w' ∧ Ext J F w J' F' w') a w

/-- The reckoning of a piece of code: it stops at loops and at marks. -/
def pw (P : Program) (n : Nat) : PC → Post → Env → List AObj → Prop
  | .skip, Q, env, H => Q .normal env H
  | .ops l d, Q, env, H => match d with
    | false => runOps P l env H fun env H => Q .normal env H
    | true => runDraw P l env H fun env H => Q .normal env H
  | .seq a b, Q, env, H => pw P n a (fun e env H => match e with
    | .normal => pw P n b Q env H
    | e => Q e env H) env H
  | .cond c a b, Q, env, H => evK env c fun d => match d with
    | .sc (.bool t) => ifK t (pw P n a Q env H) (pw P n b Q env H)
    | _ => False
  | .block id c, Q, env, H => pw P n c (fun e env H => match e with
    | .exit id' => match Nat.beq id' id with
      | true => Q .normal env H
      | false => Q (.exit id') env H
    | e => Q e env H) env H
  | .loop c, Q, env, H => PWp P n (.loop c) Q env H
  | .exit id, Q, env, H => Q (.exit id) env H
  | .ret, Q, env, H => Q .ret env H
  | .stop c, Q, env, H => PWp P n c Q env H


/-- One state says no more than another. -/
def St.le (n : Nat) (env : Env) (H : List AObj) (env' : Env) (H' : List AObj) : Prop := ∀ J F a w, StRep n J F env H a w → ∃ J' F', StRep n J' F' env' H' a w ∧ Ext J F w J' F' w


/-- The slots of a state, one by one. -/
def sameE (env : Env) : Env → Prop
  | [] => True
  | (t, d) :: r => lookD t env = d ∧ sameE env r

/-- What a loop's round must hand on. -/
def loopQ {ι : Type} (n : Nat) (Q : Post) (E : ι → Env) (O : ι → List AObj) (G : ι → Prop) (m : ι → Nat) (k : Nat) : Post
  | .normal, env, H => ∃ j, G j ∧ m j < k ∧ St.le n env H (E j) (O j)
  | e, env, H => Q e env H

/-! ### Calls -/

/-- Where a result stands. -/
inductive RV where
  | tmp (t : Nat)
  | agg (t n : Nat)
  | one (t : Nat)

def crv (P : Program) : ResultVar → Option RV
  | .tmp t => some (.tmp t)
  | .cell t ty => match aggT P ty with
    | some true => some (.agg t (P.cellsOf ty))
    | some false => some (.one t)
    | none => none
def crvs (P : Program) : List ResultVar → Option (List RV)
  | [] => some []
  | r :: l => match crv P r, crvs P l with
    | some x, some y => some (x :: y)
    | _, _ => none

structure FunOK (P : Program) (f : FuncId) (n : Nat) (rs : List RV) (p : PC) : Prop where
  out : ∃ fn, P.funcs[f]? = some fn ∧ fn.ntmps = n ∧ (fn.name == "runtime.NumGoroutine") = false ∧ crvs P fn.results.toList = some rs ∧ fn.body.bind (comp P n) = some p.bare

def resultsK (env : Env) (H : List AObj) : List RV → (List D → Prop) → Prop
  | [], K => K []
  | .tmp t :: r, K => lookK t (fun d => resultsK env H r fun ds => K (d :: ds)) env
  | .agg t n :: r, K => lookK t (fun d => match d with
    | .loc id off => hgetK H id fun o => match o with
      | .row _ cs => dropK cs off fun cs' => takeK cs' n fun c => resultsK env H r fun ds => K (.agg c :: ds)
      | _ => False
    | _ => False) env
  | .one t :: r, K => lookK t (fun d => match d with
    | .loc id off => hgetK H id fun o => match o with
      | .row _ cs => atK cs off fun c => resultsK env H r fun ds => K (c :: ds)
      | _ => False
    | _ => False) env
def retK (rs : List RV) (R : D → List AObj → Prop) : Post
  | .normal, env, H | .ret, env, H => resultsK env H rs fun ds => match ds with
    | [d] => R d H
    | ds => R (.tup ds) H
  | _, _, _ => False

def params : Nat → List D → Env
  | _, [] => []
  | k, d :: r => (k, d) :: params (k + 1) r

mutual
/-- Data to the bottom. -/
def Pure : D → Prop
  | .junk | .sc _ | .gv _ => True
  | .loc .. | .elt .. | .own .. | .mp .. => False
  | .ipt cs | .agg cs | .tup cs => PureL cs
  | .lst _ xs => PureLL xs
  | .fn _ a b => PureL a ∧ PureL b
  | .ifc _ d => Pure d
def PureL : List D → Prop
  | [] => True
  | d :: r => Pure d ∧ PureL r
def PureLL : List (List D) → Prop
  | [] => True
  | d :: r => PureL d ∧ PureLL r
end

end

/-! ### XDs1 -/
section
open Go.RowKit
set_option linter.unusedSimpArgs false
set_option linter.unusedVariables false

def upd (G : Nat → Option AObj) (wr : List Nat) (H2 : List AObj) : Nat → Option AObj := fun id => if id ∈ wr then H2[id]? else G id

theorem upd_nil (G : Nat → Option AObj) (H2 : List AObj) : upd G [] H2 = G := by funext id; simp [upd]

/-- An operation does, in whatever memory stands for these objects, what is said of it. -/
structure OpS (P : Program) (o : Oper) (env : Env) (rd wr : List Nat) (H : List AObj) (d : D) (H2 : List AObj) : Prop where
  frame : ∀ id, id ∉ wr → H2[id]? = H[id]?
  len : H.length ≤ H2.length
  lt : ∀ id ∈ wr, id < H2.length
  run : ∀ (J : Inj) (F : Nat → Prop) (w : World) (a : Act) (G : Nat → Option AObj), StOK J F w G → (∀ x ∈ o.op.operands, rep J F w (evalD env x) (a.eval x)) →
    (∀ id, id ∈ rd ∨ id ∈ wr → G id = H[id]?) → (∀ id, H.length ≤ id → id ∈ wr → J id = none) →
    ∀ (K : Act → World → Prop) (Q : Exit → Act → World → Prop),
      (∀ v w' J' F', rep J' F' w' d v → StOK J' F' w' (upd G wr H2) → Ext J F w J' F' w' → (∀ id, J id = none → id ∉ wr → J' id = none) → K (a.put o.dst v) w') → o.wp P a w K Q

theorem OpS.value {P : Program} {o : Oper} {env : Env} {rd : List Nat} {H : List AObj} {d : D}
    (h : ∀ (J : Inj) (F : Nat → Prop) (w : World) (a : Act) (G : Nat → Option AObj), StOK J F w G → (∀ x ∈ o.op.operands, rep J F w (evalD env x) (a.eval x)) →
      (∀ id ∈ rd, G id = H[id]?) → ∃ v, (execOp a.eval o).run P w = .ok (.value v) w ∧ rep J F w d v) : OpS P o env rd [] H d H where
  frame _ _ := rfl
  len := Nat.le_refl _
  lt _ h := by cases h
  run J F w a G hok hops hrd _ K Q hK := by
    obtain ⟨v, h1, h2⟩ := h J F w a G hok hops fun id hid => hrd id (.inl hid)
    unfold Oper.wp
    rw [h1, Oper.upon_value]
    exact hK v w J F h2 (by rw [upd_nil]; exact hok) (Ext.refl _ _ _) fun _ h _ => h

/-! ### The reckoning's words, said plainly -/

theorem lookK_eq (t : Nat) (K : D → Prop) : ∀ env, lookK t K env = K (lookD t env)
  | [] => rfl
  | (k, d) :: r => by
    simp only [lookK, lookD]
    cases Nat.beq t k
    · exact lookK_eq t K r
    · rfl
theorem scK_eq : ∀ (l : List Value) (K : List D → Prop), scK l K = K (l.map .sc)
  | [], K => rfl
  | v :: r, K => by simp only [scK, scK_eq r, List.map_cons]
theorem evK_eq (env : Env) (x : Operand) (K : D → Prop) : evK env x K = K (evalD env x) := by
  cases x with
  | tmp t => exact lookK_eq t K env
  | const v => cases v <;> first | rfl | simp only [evK, evalD, lift, scK_eq]
  | global g => rfl
  | func f => rfl
theorem evLK_eq (env : Env) : ∀ (xs : List Operand) (K : List D → Prop), evLK env xs K = K (xs.map (evalD env))
  | [], K => rfl
  | x :: r, K => by simp only [evLK, evK_eq, evLK_eq env r, List.map_cons]
theorem atK_iff : ∀ (cs : List D) (n : Nat) (K : D → Prop), atK cs n K ↔ ∃ c, cs[n]? = some c ∧ K c
  | [], n, K => by simp [atK]
  | c :: r, 0, K => by simp [atK]
  | c :: r, n + 1, K => by simp only [atK, List.getElem?_cons_succ]; exact atK_iff r n K
theorem takeK_iff : ∀ (cs : List D) (n : Nat) (K : List D → Prop), takeK cs n K ↔ n ≤ cs.length ∧ K (cs.take n)
  | cs, 0, K => by simp [takeK]
  | [], n + 1, K => by simp [takeK]
  | c :: r, n + 1, K => by simp only [takeK, takeK_iff r n, List.length_cons, List.take_succ_cons, Nat.add_le_add_iff_right]
theorem dropK_iff : ∀ (cs : List D) (n : Nat) (K : List D → Prop), dropK cs n K ↔ n ≤ cs.length ∧ K (cs.drop n)
  | cs, 0, K => by cases cs <;> simp [dropK]
  | [], n + 1, K => by simp [dropK]
  | c :: r, n + 1, K => by simp only [dropK, dropK_iff r n, List.length_cons, List.drop_succ_cons, Nat.add_le_add_iff_right]
theorem hgetK_iff : ∀ (H : List AObj) (n : Nat) (K : AObj → Prop), hgetK H n K ↔ ∃ c, H[n]? = some c ∧ K c
  | [], n, K => by simp [hgetK]
  | c :: r, 0, K => by simp [hgetK]
  | c :: r, n + 1, K => by simp only [hgetK, List.getElem?_cons_succ]; exact hgetK_iff r n K
theorem hputK_iff : ∀ (H : List AObj) (n : Nat) (o : AObj) (K : List AObj → Prop), hputK H n o K ↔ n < H.length ∧ K (H.set n o)
  | [], n, o, K => by simp [hputK]
  | c :: r, 0, o, K => by simp [hputK]
  | c :: r, n + 1, o, K => by simp only [hputK, hputK_iff r n, List.length_cons, List.set_cons_succ, Nat.add_lt_add_iff_right]
theorem hpushK_iff : ∀ (H : List AObj) (o : AObj) (K : List AObj → Nat → Prop), hpushK H o K ↔ K (H ++ [o]) H.length
  | [], o, K => by simp [hpushK]
  | c :: r, o, K => by simp only [hpushK, hpushK_iff r, List.length_cons, List.cons_append]
theorem putK_iff : ∀ (r : List D) (n : Nat) (cs : List D) (K : List D → Prop), putK r n cs K ↔ n + cs.length ≤ r.length ∧ K (r.take n ++ cs ++ r.drop (n + cs.length))
  | [], 0, [], K => by simp [putK]
  | [], 0, c :: cs, K => by simp [putK]
  | [], n + 1, cs, K => by simp [putK]
  | x :: r, 0, [], K => by simp [putK]
  | x :: r, 0, c :: cs, K => by
    simp only [putK, putK_iff r 0 cs, List.length_cons, List.take_zero, List.nil_append, Nat.zero_add, List.cons_append, List.drop_succ_cons, Nat.add_le_add_iff_right]
  | x :: r, n + 1, cs, K => by
    simp only [putK, putK_iff r n cs, List.length_cons, List.take_succ_cons, List.cons_append]
    rw [show n + 1 + cs.length = n + cs.length + 1 by omega, List.drop_succ_cons, Nat.add_le_add_iff_right]

theorem sameK_iff (a b : Nat) (A : Prop) : sameK a b A ↔ a = b ∧ A := by
  unfold sameK
  cases e : Nat.beq a b
  · simp only [false_iff, not_and]; intro h; subst h; simp at e
  · simp [Nat.eq_of_beq_eq_true e]

/-- The cells of a value that may be stored. -/
def D.cells : D → List D
  | .agg cs => cs
  | d => [d]
def storable (d : D) : Bool := match d with
  | .agg cs => cells1 cs
  | d => cell1 d
theorem cellsK_iff (d : D) (K : List D → Prop) : cellsK d K ↔ storable d = true ∧ K d.cells := by
  cases d <;> simp only [cellsK, storable, D.cells]
  all_goals
    first
    | (generalize e : cells1 _ = b; cases b <;> simp)
    | (generalize e : cell1 _ = b; cases b <;> simp)

section
variable {J : Inj} {F : Nat → Prop} {w : World}
theorem cells1_mem : ∀ (cs : List D), cells1 cs = true → ∀ c ∈ cs, cell1 c = true
  | [], _, c, h => by cases h
  | c :: r, h, d, hd => by
    simp only [cells1] at h
    cases e : cell1 c with
    | false => rw [e] at h; cases h
    | true =>
      rw [e] at h
      rcases List.mem_cons.1 hd with rfl | hd
      · exact e
      · exact cells1_mem r h d hd
theorem oneCell_of {c : D} {v : Value} (h : cell1 c = true) (k : rep J F w c v) : oneCell v = true := by
  cases c <;> simp only [rep] at k
  case sc u => subst k; cases v <;> first | rfl | simp [cell1] at h
  case loc => obtain ⟨_, _, _, _, _, rfl⟩ := k; rfl
  case ipt => obtain ⟨_, _, rfl, _⟩ := k; rfl
  case lst => obtain ⟨_, _, _, rfl, _⟩ := k; rfl
  case fn => obtain ⟨_, _, rfl, _⟩ := k; rfl
  case ifc => obtain ⟨_, rfl, _⟩ := k; rfl
  case elt => obtain ⟨_, _, _, rfl, _⟩ := k; rfl
  case own => obtain ⟨_, _, _, _, _, rfl, _⟩ := k; rfl
  case mp => obtain ⟨_, _, _, _, _, rfl⟩ := k; rfl
  case gv => exact k.2.2
  all_goals simp [cell1] at h
end

/-! ### Arithmetic -/
theorem arithK_iff (k : IntKind) (z : Int) (K : D → Prop) (h : arithK k z K) : K (.sc (.int k (k.wrap z))) := by
  rcases h with ⟨h1, h2⟩ | h
  · unfold InR at h1; rw [h1]; exact h2
  · exact h _ rfl

theorem run_eqGuard_int (P : Program) (w : World) (op : BinOp) (t : TypeId) (x y : Operand) (k k' : IntKind) (a b : Int) : (eqGuard op t x y (.int k a) (.int k' b)).run P w = .ok () w := by
  cases op <;> simp [eqGuard, pure, Sem.run]
theorem run_eqGuard_string (P : Program) (w : World) (op : BinOp) (t : TypeId) (x y : Operand) (a b : ByteArray) : (eqGuard op t x y (.string a) (.string b)).run P w = .ok () w := by
  cases op <;> simp [eqGuard, pure, Sem.run]
theorem run_eqGuard_bool (P : Program) (w : World) (op : BinOp) (t : TypeId) (x y : Operand) (a b : Bool) : (eqGuard op t x y (.bool a) (.bool b)).run P w = .ok () w := by
  cases op <;> simp [eqGuard, pure, Sem.run]

theorem kindNo_inj {k k' : IntKind} (h : Nat.beq (kindNo k) (kindNo k') = true) : k = k' := by
  cases k <;> cases k' <;> first | rfl | cases h

theorem binK_sound (op : BinOp) (dx dy : D) (K : D → Prop) (h : binK op dx dy K) :
    ∃ u v r, dx = .sc u ∧ dy = .sc v ∧ K (.sc r) ∧ ∀ (P : Program) (w : World) (t : TypeId) (x y : Operand), ((do eqGuard op t x y u v; binOp op t u v : Sem Value)).run P w = .ok r w := by
  unfold binK at h
  split at h
  · rename_i k a k' b
    split at h
    · obtain ⟨h0, h⟩ := h
      refine ⟨_, _, _, rfl, rfl, arithK_iff _ _ _ h, fun P w t x y => ?_⟩
      simp [run_eqGuard_int, binOp, Op.shift, show ¬ b < 0 by omega, pure, Sem.run]
    · obtain ⟨h0, h⟩ := h
      refine ⟨_, _, _, rfl, rfl, h, fun P w t x y => ?_⟩
      simp [run_eqGuard_int, binOp, Op.shift, show ¬ b < 0 by omega, pure, Sem.run]
    · rename_i hn1 hn2
      split at h
      · exact h.elim
      · rename_i hk
        have hk := kindNo_inj hk
        subst hk
        cases op <;> simp only at h
        all_goals try exact h.elim
        case add => exact ⟨_, _, _, rfl, rfl, arithK_iff _ _ _ h, fun P w t x y => by simp [run_eqGuard_int, binOp, Op.intArith, pure, Sem.run]⟩
        case sub => exact ⟨_, _, _, rfl, rfl, arithK_iff _ _ _ h, fun P w t x y => by simp [run_eqGuard_int, binOp, Op.intArith, pure, Sem.run]⟩
        case mul => exact ⟨_, _, _, rfl, rfl, arithK_iff _ _ _ h, fun P w t x y => by simp [run_eqGuard_int, binOp, Op.intArith, pure, Sem.run]⟩
        case quo => exact ⟨_, _, _, rfl, rfl, arithK_iff _ _ _ h.2, fun P w t x y => by simp [run_eqGuard_int, binOp, Op.intDiv, pure, Sem.run, h.1]⟩
        case rem => exact ⟨_, _, _, rfl, rfl, h.2, fun P w t x y => by simp [run_eqGuard_int, binOp, Op.intDiv, pure, Sem.run, h.1]⟩
        case eql => exact ⟨_, _, _, rfl, rfl, h, fun P w t x y => by simp [run_eqGuard_int, binOp, Op.intCmp, pure, Sem.run]⟩
        case neq => exact ⟨_, _, _, rfl, rfl, h, fun P w t x y => by simp [run_eqGuard_int, binOp, Op.intCmp, pure, Sem.run]⟩
        case lss => exact ⟨_, _, _, rfl, rfl, h, fun P w t x y => by simp [run_eqGuard_int, binOp, Op.intCmp, pure, Sem.run]⟩
        case leq => exact ⟨_, _, _, rfl, rfl, h, fun P w t x y => by simp [run_eqGuard_int, binOp, Op.intCmp, pure, Sem.run]⟩
        case gtr => exact ⟨_, _, _, rfl, rfl, h, fun P w t x y => by simp [run_eqGuard_int, binOp, Op.intCmp, pure, Sem.run]⟩
        case geq => exact ⟨_, _, _, rfl, rfl, h, fun P w t x y => by simp [run_eqGuard_int, binOp, Op.intCmp, pure, Sem.run]⟩
        case and => exact ⟨_, _, _, rfl, rfl, h, fun P w t x y => by simp [run_eqGuard_int, binOp, Op.intBits, pure, Sem.run, bitsV]⟩
        case or => exact ⟨_, _, _, rfl, rfl, h, fun P w t x y => by simp [run_eqGuard_int, binOp, Op.intBits, pure, Sem.run, bitsV]⟩
        case xor => exact ⟨_, _, _, rfl, rfl, h, fun P w t x y => by simp [run_eqGuard_int, binOp, Op.intBits, pure, Sem.run, bitsV]⟩
        case andNot => exact ⟨_, _, _, rfl, rfl, h, fun P w t x y => by simp [run_eqGuard_int, binOp, Op.intBits, pure, Sem.run, bitsV]⟩
  · rename_i a b
    cases op <;> simp only at h
    all_goals try exact h.elim
    case add => exact ⟨_, _, _, rfl, rfl, h.2, fun P w t x y => by
      have h1 := h.1
      have h2 : (a.size : Int) + (b.size : Int) ≤ 9223372036854775807 := by omega
      simp [run_eqGuard_string, binOp, Op.stringOp, pure, Sem.run, h2]⟩
    all_goals exact ⟨_, _, _, rfl, rfl, h, fun P w t x y => by simp [run_eqGuard_string, binOp, Op.stringOp, pure, Sem.run]⟩
  · exact h.elim

/-! ### The operations that leave memory alone -/
section
variable {P : Program} {seq : Bool} {o : Oper} {env : Env} {H : List AObj} {K : Cont}

/-- What the reckoning of an operation promises. -/
def Sound (P : Program) (o : Oper) (env : Env) (H : List AObj) (K : Cont) : Prop := ∃ d H2 rd wr, OpS P o env rd wr H d H2 ∧ K d H2 rd wr

theorem sound_value {d : D} {rd : List Nat} (hK : K d H rd [])
    (h : ∀ (J : Inj) (F : Nat → Prop) (w : World) (a : Act) (G : Nat → Option AObj), StOK J F w G → (∀ x ∈ o.op.operands, rep J F w (evalD env x) (a.eval x)) →
      (∀ id ∈ rd, G id = H[id]?) → ∃ v, (execOp a.eval o).run P w = .ok (.value v) w ∧ rep J F w d v) : Sound P o env H K := ⟨d, H, rd, [], OpS.value h, hK⟩

theorem s_move {x : Operand} (ho : o.op = .move x ∨ o.op = .assign x) (h : step P seq (.move x) env H K) : Sound P o env H K := by
  simp only [step, evK_eq] at h
  refine sound_value h fun J F w a G _ hops _ => ⟨a.eval x, ?_, ?_⟩
  · rcases ho with e | e <;> simp [execOp, e, pure, Sem.run]
  · rcases ho with e | e <;> exact hops x (by simp [e, Op.operands])

theorem ifK_true {A B : Prop} : ifK true A B = A := rfl
theorem ifK_false {A B : Prop} : ifK false A B = B := rfl

theorem s_pick {c x y : Operand} (ho : o.op = .pick c x y) (h : step P seq (.pick c x y) env H K) : Sound P o env H K := by
  simp only [step, evK_eq] at h
  cases hc : evalD env c with
  | sc u =>
    cases u with
    | bool t =>
      rw [hc] at h
      cases t with
      | true =>
        simp only [ifK_true] at h
        refine sound_value h fun J F w a G _ hops _ => ⟨a.eval x, ?_, hops x (by simp [ho, Op.operands])⟩
        have h1 := hops c (by simp [ho, Op.operands])
        rw [hc] at h1
        simp only [rep] at h1
        simp [execOp, ho, pure, Sem.run, h1, asBool]
      | false =>
        simp only [ifK_false] at h
        refine sound_value h fun J F w a G _ hops _ => ⟨a.eval y, ?_, hops y (by simp [ho, Op.operands])⟩
        have h1 := hops c (by simp [ho, Op.operands])
        rw [hc] at h1
        simp only [rep] at h1
        simp [execOp, ho, pure, Sem.run, h1, asBool]
    | _ => rw [hc] at h; exact h.elim
  | _ => rw [hc] at h; exact h.elim

theorem s_nilchk {x : Operand} (ho : o.op = .nilCheck x) (h : step P seq (.nilchk x) env H K) : Sound P o env H K := by
  simp only [step, evK_eq] at h
  have key : ∀ v, (∃ a, v = Value.pointer (some a)) ∨ (∃ f us vs, v = .func (.func f) us vs) → ∀ (w : World) (ρ : Operand → Value), ρ x = v → (execOp ρ o).run P w = .ok (.value v) w := by
    rintro v (⟨a, rfl⟩ | ⟨f, us, vs, rfl⟩) w ρ e <;> simp [execOp, ho, e, pure, Sem.run]
  cases hx : evalD env x with
  | loc id off =>
    rw [hx] at h
    refine sound_value h fun J F w a G _ hops _ => ?_
    have h1 := hops x (by simp [ho, Op.operands])
    rw [hx] at h1
    refine ⟨_, key _ (.inl ?_) w _ rfl, h1⟩
    simp only [rep] at h1
    obtain ⟨_, _, _, _, _, e⟩ := h1
    exact ⟨_, e⟩
  | elt id ver i off =>
    rw [hx] at h
    refine sound_value h fun J F w a G _ hops _ => ?_
    have h1 := hops x (by simp [ho, Op.operands])
    rw [hx] at h1
    refine ⟨_, key _ (.inl ?_) w _ rfl, h1⟩
    simp only [rep] at h1
    obtain ⟨_, _, _, e, _⟩ := h1
    exact ⟨_, e⟩
  | ipt cs =>
    rw [hx] at h
    refine sound_value h fun J F w a G _ hops _ => ?_
    have h1 := hops x (by simp [ho, Op.operands])
    rw [hx] at h1
    refine ⟨_, key _ (.inl ?_) w _ rfl, h1⟩
    simp only [rep] at h1
    obtain ⟨_, _, e, _⟩ := h1
    exact ⟨_, e⟩
  | fn f first cap =>
    rw [hx] at h
    cases f with
    | func f =>
      refine sound_value h fun J F w a G _ hops _ => ?_
      have h1 := hops x (by simp [ho, Op.operands])
      rw [hx] at h1
      refine ⟨_, key _ (.inr ?_) w _ rfl, h1⟩
      simp only [rep] at h1
      obtain ⟨_, _, e, _⟩ := h1
      exact ⟨_, _, _, e⟩
    | _ => exact h.elim
  | _ => rw [hx] at h; exact h.elim

theorem s_bin {op : BinOp} {t yt : TypeId} {x y : Operand} (ho : o.op = .binOp op t x y yt) (h : step P seq (.bin op x y) env H K) : Sound P o env H K := by
  simp only [step, evK_eq] at h
  obtain ⟨u, v, r, h1, h2, h3, h4⟩ := binK_sound _ _ _ _ h
  refine sound_value h3 fun J F w a G _ hops _ => ⟨r, ?_, by simp only [rep]⟩
  have k1 := hops x (by simp [ho, Op.operands])
  have k2 := hops y (by simp [ho, Op.operands])
  rw [h1] at k1; rw [h2] at k2
  simp only [rep] at k1 k2
  simp only [execOp, ho, k1, k2]
  have := h4 P w t x y
  simp only [Sem.run_bind] at this ⊢
  rw [this]
  rfl

theorem run_equal_bool {t : TypeId} (ht : P.underlying t = some .bool) (a b : Bool) (w : World) : (Op.equal t (.bool a) (.bool b)).run P w = .ok (a == b) w := by
  unfold Op.equal
  rw [show Op.maxDepth = 9999 + 1 from rfl]
  unfold Op.equalIn
  simp [underlying, program, Sem.run, ht, pure]

theorem s_eqb {neq : Bool} {op : BinOp} {t yt : TypeId} {x y : Operand} (hop : op = if neq then .neq else .eql) (ht : P.underlying t = some .bool) (ho : o.op = .binOp op t x y yt) (h : step P seq (.eqb neq x y) env H K) : Sound P o env H K := by
  simp only [step, evK_eq] at h
  unfold eqbK at h
  split at h
  · rename_i u v e1 e2
    cases neq with
    | false =>
      simp only [Bool.false_eq_true, if_false] at hop
      refine sound_value h fun J F w a G _ hops _ => ⟨_, ?_, rfl⟩
      have k1 := hops x (by simp [ho, Op.operands])
      have k2 := hops y (by simp [ho, Op.operands])
      rw [e1] at k1; rw [e2] at k2
      simp only [rep] at k1 k2
      simp [execOp, ho, k1, k2, hop, run_eqGuard_bool, binOp, run_equal_bool ht, Sem.run, pure]
    | true =>
      simp only [if_true] at hop
      refine sound_value h fun J F w a G _ hops _ => ⟨_, ?_, rfl⟩
      have k1 := hops x (by simp [ho, Op.operands])
      have k2 := hops y (by simp [ho, Op.operands])
      rw [e1] at k1; rw [e2] at k2
      simp only [rep] at k1 k2
      simp [execOp, ho, k1, k2, hop, run_eqGuard_bool, binOp, run_equal_bool ht, Sem.run, pure]
  · exact h.elim

theorem eqOneK_sound {c : Nat} {x y : D} {K : Bool → Prop} (h : eqOneK c x y K) :
    ∃ u v b, x = .sc u ∧ y = .sc v ∧ K b ∧ ∀ (P : Program) (t : TypeId), fcode P t = some c → (∀ (us : Array Value) (i : Nat) (w : World) (z : Value), us[i]? = some z → (part t us i).run P w = .ok z w) ∧ ∀ d w, (Op.equalIn (d + 1) t u v).run P w = .ok b w := by
  unfold eqOneK at h
  split at h
  · rename_i k a k' b
    obtain ⟨e1, h2⟩ := (sameK_iff _ _ _).1 h
    have e1 : k = k' := kindNo_inj (by rw [e1]; exact Nat.beq_refl _)
    subst e1
    refine ⟨_, _, _, rfl, rfl, h2, fun P t ht => ?_⟩
    unfold fcode at ht
    split at ht <;> try (cases ht; done)
    rename_i k0 e
    exact ⟨fun us i w z hz => by simp [part, isAgg, run_underlying e, hz], fun d w => run_equalIn_int w d t k k0 a b e⟩
  · refine ⟨_, _, _, rfl, rfl, h, fun P t ht => ?_⟩
    unfold fcode at ht
    split at ht <;> try (cases ht; done)
    rename_i e
    exact ⟨fun us i w z hz => by simp [part, isAgg, run_underlying e, hz], fun d w => run_equalIn_bool' w d t _ _ e⟩
  · refine ⟨_, _, _, rfl, rfl, h, fun P t ht => ?_⟩
    unfold fcode at ht
    split at ht <;> try (cases ht; done)
    rename_i e
    exact ⟨fun us i w z hz => by simp [part, isAgg, run_underlying e, hz], fun d w => run_equalIn_string w d t _ _ e⟩
  · exact h.elim

theorem eqLK_sound : ∀ {ks : List Nat} {xs ys : List D} {K : Bool → Prop}, eqLK ks xs ys K → ∃ b, K b ∧
    ∀ (P : Program) (us vs : Array Value) (J : Inj) (F : Nat → Prop) (w0 : World) (fs : List Field) (i : Nat), fcodes P i fs = some ks →
      repL J F w0 xs (us.toList.drop i) → repL J F w0 ys (vs.toList.drop i) → ∀ d w, (Op.eqFields (d + 1) us vs fs).run P w = .ok b w
  | [], xs, ys, K, h => by
    cases xs <;> cases ys <;> simp only [eqLK] at h
    refine ⟨_, h, fun P us vs J F w0 fs i hf _ _ d w => ?_⟩
    cases fs with
    | nil => simp [Op.eqFields, Sem.run, pure]
    | cons f r =>
      simp only [fcodes] at hf
      repeat' (split at hf)
      all_goals cases hf
  | c :: cs, xs, ys, K, h => by
    cases xs <;> cases ys <;> simp only [eqLK] at h
    rename_i x xs y ys
    obtain ⟨u, v, b, rfl, rfl, h, hP⟩ := eqOneK_sound h
    obtain ⟨q, hq, hR⟩ := eqLK_sound h
    refine ⟨_, hq, fun P us vs J F w0 fs i hf h1 h2 d w => ?_⟩
    cases fs with
    | nil => cases hf
    | cons f r =>
      simp only [fcodes] at hf
      split at hf
      · rename_i hc
        split at hf
        · rename_i c' cs' e1 e2
          cases hf
          obtain ⟨hp, he⟩ := hP P f.type e1
          simp only [repL, rep] at h1 h2
          obtain ⟨u', us', g1, rfl, g2⟩ := h1
          obtain ⟨v', vs', g3, rfl, g4⟩ := h2
          have k1 : us[i]? = some u' := by
            have := congrArg (fun l => l[0]?) g1
            simpa using this
          have k2 : vs[i]? = some v' := by
            have := congrArg (fun l => l[0]?) g3
            simpa using this
          have k3 : us.toList.drop (i + 1) = us' := by
            have := congrArg List.tail g1
            simpa [List.tail_drop] using this
          have k4 : vs.toList.drop (i + 1) = vs' := by
            have := congrArg List.tail g3
            simpa [List.tail_drop] using this
          have hr := hR P us vs J F w0 r (i + 1) e2 (k3 ▸ g2) (k4 ▸ g4) d
          have p1 := hp us i w u' k1
          have p2 := hp vs i w v' k2
          simp only [Op.eqFields, if_pos hc.1, hc.2, Sem.run_bind, p1, p2, Result.andThen_ok, he d w, Sem.run_ite]
          cases b
          · simp [Sem.run, pure]
          · simp [hr w]
        · cases hf
      · cases hf

theorem eqAK_sound {c : Nat} : ∀ {n : Nat} {xs ys : List D} {K : Bool → Prop}, eqLK (List.replicate n c) xs ys K → ∃ b, K b ∧
    ∀ (P : Program) (us vs : Array Value) (J : Inj) (F : Nat → Prop) (w0 : World) (e : TypeId) (i : Nat), fcode P e = some c →
      repL J F w0 xs (us.toList.drop i) → repL J F w0 ys (vs.toList.drop i) → ∀ d w, (Op.eqItems (d + 1) e 1 us vs (List.range' i n)).run P w = .ok b w
  | 0, xs, ys, K, h => by
    cases xs <;> cases ys <;> simp only [List.replicate, eqLK] at h
    exact ⟨_, h, fun P us vs J F w0 e i hf _ _ d w => by simp [Op.eqItems, Sem.run, pure]⟩
  | n + 1, xs, ys, K, h => by
    cases xs <;> cases ys <;> simp only [List.replicate, eqLK] at h
    rename_i x xs y ys
    obtain ⟨u, v, b, rfl, rfl, h, hP⟩ := eqOneK_sound h
    obtain ⟨q, hq, hR⟩ := eqAK_sound h
    refine ⟨_, hq, fun P us vs J F w0 e i hf h1 h2 d w => ?_⟩
    obtain ⟨hp, he⟩ := hP P e hf
    simp only [repL, rep] at h1 h2
    obtain ⟨u', us', g1, rfl, g2⟩ := h1
    obtain ⟨v', vs', g3, rfl, g4⟩ := h2
    have k1 : us[i]? = some u' := by
      have := congrArg (fun l => l[0]?) g1
      simpa using this
    have k2 : vs[i]? = some v' := by
      have := congrArg (fun l => l[0]?) g3
      simpa using this
    have k3 : us.toList.drop (i + 1) = us' := by
      have := congrArg List.tail g1
      simpa [List.tail_drop] using this
    have k4 : vs.toList.drop (i + 1) = vs' := by
      have := congrArg List.tail g3
      simpa [List.tail_drop] using this
    have hr := hR P us vs J F w0 e (i + 1) hf (k3 ▸ g2) (k4 ▸ g4) d
    have p1 := hp us i w u' k1
    have p2 := hp vs i w v' k2
    simp only [List.range'_succ, Op.eqItems, Nat.mul_one, Sem.run_bind, p1, p2, Result.andThen_ok, he d w, Sem.run_ite]
    cases b
    · simp [Sem.run, pure]
    · simp [hr w]
theorem s_eqa {neq : Bool} {op : BinOp} {t yt : TypeId} {x y : Operand} {ks : List Nat} (hop : op = if neq then .neq else .eql) (ht : scodes P t = some ks) (ho : o.op = .binOp op t x y yt) (h : step P seq (.eqa neq ks x y) env H K) : Sound P o env H K := by
  simp only [step, evK_eq] at h
  unfold scodes at ht
  split at ht
  · rename_i fs hu
    split at ht
    · rename_i hg
      unfold eqaK at h
      split at h
      · rename_i xs ys e1 e2
        have hfs : P.fieldsOf t = fs := by simp [Program.fieldsOf, hu]
        obtain ⟨b, hK, hr⟩ := eqLK_sound h
        refine sound_value hK fun J F w a G _ hops _ => ?_
        have k1 := hops x (by simp [ho, Op.operands])
        have k2 := hops y (by simp [ho, Op.operands])
        rw [e1] at k1; rw [e2] at k2
        simp only [rep] at k1 k2
        obtain ⟨us, k1, r1⟩ := k1
        obtain ⟨vs, k2, r2⟩ := k2
        have hrun := hr P us.toArray vs.toArray J F w fs.toList 0 ht (by simpa using r1) (by simpa using r2) 9998 w
        have heq : (Op.equalIn 10000 t (.agg us.toArray) (.agg vs.toArray)).run P w = .ok b w := by
          rw [show (10000 : Nat) = 9999 + 1 from rfl, run_equalIn_struct w 9999 t _ _ (by rw [hfs]; exact hu) hg.1, hfs]
          exact hrun
        cases neq with
        | false =>
          simp only [Bool.false_eq_true, if_false] at hop
          exact ⟨_, by simp [execOp, ho, k1, k2, hop, run_eqGuard_agg w _ t x y _ _ hg.2, run_eql_struct, heq, Sem.run, pure, flipB], rfl⟩
        | true =>
          simp only [if_true] at hop
          exact ⟨_, by simp [execOp, ho, k1, k2, hop, run_eqGuard_agg w _ t x y _ _ hg.2, run_neq_struct, heq, Sem.run, pure, flipB], rfl⟩
      · exact h.elim
    · cases ht
  · rename_i n e hu
    split at ht
    · rename_i hg
      cases hfc : fcode P e with
      | none => rw [hfc] at ht; cases ht
      | some c =>
        rw [hfc] at ht
        cases ht
        obtain ⟨inf, hi⟩ := Option.isSome_iff_exists.1 hg.2.2
        unfold eqaK at h
        split at h
        · rename_i xs ys e1 e2
          obtain ⟨b, hK, hr⟩ := eqAK_sound h
          refine sound_value hK fun J F w a G _ hops _ => ?_
          have k1 := hops x (by simp [ho, Op.operands])
          have k2 := hops y (by simp [ho, Op.operands])
          rw [e1] at k1; rw [e2] at k2
          simp only [rep] at k1 k2
          obtain ⟨us, k1, r1⟩ := k1
          obtain ⟨vs, k2, r2⟩ := k2
          have hrun := hr P us.toArray vs.toArray J F w e 0 hfc (by simpa using r1) (by simpa using r2) 9998 w
          have heq : (Op.equalIn 10000 t (.agg us.toArray) (.agg vs.toArray)).run P w = .ok b w := by
            rw [show (10000 : Nat) = 9999 + 1 from rfl, run_equalIn_array w 9999 _ _ hu hi, hg.2.1, List.range_eq_range']
            exact hrun
          cases neq with
          | false =>
            simp only [Bool.false_eq_true, if_false] at hop
            exact ⟨_, by simp [execOp, ho, k1, k2, hop, run_eqGuard_agg w _ t x y _ _ hg.1, run_eql_struct, heq, Sem.run, pure, flipB], rfl⟩
          | true =>
            simp only [if_true] at hop
            exact ⟨_, by simp [execOp, ho, k1, k2, hop, run_eqGuard_agg w _ t x y _ _ hg.1, run_neq_struct, heq, Sem.run, pure, flipB], rfl⟩
        · exact h.elim
    · cases ht
  · cases ht

theorem s_un {op : UnOp} {t : TypeId} {x : Operand} (ho : o.op = .unOp op t x) (h : step P seq (.un op x) env H K) : Sound P o env H K := by
  simp only [step, evK_eq] at h
  unfold unK at h
  split at h
  · rename_i b e
    refine sound_value h fun J F w a G _ hops _ => ⟨_, ?_, rfl⟩
    have k1 := hops x (by simp [ho, Op.operands])
    rw [e] at k1
    simp only [rep] at k1
    simp [execOp, ho, k1, Op.unary, Sem.run, pure]
  · rename_i k n e
    refine sound_value (arithK_iff _ _ _ h) fun J F w a G _ hops _ => ⟨_, ?_, rfl⟩
    have k1 := hops x (by simp [ho, Op.operands])
    rw [e] at k1
    simp only [rep] at k1
    simp [execOp, ho, k1, Op.unary, Op.intArith, Sem.run, pure]
  · exact h.elim

theorem s_ext {i : Nat} {x : Operand} (ho : o.op = .extract x i) (h : step P seq (.ext i x) env H K) : Sound P o env H K := by
  simp only [step, evK_eq] at h
  split at h
  · rename_i cs e
    obtain ⟨c, h1, h2⟩ := (atK_iff _ _ _).1 h
    refine sound_value h2 fun J F w a G _ hops _ => ?_
    have k1 := hops x (by simp [ho, Op.operands])
    rw [e] at k1
    simp only [rep] at k1
    obtain ⟨vs, k2, k3⟩ := k1
    obtain ⟨v, k4, k5⟩ := repL_get _ _ _ _ h1 k3
    refine ⟨v, ?_, k5⟩
    simp [execOp, ho, k2, Instr.extract, k4, Sem.run, pure]
  · exact h.elim

theorem s_mkfn {f : Fn} {first cap : Array Operand} (ho : o.op = .makeFunc f first cap) (h : step P seq (.mkfn f first.toList cap.toList) env H K) : Sound P o env H K := by
  simp only [step, evLK_eq] at h
  refine sound_value h fun J F w a G _ hops _ => ⟨.func f (first.map a.eval) (cap.map a.eval), ?_, ?_⟩
  · simp [execOp, ho, Instr.makeFunc, Sem.run, pure]
  · simp only [rep]
    refine ⟨first.toList.map a.eval, cap.toList.map a.eval, ?_, ?_, ?_⟩
    · congr 1 <;> (apply Array.ext' ; simp)
    · refine repL_mk _ _ (by simp) fun j d v hd hv => ?_
      rw [List.getElem?_map] at hd hv
      cases e : first.toList[j]? with
      | none => rw [e] at hd; cases hd
      | some x =>
        rw [e] at hd hv
        simp only [Option.map_some, Option.some.injEq] at hd hv
        subst hd; subst hv
        exact hops x (by simp [ho, Op.operands]; exact .inl (by simpa using List.mem_of_getElem? e))
    · refine repL_mk _ _ (by simp) fun j d v hd hv => ?_
      rw [List.getElem?_map] at hd hv
      cases e : cap.toList[j]? with
      | none => rw [e] at hd; cases hd
      | some x =>
        rw [e] at hd hv
        simp only [Option.map_some, Option.some.injEq] at hd hv
        subst hd; subst hv
        exact hops x (by simp [ho, Op.operands]; exact .inr (by simpa using List.mem_of_getElem? e))

theorem s_mkif {t : TypeId} {x : Operand} (hc : ∀ ms, P.underlying t ≠ some (.interface ms)) (hu : P.underlying t ≠ none) (ho : o.op = .makeInterface t x) (h : step P seq (.mkif t x) env H K) : Sound P o env H K := by
  simp only [step, evK_eq] at h
  refine sound_value h fun J F w a G _ hops _ => ⟨.iface t (a.eval x), ?_, ?_⟩
  · cases e : P.underlying t with
    | none => exact absurd e hu
    | some d =>
      cases d <;> first | exact absurd e (hc _) | simp [execOp, ho, Instr.makeInterface, Sem.run, pure, underlying, program, e]
  · simp only [rep]
    exact ⟨_, rfl, hops x (by simp [ho, Op.operands])⟩

theorem s_slen {args : Array Operand} {ts : Array TypeId} {x : Operand} {t : TypeId} (ha : args.toList = [x]) (hts : ts.toList = [t]) (ht : P.underlying t = some .string) (ho : o.op = .call { callee := .builtin .len, args, argTypes := ts }) (h : step P seq (.slen x) env H K) : Sound P o env H K := by
  have ea : args = #[x] := Array.ext' (by simpa using ha)
  have et : ts = #[t] := Array.ext' (by simpa using hts)
  subst ea et
  simp only [step, evK_eq] at h
  split at h
  · rename_i s e
    refine sound_value h fun J F w a G _ hops _ => ⟨_, ?_, rfl⟩
    have k1 := hops x (by simp [ho, Op.operands, Call.operands])
    rw [e] at k1
    simp only [rep] at k1
    simp [execOp, ho, resolve, invoke, builtin, Builtin.len_, k1, Sem.run, pure, underlying, program, ht, goInt]
  · exact h.elim

theorem s_sidx {t : TypeId} {x i : Operand} (ht : P.underlying t = some .string) (ho : o.op = .index t x i) (h : step P seq (.sidx x i) env H K) : Sound P o env H K := by
  simp only [step, evK_eq] at h
  split at h
  · rename_i s k z e1 e2
    obtain ⟨h0, b, hb, h⟩ := h
    refine sound_value h fun J F w a G _ hops _ => ⟨_, ?_, rfl⟩
    have k1 := hops x (by simp [ho, Op.operands])
    have k2 := hops i (by simp [ho, Op.operands])
    rw [e1] at k1; rw [e2] at k2
    simp only [rep] at k1 k2
    simp [execOp, ho, Instr.index, asIntOf, k1, k2, Sem.run, pure, underlying, program, ht, h0, hb]
  · exact h.elim
end
end

/-! ### XDs2 -/
section
open Go.RowKit
set_option linter.unusedSimpArgs false
set_option linter.unusedVariables false

theorem add_at (b o n : Nat) : (⟨b, o, none⟩ : Addr).add n = ⟨b, o + n, none⟩ := by
  unfold Addr.add
  split
  · rename_i h; subst h; rfl
  · rfl

section
variable {J : Inj} {F : Nat → Prop} {w : World}

theorem repCells_part {b : Nat} {cs : List D} {o : Nat} (h : repCells J F w b cs o) (off n : Nat) : repCells J F w b ((cs.drop off).take n) (o + off) := by
  refine repCells_mk _ _ fun j c hc => ?_
  have h1 : cs[off + j]? = some c := by
    rw [List.getElem?_take] at hc
    split at hc
    · rwa [List.getElem?_drop] at hc
    · cases hc
  have := repCells_get cs o (off + j) c h1 h
  rwa [show o + (off + j) = o + off + j by omega] at this
theorem repCells_drop {b : Nat} {cs : List D} {o : Nat} (h : repCells J F w b cs o) (off : Nat) : repCells J F w b (cs.drop off) (o + off) := by
  have := repCells_part h off (cs.drop off).length
  rwa [List.take_length] at this

/-- The values in a row's cells. -/
theorem repCells_vals {b : Nat} : ∀ (cs : List D) (o : Nat), repCells J F w b cs o → ∃ vs : List Value, repL J F w cs vs ∧ (∀ j v, vs[j]? = some v → w.cell? ⟨b, o + j, none⟩ = some v) ∧ ∀ v ∈ vs, oneCell v = true
  | [], o, _ => ⟨[], by simp only [repL], (fun j v h => by simp at h), (fun v h => by cases h)⟩
  | c :: r, o, h => by
    simp only [repCells] at h
    obtain ⟨⟨u, h1, h0, h2⟩, h3⟩ := h
    obtain ⟨vs, k1, k2, k3⟩ := repCells_vals r (o + 1) h3
    refine ⟨u :: vs, by simp only [repL]; exact ⟨u, vs, rfl, h2, k1⟩, fun j v hv => ?_, fun v hv => (List.mem_cons.1 hv).elim (fun e => e ▸ h0) (k3 v)⟩
    cases j with
    | zero => simp at hv; subst hv; exact h1
    | succ j =>
      have := k2 j v (by simpa using hv)
      rwa [show o + 1 + j = o + (j + 1) by omega] at this

variable {P : Program}
theorem run_isAgg {t : TypeId} {b : Bool} (h : aggT P t = some b) : (isAgg t).run P w = .ok b w := by
  unfold aggT at h
  cases e : P.underlying t with
  | none => rw [e] at h; cases h
  | some d =>
    rw [e] at h
    cases d <;> simp at h <;> subst h <;> simp [isAgg, underlying, program, Sem.run, e, pure]
theorem info_of_agg {t : TypeId} {b : Bool} (h : aggT P t = some b) : ∃ i, P.info? t = some i ∧ i.size = P.cellsOf t := by
  unfold aggT Program.underlying at h
  cases e : P.info? t with
  | none => rw [e] at h; cases h
  | some i => exact ⟨i, rfl, by simp [Program.cellsOf, e]⟩
theorem run_sizeOf' {t : TypeId} {i : TypeInfo} (h : P.info? t = some i) : (sizeOf t).run P w = .ok i.size w := by
  simp [sizeOf, typeInfo, program, Sem.run, h, pure]

theorem run_load_one {t : TypeId} (h : aggT P t = some false) {a : Addr} {u : Value} (hc : w.cell? a = some u) : (Instr.loadAt t (.pointer (some a))).run P w = .ok u w := by
  simp [Instr.loadAt, Instr.sureAddr, loadVar, run_isAgg h, load, Sem.run, hc, pure]
theorem run_load_agg {t : TypeId} (h : aggT P t = some true) {b o : Nat} {vs : List Value} (hn : vs.length = P.cellsOf t) (hc : ∀ (j : Nat) (v : Value), vs[j]? = some v → w.cell? ⟨b, o + j, none⟩ = some v) :
    (Instr.loadAt t (.pointer (some ⟨b, o, none⟩))).run P w = .ok (.agg vs.toArray) w := by
  obtain ⟨i, h1, h2⟩ := info_of_agg h
  have h3 := run_loadCells_list (P := P) (w := w) ⟨b, o, none⟩ vs fun j v hv => by rw [add_at]; exact hc j v hv
  simp [Instr.loadAt, Instr.sureAddr, loadVar, run_isAgg h, run_sizeOf' h1, h2, ← hn, Sem.run, pure, h3]

theorem rowOK {G : Nat → Option AObj} (h : StOK J F w G) {id : Nat} {s : Site} {b : Nat} {m : Bool} {cs : List D} (h1 : J id = some s) (h2 : s.ad = some ⟨b, 0, none⟩) (h3 : G id = some (.row m cs)) : repCells J F w b cs 0 := by
  obtain ⟨o, k1, k2⟩ := h.obj id s h1
  rw [h3] at k1
  cases k1
  obtain ⟨_, _, _, _, _, b', _, _, e, _, _, k, _⟩ := k2
  rw [h2] at e
  cases e
  exact k
theorem vecOK {G : Nat → Option AObj} (h : StOK J F w G) {id : Nat} {s : Site} {m : Bool} {ver esz : Nat} {xs : List (List D)} (h1 : J id = some s) (h3 : G id = some (.vec m ver esz xs)) :
    s.row = false ∧ s.ver = ver ∧ s.esz = esz ∧ s.len = xs.length ∧ s.len ≤ s.cap ∧ (s.cap = 0 ∨ ∃ b o vals te, s.ad = some ⟨b, o, none⟩ ∧ w.heap[b]? = some (.cells vals te (0, 0)) ∧ o + s.cap * esz ≤ vals.size ∧ repRows J F w b esz xs o ∧ (m = false → F b)) := by
  obtain ⟨o, k1, k2⟩ := h.obj id s h1
  rw [h3] at k1
  cases k1
  exact k2
end

section
variable {P : Program} {seq : Bool} {o : Oper} {env : Env} {H : List AObj} {K : Cont}

/-- An address reads as these cells. -/
def PointsAt (P : Program) (env : Env) (H : List AObj) (d : D) (rd : List Nat) (cs : List D) : Prop :=
  ∀ (J : Inj) (F : Nat → Prop) (w : World) (G : Nat → Option AObj) (v : Value), StOK J F w G → (∀ id ∈ rd, G id = H[id]?) → rep J F w d v → ∃ b o, v = .pointer (some ⟨b, o, none⟩) ∧ repCells J F w b cs o

theorem points_loc {id off : Nat} {m : Bool} {cs : List D} (h : H[id]? = some (.row m cs)) : PointsAt P env H (.loc id off) [id] (cs.drop off) := fun J F w G v hok hrd hv => by
  simp only [rep] at hv
  obtain ⟨s, b, h1, h2, h3, rfl⟩ := hv
  have := repCells_drop (rowOK hok h1 h3 (by rw [hrd id (by simp)]; exact h)) off
  exact ⟨b, off, rfl, by simpa using this⟩
theorem points_ipt {cs : List D} : PointsAt P env H (.ipt cs) [] cs := fun J F w G v hok hrd hv => by
  simp only [rep] at hv
  obtain ⟨b, o, rfl, _, h⟩ := hv
  exact ⟨b, o, rfl, h⟩
theorem points_elt {id ver i off : Nat} {m : Bool} {esz : Nat} {xs : List (List D)} {row : List D} (h : H[id]? = some (.vec m ver esz xs)) (hr : xs[i]? = some row) : PointsAt P env H (.elt id ver i off) [id] (row.drop off) := fun J F w G v hok hrd hv => by
  simp only [rep] at hv
  obtain ⟨s, a, h1, rfl, h2, h3⟩ := hv
  have hG : G id = some (.vec m ver esz xs) := by rw [hrd id (by simp)]; exact h
  obtain ⟨k1, k2, k3, k4, k5, k6⟩ := vecOK hok h1 hG
  obtain ⟨b, o, q1, q2, q3, rfl⟩ := h3 k2.symm
  rcases k6 with k6 | ⟨b', o', vals, te, e, _, _, k, _⟩
  · omega
  · rw [q2] at e
    cases e
    obtain ⟨r1, r2⟩ := repRows_get xs o i row hr k
    have := repCells_drop r2 off
    rw [k3]
    exact ⟨b, _, rfl, this⟩

theorem s_load_of {t : TypeId} {x : Operand} {rd : List Nat} {cs : List D} {c : D} (ht : aggT P t = some false) (ho : o.op = .load t x) (hp : PointsAt P env H (evalD env x) rd cs) (hc : cs[0]? = some c) (hK : K c H rd []) : Sound P o env H K := by
  refine sound_value hK fun J F w a G hok hops hrd => ?_
  obtain ⟨b, o', e, k⟩ := hp J F w G _ hok hrd (hops x (by simp [ho, Op.operands]))
  obtain ⟨u, k1, k2⟩ := repCells_get cs o' 0 c hc k
  rw [Nat.add_zero] at k1
  refine ⟨u, ?_, k2.2⟩
  simp [execOp, ho, e, run_load_one ht k1, Sem.run, pure]

theorem s_loadA_of {t : TypeId} {x : Operand} {rd : List Nat} {cs : List D} (ht : aggT P t = some true) (ho : o.op = .load t x) (hp : PointsAt P env H (evalD env x) rd cs) (hn : P.cellsOf t ≤ cs.length) (hK : K (.agg (cs.take (P.cellsOf t))) H rd []) : Sound P o env H K := by
  refine sound_value hK fun J F w a G hok hops hrd => ?_
  obtain ⟨b, o', e, k⟩ := hp J F w G _ hok hrd (hops x (by simp [ho, Op.operands]))
  have k1 := repCells_part k 0 (P.cellsOf t)
  simp only [List.drop_zero, Nat.add_zero] at k1
  obtain ⟨vs, k2, k3, _⟩ := repCells_vals _ _ k1
  have hl : vs.length = P.cellsOf t := by rw [repL_len _ _ k2, List.length_take]; omega
  refine ⟨.agg vs.toArray, ?_, by simp only [rep]; exact ⟨vs, rfl, k2⟩⟩
  simp [execOp, ho, e, run_load_agg ht hl k3, Sem.run, pure]

theorem s_load1 {t : TypeId} {x : Operand} (ht : aggT P t = some false) (ho : o.op = .load t x) (h : step P seq (.load1 x) env H K) : Sound P o env H K := by
  simp only [step, evK_eq] at h
  split at h
  · rename_i id off e
    obtain ⟨ob, h1, h2⟩ := (hgetK_iff _ _ _).1 h
    split at h2
    · rename_i m cs
      obtain ⟨c, h3, h4⟩ := (atK_iff _ _ _).1 h2
      exact s_load_of ht ho (e ▸ points_loc h1) (by rw [List.getElem?_drop]; exact h3) h4
    · exact h2.elim
  · rename_i cs e
    obtain ⟨c, h3, h4⟩ := (atK_iff _ _ _).1 h
    exact s_load_of ht ho (e ▸ points_ipt) h3 h4
  · rename_i id ver i off e
    obtain ⟨ob, h1, h2⟩ := (hgetK_iff _ _ _).1 h
    split at h2
    · rename_i m ver' esz xs
      obtain ⟨rfl, row, h3, h4⟩ := h2
      obtain ⟨c, h5, h6⟩ := (atK_iff _ _ _).1 h4
      exact s_load_of ht ho (e ▸ points_elt h1 h3) (by rw [List.getElem?_drop]; exact h5) h6
    · exact h2.elim
  · exact h.elim

theorem s_loadA {t : TypeId} {x : Operand} (ht : aggT P t = some true) (ho : o.op = .load t x) (h : step P seq (.loadA (P.cellsOf t) x) env H K) : Sound P o env H K := by
  simp only [step, evK_eq] at h
  split at h
  · rename_i id off e
    obtain ⟨ob, h1, h2⟩ := (hgetK_iff _ _ _).1 h
    split at h2
    · rename_i m cs
      obtain ⟨_, h3⟩ := (dropK_iff _ _ _).1 h2
      obtain ⟨h4, h5⟩ := (takeK_iff _ _ _).1 h3
      exact s_loadA_of ht ho (e ▸ points_loc h1) h4 h5
    · exact h2.elim
  · rename_i cs e
    obtain ⟨h4, h5⟩ := (takeK_iff _ _ _).1 h
    exact s_loadA_of ht ho (e ▸ points_ipt) h4 h5
  · rename_i id ver i off e
    obtain ⟨ob, h1, h2⟩ := (hgetK_iff _ _ _).1 h
    split at h2
    · rename_i m ver' esz xs
      obtain ⟨rfl, row, h3, h4⟩ := h2
      obtain ⟨_, h5⟩ := (dropK_iff _ _ _).1 h4
      obtain ⟨h6, h7⟩ := (takeK_iff _ _ _).1 h5
      exact s_loadA_of ht ho (e ▸ points_elt h1 h3) h6 h7
    · exact h2.elim
  · exact h.elim

/-- An address moved by some cells, inside what it points at. -/
def shiftK (d : D) (off : Nat) (K' : D → Prop) : Prop := match d with
  | .loc id o => K' (.loc id (o + off))
  | .elt id ver i o => K' (.elt id ver i (o + off))
  | .ipt cs => dropK cs off fun r => K' (.ipt r)
  | _ => False
theorem s_shift {d : D} {off : Nat} {K' : D → Prop} (h : shiftK d off K') : ∃ d', K' d' ∧ ∀ (J : Inj) (F : Nat → Prop) (w : World) (v : Value), rep J F w d v → ∃ a, v = .pointer (some a) ∧ rep J F w d' (.pointer (some (a.add off))) := by
  unfold shiftK at h
  split at h
  · refine ⟨_, h, fun J F w v hv => ?_⟩
    simp only [rep] at hv ⊢
    obtain ⟨s, b, h1, h2, h3, rfl⟩ := hv
    exact ⟨_, rfl, s, b, h1, h2, h3, by rw [add_at]⟩
  · refine ⟨_, h, fun J F w v hv => ?_⟩
    simp only [rep] at hv ⊢
    obtain ⟨s, a, h1, rfl, h2, h3⟩ := hv
    refine ⟨_, rfl, s, _, h1, rfl, h2, fun q => ?_⟩
    obtain ⟨b, o, q1, q2, q3, rfl⟩ := h3 q
    exact ⟨b, o, q1, q2, q3, by rw [add_at, Nat.add_assoc]⟩
  · rename_i cs
    obtain ⟨_, h2⟩ := (dropK_iff _ _ _).1 h
    refine ⟨_, h2, fun J F w v hv => ?_⟩
    simp only [rep] at hv ⊢
    obtain ⟨b, o, rfl, hF, k⟩ := hv
    exact ⟨_, rfl, b, _, by rw [add_at], hF, repCells_drop k off⟩
  · exact h.elim

theorem s_faddr {s : TypeId} {x : Operand} {f : Nat} {fs : Array Field} {fd : Field} (hs : P.underlying s = some (.struct fs)) (hf : fs[f]? = some fd) (hz : P.cellsOf fd.type ≠ 0) (ho : o.op = .fieldAddr s x f) (h : step P seq (.faddr fd.offset x) env H K) : Sound P o env H K := by
  simp only [step, evK_eq] at h
  have h' : shiftK (evalD env x) fd.offset (fun d => K d H [] []) := by
    unfold shiftK; split at h <;> simp_all
  obtain ⟨d', hK, hr⟩ := s_shift h'
  refine sound_value hK fun J F w a G hok hops hrd => ?_
  obtain ⟨ad, e, k⟩ := hr J F w _ (hops x (by simp [ho, Op.operands]))
  have hi : ∃ i, P.info? fd.type = some i ∧ i.size ≠ 0 := by
    unfold Program.cellsOf at hz
    cases e : P.info? fd.type with
    | none => simp [e] at hz
    | some i => exact ⟨i, rfl, by simpa [e] using hz⟩
  obtain ⟨i, hi1, hi2⟩ := hi
  refine ⟨_, ?_, k⟩
  simp [execOp, ho, e, Instr.fieldAt, Instr.sureAddr, fieldPlace, run_sizeOf' hi1, hi2, underlying, program, Sem.run, hs, hf, pure]

theorem info_of_cells {e : TypeId} (hz : P.cellsOf e ≠ 0) : ∃ i, P.info? e = some i ∧ i.size = P.cellsOf e := by
  unfold Program.cellsOf at hz ⊢
  cases e : P.info? e with
  | none => simp [e] at hz
  | some i => exact ⟨i, rfl, by simp [e]⟩

theorem s_iaddr {t e : TypeId} {x i : Operand} (ht : P.underlying t = some (.slice e)) (hz : P.cellsOf e ≠ 0) (ho : o.op = .indexAddr t x i) (h : step P seq (.iaddr (P.cellsOf e) x i) env H K) : Sound P o env H K := by
  simp only [step, evK_eq] at h
  obtain ⟨ei, hi1, hi2⟩ := info_of_cells hz
  have run : ∀ (w : World) (a : Act) (k : IntKind) (z : Int) (ad : Addr) (n c : Nat), a.eval x = .slice (some ad) n c → a.eval i = .int k z → 0 ≤ z → z < n → (execOp a.eval o).run P w = .ok (.value (.pointer (some (ad.add (z.toNat * P.cellsOf e))))) w := by
    intro w a k z ad n c h1 h2 h3 h4
    simp [execOp, ho, h1, h2, Instr.indexAt, asIntOf, underlying, program, Sem.run, ht, pure, h3, h4, run_sizeOf' hi1, hi2]
  clear hi1 hi2
  generalize hE : P.cellsOf e = ez0 at h run hz
  split at h
  · rename_i k z ez
    split at h
    · rename_i esz' xs ex
      obtain ⟨h3, h0, row, h1, h2⟩ := (sameK_iff _ _ _).1 h
      refine sound_value h2 fun J F w a G hok hops hrd => ?_
      have k1 := hops x (by simp [ho, Op.operands])
      have k2 := hops i (by simp [ho, Op.operands])
      rw [ex] at k1; rw [ez] at k2
      simp only [rep] at k1 k2
      obtain ⟨A, n, c, q1, q2, _, q3⟩ := k1
      have hlt : z.toNat < xs.length := by
        rcases Nat.lt_or_ge z.toNat xs.length with h | h
        · exact h
        · rw [List.getElem?_eq_none h] at h1; cases h1
      rcases q3 with q3 | ⟨b, o', q4, q5, q6⟩
      · omega
      · subst q4
        obtain ⟨r1, r2⟩ := repRows_get xs o' z.toNat row h1 q6
        refine ⟨_, run w a k z _ n c q1 k2 h0 (by omega), ?_⟩
        simp only [rep]
        exact ⟨b, _, by rw [add_at, h3], q5, r2⟩
    · rename_i id ver lo hi ex
      obtain ⟨ob, h1, h2⟩ := (hgetK_iff _ _ _).1 h
      split at h2
      · rename_i m ver' esz xs
        obtain ⟨rfl, h2⟩ := h2
        obtain ⟨h3, h4, h5, h6⟩ := (sameK_iff _ _ _).1 h2
        refine sound_value h6 fun J F w a G hok hops hrd => ?_
        have k1 := hops x (by simp [ho, Op.operands])
        have k2 := hops i (by simp [ho, Op.operands])
        rw [ex] at k1; rw [ez] at k2
        simp only [rep] at k1 k2
        obtain ⟨s, A, n, c, q1, q2, q3, q4⟩ := k1
        have hG : G id = some (.vec m ver esz xs) := by rw [hrd id (by simp)]; exact h1
        obtain ⟨p1, p2, p3, p4, p5, -⟩ := vecOK hok q1 hG
        obtain ⟨t1, t2, t3, t4, t5, t6⟩ := q4 p2.symm
        rcases t6 with t6 | ⟨b, o', t6, t7⟩
        · omega
        · subst t7
          refine ⟨_, run w a k z _ n c q2 k2 h4 (by omega), ?_⟩
          simp only [rep]
          refine ⟨s, _, q1, rfl, q3, fun _ => ⟨b, o', t1, t6, by omega, ?_⟩⟩
          rw [add_at, p3, ← h3, Nat.add_mul]
          simp only [Addr.mk.injEq, and_true, true_and]
          omega
      · exact h2.elim
    · exact h.elim
  · exact h.elim

theorem s_aaddr {t e : TypeId} {n : Nat} {x i : Operand} (ht : P.underlying t = some (.array n e)) (hz : P.cellsOf e ≠ 0) (ho : o.op = .indexAddr t x i) (h : step P seq (.aaddr n (P.cellsOf e) x i) env H K) : Sound P o env H K := by
  simp only [step, evK_eq] at h
  obtain ⟨ei, hi1, hi2⟩ := info_of_cells hz
  split at h
  · rename_i k z ez
    obtain ⟨h0, h1, h⟩ := h
    have h' : shiftK (evalD env x) (z.toNat * P.cellsOf e) (fun d => K d H [] []) := by
      unfold shiftK; split at h <;> simp_all
    obtain ⟨d', hK, hr⟩ := s_shift h'
    refine sound_value hK fun J F w a G hok hops hrd => ?_
    obtain ⟨ad, e1, k1⟩ := hr J F w _ (hops x (by simp [ho, Op.operands]))
    have k2 := hops i (by simp [ho, Op.operands])
    rw [ez] at k2
    simp only [rep] at k2
    refine ⟨_, ?_, k1⟩
    simp [execOp, ho, e1, k2, Instr.indexAt, Instr.sureAddr, asIntOf, underlying, program, Sem.run, ht, pure, h0, h1, run_sizeOf' hi1, hi2]
  · exact h.elim

theorem s_len {args : Array Operand} {ts : Array TypeId} {x : Operand} {t e : TypeId} (ha : args.toList = [x]) (hts : ts.toList = [t]) (ht : P.underlying t = some (.slice e)) (ho : o.op = .call { callee := .builtin .len, args, argTypes := ts }) (h : step P seq (.len x) env H K) : Sound P o env H K := by
  have ea : args = #[x] := Array.ext' (by simpa using ha)
  have et : ts = #[t] := Array.ext' (by simpa using hts)
  subst ea et
  have run : ∀ (w : World) (a : Act) (A : Option Addr) (n c : Nat), a.eval x = .slice A n c → (execOp a.eval o).run P w = .ok (.value (.int .i64 n)) w := by
    intro w a A n c h1
    simp [execOp, ho, resolve, invoke, builtin, Builtin.len_, h1, Sem.run, pure, underlying, program, ht, goInt]
  simp only [step, evK_eq] at h
  split at h
  · rename_i esz xs e1
    refine sound_value h fun J F w a G hok hops hrd => ?_
    have k1 := hops x (by simp [ho, Op.operands, Call.operands])
    rw [e1] at k1
    simp only [rep] at k1
    obtain ⟨A, n, c, q1, rfl, _⟩ := k1
    exact ⟨_, run w a A _ c q1, rfl⟩
  · rename_i id ver lo hi e1
    obtain ⟨ob, h1, h2⟩ := (hgetK_iff _ _ _).1 h
    split at h2
    · rename_i m ver' esz xs
      obtain ⟨rfl, h2⟩ := h2
      refine sound_value h2 fun J F w a G hok hops hrd => ?_
      have k1 := hops x (by simp [ho, Op.operands, Call.operands])
      rw [e1] at k1
      simp only [rep] at k1
      obtain ⟨s, A, n, c, q1, q2, q3, q4⟩ := k1
      have hG : G id = some (.vec m ver esz xs) := by rw [hrd id (by simp)]; exact h1
      obtain ⟨p1, p2, _⟩ := vecOK hok q1 hG
      obtain ⟨_, _, _, rfl, _⟩ := q4 p2.symm
      exact ⟨_, run w a A _ c q2, rfl⟩
    · exact h2.elim
  · rename_i e1
    refine sound_value h fun J F w a G hok hops hrd => ?_
    have k1 := hops x (by simp [ho, Op.operands, Call.operands])
    rw [e1] at k1
    simp only [rep] at k1
    exact ⟨_, run w a _ 0 0 k1, rfl⟩
  · exact h.elim

/-- What a bound of a slice expression is. -/
theorem bndK_run {env : Env} {x : Option Operand} {dflt : Nat} {K' : Nat → Prop} (h : bndK env x dflt K') : ∃ n, K' n ∧
    ∀ (J : Inj) (F : Nat → Prop) (w : World) (a : Act), (∀ y ∈ x.toList, rep J F w (evalD env y) (a.eval y)) → (x = none ∧ n = dflt) ∨ ∃ y k, x = some y ∧ a.eval y = .int k n := by
  unfold bndK at h
  cases x with
  | none => exact ⟨dflt, h, fun J F w a _ => .inl ⟨rfl, rfl⟩⟩
  | some y =>
    simp only [evK_eq] at h
    split at h
    · rename_i k i e
      refine ⟨i.toNat, h.2, fun J F w a hy => .inr ⟨y, k, rfl, ?_⟩⟩
      have := hy y (by simp)
      rw [e] at this
      simp only [rep] at this
      rw [this, Int.toNat_of_nonneg h.1]
    · exact h.elim

theorem run_slice_lo_hi {t e : TypeId} {i : TypeInfo} (ht : P.underlying t = some (.slice e)) (hi : P.info? e = some i) (A : Option Addr) (len cap l h : Nat) (lo hi' : Option Value) (w : World)
    (h1 : (lo = none ∧ l = 0) ∨ ∃ k, lo = some (.int k l)) (h2 : (hi' = none ∧ h = len) ∨ ∃ k, hi' = some (.int k h)) (hlh : l ≤ h) (hc : h ≤ cap) :
    (Instr.sliceAt t (.slice A len cap) lo hi' none).run P w = .ok (.slice (if cap = l then A else A.map (·.add (l * i.size))) (h - l) (cap - l)) w := by
  have hb : (Instr.sliceBounds true len cap lo hi' none).run P w = .ok (l, h, cap) w := by
    rcases h1 with ⟨rfl, rfl⟩ | ⟨k, rfl⟩ <;> rcases h2 with ⟨rfl, rfl⟩ | ⟨k', rfl⟩ <;>
      simp [Instr.sliceBounds, Instr.sliceBound, asIntOf, pure, Sem.run, hlh, hc]
  simp [Instr.sliceAt, Instr.slice, underlying, program, Sem.run, ht, pure, hb, run_sizeOf' hi]

theorem repRows_part {J : Inj} {F : Nat → Prop} {w : World} {b esz o : Nat} {xs : List (List D)} (h : repRows J F w b esz xs o) (l n : Nat) : repRows J F w b esz ((xs.take n).drop l) (o + l * esz) := by
  refine repRows_mk _ _ fun j x hx => ?_
  have h1 : xs[l + j]? = some x := by
    rw [List.getElem?_drop, List.getElem?_take] at hx
    split at hx
    · exact hx
    · cases hx
  have := repRows_get xs o (l + j) x h1 h
  rwa [Nat.add_mul, ← Nat.add_assoc] at this

theorem s_slc {t e : TypeId} {x : Operand} {lo hi mx : Option Operand} (ht : P.underlying t = some (.slice e)) (hz : 0 < P.cellsOf e) (ho : o.op = .slice t x lo hi mx) (h : step P seq (.slc (P.cellsOf e) x lo hi mx) env H K) : Sound P o env H K := by
  simp only [step, evK_eq] at h
  obtain ⟨ei, hi1, hi2⟩ := info_of_cells (e := e) (P := P) (by omega)
  split at h
  · rename_i esz' xs e1
    obtain ⟨h3, h⟩ := (sameK_iff _ _ _).1 h
    obtain ⟨n, h, hn⟩ := bndK_run h
    obtain ⟨l, ⟨h4, h5, h6⟩, hl⟩ := bndK_run h
    refine sound_value h6 fun J F w a G hok hops hrd => ?_
    have k1 := hops x (by simp [ho, Op.operands])
    rw [e1] at k1
    simp only [rep] at k1
    obtain ⟨A, len, c, q1, q2, qc, q3⟩ := k1
    have hn' := hn J F w a fun y hy => hops y (by simp [ho, Op.operands]; exact .inr (.inr (by simpa using hy)))
    have hl' := hl J F w a fun y hy => hops y (by simp [ho, Op.operands]; exact .inr (.inl (by simpa using hy)))
    refine ⟨.slice (if c = l then A else A.map (·.add (l * ei.size))) (n - l) (c - l), ?_, ?_⟩
    · have := run_slice_lo_hi (P := P) ht hi1 A len c l n (lo.map a.eval) (hi.map a.eval) w
        (by rcases hl' with ⟨rfl, rfl⟩ | ⟨y, k, rfl, q⟩
            · exact .inl ⟨rfl, rfl⟩
            · exact .inr ⟨k, by simp [q]⟩)
        (by rcases hn' with ⟨rfl, rfl⟩ | ⟨y, k, rfl, q⟩
            · exact .inl ⟨rfl, q2.symm⟩
            · exact .inr ⟨k, by simp [q]⟩) h4 (by omega)
      simp [execOp, ho, q1, this, Sem.run, pure]
    · simp only [rep]
      refine ⟨_, _, _, rfl, by simp [List.length_drop, List.length_take]; omega, by omega, ?_⟩
      rcases q3 with q3 | ⟨b, o', rfl, q5, q6⟩
      · exact .inl (by omega)
      · by_cases hcl : c = l
        · exact .inl (by omega)
        · rw [if_neg hcl]
          exact .inr ⟨b, _, by simp only [Option.map_some, add_at, hi2, h3], q5, repRows_part q6 l n⟩
  · rename_i esz' xs m e1
    split at h
    · exact h.elim
    rename_i hi'
    obtain ⟨h3, h⟩ := (sameK_iff _ _ _).1 h
    obtain ⟨n, h, hn⟩ := bndK_run h
    obtain ⟨l, h, hl⟩ := bndK_run h
    obtain ⟨mm, ⟨h4, h5, h6, h7⟩, hm⟩ := bndK_run h
    refine sound_value h7 fun J F w a G hok hops hrd => ?_
    have k1 := hops x (by simp [ho, Op.operands])
    rw [e1] at k1
    simp only [rep] at k1
    obtain ⟨A, len, c, q1, q2, qc, q3⟩ := k1
    have hn' := hn J F w a fun y hy => hops y (by simp [ho, Op.operands] at hy ⊢; simp [hy])
    have hl' := hl J F w a fun y hy => hops y (by simp [ho, Op.operands] at hy ⊢; simp [hy])
    have hm' := hm J F w a fun y hy => hops y (by simp [ho, Op.operands] at hy ⊢; simp [hy])
    rcases hn' with ⟨q, _⟩ | ⟨y1, kh, q, hv⟩
    · cases q
    cases q
    rcases hm' with ⟨q, _⟩ | ⟨y2, km, q, mv⟩
    · cases q
    cases q
    refine ⟨.slice (if mm = l then A else A.map (·.add (l * ei.size))) (n - l) (mm - l), ?_, ?_⟩
    · have hb : (Instr.sliceBounds true len c (lo.map a.eval) (some (.int kh n)) (some (.int km mm))).run P w = .ok (l, n, mm) w := by
        have hmc : mm ≤ c := by omega
        rcases hl' with ⟨rfl, rfl⟩ | ⟨y, k, rfl, q⟩
        · simp [Instr.sliceBounds, Instr.sliceBound, asIntOf, pure, Sem.run, h5, hmc]
        · simp [Instr.sliceBounds, Instr.sliceBound, asIntOf, pure, Sem.run, h4, h5, hmc, q]
      simp [execOp, ho, q1, hv, mv, Instr.sliceAt, Instr.slice, underlying, program, Sem.run, ht, pure, hb, run_sizeOf' hi1]
    · simp only [rep]
      refine ⟨_, _, _, rfl, by simp [List.length_drop, List.length_take]; omega, by omega, ?_⟩
      rcases q3 with q3 | ⟨b, o', rfl, q5, q6⟩
      · exact .inl (by omega)
      · by_cases hcl : mm = l
        · exact .inl (by omega)
        · rw [if_neg hcl]
          exact .inr ⟨b, _, by simp only [Option.map_some, add_at, hi2, h3], q5, repRows_part q6 l n⟩
  · rename_i id ver p q e1
    obtain ⟨ob, h1, h2⟩ := (hgetK_iff _ _ _).1 h
    split at h2
    · rename_i m ver' esz xs
      obtain ⟨rfl, h2⟩ := h2
      obtain ⟨h3, h⟩ := (sameK_iff _ _ _).1 h2
      obtain ⟨n, h, hn⟩ := bndK_run h
      obtain ⟨l, ⟨h4, h5, h6⟩, hl⟩ := bndK_run h
      refine sound_value h6 fun J F w a G hok hops hrd => ?_
      have k1 := hops x (by simp [ho, Op.operands])
      rw [e1] at k1
      simp only [rep] at k1
      obtain ⟨s, A, len, c, q1, q2, q3, q4⟩ := k1
      have hG : G id = some (.vec m ver esz xs) := by rw [hrd id (by simp)]; exact h1
      obtain ⟨p1, p2, p3, p4, p5, -⟩ := vecOK hok q1 hG
      obtain ⟨t1, t2, t3, t4, t5, t6⟩ := q4 p2.symm
      have T6 := Lib.hid t6
      clear t6
      have hn' := hn J F w a fun y hy => hops y (by simp [ho, Op.operands]; exact .inr (.inr (by simpa using hy)))
      have hl' := hl J F w a fun y hy => hops y (by simp [ho, Op.operands]; exact .inr (.inl (by simpa using hy)))
      refine ⟨.slice (if c = l then A else A.map (·.add (l * ei.size))) (n - l) (c - l), ?_, ?_⟩
      · have := run_slice_lo_hi (P := P) ht hi1 A len c l n (lo.map a.eval) (hi.map a.eval) w
          (by rcases hl' with ⟨rfl, rfl⟩ | ⟨y, k, rfl, q⟩
              · exact .inl ⟨rfl, rfl⟩
              · exact .inr ⟨k, by simp [q]⟩)
          (by rcases hn' with ⟨rfl, rfl⟩ | ⟨y, k, rfl, q⟩
              · exact .inl ⟨rfl, by omega⟩
              · exact .inr ⟨k, by simp [q]⟩) h4 (by omega)
        simp [execOp, ho, q2, this, Sem.run, pure]
      · simp only [rep]
        refine ⟨s, _, _, _, q1, rfl, q3, fun _ => ⟨t1, by omega, by omega, by omega, by omega, ?_⟩⟩
        by_cases hcl : c = l
        · exact .inl (by omega)
        · rcases T6.out with t6 | ⟨b, o', t6, rfl⟩
          · exact .inl (by omega)
          · rw [if_neg hcl]
            refine .inr ⟨b, o', t6, ?_⟩
            simp only [Option.map_some, add_at, hi2, h3, p3, Nat.add_mul, Nat.add_assoc]
    · exact h2.elim
  · exact h.elim

theorem s_sslc {t : TypeId} {x : Operand} {lo hi : Option Operand} (ht : P.underlying t = some .string) (ho : o.op = .slice t x lo hi none) (h : step P seq (.sslc x lo hi) env H K) : Sound P o env H K := by
  simp only [step, evK_eq] at h
  split at h
  · rename_i s e1
    obtain ⟨n, h, hn⟩ := bndK_run h
    obtain ⟨l, ⟨h4, h5, h6⟩, hl⟩ := bndK_run h
    refine sound_value h6 fun J F w a G hok hops hrd => ?_
    have k1 := hops x (by simp [ho, Op.operands])
    rw [e1] at k1
    simp only [rep] at k1
    have hn' := hn J F w a fun y hy => hops y (by simp [ho, Op.operands]; exact .inr (.inr (by simpa using hy)))
    have hl' := hl J F w a fun y hy => hops y (by simp [ho, Op.operands]; exact .inr (.inl (by simpa using hy)))
    refine ⟨.string (s.extract l n), ?_, by simp only [rep]⟩
    have hb : (Instr.sliceBounds false s.size s.size (lo.map a.eval) (hi.map a.eval) none).run P w = .ok (l, n, s.size) w := by
      rcases hl' with ⟨rfl, rfl⟩ | ⟨y, k, rfl, q⟩ <;> rcases hn' with ⟨rfl, rfl⟩ | ⟨y', k', rfl, q'⟩ <;>
        simp [Instr.sliceBounds, Instr.sliceBound, asIntOf, pure, Sem.run, *]
    simp [execOp, ho, k1, Instr.sliceAt, Instr.slice, underlying, program, Sem.run, ht, pure, hb]
  · exact h.elim

/-! ### Structs by value, nil -/

theorem repL_take {J : Inj} {F : Nat → Prop} {w : World} {ds : List D} {vs : List Value} (h : repL J F w ds vs) (n : Nat) : repL J F w (ds.take n) (vs.take n) := by
  have hl := repL_len _ _ h
  refine repL_mk _ _ (by simp [hl]) fun j d v hd hv => ?_
  rw [List.getElem?_take] at hd hv
  split at hd
  · rename_i hj
    rw [if_pos hj] at hv
    obtain ⟨v', h1, h2⟩ := repL_get _ _ _ _ hd h
    rw [hv] at h1; cases h1
    exact h2
  · cases hd
theorem repL_drop {J : Inj} {F : Nat → Prop} {w : World} {ds : List D} {vs : List Value} (h : repL J F w ds vs) (n : Nat) : repL J F w (ds.drop n) (vs.drop n) := by
  have hl := repL_len _ _ h
  refine repL_mk _ _ (by simp [hl]) fun j d v hd hv => ?_
  rw [List.getElem?_drop] at hd hv
  obtain ⟨v', h1, h2⟩ := repL_get _ _ _ _ hd h
  rw [hv] at h1; cases h1
  exact h2

theorem s_field {s : TypeId} {x : Operand} {f : Nat} {fs : Array Field} {fd : Field} {ag : Bool} (hs : P.underlying s = some (.struct fs)) (hf : fs[f]? = some fd) (hag : aggT P fd.type = some ag) (ho : o.op = .field s x f) (h : step P seq (.field fd.offset (P.cellsOf fd.type) ag x) env H K) : Sound P o env H K := by
  simp only [step, evK_eq] at h
  obtain ⟨i, hi1, hi2⟩ := info_of_agg hag
  split at h
  · rename_i cs e1
    cases ag with
    | true =>
      simp only at h
      obtain ⟨h1, h2⟩ := (dropK_iff _ _ _).1 h
      obtain ⟨h3, h4⟩ := (takeK_iff _ _ _).1 h2
      refine sound_value h4 fun J F w a G hok hops hrd => ?_
      have k1 := hops x (by simp [ho, Op.operands])
      rw [e1] at k1
      simp only [rep] at k1
      obtain ⟨vs, q1, q2⟩ := k1
      refine ⟨.agg ((vs.drop fd.offset).take (P.cellsOf fd.type)).toArray, ?_, by simp only [rep]; exact ⟨_, rfl, repL_take (repL_drop q2 _) _⟩⟩
      have e2 : vs.toArray.extract fd.offset (fd.offset + P.cellsOf fd.type) = ((vs.drop fd.offset).take (P.cellsOf fd.type)).toArray := by
        apply Array.ext'
        rw [List.extract_toArray]
        simp [List.extract_eq_take_drop]
      simp [execOp, ho, q1, Instr.field, asAgg, part, run_isAgg hag, run_sizeOf' hi1, hi2, underlying, program, Sem.run, hs, hf, pure, e2]
    | false =>
      simp only at h
      obtain ⟨c, h1, h2⟩ := (atK_iff _ _ _).1 h
      refine sound_value h2 fun J F w a G hok hops hrd => ?_
      have k1 := hops x (by simp [ho, Op.operands])
      rw [e1] at k1
      simp only [rep] at k1
      obtain ⟨vs, q1, q2⟩ := k1
      obtain ⟨v, q3, q4⟩ := repL_get _ _ _ _ h1 q2
      refine ⟨v, ?_, q4⟩
      simp [execOp, ho, q1, Instr.field, asAgg, part, run_isAgg hag, underlying, program, Sem.run, hs, hf, pure, q3]
  · exact h.elim

theorem s_aidx {t e : TypeId} {n : Nat} {x i : Operand} {ag : Bool} (ht : P.underlying t = some (.array n e)) (hag : aggT P e = some ag) (ho : o.op = .index t x i) (h : step P seq (.aidx n (P.cellsOf e) ag x i) env H K) : Sound P o env H K := by
  simp only [step, evK_eq] at h
  obtain ⟨ie, hi1, hi2⟩ := info_of_agg hag
  split at h
  · rename_i k z e2
    split at h
    · rename_i cs e1
      obtain ⟨h0, hz, h⟩ := h
      cases ag with
      | true =>
        simp only at h
        obtain ⟨h1, h2⟩ := (dropK_iff _ _ _).1 h
        obtain ⟨h3, h4⟩ := (takeK_iff _ _ _).1 h2
        refine sound_value h4 fun J F w a G hok hops hrd => ?_
        have k1 := hops x (by simp [ho, Op.operands])
        have k2 := hops i (by simp [ho, Op.operands])
        rw [e1] at k1
        rw [e2] at k2
        simp only [rep] at k1 k2
        obtain ⟨vs, q1, q2⟩ := k1
        refine ⟨.agg ((vs.drop (z.toNat * P.cellsOf e)).take (P.cellsOf e)).toArray, ?_, by simp only [rep]; exact ⟨_, rfl, repL_take (repL_drop q2 _) _⟩⟩
        have e3 : vs.toArray.extract (z.toNat * P.cellsOf e) (z.toNat * P.cellsOf e + P.cellsOf e) = ((vs.drop (z.toNat * P.cellsOf e)).take (P.cellsOf e)).toArray := by
          apply Array.ext'
          rw [List.extract_toArray]
          simp [List.extract_eq_take_drop]
        simp [execOp, ho, q1, k2, Instr.index, asIntOf, part, run_isAgg hag, run_sizeOf' hi1, hi2, underlying, program, Sem.run, ht, pure, e3, h0, hz]
      | false =>
        simp only at h
        obtain ⟨c, h1, h2⟩ := h
        refine sound_value h2 fun J F w a G hok hops hrd => ?_
        have k1 := hops x (by simp [ho, Op.operands])
        have k2 := hops i (by simp [ho, Op.operands])
        rw [e1] at k1
        rw [e2] at k2
        simp only [rep] at k1 k2
        obtain ⟨vs, q1, q2⟩ := k1
        obtain ⟨v, q3, q4⟩ := repL_get _ _ _ _ h1 q2
        refine ⟨v, ?_, q4⟩
        simp [execOp, ho, q1, k2, Instr.index, asIntOf, part, run_isAgg hag, run_sizeOf' hi1, hi2, underlying, program, Sem.run, ht, pure, q3, h0, hz]
    · exact h.elim
  · exact h.elim

theorem run_isnil_eq {t : TypeId} {x y : Operand} {u v : Value} {b : Bool} (hg : ∀ op w, (eqGuard op t x y u v).run P w = .ok () w) (hb : ∀ w, (Op.equal t u v).run P w = .ok b w)
    (h1 : ∀ k n, u ≠ .int k n) (h2 : ∀ s, u ≠ .string s) (h3 : ∀ k n, u ≠ .float k n) (h4 : ∀ k n m, u ≠ .complex k n m) (neq : Bool) (w : World) :
    ((do eqGuard (if neq then .neq else .eql) t x y u v; binOp (if neq then .neq else .eql) t u v : Sem Value)).run P w = .ok (.bool (if neq then !b else b)) w := by
  cases neq <;> cases u <;> simp_all [binOp, pure, Sem.run]
end
end

/-! ### XDs3 -/
section
open Go.RowKit
set_option linter.unusedSimpArgs false
set_option linter.unusedVariables false

theorem ObjOK_mono {J J' : Inj} {F F' : Nat → Prop} {w w' : World} (hJ : J.le J') (hF : ∀ b, F b → F' b) (hw : ∀ b, F b → w'.heap[b]? = w.heap[b]?) {s : Site} {o : AObj} (hb : ∀ b, s.blk = some b → w'.heap[b]? = w.heap[b]?) (h : ObjOK J F w s o) : ObjOK J' F' w' s o := by
  cases o with
  | row m cs =>
    obtain ⟨h1, h2, h3, h4, h5, b, vals, te, h6, h7, h8, h9, h10⟩ := h
    have hbb : w'.heap[b]? = w.heap[b]? := hb b (by simp [Site.blk, h1, h6])
    exact ⟨h1, h2, h3, h4, h5, b, vals, te, h6, by rw [hbb]; exact h7, h8, repCells_mono hJ hF hw b (cell_of_heap hbb) cs 0 h9, fun q => hF b (h10 q)⟩
  | vec m ver esz xs =>
    obtain ⟨h1, h2, h3, h4, h5, h6⟩ := h
    refine ⟨h1, h2, h3, h4, h5, ?_⟩
    by_cases hz : s.cap = 0
    · exact .inl hz
    · obtain ⟨b, o, vals, te, k1, k2, k3, k4, k5⟩ := h6.resolve_left hz
      refine .inr ?_
      have hbb : w'.heap[b]? = w.heap[b]? := hb b (by simp [Site.blk, hz, k1])
      exact ⟨b, o, vals, te, k1, by rw [hbb]; exact k2, k3, repRows_mono hJ hF hw b esz (cell_of_heap hbb) xs o k4, fun q => hF b (k5 q)⟩
  | mapo m I =>
    obtain ⟨h1, b, es, clock, h2, h3, h4⟩ := h
    have hbb : w'.heap[b]? = w.heap[b]? := hb b (by simp [Site.blk, h1, h2])
    exact ⟨h1, b, es, clock, h2, by rw [hbb]; exact h3, h4⟩

/-- One object is made, or turned, or moved: what was known of the others stays. -/
theorem StOK.update {J J' : Inj} {F : Nat → Prop} {w w' : World} {G G' : Nat → Option AObj} (h : StOK J F w G) (id : Nat) (s' : Site) (o' : AObj)
    (hJ' : ∀ i, J' i = if i = id then some s' else J i) (hG : ∀ i, G' i = if i = id then some o' else G i) (hle : J.le J')
    (hF : ∀ b, F b → w'.heap[b]? = w.heap[b]?) (hsz : w.heap.size ≤ w'.heap.size)
    (hold : ∀ i s b, i ≠ id → J i = some s → s.blk = some b → w'.heap[b]? = w.heap[b]?)
    (hblk : ∀ b, s'.blk = some b → w.heap.size ≤ b ∨ ∃ s, J id = some s ∧ s.blk = some b)
    (hlt : ∀ i s b, J i = some s → s.blk = some b → b < w.heap.size)
    (hmut : ∀ b, s'.blk = some b → o'.mut = true → ¬ F b)
    (hok : ObjOK J' F w' s' o') : StOK J' F w' G' where
  obj i s hi := by
    rw [hJ'] at hi
    by_cases e : i = id
    · subst e
      rw [if_pos rfl] at hi
      cases hi
      exact ⟨o', by rw [hG, if_pos rfl], hok⟩
    · rw [if_neg e] at hi
      obtain ⟨o, h1, h2⟩ := h.obj i s hi
      exact ⟨o, by rw [hG, if_neg e]; exact h1, ObjOK_mono hle (fun _ h => h) hF (fun b hb => hold i s b e hi hb) h2⟩
  one i i' s1 s2 b h1 h2 h3 h4 := by
    rw [hJ'] at h1 h2
    by_cases e : i = id <;> by_cases e' : i' = id
    · rw [e, e']
    · rw [if_pos e] at h1; rw [if_neg e'] at h2
      cases h1
      rcases hblk b h3 with q | ⟨s, q1, q2⟩
      · have := hlt i' s2 b h2 h4; omega
      · rw [e]; exact h.one id i' s s2 b q1 h2 q2 h4
    · rw [if_neg e] at h1; rw [if_pos e'] at h2
      cases h2
      rcases hblk b h4 with q | ⟨s, q1, q2⟩
      · have := hlt i s1 b h1 h3; omega
      · rw [e']; exact h.one i id s1 s b h1 q1 h3 q2
    · rw [if_neg e] at h1; rw [if_neg e'] at h2
      exact h.one i i' s1 s2 b h1 h2 h3 h4
  apart i s b o hi hb hg hm := by
    rw [hJ'] at hi; rw [hG] at hg
    by_cases e : i = id
    · rw [if_pos e] at hi hg
      cases hi; cases hg
      exact hmut b hb hm
    · rw [if_neg e] at hi hg
      exact h.apart i s b o hi hb hg hm
  lt := h.lt.mono (fun _ q => q) hF fun b hb => Nat.lt_of_lt_of_le (h.lt b hb) hsz

theorem StOK.blk_lt {J : Inj} {F : Nat → Prop} {w : World} {G : Nat → Option AObj} (h : StOK J F w G) {i : Nat} {s : Site} {b : Nat} (hi : J i = some s) (hb : s.blk = some b) : b < w.heap.size := by
  obtain ⟨o, h1, h2⟩ := h.obj i s hi
  have key : ∀ x : Nat, ∀ ob, w.heap[x]? = some ob → x < w.heap.size := fun x ob hx => by
    rcases Nat.lt_or_ge x w.heap.size with h | h
    · exact h
    · rw [Array.getElem?_eq_none h] at hx; cases hx
  cases o with
  | row m cs =>
    obtain ⟨k1, _, _, _, _, b', vals, te, k6, k7, _⟩ := h2
    simp [Site.blk, k1, k6] at hb
    exact hb ▸ key _ _ k7
  | vec m ver esz xs =>
    obtain ⟨k1, _, _, _, _, k6⟩ := h2
    rcases k6 with k6 | ⟨b', o, vals, te, q1, q2, _⟩
    · simp [Site.blk, k1, k6] at hb
    · unfold Site.blk at hb
      split at hb
      · cases hb
      · simp [q1] at hb
        exact hb ▸ key _ _ q2
  | mapo m I =>
    obtain ⟨k1, b', es, clock, q1, q2, _⟩ := h2
    simp [Site.blk, k1, q1] at hb
    exact hb ▸ key _ _ q2

theorem heap_push_lt (w : World) (o : Obj) {b : Nat} (h : b < w.heap.size) : (w.alloc o).heap[b]? = w.heap[b]? := heap_alloc_old w o h

/-- A new block of the call's own. -/
theorem StOK.allocO {J : Inj} {F : Nat → Prop} {w : World} {G : Nat → Option AObj} (h : StOK J F w G) (id : Nat) (hid : J id = none) (s' : Site) (o' : AObj) (ob : Obj) (had : s'.ad = some ⟨w.heap.size, 0, none⟩)
    (hok : ObjOK (fun i => if i = id then some s' else J i) F (w.alloc ob) s' o') :
    StOK (fun i => if i = id then some s' else J i) F (w.alloc ob) (fun i => if i = id then some o' else G i) ∧
      Ext J F w (fun i => if i = id then some s' else J i) F (w.alloc ob) := by
  have hle : J.le (fun i => if i = id then some s' else J i) := fun i s hi => by
    have e : i ≠ id := fun e => by rw [e, hid] at hi; cases hi
    exact ⟨s, by simp [e, hi], Nat.le_refl _, fun _ => rfl⟩
  have hbs : ∀ b, s'.blk = some b → b = w.heap.size := fun b hb => by
    unfold Site.blk at hb
    split at hb
    · cases hb
    · simpa [had] using hb.symm
  refine ⟨h.update id s' o' (fun _ => rfl) (fun _ => rfl) hle (fun b hb => heap_push_lt w _ (h.lt b hb)) (by simp) (fun i s b _ hi hb => heap_push_lt w _ (h.blk_lt hi hb)) (fun b hb => .inl (by rw [hbs b hb]; exact Nat.le_refl _)) (fun i s b hi hb => h.blk_lt hi hb) (fun b hb _ hF => ?_) hok, ?_⟩
  · have := h.lt b hF
    rw [hbs b hb] at this; omega
  · exact ⟨rfl, rfl, rfl, by simp, fun b hb _ => heap_push_lt w _ hb, fun b hb => heap_push_lt w _ (h.lt b hb), hle, fun _ h => h, fun b ⟨i, s, hi, hb⟩ => by
      dsimp only at hi
      by_cases e : i = id
      · rw [if_pos e] at hi; cases hi
        exact .inr (by rw [hbs b hb]; exact Nat.le_refl _)
      · rw [if_neg e] at hi
        exact .inl ⟨i, s, hi, hb⟩, fun b hb => .inl hb⟩
theorem StOK.alloc {J : Inj} {F : Nat → Prop} {w : World} {G : Nat → Option AObj} (h : StOK J F w G) (id : Nat) (hid : J id = none) (s' : Site) (o' : AObj) (vals : Array Value) (te : TypeId) (had : s'.ad = some ⟨w.heap.size, 0, none⟩)
    (hok : ObjOK (fun i => if i = id then some s' else J i) F (w.alloc (.cells vals te)) s' o') :
    StOK (fun i => if i = id then some s' else J i) F (w.alloc (.cells vals te)) (fun i => if i = id then some o' else G i) ∧
      Ext J F w (fun i => if i = id then some s' else J i) F (w.alloc (.cells vals te)) := h.allocO id hid s' o' _ had hok

section
variable {J : Inj} {F : Nat → Prop} {w : World}
/-- Cells of a new block. -/
theorem repCells_new {J' : Inj} {cs : List D} {vs : List Value} (te : TypeId) (hJ : J.le J') (hlt : ∀ b, F b → b < w.heap.size) (h1 : ∀ v ∈ vs, oneCell v = true) (h : repL J F w cs vs) :
    repCells J' F (w.alloc (.cells vs.toArray te)) w.heap.size cs 0 := by
  have h' : repL J' F (w.alloc (.cells vs.toArray te)) cs vs := repL_mono hJ (fun _ h => h) (fun b hb => heap_push_lt w _ (hlt b hb)) _ _ h
  refine repCells_mk _ _ fun j c hc => ?_
  obtain ⟨v, h3, h2⟩ := repL_get _ _ _ _ hc h'
  exact ⟨v, by simp [h3], h1 v (List.mem_of_getElem? h3), h2⟩
end

/-- A row that has been made. -/
theorem newRow_ok {J : Inj} {F : Nat → Prop} {w : World} {G : Nat → Option AObj} (h : StOK J F w G) (id : Nat) (hid : J id = none) {cs : List D} {vs : List Value} (te : TypeId) (h0 : ∀ v ∈ vs, oneCell v = true) (hr : repL J F w cs vs) :
    ∃ J', StOK J' F (w.alloc (.cells vs.toArray te)) (fun i => if i = id then some (.row true cs) else G i) ∧ Ext J F w J' F (w.alloc (.cells vs.toArray te)) ∧
      (∀ i, i ≠ id → J' i = J i) ∧ rep J' F (w.alloc (.cells vs.toArray te)) (.loc id 0) (.pointer (some ⟨w.heap.size, 0, none⟩)) := by
  have hle : J.le (fun i => if i = id then some ⟨true, 0, some ⟨w.heap.size, 0, none⟩, 1, cs.length, cs.length⟩ else J i) := fun i s hi => by
    have e : i ≠ id := fun e => by rw [e, hid] at hi; cases hi
    exact ⟨s, by simp [e, hi], Nat.le_refl _, fun _ => rfl⟩
  obtain ⟨h1, h2⟩ := h.alloc id hid ⟨true, 0, some ⟨w.heap.size, 0, none⟩, 1, cs.length, cs.length⟩ (.row true cs) vs.toArray te rfl
    ⟨rfl, rfl, rfl, rfl, rfl, w.heap.size, vs.toArray, te, rfl, heap_alloc_new w _, by simp [repL_len _ _ hr], repCells_new te hle h.lt h0 hr, fun q => by cases q⟩
  refine ⟨_, h1, h2, fun i hi => by simp [hi], ?_⟩
  simp only [rep]
  exact ⟨_, w.heap.size, by simp; rfl, rfl, rfl, rfl⟩

section
variable {P : Program} {seq : Bool} {o : Oper} {env : Env} {H : List AObj} {K : Cont}

theorem upd_one (G : Nat → Option AObj) (H2 : List AObj) (id : Nat) (ob : AObj) (h : H2[id]? = some ob) : upd G [id] H2 = fun i => if i = id then some ob else G i := by
  funext i
  simp only [upd, List.mem_singleton]
  split
  · rename_i e; rw [e, h]
  · rfl

/-- An operation that makes one block. -/
theorem sound_new {ob : AObj} {d : D} {rd : List Nat} (hK : K d (H ++ [ob]) rd [H.length])
    (h : ∀ (J : Inj) (F : Nat → Prop) (w : World) (a : Act) (G : Nat → Option AObj), StOK J F w G → (∀ x ∈ o.op.operands, rep J F w (evalD env x) (a.eval x)) → (∀ id ∈ rd, G id = H[id]?) → J H.length = none →
      ∃ v w' J' F', (execOp a.eval o).run P w = .ok (.value v) w' ∧ rep J' F' w' d v ∧ StOK J' F' w' (fun i => if i = H.length then some ob else G i) ∧ Ext J F w J' F' w' ∧ (∀ i, i ≠ H.length → J' i = J i)) : Sound P o env H K := by
  refine ⟨d, H ++ [ob], rd, [H.length], ⟨fun id hid => ?_, by simp, fun id hid => by simp at hid; simp [hid], fun J F w a G hok hops hrd hnew K Q hK => ?_⟩, hK⟩
  · simp at hid
    rcases Nat.lt_or_ge id H.length with hl | hl
    · rw [List.getElem?_append_left hl]
    · rw [List.getElem?_eq_none (by simp; omega), List.getElem?_eq_none hl]
  · obtain ⟨v, w', J', F', h1, h2, h3, h4, h5⟩ := h J F w a G hok hops (fun id hid => hrd id (.inl hid)) (hnew _ (Nat.le_refl _) (by simp))
    unfold Oper.wp
    rw [h1, Oper.upon_value]
    refine hK v w' J' F' h2 ?_ h4 fun id hid hn => ?_
    · rw [upd_one G _ H.length ob (by simp)]; exact h3
    · rw [h5 id (by simpa using hn)]; exact hid

theorem run_zeroValue {t : TypeId} {z : Value} {w : World} (h : (P.info? t).bind (·.zero) = some z) : (zeroValue t).run P w = .ok z w := by
  cases e : P.info? t with
  | none => rw [e] at h; cases h
  | some i =>
    rw [e] at h
    simp at h
    simp [zeroValue, typeInfo, program, Sem.run, e, h, pure]

theorem repL_sc {J : Inj} {F : Nat → Prop} {w : World} : ∀ vs : List Value, repL J F w (vs.map .sc) vs
  | [] => by simp only [List.map_nil, repL]
  | v :: r => by simp only [List.map_cons, repL]; exact ⟨v, r, rfl, by simp only [rep], repL_sc r⟩

theorem s_alloc {t : TypeId} {z : Value} (hz : (P.info? t).bind (·.zero) = some z) (hone : z.cells.toList.all oneCell = true) (ho : o.op = .alloc t) (h : step P seq (.alloc z.cells.toList) env H K) : Sound P o env H K := by
  simp only [step, scK_eq, hpushK_iff] at h
  refine sound_new h fun J F w a G hok hops hrd hn => ?_
  obtain ⟨J', h1, h2, h3, h4⟩ := newRow_ok hok H.length hn t (fun v hv => List.all_eq_true.1 hone v hv) (repL_sc z.cells.toList)
  refine ⟨_, _, J', F, ?_, h4, h1, h2, h3⟩
  simp [execOp, ho, Instr.alloc, run_zeroValue hz, newVar, newRow, newObj, Sem.run, pure]

theorem cells_rep {J : Inj} {F : Nat → Prop} {w : World} {d : D} {v : Value} (hs : storable d = true) (h : rep J F w d v) : repL J F w d.cells v.cells.toList ∧ ∀ u ∈ v.cells.toList, oneCell u = true := by
  have one : cell1 d = true → (∀ cs, d ≠ .agg cs) → repL J F w d.cells v.cells.toList ∧ ∀ u ∈ v.cells.toList, oneCell u = true := by
    intro h1 h2
    have h3 := oneCell_of h1 h
    have e1 : v.cells = #[v] := by cases v <;> first | rfl | simp [oneCell] at h3
    have e2 : d.cells = [d] := by cases d <;> first | rfl | exact absurd rfl (h2 _)
    rw [e1, e2]
    refine ⟨by simp only [repL]; exact ⟨v, [], rfl, h, rfl⟩, fun u hu => ?_⟩
    simp at hu; rw [hu]; exact h3
  cases d with
  | agg cs =>
    simp only [rep] at h
    obtain ⟨vs, rfl, k⟩ := h
    refine ⟨by simpa [D.cells, Value.cells] using k, fun u hu => ?_⟩
    simp [Value.cells] at hu
    obtain ⟨j, hj, e⟩ := List.mem_iff_getElem.1 hu
    have hj' : j < cs.length := by rw [← repL_len _ _ k]; exact hj
    obtain ⟨u', q1, q2⟩ := repL_get _ _ _ _ (List.getElem?_eq_getElem hj') k
    rw [List.getElem?_eq_getElem hj, e] at q1
    cases q1
    exact oneCell_of (cells1_mem cs hs _ (List.getElem_mem hj')) q2
  | _ => exact one hs (by intro cs h; cases h)

theorem s_box {t : TypeId} {x : Operand} (ho : o.op = .box t x) (h : step P seq (.box x) env H K) : Sound P o env H K := by
  simp only [step, evK_eq, cellsK_iff, hpushK_iff] at h
  obtain ⟨h0, h⟩ := h
  refine sound_new h fun J F w a G hok hops hrd hn => ?_
  obtain ⟨k1, k0⟩ := cells_rep h0 (hops x (by simp [ho, Op.operands]))
  obtain ⟨J', h1, h2, h3, h4⟩ := newRow_ok hok H.length hn t k0 k1
  refine ⟨_, _, J', F, ?_, h4, h1, h2, h3⟩
  simp [execOp, ho, Instr.box, newVar, newRow, newObj, Sem.run, pure]
end
end

/-! ### XDs4 -/
section
open Go.RowKit
set_option linter.unusedSimpArgs false
set_option linter.unusedVariables false

theorem put_fold (off : Nat) : ∀ (l : List Value) (n : Nat) (cells : Array Value), off + n + l.length ≤ cells.size →
    ((l.zipIdx n).foldl (fun (cs : Array Value) (p : Value × Nat) => cs.setIfInBounds (off + p.2) p.1) cells).size = cells.size ∧
    ∀ i, ((l.zipIdx n).foldl (fun (cs : Array Value) (p : Value × Nat) => cs.setIfInBounds (off + p.2) p.1) cells)[i]? = if off + n ≤ i ∧ i < off + n + l.length then l[i - (off + n)]? else cells[i]?
  | [], n, cells, _ => ⟨rfl, fun i => by simp; intro h1 h2; omega⟩
  | c :: r, n, cells, h => by
    simp only [List.zipIdx_cons, List.foldl_cons]
    simp only [List.length_cons] at h
    obtain ⟨k1, k2⟩ := put_fold off r (n + 1) (cells.setIfInBounds (off + n) c) (by simp; omega)
    refine ⟨by rw [k1]; simp, fun i => ?_⟩
    rw [k2]
    by_cases h1 : i = off + n
    · subst h1
      rw [if_neg (by omega), if_pos (by simp)]
      simp [Array.getElem?_setIfInBounds, show off + n < cells.size by omega]
    · by_cases h2 : off + (n + 1) ≤ i ∧ i < off + (n + 1) + r.length
      · rw [if_pos h2, if_pos (by simp; omega), show i - (off + n) = i - (off + (n + 1)) + 1 by omega, List.getElem?_cons_succ]
      · rw [if_neg h2, if_neg (by simp; omega), Array.getElem?_setIfInBounds_ne (by omega)]

theorem fill_cons (place : Nat → Option (Nat × Nat)) (cells : Array Value) (i : Nat) (v : Value) (rest : List (Nat × Value)) (off : Nat) (hp : place i = some (off, v.cells.size)) (hb : off + v.cells.size ≤ cells.size) :
    ∃ cells', Instr.fill place cells ((i, v) :: rest) = Instr.fill place cells' rest ∧ cells'.size = cells.size ∧ ∀ j, cells'[j]? = if off ≤ j ∧ j < off + v.cells.size then v.cells[j - off]? else cells[j]? := by
  obtain ⟨h1, h2⟩ := put_fold off v.cells.toList 0 cells (by simpa using hb)
  refine ⟨(v.cells.toList.zipIdx 0).foldl (fun (cs : Array Value) (p : Value × Nat) => cs.setIfInBounds (off + p.2) p.1) cells, ?_, h1, fun j => by simpa using h2 j⟩
  simp only [Instr.fill, hp]
  rw [if_neg (by simp; omega)]
  congr 1
  rw [← Array.foldl_toList, Array.toList_zipIdx]

theorem inOrder_spec : ∀ (l : List (Nat × Operand)) (k : Nat) (xs : List Operand), inOrder k l = some xs → l = (xs.zipIdx k).map fun p => (p.2, p.1)
  | [], k, xs, h => by simp [inOrder] at h; subst h; rfl
  | (i, x) :: r, k, xs, h => by
    simp only [inOrder] at h
    split at h
    · rename_i e
      cases e2 : inOrder (k + 1) r with
      | none => rw [e2] at h; cases h
      | some ys =>
        rw [e2] at h
        simp at h
        subst h; subst e
        rw [inOrder_spec r (i + 1) ys e2]
        simp
    · cases h

theorem fill_order (esz : Nat) : ∀ (vs : List Value) (k : Nat) (cells : Array Value), (∀ v ∈ vs, v.cells.size = esz) → (k + vs.length) * esz ≤ cells.size →
    ∃ cells', Instr.fill (fun i => some (i * esz, esz)) cells ((vs.zipIdx k).map fun p => (p.2, p.1)) = some cells' ∧ cells'.size = cells.size ∧ (∀ j, j < k * esz → cells'[j]? = cells[j]?) ∧
      ∀ i v j c, vs[i]? = some v → v.cells[j]? = some c → cells'[(k + i) * esz + j]? = some c
  | [], k, cells, _, _ => ⟨cells, rfl, rfl, fun _ _ => rfl, fun i v j c h => by simp at h⟩
  | v :: r, k, cells, hv, hb => by
    simp only [List.zipIdx_cons, List.map_cons]
    have hs : v.cells.size = esz := hv v (by simp)
    simp only [List.length_cons] at hb
    have hm : (k + (r.length + 1)) * esz = k * esz + esz + r.length * esz := by rw [Nat.add_mul, Nat.add_mul]; omega
    obtain ⟨c1, e1, e2, e3⟩ := fill_cons (fun i => some (i * esz, esz)) cells k v ((r.zipIdx (k + 1)).map fun p => (p.2, p.1)) (k * esz) (by rw [hs]) (by omega)
    obtain ⟨c2, f1, f2, f3, f4⟩ := fill_order esz r (k + 1) c1 (fun u hu => hv u (by simp [hu])) (by rw [e2]; rw [show k + 1 + r.length = k + (r.length + 1) by omega]; exact hb)
    refine ⟨c2, by rw [e1]; exact f1, by rw [f2, e2], fun j hj => ?_, fun i u j c hi hc => ?_⟩
    · rw [f3 j (by rw [Nat.add_mul]; omega), e3, if_neg (by omega)]
    · cases i with
      | zero =>
        simp at hi; subst hi
        have hj : j < v.cells.size := by
          rcases Nat.lt_or_ge j v.cells.size with h | h
          · exact h
          · rw [Array.getElem?_eq_none h] at hc; cases hc
        rw [Nat.add_zero, f3 _ (by rw [Nat.add_mul]; omega), e3, if_pos (by omega), show k * esz + j - k * esz = j by omega]
        exact hc
      | succ i =>
        have := f4 i u j c (by simpa using hi) hc
        rwa [show k + 1 + i = k + (i + 1) by omega] at this

/-- A slice's array that has been made. -/
theorem newVec_ok {J : Inj} {F : Nat → Prop} {w : World} {G : Nat → Option AObj} (h : StOK J F w G) (id : Nat) (hid : J id = none) {esz cap : Nat} {xs : List (List D)} {vals : Array Value} (te : TypeId)
    (hlen : xs.length ≤ cap) (hsz : cap * esz ≤ vals.size) (hx : ∀ (j : Nat) (x : List D), xs[j]? = some x → x.length = esz ∧ ∀ (k : Nat) (c : D), x[k]? = some c → ∃ u, vals[j * esz + k]? = some u ∧ oneCell u = true ∧ rep J F w c u) :
    ∃ J', StOK J' F (w.alloc (.cells vals te)) (fun i => if i = id then some (.vec true 0 esz xs) else G i) ∧ Ext J F w J' F (w.alloc (.cells vals te)) ∧
      (∀ i, i ≠ id → J' i = J i) ∧ rep J' F (w.alloc (.cells vals te)) (.own id 0 0 xs.length) (.slice (some ⟨w.heap.size, 0, none⟩) xs.length cap) := by
  have hle : J.le (fun i => if i = id then some ⟨false, 0, some ⟨w.heap.size, 0, none⟩, esz, cap, xs.length⟩ else J i) := fun i s hi => by
    have e : i ≠ id := fun e => by rw [e, hid] at hi; cases hi
    exact ⟨s, by simp [e, hi], Nat.le_refl _, fun _ => rfl⟩
  have hrows : repRows (fun i => if i = id then some ⟨false, 0, some ⟨w.heap.size, 0, none⟩, esz, cap, xs.length⟩ else J i) F (w.alloc (.cells vals te)) w.heap.size esz xs 0 := by
    refine repRows_mk _ _ fun j x hj => ?_
    obtain ⟨k1, k2⟩ := hx j x hj
    refine ⟨k1, repCells_mk _ _ fun k c hc => ?_⟩
    obtain ⟨u, q1, q0, q2⟩ := k2 k c hc
    exact ⟨u, by simp [q1], q0, rep_mono hle (fun _ h => h) (fun b hb => heap_push_lt w _ (h.lt b hb)) _ _ q2⟩
  obtain ⟨h1, h2⟩ := h.alloc id hid ⟨false, 0, some ⟨w.heap.size, 0, none⟩, esz, cap, xs.length⟩ (.vec true 0 esz xs) vals te rfl
    ⟨rfl, rfl, rfl, rfl, hlen, .inr ⟨w.heap.size, 0, vals, te, rfl, heap_alloc_new w _, by simpa using hsz, hrows, fun q => by cases q⟩⟩
  refine ⟨_, h1, h2, fun i hi => by simp [hi], ?_⟩
  simp only [rep]
  exact ⟨_, _, _, _, by simp; rfl, rfl, Nat.le_refl _, fun _ => ⟨rfl, Nat.zero_le _, Nat.le_refl _, by simp, by simp, .inr ⟨w.heap.size, 0, rfl, by simp⟩⟩⟩

section
variable {P : Program} {seq : Bool} {o : Oper} {env : Env} {H : List AObj} {K : Cont}

theorem rowsK_spec (esz : Nat) : ∀ (xs : List Operand) (K' : List (List D) → Prop), rowsK env esz xs K' → (∀ x ∈ xs, storable (evalD env x) = true ∧ esz = (evalD env x).cells.length) ∧ K' (xs.map fun x => (evalD env x).cells)
  | [], K', h => ⟨(fun _ h => by cases h), h⟩
  | x :: r, K', h => by
    simp only [rowsK, evK_eq, cellsK_iff, sameK_iff] at h
    obtain ⟨h1, h2, h3⟩ := h
    obtain ⟨h4, h5⟩ := rowsK_spec esz r _ h3
    refine ⟨fun y hy => ?_, h5⟩
    rcases List.mem_cons.1 hy with rfl | hy
    · exact ⟨h1, h2⟩
    · exact h4 y hy

theorem rep_lift (J : Inj) (F : Nat → Prop) (w : World) (z : Value) : rep J F w (lift z) z := by
  unfold lift
  split
  · rename_i cs
    simp only [rep]
    exact ⟨cs.toList, rfl, repL_sc _⟩
  · simp only [rep]
theorem fill_in {z : Value} {esz : Nat} (f : Operand → Value) (hz : f (.const z) = z) : ∀ (m k : Nat) (l : List (Nat × Operand)) (xs : List Operand) (cells : Array Value), fillIn z k m l = some xs → (∀ x ∈ xs, (f x).cells.size = esz) → (k + m) * esz ≤ cells.size →
    (∀ i j, k ≤ i → i < k + m → j < esz → z.cells.size = esz → cells[i * esz + j]? = z.cells[j]?) →
    xs.length = m ∧ (∀ x ∈ xs, x = .const z ∨ ∃ i, (i, x) ∈ l) ∧ Instr.fill (fun i => some (i * esz, esz)) cells (l.map fun p => (p.1, f p.2)) = Instr.fill (fun i => some (i * esz, esz)) cells (((xs.map f).zipIdx k).map fun p => (p.2, p.1))
  | 0, k, [], xs, cells, h, _, _, _ => by simp [fillIn] at h; subst h; exact ⟨rfl, by simp, rfl⟩
  | 0, k, _ :: _, xs, cells, h, _, _, _ => by simp [fillIn] at h
  | m + 1, k, l, xs, cells, h, hs, hb, hc => by
    have hm : (k + (m + 1)) * esz = k * esz + esz + m * esz := by rw [Nat.add_mul, Nat.add_mul]; omega
    have hk1 : (k + 1) * esz = k * esz + esz := by rw [Nat.add_mul]; omega
    have zero : ∀ ys, fillIn z (k + 1) m l = some ys → xs = .const z :: ys → xs.length = m + 1 ∧ (∀ x ∈ xs, x = .const z ∨ ∃ i, (i, x) ∈ l) ∧ Instr.fill (fun i => some (i * esz, esz)) cells (l.map fun p => (p.1, f p.2)) = Instr.fill (fun i => some (i * esz, esz)) cells (((xs.map f).zipIdx k).map fun p => (p.2, p.1)) := fun ys hy e => by
      subst e
      have hzs : z.cells.size = esz := by have := hs (.const z) (by simp); rwa [hz] at this
      obtain ⟨h1, h2, h3⟩ := fill_in f hz m (k + 1) l ys cells hy (fun x hx => hs x (by simp [hx])) (by rw [show k + 1 + m = k + (m + 1) by omega]; exact hb) fun i j hi1 hi2 hj hz => hc i j (by omega) (by omega) hj hz
      refine ⟨by simp [h1], fun x hx => ?_, ?_⟩
      · rcases List.mem_cons.1 hx with rfl | hx
        · exact .inl rfl
        · exact h2 x hx
      · rw [h3, List.map_cons, List.zipIdx_cons, List.map_cons, hz]
        obtain ⟨c1, e1, e2, e3⟩ := fill_cons (fun i => some (i * esz, esz)) cells k z (((ys.map f).zipIdx (k + 1)).map fun p => (p.2, p.1)) (k * esz) (by rw [hzs]) (by omega)
        refine Eq.trans ?_ e1.symm
        congr 1
        refine Array.ext_getElem? fun j => ?_
        rw [e3]
        by_cases hj : k * esz ≤ j ∧ j < k * esz + z.cells.size
        · rw [if_pos hj, ← hc k (j - k * esz) (Nat.le_refl _) (by omega) (by omega) hzs]
          congr 1
          omega
        · rw [if_neg hj]
    cases l with
    | nil =>
      simp only [fillIn] at h
      cases e : fillIn z (k + 1) m [] with
      | none => rw [e] at h; cases h
      | some ys => rw [e] at h; exact zero ys e (Option.some.inj h).symm
    | cons p r =>
      obtain ⟨i, x⟩ := p
      simp only [fillIn] at h
      by_cases hi : i = k
      · rw [if_pos hi] at h
        subst hi
        cases e : fillIn z (i + 1) m r with
        | none => rw [e] at h; cases h
        | some ys =>
          rw [e] at h
          have := (Option.some.inj h).symm
          subst this
          have hxs : (f x).cells.size = esz := hs x (by simp)
          obtain ⟨c1, e1, e2, e3⟩ := fill_cons (fun i => some (i * esz, esz)) cells i (f x) (r.map fun p => (p.1, f p.2)) (i * esz) (by rw [hxs]) (by omega)
          obtain ⟨d1, g1, _, g3⟩ := fill_cons (fun i => some (i * esz, esz)) cells i (f x) (((ys.map f).zipIdx (i + 1)).map fun p => (p.2, p.1)) (i * esz) (by rw [hxs]) (by omega)
          have hcd : c1 = d1 := Array.ext_getElem? fun j => by rw [e3, g3]
          subst hcd
          obtain ⟨h1, h2, h3⟩ := fill_in f hz m (i + 1) r ys c1 e (fun y hy => hs y (by simp [hy])) (by rw [show i + 1 + m = i + (m + 1) by omega, e2]; exact hb) fun a j ha1 ha2 hj hzz => by
            have : (i + 1) * esz ≤ a * esz := Nat.mul_le_mul_right _ ha1
            rw [e3, if_neg (by omega)]
            exact hc a j (by omega) (by omega) hj hzz
          refine ⟨by simp [h1], fun y hy => ?_, ?_⟩
          · rcases List.mem_cons.1 hy with rfl | hy
            · exact .inr ⟨i, by simp⟩
            · exact (h2 y hy).imp id fun ⟨a, ha⟩ => ⟨a, by simp [ha]⟩
          · rw [List.map_cons, List.map_cons, List.zipIdx_cons, List.map_cons]
            rw [e1, g1, h3]
      · rw [if_neg hi] at h
        cases e : fillIn z (k + 1) m ((i, x) :: r) with
        | none => rw [e] at h; cases h
        | some ys => rw [e] at h; exact zero ys e (Option.some.inj h).symm
theorem fillIn_mem {z : Value} : ∀ (m k : Nat) (l : List (Nat × Operand)) (xs : List Operand), fillIn z k m l = some xs → ∀ x ∈ xs, x = .const z ∨ ∃ i, (i, x) ∈ l
  | 0, k, [], xs, h, x, hx => by simp [fillIn] at h; subst h; cases hx
  | 0, k, _ :: _, xs, h, _, _ => by simp [fillIn] at h
  | m + 1, k, [], xs, h, x, hx => by
    simp only [fillIn] at h
    cases e : fillIn z (k + 1) m [] with
    | none => rw [e] at h; cases h
    | some ys =>
      rw [e] at h
      have := (Option.some.inj h).symm
      subst this
      rcases List.mem_cons.1 hx with rfl | hx
      · exact .inl rfl
      · exact fillIn_mem m _ _ ys e x hx
  | m + 1, k, (i, y) :: r, xs, h, x, hx => by
    simp only [fillIn] at h
    split at h
    · cases e : fillIn z (k + 1) m r with
      | none => rw [e] at h; cases h
      | some ys =>
        rw [e] at h
        have := (Option.some.inj h).symm
        subst this
        rcases List.mem_cons.1 hx with rfl | hx
        · exact .inr ⟨i, by simp⟩
        · exact (fillIn_mem m _ _ ys e x hx).imp id fun ⟨a, ha⟩ => ⟨a, by simp [ha]⟩
    · cases e : fillIn z (k + 1) m ((i, y) :: r) with
      | none => rw [e] at h; cases h
      | some ys =>
        rw [e] at h
        have := (Option.some.inj h).symm
        subst this
        rcases List.mem_cons.1 hx with rfl | hx
        · exact .inl rfl
        · exact fillIn_mem m _ _ ys e x hx
theorem fillIn_nil {z : Value} {l : List (Nat × Operand)} (h : inOrder 0 l = some [] ∨ fillIn z 0 0 l = some []) : l = [] := by
  cases l with
  | nil => rfl
  | cons p r =>
    obtain ⟨i, x⟩ := p
    rcases h with h | h
    · have := inOrder_spec _ _ _ h
      simp at this
    · simp [fillIn] at h
theorem s_bslice {t e : TypeId} {n : Nat} {parts : Array (Nat × Operand)} {xs : List Operand} {z : Value} (ht : P.underlying t = some (.slice e)) (hz : (P.info? e).bind (·.zero) = some z) (h24 : n * P.cellsOf e ≤ 16777216) (hpos : 0 < P.cellsOf e)
    (hxs : inOrder 0 parts.toList = some xs ∨ fillIn z 0 n parts.toList = some xs) (ho : o.op = .buildSlice t n parts) (h : step P seq (.bslice (P.cellsOf e) n xs) env H K) : Sound P o env H K := by
  simp only [step] at h
  obtain ⟨h1, h23⟩ := rowsK_spec _ _ _ h
  rw [sameK_iff] at h23
  obtain ⟨h2, h3⟩ := h23
  rw [hpushK_iff] at h3
  simp only [List.length_map] at h2
  obtain ⟨ei, hi1, hi2⟩ := info_of_cells (e := e) (P := P) (by omega)
  subst h2
  refine sound_new h3 fun J F w a G hok hops hrd hn => ?_
  have hsub : ∀ (i : Nat) (x : Operand), (i, x) ∈ parts.toList → x ∈ o.op.operands := fun i x hx => by
    simp only [ho, Op.operands]
    simp only [List.mem_toArray, List.mem_map]
    exact ⟨(i, x), hx, rfl⟩
  let zc : Array Value := (Array.range (xs.length * P.cellsOf e)).map (z.cells[· % z.cells.size]!)
  have hzc : ∀ i j, 0 ≤ i → i < 0 + xs.length → j < P.cellsOf e → z.cells.size = P.cellsOf e → zc[i * P.cellsOf e + j]? = z.cells[j]? := fun i j _ hi hj hs => by
    have h1 : (i + 1) * P.cellsOf e ≤ xs.length * P.cellsOf e := Nat.mul_le_mul_right _ (by omega)
    rw [Nat.add_mul] at h1
    have h2 : i * P.cellsOf e + j < xs.length * P.cellsOf e := by omega
    have h3 : (i * P.cellsOf e + j) % P.cellsOf e = j := by rw [Nat.mul_add_mod_self_right, Nat.mod_eq_of_lt hj]
    have h4 : j < z.cells.size := by omega
    have h5 : z.cells[j]? = some z.cells[j]! := by rw [Array.getElem?_eq_getElem h4, getElem!_pos z.cells j h4]
    rw [h5]
    simp [zc, h2, hs, h3]
  have hmem : ∀ x ∈ xs, x = .const z ∨ x ∈ o.op.operands := fun x hx => by
    rcases hxs with hxs | hxs
    · obtain ⟨j, hj, e⟩ := List.mem_iff_getElem.1 hx
      refine .inr (hsub j x ?_)
      rw [inOrder_spec _ _ _ hxs]
      refine List.mem_map.2 ⟨(x, j), ?_, rfl⟩
      rw [List.mem_zipIdx_iff_getElem?]
      simp [hj, e]
    · exact (fillIn_mem _ _ _ _ hxs x hx).imp id fun ⟨i, hi⟩ => hsub i x hi
  have hrep : ∀ x ∈ xs, rep J F w (evalD env x) (a.eval x) := fun x hx => by
    rcases hmem x hx with rfl | h
    · exact rep_lift J F w z
    · exact hops x h
  have hcs : ∀ v ∈ xs.map a.eval, v.cells.size = P.cellsOf e := fun v hv => by
    obtain ⟨x, hx, rfl⟩ := List.mem_map.1 hv
    have := repL_len _ _ (cells_rep (h1 x hx).1 (hrep x hx)).1
    rw [(h1 x hx).2, ← this]; simp
  obtain ⟨c', f1, f2, _, f4⟩ := fill_order (P.cellsOf e) (xs.map a.eval) 0 zc hcs (by simp [zc])
  have f1' : Instr.fill (fun i => some (i * P.cellsOf e, P.cellsOf e)) zc (parts.map fun (i, x) => (i, a.eval x)).toList = some c' := by
    rw [Array.toList_map]
    rcases hxs with hxs | hxs
    · rw [inOrder_spec _ _ _ hxs, ← f1, List.zipIdx_map, List.map_map, List.map_map]
      rfl
    · obtain ⟨_, _, h3⟩ := fill_in (esz := P.cellsOf e) a.eval rfl _ 0 _ xs zc hxs (fun x hx => hcs _ (List.mem_map.2 ⟨x, hx, rfl⟩)) (by simp [zc]) hzc
      rw [← f1, ← h3]
  have hrun : (execOp a.eval o).run P w = .ok (.value (.slice (some ⟨w.heap.size, 0, none⟩) xs.length xs.length)) (w.alloc (.cells c' e)) := by
    by_cases hx0 : xs.length * P.cellsOf e = 0
    · have hx : xs = [] := by
        rcases Nat.mul_eq_zero.1 hx0 with h | h
        · exact List.length_eq_zero_iff.1 h
        · omega
      subst hx
      have hparts : parts.toList = [] := fillIn_nil (z := z) hxs
      have hzc : zc = #[] := by simp [zc]
      simp only [List.map_nil, List.zipIdx_nil] at f1
      rw [hzc] at f1
      simp [Instr.fill] at f1
      subst f1
      have hp : parts = #[] := Array.ext' hparts
      subst hp
      simp [execOp, ho, Instr.buildSlice, underlying, program, Sem.run, ht, pure, run_sizeOf' hi1, hi2, Instr.fill, newRow, newObj]
      congr 2
      apply Array.ext'
      simp
    · have hz' : ¬ (xs.length * P.cellsOf e > 2 ^ 24) := by omega
      simp only [execOp, ho, Instr.buildSlice, underlying, program, Sem.run_bind, Sem.run, ht, pure, Result.andThen_ok, run_sizeOf' hi1, hi2, if_neg hz', if_neg hx0, run_zeroValue hz]
      rw [show (Array.map (fun x => z.cells[x % z.cells.size]!) (Array.range (xs.length * P.cellsOf e))) = zc from rfl, f1']
      simp [newRow, newObj, Sem.run, pure]
  obtain ⟨J', k1, k2, k3, k4⟩ := newVec_ok (esz := P.cellsOf e) (cap := xs.length) (xs := xs.map fun x => (evalD env x).cells) (vals := c') hok H.length hn e (by simp) (by rw [f2]; simp [zc]) fun j x hj => by
    rw [List.getElem?_map] at hj
    cases ej : xs[j]? with
    | none => rw [ej] at hj; cases hj
    | some y =>
      rw [ej] at hj
      simp at hj; subst hj
      have hy := List.mem_of_getElem? ej
      refine ⟨(h1 y hy).2.symm, fun k c hc => ?_⟩
      obtain ⟨q1, q0⟩ := cells_rep (h1 y hy).1 (hrep y hy)
      obtain ⟨u, q2, q3⟩ := repL_get _ _ _ _ hc q1
      refine ⟨u, ?_, q0 u (List.mem_of_getElem? q2), q3⟩
      have := f4 j (a.eval y) k u (by simp [ej]) (by simpa using q2)
      simpa using this
  simp only [List.length_map] at k4
  exact ⟨_, _, J', F, hrun, k4, k1, k2, k3⟩

theorem s_mslice {t e : TypeId} {l c : Operand} {z : Value} (ht : P.underlying t = some (.slice e)) (hz : (P.info? e).bind (·.zero) = some z) (hzs : z.cells.size = P.cellsOf e) (hpos : 0 < P.cellsOf e) (hbp : 0 < P.bytesOf e) (hone : z.cells.toList.all oneCell = true)
    (ho : o.op = .makeSlice t l c) (h : step P seq (.mslice (P.cellsOf e) (P.bytesOf e) z.cells.toList l c) env H K) : Sound P o env H K := by
  simp only [step, evK_eq] at h
  obtain ⟨ei, hi1, hi2⟩ := info_of_cells (e := e) (P := P) (by omega)
  have hi3 : ei.bytes = P.bytesOf e := by simp [Program.bytesOf, hi1]
  split at h
  · rename_i nl nc e1 e2
    obtain ⟨h0, h1, h2, h3⟩ := h
    rw [hpushK_iff] at h3
    refine sound_new h3 fun J F w a G hok hops hrd hn => ?_
    have k1 := hops l (by simp [ho, Op.operands])
    have k2 := hops c (by simp [ho, Op.operands])
    rw [e1] at k1; rw [e2] at k2
    simp only [rep] at k1 k2
    have hz' : ei.zero = some z := by simpa [hi1] using hz
    have hb : (ei.bytes : Int) * nc ≤ 281474976710656 := by rw [hi3, Int.mul_comm]; omega
    have hbig : nc ≤ 9223372036854775807 := by
      have : nc * 1 ≤ nc * (P.bytesOf e : Int) := Int.mul_le_mul_of_nonneg_left (by omega) (by omega)
      omega
    · have run := run_make (P := P) w t e ei z ht hi1 hz' .i64 .i64 nl nc h0 h1 hb hbig
      obtain ⟨J', q1, q2, q3, q4⟩ := newVec_ok (esz := P.cellsOf e) (cap := nc.toNat) (xs := List.replicate nl.toNat (z.cells.toList.map .sc)) (vals := madeCells z.cells (nc.toNat * ei.size)) hok H.length hn e (by simp; omega) (by simp [madeCells, hi2]) fun j x hj => by
        rw [List.getElem?_replicate] at hj
        split at hj
        · rename_i hjl
          cases hj
          refine ⟨by simp [hzs], fun k c hc => ?_⟩
          rw [List.getElem?_map] at hc
          cases ek : z.cells.toList[k]? with
          | none => rw [ek] at hc; cases hc
          | some u =>
            rw [ek] at hc
            cases hc
            have hk : k < P.cellsOf e := by
              have : k < z.cells.toList.length := by
                rcases Nat.lt_or_ge k z.cells.toList.length with h | h
                · exact h
                · rw [List.getElem?_eq_none h] at ek; cases ek
              rw [← hzs]; simpa using this
            refine ⟨u, ?_, List.all_eq_true.1 hone u (List.mem_of_getElem? ek), by simp only [rep]⟩
            have hlt : j * P.cellsOf e + k < nc.toNat * ei.size := by
              rw [hi2]
              have : (j + 1) * P.cellsOf e ≤ nc.toNat * P.cellsOf e := Nat.mul_le_mul_right _ (by omega)
              rw [Nat.add_mul] at this; omega
            have hm : (j * P.cellsOf e + k) % z.cells.size = k := by rw [hzs, Nat.mul_comm, Nat.mul_add_mod]; exact Nat.mod_eq_of_lt hk
            have hks : k < z.cells.size := by rw [hzs]; exact hk
            have ek' : z.cells[k] = u := by
              rw [Array.getElem?_toList] at ek
              simpa [Array.getElem?_eq_getElem hks] using ek
            simp only [madeCells, Array.getElem?_map]
            rw [Array.getElem?_eq_getElem (by simpa using hlt)]
            simp [hm, hks, ek']
        · cases hj
      simp only [List.length_replicate] at q4
      have e3 : nl.toNat ≤ nc.toNat := by omega
      refine ⟨_, _, J', F, ?_, q4, q1, q2, q3⟩
      simp [execOp, ho, k1, k2, run, Sem.run, pure]
  · exact h.elim
end
end

/-! ### XDs5 -/
section
open Go.RowKit
set_option linter.unusedSimpArgs false
set_option linter.unusedVariables false

/-- Some cells of one block have turned. -/
structure Wrote (w w' : World) (b o : Nat) (us : List Value) (vals : Array Value) (te : TypeId) : Prop where
  os : w'.os = w.os
  tape : w'.tape = w.tape
  output : w'.output = w.output
  size : w'.heap.size = w.heap.size
  other : ∀ k, k ≠ b → w'.heap[k]? = w.heap[k]?
  here : ∃ vals', w'.heap[b]? = some (.cells vals' te (0, 0)) ∧ vals'.size = vals.size ∧ ∀ j, vals'[j]? = if o ≤ j ∧ j < o + us.length then us[j - o]? else vals[j]?

theorem run_store_one {P : Program} {w : World} {a : Addr} {u u' : Value} (hu : oneCell u = true) (hc : w.cell? a = some u') (hf : w.frozen? a = false) : (store a u).run P w = .ok () (w.setCell a u) := by
  cases u <;> simp [oneCell] at hu <;> simp [store, Sem.run, hc, hf]

theorem run_storeCells {P : Program} {b o : Nat} : ∀ (us : List Value) (i : Nat) (w : World) (vals : Array Value) (te : TypeId), w.heap[b]? = some (.cells vals te (0, 0)) → o + i + us.length ≤ vals.size → (∀ u ∈ us, oneCell u = true) →
    ∃ w', (storeCells ⟨b, o, none⟩ us i).run P w = .ok () w' ∧ Wrote w w' b (o + i) us vals te
  | [], i, w, vals, te, hb, _, _ => ⟨w, rfl, rfl, rfl, rfl, rfl, fun _ _ => rfl, vals, hb, rfl, fun j => by simp; intro h1 h2; omega⟩
  | u :: r, i, w, vals, te, hb, hl, h1 => by
    simp only [List.length_cons] at hl
    have hc : w.cell? ⟨b, o + i, none⟩ = vals[o + i]? := by simp [World.cell?, hb]
    have hf := frozen_of_row w b (o + i) vals te hb
    have hlt : o + i < vals.size := by omega
    have hset := heap_setCell_same w b (o + i) vals te u hb
    obtain ⟨w', e1, k⟩ := run_storeCells (P := P) (b := b) (o := o) r (i + 1) (w.setCell ⟨b, o + i, none⟩ u) (vals.setIfInBounds (o + i) u) te hset (by simp; omega) fun v hv => h1 v (by simp [hv])
    have hrun : (store (⟨b, o + i, none⟩ : Addr) u).run P w = .ok () (w.setCell ⟨b, o + i, none⟩ u) := by
      have hu := h1 u (by simp)
      rw [Array.getElem?_eq_getElem hlt] at hc
      exact run_store_one hu hc hf
    refine ⟨w', ?_, ?_⟩
    · simp only [storeCells, add_at, Sem.run_bind, hrun, Result.andThen_ok]
      exact e1
    · obtain ⟨vals', q1, q2, q3⟩ := k.here
      refine ⟨k.os, k.tape, k.output, by rw [k.size]; simp [World.setCell], fun x hx => by rw [k.other x hx]; exact heap_setCell_other w _ x u hx, vals', q1, by rw [q2]; simp, fun j => ?_⟩
      rw [q3]
      by_cases e : j = o + i
      · subst e
        rw [if_neg (by omega), if_pos (by simp)]
        simp [Array.getElem?_setIfInBounds, hlt]
      · by_cases h2 : o + (i + 1) ≤ j ∧ j < o + (i + 1) + r.length
        · rw [if_pos h2, if_pos (by simp; omega), show j - (o + i) = j - (o + (i + 1)) + 1 by omega, List.getElem?_cons_succ]
        · rw [if_neg h2, if_neg (by simp; omega), Array.getElem?_setIfInBounds_ne (by omega)]

theorem Wrote.cell {w w' : World} {b o : Nat} {us : List Value} {vals : Array Value} {te : TypeId} (h : Wrote w w' b o us vals te) (hb : w.heap[b]? = some (.cells vals te (0, 0))) (j : Nat) :
    w'.cell? ⟨b, j, none⟩ = if o ≤ j ∧ j < o + us.length then us[j - o]? else w.cell? ⟨b, j, none⟩ := by
  obtain ⟨vals', h1, _, h3⟩ := h.here
  simp only [World.cell?, h1, hb]
  simpa using h3 j

/-- Rows of cells: some of them written anew. -/
theorem repCells_wrote {J J' : Inj} {F : Nat → Prop} {w w' : World} {b o n : Nat} {us : List Value} {vals : Array Value} {te : TypeId} (h : Wrote w w' b (o + n) us vals te) (hb : w.heap[b]? = some (.cells vals te (0, 0)))
    (hle : J.le J') (hF : ∀ x, F x → w'.heap[x]? = w.heap[x]?) {cs xs : List D} (hc : repCells J F w b cs o) (h0 : ∀ u ∈ us, oneCell u = true) (hx : repL J F w xs us) (hn : n + xs.length ≤ cs.length) :
    repCells J' F w' b (cs.take n ++ xs ++ cs.drop (n + xs.length)) o := by
  have hl := repL_len _ _ hx
  refine repCells_mk _ _ fun j c hj => ?_
  rw [h.cell hb]
  by_cases h1 : j < n
  · rw [if_neg (by omega)]
    rw [List.append_assoc, List.getElem?_append_left (by simp; omega), List.getElem?_take, if_pos h1] at hj
    obtain ⟨u, q1, q0, q2⟩ := repCells_get cs o j c hj hc
    exact ⟨u, q1, q0, rep_mono hle (fun _ h => h) hF _ _ q2⟩
  · by_cases h2 : j < n + xs.length
    · rw [if_pos (by omega)]
      rw [List.append_assoc, List.getElem?_append_right (by simp; omega)] at hj
      rw [List.getElem?_append_left (by simp; omega)] at hj
      simp only [List.length_take] at hj
      rw [show j - min n cs.length = j - n by omega] at hj
      obtain ⟨u, q1, q2⟩ := repL_get _ _ _ _ hj hx
      exact ⟨u, by rw [show o + j - (o + n) = j - n by omega]; exact q1, h0 u (List.mem_of_getElem? q1), rep_mono hle (fun _ h => h) hF _ _ q2⟩
    · rw [if_neg (by omega)]
      rw [List.getElem?_append_right (by simp; omega), List.getElem?_drop] at hj
      simp only [List.length_append, List.length_take] at hj
      rw [show n + xs.length + (j - (min n cs.length + xs.length)) = j by omega] at hj
      obtain ⟨u, q1, q0, q2⟩ := repCells_get cs o j c hj hc
      exact ⟨u, q1, q0, rep_mono hle (fun _ h => h) hF _ _ q2⟩

/-- An owned block is written: what became of memory. -/
theorem Wrote.ext {J J' : Inj} {F : Nat → Prop} {w w' : World} {G : Nat → Option AObj} {b o : Nat} {us : List Value} {vals : Array Value} {te : TypeId} (h : Wrote w w' b o us vals te) (hok : StOK J F w G)
    (hle : J.le J') (hown : Owns J b) (hback : ∀ x, Owns J' x → Owns J x) (hF : ¬ F b) : Ext J F w J' F w' :=
  ⟨h.os, h.tape, h.output, by rw [h.size]; exact Nat.le_refl _, fun x hx hn => h.other x fun e => hn (e ▸ hown), fun x hx => h.other x fun e => hF (e ▸ hx), hle, fun _ h => h, fun x hx => .inl (hback x hx), fun x hx => .inl hx⟩

theorem set_rows_get {xs : List (List D)} {i : Nat} {r : List D} (j : Nat) (x : List D) (h : (xs.set i r)[j]? = some x) : (j = i ∧ x = r ∧ i < xs.length) ∨ (j ≠ i ∧ xs[j]? = some x) := by
  rw [List.getElem?_set] at h
  by_cases e : i = j
  · rw [if_pos e] at h
    split at h
    · cases h; exact .inl ⟨e.symm, rfl, by assumption⟩
    · cases h
  · rw [if_neg e] at h
    exact .inr ⟨fun q => e q.symm, h⟩

/-- A slice's rows: a piece of one of them written anew. -/
theorem repRows_wrote {J J' : Inj} {F : Nat → Prop} {w w' : World} {b o i n esz : Nat} {us : List Value} {vals : Array Value} {te : TypeId} (h : Wrote w w' b (o + i * esz + n) us vals te) (hb : w.heap[b]? = some (.cells vals te (0, 0)))
    (hle : J.le J') (hF : ∀ x, F x → w'.heap[x]? = w.heap[x]?) {ys : List (List D)} {row xs : List D} (hy : repRows J F w b esz ys o) (hi : ys[i]? = some row) (h0 : ∀ u ∈ us, oneCell u = true) (hx : repL J F w xs us) (hn : n + xs.length ≤ row.length) :
    repRows J' F w' b esz (ys.set i (row.take n ++ xs ++ row.drop (n + xs.length))) o := by
  have hl := repL_len _ _ hx
  refine repRows_mk _ _ fun j x hj => ?_
  obtain ⟨r1, r2⟩ := repRows_get ys o i row hi hy
  rcases set_rows_get j x hj with ⟨rfl, rfl, _⟩ | ⟨hne, hj⟩
  · exact ⟨by simp; omega, repCells_wrote h hb hle hF r2 h0 hx hn⟩
  · obtain ⟨q1, q2⟩ := repRows_get ys o j x hj hy
    refine ⟨q1, repCells_mk _ _ fun k c hc => ?_⟩
    have hk : k < x.length := by
      rcases Nat.lt_or_ge k x.length with h | h
      · exact h
      · rw [List.getElem?_eq_none h] at hc; cases hc
    obtain ⟨u, p1, p0, p2⟩ := repCells_get x _ k c hc q2
    refine ⟨u, ?_, p0, rep_mono hle (fun _ h => h) hF _ _ p2⟩
    rw [h.cell hb, if_neg ?_]
    · exact p1
    · rintro ⟨a1, a2⟩
      rcases Nat.lt_or_gt_of_ne hne with hlt | hlt
      · have : (j + 1) * esz ≤ i * esz := Nat.mul_le_mul_right _ hlt
        rw [Nat.add_mul] at this; omega
      · have : (i + 1) * esz ≤ j * esz := Nat.mul_le_mul_right _ hlt
        rw [Nat.add_mul] at this; omega

section
variable {P : Program} {seq : Bool} {o : Oper} {env : Env} {H : List AObj} {K : Cont}

/-- An operation that writes one object in its place. -/
theorem sound_put {ob : AObj} {id : Nat} {d : D} (hid : id < H.length) (hK : K d (H.set id ob) [] [id])
    (h : ∀ (J : Inj) (F : Nat → Prop) (w : World) (a : Act) (G : Nat → Option AObj), StOK J F w G → (∀ x ∈ o.op.operands, rep J F w (evalD env x) (a.eval x)) → G id = H[id]? →
      ∃ v w', (execOp a.eval o).run P w = .ok v w' ∧ (v = .value undef ∨ v = .skip) ∧ d = .sc undef ∧ StOK J F w' (fun i => if i = id then some ob else G i) ∧ Ext J F w J F w') : Sound P o env H K := by
  refine ⟨d, H.set id ob, [], [id], ⟨fun i hi => ?_, by simp, fun i hi => by simp at hi; simp [hi, hid], fun J F w a G hok hops hrd hnew K Q hK => ?_⟩, hK⟩
  · simp at hi
    rw [List.getElem?_set_ne (fun e => hi e.symm)]
  · obtain ⟨v, w', h1, h2, rfl, h3, h4⟩ := h J F w a G hok hops (hrd id (.inr (by simp)))
    have hu : upd G [id] (H.set id ob) = fun i => if i = id then some ob else G i := upd_one G _ id ob (by simp [hid])
    unfold Oper.wp
    rw [h1]
    rcases h2 with rfl | rfl
    · rw [Oper.upon_value]
      exact hK _ w' J F (by simp only [rep]) (by rw [hu]; exact h3) h4 fun i hi _ => hi
    · rw [Oper.upon_skip]
      exact hK _ w' J F (by simp only [rep]) (by rw [hu]; exact h3) h4 fun i hi _ => hi

theorem run_storeAt {t : TypeId} {v : Value} {b off : Nat} {w w' : World} (hsz : v.cells.size = P.cellsOf t) (hz : P.cellsOf t ≠ 0) (h : (storeCells ⟨b, off, none⟩ v.cells.toList 0).run P w = .ok () w') :
    (Instr.storeAt t (.pointer (some ⟨b, off, none⟩)) v).run P w = .ok () w' := by
  obtain ⟨i, h1, h2⟩ := info_of_cells hz
  simp [Instr.storeAt, Instr.sureAddr, storeVar, run_sizeOf' h1, h2, hsz, Sem.run, pure, h]

theorem s_store {t : TypeId} {x y : Operand} (hz : P.cellsOf t ≠ 0) (ho : o.op = .store t x y) (h : step P seq (.store (P.cellsOf t) x y) env H K) : Sound P o env H K := by
  simp only [step, evK_eq, cellsK_iff, sameK_iff] at h
  obtain ⟨hs, hlen, h⟩ := h
  split at h
  · rename_i id off e1
    obtain ⟨ob, h1, h2⟩ := (hgetK_iff _ _ _).1 h
    split at h2
    · rename_i cs
      obtain ⟨h3, h4⟩ := (putK_iff _ _ _ _).1 h2
      obtain ⟨h5, h6⟩ := (hputK_iff _ _ _ _).1 h4
      refine sound_put h5 h6 fun J F w a G hok hops hG => ?_
      have k1 := hops x (by simp [ho, Op.operands])
      obtain ⟨k2, k3⟩ := cells_rep hs (hops y (by simp [ho, Op.operands]))
      rw [e1] at k1
      simp only [rep] at k1
      obtain ⟨s, b, q1, q2, q3, q4⟩ := k1
      obtain ⟨o', p1, p2⟩ := hok.obj id s q1
      rw [hG, h1] at p1
      cases p1
      obtain ⟨p2, p3, p4, p5, p6, b', vals, te, p7, p8, p9, p10, p11⟩ := p2
      rw [q3] at p7; cases p7
      have hl := repL_len _ _ k2
      obtain ⟨w', r1, r2⟩ := run_storeCells (P := P) (b := b) (o := off) (a.eval y).cells.toList 0 w vals te p8 (by omega) k3
      have hown : s.blk = some b := by simp [Site.blk, q2, q3]
      have hnF : ¬ F b := hok.apart id s b _ q1 hown (hG.trans h1) rfl
      have hFw : ∀ z, F z → w'.heap[z]? = w.heap[z]? := fun z hzF => r2.other z fun e => hnF (e ▸ hzF)
      refine ⟨.skip, w', ?_, .inr rfl, rfl, ?_, r2.ext hok (Inj.le_refl J) ⟨id, s, q1, hown⟩ (fun _ h => h) hnF⟩
      · simp [execOp, ho, q4, run_storeAt (by rw [hlen, ← hl]; simp) hz r1, Sem.run, pure]
      · refine hok.update id s _ (fun i => by split; · rename_i e; rw [e]; exact q1
                                              · rfl) (fun _ => rfl) (Inj.le_refl J) hFw (by rw [r2.size]; exact Nat.le_refl _) (fun i s' b' hne hi hb => r2.other b' fun e => hne (hok.one i id s' s b' hi q1 hb (e ▸ hown))) (fun b' hb => .inr ⟨s, q1, hb⟩) (fun i s' b' hi hb => hok.blk_lt hi hb) (fun b' hb _ => by rw [hown] at hb; cases hb; exact hnF) ?_
        obtain ⟨vals', r3, r4, _⟩ := r2.here
        refine ⟨p2, p3, p4, by simp; omega, by simp; omega, b, vals', te, q3, r3, by rw [r4, p9]; simp; omega, ?_, fun q => by cases q⟩
        have r2' : Wrote w w' b (0 + off) (a.eval y).cells.toList vals te := by simpa using r2
        exact repCells_wrote r2' p8 (Inj.le_refl J) hFw p10 k3 k2 h3
    · exact h2.elim
  · rename_i id ver i off e1
    obtain ⟨ob, h1, h2⟩ := (hgetK_iff _ _ _).1 h
    split at h2
    · rename_i ver' esz ys
      obtain ⟨rfl, row, hrow, h2⟩ := h2
      obtain ⟨h3, h4⟩ := (putK_iff _ _ _ _).1 h2
      obtain ⟨h5, h6⟩ := (hputK_iff _ _ _ _).1 h4
      refine sound_put h5 h6 fun J F w a G hok hops hG => ?_
      have k1 := hops x (by simp [ho, Op.operands])
      obtain ⟨k2, k3⟩ := cells_rep hs (hops y (by simp [ho, Op.operands]))
      rw [e1] at k1
      simp only [rep] at k1
      obtain ⟨s, ad, q1, q4, q5, q6⟩ := k1
      obtain ⟨p1, p2, p3, p4, p5, p6⟩ := vecOK hok q1 (hG.trans h1)
      obtain ⟨b, o', q7, q8, q9, rfl⟩ := q6 p2.symm
      have hl := repL_len _ _ k2
      rcases p6 with p6 | ⟨b', o'', vals, te, e, p7, p8, p9, p10⟩
      · omega
      rw [q8] at e; cases e
      obtain ⟨t1, t2⟩ := repRows_get ys o' i row hrow p9
      have hil : i < ys.length := by omega
      have hroom : o' + i * esz + esz ≤ vals.size := by
        have : (i + 1) * esz ≤ s.cap * esz := Nat.mul_le_mul_right _ (by omega)
        rw [Nat.add_mul] at this; omega
      rw [p3] at q4
      obtain ⟨w', r1, r2⟩ := run_storeCells (P := P) (b := b) (o := o' + i * esz + off) (a.eval y).cells.toList 0 w vals te p7 (by omega) k3
      rw [Nat.add_zero] at r2
      have hown : s.blk = some b := by
        have : ¬ (s.row = false ∧ s.cap = 0) := fun h => by omega
        simp [Site.blk, this, q8]
      have hnF : ¬ F b := hok.apart id s b _ q1 hown (hG.trans h1) rfl
      have hFw : ∀ z, F z → w'.heap[z]? = w.heap[z]? := fun z hzF => r2.other z fun e => hnF (e ▸ hzF)
      refine ⟨.skip, w', ?_, .inr rfl, rfl, ?_, r2.ext hok (Inj.le_refl J) ⟨id, s, q1, hown⟩ (fun _ h => h) hnF⟩
      · simp [execOp, ho, q4, run_storeAt (by rw [hlen, ← hl]; simp) hz r1, Sem.run, pure]
      · refine hok.update id s _ (fun i => by split; · rename_i e; rw [e]; exact q1
                                              · rfl) (fun _ => rfl) (Inj.le_refl J) hFw (by rw [r2.size]; exact Nat.le_refl _) (fun i s' b' hne hi hb => r2.other b' fun e => hne (hok.one i id s' s b' hi q1 hb (e ▸ hown))) (fun b' hb => .inr ⟨s, q1, hb⟩) (fun i s' b' hi hb => hok.blk_lt hi hb) (fun b' hb _ => by rw [hown] at hb; cases hb; exact hnF) ?_
        obtain ⟨vals', r3, r4, _⟩ := r2.here
        exact ⟨p1, p2, p3, by simp; omega, p5, .inr ⟨b, o', vals', te, q8, r3, by rw [r4]; exact p8, repRows_wrote r2 p7 (Inj.le_refl J) hFw p9 hrow k3 k2 h3, fun q => by cases q⟩⟩
    · exact h2.elim
  · exact h.elim
/-- The same, with an answer. -/
theorem sound_putV {ob : AObj} {id : Nat} {d : D} {r : Value} (hid : id < H.length) (hK : K d (H.set id ob) [] [id]) (hd : ∀ (J : Inj) (F : Nat → Prop) (w : World), rep J F w d r)
    (h : ∀ (J : Inj) (F : Nat → Prop) (w : World) (a : Act) (G : Nat → Option AObj), StOK J F w G → (∀ x ∈ o.op.operands, rep J F w (evalD env x) (a.eval x)) → G id = H[id]? →
      ∃ w', (execOp a.eval o).run P w = .ok (.value r) w' ∧ StOK J F w' (fun i => if i = id then some ob else G i) ∧ Ext J F w J F w') : Sound P o env H K := by
  refine ⟨d, H.set id ob, [], [id], ⟨fun i hi => ?_, by simp, fun i hi => by simp at hi; simp [hi, hid], fun J F w a G hok hops hrd hnew K Q hK => ?_⟩, hK⟩
  · simp at hi
    rw [List.getElem?_set_ne (fun e => hi e.symm)]
  · obtain ⟨w', h1, h3, h4⟩ := h J F w a G hok hops (hrd id (.inr (by simp)))
    have hu : upd G [id] (H.set id ob) = fun i => if i = id then some ob else G i := upd_one G _ id ob (by simp [hid])
    unfold Oper.wp
    rw [h1, Oper.upon_value]
    exact hK _ w' J F (hd J F w') (by rw [hu]; exact h3) h4 fun i hi _ => hi

theorem cleared_at {zs : List (List D)} {lo hi : Nat} {y x : List D} {j : Nat} (h1 : lo ≤ hi) (h2 : hi ≤ zs.length) (h : (zs.take lo ++ List.replicate (hi - lo) y ++ zs.drop hi)[j]? = some x) :
    (lo ≤ j ∧ j < hi ∧ x = y) ∨ (¬ (lo ≤ j ∧ j < hi) ∧ zs[j]? = some x) := by
  rw [List.getElem?_append, List.getElem?_append] at h
  simp only [List.length_append, List.length_take, List.length_replicate] at h
  rw [Nat.min_eq_left (by omega), show lo + (hi - lo) = hi by omega] at h
  by_cases k1 : j < hi
  · rw [if_pos k1] at h
    by_cases k2 : j < lo
    · rw [if_pos k2, List.getElem?_take, if_pos k2] at h
      exact .inr ⟨by omega, h⟩
    · rw [if_neg k2, List.getElem?_replicate, if_pos (by omega)] at h
      cases h
      exact .inl ⟨by omega, k1, rfl⟩
  · rw [if_neg k1, List.getElem?_drop, show hi + (j - hi) = j by omega] at h
    exact .inr ⟨by omega, h⟩

theorem s_clr {t e : TypeId} {args : Array Operand} {ts : Array TypeId} {x : Operand} {z u : Value} (ha : args.toList = [x]) (hts : ts.toList = [t]) (ht : P.underlying t = some (.slice e)) (hz : (P.info? e).bind (·.zero) = some z)
    (hzu : z.cells.toList = [u]) (hc : P.cellsOf e = 1 ∧ oneCell u = true) (ho : o.op = .call { callee := .builtin .clear, args := args, argTypes := ts }) (h : step P seq (.clr u x) env H K) : Sound P o env H K := by
  obtain ⟨args⟩ := args
  obtain ⟨ts⟩ := ts
  simp only at ha hts
  subst ha hts
  simp only [step, evK_eq] at h
  split at h
  · rename_i id ver lo hi e1
    obtain ⟨ob, h1, h2⟩ := (hgetK_iff _ _ _).1 h
    split at h2
    · rename_i ver' esz zs
      obtain ⟨rfl, h2⟩ := h2
      obtain ⟨rfl, h4⟩ := (sameK_iff _ _ _).1 h2
      obtain ⟨h5, h6⟩ := (hputK_iff _ _ _ _).1 h4
      refine sound_putV (r := .tuple #[]) h5 h6 (fun J F w => by simp only [rep]; exact ⟨[], rfl, by simp only [repL]⟩) fun J F w a G hok hops hG => ?_
      have k1 := hops x (by simp [ho, Op.operands, Call.operands])
      rw [e1] at k1
      simp only [rep] at k1
      obtain ⟨s, A0, n0, c0, q1, q2, q3, q4⟩ := k1
      obtain ⟨p1, p2, p3, p4, p5, p6⟩ := vecOK hok q1 (hG.trans h1)
      obtain ⟨t1, t2, t3, t4, t5, t6⟩ := q4 p2.symm
      have exec : ∀ r w', (Builtin.clear_ #[t] o.type #[.slice A0 n0 c0]).run P w = .ok r w' → (execOp a.eval o).run P w = .ok (.value r) w' := by
        intro r w' hr
        simp only [execOp, ho, resolve, invoke, builtin, Sem.run_bind, Sem.run, pure, Result.andThen_ok, List.map_toArray, List.map_cons, List.map_nil, q2]
        rw [hr]
        rfl
      by_cases hn : n0 = 0
      · have hlh : hi = lo := by omega
        subst hn
        refine ⟨w, exec _ _ ?_, ?_, Ext.refl _ _ _⟩
        · cases A0 <;> simp [Builtin.clear_, run_underlying ht, Sem.run, pure]
        · have : (fun i => if i = id then some (AObj.vec true ver 1 (zs.take lo ++ List.replicate (hi - lo) [D.sc u] ++ zs.drop hi)) else G i) = G := by
            funext i
            split
            · rename_i e
              rw [e, hG, h1, hlh, Nat.sub_self, List.replicate_zero, List.append_nil, List.take_append_drop]
            · rfl
          rw [this]
          exact hok
      · have hcap : s.cap ≠ lo := by omega
        rcases t6 with t6 | ⟨b, o', e2, e3⟩
        · exact absurd t6 hcap
        rcases p6 with p6 | ⟨b', o'', vals, te, e4, p7, p8, p9, p10⟩
        · omega
        rw [e2] at e4; cases e4
        obtain ⟨w', r1, r2⟩ := run_storeCells (P := P) (b := b) (o := o' + lo * s.esz) (List.replicate n0 u) 0 w vals te p7 (by rw [List.length_replicate, p3]; omega) (fun v hv => by rw [List.eq_of_mem_replicate hv]; exact hc.2)
        rw [Nat.add_zero] at r2
        have hown : s.blk = some b := by
          have : ¬ (s.row = false ∧ s.cap = 0) := fun h => by omega
          simp [Site.blk, this, e2]
        have hnF : ¬ F b := hok.apart id s b _ q1 hown (hG.trans h1) rfl
        have hFw : ∀ z, F z → w'.heap[z]? = w.heap[z]? := fun z hzF => r2.other z fun e => hnF (e ▸ hzF)
        refine ⟨w', exec _ _ ?_, ?_, r2.ext hok (Inj.le_refl J) ⟨id, s, q1, hown⟩ (fun _ h => h) hnF⟩
        · have hzc : (Builtin.zeroCells z.cells n0).toList = List.replicate n0 u := by
            have hz1 : z.cells = #[u] := by
              rw [← Array.toArray_toList (xs := z.cells), hzu]
            rw [hz1]
            simp [Builtin.zeroCells]
            apply List.ext_getElem
            · simp
            · intro i h1 h2
              simp [Nat.mod_one]
          subst e3
          obtain ⟨m, rfl⟩ : ∃ m, n0 = m + 1 := ⟨n0 - 1, by omega⟩
          simp [Builtin.clear_, run_underlying ht, run_zeroValue hz, hzc, r1]
        · refine hok.update id s _ (fun i => by split; · rename_i e; rw [e]; exact q1
                                                · rfl) (fun _ => rfl) (Inj.le_refl J) hFw (by rw [r2.size]; exact Nat.le_refl _) (fun i s' b' hne hi hb => r2.other b' fun e => hne (hok.one i id s' s b' hi q1 hb (e ▸ hown))) (fun b' hb => .inr ⟨s, q1, hb⟩) (fun i s' b' hi hb => hok.blk_lt hi hb) (fun b' hb _ => by rw [hown] at hb; cases hb; exact hnF) ?_
          obtain ⟨vals', r3, r4, _⟩ := r2.here
          refine ⟨p1, p2, p3, by simp; omega, p5, .inr ⟨b, o', vals', te, e2, r3, by rw [r4]; exact p8, repRows_mk _ _ fun j y hj => ?_, fun q => by cases q⟩⟩
          rcases cleared_at t2 (by omega) hj with ⟨g1, g2, rfl⟩ | ⟨g1, g2⟩
          · refine ⟨rfl, repCells_mk _ _ fun i c hi => ?_⟩
            obtain ⟨rfl, rfl⟩ : i = 0 ∧ c = .sc u := by
              cases i with
              | zero => simp at hi; exact ⟨rfl, hi.symm⟩
              | succ i => simp at hi
            refine ⟨u, ?_, hc.2, by simp only [rep]⟩
            rw [r2.cell p7, if_pos (by rw [List.length_replicate, p3]; omega), List.getElem?_replicate, if_pos (by rw [p3]; omega)]
          · obtain ⟨g3, g4⟩ := repRows_get zs o' j y g2 p9
            refine ⟨g3, repCells_mk _ _ fun i c hi => ?_⟩
            obtain ⟨v, g5, g6, g7⟩ := repCells_get y _ i c hi g4
            have hi0 : i < y.length := by
              rcases Nat.lt_or_ge i y.length with h | h
              · exact h
              · rw [List.getElem?_eq_none h] at hi; cases hi
            refine ⟨v, ?_, g6, rep_mono (Inj.le_refl J) (fun _ h => h) hFw _ _ g7⟩
            rw [r2.cell p7, if_neg (by rw [List.length_replicate, p3]; omega)]
            exact g5
    · exact h2.elim
  · exact h.elim
end
end

/-! ### XDs6 -/
section
open Go.RowKit
set_option linter.unusedSimpArgs false
set_option linter.unusedVariables false

section
variable {J : Inj} {F : Nat → Prop} {w : World}
/-- Rows as one list of values. -/
def RowsOf (J : Inj) (F : Nat → Prop) (w : World) (esz : Nat) (xs : List (List D)) (us : List Value) : Prop :=
  us.length = xs.length * esz ∧ (∀ u ∈ us, oneCell u = true) ∧ ∀ (j : Nat) (x : List D), xs[j]? = some x → x.length = esz ∧ ∀ (k : Nat) (c : D), x[k]? = some c → ∃ u, us[j * esz + k]? = some u ∧ oneCell u = true ∧ rep J F w c u

theorem repRows_vals {b esz : Nat} : ∀ (xs : List (List D)) (o : Nat), repRows J F w b esz xs o → ∃ us, RowsOf J F w esz xs us ∧ ∀ j u, us[j]? = some u → w.cell? ⟨b, o + j, none⟩ = some u
  | [], o, _ => ⟨[], ⟨by simp, (fun u h => by cases h), (fun j x h => by simp at h)⟩, fun j u h => by simp at h⟩
  | x :: r, o, h => by
    simp only [repRows] at h
    obtain ⟨h1, h2, h3⟩ := h
    obtain ⟨vs, k1, k2, k3⟩ := repCells_vals x o h2
    obtain ⟨us, ⟨k4, k5, k6⟩, k7⟩ := repRows_vals r (o + esz) h3
    have hl := repL_len _ _ k1
    refine ⟨vs ++ us, ⟨?_, fun u hu => (List.mem_append.1 hu).elim (k3 u) (k5 u), fun j y hj => ?_⟩, fun j u hu => ?_⟩
    · rw [List.length_append, k4, List.length_cons, Nat.add_mul]; omega
    · cases j with
      | zero =>
        simp at hj; subst hj
        refine ⟨h1, fun k c hc => ?_⟩
        obtain ⟨v, q1, q2⟩ := repL_get _ _ _ _ hc k1
        have hk : k < vs.length := by
          rcases Nat.lt_or_ge k vs.length with h | h
          · exact h
          · rw [List.getElem?_eq_none h] at q1; cases q1
        exact ⟨v, by rw [Nat.zero_mul, Nat.zero_add, List.getElem?_append_left hk]; exact q1, k3 v (List.mem_of_getElem? q1), q2⟩
      | succ j =>
        obtain ⟨q1, q2⟩ := k6 j y (by simpa using hj)
        refine ⟨q1, fun k c hc => ?_⟩
        obtain ⟨u, p1, p2⟩ := q2 k c hc
        refine ⟨u, ?_, p2⟩
        rw [List.getElem?_append_right (by rw [Nat.add_mul]; omega), show (j + 1) * esz + k - vs.length = j * esz + k by rw [Nat.add_mul]; omega]
        exact p1
    · by_cases hj : j < vs.length
      · rw [List.getElem?_append_left hj] at hu
        exact k2 j u hu
      · rw [List.getElem?_append_right (by omega)] at hu
        have := k7 _ u hu
        rwa [show o + esz + (j - vs.length) = o + j by omega] at this

theorem RowsOf.append {esz : Nat} {xs ys : List (List D)} {us vs : List Value} (h : RowsOf J F w esz xs us) (k : RowsOf J F w esz ys vs) : RowsOf J F w esz (xs ++ ys) (us ++ vs) := by
  obtain ⟨h1, h2, h3⟩ := h
  obtain ⟨k1, k2, k3⟩ := k
  refine ⟨by rw [List.length_append, List.length_append, h1, k1, Nat.add_mul], fun u hu => (List.mem_append.1 hu).elim (h2 u) (k2 u), fun j x hj => ?_⟩
  by_cases hl : j < xs.length
  · rw [List.getElem?_append_left hl] at hj
    obtain ⟨q1, q2⟩ := h3 j x hj
    refine ⟨q1, fun k c hc => ?_⟩
    obtain ⟨u, p1, p2⟩ := q2 k c hc
    refine ⟨u, ?_, p2⟩
    rw [List.getElem?_append_left]
    · exact p1
    · rcases Nat.lt_or_ge (j * esz + k) us.length with h | h
      · exact h
      · rw [List.getElem?_eq_none h] at p1; cases p1
  · rw [List.getElem?_append_right (by omega)] at hj
    obtain ⟨q1, q2⟩ := k3 _ x hj
    refine ⟨q1, fun k c hc => ?_⟩
    obtain ⟨u, p1, p2⟩ := q2 k c hc
    refine ⟨u, ?_, p2⟩
    have : xs.length * esz ≤ j * esz := Nat.mul_le_mul_right _ (by omega)
    rw [List.getElem?_append_right (by omega), show j * esz + k - us.length = (j - xs.length) * esz + k by rw [Nat.sub_mul]; omega]
    exact p1
theorem RowsOf.nil (esz : Nat) : RowsOf J F w esz [] [] := ⟨by simp, (fun u h => by cases h), (fun j x h => by simp at h)⟩
theorem RowsOf.mono {J' : Inj} {F' : Nat → Prop} {w' : World} {esz : Nat} {xs : List (List D)} {us : List Value} (h : RowsOf J F w esz xs us) (hm : ∀ d v, rep J F w d v → rep J' F' w' d v) : RowsOf J' F' w' esz xs us :=
  ⟨h.1, h.2.1, fun j x hj => ⟨(h.2.2 j x hj).1, fun k c hc => let ⟨u, p1, p2, p3⟩ := (h.2.2 j x hj).2 k c hc; ⟨u, p1, p2, hm _ _ p3⟩⟩⟩
/-- Rows that lie in a block as one list of values. -/
theorem RowsOf.lie {esz b o : Nat} {xs : List (List D)} {us : List Value} (h : RowsOf J F w esz xs us) (hc : ∀ j u, us[j]? = some u → w.cell? ⟨b, o + j, none⟩ = some u) : repRows J F w b esz xs o := by
  refine repRows_mk _ _ fun j x hj => ?_
  obtain ⟨q1, q2⟩ := h.2.2 j x hj
  refine ⟨q1, repCells_mk _ _ fun k c hk => ?_⟩
  obtain ⟨u, p1, p2, p3⟩ := q2 k c hk
  exact ⟨u, by have := hc _ u p1; rwa [← Nat.add_assoc] at this, p2, p3⟩
end

section
variable {P : Program} {seq : Bool} {o : Oper} {env : Env} {H : List AObj} {K : Cont}

/-- What an appended slice brings. -/
theorem srcK_spec {esz : Nat} {dy : D} {K' : List (List D) → List Nat → Prop} (h : srcK H esz dy K') : ∃ ys rd, K' ys rd ∧
    ∀ (J : Inj) (F : Nat → Prop) (w : World) (G : Nat → Option AObj) (v : Value), StOK J F w G → (∀ id ∈ rd, G id = H[id]?) → rep J F w dy v →
      ∃ A c us, v = .slice A ys.length c ∧ RowsOf J F w esz ys us ∧ ((A = none ∧ ys = []) ∨ ∃ a, A = some a ∧ ∀ j u, us[j]? = some u → w.cell? (a.add j) = some u) := by
  unfold srcK at h
  split at h
  · rename_i esz' ys
    obtain ⟨e, h'⟩ := (sameK_iff _ _ _).1 h
    subst e
    refine ⟨ys, [], h', fun J F w G v hok _ hv => ?_⟩
    simp only [rep] at hv
    obtain ⟨A, n, c, rfl, rfl, hc, k⟩ := hv
    rcases k with k | ⟨b, o, rfl, hF, k⟩
    · have : ys = [] := List.length_eq_zero_iff.1 k
      subst this
      refine ⟨A, c, [], rfl, RowsOf.nil _, ?_⟩
      cases A with
      | none => exact .inl ⟨rfl, rfl⟩
      | some a => exact .inr ⟨a, rfl, fun j u h => by simp at h⟩
    · obtain ⟨us, k1, k2⟩ := repRows_vals _ _ k
      exact ⟨_, c, us, rfl, k1, .inr ⟨_, rfl, fun j u hu => by rw [add_at]; exact k2 j u hu⟩⟩
  · rename_i id ver lo hi
    obtain ⟨ob, h1, h2⟩ := (hgetK_iff _ _ _).1 h
    split at h2
    · rename_i m ver' esz' zs
      obtain ⟨rfl, h2⟩ := h2
      obtain ⟨e, h3⟩ := (sameK_iff _ _ _).1 h2
      subst e
      refine ⟨_, [id], h3, fun J F w G v hok hrd hv => ?_⟩
      simp only [rep] at hv
      obtain ⟨s, A, n, c, q1, rfl, q2, q3⟩ := hv
      obtain ⟨p1, p2, p3, p4, p5, p6⟩ := vecOK hok q1 ((hrd id (by simp)).trans h1)
      obtain ⟨t1, t2, t3, rfl, rfl, t6⟩ := q3 p2.symm
      have hl : ((zs.take hi).drop lo).length = hi - lo := by simp; omega
      rw [hl]
      rcases t6 with t6 | ⟨b, o, t6, rfl⟩
      · have : (zs.take hi).drop lo = [] := List.length_eq_zero_iff.1 (by omega)
        rw [this]
        refine ⟨A, _, [], rfl, RowsOf.nil _, ?_⟩
        cases A with
        | none => exact .inl ⟨rfl, rfl⟩
        | some a => exact .inr ⟨a, rfl, fun j u h => by simp at h⟩
      · rcases p6 with p6 | ⟨b', o', vals, te, e, _, _, k, _⟩
        · have : (zs.take hi).drop lo = [] := List.length_eq_zero_iff.1 (by omega)
          rw [this]
          exact ⟨_, _, [], rfl, RowsOf.nil _, .inr ⟨_, rfl, fun j u h => by simp at h⟩⟩
        · rw [t6] at e; cases e
          obtain ⟨us, k1, k2⟩ := repRows_vals _ _ (repRows_part k lo hi)
          exact ⟨_, _, us, rfl, k1, .inr ⟨_, rfl, fun j u hu => by rw [add_at, p3]; exact k2 j u hu⟩⟩
    · exact h2.elim
  · refine ⟨[], [], h, fun J F w G v hok _ hv => ?_⟩
    simp only [rep] at hv
    exact ⟨none, 0, [], hv, RowsOf.nil _, .inl ⟨rfl, rfl⟩⟩
  · exact h.elim

theorem oneCell_kit (v : Value) : v.oneCell' = oneCell v := by cases v <;> rfl

theorem src_of {J : Inj} {F : Nat → Prop} {w : World} {u e' : TypeId} {esz n c : Nat} {A : Option Addr} {ys : List (List D)} {us : List Value} (hu : P.underlying u = some (.slice e')) (hn : n = ys.length) (hr : RowsOf J F w esz ys us)
    (h : (A = none ∧ ys = []) ∨ ∃ a, A = some a ∧ ∀ j x, us[j]? = some x → w.cell? (a.add j) = some x) : Src P esz u (.slice A n c) n us w := by
  subst hn
  rcases h with ⟨rfl, rfl⟩ | ⟨a, rfl, h⟩
  · have : us = [] := List.length_eq_zero_iff.1 (by have := hr.1; simpa using this)
    subst this
    exact Src.ofNil w hu c
  · exact Src.ofSlice w hu a _ c us hr.1 h fun x hx => by rw [oneCell_kit]; exact hr.2.1 x hx

theorem grownCap_ge (w : World) (need old : Nat) (e : TypeId) : need ≤ grownCap w need old e := by
  unfold grownCap Question.cut; simp

/-- The draw before a new array. -/
theorem StOK.drew {J : Inj} {F : Nat → Prop} {w : World} {G : Nat → Option AObj} (h : StOK J F w G) : StOK J F w.drew G :=
  ⟨fun id s hi => by
    obtain ⟨o, h1, h2⟩ := h.obj id s hi
    exact ⟨o, h1, ObjOK_mono (w := w) (w' := w.drew) (Inj.le_refl J) (fun _ h => h) (fun _ _ => rfl) (fun _ _ => rfl) h2⟩, h.one, h.apart, h.lt.mono (w' := w.drew) (fun _ q => q) (fun _ _ => rfl) h.lt.lt⟩
theorem Ext.drew {J : Inj} {F : Nat → Prop} {w : World} : Ext J F w J F w.drew := ⟨rfl, rfl, rfl, Nat.le_refl _, fun _ _ _ => rfl, fun _ _ => rfl, Inj.le_refl J, fun _ h => h, fun _ h => .inl h, fun _ h => .inl h⟩
theorem rep_drew {J : Inj} {F : Nat → Prop} {w : World} {d : D} {v : Value} (h : rep J F w d v) : rep J F w.drew d v := rep_mono (w := w) (w' := w.drew) (Inj.le_refl J) (fun _ h => h) (fun _ _ => rfl) _ _ h

theorem firstCells_none' (size : Nat) (A : Option Addr) (c : Nat) (w : World) : (Builtin.firstCells size 0 (.slice A 0 c)).run P w = .ok (List.toArray []) w := by
  cases A with
  | none => exact run_firstCells_none w size 0 0 c
  | some a => exact run_firstCells_some w size 0 a 0 c [] (by simp) (by simp)

/-- The grown array: what is asked of it. -/
theorem grown_ok {J : Inj} {F : Nat → Prop} {w : World} {esz cap n : Nat} {xs : List (List D)} {us : List Value} {z : Array Value} (hr : RowsOf J F w esz xs us) (hz : z.size = esz) (hn : n = xs.length) (hcap : n ≤ cap) :
    cap * esz ≤ (us.toArray ++ Builtin.zeroCells z (cap - n)).size ∧ ∀ (j : Nat) (x : List D), xs[j]? = some x → x.length = esz ∧ ∀ (k : Nat) (c : D), x[k]? = some c → ∃ u, (us.toArray ++ Builtin.zeroCells z (cap - n))[j * esz + k]? = some u ∧ oneCell u = true ∧ rep J F w c u := by
  subst hn
  refine ⟨?_, fun j x hj => ?_⟩
  · simp only [Array.size_append, List.size_toArray, hr.1, Builtin.zeroCells, Array.size_map, Array.size_range, hz]
    rw [← Nat.add_mul]
    exact Nat.mul_le_mul_right _ (by omega)
  · obtain ⟨q1, q2⟩ := hr.2.2 j x hj
    refine ⟨q1, fun k c hc => ?_⟩
    obtain ⟨u, p1, p2, p3⟩ := q2 k c hc
    refine ⟨u, ?_, p2, p3⟩
    have hlt : j * esz + k < us.length := by
      rcases Nat.lt_or_ge (j * esz + k) us.length with h | h
      · exact h
      · rw [List.getElem?_eq_none h] at p1; cases p1
    rw [Array.getElem?_append_left (by simpa using hlt)]
    simpa using p1

theorem run_append_none' {t u e ty : TypeId} {ei : TypeInfo} (ht : P.underlying t = some (.slice e)) (hi : P.info? e = some ei) {w : World} {A : Option Addr} {sv : Value} (hs : Src P ei.size u sv 0 [] w) :
    (Builtin.append_ #[t, u] ty #[.slice A 0 0, sv]).run P w = .ok (.slice A 0 0) w := by
  rcases hs.kind with ⟨e', hk⟩ | hk <;> cases A <;> simp [Builtin.append_, run_underlying ht, run_underlying hk, sizeOf, typeInfo, hi, hs.len, hs.cells, storeCells]

/-- A slice of none becomes an own one. -/
theorem newNil_ok {J : Inj} {F : Nat → Prop} {w : World} {G : Nat → Option AObj} (h : StOK J F w G) (id : Nat) (hid : J id = none) (esz ver : Nat) :
    ∃ J', StOK J' F w (fun i => if i = id then some (.vec true ver esz []) else G i) ∧ Ext J F w J' F w ∧ (∀ i, i ≠ id → J' i = J i) ∧ rep J' F w (.own id ver 0 0) (.slice none 0 0) := by
  let J' : Inj := fun i => if i = id then some ⟨false, ver, none, esz, 0, 0⟩ else J i
  have hle : J.le J' := fun i s hs => ⟨s, by
    have : i ≠ id := fun e => by subst e; rw [hid] at hs; cases hs
    simp [J', this, hs], Nat.le_refl _, fun _ => rfl⟩
  refine ⟨J', ⟨fun i s hs => ?_, fun i i' s s' b g1 g2 g3 g4 => ?_, fun i s b o g1 g2 g3 g4 => ?_, h.lt⟩, ⟨rfl, rfl, rfl, Nat.le_refl _, fun _ _ _ => rfl, fun _ _ => rfl, hle, fun _ h => h, fun b ⟨i, s, hs, hb⟩ => ?_, fun b hb => .inl hb⟩, fun i hi => by simp [J', hi], ?_⟩
  · simp only [J'] at hs
    split at hs
    · rename_i e; subst e
      cases hs
      exact ⟨.vec true ver esz [], by simp, rfl, rfl, rfl, rfl, Nat.le_refl _, .inl rfl⟩
    · rename_i e
      obtain ⟨o, h1, h2⟩ := h.obj i s hs
      exact ⟨o, by rw [if_neg e]; exact h1, ObjOK_mono hle (fun _ h => h) (fun _ _ => rfl) (fun _ _ => rfl) h2⟩
  · simp only [J'] at g1 g2
    split at g1
    · cases g1; simp [Site.blk] at g3
    · split at g2
      · cases g2; simp [Site.blk] at g4
      · exact h.one i i' s s' b g1 g2 g3 g4
  · simp only [J'] at g1
    split at g1
    · cases g1; simp [Site.blk] at g2
    · rename_i e
      rw [if_neg e] at g3
      exact h.apart i s b o g1 g2 g3 g4
  · simp only [J'] at hs
    split at hs
    · cases hs; simp [Site.blk] at hb
    · exact .inl ⟨i, s, hs, hb⟩
  · simp only [rep]
    exact ⟨_, none, 0, 0, by simp [J']; rfl, rfl, Nat.le_refl _, fun _ => ⟨rfl, Nat.le_refl _, Nat.zero_le _, rfl, rfl, .inl rfl⟩⟩
theorem s_append_nil {t u e e' : TypeId} {ty : TypeId} {x y : Operand} {z : Value} {ys : List (List D)} {rd : List Nat} (ht : P.underlying t = some (.slice e)) (hu : P.underlying u = some (.slice e')) (hz : (P.info? e).bind (·.zero) = some z) (hzs : z.cells.size = P.cellsOf e) (hpos : 0 < P.cellsOf e) (hbp : 0 < P.bytesOf e)
    (hoty : o.type = ty) (ho : o.op = .call { callee := .builtin .append, args := #[x, y], argTypes := #[t, u] }) (hx : evalD env x = .sc (.slice none 0 0))
    (hy : ∀ (J : Inj) (F : Nat → Prop) (w : World) (G : Nat → Option AObj) (v : Value), StOK J F w G → (∀ id ∈ rd, G id = H[id]?) → rep J F w (evalD env y) v →
      ∃ A c us, v = .slice A ys.length c ∧ RowsOf J F w (P.cellsOf e) ys us ∧ ((A = none ∧ ys = []) ∨ ∃ a, A = some a ∧ ∀ j u, us[j]? = some u → w.cell? (a.add j) = some u))
    (hfit : sliceAppend 0 (P.bytesOf e) ys.length) (hK : K (.own H.length 0 0 ys.length) (H ++ [.vec true 0 (P.cellsOf e) ys]) rd [H.length]) : Sound P o env H K := by
  obtain ⟨ei, hi1, hi2⟩ := info_of_cells (e := e) (P := P) (by omega)
  have hi3 : ei.bytes = P.bytesOf e := by simp [Program.bytesOf, hi1]
  have hz' : ei.zero = some z := by simpa [hi1] using hz
  refine sound_new hK fun J F w a G hok hops hrd hn => ?_
  have k1 := hops x (by simp [ho, Op.operands, Call.operands])
  rw [hx] at k1
  simp only [rep] at k1
  obtain ⟨A, c, us, k2, k3, k4⟩ := hy J F w G _ hok hrd (hops y (by simp [ho, Op.operands, Call.operands]))
  have hsrc := src_of (P := P) (n := ys.length) (c := c) hu rfl k3 k4
  rw [← hi2] at hsrc
  have hfit' : (0 + ys.length) * ei.bytes ≤ 140737488355328 := by unfold sliceAppend at hfit; rw [hi3]; exact hfit
  rcases Nat.eq_zero_or_pos ys.length with h00 | h0
  · have hy0 : ys = [] := List.length_eq_zero_iff.1 h00
    have hus : us = [] := List.length_eq_zero_iff.1 (by rw [k3.1, hy0]; simp)
    subst hy0 hus
    have run := run_append_none' (P := P) (w := w) (A := none) (ty := ty) ht hi1 hsrc
    obtain ⟨J', r1, r2, r3, r4⟩ := newNil_ok (w := w) hok H.length hn (P.cellsOf e) 0
    refine ⟨_, _, J', F, ?_, r4, r1, r2, r3⟩
    simp only [execOp, ho, resolve, invoke, builtin, Sem.run_bind, Sem.run, pure, Result.andThen_ok, List.map_toArray, List.map_cons, List.map_nil, k1, k2, hoty]
    rw [run]
    rfl
  have hsmall : ys.length ≤ 140737488355328 := by
    have : ys.length * 1 ≤ ys.length * ei.bytes := Nat.mul_le_mul_left _ (by rw [hi3]; exact hbp)
    rw [Nat.zero_add] at hfit'; omega
  have run := run_append_grow_src (P := P) w t u ty e ei z ht hi1 hz' none 0 0 [] (by exact firstCells_none' ei.size none 0 w.drew) (.slice A ys.length c) ys.length us hsrc (by omega) (by omega) (growslice_fits (by omega) hfit')
  rw [Nat.zero_add] at run
  obtain ⟨q1, q2⟩ := grown_ok (cap := grownCap w ys.length 0 e) k3 hzs rfl (grownCap_ge w _ _ _)
  obtain ⟨J', r1, r2, r3, r4⟩ := newVec_ok (w := w.drew) (esz := P.cellsOf e) (cap := grownCap w ys.length 0 e) (xs := ys) (vals := us.toArray ++ Builtin.zeroCells z.cells (grownCap w ys.length 0 e - ys.length)) hok.drew H.length hn e (grownCap_ge w _ _ _) q1 fun j x hj => ⟨(q2 j x hj).1, fun k c hc => let ⟨u, p1, p2, p3⟩ := (q2 j x hj).2 k c hc; ⟨u, p1, p2, rep_drew p3⟩⟩
  refine ⟨_, _, J', F, ?_, r4, r1, Ext.drew.trans r2, r3⟩
  simp only [List.nil_append] at run
  simp only [execOp, ho, resolve, invoke, builtin, Sem.run_bind, Sem.run, pure, Result.andThen_ok, List.map_toArray, List.map_cons, List.map_nil, k1, k2, hoty]
  rw [run]
  rfl

theorem Inj.le_turn {J : Inj} {id : Nat} {s s' : Site} (h : J id = some s) (hr : s.row = false) (hv : s.ver < s'.ver) : J.le (fun i => if i = id then some s' else J i) := fun i t ht => by
  by_cases e : i = id
  · subst e
    rw [h] at ht; cases ht
    exact ⟨s', by simp, by omega, fun q => by rcases q with q | q; · omega
                                              · rw [hr] at q; cases q⟩
  · exact ⟨t, by simp [e, ht], Nat.le_refl _, fun _ => rfl⟩

/-- A slice's array that moves to a new block. -/
theorem moveVec_ok {J : Inj} {F : Nat → Prop} {w : World} {G : Nat → Option AObj} (h : StOK J F w G) (id : Nat) {s : Site} (hs : J id = some s) (hrow : s.row = false) {ver esz cap : Nat} (hver : s.ver < ver) {xs : List (List D)} {vals : Array Value} (te : TypeId)
    (hlen : xs.length ≤ cap) (hsz : cap * esz ≤ vals.size) (hx : ∀ (j : Nat) (x : List D), xs[j]? = some x → x.length = esz ∧ ∀ (k : Nat) (c : D), x[k]? = some c → ∃ u, vals[j * esz + k]? = some u ∧ oneCell u = true ∧ rep J F w c u) :
    ∃ J', StOK J' F (w.alloc (.cells vals te)) (fun i => if i = id then some (.vec true ver esz xs) else G i) ∧ Ext J F w J' F (w.alloc (.cells vals te)) ∧
      (∀ i, i ≠ id → J' i = J i) ∧ rep J' F (w.alloc (.cells vals te)) (.own id ver 0 xs.length) (.slice (some ⟨w.heap.size, 0, none⟩) xs.length cap) := by
  have hle := Inj.le_turn (s' := ⟨false, ver, some ⟨w.heap.size, 0, none⟩, esz, cap, xs.length⟩) hs hrow hver
  have hF : ∀ b, F b → (w.alloc (.cells vals te)).heap[b]? = w.heap[b]? := fun b hb => heap_push_lt w _ (h.lt b hb)
  have hrows : repRows (fun i => if i = id then some ⟨false, ver, some ⟨w.heap.size, 0, none⟩, esz, cap, xs.length⟩ else J i) F (w.alloc (.cells vals te)) w.heap.size esz xs 0 := by
    refine repRows_mk _ _ fun j x hj => ?_
    obtain ⟨k1, k2⟩ := hx j x hj
    refine ⟨k1, repCells_mk _ _ fun k c hc => ?_⟩
    obtain ⟨u, q1, q0, q2⟩ := k2 k c hc
    exact ⟨u, by simp [q1], q0, rep_mono hle (fun _ h => h) hF _ _ q2⟩
  have hbs : ∀ b, Site.blk ⟨false, ver, some ⟨w.heap.size, 0, none⟩, esz, cap, xs.length⟩ = some b → b = w.heap.size := fun b hb => by
    unfold Site.blk at hb
    split at hb
    · cases hb
    · simpa using hb.symm
  refine ⟨_, h.update id ⟨false, ver, some ⟨w.heap.size, 0, none⟩, esz, cap, xs.length⟩ (.vec true ver esz xs) (fun _ => rfl) (fun _ => rfl) hle hF (by simp) (fun i s b _ hi hb => heap_push_lt w _ (h.blk_lt hi hb)) (fun b hb => .inl (by rw [hbs b hb]; exact Nat.le_refl _)) (fun i s b hi hb => h.blk_lt hi hb) (fun b hb _ hFb => ?_)
    ⟨rfl, rfl, rfl, rfl, hlen, .inr ⟨w.heap.size, 0, vals, te, rfl, heap_alloc_new w _, by simpa using hsz, hrows, fun q => by cases q⟩⟩, ?_, fun i hi => by simp [hi], ?_⟩
  · have := h.lt b hFb
    rw [hbs b hb] at this; omega
  · exact ⟨rfl, rfl, rfl, by simp, fun b hb _ => heap_push_lt w _ hb, hF, hle, fun _ h => h, fun b ⟨i, t, hi, hb⟩ => by
      dsimp only at hi
      by_cases e : i = id
      · rw [if_pos e] at hi; cases hi
        exact .inr (by rw [hbs b hb]; exact Nat.le_refl _)
      · rw [if_neg e] at hi
        exact .inl ⟨i, t, hi, hb⟩, fun b hb => .inl hb⟩
  · simp only [rep]
    exact ⟨_, _, _, _, by simp; rfl, rfl, Nat.le_refl _, fun _ => ⟨rfl, Nat.zero_le _, Nat.le_refl _, by simp, by simp, .inr ⟨w.heap.size, 0, rfl, by simp⟩⟩⟩

/-- An operation that turns one slice's array. -/
theorem sound_turn {ob : AObj} {id : Nat} {d : D} {rd : List Nat} (hid : id < H.length) (hK : K d (H.set id ob) rd [id])
    (h : ∀ (J : Inj) (F : Nat → Prop) (w : World) (a : Act) (G : Nat → Option AObj), StOK J F w G → (∀ x ∈ o.op.operands, rep J F w (evalD env x) (a.eval x)) → (∀ i ∈ rd, G i = H[i]?) → G id = H[id]? →
      ∃ v w' J' F', (execOp a.eval o).run P w = .ok (.value v) w' ∧ rep J' F' w' d v ∧ StOK J' F' w' (fun i => if i = id then some ob else G i) ∧ Ext J F w J' F' w' ∧ (∀ i, i ≠ id → J' i = J i)) : Sound P o env H K := by
  refine ⟨d, H.set id ob, rd, [id], ⟨fun i hi => ?_, by simp, fun i hi => by simp at hi; simp [hi, hid], fun J F w a G hok hops hrd hnew K Q hK => ?_⟩, hK⟩
  · simp at hi
    rw [List.getElem?_set_ne (fun e => hi e.symm)]
  · obtain ⟨v, w', J', F', h1, h2, h3, h4, h5⟩ := h J F w a G hok hops (fun i hi => hrd i (.inl hi)) (hrd id (.inr (by simp)))
    have hu : upd G [id] (H.set id ob) = fun i => if i = id then some ob else G i := upd_one G _ id ob (by simp [hid])
    unfold Oper.wp
    rw [h1, Oper.upon_value]
    exact hK v w' J' F' h2 (by rw [hu]; exact h3) h4 fun i hi hn => by rw [h5 i (by simpa using hn)]; exact hi

theorem run_append_room' {t u e ty : TypeId} {ei : TypeInfo} (ht : P.underlying t = some (.slice e)) (hi : P.info? e = some ei) {w w' : World} {b off sLen sCap n : Nat} {sv : Value} {us : List Value} (hs : Src P ei.size u sv n us w) (hroom : sLen + n ≤ sCap)
    (hst : (storeCells ⟨b, off + sLen * ei.size, none⟩ us 0).run P w = .ok () w') :
    (Builtin.append_ #[t, u] ty #[.slice (some ⟨b, off, none⟩) sLen sCap, sv]).run P w = .ok (.slice (some ⟨b, off, none⟩) (sLen + n) sCap) w' := by
  rcases hs.kind with ⟨e', hk⟩ | hk <;> simp [Builtin.append_, run_underlying ht, run_underlying hk, sizeOf, typeInfo, hi, hs.len, hroom, hs.cells, add_at, hst]
theorem s_append_own {t u e e' : TypeId} {ty : TypeId} {x y : Operand} {z : Value} {ys zs : List (List D)} {rd : List Nat} {id ver lo hi : Nat} (ht : P.underlying t = some (.slice e)) (hu : P.underlying u = some (.slice e')) (hz : (P.info? e).bind (·.zero) = some z) (hzs : z.cells.size = P.cellsOf e) (hpos : 0 < P.cellsOf e) (hbp : 0 < P.bytesOf e)
    (hoty : o.type = ty) (ho : o.op = .call { callee := .builtin .append, args := #[x, y], argTypes := #[t, u] }) (hx : evalD env x = .own id ver lo hi) (hH : H[id]? = some (.vec true ver (P.cellsOf e) zs))
    (hy : ∀ (J : Inj) (F : Nat → Prop) (w : World) (G : Nat → Option AObj) (v : Value), StOK J F w G → (∀ id ∈ rd, G id = H[id]?) → rep J F w (evalD env y) v →
      ∃ A c us, v = .slice A ys.length c ∧ RowsOf J F w (P.cellsOf e) ys us ∧ ((A = none ∧ ys = []) ∨ ∃ a, A = some a ∧ ∀ j u, us[j]? = some u → w.cell? (a.add j) = some u))
    (hfit : sliceAppend (hi - lo) (P.bytesOf e) ys.length) (hK : K (.own id (ver + 1) 0 (hi - lo + ys.length)) (H.set id (.vec true (ver + 1) (P.cellsOf e) ((zs.take hi).drop lo ++ ys))) rd [id]) : Sound P o env H K := by
  obtain ⟨ei, hi1, hi2⟩ := info_of_cells (e := e) (P := P) (by omega)
  have hi3 : ei.bytes = P.bytesOf e := by simp [Program.bytesOf, hi1]
  have hz' : ei.zero = some z := by simpa [hi1] using hz
  have hidl : id < H.length := by
    rcases Nat.lt_or_ge id H.length with h | h
    · exact h
    · rw [List.getElem?_eq_none h] at hH; cases hH
  refine sound_turn hidl hK fun J F w a G hok hops hrd hG => ?_
  have k1 := hops x (by simp [ho, Op.operands, Call.operands])
  rw [hx] at k1
  simp only [rep] at k1
  obtain ⟨s, A0, n0, c0, q1, q2, q3, q4⟩ := k1
  obtain ⟨A, c, us, k2, k3, k4⟩ := hy J F w G _ hok hrd (hops y (by simp [ho, Op.operands, Call.operands]))
  have hsrc := src_of (P := P) (n := ys.length) (c := c) hu rfl k3 k4
  rw [← hi2] at hsrc
  have hfit' : (hi - lo + ys.length) * ei.bytes ≤ 140737488355328 := by unfold sliceAppend at hfit; rw [hi3]; exact hfit
  have hsmall : hi - lo + ys.length ≤ 140737488355328 := by
    have : (hi - lo + ys.length) * 1 ≤ (hi - lo + ys.length) * ei.bytes := Nat.mul_le_mul_left _ (by rw [hi3]; exact hbp)
    omega
  obtain ⟨p1, p2, p3, p4, p5, p6⟩ := vecOK hok q1 (hG.trans hH)
  obtain ⟨t1, t2, t3, t4, t5, t6⟩ := q4 p2.symm
  have P6 := Lib.hid p6
  have T6 := Lib.hid t6
  clear p6 t6 q4
  have hlen : ((zs.take hi).drop lo).length = hi - lo := by simp; omega
  have exec : ∀ r w', (Builtin.append_ #[t, u] ty #[.slice A0 n0 c0, .slice A ys.length c]).run P w = .ok r w' → (execOp a.eval o).run P w = .ok (.value r) w' := by
    intro r w' hr
    simp only [execOp, ho, resolve, invoke, builtin, Sem.run_bind, Sem.run, pure, Result.andThen_ok, List.map_toArray, List.map_cons, List.map_nil, q2, k2, hoty]
    rw [hr]
    rfl
  -- the old cells
  have hold : ∃ olds, RowsOf J F w (P.cellsOf e) ((zs.take hi).drop lo) olds ∧ (Builtin.firstCells ei.size n0 (.slice A0 n0 c0)).run P w.drew = .ok olds.toArray w.drew := by
    by_cases hc : s.cap = lo
    · have h0 : (zs.take hi).drop lo = [] := List.length_eq_zero_iff.1 (by omega)
      refine ⟨[], by rw [h0]; exact RowsOf.nil _, ?_⟩
      have hn0 : n0 = 0 := by omega
      subst hn0
      exact firstCells_none' _ _ _ _
    · rcases T6.out with h | ⟨b, o', e1, e2⟩
      · exact absurd h hc
      · rcases P6.out with h | ⟨b', o'', vals, te, e3, e4, e5, e6, _⟩
        · omega
        · rw [e1] at e3; cases e3
          obtain ⟨olds, r1, r2⟩ := repRows_vals _ _ (repRows_part e6 lo hi)
          refine ⟨olds, r1, ?_⟩
          subst e2
          refine run_firstCells_some (P := P) w.drew ei.size n0 _ n0 c0 olds (by rw [r1.1, hi2, hlen, t4]) fun j v hv => ?_
          rw [add_at, p3]
          exact r2 j v hv
  obtain ⟨olds, ho1, ho2⟩ := hold
  have hall : RowsOf J F w (P.cellsOf e) ((zs.take hi).drop lo ++ ys) (olds ++ us) := ho1.append k3
  have htot : ((zs.take hi).drop lo ++ ys).length = hi - lo + ys.length := by rw [List.length_append, hlen]
  by_cases hroom : n0 + ys.length ≤ c0
  · by_cases hc : s.cap = lo
    · have hy0 : ys = [] := List.length_eq_zero_iff.1 (by omega)
      have hn0 : n0 = 0 := by omega
      have hc0 : c0 = 0 := by omega
      have h0 : (zs.take hi).drop lo = [] := List.length_eq_zero_iff.1 (by omega)
      have hus : us = [] := List.length_eq_zero_iff.1 (by rw [k3.1, hy0]; simp)
      subst hy0 hn0 hc0 hus
      have run := exec _ _ (run_append_none' (P := P) (ty := ty) ht hi1 hsrc)
      have hle := Inj.le_turn (s' := ⟨false, ver + 1, none, P.cellsOf e, 0, 0⟩) q1 t1 (by show s.ver < ver + 1; omega)
      refine ⟨_, w, _, F, run, ?_, hok.update id ⟨false, ver + 1, none, P.cellsOf e, 0, 0⟩ _ (fun _ => rfl) (fun _ => rfl) hle (fun _ _ => rfl) (Nat.le_refl _) (fun _ _ _ _ _ _ => rfl) (fun b hb => by simp [Site.blk] at hb) (fun i s b hi hb => hok.blk_lt hi hb) (fun b hb => by simp [Site.blk] at hb) ⟨rfl, rfl, rfl, by rw [h0]; rfl, Nat.le_refl _, .inl rfl⟩, ?_, fun i hi => by simp [hi]⟩
      · simp only [rep]
        exact ⟨_, _, _, _, by simp; rfl, rfl, Nat.le_refl _, fun _ => ⟨rfl, by omega, by simp; omega, by simp; omega, by simp, .inl rfl⟩⟩
      · exact ⟨rfl, rfl, rfl, Nat.le_refl _, fun _ _ _ => rfl, fun _ _ => rfl, hle, fun _ h => h, fun b ⟨i, t, hi, hb⟩ => by
          dsimp only at hi
          by_cases e : i = id
          · rw [if_pos e] at hi; cases hi
            simp [Site.blk] at hb
          · rw [if_neg e] at hi
            exact .inl ⟨i, t, hi, hb⟩, fun b hb => .inl hb⟩
    · rcases T6.out with h | ⟨b, o', e1, e2⟩
      · exact absurd h hc
      rcases P6.out with h | ⟨b', o'', vals, te, e3, e4, e5, e6, _⟩
      · omega
      rw [e1] at e3; cases e3
      subst e2
      have hb1 : (n0 + ys.length) * P.cellsOf e ≤ (s.cap - lo) * P.cellsOf e := Nat.mul_le_mul_right _ (by omega)
      have hb2 : (s.cap - lo) * P.cellsOf e + lo * P.cellsOf e = s.cap * P.cellsOf e := by rw [← Nat.add_mul]; congr 1; omega
      have hb3 : us.length = ys.length * P.cellsOf e := k3.1
      rw [Nat.add_mul] at hb1
      obtain ⟨w', r1, r2⟩ := run_storeCells (P := P) (b := b) (o := o' + lo * s.esz + n0 * ei.size) us 0 w vals te e4 (by rw [p3, hi2]; omega) k3.2.1
      rw [Nat.add_zero] at r2
      have run := exec _ _ (run_append_room' (P := P) (ty := ty) ht hi1 hsrc hroom r1)
      have hle := Inj.le_turn (s' := ⟨false, ver + 1, some ⟨b, o' + lo * s.esz, none⟩, P.cellsOf e, s.cap - lo, hi - lo + ys.length⟩) q1 t1 (by show s.ver < ver + 1; omega)
      have hown : s.blk = some b := by
        have : ¬ (s.row = false ∧ s.cap = 0) := fun h => by omega
        simp [Site.blk, this, e1]
      have hnF : ¬ F b := hok.apart id s b _ q1 hown (hG.trans hH) rfl
      have hFw : ∀ z, F z → w'.heap[z]? = w.heap[z]? := fun z hzF => r2.other z fun e => hnF (e ▸ hzF)
      have hbs : ∀ b1, Site.blk ⟨false, ver + 1, some ⟨b, o' + lo * s.esz, none⟩, P.cellsOf e, s.cap - lo, hi - lo + ys.length⟩ = some b1 → b1 = b := fun b1 hb => by
        unfold Site.blk at hb
        split at hb
        · cases hb
        · simpa using hb.symm
      obtain ⟨vals', s1, s2, s3⟩ := r2.here
      have hrows : repRows (fun i => if i = id then some ⟨false, ver + 1, some ⟨b, o' + lo * s.esz, none⟩, P.cellsOf e, s.cap - lo, hi - lo + ys.length⟩ else J i) F w' b (P.cellsOf e) ((zs.take hi).drop lo ++ ys) (o' + lo * s.esz) := by
        obtain ⟨olds', m1, m2⟩ := repRows_vals _ _ (repRows_part e6 lo hi)
        have hm := m1.append k3
        refine RowsOf.lie (us := olds' ++ us) (hm.mono fun d v h => rep_mono hle (fun _ h => h) hFw _ _ h) fun j v hv => ?_
        have hol : olds'.length = n0 * P.cellsOf e := by rw [m1.1, hlen, t4]
        rw [r2.cell e4]
        by_cases hj : j < olds'.length
        · rw [if_neg (by rw [hi2]; omega)]
          rw [List.getElem?_append_left hj] at hv
          have := m2 j v hv
          rwa [p3]
        · rw [List.getElem?_append_right (by omega)] at hv
          have hjl : j - olds'.length < us.length := by
            rcases Nat.lt_or_ge (j - olds'.length) us.length with h | h
            · exact h
            · rw [List.getElem?_eq_none h] at hv; cases hv
          rw [if_pos (by rw [hi2]; omega), show o' + lo * s.esz + j - (o' + lo * s.esz + n0 * ei.size) = j - olds'.length by rw [hi2]; omega]
          exact hv
      refine ⟨_, w', _, F, run, ?_, hok.update id ⟨false, ver + 1, some ⟨b, o' + lo * s.esz, none⟩, P.cellsOf e, s.cap - lo, hi - lo + ys.length⟩ _ (fun _ => rfl) (fun _ => rfl) hle hFw (by rw [r2.size]; exact Nat.le_refl _) (fun i s' b' hne hi hb => r2.other b' fun e => hne (hok.one i id s' s b' hi q1 hb (e ▸ hown))) (fun b1 hb => .inr ⟨s, q1, by rw [hbs b1 hb]; exact hown⟩) (fun i s b hi hb => hok.blk_lt hi hb) (fun b1 hb _ => by rw [hbs b1 hb]; exact hnF)
        ⟨rfl, rfl, rfl, htot.symm, by show hi - lo + ys.length ≤ s.cap - lo; omega, .inr ⟨b, o' + lo * s.esz, vals', te, rfl, s1, by rw [s2, p3]; show o' + lo * P.cellsOf e + (s.cap - lo) * P.cellsOf e ≤ vals.size; omega, hrows, fun q => by cases q⟩⟩, ?_, fun i hi => by simp [hi]⟩
      · simp only [rep]
        exact ⟨_, _, _, _, by simp; rfl, rfl, Nat.le_refl _, fun _ => ⟨rfl, Nat.zero_le _, Nat.le_refl _, by simp; omega, by simp; omega, .inr ⟨b, _, rfl, by simp⟩⟩⟩
      · refine r2.ext hok hle ⟨id, s, q1, hown⟩ (fun x ⟨i, t, hi, hb⟩ => ?_) hnF
        dsimp only at hi
        by_cases e : i = id
        · rw [if_pos e] at hi; cases hi
          rw [hbs x hb]
          exact ⟨id, s, q1, hown⟩
        · rw [if_neg e] at hi
          exact ⟨i, t, hi, hb⟩
  · have run := exec _ _ (run_append_grow_src (P := P) w t u ty e ei z ht hi1 hz' A0 n0 c0 olds ho2 (.slice A ys.length c) ys.length us hsrc (by omega) (by omega) (growslice_fits (by omega) (by rw [t4]; exact hfit')))
    obtain ⟨g1, g2⟩ := grown_ok (n := n0 + ys.length) (cap := grownCap w (n0 + ys.length) c0 e) hall hzs (by rw [htot, t4]) (grownCap_ge w _ _ _)
    obtain ⟨J', r1, r2, r3, r4⟩ := moveVec_ok (w := w.drew) (ver := ver + 1) (esz := P.cellsOf e) (cap := grownCap w (n0 + ys.length) c0 e) (xs := (zs.take hi).drop lo ++ ys) (vals := (olds ++ us).toArray ++ Builtin.zeroCells z.cells (grownCap w (n0 + ys.length) c0 e - (n0 + ys.length))) hok.drew id q1 t1 (by show s.ver < ver + 1; omega) e (by rw [htot, ← t4]; exact grownCap_ge w _ _ _) g1 fun j x hj => ⟨(g2 j x hj).1, fun k c hc => let ⟨u, p1, p2, p3⟩ := (g2 j x hj).2 k c hc; ⟨u, p1, p2, rep_drew p3⟩⟩
    rw [htot] at r4
    refine ⟨_, _, J', F, run, ?_, r1, Ext.drew.trans r2, r3⟩
    rw [t4]
    rw [t4] at r4
    exact r4
end
end

/-! ### XDsc -/
section
open Go.RowKit
set_option linter.unusedSimpArgs false
set_option linter.unusedVariables false

mutual
/-- The same under other numbers. -/
def D.ren (ρ : Nat → Nat) : D → D
  | .junk => .junk
  | .sc v => .sc v
  | .loc id off => .loc (ρ id) off
  | .elt id ver i off => .elt (ρ id) ver i off
  | .ipt cs => .ipt (renL ρ cs)
  | .lst e xs => .lst e (renLL ρ xs)
  | .own id ver lo hi => .own (ρ id) ver lo hi
  | .fn f a b => .fn f (renL ρ a) (renL ρ b)
  | .ifc t d => .ifc t (D.ren ρ d)
  | .agg cs => .agg (renL ρ cs)
  | .tup cs => .tup (renL ρ cs)
  | .mp id => .mp (ρ id)
  | .gv g => .gv g
def renL (ρ : Nat → Nat) : List D → List D
  | [] => []
  | d :: r => D.ren ρ d :: renL ρ r
def renLL (ρ : Nat → Nat) : List (List D) → List (List D)
  | [] => []
  | d :: r => renL ρ d :: renLL ρ r
end
def AObj.ren (ρ : Nat → Nat) : AObj → AObj
  | .row m cs => .row m (renL ρ cs)
  | .vec m ver esz xs => .vec m ver esz (renLL ρ xs)
  | .mapo m I => .mapo m I

theorem upTo_iff (x : Nat) : ∀ n, x ∈ upTo n ↔ x < n
  | 0 => by simp [upTo]
  | n + 1 => by simp only [upTo, List.mem_cons, upTo_iff x n]; omega
theorem underO_mem {m : Nat} : ∀ {l : List AObj}, UnderO m l → ∀ o ∈ l, o.under m
  | [], _, _, h => by cases h
  | x :: r, h, o, ho => by
    simp only [UnderO] at h
    rcases List.mem_cons.1 ho with rfl | ho
    · exact h.1
    · exact underO_mem h.2 o ho

mutual
theorem under_pure {m : Nat} : ∀ d : D, Pure d → Under m d
  | .junk, _ => by simp only [Under]
  | .sc _, _ => by simp only [Under]
  | .gv _, _ => by simp only [Under]
  | .loc .., h => by simp only [Pure] at h
  | .elt .., h => by simp only [Pure] at h
  | .own .., h => by simp only [Pure] at h
  | .mp .., h => by simp only [Pure] at h
  | .ipt cs, h => by simp only [Pure] at h; simp only [Under]; exact underL_pure cs h
  | .lst _ xs, h => by simp only [Pure] at h; simp only [Under]; exact underLL_pure xs h
  | .fn _ a b, h => by simp only [Pure] at h; simp only [Under]; exact ⟨underL_pure a h.1, underL_pure b h.2⟩
  | .ifc _ d, h => by simp only [Pure] at h; simp only [Under]; exact under_pure d h
  | .agg cs, h => by simp only [Pure] at h; simp only [Under]; exact underL_pure cs h
  | .tup cs, h => by simp only [Pure] at h; simp only [Under]; exact underL_pure cs h
theorem underL_pure {m : Nat} : ∀ d : List D, PureL d → UnderL m d
  | [], _ => by simp only [UnderL]
  | d :: r, h => by simp only [PureL] at h; simp only [UnderL]; exact ⟨under_pure d h.1, underL_pure r h.2⟩
theorem underLL_pure {m : Nat} : ∀ d : List (List D), PureLL d → UnderLL m d
  | [], _ => by simp only [UnderLL]
  | d :: r, h => by simp only [PureLL] at h; simp only [UnderLL]; exact ⟨underL_pure d h.1, underLL_pure r h.2⟩
end
mutual
theorem ren_pure {ρ : Nat → Nat} : ∀ d : D, Pure d → D.ren ρ d = d
  | .junk, _ => by simp only [D.ren]
  | .sc _, _ => by simp only [D.ren]
  | .gv _, _ => by simp only [D.ren]
  | .loc .., h => by simp only [Pure] at h
  | .elt .., h => by simp only [Pure] at h
  | .own .., h => by simp only [Pure] at h
  | .mp .., h => by simp only [Pure] at h
  | .ipt cs, h => by simp only [Pure] at h; simp only [D.ren, renL_pure cs h]
  | .lst _ xs, h => by simp only [Pure] at h; simp only [D.ren, renLL_pure xs h]
  | .fn _ a b, h => by simp only [Pure] at h; simp only [D.ren, renL_pure a h.1, renL_pure b h.2]
  | .ifc _ d, h => by simp only [Pure] at h; simp only [D.ren, ren_pure d h]
  | .agg cs, h => by simp only [Pure] at h; simp only [D.ren, renL_pure cs h]
  | .tup cs, h => by simp only [Pure] at h; simp only [D.ren, renL_pure cs h]
theorem renL_pure {ρ : Nat → Nat} : ∀ d : List D, PureL d → renL ρ d = d
  | [], _ => by simp only [renL]
  | d :: r, h => by simp only [PureL] at h; simp only [renL, ren_pure d h.1, renL_pure r h.2]
theorem renLL_pure {ρ : Nat → Nat} : ∀ d : List (List D), PureLL d → renLL ρ d = d
  | [], _ => by simp only [renLL]
  | d :: r, h => by simp only [PureLL] at h; simp only [renLL, renL_pure d h.1, renLL_pure r h.2]
end

theorem renL_len {ρ : Nat → Nat} : ∀ d : List D, (renL ρ d).length = d.length
  | [] => by simp only [renL]
  | d :: r => by simp only [renL, List.length_cons, renL_len r]
theorem renLL_len {ρ : Nat → Nat} : ∀ d : List (List D), (renLL ρ d).length = d.length
  | [] => by simp only [renLL]
  | d :: r => by simp only [renLL, List.length_cons, renLL_len r]

section
variable {J : Inj} {F : Nat → Prop} {w : World} {ρ : Nat → Nat}
mutual
theorem rep_ren : ∀ (d : D) (v : Value), rep (fun i => J (ρ i)) F w d v ↔ rep J F w (D.ren ρ d) v
  | .junk, v => by simp only [D.ren, rep]
  | .sc u, v => by simp only [D.ren, rep]
  | .gv u, v => by simp only [D.ren, rep]
  | .loc .., v => by simp only [D.ren, rep]
  | .elt .., v => by simp only [D.ren, rep]
  | .own .., v => by simp only [D.ren, rep]
  | .mp .., v => by simp only [D.ren, rep]
  | .ipt cs, v => by
    simp only [D.ren, rep]
    exact ⟨fun ⟨b, o, h1, h2, h3⟩ => ⟨b, o, h1, h2, (repCells_ren b cs o).1 h3⟩, fun ⟨b, o, h1, h2, h3⟩ => ⟨b, o, h1, h2, (repCells_ren b cs o).2 h3⟩⟩
  | .lst e xs, v => by
    simp only [D.ren, rep, renLL_len]
    exact ⟨fun ⟨A, n, c, h1, h2, h3, h4⟩ => ⟨A, n, c, h1, h2, h3, h4.imp_right fun ⟨b, o, k1, k2, k3⟩ => ⟨b, o, k1, k2, (repRows_ren b e xs o).1 k3⟩⟩,
      fun ⟨A, n, c, h1, h2, h3, h4⟩ => ⟨A, n, c, h1, h2, h3, h4.imp_right fun ⟨b, o, k1, k2, k3⟩ => ⟨b, o, k1, k2, (repRows_ren b e xs o).2 k3⟩⟩⟩
  | .fn f a b, v => by
    simp only [D.ren, rep]
    exact ⟨fun ⟨vs, us, h1, h2, h3⟩ => ⟨vs, us, h1, (repL_ren a vs).1 h2, (repL_ren b us).1 h3⟩, fun ⟨vs, us, h1, h2, h3⟩ => ⟨vs, us, h1, (repL_ren a vs).2 h2, (repL_ren b us).2 h3⟩⟩
  | .ifc t d, v => by
    simp only [D.ren, rep]
    exact ⟨fun ⟨u, h1, h2⟩ => ⟨u, h1, (rep_ren d u).1 h2⟩, fun ⟨u, h1, h2⟩ => ⟨u, h1, (rep_ren d u).2 h2⟩⟩
  | .agg cs, v => by
    simp only [D.ren, rep]
    exact ⟨fun ⟨vs, h1, h2⟩ => ⟨vs, h1, (repL_ren cs vs).1 h2⟩, fun ⟨vs, h1, h2⟩ => ⟨vs, h1, (repL_ren cs vs).2 h2⟩⟩
  | .tup cs, v => by
    simp only [D.ren, rep]
    exact ⟨fun ⟨vs, h1, h2⟩ => ⟨vs, h1, (repL_ren cs vs).1 h2⟩, fun ⟨vs, h1, h2⟩ => ⟨vs, h1, (repL_ren cs vs).2 h2⟩⟩
theorem repL_ren : ∀ (d : List D) (v : List Value), repL (fun i => J (ρ i)) F w d v ↔ repL J F w (renL ρ d) v
  | [], v => by simp only [renL, repL]
  | d :: r, v => by
    simp only [renL, repL]
    exact ⟨fun ⟨u, us, h1, h2, h3⟩ => ⟨u, us, h1, (rep_ren d u).1 h2, (repL_ren r us).1 h3⟩, fun ⟨u, us, h1, h2, h3⟩ => ⟨u, us, h1, (rep_ren d u).2 h2, (repL_ren r us).2 h3⟩⟩
theorem repCells_ren (b : Nat) : ∀ (d : List D) (o : Nat), repCells (fun i => J (ρ i)) F w b d o ↔ repCells J F w b (renL ρ d) o
  | [], o => by simp only [renL, repCells]
  | d :: r, o => by
    simp only [renL, repCells]
    exact ⟨fun ⟨⟨u, h1, h2, h3⟩, h4⟩ => ⟨⟨u, h1, h2, (rep_ren d u).1 h3⟩, (repCells_ren b r (o + 1)).1 h4⟩, fun ⟨⟨u, h1, h2, h3⟩, h4⟩ => ⟨⟨u, h1, h2, (rep_ren d u).2 h3⟩, (repCells_ren b r (o + 1)).2 h4⟩⟩
theorem repRows_ren (b esz : Nat) : ∀ (d : List (List D)) (o : Nat), repRows (fun i => J (ρ i)) F w b esz d o ↔ repRows J F w b esz (renLL ρ d) o
  | [], o => by simp only [renLL, repRows]
  | d :: r, o => by
    simp only [renLL, repRows, renL_len]
    exact ⟨fun ⟨h1, h2, h3⟩ => ⟨h1, (repCells_ren b d o).1 h2, (repRows_ren b esz r (o + esz)).1 h3⟩, fun ⟨h1, h2, h3⟩ => ⟨h1, (repCells_ren b d o).2 h2, (repRows_ren b esz r (o + esz)).2 h3⟩⟩
end
theorem objOK_ren {s : Site} {o : AObj} : ObjOK (fun i => J (ρ i)) F w s o ↔ ObjOK J F w s (o.ren ρ) := by
  cases o with
  | row m cs =>
    simp only [AObj.ren, ObjOK, renL_len]
    exact ⟨fun ⟨h1, h2, h3, h4, h5, b, vals, te, k1, k2, k3, k4, k5⟩ => ⟨h1, h2, h3, h4, h5, b, vals, te, k1, k2, k3, (repCells_ren b cs 0).1 k4, k5⟩, fun ⟨h1, h2, h3, h4, h5, b, vals, te, k1, k2, k3, k4, k5⟩ => ⟨h1, h2, h3, h4, h5, b, vals, te, k1, k2, k3, (repCells_ren b cs 0).2 k4, k5⟩⟩
  | vec m ver esz xs =>
    simp only [AObj.ren, ObjOK, renLL_len]
    exact ⟨fun ⟨h1, h2, h3, h4, h5, h6⟩ => ⟨h1, h2, h3, h4, h5, h6.imp_right fun ⟨b, o, vals, te, k1, k2, k3, k4, k5⟩ => ⟨b, o, vals, te, k1, k2, k3, (repRows_ren b esz xs o).1 k4, k5⟩⟩,
      fun ⟨h1, h2, h3, h4, h5, h6⟩ => ⟨h1, h2, h3, h4, h5, h6.imp_right fun ⟨b, o, vals, te, k1, k2, k3, k4, k5⟩ => ⟨b, o, vals, te, k1, k2, k3, (repRows_ren b esz xs o).2 k4, k5⟩⟩⟩
  | mapo m I => exact Iff.rfl
theorem mut_ren {o : AObj} : (o.ren ρ).mut = o.mut := by cases o <;> rfl
end

/-! ### Objects that are forgotten -/
def keepTo (m : Nat) (J : Inj) : Inj := fun i => if i < m then J i else none
section
variable {J : Inj} {F : Nat → Prop} {w : World} {m : Nat}
mutual
theorem rep_keep : ∀ (d : D) (v : Value), Under m d → rep J F w d v → rep (keepTo m J) F w d v
  | .junk, v, _, _ => by simp only [rep]
  | .sc u, v, _, h => by simpa only [rep] using h
  | .gv u, v, _, h => by simpa only [rep] using h
  | .loc id off, v, hu, h => by
    simp only [Under] at hu
    simp only [rep, keepTo, if_pos hu] at h ⊢
    exact h
  | .elt id ver i off, v, hu, h => by
    simp only [Under] at hu
    simp only [rep, keepTo, if_pos hu] at h ⊢
    exact h
  | .own id ver lo hi, v, hu, h => by
    simp only [Under] at hu
    simp only [rep, keepTo, if_pos hu] at h ⊢
    exact h
  | .mp id, v, hu, h => by
    simp only [Under] at hu
    simp only [rep, keepTo, if_pos hu] at h ⊢
    exact h
  | .ipt cs, v, hu, h => by
    simp only [Under] at hu
    simp only [rep] at h ⊢
    obtain ⟨b, o, h1, h2, h3⟩ := h
    exact ⟨b, o, h1, h2, repCells_keep b cs o hu h3⟩
  | .lst e xs, v, hu, h => by
    simp only [Under] at hu
    simp only [rep] at h ⊢
    obtain ⟨A, n, c, h1, h2, h3, h4⟩ := h
    exact ⟨A, n, c, h1, h2, h3, h4.imp_right fun ⟨b, o, k1, k2, k3⟩ => ⟨b, o, k1, k2, repRows_keep b e xs o hu k3⟩⟩
  | .fn f a b, v, hu, h => by
    simp only [Under] at hu
    simp only [rep] at h ⊢
    obtain ⟨vs, us, h1, h2, h3⟩ := h
    exact ⟨vs, us, h1, repL_keep a vs hu.1 h2, repL_keep b us hu.2 h3⟩
  | .ifc t d, v, hu, h => by
    simp only [Under] at hu
    simp only [rep] at h ⊢
    obtain ⟨u, h1, h2⟩ := h
    exact ⟨u, h1, rep_keep d u hu h2⟩
  | .agg cs, v, hu, h => by
    simp only [Under] at hu
    simp only [rep] at h ⊢
    obtain ⟨vs, h1, h2⟩ := h
    exact ⟨vs, h1, repL_keep cs vs hu h2⟩
  | .tup cs, v, hu, h => by
    simp only [Under] at hu
    simp only [rep] at h ⊢
    obtain ⟨vs, h1, h2⟩ := h
    exact ⟨vs, h1, repL_keep cs vs hu h2⟩
theorem repL_keep : ∀ (d : List D) (v : List Value), UnderL m d → repL J F w d v → repL (keepTo m J) F w d v
  | [], v, _, h => by simpa only [repL] using h
  | d :: r, v, hu, h => by
    simp only [UnderL] at hu
    simp only [repL] at h ⊢
    obtain ⟨u, us, h1, h2, h3⟩ := h
    exact ⟨u, us, h1, rep_keep d u hu.1 h2, repL_keep r us hu.2 h3⟩
theorem repCells_keep (b : Nat) : ∀ (d : List D) (o : Nat), UnderL m d → repCells J F w b d o → repCells (keepTo m J) F w b d o
  | [], o, _, h => by simp only [repCells]
  | d :: r, o, hu, h => by
    simp only [UnderL] at hu
    simp only [repCells] at h ⊢
    obtain ⟨⟨u, h1, h2, h3⟩, h4⟩ := h
    exact ⟨⟨u, h1, h2, rep_keep d u hu.1 h3⟩, repCells_keep b r (o + 1) hu.2 h4⟩
theorem repRows_keep (b esz : Nat) : ∀ (d : List (List D)) (o : Nat), UnderLL m d → repRows J F w b esz d o → repRows (keepTo m J) F w b esz d o
  | [], o, _, h => by simp only [repRows]
  | d :: r, o, hu, h => by
    simp only [UnderLL] at hu
    simp only [repRows] at h ⊢
    exact ⟨h.1, repCells_keep b d o hu.1 h.2.1, repRows_keep b esz r (o + esz) hu.2 h.2.2⟩
end
theorem objOK_keep {s : Site} {o : AObj} (hu : o.under m) (h : ObjOK J F w s o) : ObjOK (keepTo m J) F w s o := by
  cases o with
  | row q cs =>
    obtain ⟨h1, h2, h3, h4, h5, b, vals, te, k1, k2, k3, k4, k5⟩ := h
    exact ⟨h1, h2, h3, h4, h5, b, vals, te, k1, k2, k3, repCells_keep b cs 0 hu k4, k5⟩
  | vec q ver esz xs =>
    obtain ⟨h1, h2, h3, h4, h5, h6⟩ := h
    exact ⟨h1, h2, h3, h4, h5, h6.imp_right fun ⟨b, o, vals, te, k1, k2, k3, k4, k5⟩ => ⟨b, o, vals, te, k1, k2, k3, repRows_keep b esz xs o hu k4, k5⟩⟩
  | mapo q I => exact h
end


mutual
theorem ren_id : ∀ d : D, D.ren (fun i => i) d = d
  | .junk | .sc _ | .gv _ | .loc .. | .elt .. | .own .. | .mp .. => by simp only [D.ren]
  | .ipt cs => by simp only [D.ren, renL_id cs]
  | .lst e xs => by simp only [D.ren, renLL_id xs]
  | .fn f a b => by simp only [D.ren, renL_id a, renL_id b]
  | .ifc t d => by simp only [D.ren, ren_id d]
  | .agg cs => by simp only [D.ren, renL_id cs]
  | .tup cs => by simp only [D.ren, renL_id cs]
theorem renL_id : ∀ d : List D, renL (fun i => i) d = d
  | [] => by simp only [renL]
  | d :: r => by simp only [renL, ren_id d, renL_id r]
theorem renLL_id : ∀ d : List (List D), renLL (fun i => i) d = d
  | [] => by simp only [renLL]
  | d :: r => by simp only [renLL, renL_id d, renLL_id r]
end
theorem oren_id (o : AObj) : o.ren (fun i => i) = o := by cases o <;> simp only [AObj.ren, renL_id, renLL_id]

open Classical in
/-- Which number was this before? -/
noncomputable def back (ρ : Nat → Nat) (n : Nat) (id : Nat) : Option Nat := if h : ∃ i, i < n ∧ ρ i = id then some (Classical.choose h) else none
theorem back_some {ρ : Nat → Nat} {n id i : Nat} (h : back ρ n id = some i) : i < n ∧ ρ i = id := by
  unfold back at h
  split at h
  · rename_i hh
    cases h
    exact Classical.choose_spec hh
  · cases h
theorem back_none {ρ : Nat → Nat} {n id : Nat} (h : back ρ n id = none) : ∀ i, i < n → ρ i ≠ id := by
  unfold back at h
  split at h
  · cases h
  · rename_i hh
    exact fun i hi e => hh ⟨i, hi, e⟩
theorem back_of {ρ : Nat → Nat} {n i : Nat} (inj : ∀ i j, i < n → j < n → ρ i = ρ j → i = j) (hi : i < n) : back ρ n (ρ i) = some i := by
  cases h : back ρ n (ρ i) with
  | none => exact absurd rfl (back_none h i hi)
  | some j =>
    obtain ⟨h1, h2⟩ := back_some h
    rw [inj j i h1 hi h2]

section
variable {P : Program} {f : FuncId}
theorem get_lt {α : Type} {l : List α} {i : Nat} {x : α} (h : l[i]? = some x) : i < l.length := by
  rcases Nat.lt_or_ge i l.length with q | q
  · exact q
  · rw [List.getElem?_eq_none q] at h; cases h

theorem acall_core {args : List D} {H0 H0' : List AObj} {d : D} (ρ : Nat → Nat) (hA : ACall P f args H0 d H0') (inj : ∀ i j, i < H0'.length → j < H0'.length → ρ i = ρ j → i = j) {J : Inj} {F : Nat → Prop} {w : World} {vs : List Value} {G G' : Nat → Option AObj} (hst : StOK J F w G)
    (hold : ∀ i o, H0[i]? = some o → G (ρ i) = some (o.ren ρ)) (hnew : ∀ i, H0.length ≤ i → i < H0'.length → J (ρ i) = none) (hrep : repL J F w (renL ρ args) vs)
    (h1 : ∀ i o, H0'[i]? = some o → G' (ρ i) = some (o.ren ρ)) (h2 : ∀ j, (∀ i, i < H0'.length → ρ i ≠ j) → G' j = G j)
    (hargs : UnderL H0.length args) (hobj : ∀ o ∈ H0, o.under H0.length) :
    Calls P f vs.toArray w fun e w' => ∃ v J' F', e = .returned v ∧ StOK J' F' w' G' ∧ (∀ id, J' id ≠ none → J id ≠ none ∨ ∃ i, i < H0'.length ∧ ρ i = id) ∧ rep J' F' w' (D.ren ρ d) v ∧ Ext J F w J' F' w' := by
  obtain ⟨hok, hl0, hrun⟩ := hA
  have h0get : ∀ i, i < H0.length → H0[i]? = some (H0[i]!) := fun i hi => by rw [List.getElem!_eq_getElem?_getD, List.getElem?_eq_getElem hi]; rfl
  have hst0 : StOK (keepTo H0.length fun i => J (ρ i)) F w (fun i => H0[i]?) := by
    refine ⟨fun i s hs => ?_, fun i i' s s' b g1 g2 g3 g4 => ?_, fun i s b o g1 g2 g3 g4 => ?_, hst.lt⟩
    · unfold keepTo at hs
      split at hs
      · rename_i hi
        have ho := h0get i hi
        refine ⟨_, ho, objOK_keep (hobj _ (List.mem_of_getElem? ho)) (objOK_ren.2 ?_)⟩
        obtain ⟨o', q1, q2⟩ := hst.obj (ρ i) s hs
        rw [hold i _ ho] at q1
        cases q1
        exact q2
      · cases hs
    · unfold keepTo at g1 g2
      split at g1 <;> split at g2
      · exact inj i i' (by omega) (by omega) (hst.one (ρ i) (ρ i') s s' b g1 g2 g3 g4)
      all_goals first | cases g1 | cases g2
    · unfold keepTo at g1
      split at g1
      · exact hst.apart (ρ i) s b (o.ren ρ) g1 g2 (hold i o g3) (by rw [mut_ren]; exact g4)
      · cases g1
  have hd0 : ∀ id, keepTo H0.length (fun i => J (ρ i)) id ≠ none → id < H0.length := fun id hid => by
    unfold keepTo at hid
    split at hid
    · assumption
    · exact absurd rfl hid
  have hr0 : repL (keepTo H0.length fun i => J (ρ i)) F w args vs := repL_keep _ _ hargs ((repL_ren args vs).2 hrep)
  have own0 : ∀ b, Owns (keepTo H0.length fun i => J (ρ i)) b → ∃ i s, i < H0.length ∧ J (ρ i) = some s ∧ s.blk = some b := fun b ⟨i, s, hs, hb⟩ => by
    unfold keepTo at hs
    split at hs
    · exact ⟨i, s, by assumption, hs, hb⟩
    · cases hs
  have main := hrun _ F w vs hst0 hd0 hr0
  refine Calls.mono main fun e w' ⟨v, J0', F', he, st', dom', rp', ex⟩ => ?_
  let J' : Inj := fun id => match back ρ H0'.length id with | some i => J0' i | none => J id
  have jat : ∀ i, i < H0'.length → J' (ρ i) = J0' i := fun i hi => by simp only [J', back_of inj hi]
  have jno : ∀ id, back ρ H0'.length id = none → J' id = J id := fun id h => by simp only [J', h]
  have hle : J.le J' := fun id s hs => by
    cases e : back ρ H0'.length id with
    | none => exact ⟨s, by rw [jno id e]; exact hs, Nat.le_refl _, fun _ => rfl⟩
    | some i =>
      obtain ⟨k1, rfl⟩ := back_some e
      have hi : i < H0.length := by
        rcases Nat.lt_or_ge i H0.length with q | q
        · exact q
        · rw [hnew i q k1] at hs; cases hs
      obtain ⟨s', g1, g2⟩ := ex.le i s (by simp only [keepTo, if_pos hi]; exact hs)
      exact ⟨s', by rw [jat i k1]; exact g1, g2⟩
  have hleρ : J0'.le (fun i => J' (ρ i)) := fun i s hs => ⟨s, by
    dsimp only
    rw [jat i (dom' i (by rw [hs]; simp))]; exact hs, Nat.le_refl _, fun _ => rfl⟩
  have nown : ∀ id s b, back ρ H0'.length id = none → J id = some s → s.blk = some b → ¬ Owns (keepTo H0.length fun i => J (ρ i)) b := fun id s b hb hs hblk ho => by
    obtain ⟨i, s', k1, k2, k3⟩ := own0 b ho
    exact back_none hb i (by omega) (hst.one (ρ i) id s' s b k2 hs k3 hblk)
  refine ⟨v, J', F', he, ⟨fun id s hs => ?_, fun id id' s s' b g1 g2 g3 g4 => ?_, fun id s b o g1 g2 g3 g4 => ?_, st'.lt⟩, fun id hid => ?_, (rep_ren d v).1 (rep_mono hleρ (fun _ h => h) (fun _ _ => rfl) _ _ rp'), ?_⟩
  · cases e : back ρ H0'.length id with
    | some i =>
      obtain ⟨k1, rfl⟩ := back_some e
      rw [jat i k1] at hs
      obtain ⟨o, q1, q2⟩ := st'.obj i s hs
      exact ⟨o.ren ρ, h1 i o q1, objOK_ren.1 (ObjOK_mono hleρ (fun _ h => h) (fun _ _ => rfl) (fun _ _ => rfl) q2)⟩
    | none =>
      rw [jno id e] at hs
      obtain ⟨o, q1, q2⟩ := hst.obj id s hs
      refine ⟨o, ?_, ObjOK_mono hle ex.grow ex.frozen (fun b hb => ex.block b (hst.blk_lt hs hb) (nown id s b e hs hb)) q2⟩
      rw [h2 id fun i hi => back_none e i hi]
      exact q1
  · cases e : back ρ H0'.length id with
    | some i =>
      obtain ⟨k1, rfl⟩ := back_some e
      rw [jat i k1] at g1
      cases e' : back ρ H0'.length id' with
      | some i' =>
        obtain ⟨k1', rfl⟩ := back_some e'
        rw [jat i' k1'] at g2
        rw [st'.one i i' s s' b g1 g2 g3 g4]
      | none =>
        rw [jno id' e'] at g2
        rcases ex.ownsBack b ⟨i, s, g1, g3⟩ with q | q
        · exact absurd q (nown id' s' b e' g2 g4)
        · have := hst.blk_lt g2 g4; omega
    | none =>
      rw [jno id e] at g1
      cases e' : back ρ H0'.length id' with
      | some i' =>
        obtain ⟨k1', rfl⟩ := back_some e'
        rw [jat i' k1'] at g2
        rcases ex.ownsBack b ⟨i', s', g2, g4⟩ with q | q
        · exact absurd q (nown id s b e g1 g3)
        · have := hst.blk_lt g1 g3; omega
      | none =>
        rw [jno id' e'] at g2
        exact hst.one id id' s s' b g1 g2 g3 g4
  · have g3' : G' id = some o := g3
    cases e : back ρ H0'.length id with
    | some i =>
      obtain ⟨k1, rfl⟩ := back_some e
      rw [jat i k1] at g1
      obtain ⟨o0, q1, _⟩ := st'.obj i s g1
      rw [h1 i o0 q1] at g3'
      cases g3'
      exact st'.apart i s b o0 g1 g2 q1 (by rw [mut_ren] at g4; exact g4)
    | none =>
      rw [jno id e] at g1
      rw [h2 id fun i hi => back_none e i hi] at g3'
      intro hx
      rcases ex.growBack b hx with q | q | q
      · exact hst.apart id s b o g1 g2 g3' g4 q
      · exact nown id s b e g1 g2 q
      · have := hst.blk_lt g1 g2; omega
  · cases e : back ρ H0'.length id with
    | some i =>
      obtain ⟨k1, rfl⟩ := back_some e
      exact .inr ⟨i, k1, rfl⟩
    | none =>
      rw [jno id e] at hid
      exact .inl hid
  · refine ⟨ex.os, ex.tape, ex.output, ex.size, fun b hb hn => ex.block b hb fun ho => ?_, ex.frozen, hle, ex.grow, fun b ⟨id, s, hs, hb⟩ => ?_, fun b hb => ?_⟩
    · obtain ⟨i, s, _, k2, k3⟩ := own0 b ho
      exact hn ⟨ρ i, s, k2, k3⟩
    · cases e : back ρ H0'.length id with
      | some i =>
        obtain ⟨k1, rfl⟩ := back_some e
        rw [jat i k1] at hs
        refine (ex.ownsBack b ⟨i, s, hs, hb⟩).imp_left fun q => ?_
        obtain ⟨k, s', _, k2, k3⟩ := own0 b q
        exact ⟨ρ k, s', k2, k3⟩
      | none =>
        rw [jno id e] at hs
        exact .inl ⟨id, s, hs, hb⟩
    · rcases ex.growBack b hb with q | q | q
      · exact .inl q
      · obtain ⟨k, s', _, k2, k3⟩ := own0 b q
        exact .inr (.inl ⟨ρ k, s', k2, k3⟩)
      · exact .inr (.inr q)

end
end

/-! ### XDsm -/
section
open Go.RowKit
set_option linter.unusedSimpArgs false
set_option linter.unusedVariables false
section
variable {P : Program} {seq : Bool} {o : Oper} {env : Env} {H : List AObj} {K : Cont}
theorem s_conv {src dst : TypeId} {k0 k : IntKind} {x : Operand} (hs : P.underlying src = some (.int k0)) (hd : P.underlying dst = some (.int k)) (ho : o.op = .convert src dst x) (h : step P seq (.conv k x) env H K) : Sound P o env H K := by
  simp only [step, evK_eq] at h
  split at h
  · rename_i q n e
    refine sound_value (arithK_iff _ _ _ h) fun J F w a G _ hops _ => ⟨_, ?_, rfl⟩
    have k1 := hops x (by simp [ho, Op.operands])
    rw [e] at k1
    simp only [rep] at k1
    simp [execOp, ho, k1, convert, underlying, program, Sem.run, hs, hd, Conv.intToInt, pure]
  · exact h.elim
theorem s_max {args : Array Operand} {ts : Array TypeId} {x y : Operand} (ha : args.toList = [x, y]) (ho : o.op = .call { callee := .builtin .max, args := args, argTypes := ts }) (h : step P seq (.mx true x y) env H K) : Sound P o env H K := by
  obtain ⟨args⟩ := args
  simp only at ha
  subst ha
  simp only [step, evK_eq] at h
  split at h
  · rename_i k n e1
    split at h
    · rename_i k' m e2
      refine sound_value h fun J F w a G _ hops _ => ⟨_, ?_, rfl⟩
      have k1 := hops x (by simp [ho, Op.operands, Call.operands])
      have k2 := hops y (by simp [ho, Op.operands, Call.operands])
      rw [e1] at k1
      rw [e2] at k2
      simp only [rep] at k1 k2
      have e : (if m > n then m else n) = max n m := by omega
      simp only [execOp, ho, resolve, invoke, builtin, Sem.run_bind, Sem.run, pure, Result.andThen_ok, List.map_toArray, List.map_cons, List.map_nil, k1, k2]
      have hr := Go.run_max_int2 (P := P) w ts o.type k k' n m
      rw [e] at hr
      rw [hr]
      rfl
    · exact h.elim
  · exact h.elim
theorem s_min {args : Array Operand} {ts : Array TypeId} {x y : Operand} (ha : args.toList = [x, y]) (ho : o.op = .call { callee := .builtin .min, args := args, argTypes := ts }) (h : step P seq (.mx false x y) env H K) : Sound P o env H K := by
  obtain ⟨args⟩ := args
  simp only at ha
  subst ha
  simp only [step, evK_eq] at h
  split at h
  · rename_i k n e1
    split at h
    · rename_i k' m e2
      refine sound_value h fun J F w a G _ hops _ => ⟨_, ?_, rfl⟩
      have k1 := hops x (by simp [ho, Op.operands, Call.operands])
      have k2 := hops y (by simp [ho, Op.operands, Call.operands])
      rw [e1] at k1
      rw [e2] at k2
      simp only [rep] at k1 k2
      have e : (if m < n then m else n) = min n m := by omega
      simp only [execOp, ho, resolve, invoke, builtin, Sem.run_bind, Sem.run, pure, Result.andThen_ok, List.map_toArray, List.map_cons, List.map_nil, k1, k2]
      have hr := Go.run_min_int2 (P := P) w ts o.type k k' n m
      rw [e] at hr
      rw [hr]
      rfl
    · exact h.elim
  · exact h.elim
theorem scV_repL {J : Inj} {F : Nat → Prop} {w : World} : ∀ (cs : List D) (vs : List Value), areScalar cs = true → repL J F w cs vs → vs = cs.map scV
  | [], vs, _, h => by simp only [repL] at h; simp [h]
  | d :: r, vs, h, k => by
    simp only [repL] at k
    obtain ⟨v, us, rfl, h1, h2⟩ := k
    simp only [areScalar] at h
    cases d with
    | sc u =>
      simp only [isScalar] at h
      simp only [rep] at h1
      subst h1
      rw [List.map_cons, ← scV_repL r us h h2]
      rfl
    | _ => simp [isScalar] at h
theorem keyK_run {d : D} {K' : Value → Prop} (h : keyK d K') : ∃ key, K' key ∧ ∀ (J : Inj) (F : Nat → Prop) (w : World) (v : Value), rep J F w d v → v = key := by
  unfold keyK at h
  split at h
  · rename_i u
    exact ⟨u, h, fun J F w v hv => by simpa only [rep] using hv⟩
  · rename_i cs
    refine ⟨_, h.2, fun J F w v hv => ?_⟩
    simp only [rep] at hv
    obtain ⟨vs, rfl, k⟩ := hv
    rw [scV_repL cs vs h.1 k]
  · exact h.elim
theorem s_mkmap {t kt : TypeId} (ho : o.op = .makeMap t none) (h : step P seq (.mkmap kt) env H K) : Sound P o env H K := by
  simp only [step, hpushK_iff] at h
  refine sound_new h fun J F w a G hok hops hrd hn => ?_
  obtain ⟨h1, h2⟩ := hok.allocO H.length hn ⟨true, 0, some ⟨w.heap.size, 0, none⟩, 1, 1, 1⟩ (.mapo true (mapIs P kt fun _ => none)) (.map #[] 0) rfl
    ⟨rfl, w.heap.size, #[], 0, rfl, heap_alloc_new w _, by simp, by simp, by simp⟩
  refine ⟨.map (some w.heap.size), _, _, F, ?_, ?_, h1, h2, fun i hi => by simp [hi]⟩
  · simp only [execOp, ho, Option.map_none, Sem.run_bind, run_makeMap, Result.andThen_ok]
    rfl
  · simp only [rep]
    exact ⟨_, w.heap.size, by simp; rfl, rfl, rfl, rfl⟩
/-- A map in memory. -/
theorem mapOK {J : Inj} {F : Nat → Prop} {w : World} {G : Nat → Option AObj} (h : StOK J F w G) {id : Nat} {v : Value} {m : Bool} {I : Array MapEntry → Prop} (h1 : rep J F w (.mp id) v) (h3 : G id = some (.mapo m I)) :
    ∃ s b es clock, J id = some s ∧ s.row = true ∧ s.ad = some ⟨b, 0, none⟩ ∧ v = .map (some b) ∧ w.heap[b]? = some (.map es clock) ∧ I es := by
  simp only [rep] at h1
  obtain ⟨s, b, q1, q2, q3, rfl⟩ := h1
  obtain ⟨o, k1, k2⟩ := h.obj id s q1
  rw [h3] at k1
  cases k1
  obtain ⟨_, b', es, clock, p1, p2, p3⟩ := k2
  rw [q3] at p1
  cases p1
  exact ⟨s, b, es, clock, q1, q2, q3, rfl, p2, p3⟩
theorem s_look {t kt e : TypeId} {z : Value} {m x : Operand} (ht : P.underlying t = some (.map kt e)) (hz : (P.info? e).bind (·.zero) = some z) (hz1 : oneCell z = true) (ho : o.op = .lookup t m x true) (h : step P seq (.look kt z m x) env H K) : Sound P o env H K := by
  simp only [step, evK_eq] at h
  split at h
  · rename_i id e1
    obtain ⟨ob, h1, h2⟩ := (hgetK_iff _ _ _).1 h
    split at h2
    · rename_i mm I
      obtain ⟨key, ⟨f, rfl, Kd, ⟨l, hl⟩, hS, hN⟩, hkey⟩ := keyK_run h2
      have go : ∀ (ok : Bool) (v : Value), (∀ (J : Inj) (F : Nat → Prop) (w : World) (a : Act) (b : Nat) (es : Array MapEntry) (clock : Nat), w.heap[b]? = some (.map es clock) → mapIs P kt f es → (Instr.lookup t (.map (some b)) key true).run P w = .ok (.tuple #[v, .bool ok]) w) →
          K (.tup [.sc v, .sc (.bool ok)]) H [id] [] → Sound P o env H K := fun ok v hrun hK => by
        refine sound_value hK fun J F w a G hok hops hrd => ?_
        have k1 := hops m (by simp [ho, Op.operands])
        have k2 := hkey J F w _ (hops x (by simp [ho, Op.operands]))
        rw [e1] at k1
        obtain ⟨s, b, es, clock, q1, q2, q3, q4, q5, q6⟩ := mapOK hok k1 (by rw [hrd id (by simp)]; exact h1)
        refine ⟨.tuple #[v, .bool ok], ?_, ?_⟩
        · simp [execOp, ho, q4, k2, hrun J F w a b es clock q5 q6, Sem.run, pure]
        · simp only [rep]
          exact ⟨[v, .bool ok], rfl, by simp only [repL]; exact ⟨v, [.bool ok], rfl, by simp only [rep], .bool ok, [], rfl, by simp only [rep], rfl⟩⟩
      cases hf : f key with
      | some v =>
        refine go true v (fun J F w a b es clock hb hI => ?_) (hS v hf)
        obtain ⟨i1, i2, i3⟩ := hI
        rcases Kd.find w hl es.toList i1 with ⟨g1, g2⟩ | ⟨j, e0, g1, g2, g3⟩
        · obtain ⟨e0, g3, g4⟩ := i3 key v hf
          exact absurd g4 (g2 e0 g3)
        · have := i2 e0 (List.mem_of_getElem? g2)
          rw [g3, hf] at this
          cases this
          simp [Instr.lookup, run_underlying ht, MapKept.run_getObj_map hb, Kd.check w _ hl, g1, Result.andThen]
      | none =>
        refine go false z (fun J F w a b es clock hb hI => ?_) (hN hf)
        obtain ⟨i1, i2, i3⟩ := hI
        rcases Kd.find w hl es.toList i1 with ⟨g1, g2⟩ | ⟨j, e0, g1, g2, g3⟩
        · simp [Instr.lookup, run_underlying ht, MapKept.run_getObj_map hb, Kd.check w _ hl, g1, run_zeroValue hz, Result.andThen]
        · have := i2 e0 (List.mem_of_getElem? g2)
          rw [g3, hf] at this
          cases this
    · exact h2.elim
  · exact h.elim
theorem s_lookv {t kt e : TypeId} {m x : Operand} (ht : P.underlying t = some (.map kt e)) (ho : o.op = .lookup t m x false) (h : step P seq (.lookv kt m x) env H K) : Sound P o env H K := by
  simp only [step, evK_eq] at h
  split at h
  · rename_i id e1
    obtain ⟨ob, h1, h2⟩ := (hgetK_iff _ _ _).1 h
    split at h2
    · rename_i mm I
      obtain ⟨key, ⟨f, rfl, Kd, ⟨l, hl⟩, v, hf, hK⟩, hkey⟩ := keyK_run h2
      refine sound_value hK fun J F w a G hok hops hrd => ?_
      have k1 := hops m (by simp [ho, Op.operands])
      have k2 := hkey J F w _ (hops x (by simp [ho, Op.operands]))
      rw [e1] at k1
      obtain ⟨s, b, es, clock, q1, q2, q3, q4, hb, hI⟩ := mapOK hok k1 (by rw [hrd id (by simp)]; exact h1)
      have hrun : (Instr.lookup t (.map (some b)) key false).run P w = .ok v w := by
        obtain ⟨i1, i2, i3⟩ := hI
        rcases Kd.find w hl es.toList i1 with ⟨g1, g2⟩ | ⟨j, e0, g1, g2, g3⟩
        · obtain ⟨e0, g3, g4⟩ := i3 key v hf
          exact absurd g4 (g2 e0 g3)
        · have := i2 e0 (List.mem_of_getElem? g2)
          rw [g3, hf] at this
          cases this
          simp [Instr.lookup, run_underlying ht, MapKept.run_getObj_map hb, Kd.check w _ hl, g1, Result.andThen]
      refine ⟨v, ?_, by simp only [rep]⟩
      simp [execOp, ho, q4, k2, hrun, Sem.run, pure]
    · exact h2.elim
  · exact h.elim
theorem s_mput {t kt e : TypeId} {m x v : Operand} (ht : P.underlying t = some (.map kt e)) (ho : o.op = .mapUpdate t m x v) (h : step P seq (.mput kt m x v) env H K) : Sound P o env H K := by
  simp only [step, evK_eq] at h
  split at h
  · rename_i id e1
    obtain ⟨ob, h1, h2⟩ := (hgetK_iff _ _ _).1 h
    split at h2
    · rename_i I
      obtain ⟨key, h3, hkey⟩ := keyK_run h2
      split at h3
      · rename_i u e2
        obtain ⟨f, rfl, Kd, ⟨l, hl⟩, hf, h4⟩ := h3
        obtain ⟨h5, h6⟩ := (hputK_iff _ _ _ _).1 h4
        refine sound_put h5 h6 fun J F w a G hok hops hG => ?_
        have k1 := hops m (by simp [ho, Op.operands])
        have k2 := hkey J F w _ (hops x (by simp [ho, Op.operands]))
        have k3 := hops v (by simp [ho, Op.operands])
        rw [e1] at k1
        rw [e2] at k3
        simp only [rep] at k3
        obtain ⟨s, b, es, clock, q1, q2, q3, q4, q5, i1, i2, i3⟩ := mapOK hok k1 (hG.trans h1)
        have hown : s.blk = some b := by simp [Site.blk, q2, q3]
        have hnF : ¬ F b := hok.apart id s b _ q1 hown (hG.trans h1) rfl
        have hnk : ∀ e ∈ es.toList, e.key ≠ key := fun e he q => by
          have := i2 e he
          rw [q, hf] at this
          cases this
        have hfind : (Instr.findKey kt key es.toList).run P w = .ok none w := by
          rcases Kd.find w hl es.toList i1 with ⟨g1, _⟩ | ⟨j, e0, _, g2, g3⟩
          · exact g1
          · exact absurd g3 (hnk e0 (List.mem_of_getElem? g2))
        have hrun : (Instr.mapUpdate t (.map (some b)) key u).run P w = .ok () { w with heap := w.heap.setIfInBounds b (.map (es.push { key, val := u, born := clock }) (clock + 1)) } := by
          simp [Instr.mapUpdate, run_underlying ht, MapKept.run_getObj_map q5, Kd.check w false hl, hfind, MapKept.run_setObj_map _ q5, Result.andThen]
        have hother : ∀ i, i ≠ b → (w.heap.setIfInBounds b (.map (es.push { key, val := u, born := clock }) (clock + 1)))[i]? = w.heap[i]? := fun i hi => (MapKept.heap_set q5).2 i hi
        have hFw : ∀ z, F z → (w.heap.setIfInBounds b (.map (es.push { key, val := u, born := clock }) (clock + 1)))[z]? = w.heap[z]? := fun z hzF => hother z fun e => hnF (e ▸ hzF)
        refine ⟨.skip, { w with heap := w.heap.setIfInBounds b (.map (es.push { key, val := u, born := clock }) (clock + 1)) }, ?_, .inr rfl, rfl, ?_, ⟨rfl, rfl, rfl, by simp, fun x hx hn => hother x fun e => hn ⟨id, s, q1, by rw [e]; exact hown⟩, hFw, Inj.le_refl J, fun _ h => h, fun x hx => .inl hx, fun x hx => .inl hx⟩⟩
        · simp only [execOp, ho, q4, k2, k3, hrun, Sem.run_bind, Result.andThen_ok]
          rfl
        · refine hok.update id s _ (fun i => by split; · rename_i e; rw [e]; exact q1
                                                · rfl) (fun _ => rfl) (Inj.le_refl J) hFw (by simp) (fun i s' b' hne hi hb => hother b' fun e => hne (hok.one i id s' s b' hi q1 hb (e ▸ hown))) (fun b' hb => .inr ⟨s, q1, hb⟩) (fun i s' b' hi hb => hok.blk_lt hi hb) (fun b' hb _ => by rw [hown] at hb; cases hb; exact hnF) ?_
          refine ⟨q2, b, _, _, q3, (MapKept.heap_set q5).1, ?_, ?_, ?_⟩
          · intro e he
            rw [Array.toList_push, List.mem_append, List.mem_singleton] at he
            rcases he with he | rfl
            · exact i1 e he
            · exact ⟨l, hl⟩
          · intro e he
            rw [Array.toList_push, List.mem_append, List.mem_singleton] at he
            unfold putF
            rcases he with he | rfl
            · rw [if_neg (hnk e he)]; exact i2 e he
            · rw [if_pos rfl]
          · intro k' v' hk'
            unfold putF at hk'
            rw [Array.toList_push]
            split at hk'
            · rename_i e; cases hk'
              exact ⟨_, List.mem_append_right _ (List.mem_singleton.2 rfl), e.symm⟩
            · obtain ⟨e, g1, g2⟩ := i3 k' v' hk'
              exact ⟨e, List.mem_append_left _ g1, g2⟩
      · exact h3.elim
    · exact h2.elim
  · exact h.elim
end
end

/-! ### XDs7 -/
section
open Go.RowKit
set_option linter.unusedSimpArgs false
set_option linter.unusedVariables false

/-- The same at this one heap. -/
def OpSeq (P : Program) (o : Oper) (env : Env) (H : List AObj) (d : D) (H2 : List AObj) : Prop :=
  H.length ≤ H2.length ∧ ∀ (J : Inj) (F : Nat → Prop) (w : World) (a : Act), StOK J F w (fun i => H[i]?) → (∀ id, J id ≠ none → id < H.length) → (∀ x ∈ o.op.operands, rep J F w (evalD env x) (a.eval x)) →
    ∀ (K : Act → World → Prop) (Q : Exit → Act → World → Prop),
      (∀ v w' J' F', rep J' F' w' d v → StOK J' F' w' (fun i => H2[i]?) → Ext J F w J' F' w' → (∀ id, J' id ≠ none → id < H2.length) → K (a.put o.dst v) w') → o.wp P a w K Q

theorem OpS.seq {P : Program} {o : Oper} {env : Env} {rd wr : List Nat} {H : List AObj} {d : D} {H2 : List AObj} (h : OpS P o env rd wr H d H2) : OpSeq P o env H d H2 := by
  refine ⟨h.len, fun J F w a hok hdom hops K Q hK => h.run J F w a _ hok hops (fun _ _ => rfl) (fun id hl _ => ?_) K Q fun v w' J' F' h1 h2 h3 h4 => ?_⟩
  · cases e : J id with
    | none => rfl
    | some s => have := hdom id (by rw [e]; simp); omega
  · refine hK v w' J' F' h1 ?_ h3 fun id hid => ?_
    · have : upd (fun i => H[i]?) wr H2 = fun i => H2[i]? := by
        funext i
        unfold upd
        split
        · rfl
        · rename_i hi; exact (h.frame i hi).symm
      rwa [this] at h2
    · rcases Nat.lt_or_ge id H2.length with hl | hl
      · exact hl
      · have hw : id ∉ wr := fun hw => by have := h.lt id hw; omega
        have hJ : J id = none := by
          cases e : J id with
          | none => rfl
          | some s => have := hdom id (by rw [e]; simp); have := h.len; omega
        exact absurd (h4 id hJ hw) hid

/-- Memory after a call of data. -/
theorem StOK.keep {J : Inj} {F F' : Nat → Prop} {w w' : World} {G : Nat → Option AObj} (h : StOK J F w G) (hb : ∀ b, b < w.heap.size → w'.heap[b]? = w.heap[b]?) (hsz : w.heap.size ≤ w'.heap.size) (hF : ∀ b, F b → F' b) (hback : ∀ b, F' b → F b ∨ w.heap.size ≤ b) (hlt : ∀ b, F' b → b < w'.heap.size) : StOK J F' w' G where
  obj id s hi := by
    obtain ⟨o, h1, h2⟩ := h.obj id s hi
    exact ⟨o, h1, ObjOK_mono (Inj.le_refl J) hF (fun b hx => hb b (h.lt b hx)) (fun b hx => hb b (h.blk_lt hi hx)) h2⟩
  one := h.one
  apart id s b o hi hs hg hm hx := by
    rcases hback b hx with q | q
    · exact h.apart id s b o hi hs hg hm q
    · have := h.blk_lt hi hs; omega
  lt := h.lt.mono hF (fun b hx => hb b (h.lt b hx)) hlt

theorem noOwns (b : Nat) : ¬ Owns noInj b := fun ⟨_, _, h, _⟩ => by cases h
theorem noInj_le (J : Inj) : noInj.le J := fun _ _ h => by cases h

theorem Ext.ofPure {J : Inj} {F F' : Nat → Prop} {w w' : World} {G : Nat → Option AObj} (hok : StOK J F w G) (h : Ext noInj F w noInj F' w') : Ext J F w J F' w' :=
  ⟨h.os, h.tape, h.output, h.size, fun b hb _ => h.block b hb (noOwns b), h.frozen, Inj.le_refl J, h.grow, fun b hb => .inl hb, fun b hb => (h.growBack b hb).imp_right fun q => .inr (q.resolve_left (noOwns b))⟩

/-! ### What the own memory reads as -/
section
variable {J : Inj} {F : Nat → Prop} {w : World} {H : List AObj} {G : Nat → Option AObj}
mutual
theorem deep_sound (hok : StOK J F w G) (hG : ∀ (id : Nat) (o : AObj), H[id]? = some o → G id = some o) : ∀ (d e : D) (v : Value), Deep H d e → rep J F w d v → rep J (fun b => F b ∨ Owns J b) w e v
  | d, _, v, .refl _, h => rep_mono (Inj.le_refl J) (fun _ h => .inl h) (fun _ _ => rfl) d v h
  | _, _, v, .junk _, _ => by simp only [rep]
  | _, _, v, .none esz, h => by
    simp only [rep] at h ⊢
    exact ⟨none, 0, 0, h, rfl, Nat.le_refl _, .inl rfl⟩
  | _, _, v, .loc id off m cs ds h k, hv => by
    simp only [rep] at hv ⊢
    obtain ⟨s, b, h1, h2, h3, rfl⟩ := hv
    have hc := repCells_drop (rowOK hok h1 h3 (hG _ _ h)) off
    refine ⟨b, off, rfl, .inr ⟨id, s, h1, by simp [Site.blk, h2, h3]⟩, ?_⟩
    rw [Nat.zero_add] at hc
    exact deepCells_sound hok hG _ _ b off k hc
  | _, _, v, .own id ver lo hi esz m xs ys h k, hv => by
    simp only [rep] at hv ⊢
    obtain ⟨s, A, n, c, h1, rfl, h2, h3⟩ := hv
    obtain ⟨p1, p2, p3, p4, p5, p6⟩ := vecOK hok h1 (hG _ _ h)
    obtain ⟨t1, t2, t3, rfl, rfl, t6⟩ := h3 p2.symm
    have hl : ys.length = hi - lo := by
      rw [← deepLL_len _ _ k]; simp; omega
    refine ⟨A, _, _, rfl, hl.symm, by omega, ?_⟩
    rcases t6 with t6 | ⟨b, o, t6, rfl⟩
    · exact .inl (by omega)
    · rcases p6 with p6 | ⟨b', o', vals, te, e, q1, q2, q3, q4⟩
      · exact .inl (by omega)
      · rw [t6] at e; cases e
        by_cases hz : s.cap = 0
        · exact .inl (by omega)
        · refine .inr ⟨b, _, rfl, .inr ⟨id, s, h1, by simp [Site.blk, hz, t6]⟩, ?_⟩
          rw [p3]
          exact deepRows_sound hok hG _ _ b esz _ k (repRows_part q3 lo hi)
  | _, _, v, .fn f a b c e h k, hv => by
    simp only [rep] at hv ⊢
    obtain ⟨vs, us, rfl, h2, h3⟩ := hv
    exact ⟨vs, us, rfl, deepL_sound hok hG _ _ vs h h2, deepL_sound hok hG _ _ us k h3⟩
  | _, _, v, .ifc t d e h, hv => by
    simp only [rep] at hv ⊢
    obtain ⟨u, rfl, h2⟩ := hv
    exact ⟨u, rfl, deep_sound hok hG _ _ u h h2⟩
  | _, _, v, .agg a b h, hv => by
    simp only [rep] at hv ⊢
    obtain ⟨vs, rfl, h2⟩ := hv
    exact ⟨vs, rfl, deepL_sound hok hG _ _ vs h h2⟩
  | _, _, v, .tup a b h, hv => by
    simp only [rep] at hv ⊢
    obtain ⟨vs, rfl, h2⟩ := hv
    exact ⟨vs, rfl, deepL_sound hok hG _ _ vs h h2⟩
theorem deepL_sound (hok : StOK J F w G) (hG : ∀ (id : Nat) (o : AObj), H[id]? = some o → G id = some o) : ∀ (d e : List D) (v : List Value), DeepL H d e → repL J F w d v → repL J (fun b => F b ∨ Owns J b) w e v
  | _, _, v, .nil, h => by simp only [repL] at h ⊢; exact h
  | _, _, v, .cons d e a b h k, hv => by
    simp only [repL] at hv ⊢
    obtain ⟨u, us, rfl, h2, h3⟩ := hv
    exact ⟨u, us, rfl, deep_sound hok hG _ _ u h h2, deepL_sound hok hG _ _ us k h3⟩
theorem deepCells_sound (hok : StOK J F w G) (hG : ∀ (id : Nat) (o : AObj), H[id]? = some o → G id = some o) : ∀ (d e : List D) (b o : Nat), DeepL H d e → repCells J F w b d o → repCells J (fun b => F b ∨ Owns J b) w b e o
  | _, _, b, o, .nil, h => by simp only [repCells]
  | _, _, b, o, .cons d e x y h k, hv => by
    simp only [repCells] at hv ⊢
    obtain ⟨⟨u, h1, h2, h3⟩, h4⟩ := hv
    exact ⟨⟨u, h1, h2, deep_sound hok hG _ _ u h h3⟩, deepCells_sound hok hG _ _ b (o + 1) k h4⟩
theorem deepRows_sound (hok : StOK J F w G) (hG : ∀ (id : Nat) (o : AObj), H[id]? = some o → G id = some o) : ∀ (d e : List (List D)) (b esz o : Nat), DeepLL H d e → repRows J F w b esz d o → repRows J (fun b => F b ∨ Owns J b) w b esz e o
  | _, _, b, esz, o, .nil, h => by simp only [repRows]
  | _, _, b, esz, o, .cons d e x y h k, hv => by
    simp only [repRows] at hv ⊢
    obtain ⟨h1, h2, h3⟩ := hv
    exact ⟨by rw [← deepL_len _ _ h]; exact h1, deepCells_sound hok hG _ _ b o h h2, deepRows_sound hok hG _ _ b esz (o + esz) k h3⟩
theorem deepL_len : ∀ (d e : List D), DeepL H d e → d.length = e.length
  | _, _, .nil => rfl
  | _, _, .cons d e a b _ k => by simp [deepL_len a b k]
theorem deepLL_len : ∀ (d e : List (List D)), DeepLL H d e → d.length = e.length
  | _, _, .nil => rfl
  | _, _, .cons d e a b _ k => by simp [deepLL_len a b k]
end

theorem areScalar_rep {J' : Inj} {F' : Nat → Prop} {w' : World} : ∀ (ds : List D) (vs : List Value), areScalar ds = true → repL J F w ds vs → repL J' F' w' ds vs
  | [], vs, _, h => by simp only [repL] at h ⊢; exact h
  | d :: r, vs, hs, h => by
    simp only [areScalar] at hs
    simp only [repL] at h ⊢
    obtain ⟨v, us, rfl, h2, h3⟩ := h
    cases e : isScalar d with
    | false => rw [e] at hs; cases hs
    | true =>
      rw [e] at hs
      refine ⟨v, us, rfl, ?_, areScalar_rep r us hs h3⟩
      cases d <;> simp [isScalar] at e
      simpa only [rep] using h2
theorem bareD_rep {J' : Inj} {F' : Nat → Prop} {w' : World} {d : D} {v : Value} (hb : bareD d = true) (h : rep J F w d v) : rep J' F' w' d v := by
  cases d <;> simp [bareD] at hb
  case sc => simpa only [rep] using h
  case agg cs => simp only [rep] at h ⊢; obtain ⟨vs, h1, h2⟩ := h; exact ⟨vs, h1, areScalar_rep cs vs hb h2⟩
  case tup cs => simp only [rep] at h ⊢; obtain ⟨vs, h1, h2⟩ := h; exact ⟨vs, h1, areScalar_rep cs vs hb h2⟩
end

section
variable {P : Program} {seq : Bool} {o : Oper} {env : Env} {H : List AObj} {K : Cont}

theorem enter_wp {f : FuncId} {vs : Array Value} {a : Act} {w : World} {K : Act → World → Prop} {Q : Exit → Act → World → Prop} {R : Ending → World → Prop} (hrun : (execOp a.eval o).run P w = .ok (.enter f vs) w) (hc : Calls P f vs w R)
    (hR : ∀ e w', R e w' → ∃ v, e = .returned v ∧ K (a.put o.dst v) w') : o.wp P a w K Q := by
  unfold Oper.wp
  rw [hrun, Oper.upon_enter]
  exact hc.mono fun e w' h => by
    obtain ⟨v, rfl, hk⟩ := hR e w' h
    exact hk

/-- What the reckoning of an operation promises where operations come one behind the other. -/
def SoundSeq (P : Program) (o : Oper) (env : Env) (H : List AObj) (K : Cont) : Prop :=
  ∀ (J : Inj) (F : Nat → Prop) (w : World) (a : Act), StOK J F w (fun i => H[i]?) → (∀ id, J id ≠ none → id < H.length) → (∀ x ∈ o.op.operands, rep J F w (evalD env x) (a.eval x)) →
    ∀ (K2 : Act → World → Prop) (Q : Exit → Act → World → Prop),
      (∀ d H2 rd wr v w' J' F', K d H2 rd wr → rep J' F' w' d v → StOK J' F' w' (fun i => H2[i]?) → Ext J F w J' F' w' → (∀ id, J' id ≠ none → id < H2.length) → K2 (a.put o.dst v) w') → o.wp P a w K2 Q
theorem soundSeq_mk {d : D} {H2 : List AObj} {rd wr : List Nat} (h : OpSeq P o env H d H2) (hK : K d H2 rd wr) : SoundSeq P o env H K := fun J F w a hok hdom hops K2 Q hK2 =>
  h.2 J F w a hok hdom hops K2 Q fun v w' J' F' h1 h2 h3 h4 => hK2 d H2 rd wr v w' J' F' hK h1 h2 h3 h4
theorem sound_seq (h : Sound P o env H K) : SoundSeq P o env H K := let ⟨_, _, _, _, h1, h2⟩ := h; soundSeq_mk h1.seq h2

theorem frozenL_map : ∀ H : List AObj, frozenL H = H.map AObj.frozen
  | [] => rfl
  | o :: r => by simp only [frozenL, List.map_cons, frozenL_map r]
theorem call_sound {f : FuncId} {args : List D} {vals : Act → List Value} (hrun : ∀ (a : Act) (w : World), okFun P f → (∀ (J : Inj) (F : Nat → Prop), (∀ x ∈ o.op.operands, rep J F w (evalD env x) (a.eval x)) → (execOp a.eval o).run P w = .ok (.enter f (vals a).toArray) w))
    (hargs : ∀ (J : Inj) (F : Nat → Prop) (w : World) (a : Act), (∀ x ∈ o.op.operands, rep J F w (evalD env x) (a.eval x)) → repL J F w args (vals a)) (h : callK P seq f args H K) :
    Sound P o env H K ∨ (seq = true ∧ SoundSeq P o env H K) := by
  rcases h with ⟨d, ⟨hf, hp⟩, hK⟩ | ⟨args', d, hd, ⟨hf, hp⟩, hb, hK⟩ | ⟨hs, d, H2, ⟨hf, hl, hp⟩, hK⟩ | ⟨d, H2, hu, huo, hA, hK⟩ | ⟨d, H2, L, hA, hK⟩ | ⟨hs, args', d, hd, ⟨hf, hp⟩, hK⟩ | ⟨d, L, hA, hK⟩
  · refine .inl ⟨d, H, [], [], ⟨fun _ _ => rfl, Nat.le_refl _, (fun _ h => by cases h), fun J F w a G hok hops _ _ K Q hK => ?_⟩, hK⟩
    refine enter_wp (hrun a w hf J F hops) (hp J F w _ hok.lt (hargs J F w a hops)) fun e w' hR => ?_
    obtain ⟨v, F', rfl, h1, h2, h3⟩ := hR
    refine ⟨v, rfl, hK v w' J F' (rep_mono (noInj_le J) (fun _ h => h) (fun _ _ => rfl) _ _ h2) ?_ (Ext.ofPure hok h3) fun _ h _ => h⟩
    rw [upd_nil]
    exact hok.keep (fun b hb => h3.block b hb (noOwns b)) h3.size h3.grow (fun b hb => (h3.growBack b hb).imp_right fun q => q.resolve_left (noOwns b)) h1
  · refine .inl ⟨d, H, List.range H.length, [], ⟨fun _ _ => rfl, Nat.le_refl _, (fun _ h => by cases h), fun J F w a G hok hops hrd _ K Q hK => ?_⟩, hK⟩
    have hG : ∀ (id : Nat) (o : AObj), H[id]? = some o → G id = some o := fun id o h => by
      rw [hrd id (.inl ?_)]
      · exact h
      · rw [List.mem_range]
        rcases Nat.lt_or_ge id H.length with hl | hl
        · exact hl
        · rw [List.getElem?_eq_none hl] at h; cases h
    have hlt : ∀ b, F b ∨ Owns J b → b < w.heap.size := fun b hb => hb.elim (hok.lt b) fun ⟨i, s, hi, hs⟩ => hok.blk_lt hi hs
    refine enter_wp (hrun a w hf J F hops) (hp J _ w _ (hok.lt.mono (fun _ h => .inl h) (fun _ _ => rfl) hlt) (deepL_sound hok hG _ _ _ hd (hargs J F w a hops))) fun e w' hR => ?_
    obtain ⟨v, F', rfl, h1, h2, h3⟩ := hR
    have hblk : ∀ b, b < w.heap.size → w'.heap[b]? = w.heap[b]? := fun b hb => h3.block b hb (noOwns b)
    refine ⟨v, rfl, hK v w' J F (bareD_rep hb h2) ?_ ⟨h3.os, h3.tape, h3.output, h3.size, fun b hb _ => hblk b hb, fun b hb => hblk b (hok.lt b hb), Inj.le_refl J, fun _ h => h, fun b hb => .inl hb, fun b hb => .inl hb⟩ fun _ h _ => h⟩
    rw [upd_nil]
    exact hok.keep hblk h3.size (fun _ h => h) (fun b hb => .inl hb) (fun b hb => Nat.lt_of_lt_of_le (hok.lt b hb) h3.size)
  · refine .inr ⟨hs, soundSeq_mk (d := d) (H2 := H2) (rd := []) (wr := []) ⟨hl, fun J F w a hok hdom hops K Q hK => ?_⟩ hK⟩
    refine enter_wp (hrun a w hf J F hops) (hp J F w _ hok hdom (hargs J F w a hops)) fun e w' hR => ?_
    obtain ⟨v, J', F', rfl, h1, h2, h3, h4⟩ := hR
    exact ⟨v, rfl, hK v w' J' F' h3 h1 h4 h2⟩
  · refine .inl ⟨d, H2, upTo H2.length, upTo H2.length, ⟨fun id hid => ?_, hA.len, fun id hid => (upTo_iff id _).1 hid, fun J F w a G hok hops hrd hnone K Q hK => ?_⟩, hK⟩
    · have h1 : ¬ id < H2.length := fun h => hid ((upTo_iff id _).2 h)
      have := hA.len
      rw [List.getElem?_eq_none (by omega), List.getElem?_eq_none (by omega)]
    · have core := acall_core (G := G) (G' := upd G (upTo H2.length) H2) (fun i => i) hA (fun i j _ _ h => h) hok (fun i o ho => by
        rw [oren_id, hrd i (.inl ((upTo_iff i _).2 (Nat.lt_of_lt_of_le (get_lt ho) hA.len)))]
        exact ho) (fun i h1 h2 => hnone i h1 ((upTo_iff i _).2 h2)) (by rw [renL_id]; exact hargs J F w a hops) (fun i o ho => by
        rw [oren_id]
        unfold upd
        rw [if_pos ((upTo_iff i _).2 (get_lt ho))]
        exact ho) (fun j hj => by
        unfold upd
        rw [if_neg fun h => hj j ((upTo_iff j _).1 h) rfl]) hu (underO_mem huo)
      refine enter_wp (hrun a w hA.ok J F hops) core fun e w' hR => ?_
      obtain ⟨v, J', F', rfl, h1, h2, h3, h4⟩ := hR
      rw [ren_id] at h3
      refine ⟨v, rfl, hK v w' J' F' h3 h1 h4 fun id hid hw => ?_⟩
      cases e : J' id with
      | none => rfl
      | some s =>
        rcases h2 id (by rw [e]; simp) with q | ⟨i, q1, q2⟩
        · exact absurd hid q
        · subst q2
          exact absurd ((upTo_iff i _).2 q1) hw
  · refine .inl ⟨d, H2, L, L, ⟨fun id hid => hA.frame id hid, hA.len, fun id hid => hA.lt id hid, fun J F w a G hok hops hrd hnone K Q hK => ?_⟩, hK⟩
    refine enter_wp (hrun a w hA.ok J F hops) (hA.run J F w _ G hok (fun id hid => hrd id (.inl hid)) (fun id hid h => hnone id h hid) (hargs J F w a hops)) fun e w' hR => ?_
    obtain ⟨v, J', F', rfl, h1, h2, h3, h4⟩ := hR
    refine ⟨v, rfl, hK v w' J' F' h3 h1 h4 fun id hid hw => ?_⟩
    cases e : J' id with
    | none => rfl
    | some s =>
      rcases h2 id (by rw [e]; simp) with q | q
      · exact absurd hid q
      · exact absurd q hw
  · refine .inr ⟨hs, fun J F w a hok hdom hops K2 Q hK2 => ?_⟩
    have hlt : ∀ b, F b ∨ Owns J b → b < w.heap.size := fun b hb => hb.elim (hok.lt b) fun ⟨i, s, hi, hs⟩ => hok.blk_lt hi hs
    refine enter_wp (hrun a w hf J F hops) (hp J (fun b => F b ∨ Owns J b) w _ (hok.lt.mono (fun _ h => .inl h) (fun _ _ => rfl) hlt) (deepL_sound hok (fun _ _ h => h) _ _ _ hd (hargs J F w a hops))) fun e w' hR => ?_
    obtain ⟨v, F', rfl, h1, h2, h3⟩ := hR
    have hblk : ∀ b, b < w.heap.size → w'.heap[b]? = w.heap[b]? := fun b hb => h3.block b hb (noOwns b)
    refine ⟨v, rfl, hK2 d _ [] [] v w' J F' hK (rep_mono (noInj_le J) (fun _ h => h) (fun _ _ => rfl) _ _ h2) ⟨fun i s hs => ?_, hok.one, fun i s b o g1 g2 g3 g4 => ?_, hok.lt.mono (fun b hb => h3.grow b (.inl hb)) (fun b hb => hblk b (hok.lt b hb)) h1⟩ ?_ fun id hid => ?_⟩
    · obtain ⟨o, q1, q2⟩ := hok.obj i s hs
      refine ⟨o.frozen, ?_, ?_⟩
      · rw [frozenL_map, List.getElem?_map, q1]; rfl
      · have q3 := ObjOK_mono (J' := J) (F' := F') (w' := w') (Inj.le_refl J) (fun b hb => h3.grow b (.inl hb)) (fun b hb => hblk b (hok.lt b hb)) (fun b hb => hblk b (hok.blk_lt hs hb)) q2
        cases o with
        | row m cs =>
          obtain ⟨k1, k2, k3, k4, k5, b, vals, te, t1, t2, t3, t4, t5⟩ := q3
          exact ⟨k1, k2, k3, k4, k5, b, vals, te, t1, t2, t3, t4, fun _ => h3.grow b (.inr ⟨i, s, hs, by simp [Site.blk, k1, t1]⟩)⟩
        | vec m v e xs =>
          obtain ⟨k1, k2, k3, k4, k5, k6⟩ := q3
          refine ⟨k1, k2, k3, k4, k5, ?_⟩
          by_cases hz : s.cap = 0
          · exact .inl hz
          · rcases k6 with k6 | ⟨b, o, vals, te, t1, t2, t3, t4, t5⟩
            · exact .inl k6
            · exact .inr ⟨b, o, vals, te, t1, t2, t3, t4, fun _ => h3.grow b (.inr ⟨i, s, hs, by simp [Site.blk, k1, hz, t1]⟩)⟩
        | mapo m I => exact q3
    · exfalso
      rw [frozenL_map, List.getElem?_map] at g3
      cases e : H[i]? with
      | none => rw [e] at g3; cases g3
      | some x =>
        rw [e] at g3
        cases x <;> cases g3 <;> cases g4
    · exact ⟨h3.os, h3.tape, h3.output, h3.size, fun b hb _ => hblk b hb, fun b hb => hblk b (hok.lt b hb), Inj.le_refl J, fun b hb => h3.grow b (.inl hb), fun b hb => .inl hb, fun b hb => by
        rcases h3.growBack b hb with q | q | q
        · rcases q with q | q
          · exact .inl q
          · exact .inr (.inl q)
        · exact absurd q (noOwns b)
        · exact .inr (.inr q)⟩
    · have := hdom id hid
      rw [frozenL_map, List.length_map]
      exact this
  · refine .inl ⟨d, H, L, [], ⟨fun _ _ => rfl, Nat.le_refl _, (fun _ h => by cases h), fun J F w a G hok hops hrd _ K Q hK => ?_⟩, hK⟩
    refine enter_wp (hrun a w hA.ok J F hops) (hA.run J F w _ G hok (fun id hid => hrd id (.inl hid)) (hargs J F w a hops)) fun e w' hR => ?_
    obtain ⟨v, J', F', rfl, h1, h2, h3, h4⟩ := hR
    refine ⟨v, rfl, hK v w' J' F' h3 (by rw [upd_nil]; exact h1) h4 fun id hid _ => ?_⟩
    cases e : J' id with
    | none => rfl
    | some s => exact absurd hid (h2 id (by rw [e]; simp))

theorem repL_map {J : Inj} {F : Nat → Prop} {w : World} {a : Act} : ∀ (xs : List Operand), (∀ x ∈ xs, rep J F w (evalD env x) (a.eval x)) → repL J F w (xs.map (evalD env)) (xs.map a.eval)
  | [], _ => by simp only [List.map_nil, repL]
  | x :: r, h => by
    simp only [List.map_cons, repL]
    exact ⟨_, _, rfl, h x (by simp), repL_map r fun y hy => h y (by simp [hy])⟩

theorem run_callFunc {f : FuncId} {args : Array Value} {w : World} (h : okFun P f) : (callFunc f args).run P w = .ok (.enter f args) w := by
  obtain ⟨fn, h1, h2, h3⟩ := h
  simp only [beq_eq_false_iff_ne, ne_eq] at h2
  simp [callFunc, program, Sem.run, h1, h2, pure]
  intro hb
  simp [hb] at h3

theorem s_call {f : FuncId} {args : Array Operand} {ts : Array TypeId} (ho : o.op = .call { callee := .value (.func f), args, argTypes := ts }) (h : step P seq (.call f args.toList) env H K) :
    Sound P o env H K ∨ (seq = true ∧ SoundSeq P o env H K) := by
  simp only [step, evLK_eq] at h
  refine call_sound (vals := fun a => args.toList.map a.eval) (fun a w hf J F hops => ?_) (fun J F w a hops => repL_map _ fun x hx => hops x ?_) h
  · have e1 : args.map a.eval = (args.toList.map a.eval).toArray := by apply Array.ext'; simp
    simp [execOp, ho, resolve, Deferred.ofValue, Act.eval, invoke, run_callFunc hf, Sem.run, pure, e1]
  · simp [ho, Op.operands, Call.operands]
    exact .inr (by simpa using hx)

theorem s_callv {x : Operand} {args : Array Operand} {ts : Array TypeId} (ho : o.op = .call { callee := .value x, args, argTypes := ts }) (h : step P seq (.callv x args.toList) env H K) :
    Sound P o env H K ∨ (seq = true ∧ SoundSeq P o env H K) := by
  simp only [step, evK_eq, evLK_eq] at h
  split at h
  · rename_i f first cap e
    have hval : ∀ (J : Inj) (F : Nat → Prop) (w : World) (a : Act), (∀ x ∈ o.op.operands, rep J F w (evalD env x) (a.eval x)) → ∃ vs us, a.eval x = .func (.func f) vs.toArray us.toArray ∧ repL J F w first vs ∧ repL J F w cap us := fun J F w a hops => by
      have := hops x (by simp [ho, Op.operands, Call.operands])
      rw [e] at this
      simpa only [rep] using this
    refine call_sound (vals := fun a => match a.eval x with
      | .func _ vs us => vs.toList ++ args.toList.map a.eval ++ us.toList
      | _ => []) (fun a w hf J F hops => ?_) (fun J F w a hops => ?_) h
    · obtain ⟨vs, us, e1, _, _⟩ := hval J F w a hops
      simp only [e1]
      simp only [execOp, ho, resolve, e1, Deferred.ofValue, pure, Sem.run_bind, Sem.run, Result.andThen_ok, invoke, run_callFunc hf]
      congr 2
      apply Array.ext'
      simp
    · obtain ⟨vs, us, e1, e2, e3⟩ := hval J F w a hops
      simp only [e1]
      refine repL_append (repL_append (by simpa using e2) (repL_map _ fun y hy => hops y ?_)) (by simpa using e3)
      simp [ho, Op.operands, Call.operands]
      exact .inr (by simpa using hy)
  · exact h.elim

theorem s_append {t u e e' : TypeId} {args : Array Operand} {ts : Array TypeId} {x y : Operand} {z : Value} (ha : args.toList = [x, y]) (hts : ts.toList = [t, u]) (ht : P.underlying t = some (.slice e)) (hu : P.underlying u = some (.slice e')) (hz : (P.info? e).bind (·.zero) = some z) (hzs : z.cells.size = P.cellsOf e) (hpos : 0 < P.cellsOf e) (hbp : 0 < P.bytesOf e)
    (ho : o.op = .call { callee := .builtin .append, args, argTypes := ts }) (h : step P seq (.append (P.cellsOf e) (P.bytesOf e) x y) env H K) : Sound P o env H K := by
  have ea : args = #[x, y] := Array.ext' (by simpa using ha)
  have et : ts = #[t, u] := Array.ext' (by simpa using hts)
  subst ea et
  simp only [step, evK_eq] at h
  obtain ⟨ys, rd, h, hy⟩ := srcK_spec h
  split at h
  · rename_i e1
    obtain ⟨h1, h2⟩ := h
    rw [hpushK_iff] at h2
    exact s_append_nil ht hu hz hzs hpos hbp rfl ho e1 hy h1 h2
  · rename_i id ver lo hi e1
    obtain ⟨ob, h1, h2⟩ := (hgetK_iff _ _ _).1 h
    split at h2
    · rename_i ver' esz' zs
      obtain ⟨hv, h2⟩ := h2
      subst hv
      obtain ⟨he, h3, h4⟩ := (sameK_iff _ _ _).1 h2
      subst he
      obtain ⟨_, h5⟩ := (hputK_iff _ _ _ _).1 h4
      exact s_append_own ht hu hz hzs hpos hbp rfl ho e1 h1 hy h3 h5
    · exact h2.elim
  · exact h.elim
end
end

end Go.Proofs.YtgkodbnomgabdaaDoor
