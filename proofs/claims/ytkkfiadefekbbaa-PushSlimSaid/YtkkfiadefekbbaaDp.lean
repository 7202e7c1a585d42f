/-
  Deep values: what a Go value reads as, a heap of the call's own objects, and how both stand to the model's memory. No statement is proved here.
-/
import Derived.WalkKit
import Derived.Below
namespace Go.Proofs.Ytkkfiadefekbbaa
open Go.RowKit

/-- A value as data: what is not the call's own memory is read to the bottom; the call's own memory is named by numbers. -/
inductive D where
  | junk
  | sc (v : Value)
  | loc (id off : Nat)
  | elt (id ver i off : Nat)
  | ipt (cs : List D)
  | lst (esz : Nat) (xs : List (List D))
  | own (id ver lo hi : Nat)
  | fn (f : Fn) (first cap : List D)
  | ifc (t : TypeId) (d : D)
  | agg (cs : List D)
  | tup (cs : List D)
  deriving Inhabited

/-- An object of the call's own: a row of cells, or a slice's array (elements of esz cells). -/
inductive AObj where
  | row (m : Bool) (cs : List D)
  | vec (m : Bool) (ver esz : Nat) (xs : List (List D))
  deriving Inhabited

/-- Where an object lies. -/
structure Site where
  row : Bool
  ver : Nat
  ad : Option Addr
  esz : Nat
  cap : Nat
  len : Nat

def Site.blk (s : Site) : Option Nat := if s.row = false ∧ s.cap = 0 then none else s.ad.map (·.block)

abbrev Inj := Nat → Option Site

/-- No struct and no tuple. -/
def oneCell : Value → Bool
  | .agg _ | .tuple _ => false
  | _ => true

section
variable (J : Inj) (F : Nat → Prop) (w : World)
mutual
def rep : D → Value → Prop
  | .junk, _ => True
  | .sc u, v => v = u
  | .loc id off, v => ∃ s b, J id = some s ∧ s.row = true ∧ s.ad = some ⟨b, 0, none⟩ ∧ v = .pointer (some ⟨b, off, none⟩)
  | .elt id ver i off, v => ∃ s a, J id = some s ∧ v = .pointer (some a) ∧ ver ≤ s.ver ∧ (ver = s.ver → ∃ b o, s.row = false ∧ s.ad = some ⟨b, o, none⟩ ∧ i < s.len ∧ a = ⟨b, o + i * s.esz + off, none⟩)
  | .ipt cs, v => ∃ b o, v = .pointer (some ⟨b, o, none⟩) ∧ F b ∧ repCells b cs o
  | .lst esz xs, v => ∃ A n c, v = .slice A n c ∧ n = xs.length ∧ n ≤ c ∧ (n = 0 ∨ ∃ b o, A = some ⟨b, o, none⟩ ∧ F b ∧ repRows b esz xs o)
  | .own id ver lo hi, v => ∃ s A n c, J id = some s ∧ v = .slice A n c ∧ ver ≤ s.ver ∧ (ver = s.ver → s.row = false ∧ lo ≤ hi ∧ hi ≤ s.len ∧ n = hi - lo ∧ c = s.cap - lo ∧ (s.cap = lo ∨ ∃ b o, s.ad = some ⟨b, o, none⟩ ∧ A = some ⟨b, o + lo * s.esz, none⟩))
  | .fn f first cap, v => ∃ vs us, v = .func f vs.toArray us.toArray ∧ repL first vs ∧ repL cap us
  | .ifc t d, v => ∃ u, v = .iface t u ∧ rep d u
  | .agg cs, v => ∃ vs, v = .agg vs.toArray ∧ repL cs vs
  | .tup cs, v => ∃ vs, v = .tuple vs.toArray ∧ repL cs vs
def repL : List D → List Value → Prop
  | [], vs => vs = []
  | d :: ds, vs => ∃ v us, vs = v :: us ∧ rep d v ∧ repL ds us
def repCells (b : Nat) : List D → Nat → Prop
  | [], _ => True
  | c :: r, o => (∃ u, w.cell? ⟨b, o, none⟩ = some u ∧ oneCell u = true ∧ rep c u) ∧ repCells b r (o + 1)
def repRows (b esz : Nat) : List (List D) → Nat → Prop
  | [], _ => True
  | x :: r, o => x.length = esz ∧ repCells b x o ∧ repRows b esz r (o + esz)
end
end

/-- Sites only grow older; a row's never turns. -/
def Inj.le (J J' : Inj) : Prop := ∀ id s, J id = some s → ∃ s', J' id = some s' ∧ s.ver ≤ s'.ver ∧ (s.ver = s'.ver ∨ s.row = true → s' = s)

theorem Inj.le_refl (J : Inj) : J.le J := fun _ s h => ⟨s, h, Nat.le_refl _, fun _ => rfl⟩
theorem Inj.le_trans {J J' J'' : Inj} (h : J.le J') (k : J'.le J'') : J.le J'' := fun id s e => by
  obtain ⟨s1, e1, l1, q1⟩ := h id s e
  obtain ⟨s2, e2, l2, q2⟩ := k id s1 e1
  refine ⟨s2, e2, Nat.le_trans l1 l2, fun q => ?_⟩
  rcases q with q | q
  · rw [q2 (.inl (by omega)), q1 (.inl (by omega))]
  · have h1 := q1 (.inr q)
    subst h1
    exact q2 (.inr q)

theorem cell_of_heap {w w' : World} {b : Nat} (h : w'.heap[b]? = w.heap[b]?) (o : Nat) : w'.cell? ⟨b, o, none⟩ = w.cell? ⟨b, o, none⟩ := by
  simp only [World.cell?, h]

section
variable {J J' : Inj} {F F' : Nat → Prop} {w w' : World}
mutual
theorem rep_mono (hJ : J.le J') (hF : ∀ b, F b → F' b) (hw : ∀ b, F b → w'.heap[b]? = w.heap[b]?) : ∀ (d : D) (v : Value), rep J F w d v → rep J' F' w' d v
  | .junk, v, _ => by simp only [rep]
  | .sc u, v, h => by simpa only [rep] using h
  | .loc id off, v, h => by
    simp only [rep] at h ⊢
    obtain ⟨s, b, h1, h2, h3, h4⟩ := h
    obtain ⟨s', e, _, q⟩ := hJ id s h1
    rw [q (.inr h2)] at e
    exact ⟨s, b, e, h2, h3, h4⟩
  | .elt id ver i off, v, h => by
    simp only [rep] at h ⊢
    obtain ⟨s, a, h1, h4, h2, h3⟩ := h
    obtain ⟨s', e, l, q⟩ := hJ id s h1
    refine ⟨s', a, e, h4, by omega, fun q' => ?_⟩
    rw [q (.inl (by omega))]
    exact h3 (by omega)
  | .ipt cs, v, h => by
    simp only [rep] at h ⊢
    obtain ⟨b, o, h1, h2, h3⟩ := h
    exact ⟨b, o, h1, hF b h2, repCells_mono hJ hF hw b (cell_of_heap (hw b h2)) cs o h3⟩
  | .lst esz xs, v, h => by
    simp only [rep] at h ⊢
    obtain ⟨A, n, c, h1, h2, hc, h3⟩ := h
    refine ⟨A, n, c, h1, h2, hc, h3.imp id fun ⟨b, o, h4, h5, h6⟩ => ⟨b, o, h4, hF b h5, repRows_mono hJ hF hw b esz (cell_of_heap (hw b h5)) xs o h6⟩⟩
  | .own id ver lo hi, v, h => by
    simp only [rep] at h ⊢
    obtain ⟨s, A, n, c, h1, h4, h2, h3⟩ := h
    obtain ⟨s', e, l, q⟩ := hJ id s h1
    refine ⟨s', A, n, c, e, h4, by omega, fun q' => ?_⟩
    rw [q (.inl (by omega))]
    exact h3 (by omega)
  | .fn f first cap, v, h => by
    simp only [rep] at h ⊢
    obtain ⟨vs, us, h1, h2, h3⟩ := h
    exact ⟨vs, us, h1, repL_mono hJ hF hw first vs h2, repL_mono hJ hF hw cap us h3⟩
  | .ifc t d, v, h => by
    simp only [rep] at h ⊢
    obtain ⟨u, h1, h2⟩ := h
    exact ⟨u, h1, rep_mono hJ hF hw d u h2⟩
  | .agg cs, v, h => by
    simp only [rep] at h ⊢
    obtain ⟨vs, h1, h2⟩ := h
    exact ⟨vs, h1, repL_mono hJ hF hw cs vs h2⟩
  | .tup cs, v, h => by
    simp only [rep] at h ⊢
    obtain ⟨vs, h1, h2⟩ := h
    exact ⟨vs, h1, repL_mono hJ hF hw cs vs h2⟩
theorem repL_mono (hJ : J.le J') (hF : ∀ b, F b → F' b) (hw : ∀ b, F b → w'.heap[b]? = w.heap[b]?) : ∀ (ds : List D) (vs : List Value), repL J F w ds vs → repL J' F' w' ds vs
  | [], vs, h => by simpa only [repL] using h
  | d :: ds, vs, h => by
    simp only [repL] at h ⊢
    obtain ⟨v, us, h1, h2, h3⟩ := h
    exact ⟨v, us, h1, rep_mono hJ hF hw d v h2, repL_mono hJ hF hw ds us h3⟩
theorem repCells_mono (hJ : J.le J') (hF : ∀ b, F b → F' b) (hw : ∀ b, F b → w'.heap[b]? = w.heap[b]?) (b : Nat) (hb : ∀ o, w'.cell? ⟨b, o, none⟩ = w.cell? ⟨b, o, none⟩) : ∀ (ds : List D) (o : Nat), repCells J F w b ds o → repCells J' F' w' b ds o
  | [], o, h => by simp only [repCells]
  | c :: r, o, h => by
    simp only [repCells] at h ⊢
    obtain ⟨⟨u, h1, h0, h2⟩, h3⟩ := h
    exact ⟨⟨u, by rw [hb]; exact h1, h0, rep_mono hJ hF hw c u h2⟩, repCells_mono hJ hF hw b hb r (o + 1) h3⟩
theorem repRows_mono (hJ : J.le J') (hF : ∀ b, F b → F' b) (hw : ∀ b, F b → w'.heap[b]? = w.heap[b]?) (b esz : Nat) (hb : ∀ o, w'.cell? ⟨b, o, none⟩ = w.cell? ⟨b, o, none⟩) : ∀ (xs : List (List D)) (o : Nat), repRows J F w b esz xs o → repRows J' F' w' b esz xs o
  | [], o, h => by simp only [repRows]
  | x :: r, o, h => by
    simp only [repRows] at h ⊢
    obtain ⟨h1, h2, h3⟩ := h
    exact ⟨h1, repCells_mono hJ hF hw b hb x o h2, repRows_mono hJ hF hw b esz hb r (o + esz) h3⟩
end

theorem repCells_get {b : Nat} : ∀ (cs : List D) (o j : Nat) (c : D), cs[j]? = some c → repCells J F w b cs o → ∃ u, w.cell? ⟨b, o + j, none⟩ = some u ∧ oneCell u = true ∧ rep J F w c u
  | [], _, _, _, h, _ => by simp at h
  | c :: r, o, 0, _, h, k => by
    simp only [repCells] at k
    simp at h; subst h
    exact k.1
  | c :: r, o, j + 1, d, h, k => by
    simp only [repCells] at k
    have := repCells_get r (o + 1) j d (by simpa using h) k.2
    rwa [show o + 1 + j = o + (j + 1) by omega] at this
theorem repRows_get {b esz : Nat} : ∀ (xs : List (List D)) (o j : Nat) (x : List D), xs[j]? = some x → repRows J F w b esz xs o → x.length = esz ∧ repCells J F w b x (o + j * esz)
  | [], _, _, _, h, _ => by simp at h
  | x :: r, o, 0, _, h, k => by
    simp only [repRows] at k
    simp at h; subst h
    exact ⟨k.1, by simpa using k.2.1⟩
  | x :: r, o, j + 1, d, h, k => by
    simp only [repRows] at k
    have := repRows_get r (o + esz) j d (by simpa using h) k.2.2
    rwa [show o + esz + j * esz = o + (j + 1) * esz by rw [Nat.add_mul]; omega] at this
theorem repCells_mk {b : Nat} : ∀ (cs : List D) (o : Nat), (∀ (j : Nat) (c : D), cs[j]? = some c → ∃ u, w.cell? ⟨b, o + j, none⟩ = some u ∧ oneCell u = true ∧ rep J F w c u) → repCells J F w b cs o
  | [], _, _ => by simp only [repCells]
  | c :: r, o, h => by
    simp only [repCells]
    refine ⟨by simpa using h 0 c rfl, repCells_mk r (o + 1) fun j d hd => ?_⟩
    have := h (j + 1) d (by simpa using hd)
    rwa [show o + (j + 1) = o + 1 + j by omega] at this
theorem repRows_mk {b esz : Nat} : ∀ (xs : List (List D)) (o : Nat), (∀ (j : Nat) (x : List D), xs[j]? = some x → x.length = esz ∧ repCells J F w b x (o + j * esz)) → repRows J F w b esz xs o
  | [], _, _ => by simp only [repRows]
  | x :: r, o, h => by
    simp only [repRows]
    refine ⟨(h 0 x rfl).1, by simpa using (h 0 x rfl).2, repRows_mk r (o + esz) fun j d hd => ?_⟩
    have := h (j + 1) d (by simpa using hd)
    rwa [show o + (j + 1) * esz = o + esz + j * esz by rw [Nat.add_mul]; omega] at this
theorem repL_len : ∀ (ds : List D) (vs : List Value), repL J F w ds vs → vs.length = ds.length
  | [], vs, h => by simp only [repL] at h; simp [h]
  | d :: ds, vs, h => by
    simp only [repL] at h
    obtain ⟨v, us, rfl, _, h3⟩ := h
    simp [repL_len ds us h3]
theorem repL_get : ∀ (ds : List D) (vs : List Value) (j : Nat) (d : D), ds[j]? = some d → repL J F w ds vs → ∃ v, vs[j]? = some v ∧ rep J F w d v
  | [], _, _, _, h, _ => by simp at h
  | d :: ds, vs, 0, _, h, k => by
    simp only [repL] at k
    obtain ⟨v, us, rfl, h2, _⟩ := k
    simp at h; subst h
    exact ⟨v, rfl, h2⟩
  | d :: ds, vs, j + 1, e, h, k => by
    simp only [repL] at k
    obtain ⟨v, us, rfl, _, h3⟩ := k
    simpa using repL_get ds us j e (by simpa using h) h3
theorem repL_mk : ∀ (ds : List D) (vs : List Value), vs.length = ds.length → (∀ (j : Nat) (d : D) (v : Value), ds[j]? = some d → vs[j]? = some v → rep J F w d v) → repL J F w ds vs
  | [], vs, h, _ => by simp only [repL]; exact List.length_eq_zero_iff.1 h
  | d :: ds, [], h, _ => by simp at h
  | d :: ds, v :: vs, h, k => by
    simp only [repL]
    exact ⟨v, vs, rfl, k 0 d v rfl rfl, repL_mk ds vs (by simpa using h) fun j e u he hu => k (j + 1) e u (by simpa using he) (by simpa using hu)⟩
theorem repL_append {a b : List D} : ∀ {va vb : List Value}, repL J F w a va → repL J F w b vb → repL J F w (a ++ b) (va ++ vb) := by
  induction a with
  | nil => intro va vb h k; simp only [repL] at h; subst h; simpa using k
  | cons d ds ih =>
    intro va vb h k
    simp only [repL] at h
    obtain ⟨v, us, rfl, h2, h3⟩ := h
    simp only [List.cons_append, repL]
    exact ⟨v, us ++ vb, rfl, h2, ih h3 k⟩
end

/-! ### The heap of the call's own objects -/

def AObj.mut : AObj → Bool | .row m _ => m | .vec m _ _ _ => m

section
variable (J : Inj) (F : Nat → Prop) (w : World)
def ObjOK (s : Site) : AObj → Prop
  | .row m cs => s.row = true ∧ s.ver = 0 ∧ s.esz = 1 ∧ s.len = cs.length ∧ s.cap = cs.length ∧ ∃ b vals te, s.ad = some ⟨b, 0, none⟩ ∧ w.heap[b]? = some (.cells vals te (0, 0)) ∧ vals.size = cs.length ∧ repCells J F w b cs 0 ∧ (m = false → F b)
  | .vec m ver esz xs => s.row = false ∧ s.ver = ver ∧ s.esz = esz ∧ s.len = xs.length ∧ s.len ≤ s.cap ∧ (s.cap = 0 ∨ ∃ b o vals te, s.ad = some ⟨b, o, none⟩ ∧ w.heap[b]? = some (.cells vals te (0, 0)) ∧ o + s.cap * esz ≤ vals.size ∧ repRows J F w b esz xs o ∧ (m = false → F b))

structure StOK (H : Nat → Option AObj) : Prop where
  obj : ∀ id s, J id = some s → ∃ o, H id = some o ∧ ObjOK J F w s o
  one : ∀ id id' s s' b, J id = some s → J id' = some s' → s.blk = some b → s'.blk = some b → id = id'
  apart : ∀ id s b o, J id = some s → s.blk = some b → H id = some o → o.mut = true → ¬ F b
  lt : ∀ b, F b → b < w.heap.size

def Owns (b : Nat) : Prop := ∃ id s, J id = some s ∧ s.blk = some b
end

/-- What became of memory: nothing old but the call's own has turned. -/
structure Ext (J : Inj) (F : Nat → Prop) (w : World) (J' : Inj) (F' : Nat → Prop) (w' : World) : Prop where
  os : w'.os = w.os
  tape : w'.tape = w.tape
  output : w'.output = w.output
  size : w.heap.size ≤ w'.heap.size
  block : ∀ b, b < w.heap.size → ¬ Owns J b → w'.heap[b]? = w.heap[b]?
  frozen : ∀ b, F b → w'.heap[b]? = w.heap[b]?
  le : J.le J'
  grow : ∀ b, F b → F' b
  ownsBack : ∀ b, Owns J' b → Owns J b ∨ w.heap.size ≤ b
  growBack : ∀ b, F' b → F b ∨ Owns J b ∨ w.heap.size ≤ b

theorem Ext.refl (J : Inj) (F : Nat → Prop) (w : World) : Ext J F w J F w := ⟨rfl, rfl, rfl, Nat.le_refl _, fun _ _ _ => rfl, fun _ _ => rfl, Inj.le_refl J, fun _ h => h, fun _ h => .inl h, fun _ h => .inl h⟩

theorem Ext.trans {J J' J'' : Inj} {F F' F'' : Nat → Prop} {w w' w'' : World} (h : Ext J F w J' F' w') (k : Ext J' F' w' J'' F'' w'') : Ext J F w J'' F'' w'' where
  os := k.os.trans h.os
  tape := k.tape.trans h.tape
  output := k.output.trans h.output
  size := Nat.le_trans h.size k.size
  block b hb ho := by
    have h1 : ¬ Owns J' b := fun h' => (h.ownsBack b h').elim ho (fun h'' => by omega)
    rw [k.block b (by have := h.size; omega) h1, h.block b hb ho]
  frozen b hb := (k.frozen b (h.grow b hb)).trans (h.frozen b hb)
  le := Inj.le_trans h.le k.le
  grow b hb := k.grow b (h.grow b hb)
  ownsBack b hb := (k.ownsBack b hb).elim (h.ownsBack b) fun h' => .inr (Nat.le_trans h.size h')
  growBack b hb := by
    rcases k.growBack b hb with h1 | h1 | h1
    · exact h.growBack b h1
    · exact (h.ownsBack b h1).elim (fun h2 => .inr (.inl h2)) (fun h2 => .inr (.inr h2))
    · exact .inr (.inr (Nat.le_trans h.size h1))

theorem rep_ext {J J' : Inj} {F F' : Nat → Prop} {w w' : World} (h : Ext J F w J' F' w') {d : D} {v : Value} (k : rep J F w d v) : rep J' F' w' d v := rep_mono h.le h.grow h.frozen d v k
theorem repL_ext {J J' : Inj} {F F' : Nat → Prop} {w w' : World} (h : Ext J F w J' F' w') {d : List D} {v : List Value} (k : repL J F w d v) : repL J' F' w' d v := repL_mono h.le h.grow h.frozen d v k
end Go.Proofs.Ytkkfiadefekbbaa
