/-
  What an operation's reckoning says is what the machine does: appends. No statement is proved here.
-/
import Derived.Test.YtkkfiadefekbbaaDs5
import Derived.Deep.AppendSrc
namespace Go.Proofs.Ytkkfiadefekbbaa
open Go.RowKit
set_option linter.unusedSimpArgs false
set_option linter.unusedVariables false

section
variable {J : Inj} {F : Nat → Prop} {w : World}
/-- Rows as one list of values. -/
def RowsOf (J : Inj) (F : Nat → Prop) (w : World) (esz : Nat) (xs : List (List D)) (us : List Value) : Prop :=
  us.length = xs.length * esz ∧ (∀ u ∈ us, oneCell u = true) ∧ ∀ (j : Nat) (x : List D), xs[j]? = some x → x.length = esz ∧ ∀ (k : Nat) (c : D), x[k]? = some c → ∃ u, us[j * esz + k]? = some u ∧ oneCell u = true ∧ rep J F w c u

theorem repRows_vals {b esz : Nat} : ∀ (xs : List (List D)) (o : Nat), repRows J F w b esz xs o → ∃ us, RowsOf J F w esz xs us ∧ ∀ j u, us[j]? = some u → w.cell? ⟨b, o + j, none⟩ = some u
  | [], o, _ => ⟨[], ⟨by simp, (fun u h => by cases h), (fun j x h => by simp at h)⟩, fun j u h => by simp at h⟩
  | x :: r, o, h => by
    simp only [repRows] at h
    obtain ⟨h1, h2, h3⟩ := h
    obtain ⟨vs, k1, k2, k3⟩ := repCells_vals x o h2
    obtain ⟨us, ⟨k4, k5, k6⟩, k7⟩ := repRows_vals r (o + esz) h3
    have hl := repL_len _ _ k1
    refine ⟨vs ++ us, ⟨?_, fun u hu => (List.mem_append.1 hu).elim (k3 u) (k5 u), fun j y hj => ?_⟩, fun j u hu => ?_⟩
    · rw [List.length_append, k4, List.length_cons, Nat.add_mul]; omega
    · cases j with
      | zero =>
        simp at hj; subst hj
        refine ⟨h1, fun k c hc => ?_⟩
        obtain ⟨v, q1, q2⟩ := repL_get _ _ _ _ hc k1
        have hk : k < vs.length := by
          rcases Nat.lt_or_ge k vs.length with h | h
          · exact h
          · rw [List.getElem?_eq_none h] at q1; cases q1
        exact ⟨v, by rw [Nat.zero_mul, Nat.zero_add, List.getElem?_append_left hk]; exact q1, k3 v (List.mem_of_getElem? q1), q2⟩
      | succ j =>
        obtain ⟨q1, q2⟩ := k6 j y (by simpa using hj)
        refine ⟨q1, fun k c hc => ?_⟩
        obtain ⟨u, p1, p2⟩ := q2 k c hc
        refine ⟨u, ?_, p2⟩
        rw [List.getElem?_append_right (by rw [Nat.add_mul]; omega), show (j + 1) * esz + k - vs.length = j * esz + k by rw [Nat.add_mul]; omega]
        exact p1
    · by_cases hj : j < vs.length
      · rw [List.getElem?_append_left hj] at hu
        exact k2 j u hu
      · rw [List.getElem?_append_right (by omega)] at hu
        have := k7 _ u hu
        rwa [show o + esz + (j - vs.length) = o + j by omega] at this

theorem RowsOf.append {esz : Nat} {xs ys : List (List D)} {us vs : List Value} (h : RowsOf J F w esz xs us) (k : RowsOf J F w esz ys vs) : RowsOf J F w esz (xs ++ ys) (us ++ vs) := by
  obtain ⟨h1, h2, h3⟩ := h
  obtain ⟨k1, k2, k3⟩ := k
  refine ⟨by rw [List.length_append, List.length_append, h1, k1, Nat.add_mul], fun u hu => (List.mem_append.1 hu).elim (h2 u) (k2 u), fun j x hj => ?_⟩
  by_cases hl : j < xs.length
  · rw [List.getElem?_append_left hl] at hj
    obtain ⟨q1, q2⟩ := h3 j x hj
    refine ⟨q1, fun k c hc => ?_⟩
    obtain ⟨u, p1, p2⟩ := q2 k c hc
    refine ⟨u, ?_, p2⟩
    rw [List.getElem?_append_left]
    · exact p1
    · rcases Nat.lt_or_ge (j * esz + k) us.length with h | h
      · exact h
      · rw [List.getElem?_eq_none h] at p1; cases p1
  · rw [List.getElem?_append_right (by omega)] at hj
    obtain ⟨q1, q2⟩ := k3 _ x hj
    refine ⟨q1, fun k c hc => ?_⟩
    obtain ⟨u, p1, p2⟩ := q2 k c hc
    refine ⟨u, ?_, p2⟩
    have : xs.length * esz ≤ j * esz := Nat.mul_le_mul_right _ (by omega)
    rw [List.getElem?_append_right (by omega), show j * esz + k - us.length = (j - xs.length) * esz + k by rw [Nat.sub_mul]; omega]
    exact p1
theorem RowsOf.nil (esz : Nat) : RowsOf J F w esz [] [] := ⟨by simp, (fun u h => by cases h), (fun j x h => by simp at h)⟩
theorem RowsOf.mono {J' : Inj} {F' : Nat → Prop} {w' : World} {esz : Nat} {xs : List (List D)} {us : List Value} (h : RowsOf J F w esz xs us) (hm : ∀ d v, rep J F w d v → rep J' F' w' d v) : RowsOf J' F' w' esz xs us :=
  ⟨h.1, h.2.1, fun j x hj => ⟨(h.2.2 j x hj).1, fun k c hc => let ⟨u, p1, p2, p3⟩ := (h.2.2 j x hj).2 k c hc; ⟨u, p1, p2, hm _ _ p3⟩⟩⟩
/-- Rows that lie in a block as one list of values. -/
theorem RowsOf.lie {esz b o : Nat} {xs : List (List D)} {us : List Value} (h : RowsOf J F w esz xs us) (hc : ∀ j u, us[j]? = some u → w.cell? ⟨b, o + j, none⟩ = some u) : repRows J F w b esz xs o := by
  refine repRows_mk _ _ fun j x hj => ?_
  obtain ⟨q1, q2⟩ := h.2.2 j x hj
  refine ⟨q1, repCells_mk _ _ fun k c hk => ?_⟩
  obtain ⟨u, p1, p2, p3⟩ := q2 k c hk
  exact ⟨u, by have := hc _ u p1; rwa [← Nat.add_assoc] at this, p2, p3⟩
end

section
variable {P : Program} {seq : Bool} {o : Oper} {env : Env} {H : List AObj} {K : Cont}

/-- What an appended slice brings. -/
theorem srcK_spec {esz : Nat} {dy : D} {K' : List (List D) → List Nat → Prop} (h : srcK H esz dy K') : ∃ ys rd, K' ys rd ∧
    ∀ (J : Inj) (F : Nat → Prop) (w : World) (G : Nat → Option AObj) (v : Value), StOK J F w G → (∀ id ∈ rd, G id = H[id]?) → rep J F w dy v →
      ∃ A c us, v = .slice A ys.length c ∧ RowsOf J F w esz ys us ∧ ((A = none ∧ ys = []) ∨ ∃ a, A = some a ∧ ∀ j u, us[j]? = some u → w.cell? (a.add j) = some u) := by
  unfold srcK at h
  split at h
  · rename_i esz' ys
    obtain ⟨e, h'⟩ := (sameK_iff _ _ _).1 h
    subst e
    refine ⟨ys, [], h', fun J F w G v hok _ hv => ?_⟩
    simp only [rep] at hv
    obtain ⟨A, n, c, rfl, rfl, hc, k⟩ := hv
    rcases k with k | ⟨b, o, rfl, hF, k⟩
    · have : ys = [] := List.length_eq_zero_iff.1 k
      subst this
      refine ⟨A, c, [], rfl, RowsOf.nil _, ?_⟩
      cases A with
      | none => exact .inl ⟨rfl, rfl⟩
      | some a => exact .inr ⟨a, rfl, fun j u h => by simp at h⟩
    · obtain ⟨us, k1, k2⟩ := repRows_vals _ _ k
      exact ⟨_, c, us, rfl, k1, .inr ⟨_, rfl, fun j u hu => by rw [add_at]; exact k2 j u hu⟩⟩
  · rename_i id ver lo hi
    obtain ⟨ob, h1, h2⟩ := (hgetK_iff _ _ _).1 h
    split at h2
    · rename_i m ver' esz' zs
      obtain ⟨rfl, h2⟩ := h2
      obtain ⟨e, h3⟩ := (sameK_iff _ _ _).1 h2
      subst e
      refine ⟨_, [id], h3, fun J F w G v hok hrd hv => ?_⟩
      simp only [rep] at hv
      obtain ⟨s, A, n, c, q1, rfl, q2, q3⟩ := hv
      obtain ⟨p1, p2, p3, p4, p5, p6⟩ := vecOK hok q1 ((hrd id (by simp)).trans h1)
      obtain ⟨t1, t2, t3, rfl, rfl, t6⟩ := q3 p2.symm
      have hl : ((zs.take hi).drop lo).length = hi - lo := by simp; omega
      rw [hl]
      rcases t6 with t6 | ⟨b, o, t6, rfl⟩
      · have : (zs.take hi).drop lo = [] := List.length_eq_zero_iff.1 (by omega)
        rw [this]
        refine ⟨A, _, [], rfl, RowsOf.nil _, ?_⟩
        cases A with
        | none => exact .inl ⟨rfl, rfl⟩
        | some a => exact .inr ⟨a, rfl, fun j u h => by simp at h⟩
      · rcases p6 with p6 | ⟨b', o', vals, te, e, _, _, k, _⟩
        · have : (zs.take hi).drop lo = [] := List.length_eq_zero_iff.1 (by omega)
          rw [this]
          exact ⟨_, _, [], rfl, RowsOf.nil _, .inr ⟨_, rfl, fun j u h => by simp at h⟩⟩
        · rw [t6] at e; cases e
          obtain ⟨us, k1, k2⟩ := repRows_vals _ _ (repRows_part k lo hi)
          exact ⟨_, _, us, rfl, k1, .inr ⟨_, rfl, fun j u hu => by rw [add_at, p3]; exact k2 j u hu⟩⟩
    · exact h2.elim
  · refine ⟨[], [], h, fun J F w G v hok _ hv => ?_⟩
    simp only [rep] at hv
    exact ⟨none, 0, [], hv, RowsOf.nil _, .inl ⟨rfl, rfl⟩⟩
  · exact h.elim

theorem oneCell_kit (v : Value) : v.oneCell' = oneCell v := by cases v <;> rfl

theorem src_of {J : Inj} {F : Nat → Prop} {w : World} {u e' : TypeId} {esz n c : Nat} {A : Option Addr} {ys : List (List D)} {us : List Value} (hu : P.underlying u = some (.slice e')) (hn : n = ys.length) (hr : RowsOf J F w esz ys us)
    (h : (A = none ∧ ys = []) ∨ ∃ a, A = some a ∧ ∀ j x, us[j]? = some x → w.cell? (a.add j) = some x) : Src P esz u (.slice A n c) n us w := by
  subst hn
  rcases h with ⟨rfl, rfl⟩ | ⟨a, rfl, h⟩
  · have : us = [] := List.length_eq_zero_iff.1 (by have := hr.1; simpa using this)
    subst this
    exact Src.ofNil w hu c
  · exact Src.ofSlice w hu a _ c us hr.1 h fun x hx => by rw [oneCell_kit]; exact hr.2.1 x hx

theorem grownCap_ge (w : World) (need old : Nat) (e : TypeId) : need ≤ grownCap w need old e := by
  unfold grownCap Question.cut; simp

/-- The draw before a new array. -/
theorem StOK.drew {J : Inj} {F : Nat → Prop} {w : World} {G : Nat → Option AObj} (h : StOK J F w G) : StOK J F w.drew G :=
  ⟨fun id s hi => by
    obtain ⟨o, h1, h2⟩ := h.obj id s hi
    exact ⟨o, h1, ObjOK_mono (w := w) (w' := w.drew) (Inj.le_refl J) (fun _ h => h) (fun _ _ => rfl) (fun _ _ => rfl) h2⟩, h.one, h.apart, h.lt⟩
theorem Ext.drew {J : Inj} {F : Nat → Prop} {w : World} : Ext J F w J F w.drew := ⟨rfl, rfl, rfl, Nat.le_refl _, fun _ _ _ => rfl, fun _ _ => rfl, Inj.le_refl J, fun _ h => h, fun _ h => .inl h, fun _ h => .inl h⟩
theorem rep_drew {J : Inj} {F : Nat → Prop} {w : World} {d : D} {v : Value} (h : rep J F w d v) : rep J F w.drew d v := rep_mono (w := w) (w' := w.drew) (Inj.le_refl J) (fun _ h => h) (fun _ _ => rfl) _ _ h

theorem firstCells_none' (size : Nat) (A : Option Addr) (c : Nat) (w : World) : (Builtin.firstCells size 0 (.slice A 0 c)).run P w = .ok (List.toArray []) w := by
  cases A with
  | none => exact run_firstCells_none w size 0 0 c
  | some a => exact run_firstCells_some w size 0 a 0 c [] (by simp) (by simp)

/-- The grown array: what is asked of it. -/
theorem grown_ok {J : Inj} {F : Nat → Prop} {w : World} {esz cap n : Nat} {xs : List (List D)} {us : List Value} {z : Array Value} (hr : RowsOf J F w esz xs us) (hz : z.size = esz) (hn : n = xs.length) (hcap : n ≤ cap) :
    cap * esz ≤ (us.toArray ++ Builtin.zeroCells z (cap - n)).size ∧ ∀ (j : Nat) (x : List D), xs[j]? = some x → x.length = esz ∧ ∀ (k : Nat) (c : D), x[k]? = some c → ∃ u, (us.toArray ++ Builtin.zeroCells z (cap - n))[j * esz + k]? = some u ∧ oneCell u = true ∧ rep J F w c u := by
  subst hn
  refine ⟨?_, fun j x hj => ?_⟩
  · simp only [Array.size_append, List.size_toArray, hr.1, Builtin.zeroCells, Array.size_map, Array.size_range, hz]
    rw [← Nat.add_mul]
    exact Nat.mul_le_mul_right _ (by omega)
  · obtain ⟨q1, q2⟩ := hr.2.2 j x hj
    refine ⟨q1, fun k c hc => ?_⟩
    obtain ⟨u, p1, p2, p3⟩ := q2 k c hc
    refine ⟨u, ?_, p2, p3⟩
    have hlt : j * esz + k < us.length := by
      rcases Nat.lt_or_ge (j * esz + k) us.length with h | h
      · exact h
      · rw [List.getElem?_eq_none h] at p1; cases p1
    rw [Array.getElem?_append_left (by simpa using hlt)]
    simpa using p1

theorem s_append_nil {t u e e' : TypeId} {ty : TypeId} {x y : Operand} {z : Value} {ys : List (List D)} {rd : List Nat} (ht : P.underlying t = some (.slice e)) (hu : P.underlying u = some (.slice e')) (hz : (P.info? e).bind (·.zero) = some z) (hzs : z.cells.size = P.cellsOf e) (hpos : 0 < P.cellsOf e) (hbp : 0 < P.bytesOf e)
    (hoty : o.type = ty) (ho : o.op = .call { callee := .builtin .append, args := #[x, y], argTypes := #[t, u] }) (hx : evalD env x = .sc (.slice none 0 0))
    (hy : ∀ (J : Inj) (F : Nat → Prop) (w : World) (G : Nat → Option AObj) (v : Value), StOK J F w G → (∀ id ∈ rd, G id = H[id]?) → rep J F w (evalD env y) v →
      ∃ A c us, v = .slice A ys.length c ∧ RowsOf J F w (P.cellsOf e) ys us ∧ ((A = none ∧ ys = []) ∨ ∃ a, A = some a ∧ ∀ j u, us[j]? = some u → w.cell? (a.add j) = some u))
    (h0 : 0 < ys.length) (hfit : sliceAppend 0 (P.bytesOf e) ys.length) (hK : K (.own H.length 0 0 ys.length) (H ++ [.vec true 0 (P.cellsOf e) ys]) rd [H.length]) : Sound P o env H K := by
  obtain ⟨ei, hi1, hi2⟩ := info_of_cells (e := e) (P := P) (by omega)
  have hi3 : ei.bytes = P.bytesOf e := by simp [Program.bytesOf, hi1]
  have hz' : ei.zero = some z := by simpa [hi1] using hz
  refine sound_new hK fun J F w a G hok hops hrd hn => ?_
  have k1 := hops x (by simp [ho, Op.operands, Call.operands])
  rw [hx] at k1
  simp only [rep] at k1
  obtain ⟨A, c, us, k2, k3, k4⟩ := hy J F w G _ hok hrd (hops y (by simp [ho, Op.operands, Call.operands]))
  have hsrc := src_of (P := P) (n := ys.length) (c := c) hu rfl k3 k4
  rw [← hi2] at hsrc
  have hfit' : (0 + ys.length) * ei.bytes ≤ 140737488355328 := by unfold sliceAppend at hfit; rw [hi3]; exact hfit
  have hsmall : ys.length ≤ 140737488355328 := by
    have : ys.length * 1 ≤ ys.length * ei.bytes := Nat.mul_le_mul_left _ (by rw [hi3]; exact hbp)
    rw [Nat.zero_add] at hfit'; omega
  have run := run_append_grow_src (P := P) w t u ty e ei z ht hi1 hz' none 0 0 [] (by exact firstCells_none' ei.size none 0 w.drew) (.slice A ys.length c) ys.length us hsrc (by omega) (by omega) (growslice_fits (by omega) hfit')
  rw [Nat.zero_add] at run
  obtain ⟨q1, q2⟩ := grown_ok (cap := grownCap w ys.length 0 e) k3 hzs rfl (grownCap_ge w _ _ _)
  obtain ⟨J', r1, r2, r3, r4⟩ := newVec_ok (w := w.drew) (esz := P.cellsOf e) (cap := grownCap w ys.length 0 e) (xs := ys) (vals := us.toArray ++ Builtin.zeroCells z.cells (grownCap w ys.length 0 e - ys.length)) hok.drew H.length hn e (grownCap_ge w _ _ _) q1 fun j x hj => ⟨(q2 j x hj).1, fun k c hc => let ⟨u, p1, p2, p3⟩ := (q2 j x hj).2 k c hc; ⟨u, p1, p2, rep_drew p3⟩⟩
  refine ⟨_, _, J', F, ?_, r4, r1, Ext.drew.trans r2, r3⟩
  simp only [List.nil_append] at run
  simp only [execOp, ho, resolve, invoke, builtin, Sem.run_bind, Sem.run, pure, Result.andThen_ok, List.map_toArray, List.map_cons, List.map_nil, k1, k2, hoty]
  rw [run]
  rfl

theorem Inj.le_turn {J : Inj} {id : Nat} {s s' : Site} (h : J id = some s) (hr : s.row = false) (hv : s.ver < s'.ver) : J.le (fun i => if i = id then some s' else J i) := fun i t ht => by
  by_cases e : i = id
  · subst e
    rw [h] at ht; cases ht
    exact ⟨s', by simp, by omega, fun q => by rcases q with q | q; · omega
                                              · rw [hr] at q; cases q⟩
  · exact ⟨t, by simp [e, ht], Nat.le_refl _, fun _ => rfl⟩

/-- A slice's array that moves to a new block. -/
theorem moveVec_ok {J : Inj} {F : Nat → Prop} {w : World} {G : Nat → Option AObj} (h : StOK J F w G) (id : Nat) {s : Site} (hs : J id = some s) (hrow : s.row = false) {ver esz cap : Nat} (hver : s.ver < ver) {xs : List (List D)} {vals : Array Value} (te : TypeId)
    (hlen : xs.length ≤ cap) (hsz : cap * esz ≤ vals.size) (hx : ∀ (j : Nat) (x : List D), xs[j]? = some x → x.length = esz ∧ ∀ (k : Nat) (c : D), x[k]? = some c → ∃ u, vals[j * esz + k]? = some u ∧ oneCell u = true ∧ rep J F w c u) :
    ∃ J', StOK J' F (w.alloc (.cells vals te)) (fun i => if i = id then some (.vec true ver esz xs) else G i) ∧ Ext J F w J' F (w.alloc (.cells vals te)) ∧
      (∀ i, i ≠ id → J' i = J i) ∧ rep J' F (w.alloc (.cells vals te)) (.own id ver 0 xs.length) (.slice (some ⟨w.heap.size, 0, none⟩) xs.length cap) := by
  have hle := Inj.le_turn (s' := ⟨false, ver, some ⟨w.heap.size, 0, none⟩, esz, cap, xs.length⟩) hs hrow hver
  have hF : ∀ b, F b → (w.alloc (.cells vals te)).heap[b]? = w.heap[b]? := fun b hb => heap_push_lt w _ (h.lt b hb)
  have hrows : repRows (fun i => if i = id then some ⟨false, ver, some ⟨w.heap.size, 0, none⟩, esz, cap, xs.length⟩ else J i) F (w.alloc (.cells vals te)) w.heap.size esz xs 0 := by
    refine repRows_mk _ _ fun j x hj => ?_
    obtain ⟨k1, k2⟩ := hx j x hj
    refine ⟨k1, repCells_mk _ _ fun k c hc => ?_⟩
    obtain ⟨u, q1, q0, q2⟩ := k2 k c hc
    exact ⟨u, by simp [q1], q0, rep_mono hle (fun _ h => h) hF _ _ q2⟩
  have hbs : ∀ b, Site.blk ⟨false, ver, some ⟨w.heap.size, 0, none⟩, esz, cap, xs.length⟩ = some b → b = w.heap.size := fun b hb => by
    unfold Site.blk at hb
    split at hb
    · cases hb
    · simpa using hb.symm
  refine ⟨_, h.update id ⟨false, ver, some ⟨w.heap.size, 0, none⟩, esz, cap, xs.length⟩ (.vec true ver esz xs) (fun _ => rfl) (fun _ => rfl) hle hF (by simp) (fun i s b _ hi hb => heap_push_lt w _ (h.blk_lt hi hb)) (fun b hb => .inl (by rw [hbs b hb]; exact Nat.le_refl _)) (fun i s b hi hb => h.blk_lt hi hb) (fun b hb _ hFb => ?_)
    ⟨rfl, rfl, rfl, rfl, hlen, .inr ⟨w.heap.size, 0, vals, te, rfl, heap_alloc_new w _, by simpa using hsz, hrows, fun q => by cases q⟩⟩, ?_, fun i hi => by simp [hi], ?_⟩
  · have := h.lt b hFb
    rw [hbs b hb] at this; omega
  · exact ⟨rfl, rfl, rfl, by simp, fun b hb _ => heap_push_lt w _ hb, hF, hle, fun _ h => h, fun b ⟨i, t, hi, hb⟩ => by
      dsimp only at hi
      by_cases e : i = id
      · rw [if_pos e] at hi; cases hi
        exact .inr (by rw [hbs b hb]; exact Nat.le_refl _)
      · rw [if_neg e] at hi
        exact .inl ⟨i, t, hi, hb⟩, fun b hb => .inl hb⟩
  · simp only [rep]
    exact ⟨_, _, _, _, by simp; rfl, rfl, Nat.le_refl _, fun _ => ⟨rfl, Nat.zero_le _, Nat.le_refl _, by simp, by simp, .inr ⟨w.heap.size, 0, rfl, by simp⟩⟩⟩

/-- An operation that turns one slice's array. -/
theorem sound_turn {ob : AObj} {id : Nat} {d : D} {rd : List Nat} (hid : id < H.length) (hK : K d (H.set id ob) rd [id])
    (h : ∀ (J : Inj) (F : Nat → Prop) (w : World) (a : Act) (G : Nat → Option AObj), StOK J F w G → (∀ x ∈ o.op.operands, rep J F w (evalD env x) (a.eval x)) → (∀ i ∈ rd, G i = H[i]?) → G id = H[id]? →
      ∃ v w' J' F', (execOp a.eval o).run P w = .ok (.value v) w' ∧ rep J' F' w' d v ∧ StOK J' F' w' (fun i => if i = id then some ob else G i) ∧ Ext J F w J' F' w' ∧ (∀ i, i ≠ id → J' i = J i)) : Sound P o env H K := by
  refine ⟨d, H.set id ob, rd, [id], ⟨fun i hi => ?_, by simp, fun i hi => by simp at hi; simp [hi, hid], fun J F w a G hok hops hrd hnew K Q hK => ?_⟩, hK⟩
  · simp at hi
    rw [List.getElem?_set_ne (fun e => hi e.symm)]
  · obtain ⟨v, w', J', F', h1, h2, h3, h4, h5⟩ := h J F w a G hok hops (fun i hi => hrd i (.inl hi)) (hrd id (.inr (by simp)))
    have hu : upd G [id] (H.set id ob) = fun i => if i = id then some ob else G i := upd_one G _ id ob (by simp [hid])
    unfold Oper.wp
    rw [h1, Oper.upon_value]
    exact hK v w' J' F' h2 (by rw [hu]; exact h3) h4 fun i hi hn => by rw [h5 i (by simpa using hn)]; exact hi

theorem run_append_room' {t u e ty : TypeId} {ei : TypeInfo} (ht : P.underlying t = some (.slice e)) (hi : P.info? e = some ei) {w w' : World} {b off sLen sCap n : Nat} {sv : Value} {us : List Value} (hs : Src P ei.size u sv n us w) (hroom : sLen + n ≤ sCap)
    (hst : (storeCells ⟨b, off + sLen * ei.size, none⟩ us 0).run P w = .ok () w') :
    (Builtin.append_ #[t, u] ty #[.slice (some ⟨b, off, none⟩) sLen sCap, sv]).run P w = .ok (.slice (some ⟨b, off, none⟩) (sLen + n) sCap) w' := by
  rcases hs.kind with ⟨e', hk⟩ | hk <;> simp [Builtin.append_, run_underlying ht, run_underlying hk, sizeOf, typeInfo, hi, hs.len, hroom, hs.cells, add_at, hst]
theorem run_append_none' {t u e ty : TypeId} {ei : TypeInfo} (ht : P.underlying t = some (.slice e)) (hi : P.info? e = some ei) {w : World} {A : Option Addr} {sv : Value} (hs : Src P ei.size u sv 0 [] w) :
    (Builtin.append_ #[t, u] ty #[.slice A 0 0, sv]).run P w = .ok (.slice A 0 0) w := by
  rcases hs.kind with ⟨e', hk⟩ | hk <;> cases A <;> simp [Builtin.append_, run_underlying ht, run_underlying hk, sizeOf, typeInfo, hi, hs.len, hs.cells, storeCells]

theorem s_append_own {t u e e' : TypeId} {ty : TypeId} {x y : Operand} {z : Value} {ys zs : List (List D)} {rd : List Nat} {id ver lo hi : Nat} (ht : P.underlying t = some (.slice e)) (hu : P.underlying u = some (.slice e')) (hz : (P.info? e).bind (·.zero) = some z) (hzs : z.cells.size = P.cellsOf e) (hpos : 0 < P.cellsOf e) (hbp : 0 < P.bytesOf e)
    (hoty : o.type = ty) (ho : o.op = .call { callee := .builtin .append, args := #[x, y], argTypes := #[t, u] }) (hx : evalD env x = .own id ver lo hi) (hH : H[id]? = some (.vec true ver (P.cellsOf e) zs))
    (hy : ∀ (J : Inj) (F : Nat → Prop) (w : World) (G : Nat → Option AObj) (v : Value), StOK J F w G → (∀ id ∈ rd, G id = H[id]?) → rep J F w (evalD env y) v →
      ∃ A c us, v = .slice A ys.length c ∧ RowsOf J F w (P.cellsOf e) ys us ∧ ((A = none ∧ ys = []) ∨ ∃ a, A = some a ∧ ∀ j u, us[j]? = some u → w.cell? (a.add j) = some u))
    (hfit : sliceAppend (hi - lo) (P.bytesOf e) ys.length) (hK : K (.own id (ver + 1) 0 (hi - lo + ys.length)) (H.set id (.vec true (ver + 1) (P.cellsOf e) ((zs.take hi).drop lo ++ ys))) rd [id]) : Sound P o env H K := by
  obtain ⟨ei, hi1, hi2⟩ := info_of_cells (e := e) (P := P) (by omega)
  have hi3 : ei.bytes = P.bytesOf e := by simp [Program.bytesOf, hi1]
  have hz' : ei.zero = some z := by simpa [hi1] using hz
  have hidl : id < H.length := by
    rcases Nat.lt_or_ge id H.length with h | h
    · exact h
    · rw [List.getElem?_eq_none h] at hH; cases hH
  refine sound_turn hidl hK fun J F w a G hok hops hrd hG => ?_
  have k1 := hops x (by simp [ho, Op.operands, Call.operands])
  rw [hx] at k1
  simp only [rep] at k1
  obtain ⟨s, A0, n0, c0, q1, q2, q3, q4⟩ := k1
  obtain ⟨A, c, us, k2, k3, k4⟩ := hy J F w G _ hok hrd (hops y (by simp [ho, Op.operands, Call.operands]))
  have hsrc := src_of (P := P) (n := ys.length) (c := c) hu rfl k3 k4
  rw [← hi2] at hsrc
  have hfit' : (hi - lo + ys.length) * ei.bytes ≤ 140737488355328 := by unfold sliceAppend at hfit; rw [hi3]; exact hfit
  have hsmall : hi - lo + ys.length ≤ 140737488355328 := by
    have : (hi - lo + ys.length) * 1 ≤ (hi - lo + ys.length) * ei.bytes := Nat.mul_le_mul_left _ (by rw [hi3]; exact hbp)
    omega
  obtain ⟨p1, p2, p3, p4, p5, p6⟩ := vecOK hok q1 (hG.trans hH)
  obtain ⟨t1, t2, t3, t4, t5, t6⟩ := q4 p2.symm
  have P6 := Lib.hid p6
  have T6 := Lib.hid t6
  clear p6 t6 q4
  have hlen : ((zs.take hi).drop lo).length = hi - lo := by simp; omega
  have exec : ∀ r w', (Builtin.append_ #[t, u] ty #[.slice A0 n0 c0, .slice A ys.length c]).run P w = .ok r w' → (execOp a.eval o).run P w = .ok (.value r) w' := by
    intro r w' hr
    simp only [execOp, ho, resolve, invoke, builtin, Sem.run_bind, Sem.run, pure, Result.andThen_ok, List.map_toArray, List.map_cons, List.map_nil, q2, k2, hoty]
    rw [hr]
    rfl
  -- the old cells
  have hold : ∃ olds, RowsOf J F w (P.cellsOf e) ((zs.take hi).drop lo) olds ∧ (Builtin.firstCells ei.size n0 (.slice A0 n0 c0)).run P w.drew = .ok olds.toArray w.drew := by
    by_cases hc : s.cap = lo
    · have h0 : (zs.take hi).drop lo = [] := List.length_eq_zero_iff.1 (by omega)
      refine ⟨[], by rw [h0]; exact RowsOf.nil _, ?_⟩
      have hn0 : n0 = 0 := by omega
      subst hn0
      exact firstCells_none' _ _ _ _
    · rcases T6.out with h | ⟨b, o', e1, e2⟩
      · exact absurd h hc
      · rcases P6.out with h | ⟨b', o'', vals, te, e3, e4, e5, e6, _⟩
        · omega
        · rw [e1] at e3; cases e3
          obtain ⟨olds, r1, r2⟩ := repRows_vals _ _ (repRows_part e6 lo hi)
          refine ⟨olds, r1, ?_⟩
          subst e2
          refine run_firstCells_some (P := P) w.drew ei.size n0 _ n0 c0 olds (by rw [r1.1, hi2, hlen, t4]) fun j v hv => ?_
          rw [add_at, p3]
          exact r2 j v hv
  obtain ⟨olds, ho1, ho2⟩ := hold
  have hall : RowsOf J F w (P.cellsOf e) ((zs.take hi).drop lo ++ ys) (olds ++ us) := ho1.append k3
  have htot : ((zs.take hi).drop lo ++ ys).length = hi - lo + ys.length := by rw [List.length_append, hlen]
  by_cases hroom : n0 + ys.length ≤ c0
  · by_cases hc : s.cap = lo
    · have hy0 : ys = [] := List.length_eq_zero_iff.1 (by omega)
      have hn0 : n0 = 0 := by omega
      have hc0 : c0 = 0 := by omega
      have h0 : (zs.take hi).drop lo = [] := List.length_eq_zero_iff.1 (by omega)
      have hus : us = [] := List.length_eq_zero_iff.1 (by rw [k3.1, hy0]; simp)
      subst hy0 hn0 hc0 hus
      have run := exec _ _ (run_append_none' (P := P) (ty := ty) ht hi1 hsrc)
      have hle := Inj.le_turn (s' := ⟨false, ver + 1, none, P.cellsOf e, 0, 0⟩) q1 t1 (by show s.ver < ver + 1; omega)
      refine ⟨_, w, _, F, run, ?_, hok.update id ⟨false, ver + 1, none, P.cellsOf e, 0, 0⟩ _ (fun _ => rfl) (fun _ => rfl) hle (fun _ _ => rfl) (Nat.le_refl _) (fun _ _ _ _ _ _ => rfl) (fun b hb => by simp [Site.blk] at hb) (fun i s b hi hb => hok.blk_lt hi hb) (fun b hb => by simp [Site.blk] at hb) ⟨rfl, rfl, rfl, by rw [h0]; rfl, Nat.le_refl _, .inl rfl⟩, ?_, fun i hi => by simp [hi]⟩
      · simp only [rep]
        exact ⟨_, _, _, _, by simp; rfl, rfl, Nat.le_refl _, fun _ => ⟨rfl, by omega, by simp; omega, by simp; omega, by simp, .inl rfl⟩⟩
      · exact ⟨rfl, rfl, rfl, Nat.le_refl _, fun _ _ _ => rfl, fun _ _ => rfl, hle, fun _ h => h, fun b ⟨i, t, hi, hb⟩ => by
          dsimp only at hi
          by_cases e : i = id
          · rw [if_pos e] at hi; cases hi
            simp [Site.blk] at hb
          · rw [if_neg e] at hi
            exact .inl ⟨i, t, hi, hb⟩, fun b hb => .inl hb⟩
    · rcases T6.out with h | ⟨b, o', e1, e2⟩
      · exact absurd h hc
      rcases P6.out with h | ⟨b', o'', vals, te, e3, e4, e5, e6, _⟩
      · omega
      rw [e1] at e3; cases e3
      subst e2
      have hb1 : (n0 + ys.length) * P.cellsOf e ≤ (s.cap - lo) * P.cellsOf e := Nat.mul_le_mul_right _ (by omega)
      have hb2 : (s.cap - lo) * P.cellsOf e + lo * P.cellsOf e = s.cap * P.cellsOf e := by rw [← Nat.add_mul]; congr 1; omega
      have hb3 : us.length = ys.length * P.cellsOf e := k3.1
      rw [Nat.add_mul] at hb1
      obtain ⟨w', r1, r2⟩ := run_storeCells (P := P) (b := b) (o := o' + lo * s.esz + n0 * ei.size) us 0 w vals te e4 (by rw [p3, hi2]; omega) k3.2.1
      rw [Nat.add_zero] at r2
      have run := exec _ _ (run_append_room' (P := P) (ty := ty) ht hi1 hsrc hroom r1)
      have hle := Inj.le_turn (s' := ⟨false, ver + 1, some ⟨b, o' + lo * s.esz, none⟩, P.cellsOf e, s.cap - lo, hi - lo + ys.length⟩) q1 t1 (by show s.ver < ver + 1; omega)
      have hown : s.blk = some b := by
        have : ¬ (s.row = false ∧ s.cap = 0) := fun h => by omega
        simp [Site.blk, this, e1]
      have hnF : ¬ F b := hok.apart id s b _ q1 hown (hG.trans hH) rfl
      have hFw : ∀ z, F z → w'.heap[z]? = w.heap[z]? := fun z hzF => r2.other z fun e => hnF (e ▸ hzF)
      have hbs : ∀ b1, Site.blk ⟨false, ver + 1, some ⟨b, o' + lo * s.esz, none⟩, P.cellsOf e, s.cap - lo, hi - lo + ys.length⟩ = some b1 → b1 = b := fun b1 hb => by
        unfold Site.blk at hb
        split at hb
        · cases hb
        · simpa using hb.symm
      obtain ⟨vals', s1, s2, s3⟩ := r2.here
      have hrows : repRows (fun i => if i = id then some ⟨false, ver + 1, some ⟨b, o' + lo * s.esz, none⟩, P.cellsOf e, s.cap - lo, hi - lo + ys.length⟩ else J i) F w' b (P.cellsOf e) ((zs.take hi).drop lo ++ ys) (o' + lo * s.esz) := by
        obtain ⟨olds', m1, m2⟩ := repRows_vals _ _ (repRows_part e6 lo hi)
        have hm := m1.append k3
        refine RowsOf.lie (us := olds' ++ us) (hm.mono fun d v h => rep_mono hle (fun _ h => h) hFw _ _ h) fun j v hv => ?_
        have hol : olds'.length = n0 * P.cellsOf e := by rw [m1.1, hlen, t4]
        rw [r2.cell e4]
        by_cases hj : j < olds'.length
        · rw [if_neg (by rw [hi2]; omega)]
          rw [List.getElem?_append_left hj] at hv
          have := m2 j v hv
          rwa [p3]
        · rw [List.getElem?_append_right (by omega)] at hv
          have hjl : j - olds'.length < us.length := by
            rcases Nat.lt_or_ge (j - olds'.length) us.length with h | h
            · exact h
            · rw [List.getElem?_eq_none h] at hv; cases hv
          rw [if_pos (by rw [hi2]; omega), show o' + lo * s.esz + j - (o' + lo * s.esz + n0 * ei.size) = j - olds'.length by rw [hi2]; omega]
          exact hv
      refine ⟨_, w', _, F, run, ?_, hok.update id ⟨false, ver + 1, some ⟨b, o' + lo * s.esz, none⟩, P.cellsOf e, s.cap - lo, hi - lo + ys.length⟩ _ (fun _ => rfl) (fun _ => rfl) hle hFw (by rw [r2.size]; exact Nat.le_refl _) (fun i s' b' hne hi hb => r2.other b' fun e => hne (hok.one i id s' s b' hi q1 hb (e ▸ hown))) (fun b1 hb => .inr ⟨s, q1, by rw [hbs b1 hb]; exact hown⟩) (fun i s b hi hb => hok.blk_lt hi hb) (fun b1 hb _ => by rw [hbs b1 hb]; exact hnF)
        ⟨rfl, rfl, rfl, htot.symm, by show hi - lo + ys.length ≤ s.cap - lo; omega, .inr ⟨b, o' + lo * s.esz, vals', te, rfl, s1, by rw [s2, p3]; show o' + lo * P.cellsOf e + (s.cap - lo) * P.cellsOf e ≤ vals.size; omega, hrows, fun q => by cases q⟩⟩, ?_, fun i hi => by simp [hi]⟩
      · simp only [rep]
        exact ⟨_, _, _, _, by simp; rfl, rfl, Nat.le_refl _, fun _ => ⟨rfl, Nat.zero_le _, Nat.le_refl _, by simp; omega, by simp; omega, .inr ⟨b, _, rfl, by simp⟩⟩⟩
      · refine r2.ext hok hle ⟨id, s, q1, hown⟩ (fun x ⟨i, t, hi, hb⟩ => ?_) hnF
        dsimp only at hi
        by_cases e : i = id
        · rw [if_pos e] at hi; cases hi
          rw [hbs x hb]
          exact ⟨id, s, q1, hown⟩
        · rw [if_neg e] at hi
          exact ⟨i, t, hi, hb⟩
  · have run := exec _ _ (run_append_grow_src (P := P) w t u ty e ei z ht hi1 hz' A0 n0 c0 olds ho2 (.slice A ys.length c) ys.length us hsrc (by omega) (by omega) (growslice_fits (by omega) (by rw [t4]; exact hfit')))
    obtain ⟨g1, g2⟩ := grown_ok (n := n0 + ys.length) (cap := grownCap w (n0 + ys.length) c0 e) hall hzs (by rw [htot, t4]) (grownCap_ge w _ _ _)
    obtain ⟨J', r1, r2, r3, r4⟩ := moveVec_ok (w := w.drew) (ver := ver + 1) (esz := P.cellsOf e) (cap := grownCap w (n0 + ys.length) c0 e) (xs := (zs.take hi).drop lo ++ ys) (vals := (olds ++ us).toArray ++ Builtin.zeroCells z.cells (grownCap w (n0 + ys.length) c0 e - (n0 + ys.length))) hok.drew id q1 t1 (by show s.ver < ver + 1; omega) e (by rw [htot, ← t4]; exact grownCap_ge w _ _ _) g1 fun j x hj => ⟨(g2 j x hj).1, fun k c hc => let ⟨u, p1, p2, p3⟩ := (g2 j x hj).2 k c hc; ⟨u, p1, p2, rep_drew p3⟩⟩
    rw [htot] at r4
    refine ⟨_, _, J', F, run, ?_, r1, Ext.drew.trans r2, r3⟩
    rw [t4]
    rw [t4] at r4
    exact r4
end
end Go.Proofs.Ytkkfiadefekbbaa
