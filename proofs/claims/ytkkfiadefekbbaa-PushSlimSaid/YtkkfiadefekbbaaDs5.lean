/-
  What an operation's reckoning says is what the machine does: stores and appends. No statement is proved here.
-/
import Derived.Test.YtkkfiadefekbbaaDs4
namespace Go.Proofs.Ytkkfiadefekbbaa
open Go.RowKit
set_option linter.unusedSimpArgs false
set_option linter.unusedVariables false

/-- Some cells of one block have turned. -/
structure Wrote (w w' : World) (b o : Nat) (us : List Value) (vals : Array Value) (te : TypeId) : Prop where
  os : w'.os = w.os
  tape : w'.tape = w.tape
  output : w'.output = w.output
  size : w'.heap.size = w.heap.size
  other : ∀ k, k ≠ b → w'.heap[k]? = w.heap[k]?
  here : ∃ vals', w'.heap[b]? = some (.cells vals' te (0, 0)) ∧ vals'.size = vals.size ∧ ∀ j, vals'[j]? = if o ≤ j ∧ j < o + us.length then us[j - o]? else vals[j]?

theorem run_store_one {P : Program} {w : World} {a : Addr} {u u' : Value} (hu : oneCell u = true) (hc : w.cell? a = some u') (hf : w.frozen? a = false) : (store a u).run P w = .ok () (w.setCell a u) := by
  cases u <;> simp [oneCell] at hu <;> simp [store, Sem.run, hc, hf]

theorem run_storeCells {P : Program} {b o : Nat} : ∀ (us : List Value) (i : Nat) (w : World) (vals : Array Value) (te : TypeId), w.heap[b]? = some (.cells vals te (0, 0)) → o + i + us.length ≤ vals.size → (∀ u ∈ us, oneCell u = true) →
    ∃ w', (storeCells ⟨b, o, none⟩ us i).run P w = .ok () w' ∧ Wrote w w' b (o + i) us vals te
  | [], i, w, vals, te, hb, _, _ => ⟨w, rfl, rfl, rfl, rfl, rfl, fun _ _ => rfl, vals, hb, rfl, fun j => by simp; intro h1 h2; omega⟩
  | u :: r, i, w, vals, te, hb, hl, h1 => by
    simp only [List.length_cons] at hl
    have hc : w.cell? ⟨b, o + i, none⟩ = vals[o + i]? := by simp [World.cell?, hb]
    have hf := frozen_of_row w b (o + i) vals te hb
    have hlt : o + i < vals.size := by omega
    have hset := heap_setCell_same w b (o + i) vals te u hb
    obtain ⟨w', e1, k⟩ := run_storeCells (P := P) (b := b) (o := o) r (i + 1) (w.setCell ⟨b, o + i, none⟩ u) (vals.setIfInBounds (o + i) u) te hset (by simp; omega) fun v hv => h1 v (by simp [hv])
    have hrun : (store (⟨b, o + i, none⟩ : Addr) u).run P w = .ok () (w.setCell ⟨b, o + i, none⟩ u) := by
      have hu := h1 u (by simp)
      rw [Array.getElem?_eq_getElem hlt] at hc
      exact run_store_one hu hc hf
    refine ⟨w', ?_, ?_⟩
    · simp only [storeCells, add_at, Sem.run_bind, hrun, Result.andThen_ok]
      exact e1
    · obtain ⟨vals', q1, q2, q3⟩ := k.here
      refine ⟨k.os, k.tape, k.output, by rw [k.size]; simp [World.setCell], fun x hx => by rw [k.other x hx]; exact heap_setCell_other w _ x u hx, vals', q1, by rw [q2]; simp, fun j => ?_⟩
      rw [q3]
      by_cases e : j = o + i
      · subst e
        rw [if_neg (by omega), if_pos (by simp)]
        simp [Array.getElem?_setIfInBounds, hlt]
      · by_cases h2 : o + (i + 1) ≤ j ∧ j < o + (i + 1) + r.length
        · rw [if_pos h2, if_pos (by simp; omega), show j - (o + i) = j - (o + (i + 1)) + 1 by omega, List.getElem?_cons_succ]
        · rw [if_neg h2, if_neg (by simp; omega), Array.getElem?_setIfInBounds_ne (by omega)]

theorem Wrote.cell {w w' : World} {b o : Nat} {us : List Value} {vals : Array Value} {te : TypeId} (h : Wrote w w' b o us vals te) (hb : w.heap[b]? = some (.cells vals te (0, 0))) (j : Nat) :
    w'.cell? ⟨b, j, none⟩ = if o ≤ j ∧ j < o + us.length then us[j - o]? else w.cell? ⟨b, j, none⟩ := by
  obtain ⟨vals', h1, _, h3⟩ := h.here
  simp only [World.cell?, h1, hb]
  simpa using h3 j

/-- Rows of cells: some of them written anew. -/
theorem repCells_wrote {J J' : Inj} {F : Nat → Prop} {w w' : World} {b o n : Nat} {us : List Value} {vals : Array Value} {te : TypeId} (h : Wrote w w' b (o + n) us vals te) (hb : w.heap[b]? = some (.cells vals te (0, 0)))
    (hle : J.le J') (hF : ∀ x, F x → w'.heap[x]? = w.heap[x]?) {cs xs : List D} (hc : repCells J F w b cs o) (h0 : ∀ u ∈ us, oneCell u = true) (hx : repL J F w xs us) (hn : n + xs.length ≤ cs.length) :
    repCells J' F w' b (cs.take n ++ xs ++ cs.drop (n + xs.length)) o := by
  have hl := repL_len _ _ hx
  refine repCells_mk _ _ fun j c hj => ?_
  rw [h.cell hb]
  by_cases h1 : j < n
  · rw [if_neg (by omega)]
    rw [List.append_assoc, List.getElem?_append_left (by simp; omega), List.getElem?_take, if_pos h1] at hj
    obtain ⟨u, q1, q0, q2⟩ := repCells_get cs o j c hj hc
    exact ⟨u, q1, q0, rep_mono hle (fun _ h => h) hF _ _ q2⟩
  · by_cases h2 : j < n + xs.length
    · rw [if_pos (by omega)]
      rw [List.append_assoc, List.getElem?_append_right (by simp; omega)] at hj
      rw [List.getElem?_append_left (by simp; omega)] at hj
      simp only [List.length_take] at hj
      rw [show j - min n cs.length = j - n by omega] at hj
      obtain ⟨u, q1, q2⟩ := repL_get _ _ _ _ hj hx
      exact ⟨u, by rw [show o + j - (o + n) = j - n by omega]; exact q1, h0 u (List.mem_of_getElem? q1), rep_mono hle (fun _ h => h) hF _ _ q2⟩
    · rw [if_neg (by omega)]
      rw [List.getElem?_append_right (by simp; omega), List.getElem?_drop] at hj
      simp only [List.length_append, List.length_take] at hj
      rw [show n + xs.length + (j - (min n cs.length + xs.length)) = j by omega] at hj
      obtain ⟨u, q1, q0, q2⟩ := repCells_get cs o j c hj hc
      exact ⟨u, q1, q0, rep_mono hle (fun _ h => h) hF _ _ q2⟩

/-- An owned block is written: what became of memory. -/
theorem Wrote.ext {J J' : Inj} {F : Nat → Prop} {w w' : World} {G : Nat → Option AObj} {b o : Nat} {us : List Value} {vals : Array Value} {te : TypeId} (h : Wrote w w' b o us vals te) (hok : StOK J F w G)
    (hle : J.le J') (hown : Owns J b) (hback : ∀ x, Owns J' x → Owns J x) (hF : ¬ F b) : Ext J F w J' F w' :=
  ⟨h.os, h.tape, h.output, by rw [h.size]; exact Nat.le_refl _, fun x hx hn => h.other x fun e => hn (e ▸ hown), fun x hx => h.other x fun e => hF (e ▸ hx), hle, fun _ h => h, fun x hx => .inl (hback x hx), fun x hx => .inl hx⟩

theorem set_rows_get {xs : List (List D)} {i : Nat} {r : List D} (j : Nat) (x : List D) (h : (xs.set i r)[j]? = some x) : (j = i ∧ x = r ∧ i < xs.length) ∨ (j ≠ i ∧ xs[j]? = some x) := by
  rw [List.getElem?_set] at h
  by_cases e : i = j
  · rw [if_pos e] at h
    split at h
    · cases h; exact .inl ⟨e.symm, rfl, by assumption⟩
    · cases h
  · rw [if_neg e] at h
    exact .inr ⟨fun q => e q.symm, h⟩

/-- A slice's rows: a piece of one of them written anew. -/
theorem repRows_wrote {J J' : Inj} {F : Nat → Prop} {w w' : World} {b o i n esz : Nat} {us : List Value} {vals : Array Value} {te : TypeId} (h : Wrote w w' b (o + i * esz + n) us vals te) (hb : w.heap[b]? = some (.cells vals te (0, 0)))
    (hle : J.le J') (hF : ∀ x, F x → w'.heap[x]? = w.heap[x]?) {ys : List (List D)} {row xs : List D} (hy : repRows J F w b esz ys o) (hi : ys[i]? = some row) (h0 : ∀ u ∈ us, oneCell u = true) (hx : repL J F w xs us) (hn : n + xs.length ≤ row.length) :
    repRows J' F w' b esz (ys.set i (row.take n ++ xs ++ row.drop (n + xs.length))) o := by
  have hl := repL_len _ _ hx
  refine repRows_mk _ _ fun j x hj => ?_
  obtain ⟨r1, r2⟩ := repRows_get ys o i row hi hy
  rcases set_rows_get j x hj with ⟨rfl, rfl, _⟩ | ⟨hne, hj⟩
  · exact ⟨by simp; omega, repCells_wrote h hb hle hF r2 h0 hx hn⟩
  · obtain ⟨q1, q2⟩ := repRows_get ys o j x hj hy
    refine ⟨q1, repCells_mk _ _ fun k c hc => ?_⟩
    have hk : k < x.length := by
      rcases Nat.lt_or_ge k x.length with h | h
      · exact h
      · rw [List.getElem?_eq_none h] at hc; cases hc
    obtain ⟨u, p1, p0, p2⟩ := repCells_get x _ k c hc q2
    refine ⟨u, ?_, p0, rep_mono hle (fun _ h => h) hF _ _ p2⟩
    rw [h.cell hb, if_neg ?_]
    · exact p1
    · rintro ⟨a1, a2⟩
      rcases Nat.lt_or_gt_of_ne hne with hlt | hlt
      · have : (j + 1) * esz ≤ i * esz := Nat.mul_le_mul_right _ hlt
        rw [Nat.add_mul] at this; omega
      · have : (i + 1) * esz ≤ j * esz := Nat.mul_le_mul_right _ hlt
        rw [Nat.add_mul] at this; omega

section
variable {P : Program} {seq : Bool} {o : Oper} {env : Env} {H : List AObj} {K : Cont}

/-- An operation that writes one object in its place. -/
theorem sound_put {ob : AObj} {id : Nat} {d : D} (hid : id < H.length) (hK : K d (H.set id ob) [] [id])
    (h : ∀ (J : Inj) (F : Nat → Prop) (w : World) (a : Act) (G : Nat → Option AObj), StOK J F w G → (∀ x ∈ o.op.operands, rep J F w (evalD env x) (a.eval x)) → G id = H[id]? →
      ∃ v w', (execOp a.eval o).run P w = .ok v w' ∧ (v = .value undef ∨ v = .skip) ∧ d = .sc undef ∧ StOK J F w' (fun i => if i = id then some ob else G i) ∧ Ext J F w J F w') : Sound P o env H K := by
  refine ⟨d, H.set id ob, [], [id], ⟨fun i hi => ?_, by simp, fun i hi => by simp at hi; simp [hi, hid], fun J F w a G hok hops hrd hnew K Q hK => ?_⟩, hK⟩
  · simp at hi
    rw [List.getElem?_set_ne (fun e => hi e.symm)]
  · obtain ⟨v, w', h1, h2, rfl, h3, h4⟩ := h J F w a G hok hops (hrd id (.inr (by simp)))
    have hu : upd G [id] (H.set id ob) = fun i => if i = id then some ob else G i := upd_one G _ id ob (by simp [hid])
    unfold Oper.wp
    rw [h1]
    rcases h2 with rfl | rfl
    · rw [Oper.upon_value]
      exact hK _ w' J F (by simp only [rep]) (by rw [hu]; exact h3) h4 fun i hi _ => hi
    · rw [Oper.upon_skip]
      exact hK _ w' J F (by simp only [rep]) (by rw [hu]; exact h3) h4 fun i hi _ => hi

theorem run_storeAt {t : TypeId} {v : Value} {b off : Nat} {w w' : World} (hsz : v.cells.size = P.cellsOf t) (hz : P.cellsOf t ≠ 0) (h : (storeCells ⟨b, off, none⟩ v.cells.toList 0).run P w = .ok () w') :
    (Instr.storeAt t (.pointer (some ⟨b, off, none⟩)) v).run P w = .ok () w' := by
  obtain ⟨i, h1, h2⟩ := info_of_cells hz
  simp [Instr.storeAt, Instr.sureAddr, storeVar, run_sizeOf' h1, h2, hsz, Sem.run, pure, h]

theorem s_store {t : TypeId} {x y : Operand} (hz : P.cellsOf t ≠ 0) (ho : o.op = .store t x y) (h : step P seq (.store (P.cellsOf t) x y) env H K) : Sound P o env H K := by
  simp only [step, evK_eq, cellsK_iff, sameK_iff] at h
  obtain ⟨hs, hlen, h⟩ := h
  split at h
  · rename_i id off e1
    obtain ⟨ob, h1, h2⟩ := (hgetK_iff _ _ _).1 h
    split at h2
    · rename_i cs
      obtain ⟨h3, h4⟩ := (putK_iff _ _ _ _).1 h2
      obtain ⟨h5, h6⟩ := (hputK_iff _ _ _ _).1 h4
      refine sound_put h5 h6 fun J F w a G hok hops hG => ?_
      have k1 := hops x (by simp [ho, Op.operands])
      obtain ⟨k2, k3⟩ := cells_rep hs (hops y (by simp [ho, Op.operands]))
      rw [e1] at k1
      simp only [rep] at k1
      obtain ⟨s, b, q1, q2, q3, q4⟩ := k1
      obtain ⟨o', p1, p2⟩ := hok.obj id s q1
      rw [hG, h1] at p1
      cases p1
      obtain ⟨p2, p3, p4, p5, p6, b', vals, te, p7, p8, p9, p10, p11⟩ := p2
      rw [q3] at p7; cases p7
      have hl := repL_len _ _ k2
      obtain ⟨w', r1, r2⟩ := run_storeCells (P := P) (b := b) (o := off) (a.eval y).cells.toList 0 w vals te p8 (by omega) k3
      have hown : s.blk = some b := by simp [Site.blk, q2, q3]
      have hnF : ¬ F b := hok.apart id s b _ q1 hown (hG.trans h1) rfl
      have hFw : ∀ z, F z → w'.heap[z]? = w.heap[z]? := fun z hzF => r2.other z fun e => hnF (e ▸ hzF)
      refine ⟨.skip, w', ?_, .inr rfl, rfl, ?_, r2.ext hok (Inj.le_refl J) ⟨id, s, q1, hown⟩ (fun _ h => h) hnF⟩
      · simp [execOp, ho, q4, run_storeAt (by rw [hlen, ← hl]; simp) hz r1, Sem.run, pure]
      · refine hok.update id s _ (fun i => by split; · rename_i e; rw [e]; exact q1
                                              · rfl) (fun _ => rfl) (Inj.le_refl J) hFw (by rw [r2.size]; exact Nat.le_refl _) (fun i s' b' hne hi hb => r2.other b' fun e => hne (hok.one i id s' s b' hi q1 hb (e ▸ hown))) (fun b' hb => .inr ⟨s, q1, hb⟩) (fun i s' b' hi hb => hok.blk_lt hi hb) (fun b' hb _ => by rw [hown] at hb; cases hb; exact hnF) ?_
        obtain ⟨vals', r3, r4, _⟩ := r2.here
        refine ⟨p2, p3, p4, by simp; omega, by simp; omega, b, vals', te, q3, r3, by rw [r4, p9]; simp; omega, ?_, fun q => by cases q⟩
        have r2' : Wrote w w' b (0 + off) (a.eval y).cells.toList vals te := by simpa using r2
        exact repCells_wrote r2' p8 (Inj.le_refl J) hFw p10 k3 k2 h3
    · exact h2.elim
  · rename_i id ver i off e1
    obtain ⟨ob, h1, h2⟩ := (hgetK_iff _ _ _).1 h
    split at h2
    · rename_i ver' esz ys
      obtain ⟨rfl, row, hrow, h2⟩ := h2
      obtain ⟨h3, h4⟩ := (putK_iff _ _ _ _).1 h2
      obtain ⟨h5, h6⟩ := (hputK_iff _ _ _ _).1 h4
      refine sound_put h5 h6 fun J F w a G hok hops hG => ?_
      have k1 := hops x (by simp [ho, Op.operands])
      obtain ⟨k2, k3⟩ := cells_rep hs (hops y (by simp [ho, Op.operands]))
      rw [e1] at k1
      simp only [rep] at k1
      obtain ⟨s, ad, q1, q4, q5, q6⟩ := k1
      obtain ⟨p1, p2, p3, p4, p5, p6⟩ := vecOK hok q1 (hG.trans h1)
      obtain ⟨b, o', q7, q8, q9, rfl⟩ := q6 p2.symm
      have hl := repL_len _ _ k2
      rcases p6 with p6 | ⟨b', o'', vals, te, e, p7, p8, p9, p10⟩
      · omega
      rw [q8] at e; cases e
      obtain ⟨t1, t2⟩ := repRows_get ys o' i row hrow p9
      have hil : i < ys.length := by omega
      have hroom : o' + i * esz + esz ≤ vals.size := by
        have : (i + 1) * esz ≤ s.cap * esz := Nat.mul_le_mul_right _ (by omega)
        rw [Nat.add_mul] at this; omega
      rw [p3] at q4
      obtain ⟨w', r1, r2⟩ := run_storeCells (P := P) (b := b) (o := o' + i * esz + off) (a.eval y).cells.toList 0 w vals te p7 (by omega) k3
      rw [Nat.add_zero] at r2
      have hown : s.blk = some b := by
        have : ¬ (s.row = false ∧ s.cap = 0) := fun h => by omega
        simp [Site.blk, this, q8]
      have hnF : ¬ F b := hok.apart id s b _ q1 hown (hG.trans h1) rfl
      have hFw : ∀ z, F z → w'.heap[z]? = w.heap[z]? := fun z hzF => r2.other z fun e => hnF (e ▸ hzF)
      refine ⟨.skip, w', ?_, .inr rfl, rfl, ?_, r2.ext hok (Inj.le_refl J) ⟨id, s, q1, hown⟩ (fun _ h => h) hnF⟩
      · simp [execOp, ho, q4, run_storeAt (by rw [hlen, ← hl]; simp) hz r1, Sem.run, pure]
      · refine hok.update id s _ (fun i => by split; · rename_i e; rw [e]; exact q1
                                              · rfl) (fun _ => rfl) (Inj.le_refl J) hFw (by rw [r2.size]; exact Nat.le_refl _) (fun i s' b' hne hi hb => r2.other b' fun e => hne (hok.one i id s' s b' hi q1 hb (e ▸ hown))) (fun b' hb => .inr ⟨s, q1, hb⟩) (fun i s' b' hi hb => hok.blk_lt hi hb) (fun b' hb _ => by rw [hown] at hb; cases hb; exact hnF) ?_
        obtain ⟨vals', r3, r4, _⟩ := r2.here
        exact ⟨p1, p2, p3, by simp; omega, p5, .inr ⟨b, o', vals', te, q8, r3, by rw [r4]; exact p8, repRows_wrote r2 p7 (Inj.le_refl J) hFw p9 hrow k3 k2 h3, fun q => by cases q⟩⟩
    · exact h2.elim
  · exact h.elim
end
end Go.Proofs.Ytkkfiadefekbbaa
