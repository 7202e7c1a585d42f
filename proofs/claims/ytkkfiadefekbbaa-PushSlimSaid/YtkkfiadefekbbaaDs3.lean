/-
  What an operation's reckoning says is what the machine does: the operations that make and write memory. No statement is proved here.
-/
import Derived.Test.YtkkfiadefekbbaaDs2
namespace Go.Proofs.Ytkkfiadefekbbaa
open Go.RowKit
set_option linter.unusedSimpArgs false
set_option linter.unusedVariables false

theorem ObjOK_mono {J J' : Inj} {F F' : Nat → Prop} {w w' : World} (hJ : J.le J') (hF : ∀ b, F b → F' b) (hw : ∀ b, F b → w'.heap[b]? = w.heap[b]?) {s : Site} {o : AObj} (hb : ∀ b, s.blk = some b → w'.heap[b]? = w.heap[b]?) (h : ObjOK J F w s o) : ObjOK J' F' w' s o := by
  cases o with
  | row m cs =>
    obtain ⟨h1, h2, h3, h4, h5, b, vals, te, h6, h7, h8, h9, h10⟩ := h
    have hbb : w'.heap[b]? = w.heap[b]? := hb b (by simp [Site.blk, h1, h6])
    exact ⟨h1, h2, h3, h4, h5, b, vals, te, h6, by rw [hbb]; exact h7, h8, repCells_mono hJ hF hw b (cell_of_heap hbb) cs 0 h9, fun q => hF b (h10 q)⟩
  | vec m ver esz xs =>
    obtain ⟨h1, h2, h3, h4, h5, h6⟩ := h
    refine ⟨h1, h2, h3, h4, h5, ?_⟩
    by_cases hz : s.cap = 0
    · exact .inl hz
    · obtain ⟨b, o, vals, te, k1, k2, k3, k4, k5⟩ := h6.resolve_left hz
      refine .inr ?_
      have hbb : w'.heap[b]? = w.heap[b]? := hb b (by simp [Site.blk, hz, k1])
      exact ⟨b, o, vals, te, k1, by rw [hbb]; exact k2, k3, repRows_mono hJ hF hw b esz (cell_of_heap hbb) xs o k4, fun q => hF b (k5 q)⟩

/-- One object is made, or turned, or moved: what was known of the others stays. -/
theorem StOK.update {J J' : Inj} {F : Nat → Prop} {w w' : World} {G G' : Nat → Option AObj} (h : StOK J F w G) (id : Nat) (s' : Site) (o' : AObj)
    (hJ' : ∀ i, J' i = if i = id then some s' else J i) (hG : ∀ i, G' i = if i = id then some o' else G i) (hle : J.le J')
    (hF : ∀ b, F b → w'.heap[b]? = w.heap[b]?) (hsz : w.heap.size ≤ w'.heap.size)
    (hold : ∀ i s b, i ≠ id → J i = some s → s.blk = some b → w'.heap[b]? = w.heap[b]?)
    (hblk : ∀ b, s'.blk = some b → w.heap.size ≤ b ∨ ∃ s, J id = some s ∧ s.blk = some b)
    (hlt : ∀ i s b, J i = some s → s.blk = some b → b < w.heap.size)
    (hmut : ∀ b, s'.blk = some b → o'.mut = true → ¬ F b)
    (hok : ObjOK J' F w' s' o') : StOK J' F w' G' where
  obj i s hi := by
    rw [hJ'] at hi
    by_cases e : i = id
    · subst e
      rw [if_pos rfl] at hi
      cases hi
      exact ⟨o', by rw [hG, if_pos rfl], hok⟩
    · rw [if_neg e] at hi
      obtain ⟨o, h1, h2⟩ := h.obj i s hi
      exact ⟨o, by rw [hG, if_neg e]; exact h1, ObjOK_mono hle (fun _ h => h) hF (fun b hb => hold i s b e hi hb) h2⟩
  one i i' s1 s2 b h1 h2 h3 h4 := by
    rw [hJ'] at h1 h2
    by_cases e : i = id <;> by_cases e' : i' = id
    · rw [e, e']
    · rw [if_pos e] at h1; rw [if_neg e'] at h2
      cases h1
      rcases hblk b h3 with q | ⟨s, q1, q2⟩
      · have := hlt i' s2 b h2 h4; omega
      · rw [e]; exact h.one id i' s s2 b q1 h2 q2 h4
    · rw [if_neg e] at h1; rw [if_pos e'] at h2
      cases h2
      rcases hblk b h4 with q | ⟨s, q1, q2⟩
      · have := hlt i s1 b h1 h3; omega
      · rw [e']; exact h.one i id s1 s b h1 q1 h3 q2
    · rw [if_neg e] at h1; rw [if_neg e'] at h2
      exact h.one i i' s1 s2 b h1 h2 h3 h4
  apart i s b o hi hb hg hm := by
    rw [hJ'] at hi; rw [hG] at hg
    by_cases e : i = id
    · rw [if_pos e] at hi hg
      cases hi; cases hg
      exact hmut b hb hm
    · rw [if_neg e] at hi hg
      exact h.apart i s b o hi hb hg hm
  lt b hb := Nat.lt_of_lt_of_le (h.lt b hb) hsz

theorem StOK.blk_lt {J : Inj} {F : Nat → Prop} {w : World} {G : Nat → Option AObj} (h : StOK J F w G) {i : Nat} {s : Site} {b : Nat} (hi : J i = some s) (hb : s.blk = some b) : b < w.heap.size := by
  obtain ⟨o, h1, h2⟩ := h.obj i s hi
  have key : ∀ x : Nat, ∀ ob, w.heap[x]? = some ob → x < w.heap.size := fun x ob hx => by
    rcases Nat.lt_or_ge x w.heap.size with h | h
    · exact h
    · rw [Array.getElem?_eq_none h] at hx; cases hx
  cases o with
  | row m cs =>
    obtain ⟨k1, _, _, _, _, b', vals, te, k6, k7, _⟩ := h2
    simp [Site.blk, k1, k6] at hb
    exact hb ▸ key _ _ k7
  | vec m ver esz xs =>
    obtain ⟨k1, _, _, _, _, k6⟩ := h2
    rcases k6 with k6 | ⟨b', o, vals, te, q1, q2, _⟩
    · simp [Site.blk, k1, k6] at hb
    · unfold Site.blk at hb
      split at hb
      · cases hb
      · simp [q1] at hb
        exact hb ▸ key _ _ q2

theorem heap_push_lt (w : World) (o : Obj) {b : Nat} (h : b < w.heap.size) : (w.alloc o).heap[b]? = w.heap[b]? := heap_alloc_old w o h

/-- A new block of the call's own. -/
theorem StOK.alloc {J : Inj} {F : Nat → Prop} {w : World} {G : Nat → Option AObj} (h : StOK J F w G) (id : Nat) (hid : J id = none) (s' : Site) (o' : AObj) (vals : Array Value) (te : TypeId) (had : s'.ad = some ⟨w.heap.size, 0, none⟩)
    (hok : ObjOK (fun i => if i = id then some s' else J i) F (w.alloc (.cells vals te)) s' o') :
    StOK (fun i => if i = id then some s' else J i) F (w.alloc (.cells vals te)) (fun i => if i = id then some o' else G i) ∧
      Ext J F w (fun i => if i = id then some s' else J i) F (w.alloc (.cells vals te)) := by
  have hle : J.le (fun i => if i = id then some s' else J i) := fun i s hi => by
    have e : i ≠ id := fun e => by rw [e, hid] at hi; cases hi
    exact ⟨s, by simp [e, hi], Nat.le_refl _, fun _ => rfl⟩
  have hbs : ∀ b, s'.blk = some b → b = w.heap.size := fun b hb => by
    unfold Site.blk at hb
    split at hb
    · cases hb
    · simpa [had] using hb.symm
  refine ⟨h.update id s' o' (fun _ => rfl) (fun _ => rfl) hle (fun b hb => heap_push_lt w _ (h.lt b hb)) (by simp) (fun i s b _ hi hb => heap_push_lt w _ (h.blk_lt hi hb)) (fun b hb => .inl (by rw [hbs b hb]; exact Nat.le_refl _)) (fun i s b hi hb => h.blk_lt hi hb) (fun b hb _ hF => ?_) hok, ?_⟩
  · have := h.lt b hF
    rw [hbs b hb] at this; omega
  · exact ⟨rfl, rfl, rfl, by simp, fun b hb _ => heap_push_lt w _ hb, fun b hb => heap_push_lt w _ (h.lt b hb), hle, fun _ h => h, fun b ⟨i, s, hi, hb⟩ => by
      dsimp only at hi
      by_cases e : i = id
      · rw [if_pos e] at hi; cases hi
        exact .inr (by rw [hbs b hb]; exact Nat.le_refl _)
      · rw [if_neg e] at hi
        exact .inl ⟨i, s, hi, hb⟩, fun b hb => .inl hb⟩

section
variable {J : Inj} {F : Nat → Prop} {w : World}
/-- Cells of a new block. -/
theorem repCells_new {J' : Inj} {cs : List D} {vs : List Value} (te : TypeId) (hJ : J.le J') (hlt : ∀ b, F b → b < w.heap.size) (h1 : ∀ v ∈ vs, oneCell v = true) (h : repL J F w cs vs) :
    repCells J' F (w.alloc (.cells vs.toArray te)) w.heap.size cs 0 := by
  have h' : repL J' F (w.alloc (.cells vs.toArray te)) cs vs := repL_mono hJ (fun _ h => h) (fun b hb => heap_push_lt w _ (hlt b hb)) _ _ h
  refine repCells_mk _ _ fun j c hc => ?_
  obtain ⟨v, h3, h2⟩ := repL_get _ _ _ _ hc h'
  exact ⟨v, by simp [h3], h1 v (List.mem_of_getElem? h3), h2⟩
end

/-- A row that has been made. -/
theorem newRow_ok {J : Inj} {F : Nat → Prop} {w : World} {G : Nat → Option AObj} (h : StOK J F w G) (id : Nat) (hid : J id = none) {cs : List D} {vs : List Value} (te : TypeId) (h0 : ∀ v ∈ vs, oneCell v = true) (hr : repL J F w cs vs) :
    ∃ J', StOK J' F (w.alloc (.cells vs.toArray te)) (fun i => if i = id then some (.row true cs) else G i) ∧ Ext J F w J' F (w.alloc (.cells vs.toArray te)) ∧
      (∀ i, i ≠ id → J' i = J i) ∧ rep J' F (w.alloc (.cells vs.toArray te)) (.loc id 0) (.pointer (some ⟨w.heap.size, 0, none⟩)) := by
  have hle : J.le (fun i => if i = id then some ⟨true, 0, some ⟨w.heap.size, 0, none⟩, 1, cs.length, cs.length⟩ else J i) := fun i s hi => by
    have e : i ≠ id := fun e => by rw [e, hid] at hi; cases hi
    exact ⟨s, by simp [e, hi], Nat.le_refl _, fun _ => rfl⟩
  obtain ⟨h1, h2⟩ := h.alloc id hid ⟨true, 0, some ⟨w.heap.size, 0, none⟩, 1, cs.length, cs.length⟩ (.row true cs) vs.toArray te rfl
    ⟨rfl, rfl, rfl, rfl, rfl, w.heap.size, vs.toArray, te, rfl, heap_alloc_new w _, by simp [repL_len _ _ hr], repCells_new te hle h.lt h0 hr, fun q => by cases q⟩
  refine ⟨_, h1, h2, fun i hi => by simp [hi], ?_⟩
  simp only [rep]
  exact ⟨_, w.heap.size, by simp; rfl, rfl, rfl, rfl⟩

section
variable {P : Program} {seq : Bool} {o : Oper} {env : Env} {H : List AObj} {K : Cont}

theorem upd_one (G : Nat → Option AObj) (H2 : List AObj) (id : Nat) (ob : AObj) (h : H2[id]? = some ob) : upd G [id] H2 = fun i => if i = id then some ob else G i := by
  funext i
  simp only [upd, List.mem_singleton]
  split
  · rename_i e; rw [e, h]
  · rfl

/-- An operation that makes one block. -/
theorem sound_new {ob : AObj} {d : D} {rd : List Nat} (hK : K d (H ++ [ob]) rd [H.length])
    (h : ∀ (J : Inj) (F : Nat → Prop) (w : World) (a : Act) (G : Nat → Option AObj), StOK J F w G → (∀ x ∈ o.op.operands, rep J F w (evalD env x) (a.eval x)) → (∀ id ∈ rd, G id = H[id]?) → J H.length = none →
      ∃ v w' J' F', (execOp a.eval o).run P w = .ok (.value v) w' ∧ rep J' F' w' d v ∧ StOK J' F' w' (fun i => if i = H.length then some ob else G i) ∧ Ext J F w J' F' w' ∧ (∀ i, i ≠ H.length → J' i = J i)) : Sound P o env H K := by
  refine ⟨d, H ++ [ob], rd, [H.length], ⟨fun id hid => ?_, by simp, fun id hid => by simp at hid; simp [hid], fun J F w a G hok hops hrd hnew K Q hK => ?_⟩, hK⟩
  · simp at hid
    rcases Nat.lt_or_ge id H.length with hl | hl
    · rw [List.getElem?_append_left hl]
    · rw [List.getElem?_eq_none (by simp; omega), List.getElem?_eq_none hl]
  · obtain ⟨v, w', J', F', h1, h2, h3, h4, h5⟩ := h J F w a G hok hops (fun id hid => hrd id (.inl hid)) (hnew _ (Nat.le_refl _) (by simp))
    unfold Oper.wp
    rw [h1, Oper.upon_value]
    refine hK v w' J' F' h2 ?_ h4 fun id hid hn => ?_
    · rw [upd_one G _ H.length ob (by simp)]; exact h3
    · rw [h5 id (by simpa using hn)]; exact hid

theorem run_zeroValue {t : TypeId} {z : Value} {w : World} (h : (P.info? t).bind (·.zero) = some z) : (zeroValue t).run P w = .ok z w := by
  cases e : P.info? t with
  | none => rw [e] at h; cases h
  | some i =>
    rw [e] at h
    simp at h
    simp [zeroValue, typeInfo, program, Sem.run, e, h, pure]

theorem repL_sc {J : Inj} {F : Nat → Prop} {w : World} : ∀ vs : List Value, repL J F w (vs.map .sc) vs
  | [] => by simp only [List.map_nil, repL]
  | v :: r => by simp only [List.map_cons, repL]; exact ⟨v, r, rfl, by simp only [rep], repL_sc r⟩

theorem s_alloc {t : TypeId} {z : Value} (hz : (P.info? t).bind (·.zero) = some z) (hone : z.cells.toList.all oneCell = true) (ho : o.op = .alloc t) (h : step P seq (.alloc z.cells.toList) env H K) : Sound P o env H K := by
  simp only [step, scK_eq, hpushK_iff] at h
  refine sound_new h fun J F w a G hok hops hrd hn => ?_
  obtain ⟨J', h1, h2, h3, h4⟩ := newRow_ok hok H.length hn t (fun v hv => List.all_eq_true.1 hone v hv) (repL_sc z.cells.toList)
  refine ⟨_, _, J', F, ?_, h4, h1, h2, h3⟩
  simp [execOp, ho, Instr.alloc, run_zeroValue hz, newVar, newRow, newObj, Sem.run, pure]

theorem cells_rep {J : Inj} {F : Nat → Prop} {w : World} {d : D} {v : Value} (hs : storable d = true) (h : rep J F w d v) : repL J F w d.cells v.cells.toList ∧ ∀ u ∈ v.cells.toList, oneCell u = true := by
  have one : cell1 d = true → (∀ cs, d ≠ .agg cs) → repL J F w d.cells v.cells.toList ∧ ∀ u ∈ v.cells.toList, oneCell u = true := by
    intro h1 h2
    have h3 := oneCell_of h1 h
    have e1 : v.cells = #[v] := by cases v <;> first | rfl | simp [oneCell] at h3
    have e2 : d.cells = [d] := by cases d <;> first | rfl | exact absurd rfl (h2 _)
    rw [e1, e2]
    refine ⟨by simp only [repL]; exact ⟨v, [], rfl, h, rfl⟩, fun u hu => ?_⟩
    simp at hu; rw [hu]; exact h3
  cases d with
  | agg cs =>
    simp only [rep] at h
    obtain ⟨vs, rfl, k⟩ := h
    refine ⟨by simpa [D.cells, Value.cells] using k, fun u hu => ?_⟩
    simp [Value.cells] at hu
    obtain ⟨j, hj, e⟩ := List.mem_iff_getElem.1 hu
    have hj' : j < cs.length := by rw [← repL_len _ _ k]; exact hj
    obtain ⟨u', q1, q2⟩ := repL_get _ _ _ _ (List.getElem?_eq_getElem hj') k
    rw [List.getElem?_eq_getElem hj, e] at q1
    cases q1
    exact oneCell_of (cells1_mem cs hs _ (List.getElem_mem hj')) q2
  | _ => exact one hs (by intro cs h; cases h)

theorem s_box {t : TypeId} {x : Operand} (ho : o.op = .box t x) (h : step P seq (.box x) env H K) : Sound P o env H K := by
  simp only [step, evK_eq, cellsK_iff, hpushK_iff] at h
  obtain ⟨h0, h⟩ := h
  refine sound_new h fun J F w a G hok hops hrd hn => ?_
  obtain ⟨k1, k0⟩ := cells_rep h0 (hops x (by simp [ho, Op.operands]))
  obtain ⟨J', h1, h2, h3, h4⟩ := newRow_ok hok H.length hn t k0 k1
  refine ⟨_, _, J', F, ?_, h4, h1, h2, h3⟩
  simp [execOp, ho, Instr.box, newVar, newRow, newObj, Sem.run, pure]
end
end Go.Proofs.Ytkkfiadefekbbaa
