/-
  What an operation's reckoning says is what the machine does: the operations that read memory. No statement is proved here.
-/
import Derived.Test.YtkkfiadefekbbaaDs1
import Derived.Lib.Hide
namespace Go.Proofs.Ytkkfiadefekbbaa
open Go.RowKit
set_option linter.unusedSimpArgs false
set_option linter.unusedVariables false

theorem add_at (b o n : Nat) : (⟨b, o, none⟩ : Addr).add n = ⟨b, o + n, none⟩ := by
  unfold Addr.add
  split
  · rename_i h; subst h; rfl
  · rfl

section
variable {J : Inj} {F : Nat → Prop} {w : World}

theorem repCells_part {b : Nat} {cs : List D} {o : Nat} (h : repCells J F w b cs o) (off n : Nat) : repCells J F w b ((cs.drop off).take n) (o + off) := by
  refine repCells_mk _ _ fun j c hc => ?_
  have h1 : cs[off + j]? = some c := by
    rw [List.getElem?_take] at hc
    split at hc
    · rwa [List.getElem?_drop] at hc
    · cases hc
  have := repCells_get cs o (off + j) c h1 h
  rwa [show o + (off + j) = o + off + j by omega] at this
theorem repCells_drop {b : Nat} {cs : List D} {o : Nat} (h : repCells J F w b cs o) (off : Nat) : repCells J F w b (cs.drop off) (o + off) := by
  have := repCells_part h off (cs.drop off).length
  rwa [List.take_length] at this

/-- The values in a row's cells. -/
theorem repCells_vals {b : Nat} : ∀ (cs : List D) (o : Nat), repCells J F w b cs o → ∃ vs : List Value, repL J F w cs vs ∧ (∀ j v, vs[j]? = some v → w.cell? ⟨b, o + j, none⟩ = some v) ∧ ∀ v ∈ vs, oneCell v = true
  | [], o, _ => ⟨[], by simp only [repL], (fun j v h => by simp at h), (fun v h => by cases h)⟩
  | c :: r, o, h => by
    simp only [repCells] at h
    obtain ⟨⟨u, h1, h0, h2⟩, h3⟩ := h
    obtain ⟨vs, k1, k2, k3⟩ := repCells_vals r (o + 1) h3
    refine ⟨u :: vs, by simp only [repL]; exact ⟨u, vs, rfl, h2, k1⟩, fun j v hv => ?_, fun v hv => (List.mem_cons.1 hv).elim (fun e => e ▸ h0) (k3 v)⟩
    cases j with
    | zero => simp at hv; subst hv; exact h1
    | succ j =>
      have := k2 j v (by simpa using hv)
      rwa [show o + 1 + j = o + (j + 1) by omega] at this

variable {P : Program}
theorem run_isAgg {t : TypeId} {b : Bool} (h : aggT P t = some b) : (isAgg t).run P w = .ok b w := by
  unfold aggT at h
  cases e : P.underlying t with
  | none => rw [e] at h; cases h
  | some d =>
    rw [e] at h
    cases d <;> simp at h <;> subst h <;> simp [isAgg, underlying, program, Sem.run, e, pure]
theorem info_of_agg {t : TypeId} {b : Bool} (h : aggT P t = some b) : ∃ i, P.info? t = some i ∧ i.size = P.cellsOf t := by
  unfold aggT Program.underlying at h
  cases e : P.info? t with
  | none => rw [e] at h; cases h
  | some i => exact ⟨i, rfl, by simp [Program.cellsOf, e]⟩
theorem run_sizeOf' {t : TypeId} {i : TypeInfo} (h : P.info? t = some i) : (sizeOf t).run P w = .ok i.size w := by
  simp [sizeOf, typeInfo, program, Sem.run, h, pure]

theorem run_load_one {t : TypeId} (h : aggT P t = some false) {a : Addr} {u : Value} (hc : w.cell? a = some u) : (Instr.loadAt t (.pointer (some a))).run P w = .ok u w := by
  simp [Instr.loadAt, Instr.sureAddr, loadVar, run_isAgg h, load, Sem.run, hc, pure]
theorem run_load_agg {t : TypeId} (h : aggT P t = some true) {b o : Nat} {vs : List Value} (hn : vs.length = P.cellsOf t) (hc : ∀ (j : Nat) (v : Value), vs[j]? = some v → w.cell? ⟨b, o + j, none⟩ = some v) :
    (Instr.loadAt t (.pointer (some ⟨b, o, none⟩))).run P w = .ok (.agg vs.toArray) w := by
  obtain ⟨i, h1, h2⟩ := info_of_agg h
  have h3 := run_loadCells_list (P := P) (w := w) ⟨b, o, none⟩ vs fun j v hv => by rw [add_at]; exact hc j v hv
  simp [Instr.loadAt, Instr.sureAddr, loadVar, run_isAgg h, run_sizeOf' h1, h2, ← hn, Sem.run, pure, h3]

theorem rowOK {G : Nat → Option AObj} (h : StOK J F w G) {id : Nat} {s : Site} {b : Nat} {m : Bool} {cs : List D} (h1 : J id = some s) (h2 : s.ad = some ⟨b, 0, none⟩) (h3 : G id = some (.row m cs)) : repCells J F w b cs 0 := by
  obtain ⟨o, k1, k2⟩ := h.obj id s h1
  rw [h3] at k1
  cases k1
  obtain ⟨_, _, _, _, _, b', _, _, e, _, _, k, _⟩ := k2
  rw [h2] at e
  cases e
  exact k
theorem vecOK {G : Nat → Option AObj} (h : StOK J F w G) {id : Nat} {s : Site} {m : Bool} {ver esz : Nat} {xs : List (List D)} (h1 : J id = some s) (h3 : G id = some (.vec m ver esz xs)) :
    s.row = false ∧ s.ver = ver ∧ s.esz = esz ∧ s.len = xs.length ∧ s.len ≤ s.cap ∧ (s.cap = 0 ∨ ∃ b o vals te, s.ad = some ⟨b, o, none⟩ ∧ w.heap[b]? = some (.cells vals te (0, 0)) ∧ o + s.cap * esz ≤ vals.size ∧ repRows J F w b esz xs o ∧ (m = false → F b)) := by
  obtain ⟨o, k1, k2⟩ := h.obj id s h1
  rw [h3] at k1
  cases k1
  exact k2
end

section
variable {P : Program} {seq : Bool} {o : Oper} {env : Env} {H : List AObj} {K : Cont}

/-- An address reads as these cells. -/
def PointsAt (P : Program) (env : Env) (H : List AObj) (d : D) (rd : List Nat) (cs : List D) : Prop :=
  ∀ (J : Inj) (F : Nat → Prop) (w : World) (G : Nat → Option AObj) (v : Value), StOK J F w G → (∀ id ∈ rd, G id = H[id]?) → rep J F w d v → ∃ b o, v = .pointer (some ⟨b, o, none⟩) ∧ repCells J F w b cs o

theorem points_loc {id off : Nat} {m : Bool} {cs : List D} (h : H[id]? = some (.row m cs)) : PointsAt P env H (.loc id off) [id] (cs.drop off) := fun J F w G v hok hrd hv => by
  simp only [rep] at hv
  obtain ⟨s, b, h1, h2, h3, rfl⟩ := hv
  have := repCells_drop (rowOK hok h1 h3 (by rw [hrd id (by simp)]; exact h)) off
  exact ⟨b, off, rfl, by simpa using this⟩
theorem points_ipt {cs : List D} : PointsAt P env H (.ipt cs) [] cs := fun J F w G v hok hrd hv => by
  simp only [rep] at hv
  obtain ⟨b, o, rfl, _, h⟩ := hv
  exact ⟨b, o, rfl, h⟩
theorem points_elt {id ver i off : Nat} {m : Bool} {esz : Nat} {xs : List (List D)} {row : List D} (h : H[id]? = some (.vec m ver esz xs)) (hr : xs[i]? = some row) : PointsAt P env H (.elt id ver i off) [id] (row.drop off) := fun J F w G v hok hrd hv => by
  simp only [rep] at hv
  obtain ⟨s, a, h1, rfl, h2, h3⟩ := hv
  have hG : G id = some (.vec m ver esz xs) := by rw [hrd id (by simp)]; exact h
  obtain ⟨k1, k2, k3, k4, k5, k6⟩ := vecOK hok h1 hG
  obtain ⟨b, o, q1, q2, q3, rfl⟩ := h3 k2.symm
  rcases k6 with k6 | ⟨b', o', vals, te, e, _, _, k, _⟩
  · omega
  · rw [q2] at e
    cases e
    obtain ⟨r1, r2⟩ := repRows_get xs o i row hr k
    have := repCells_drop r2 off
    rw [k3]
    exact ⟨b, _, rfl, this⟩

theorem s_load_of {t : TypeId} {x : Operand} {rd : List Nat} {cs : List D} {c : D} (ht : aggT P t = some false) (ho : o.op = .load t x) (hp : PointsAt P env H (evalD env x) rd cs) (hc : cs[0]? = some c) (hK : K c H rd []) : Sound P o env H K := by
  refine sound_value hK fun J F w a G hok hops hrd => ?_
  obtain ⟨b, o', e, k⟩ := hp J F w G _ hok hrd (hops x (by simp [ho, Op.operands]))
  obtain ⟨u, k1, k2⟩ := repCells_get cs o' 0 c hc k
  rw [Nat.add_zero] at k1
  refine ⟨u, ?_, k2.2⟩
  simp [execOp, ho, e, run_load_one ht k1, Sem.run, pure]

theorem s_loadA_of {t : TypeId} {x : Operand} {rd : List Nat} {cs : List D} (ht : aggT P t = some true) (ho : o.op = .load t x) (hp : PointsAt P env H (evalD env x) rd cs) (hn : P.cellsOf t ≤ cs.length) (hK : K (.agg (cs.take (P.cellsOf t))) H rd []) : Sound P o env H K := by
  refine sound_value hK fun J F w a G hok hops hrd => ?_
  obtain ⟨b, o', e, k⟩ := hp J F w G _ hok hrd (hops x (by simp [ho, Op.operands]))
  have k1 := repCells_part k 0 (P.cellsOf t)
  simp only [List.drop_zero, Nat.add_zero] at k1
  obtain ⟨vs, k2, k3, _⟩ := repCells_vals _ _ k1
  have hl : vs.length = P.cellsOf t := by rw [repL_len _ _ k2, List.length_take]; omega
  refine ⟨.agg vs.toArray, ?_, by simp only [rep]; exact ⟨vs, rfl, k2⟩⟩
  simp [execOp, ho, e, run_load_agg ht hl k3, Sem.run, pure]

theorem s_load1 {t : TypeId} {x : Operand} (ht : aggT P t = some false) (ho : o.op = .load t x) (h : step P seq (.load1 x) env H K) : Sound P o env H K := by
  simp only [step, evK_eq] at h
  split at h
  · rename_i id off e
    obtain ⟨ob, h1, h2⟩ := (hgetK_iff _ _ _).1 h
    split at h2
    · rename_i m cs
      obtain ⟨c, h3, h4⟩ := (atK_iff _ _ _).1 h2
      exact s_load_of ht ho (e ▸ points_loc h1) (by rw [List.getElem?_drop]; exact h3) h4
    · exact h2.elim
  · rename_i cs e
    obtain ⟨c, h3, h4⟩ := (atK_iff _ _ _).1 h
    exact s_load_of ht ho (e ▸ points_ipt) h3 h4
  · rename_i id ver i off e
    obtain ⟨ob, h1, h2⟩ := (hgetK_iff _ _ _).1 h
    split at h2
    · rename_i m ver' esz xs
      obtain ⟨rfl, row, h3, h4⟩ := h2
      obtain ⟨c, h5, h6⟩ := (atK_iff _ _ _).1 h4
      exact s_load_of ht ho (e ▸ points_elt h1 h3) (by rw [List.getElem?_drop]; exact h5) h6
    · exact h2.elim
  · exact h.elim

theorem s_loadA {t : TypeId} {x : Operand} (ht : aggT P t = some true) (ho : o.op = .load t x) (h : step P seq (.loadA (P.cellsOf t) x) env H K) : Sound P o env H K := by
  simp only [step, evK_eq] at h
  split at h
  · rename_i id off e
    obtain ⟨ob, h1, h2⟩ := (hgetK_iff _ _ _).1 h
    split at h2
    · rename_i m cs
      obtain ⟨_, h3⟩ := (dropK_iff _ _ _).1 h2
      obtain ⟨h4, h5⟩ := (takeK_iff _ _ _).1 h3
      exact s_loadA_of ht ho (e ▸ points_loc h1) h4 h5
    · exact h2.elim
  · rename_i cs e
    obtain ⟨h4, h5⟩ := (takeK_iff _ _ _).1 h
    exact s_loadA_of ht ho (e ▸ points_ipt) h4 h5
  · rename_i id ver i off e
    obtain ⟨ob, h1, h2⟩ := (hgetK_iff _ _ _).1 h
    split at h2
    · rename_i m ver' esz xs
      obtain ⟨rfl, row, h3, h4⟩ := h2
      obtain ⟨_, h5⟩ := (dropK_iff _ _ _).1 h4
      obtain ⟨h6, h7⟩ := (takeK_iff _ _ _).1 h5
      exact s_loadA_of ht ho (e ▸ points_elt h1 h3) h6 h7
    · exact h2.elim
  · exact h.elim

/-- An address moved by some cells, inside what it points at. -/
def shiftK (d : D) (off : Nat) (K' : D → Prop) : Prop := match d with
  | .loc id o => K' (.loc id (o + off))
  | .elt id ver i o => K' (.elt id ver i (o + off))
  | .ipt cs => dropK cs off fun r => K' (.ipt r)
  | _ => False
theorem s_shift {d : D} {off : Nat} {K' : D → Prop} (h : shiftK d off K') : ∃ d', K' d' ∧ ∀ (J : Inj) (F : Nat → Prop) (w : World) (v : Value), rep J F w d v → ∃ a, v = .pointer (some a) ∧ rep J F w d' (.pointer (some (a.add off))) := by
  unfold shiftK at h
  split at h
  · refine ⟨_, h, fun J F w v hv => ?_⟩
    simp only [rep] at hv ⊢
    obtain ⟨s, b, h1, h2, h3, rfl⟩ := hv
    exact ⟨_, rfl, s, b, h1, h2, h3, by rw [add_at]⟩
  · refine ⟨_, h, fun J F w v hv => ?_⟩
    simp only [rep] at hv ⊢
    obtain ⟨s, a, h1, rfl, h2, h3⟩ := hv
    refine ⟨_, rfl, s, _, h1, rfl, h2, fun q => ?_⟩
    obtain ⟨b, o, q1, q2, q3, rfl⟩ := h3 q
    exact ⟨b, o, q1, q2, q3, by rw [add_at, Nat.add_assoc]⟩
  · rename_i cs
    obtain ⟨_, h2⟩ := (dropK_iff _ _ _).1 h
    refine ⟨_, h2, fun J F w v hv => ?_⟩
    simp only [rep] at hv ⊢
    obtain ⟨b, o, rfl, hF, k⟩ := hv
    exact ⟨_, rfl, b, _, by rw [add_at], hF, repCells_drop k off⟩
  · exact h.elim

theorem s_faddr {s : TypeId} {x : Operand} {f : Nat} {fs : Array Field} {fd : Field} (hs : P.underlying s = some (.struct fs)) (hf : fs[f]? = some fd) (hz : P.cellsOf fd.type ≠ 0) (ho : o.op = .fieldAddr s x f) (h : step P seq (.faddr fd.offset x) env H K) : Sound P o env H K := by
  simp only [step, evK_eq] at h
  have h' : shiftK (evalD env x) fd.offset (fun d => K d H [] []) := by
    unfold shiftK; split at h <;> simp_all
  obtain ⟨d', hK, hr⟩ := s_shift h'
  refine sound_value hK fun J F w a G hok hops hrd => ?_
  obtain ⟨ad, e, k⟩ := hr J F w _ (hops x (by simp [ho, Op.operands]))
  have hi : ∃ i, P.info? fd.type = some i ∧ i.size ≠ 0 := by
    unfold Program.cellsOf at hz
    cases e : P.info? fd.type with
    | none => simp [e] at hz
    | some i => exact ⟨i, rfl, by simpa [e] using hz⟩
  obtain ⟨i, hi1, hi2⟩ := hi
  refine ⟨_, ?_, k⟩
  simp [execOp, ho, e, Instr.fieldAt, Instr.sureAddr, fieldPlace, run_sizeOf' hi1, hi2, underlying, program, Sem.run, hs, hf, pure]

theorem info_of_cells {e : TypeId} (hz : P.cellsOf e ≠ 0) : ∃ i, P.info? e = some i ∧ i.size = P.cellsOf e := by
  unfold Program.cellsOf at hz ⊢
  cases e : P.info? e with
  | none => simp [e] at hz
  | some i => exact ⟨i, rfl, by simp [e]⟩

theorem s_iaddr {t e : TypeId} {x i : Operand} (ht : P.underlying t = some (.slice e)) (hz : P.cellsOf e ≠ 0) (ho : o.op = .indexAddr t x i) (h : step P seq (.iaddr (P.cellsOf e) x i) env H K) : Sound P o env H K := by
  simp only [step, evK_eq] at h
  obtain ⟨ei, hi1, hi2⟩ := info_of_cells hz
  have run : ∀ (w : World) (a : Act) (k : IntKind) (z : Int) (ad : Addr) (n c : Nat), a.eval x = .slice (some ad) n c → a.eval i = .int k z → 0 ≤ z → z < n → (execOp a.eval o).run P w = .ok (.value (.pointer (some (ad.add (z.toNat * P.cellsOf e))))) w := by
    intro w a k z ad n c h1 h2 h3 h4
    simp [execOp, ho, h1, h2, Instr.indexAt, asIntOf, underlying, program, Sem.run, ht, pure, h3, h4, run_sizeOf' hi1, hi2]
  clear hi1 hi2
  generalize hE : P.cellsOf e = ez0 at h run hz
  split at h
  · rename_i k z ez
    split at h
    · rename_i esz' xs ex
      obtain ⟨h3, h0, row, h1, h2⟩ := (sameK_iff _ _ _).1 h
      refine sound_value h2 fun J F w a G hok hops hrd => ?_
      have k1 := hops x (by simp [ho, Op.operands])
      have k2 := hops i (by simp [ho, Op.operands])
      rw [ex] at k1; rw [ez] at k2
      simp only [rep] at k1 k2
      obtain ⟨A, n, c, q1, q2, _, q3⟩ := k1
      have hlt : z.toNat < xs.length := by
        rcases Nat.lt_or_ge z.toNat xs.length with h | h
        · exact h
        · rw [List.getElem?_eq_none h] at h1; cases h1
      rcases q3 with q3 | ⟨b, o', q4, q5, q6⟩
      · omega
      · subst q4
        obtain ⟨r1, r2⟩ := repRows_get xs o' z.toNat row h1 q6
        refine ⟨_, run w a k z _ n c q1 k2 h0 (by omega), ?_⟩
        simp only [rep]
        exact ⟨b, _, by rw [add_at, h3], q5, r2⟩
    · rename_i id ver lo hi ex
      obtain ⟨ob, h1, h2⟩ := (hgetK_iff _ _ _).1 h
      split at h2
      · rename_i m ver' esz xs
        obtain ⟨rfl, h2⟩ := h2
        obtain ⟨h3, h4, h5, h6⟩ := (sameK_iff _ _ _).1 h2
        refine sound_value h6 fun J F w a G hok hops hrd => ?_
        have k1 := hops x (by simp [ho, Op.operands])
        have k2 := hops i (by simp [ho, Op.operands])
        rw [ex] at k1; rw [ez] at k2
        simp only [rep] at k1 k2
        obtain ⟨s, A, n, c, q1, q2, q3, q4⟩ := k1
        have hG : G id = some (.vec m ver esz xs) := by rw [hrd id (by simp)]; exact h1
        obtain ⟨p1, p2, p3, p4, p5, -⟩ := vecOK hok q1 hG
        obtain ⟨t1, t2, t3, t4, t5, t6⟩ := q4 p2.symm
        rcases t6 with t6 | ⟨b, o', t6, t7⟩
        · omega
        · subst t7
          refine ⟨_, run w a k z _ n c q2 k2 h4 (by omega), ?_⟩
          simp only [rep]
          refine ⟨s, _, q1, rfl, q3, fun _ => ⟨b, o', t1, t6, by omega, ?_⟩⟩
          rw [add_at, p3, ← h3, Nat.add_mul]
          simp only [Addr.mk.injEq, and_true, true_and]
          omega
      · exact h2.elim
    · exact h.elim
  · exact h.elim

theorem s_aaddr {t e : TypeId} {n : Nat} {x i : Operand} (ht : P.underlying t = some (.array n e)) (hz : P.cellsOf e ≠ 0) (ho : o.op = .indexAddr t x i) (h : step P seq (.aaddr n (P.cellsOf e) x i) env H K) : Sound P o env H K := by
  simp only [step, evK_eq] at h
  obtain ⟨ei, hi1, hi2⟩ := info_of_cells hz
  split at h
  · rename_i k z ez
    obtain ⟨h0, h1, h⟩ := h
    have h' : shiftK (evalD env x) (z.toNat * P.cellsOf e) (fun d => K d H [] []) := by
      unfold shiftK; split at h <;> simp_all
    obtain ⟨d', hK, hr⟩ := s_shift h'
    refine sound_value hK fun J F w a G hok hops hrd => ?_
    obtain ⟨ad, e1, k1⟩ := hr J F w _ (hops x (by simp [ho, Op.operands]))
    have k2 := hops i (by simp [ho, Op.operands])
    rw [ez] at k2
    simp only [rep] at k2
    refine ⟨_, ?_, k1⟩
    simp [execOp, ho, e1, k2, Instr.indexAt, Instr.sureAddr, asIntOf, underlying, program, Sem.run, ht, pure, h0, h1, run_sizeOf' hi1, hi2]
  · exact h.elim

theorem s_len {args : Array Operand} {ts : Array TypeId} {x : Operand} {t e : TypeId} (ha : args.toList = [x]) (hts : ts.toList = [t]) (ht : P.underlying t = some (.slice e)) (ho : o.op = .call { callee := .builtin .len, args, argTypes := ts }) (h : step P seq (.len x) env H K) : Sound P o env H K := by
  have ea : args = #[x] := Array.ext' (by simpa using ha)
  have et : ts = #[t] := Array.ext' (by simpa using hts)
  subst ea et
  have run : ∀ (w : World) (a : Act) (A : Option Addr) (n c : Nat), a.eval x = .slice A n c → (execOp a.eval o).run P w = .ok (.value (.int .i64 n)) w := by
    intro w a A n c h1
    simp [execOp, ho, resolve, invoke, builtin, Builtin.len_, h1, Sem.run, pure, underlying, program, ht, goInt]
  simp only [step, evK_eq] at h
  split at h
  · rename_i esz xs e1
    refine sound_value h fun J F w a G hok hops hrd => ?_
    have k1 := hops x (by simp [ho, Op.operands, Call.operands])
    rw [e1] at k1
    simp only [rep] at k1
    obtain ⟨A, n, c, q1, rfl, _⟩ := k1
    exact ⟨_, run w a A _ c q1, rfl⟩
  · rename_i id ver lo hi e1
    obtain ⟨ob, h1, h2⟩ := (hgetK_iff _ _ _).1 h
    split at h2
    · rename_i m ver' esz xs
      obtain ⟨rfl, h2⟩ := h2
      refine sound_value h2 fun J F w a G hok hops hrd => ?_
      have k1 := hops x (by simp [ho, Op.operands, Call.operands])
      rw [e1] at k1
      simp only [rep] at k1
      obtain ⟨s, A, n, c, q1, q2, q3, q4⟩ := k1
      have hG : G id = some (.vec m ver esz xs) := by rw [hrd id (by simp)]; exact h1
      obtain ⟨p1, p2, _⟩ := vecOK hok q1 hG
      obtain ⟨_, _, _, rfl, _⟩ := q4 p2.symm
      exact ⟨_, run w a A _ c q2, rfl⟩
    · exact h2.elim
  · rename_i e1
    refine sound_value h fun J F w a G hok hops hrd => ?_
    have k1 := hops x (by simp [ho, Op.operands, Call.operands])
    rw [e1] at k1
    simp only [rep] at k1
    exact ⟨_, run w a _ 0 0 k1, rfl⟩
  · exact h.elim

/-- What a bound of a slice expression is. -/
theorem bndK_run {env : Env} {x : Option Operand} {dflt : Nat} {K' : Nat → Prop} (h : bndK env x dflt K') : ∃ n, K' n ∧
    ∀ (J : Inj) (F : Nat → Prop) (w : World) (a : Act), (∀ y ∈ x.toList, rep J F w (evalD env y) (a.eval y)) → (x = none ∧ n = dflt) ∨ ∃ y k, x = some y ∧ a.eval y = .int k n := by
  unfold bndK at h
  cases x with
  | none => exact ⟨dflt, h, fun J F w a _ => .inl ⟨rfl, rfl⟩⟩
  | some y =>
    simp only [evK_eq] at h
    split at h
    · rename_i k i e
      refine ⟨i.toNat, h.2, fun J F w a hy => .inr ⟨y, k, rfl, ?_⟩⟩
      have := hy y (by simp)
      rw [e] at this
      simp only [rep] at this
      rw [this, Int.toNat_of_nonneg h.1]
    · exact h.elim

theorem run_slice_lo_hi {t e : TypeId} {i : TypeInfo} (ht : P.underlying t = some (.slice e)) (hi : P.info? e = some i) (A : Option Addr) (len cap l h : Nat) (lo hi' : Option Value) (w : World)
    (h1 : (lo = none ∧ l = 0) ∨ ∃ k, lo = some (.int k l)) (h2 : (hi' = none ∧ h = len) ∨ ∃ k, hi' = some (.int k h)) (hlh : l ≤ h) (hc : h ≤ cap) :
    (Instr.sliceAt t (.slice A len cap) lo hi' none).run P w = .ok (.slice (if cap = l then A else A.map (·.add (l * i.size))) (h - l) (cap - l)) w := by
  have hb : (Instr.sliceBounds true len cap lo hi' none).run P w = .ok (l, h, cap) w := by
    rcases h1 with ⟨rfl, rfl⟩ | ⟨k, rfl⟩ <;> rcases h2 with ⟨rfl, rfl⟩ | ⟨k', rfl⟩ <;>
      simp [Instr.sliceBounds, Instr.sliceBound, asIntOf, pure, Sem.run, hlh, hc]
  simp [Instr.sliceAt, Instr.slice, underlying, program, Sem.run, ht, pure, hb, run_sizeOf' hi]

theorem repRows_part {J : Inj} {F : Nat → Prop} {w : World} {b esz o : Nat} {xs : List (List D)} (h : repRows J F w b esz xs o) (l n : Nat) : repRows J F w b esz ((xs.take n).drop l) (o + l * esz) := by
  refine repRows_mk _ _ fun j x hx => ?_
  have h1 : xs[l + j]? = some x := by
    rw [List.getElem?_drop, List.getElem?_take] at hx
    split at hx
    · exact hx
    · cases hx
  have := repRows_get xs o (l + j) x h1 h
  rwa [Nat.add_mul, ← Nat.add_assoc] at this

theorem s_slc {t e : TypeId} {x : Operand} {lo hi mx : Option Operand} (ht : P.underlying t = some (.slice e)) (hz : 0 < P.cellsOf e) (ho : o.op = .slice t x lo hi mx) (h : step P seq (.slc (P.cellsOf e) x lo hi mx) env H K) : Sound P o env H K := by
  simp only [step, evK_eq] at h
  obtain ⟨ei, hi1, hi2⟩ := info_of_cells (e := e) (P := P) (by omega)
  split at h
  · rename_i esz' xs e1
    obtain ⟨h3, h⟩ := (sameK_iff _ _ _).1 h
    obtain ⟨n, h, hn⟩ := bndK_run h
    obtain ⟨l, ⟨h4, h5, h6⟩, hl⟩ := bndK_run h
    refine sound_value h6 fun J F w a G hok hops hrd => ?_
    have k1 := hops x (by simp [ho, Op.operands])
    rw [e1] at k1
    simp only [rep] at k1
    obtain ⟨A, len, c, q1, q2, qc, q3⟩ := k1
    have hn' := hn J F w a fun y hy => hops y (by simp [ho, Op.operands]; exact .inr (.inr (by simpa using hy)))
    have hl' := hl J F w a fun y hy => hops y (by simp [ho, Op.operands]; exact .inr (.inl (by simpa using hy)))
    refine ⟨.slice (if c = l then A else A.map (·.add (l * ei.size))) (n - l) (c - l), ?_, ?_⟩
    · have := run_slice_lo_hi (P := P) ht hi1 A len c l n (lo.map a.eval) (hi.map a.eval) w
        (by rcases hl' with ⟨rfl, rfl⟩ | ⟨y, k, rfl, q⟩
            · exact .inl ⟨rfl, rfl⟩
            · exact .inr ⟨k, by simp [q]⟩)
        (by rcases hn' with ⟨rfl, rfl⟩ | ⟨y, k, rfl, q⟩
            · exact .inl ⟨rfl, q2.symm⟩
            · exact .inr ⟨k, by simp [q]⟩) h4 (by omega)
      simp [execOp, ho, q1, this, Sem.run, pure]
    · simp only [rep]
      refine ⟨_, _, _, rfl, by simp [List.length_drop, List.length_take]; omega, by omega, ?_⟩
      rcases q3 with q3 | ⟨b, o', rfl, q5, q6⟩
      · exact .inl (by omega)
      · by_cases hcl : c = l
        · exact .inl (by omega)
        · rw [if_neg hcl]
          exact .inr ⟨b, _, by simp only [Option.map_some, add_at, hi2, h3], q5, repRows_part q6 l n⟩
  · rename_i id ver p q e1
    obtain ⟨ob, h1, h2⟩ := (hgetK_iff _ _ _).1 h
    split at h2
    · rename_i m ver' esz xs
      obtain ⟨rfl, h2⟩ := h2
      obtain ⟨h3, h⟩ := (sameK_iff _ _ _).1 h2
      obtain ⟨n, h, hn⟩ := bndK_run h
      obtain ⟨l, ⟨h4, h5, h6⟩, hl⟩ := bndK_run h
      refine sound_value h6 fun J F w a G hok hops hrd => ?_
      have k1 := hops x (by simp [ho, Op.operands])
      rw [e1] at k1
      simp only [rep] at k1
      obtain ⟨s, A, len, c, q1, q2, q3, q4⟩ := k1
      have hG : G id = some (.vec m ver esz xs) := by rw [hrd id (by simp)]; exact h1
      obtain ⟨p1, p2, p3, p4, p5, -⟩ := vecOK hok q1 hG
      obtain ⟨t1, t2, t3, t4, t5, t6⟩ := q4 p2.symm
      have T6 := Lib.hid t6
      clear t6
      have hn' := hn J F w a fun y hy => hops y (by simp [ho, Op.operands]; exact .inr (.inr (by simpa using hy)))
      have hl' := hl J F w a fun y hy => hops y (by simp [ho, Op.operands]; exact .inr (.inl (by simpa using hy)))
      refine ⟨.slice (if c = l then A else A.map (·.add (l * ei.size))) (n - l) (c - l), ?_, ?_⟩
      · have := run_slice_lo_hi (P := P) ht hi1 A len c l n (lo.map a.eval) (hi.map a.eval) w
          (by rcases hl' with ⟨rfl, rfl⟩ | ⟨y, k, rfl, q⟩
              · exact .inl ⟨rfl, rfl⟩
              · exact .inr ⟨k, by simp [q]⟩)
          (by rcases hn' with ⟨rfl, rfl⟩ | ⟨y, k, rfl, q⟩
              · exact .inl ⟨rfl, by omega⟩
              · exact .inr ⟨k, by simp [q]⟩) h4 (by omega)
        simp [execOp, ho, q2, this, Sem.run, pure]
      · simp only [rep]
        refine ⟨s, _, _, _, q1, rfl, q3, fun _ => ⟨t1, by omega, by omega, by omega, by omega, ?_⟩⟩
        by_cases hcl : c = l
        · exact .inl (by omega)
        · rcases T6.out with t6 | ⟨b, o', t6, rfl⟩
          · exact .inl (by omega)
          · rw [if_neg hcl]
            refine .inr ⟨b, o', t6, ?_⟩
            simp only [Option.map_some, add_at, hi2, h3, p3, Nat.add_mul, Nat.add_assoc]
    · exact h2.elim
  · exact h.elim

theorem s_sslc {t : TypeId} {x : Operand} {lo hi : Option Operand} (ht : P.underlying t = some .string) (ho : o.op = .slice t x lo hi none) (h : step P seq (.sslc x lo hi) env H K) : Sound P o env H K := by
  simp only [step, evK_eq] at h
  split at h
  · rename_i s e1
    obtain ⟨n, h, hn⟩ := bndK_run h
    obtain ⟨l, ⟨h4, h5, h6⟩, hl⟩ := bndK_run h
    refine sound_value h6 fun J F w a G hok hops hrd => ?_
    have k1 := hops x (by simp [ho, Op.operands])
    rw [e1] at k1
    simp only [rep] at k1
    have hn' := hn J F w a fun y hy => hops y (by simp [ho, Op.operands]; exact .inr (.inr (by simpa using hy)))
    have hl' := hl J F w a fun y hy => hops y (by simp [ho, Op.operands]; exact .inr (.inl (by simpa using hy)))
    refine ⟨.string (s.extract l n), ?_, by simp only [rep]⟩
    have hb : (Instr.sliceBounds false s.size s.size (lo.map a.eval) (hi.map a.eval) none).run P w = .ok (l, n, s.size) w := by
      rcases hl' with ⟨rfl, rfl⟩ | ⟨y, k, rfl, q⟩ <;> rcases hn' with ⟨rfl, rfl⟩ | ⟨y', k', rfl, q'⟩ <;>
        simp [Instr.sliceBounds, Instr.sliceBound, asIntOf, pure, Sem.run, *]
    simp [execOp, ho, k1, Instr.sliceAt, Instr.slice, underlying, program, Sem.run, ht, pure, hb]
  · exact h.elim

/-! ### Structs by value, nil -/

theorem repL_take {J : Inj} {F : Nat → Prop} {w : World} {ds : List D} {vs : List Value} (h : repL J F w ds vs) (n : Nat) : repL J F w (ds.take n) (vs.take n) := by
  have hl := repL_len _ _ h
  refine repL_mk _ _ (by simp [hl]) fun j d v hd hv => ?_
  rw [List.getElem?_take] at hd hv
  split at hd
  · rename_i hj
    rw [if_pos hj] at hv
    obtain ⟨v', h1, h2⟩ := repL_get _ _ _ _ hd h
    rw [hv] at h1; cases h1
    exact h2
  · cases hd
theorem repL_drop {J : Inj} {F : Nat → Prop} {w : World} {ds : List D} {vs : List Value} (h : repL J F w ds vs) (n : Nat) : repL J F w (ds.drop n) (vs.drop n) := by
  have hl := repL_len _ _ h
  refine repL_mk _ _ (by simp [hl]) fun j d v hd hv => ?_
  rw [List.getElem?_drop] at hd hv
  obtain ⟨v', h1, h2⟩ := repL_get _ _ _ _ hd h
  rw [hv] at h1; cases h1
  exact h2

theorem s_field {s : TypeId} {x : Operand} {f : Nat} {fs : Array Field} {fd : Field} {ag : Bool} (hs : P.underlying s = some (.struct fs)) (hf : fs[f]? = some fd) (hag : aggT P fd.type = some ag) (ho : o.op = .field s x f) (h : step P seq (.field fd.offset (P.cellsOf fd.type) ag x) env H K) : Sound P o env H K := by
  simp only [step, evK_eq] at h
  obtain ⟨i, hi1, hi2⟩ := info_of_agg hag
  split at h
  · rename_i cs e1
    cases ag with
    | true =>
      simp only at h
      obtain ⟨h1, h2⟩ := (dropK_iff _ _ _).1 h
      obtain ⟨h3, h4⟩ := (takeK_iff _ _ _).1 h2
      refine sound_value h4 fun J F w a G hok hops hrd => ?_
      have k1 := hops x (by simp [ho, Op.operands])
      rw [e1] at k1
      simp only [rep] at k1
      obtain ⟨vs, q1, q2⟩ := k1
      refine ⟨.agg ((vs.drop fd.offset).take (P.cellsOf fd.type)).toArray, ?_, by simp only [rep]; exact ⟨_, rfl, repL_take (repL_drop q2 _) _⟩⟩
      have e2 : vs.toArray.extract fd.offset (fd.offset + P.cellsOf fd.type) = ((vs.drop fd.offset).take (P.cellsOf fd.type)).toArray := by
        apply Array.ext'
        rw [List.extract_toArray]
        simp [List.extract_eq_take_drop]
      simp [execOp, ho, q1, Instr.field, asAgg, part, run_isAgg hag, run_sizeOf' hi1, hi2, underlying, program, Sem.run, hs, hf, pure, e2]
    | false =>
      simp only at h
      obtain ⟨c, h1, h2⟩ := (atK_iff _ _ _).1 h
      refine sound_value h2 fun J F w a G hok hops hrd => ?_
      have k1 := hops x (by simp [ho, Op.operands])
      rw [e1] at k1
      simp only [rep] at k1
      obtain ⟨vs, q1, q2⟩ := k1
      obtain ⟨v, q3, q4⟩ := repL_get _ _ _ _ h1 q2
      refine ⟨v, ?_, q4⟩
      simp [execOp, ho, q1, Instr.field, asAgg, part, run_isAgg hag, underlying, program, Sem.run, hs, hf, pure, q3]
  · exact h.elim

theorem run_isnil_eq {t : TypeId} {x y : Operand} {u v : Value} {b : Bool} (hg : ∀ op w, (eqGuard op t x y u v).run P w = .ok () w) (hb : ∀ w, (Op.equal t u v).run P w = .ok b w)
    (h1 : ∀ k n, u ≠ .int k n) (h2 : ∀ s, u ≠ .string s) (h3 : ∀ k n, u ≠ .float k n) (h4 : ∀ k n m, u ≠ .complex k n m) (neq : Bool) (w : World) :
    ((do eqGuard (if neq then .neq else .eql) t x y u v; binOp (if neq then .neq else .eql) t u v : Sem Value)).run P w = .ok (.bool (if neq then !b else b)) w := by
  cases neq <;> cases u <;> simp_all [binOp, pure, Sem.run]
end
end Go.Proofs.Ytkkfiadefekbbaa
