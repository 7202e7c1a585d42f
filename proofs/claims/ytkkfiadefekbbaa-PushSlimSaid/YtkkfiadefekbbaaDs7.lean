/-
  What an operation's reckoning says is what the machine does: calls. No statement is proved here.
-/
import Derived.Test.YtkkfiadefekbbaaDsc
namespace Go.Proofs.Ytkkfiadefekbbaa
open Go.RowKit
set_option linter.unusedSimpArgs false
set_option linter.unusedVariables false

/-- The same at this one heap. -/
def OpSeq (P : Program) (o : Oper) (env : Env) (H : List AObj) (d : D) (H2 : List AObj) : Prop :=
  H.length ≤ H2.length ∧ ∀ (J : Inj) (F : Nat → Prop) (w : World) (a : Act), StOK J F w (fun i => H[i]?) → (∀ id, J id ≠ none → id < H.length) → (∀ x ∈ o.op.operands, rep J F w (evalD env x) (a.eval x)) →
    ∀ (K : Act → World → Prop) (Q : Exit → Act → World → Prop),
      (∀ v w' J' F', rep J' F' w' d v → StOK J' F' w' (fun i => H2[i]?) → Ext J F w J' F' w' → (∀ id, J' id ≠ none → id < H2.length) → K (a.put o.dst v) w') → o.wp P a w K Q

theorem OpS.seq {P : Program} {o : Oper} {env : Env} {rd wr : List Nat} {H : List AObj} {d : D} {H2 : List AObj} (h : OpS P o env rd wr H d H2) : OpSeq P o env H d H2 := by
  refine ⟨h.len, fun J F w a hok hdom hops K Q hK => h.run J F w a _ hok hops (fun _ _ => rfl) (fun id hl _ => ?_) K Q fun v w' J' F' h1 h2 h3 h4 => ?_⟩
  · cases e : J id with
    | none => rfl
    | some s => have := hdom id (by rw [e]; simp); omega
  · refine hK v w' J' F' h1 ?_ h3 fun id hid => ?_
    · have : upd (fun i => H[i]?) wr H2 = fun i => H2[i]? := by
        funext i
        unfold upd
        split
        · rfl
        · rename_i hi; exact (h.frame i hi).symm
      rwa [this] at h2
    · rcases Nat.lt_or_ge id H2.length with hl | hl
      · exact hl
      · have hw : id ∉ wr := fun hw => by have := h.lt id hw; omega
        have hJ : J id = none := by
          cases e : J id with
          | none => rfl
          | some s => have := hdom id (by rw [e]; simp); have := h.len; omega
        exact absurd (h4 id hJ hw) hid

/-- Memory after a call of data. -/
theorem StOK.keep {J : Inj} {F F' : Nat → Prop} {w w' : World} {G : Nat → Option AObj} (h : StOK J F w G) (hb : ∀ b, b < w.heap.size → w'.heap[b]? = w.heap[b]?) (hsz : w.heap.size ≤ w'.heap.size) (hF : ∀ b, F b → F' b) (hback : ∀ b, F' b → F b ∨ w.heap.size ≤ b) (hlt : ∀ b, F' b → b < w'.heap.size) : StOK J F' w' G where
  obj id s hi := by
    obtain ⟨o, h1, h2⟩ := h.obj id s hi
    exact ⟨o, h1, ObjOK_mono (Inj.le_refl J) hF (fun b hx => hb b (h.lt b hx)) (fun b hx => hb b (h.blk_lt hi hx)) h2⟩
  one := h.one
  apart id s b o hi hs hg hm hx := by
    rcases hback b hx with q | q
    · exact h.apart id s b o hi hs hg hm q
    · have := h.blk_lt hi hs; omega
  lt := hlt

theorem noOwns (b : Nat) : ¬ Owns noInj b := fun ⟨_, _, h, _⟩ => by cases h
theorem noInj_le (J : Inj) : noInj.le J := fun _ _ h => by cases h

theorem Ext.ofPure {J : Inj} {F F' : Nat → Prop} {w w' : World} {G : Nat → Option AObj} (hok : StOK J F w G) (h : Ext noInj F w noInj F' w') : Ext J F w J F' w' :=
  ⟨h.os, h.tape, h.output, h.size, fun b hb _ => h.block b hb (noOwns b), h.frozen, Inj.le_refl J, h.grow, fun b hb => .inl hb, fun b hb => (h.growBack b hb).imp_right fun q => .inr (q.resolve_left (noOwns b))⟩

/-! ### What the own memory reads as -/
section
variable {J : Inj} {F : Nat → Prop} {w : World} {H : List AObj} {G : Nat → Option AObj}
mutual
theorem deep_sound (hok : StOK J F w G) (hG : ∀ (id : Nat) (o : AObj), H[id]? = some o → G id = some o) : ∀ (d e : D) (v : Value), Deep H d e → rep J F w d v → rep J (fun b => F b ∨ Owns J b) w e v
  | d, _, v, .refl _, h => rep_mono (Inj.le_refl J) (fun _ h => .inl h) (fun _ _ => rfl) d v h
  | _, _, v, .none esz, h => by
    simp only [rep] at h ⊢
    exact ⟨none, 0, 0, h, rfl, Nat.le_refl _, .inl rfl⟩
  | _, _, v, .loc id off m cs ds h k, hv => by
    simp only [rep] at hv ⊢
    obtain ⟨s, b, h1, h2, h3, rfl⟩ := hv
    have hc := repCells_drop (rowOK hok h1 h3 (hG _ _ h)) off
    refine ⟨b, off, rfl, .inr ⟨id, s, h1, by simp [Site.blk, h2, h3]⟩, ?_⟩
    rw [Nat.zero_add] at hc
    exact deepCells_sound hok hG _ _ b off k hc
  | _, _, v, .own id ver lo hi esz m xs ys h k, hv => by
    simp only [rep] at hv ⊢
    obtain ⟨s, A, n, c, h1, rfl, h2, h3⟩ := hv
    obtain ⟨p1, p2, p3, p4, p5, p6⟩ := vecOK hok h1 (hG _ _ h)
    obtain ⟨t1, t2, t3, rfl, rfl, t6⟩ := h3 p2.symm
    have hl : ys.length = hi - lo := by
      rw [← deepLL_len _ _ k]; simp; omega
    refine ⟨A, _, _, rfl, hl.symm, by omega, ?_⟩
    rcases t6 with t6 | ⟨b, o, t6, rfl⟩
    · exact .inl (by omega)
    · rcases p6 with p6 | ⟨b', o', vals, te, e, q1, q2, q3, q4⟩
      · exact .inl (by omega)
      · rw [t6] at e; cases e
        by_cases hz : s.cap = 0
        · exact .inl (by omega)
        · refine .inr ⟨b, _, rfl, .inr ⟨id, s, h1, by simp [Site.blk, hz, t6]⟩, ?_⟩
          rw [p3]
          exact deepRows_sound hok hG _ _ b esz _ k (repRows_part q3 lo hi)
  | _, _, v, .fn f a b c e h k, hv => by
    simp only [rep] at hv ⊢
    obtain ⟨vs, us, rfl, h2, h3⟩ := hv
    exact ⟨vs, us, rfl, deepL_sound hok hG _ _ vs h h2, deepL_sound hok hG _ _ us k h3⟩
  | _, _, v, .ifc t d e h, hv => by
    simp only [rep] at hv ⊢
    obtain ⟨u, rfl, h2⟩ := hv
    exact ⟨u, rfl, deep_sound hok hG _ _ u h h2⟩
  | _, _, v, .agg a b h, hv => by
    simp only [rep] at hv ⊢
    obtain ⟨vs, rfl, h2⟩ := hv
    exact ⟨vs, rfl, deepL_sound hok hG _ _ vs h h2⟩
  | _, _, v, .tup a b h, hv => by
    simp only [rep] at hv ⊢
    obtain ⟨vs, rfl, h2⟩ := hv
    exact ⟨vs, rfl, deepL_sound hok hG _ _ vs h h2⟩
theorem deepL_sound (hok : StOK J F w G) (hG : ∀ (id : Nat) (o : AObj), H[id]? = some o → G id = some o) : ∀ (d e : List D) (v : List Value), DeepL H d e → repL J F w d v → repL J (fun b => F b ∨ Owns J b) w e v
  | _, _, v, .nil, h => by simp only [repL] at h ⊢; exact h
  | _, _, v, .cons d e a b h k, hv => by
    simp only [repL] at hv ⊢
    obtain ⟨u, us, rfl, h2, h3⟩ := hv
    exact ⟨u, us, rfl, deep_sound hok hG _ _ u h h2, deepL_sound hok hG _ _ us k h3⟩
theorem deepCells_sound (hok : StOK J F w G) (hG : ∀ (id : Nat) (o : AObj), H[id]? = some o → G id = some o) : ∀ (d e : List D) (b o : Nat), DeepL H d e → repCells J F w b d o → repCells J (fun b => F b ∨ Owns J b) w b e o
  | _, _, b, o, .nil, h => by simp only [repCells]
  | _, _, b, o, .cons d e x y h k, hv => by
    simp only [repCells] at hv ⊢
    obtain ⟨⟨u, h1, h2, h3⟩, h4⟩ := hv
    exact ⟨⟨u, h1, h2, deep_sound hok hG _ _ u h h3⟩, deepCells_sound hok hG _ _ b (o + 1) k h4⟩
theorem deepRows_sound (hok : StOK J F w G) (hG : ∀ (id : Nat) (o : AObj), H[id]? = some o → G id = some o) : ∀ (d e : List (List D)) (b esz o : Nat), DeepLL H d e → repRows J F w b esz d o → repRows J (fun b => F b ∨ Owns J b) w b esz e o
  | _, _, b, esz, o, .nil, h => by simp only [repRows]
  | _, _, b, esz, o, .cons d e x y h k, hv => by
    simp only [repRows] at hv ⊢
    obtain ⟨h1, h2, h3⟩ := hv
    exact ⟨by rw [← deepL_len _ _ h]; exact h1, deepCells_sound hok hG _ _ b o h h2, deepRows_sound hok hG _ _ b esz (o + esz) k h3⟩
theorem deepL_len : ∀ (d e : List D), DeepL H d e → d.length = e.length
  | _, _, .nil => rfl
  | _, _, .cons d e a b _ k => by simp [deepL_len a b k]
theorem deepLL_len : ∀ (d e : List (List D)), DeepLL H d e → d.length = e.length
  | _, _, .nil => rfl
  | _, _, .cons d e a b _ k => by simp [deepLL_len a b k]
end

theorem areScalar_rep {J' : Inj} {F' : Nat → Prop} {w' : World} : ∀ (ds : List D) (vs : List Value), areScalar ds = true → repL J F w ds vs → repL J' F' w' ds vs
  | [], vs, _, h => by simp only [repL] at h ⊢; exact h
  | d :: r, vs, hs, h => by
    simp only [areScalar] at hs
    simp only [repL] at h ⊢
    obtain ⟨v, us, rfl, h2, h3⟩ := h
    cases e : isScalar d with
    | false => rw [e] at hs; cases hs
    | true =>
      rw [e] at hs
      refine ⟨v, us, rfl, ?_, areScalar_rep r us hs h3⟩
      cases d <;> simp [isScalar] at e
      simpa only [rep] using h2
theorem bareD_rep {J' : Inj} {F' : Nat → Prop} {w' : World} {d : D} {v : Value} (hb : bareD d = true) (h : rep J F w d v) : rep J' F' w' d v := by
  cases d <;> simp [bareD] at hb
  case sc => simpa only [rep] using h
  case agg cs => simp only [rep] at h ⊢; obtain ⟨vs, h1, h2⟩ := h; exact ⟨vs, h1, areScalar_rep cs vs hb h2⟩
  case tup cs => simp only [rep] at h ⊢; obtain ⟨vs, h1, h2⟩ := h; exact ⟨vs, h1, areScalar_rep cs vs hb h2⟩
end

section
variable {P : Program} {seq : Bool} {o : Oper} {env : Env} {H : List AObj} {K : Cont}

theorem enter_wp {f : FuncId} {vs : Array Value} {a : Act} {w : World} {K : Act → World → Prop} {Q : Exit → Act → World → Prop} {R : Ending → World → Prop} (hrun : (execOp a.eval o).run P w = .ok (.enter f vs) w) (hc : Calls P f vs w R)
    (hR : ∀ e w', R e w' → ∃ v, e = .returned v ∧ K (a.put o.dst v) w') : o.wp P a w K Q := by
  unfold Oper.wp
  rw [hrun, Oper.upon_enter]
  exact hc.mono fun e w' h => by
    obtain ⟨v, rfl, hk⟩ := hR e w' h
    exact hk

/-- What the reckoning of an operation promises where operations come one behind the other. -/
def SoundSeq (P : Program) (o : Oper) (env : Env) (H : List AObj) (K : Cont) : Prop := ∃ d H2 rd wr, OpSeq P o env H d H2 ∧ K d H2 rd wr
theorem sound_seq (h : Sound P o env H K) : SoundSeq P o env H K := let ⟨d, H2, rd, wr, h1, h2⟩ := h; ⟨d, H2, rd, wr, h1.seq, h2⟩

theorem call_sound {f : FuncId} {args : List D} {vals : Act → List Value} (hrun : ∀ (a : Act) (w : World), okFun P f → (∀ (J : Inj) (F : Nat → Prop), (∀ x ∈ o.op.operands, rep J F w (evalD env x) (a.eval x)) → (execOp a.eval o).run P w = .ok (.enter f (vals a).toArray) w))
    (hargs : ∀ (J : Inj) (F : Nat → Prop) (w : World) (a : Act), (∀ x ∈ o.op.operands, rep J F w (evalD env x) (a.eval x)) → repL J F w args (vals a)) (h : callK P seq f args H K) :
    Sound P o env H K ∨ (seq = true ∧ SoundSeq P o env H K) := by
  rcases h with ⟨d, ⟨hf, hp⟩, hK⟩ | ⟨args', d, hd, ⟨hf, hp⟩, hb, hK⟩ | ⟨hs, d, H2, ⟨hf, hl, hp⟩, hK⟩ | ⟨d, H2, hu, huo, hA, hK⟩
  · refine .inl ⟨d, H, [], [], ⟨fun _ _ => rfl, Nat.le_refl _, (fun _ h => by cases h), fun J F w a G hok hops _ _ K Q hK => ?_⟩, hK⟩
    refine enter_wp (hrun a w hf J F hops) (hp J F w _ hok.lt (hargs J F w a hops)) fun e w' hR => ?_
    obtain ⟨v, F', rfl, h1, h2, h3⟩ := hR
    refine ⟨v, rfl, hK v w' J F' (rep_mono (noInj_le J) (fun _ h => h) (fun _ _ => rfl) _ _ h2) ?_ (Ext.ofPure hok h3) fun _ h _ => h⟩
    rw [upd_nil]
    exact hok.keep (fun b hb => h3.block b hb (noOwns b)) h3.size h3.grow (fun b hb => (h3.growBack b hb).imp_right fun q => q.resolve_left (noOwns b)) h1
  · refine .inl ⟨d, H, List.range H.length, [], ⟨fun _ _ => rfl, Nat.le_refl _, (fun _ h => by cases h), fun J F w a G hok hops hrd _ K Q hK => ?_⟩, hK⟩
    have hG : ∀ (id : Nat) (o : AObj), H[id]? = some o → G id = some o := fun id o h => by
      rw [hrd id (.inl ?_)]
      · exact h
      · rw [List.mem_range]
        rcases Nat.lt_or_ge id H.length with hl | hl
        · exact hl
        · rw [List.getElem?_eq_none hl] at h; cases h
    have hlt : ∀ b, F b ∨ Owns J b → b < w.heap.size := fun b hb => hb.elim (hok.lt b) fun ⟨i, s, hi, hs⟩ => hok.blk_lt hi hs
    refine enter_wp (hrun a w hf J F hops) (hp J _ w _ hlt (deepL_sound hok hG _ _ _ hd (hargs J F w a hops))) fun e w' hR => ?_
    obtain ⟨v, F', rfl, h1, h2, h3⟩ := hR
    have hblk : ∀ b, b < w.heap.size → w'.heap[b]? = w.heap[b]? := fun b hb => h3.block b hb (noOwns b)
    refine ⟨v, rfl, hK v w' J F (bareD_rep hb h2) ?_ ⟨h3.os, h3.tape, h3.output, h3.size, fun b hb _ => hblk b hb, fun b hb => hblk b (hok.lt b hb), Inj.le_refl J, fun _ h => h, fun b hb => .inl hb, fun b hb => .inl hb⟩ fun _ h _ => h⟩
    rw [upd_nil]
    exact hok.keep hblk h3.size (fun _ h => h) (fun b hb => .inl hb) (fun b hb => Nat.lt_of_lt_of_le (hok.lt b hb) h3.size)
  · refine .inr ⟨hs, d, H2, [], [], ⟨hl, fun J F w a hok hdom hops K Q hK => ?_⟩, hK⟩
    refine enter_wp (hrun a w hf J F hops) (hp J F w _ hok hdom (hargs J F w a hops)) fun e w' hR => ?_
    obtain ⟨v, J', F', rfl, h1, h2, h3, h4⟩ := hR
    exact ⟨v, rfl, hK v w' J' F' h3 h1 h4 h2⟩
  · refine .inl ⟨d, H2, upTo H2.length, upTo H2.length, ⟨fun id hid => ?_, hA.len, fun id hid => (upTo_iff id _).1 hid, fun J F w a G hok hops hrd hnone K Q hK => ?_⟩, hK⟩
    · have h1 : ¬ id < H2.length := fun h => hid ((upTo_iff id _).2 h)
      have := hA.len
      rw [List.getElem?_eq_none (by omega), List.getElem?_eq_none (by omega)]
    · have core := acall_core (G := G) (G' := upd G (upTo H2.length) H2) (fun i => i) hA (fun i j _ _ h => h) hok (fun i o ho => by
        rw [oren_id, hrd i (.inl ((upTo_iff i _).2 (Nat.lt_of_lt_of_le (get_lt ho) hA.len)))]
        exact ho) (fun i h1 h2 => hnone i h1 ((upTo_iff i _).2 h2)) (by rw [renL_id]; exact hargs J F w a hops) (fun i o ho => by
        rw [oren_id]
        unfold upd
        rw [if_pos ((upTo_iff i _).2 (get_lt ho))]
        exact ho) (fun j hj => by
        unfold upd
        rw [if_neg fun h => hj j ((upTo_iff j _).1 h) rfl]) hu (underO_mem huo)
      refine enter_wp (hrun a w hA.ok J F hops) core fun e w' hR => ?_
      obtain ⟨v, J', F', rfl, h1, h2, h3, h4⟩ := hR
      rw [ren_id] at h3
      refine ⟨v, rfl, hK v w' J' F' h3 h1 h4 fun id hid hw => ?_⟩
      cases e : J' id with
      | none => rfl
      | some s =>
        rcases h2 id (by rw [e]; simp) with q | ⟨i, q1, q2⟩
        · exact absurd hid q
        · subst q2
          exact absurd ((upTo_iff i _).2 q1) hw

theorem repL_map {J : Inj} {F : Nat → Prop} {w : World} {a : Act} : ∀ (xs : List Operand), (∀ x ∈ xs, rep J F w (evalD env x) (a.eval x)) → repL J F w (xs.map (evalD env)) (xs.map a.eval)
  | [], _ => by simp only [List.map_nil, repL]
  | x :: r, h => by
    simp only [List.map_cons, repL]
    exact ⟨_, _, rfl, h x (by simp), repL_map r fun y hy => h y (by simp [hy])⟩

theorem run_callFunc {f : FuncId} {args : Array Value} {w : World} (h : okFun P f) : (callFunc f args).run P w = .ok (.enter f args) w := by
  obtain ⟨fn, h1, h2, h3⟩ := h
  simp only [beq_eq_false_iff_ne, ne_eq] at h2
  simp [callFunc, program, Sem.run, h1, h2, pure]
  intro hb
  simp [hb] at h3

theorem s_call {f : FuncId} {args : Array Operand} {ts : Array TypeId} (ho : o.op = .call { callee := .value (.func f), args, argTypes := ts }) (h : step P seq (.call f args.toList) env H K) :
    Sound P o env H K ∨ (seq = true ∧ SoundSeq P o env H K) := by
  simp only [step, evLK_eq] at h
  refine call_sound (vals := fun a => args.toList.map a.eval) (fun a w hf J F hops => ?_) (fun J F w a hops => repL_map _ fun x hx => hops x ?_) h
  · have e1 : args.map a.eval = (args.toList.map a.eval).toArray := by apply Array.ext'; simp
    simp [execOp, ho, resolve, Deferred.ofValue, Act.eval, invoke, run_callFunc hf, Sem.run, pure, e1]
  · simp [ho, Op.operands, Call.operands]
    exact .inr (by simpa using hx)

theorem s_callv {x : Operand} {args : Array Operand} {ts : Array TypeId} (ho : o.op = .call { callee := .value x, args, argTypes := ts }) (h : step P seq (.callv x args.toList) env H K) :
    Sound P o env H K ∨ (seq = true ∧ SoundSeq P o env H K) := by
  simp only [step, evK_eq, evLK_eq] at h
  split at h
  · rename_i f first cap e
    have hval : ∀ (J : Inj) (F : Nat → Prop) (w : World) (a : Act), (∀ x ∈ o.op.operands, rep J F w (evalD env x) (a.eval x)) → ∃ vs us, a.eval x = .func (.func f) vs.toArray us.toArray ∧ repL J F w first vs ∧ repL J F w cap us := fun J F w a hops => by
      have := hops x (by simp [ho, Op.operands, Call.operands])
      rw [e] at this
      simpa only [rep] using this
    refine call_sound (vals := fun a => match a.eval x with
      | .func _ vs us => vs.toList ++ args.toList.map a.eval ++ us.toList
      | _ => []) (fun a w hf J F hops => ?_) (fun J F w a hops => ?_) h
    · obtain ⟨vs, us, e1, _, _⟩ := hval J F w a hops
      simp only [e1]
      simp only [execOp, ho, resolve, e1, Deferred.ofValue, pure, Sem.run_bind, Sem.run, Result.andThen_ok, invoke, run_callFunc hf]
      congr 2
      apply Array.ext'
      simp
    · obtain ⟨vs, us, e1, e2, e3⟩ := hval J F w a hops
      simp only [e1]
      refine repL_append (repL_append (by simpa using e2) (repL_map _ fun y hy => hops y ?_)) (by simpa using e3)
      simp [ho, Op.operands, Call.operands]
      exact .inr (by simpa using hy)
  · exact h.elim

theorem s_append {t u e e' : TypeId} {args : Array Operand} {ts : Array TypeId} {x y : Operand} {z : Value} (ha : args.toList = [x, y]) (hts : ts.toList = [t, u]) (ht : P.underlying t = some (.slice e)) (hu : P.underlying u = some (.slice e')) (hz : (P.info? e).bind (·.zero) = some z) (hzs : z.cells.size = P.cellsOf e) (hpos : 0 < P.cellsOf e) (hbp : 0 < P.bytesOf e)
    (ho : o.op = .call { callee := .builtin .append, args, argTypes := ts }) (h : step P seq (.append (P.cellsOf e) (P.bytesOf e) x y) env H K) : Sound P o env H K := by
  have ea : args = #[x, y] := Array.ext' (by simpa using ha)
  have et : ts = #[t, u] := Array.ext' (by simpa using hts)
  subst ea et
  simp only [step, evK_eq] at h
  obtain ⟨ys, rd, h, hy⟩ := srcK_spec h
  split at h
  · rename_i e1
    obtain ⟨h0, h1, h2⟩ := h
    rw [hpushK_iff] at h2
    exact s_append_nil ht hu hz hzs hpos hbp rfl ho e1 hy h0 h1 h2
  · rename_i id ver lo hi e1
    obtain ⟨ob, h1, h2⟩ := (hgetK_iff _ _ _).1 h
    split at h2
    · rename_i ver' esz' zs
      obtain ⟨hv, h2⟩ := h2
      subst hv
      obtain ⟨he, h3, h4⟩ := (sameK_iff _ _ _).1 h2
      subst he
      obtain ⟨_, h5⟩ := (hputK_iff _ _ _ _).1 h4
      exact s_append_own ht hu hz hzs hpos hbp rfl ho e1 h1 hy h3 h5
    · exact h2.elim
  · exact h.elim
end
end Go.Proofs.Ytkkfiadefekbbaa
