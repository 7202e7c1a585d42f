/-
  Code over deep values: the rules that walk it, and calls. No statement is proved here.
-/
import Derived.Test.YtkkfiadefekbbaaDsq
import Derived.Deep.LoopGhost
namespace Go.Proofs.Ytkkfiadefekbbaa
open Go.RowKit
set_option linter.unusedSimpArgs false
set_option linter.unusedVariables false

/-- What a piece of code's reckoning says of the machine. -/
def conc (n : Nat) (J : Inj) (F : Nat → Prop) (w : World) (Q : Post) : Exit → Act → World → Prop := fun e a' w' => ∃ env' H' J' F', Q e env' H' ∧ StRep n J' F' env' H' a' w' ∧ Ext J F w J' F' w'

section
variable {P : Program} {n : Nat}

theorem pwp_out {p : PC} {Q : Post} {env : Env} {H : List AObj} (h : PWp P n p Q env H) {c : Code} (hc : comp P n c = some p.bare) {J : Inj} {F : Nat → Prop} {a : Act} {w : World} (hr : StRep n J F env H a w) : c.wp P (conc n J F w Q) a w := by
  unfold PWp at h
  exact h c hc J F a w hr
theorem pwp_mk {p : PC} {Q : Post} {env : Env} {H : List AObj} (h : ∀ (c : Code), comp P n c = some p.bare → ∀ (J : Inj) (F : Nat → Prop) (a : Act) (w : World), StRep n J F env H a w → c.wp P (conc n J F w Q) a w) : PWp P n p Q env H := by
  unfold PWp
  exact h

theorem pwp_mono {p : PC} {Q Q' : Post} {env : Env} {H : List AObj} (h : PWp P n p Q env H) (k : ∀ e env H, Q e env H → Q' e env H) : PWp P n p Q' env H :=
  pwp_mk fun c hc J F a w hr => wp_mono (pwp_out h hc hr) fun e a' w' ⟨env', H', J', F', q1, q2⟩ => ⟨env', H', J', F', k _ _ _ q1, q2⟩

theorem conc_later {J J' : Inj} {F F' : Nat → Prop} {w w' : World} {Q : Post} {e : Exit} {a : Act} {w'' : World} (hx : Ext J F w J' F' w') (h : conc n J' F' w' Q e a w'') : conc n J F w Q e a w'' :=
  let ⟨env', H', J'', F'', q1, q2, q3⟩ := h
  ⟨env', H', J'', F'', q1, q2, hx.trans q3⟩

theorem pwp_ghost {p : PC} {Q : Post} {env env' : Env} {H H' : List AObj} (h : St.le n env H env' H') (k : PWp P n p Q env' H') : PWp P n p Q env H :=
  pwp_mk fun c hc J F a w hr => by
    obtain ⟨J', F', h1, h2⟩ := h J F a w hr
    exact wp_mono (pwp_out k hc h1) fun e a' w' q => conc_later h2 q

theorem sameE_look {env : Env} : ∀ (env' : Env), sameE env env' → ∀ t, lookD t env' = lookD t env ∨ lookD t env' = .junk
  | [], _, t => .inr rfl
  | (k, d) :: r, h, t => by
    simp only [sameE] at h
    rw [lookD_cons]
    split
    · rename_i e; rw [e]; exact .inl h.1.symm
    · exact sameE_look r h.2 t

theorem le_env {env env' : Env} {H : List AObj} (h : sameE env env') : St.le n env H env' H := fun J F a w hr =>
  ⟨J, F, ⟨hr.defers, hr.size, fun t => by
    rcases sameE_look env' h t with e | e
    · rw [e]; exact hr.tmps t
    · rw [e]; simp only [rep], hr.ok, hr.dom⟩, Ext.refl _ _ _⟩
theorem le_trans {env env' env'' : Env} {H H' H'' : List AObj} (h : St.le n env H env' H') (k : St.le n env' H' env'' H'') : St.le n env H env'' H'' := fun J F a w hr => by
  obtain ⟨J', F', h1, h2⟩ := h J F a w hr
  obtain ⟨J'', F'', k1, k2⟩ := k J' F' a w h1
  exact ⟨J'', F'', k1, h2.trans k2⟩
theorem le_refl' {env : Env} {H : List AObj} : St.le n env H env H := fun J F a w hr => ⟨J, F, hr, Ext.refl _ _ _⟩

/-! ### From the reckoning to the machine -/

theorem comp_skip {c : Code} (h : comp P n c = some .skip) : c = .skip := by
  cases c <;> simp [comp] at h
  · rfl
  all_goals first | (obtain ⟨_, _, h⟩ := h; cases h) | (split at h <;> simp at h) | skip
theorem comp_seq {c : Code} {x y : PC} (h : comp P n c = some (.seq x y)) : ∃ a b, c = .seq a b ∧ comp P n a = some x ∧ comp P n b = some y := by
  cases c <;> simp [comp] at h
  case seq a b =>
    split at h
    · rename_i e1 e2; simp at h; obtain ⟨rfl, rfl⟩ := h; exact ⟨a, b, rfl, e1, e2⟩
    · cases h
  all_goals first | (obtain ⟨_, _, h⟩ := h; cases h) | (split at h <;> simp at h)
theorem comp_cond {c : Code} {z : Operand} {x y : PC} (h : comp P n c = some (.cond z x y)) : ∃ a b, c = .cond z a b ∧ comp P n a = some x ∧ comp P n b = some y := by
  cases c <;> simp [comp] at h
  case cond z' a b =>
    split at h
    · rename_i e1 e2; simp at h; obtain ⟨rfl, rfl, rfl⟩ := h; exact ⟨a, b, rfl, e1, e2⟩
    · cases h
  all_goals first | (obtain ⟨_, _, h⟩ := h; cases h) | (split at h <;> simp at h)
theorem comp_block {c : Code} {id : Nat} {x : PC} (h : comp P n c = some (.block id x)) : ∃ a, c = .block id a ∧ comp P n a = some x := by
  cases c <;> simp [comp] at h
  case block id' a => obtain ⟨h1, rfl⟩ := h; exact ⟨a, rfl, h1⟩
  all_goals first | (split at h <;> simp at h)
theorem comp_loop {c : Code} {x : PC} (h : comp P n c = some (.loop x)) : ∃ a, c = .loop a ∧ comp P n a = some x := by
  cases c <;> simp [comp] at h
  case loop a => exact ⟨a, rfl, h⟩
  all_goals first | (split at h <;> simp at h)
theorem comp_exit {c : Code} {id : Nat} (h : comp P n c = some (.exit id)) : c = .exit id := by
  cases c <;> simp [comp] at h
  case exit id' => rw [h]
  all_goals first | (split at h <;> simp at h)
theorem comp_ret {c : Code} (h : comp P n c = some .ret) : c = .ret := by
  cases c <;> simp [comp] at h
  · first | rfl | (split at h <;> simp at h)
  all_goals first | rfl | (split at h <;> simp at h)
theorem comp_ops {c : Code} {l : List POper} {d : Bool} (h : comp P n c = some (.ops l d)) : ∃ id ops, c = .region id ops d ∧ cRegion P n ops d = some l := by
  cases c <;> simp [comp] at h
  case region id ops d' => obtain ⟨l', h1, rfl, rfl⟩ := h; exact ⟨id, ops, rfl, h1⟩
  all_goals first | (split at h <;> simp at h)

theorem comp_bare_stop {c : PC} : (PC.stop c).bare = c.bare := rfl

theorem draw_sound {l : List POper} {Q : Post} {env : Env} {H : List AObj} (h : runDraw P l env H fun env H => Q .normal env H) {id : Nat} {ops : Array Oper} (hc : cRegion P n ops true = some l) {J : Inj} {F : Nat → Prop} {a : Act} {w : World} (hr : StRep n J F env H a w) :
    (Code.region id ops true).wp P (conc n J F w Q) a w := drawn_sound h hc hr fun env' H' J' F' a' w' q1 q2 q3 => ⟨env', H', J', F', q1, q2, q3⟩

theorem pw_sound : ∀ (p : PC) (Q : Post) (env : Env) (H : List AObj), pw P n p Q env H → PWp P n p Q env H
  | .skip, Q, env, H, h => pwp_mk fun c hc J F a w hr => by
    rw [comp_skip hc]
    exact wp_skip ⟨env, H, J, F, h, hr, Ext.refl _ _ _⟩
  | .ops l d, Q, env, H, h => pwp_mk fun c hc J F a w hr => by
    obtain ⟨id, ops, rfl, h1⟩ := comp_ops hc
    cases d with
    | false =>
      refine wp_region ?_
      rw [List.range_eq_range']
      have := runOps_sound (P := P) (ops := ops) (Q := conc n J F w Q) ops.toList 0 [] l (fun j => by simp) h1 env H J F a w h hr fun env' H' J' F' a' w' q1 q2 q3 => ⟨env', H', J', F', q1, q2, q3⟩
      simpa using this
    | true => exact draw_sound h h1 hr
  | .seq x y, Q, env, H, h => pwp_mk fun c hc J F a w hr => by
    obtain ⟨a', b', rfl, h1, h2⟩ := comp_seq hc
    refine wp_seq (wp_mono (pwp_out (pw_sound x _ env H h) h1 hr) fun e a1 w1 ⟨env', H', J', F', q1, q2, q3⟩ => ?_)
    cases e with
    | normal => exact wp_mono (pwp_out (pw_sound y Q env' H' q1) h2 q2) fun e a2 w2 q => conc_later q3 q
    | _ => exact ⟨env', H', J', F', q1, q2, q3⟩
  | .cond z x y, Q, env, H, h => pwp_mk fun c hc J F a w hr => by
    obtain ⟨a', b', rfl, h1, h2⟩ := comp_cond hc
    simp only [pw, evK_eq] at h
    split at h
    · rename_i t e
      have hz := hr.eval z
      rw [e] at hz
      simp only [rep] at hz
      obtain ⟨k1, k2⟩ := ifK_iff.1 h
      refine wp_cond hz ?_
      cases t with
      | true => exact pwp_out (pw_sound x Q env H (k1 rfl)) h1 hr
      | false => exact pwp_out (pw_sound y Q env H (k2 rfl)) h2 hr
    · exact h.elim
  | .block id x, Q, env, H, h => pwp_mk fun c hc J F a w hr => by
    obtain ⟨a', rfl, h1⟩ := comp_block hc
    refine wp_block (wp_mono (pwp_out (pw_sound x _ env H h) h1 hr) fun e a1 w1 ⟨env', H', J', F', q1, q2, q3⟩ => ?_)
    cases e with
    | exit id' =>
      simp only [Exit.inBlock]
      by_cases e : id' = id
      · subst e
        rw [if_pos rfl]
        have hb : Nat.beq id' id' = true := by simp
        simp only [hb] at q1
        exact ⟨env', H', J', F', q1, q2, q3⟩
      · rw [if_neg e]
        have hb : Nat.beq id' id = false := by
          cases h : Nat.beq id' id
          · rfl
          · exact absurd (Nat.eq_of_beq_eq_true h) e
        simp only [hb] at q1
        exact ⟨env', H', J', F', q1, q2, q3⟩
    | _ => exact ⟨env', H', J', F', q1, q2, q3⟩
  | .loop x, Q, env, H, h => h
  | .exit id, Q, env, H, h => pwp_mk fun c hc J F a w hr => by
    rw [comp_exit hc]
    exact wp_exit ⟨env, H, J, F, h, hr, Ext.refl _ _ _⟩
  | .ret, Q, env, H, h => pwp_mk fun c hc J F a w hr => by
    rw [comp_ret hc]
    exact wp_ret ⟨env, H, J, F, h, hr, Ext.refl _ _ _⟩
  | .stop x, Q, env, H, h => pwp_mk fun c hc J F a w hr => pwp_out h hc hr

theorem pwp_loop {p : PC} {Q : Post} {env : Env} {H : List AObj} {ι : Type} (E : ι → Env) (O : ι → List AObj) (G : ι → Prop) (m : ι → Nat) (i : ι) (h0 : G i) (h1 : St.le n env H (E i) (O i))
    (round : ∀ j, G j → PWp P n p (loopQ n Q E O G m (m j)) (E j) (O j)) : PWp P n (.loop p) Q env H := pwp_mk fun c hc J F a w hr => by
  obtain ⟨c', rfl, hc'⟩ := comp_loop hc
  obtain ⟨J0, F0, k1, k2⟩ := h1 J F a w hr
  refine wp_loop_ghost (fun k a' w' => ∃ j J' F', G j ∧ m j = k ∧ StRep n J' F' (E j) (O j) a' w' ∧ Ext J F w J' F' w') (m i) ⟨i, J0, F0, h0, rfl, k1, k2⟩ fun k a1 w1 ⟨j, J1, F1, g1, g2, g3, g4⟩ => ?_
  refine wp_mono (pwp_out (round j g1) hc' g3) fun e a2 w2 ⟨env', H', J', F', q1, q2, q3⟩ => ?_
  cases e with
  | normal =>
    obtain ⟨j', r1, r2, r3⟩ := q1
    obtain ⟨J2, F2, t1, t2⟩ := r3 J' F' a2 w2 q2
    exact ⟨m j', by omega, j', J2, F2, r1, rfl, t1, (g4.trans q3).trans t2⟩
  | _ => exact ⟨env', H', J', F', q1, q2, g4.trans q3⟩

/-! ### Calls -/

theorem params_look : ∀ (args : List D) (k t : Nat), lookD t (params k args) = if k ≤ t then (args[t - k]?).getD .junk else .junk
  | [], k, t => by simp [params, lookD]
  | d :: r, k, t => by
    simp only [params]
    rw [lookD_cons, params_look r (k + 1) t]
    by_cases h1 : t = k
    · subst h1; simp
    · rw [if_neg h1]
      by_cases h2 : k + 1 ≤ t
      · rw [if_pos h2, if_pos (by omega), show t - k = t - (k + 1) + 1 by omega, List.getElem?_cons_succ]
      · rw [if_neg h2, if_neg (by omega)]

section
variable {J J' : Inj} {F : Nat → Prop} {w : World}
mutual
theorem pure_rep : ∀ (d : D) (v : Value), Pure d → rep J F w d v → rep J' F w d v
  | .junk, v, _, _ => by simp only [rep]
  | .sc u, v, _, h => by simpa only [rep] using h
  | .loc .., v, hp, _ => by simp only [Pure] at hp
  | .elt .., v, hp, _ => by simp only [Pure] at hp
  | .own .., v, hp, _ => by simp only [Pure] at hp
  | .ipt cs, v, hp, h => by
    simp only [Pure] at hp
    simp only [rep] at h ⊢
    obtain ⟨b, o, h1, h2, h3⟩ := h
    exact ⟨b, o, h1, h2, pure_cells b cs o hp h3⟩
  | .lst esz xs, v, hp, h => by
    simp only [Pure] at hp
    simp only [rep] at h ⊢
    obtain ⟨A, n, c, h1, h2, hc, h3⟩ := h
    exact ⟨A, n, c, h1, h2, hc, h3.imp_right fun ⟨b, o, h4, h5, h6⟩ => ⟨b, o, h4, h5, pure_rows b esz xs o hp h6⟩⟩
  | .fn f a b, v, hp, h => by
    simp only [Pure] at hp
    simp only [rep] at h ⊢
    obtain ⟨vs, us, h1, h2, h3⟩ := h
    exact ⟨vs, us, h1, pure_repL a vs hp.1 h2, pure_repL b us hp.2 h3⟩
  | .ifc t d, v, hp, h => by
    simp only [Pure] at hp
    simp only [rep] at h ⊢
    obtain ⟨u, h1, h2⟩ := h
    exact ⟨u, h1, pure_rep d u hp h2⟩
  | .agg cs, v, hp, h => by
    simp only [Pure] at hp
    simp only [rep] at h ⊢
    obtain ⟨vs, h1, h2⟩ := h
    exact ⟨vs, h1, pure_repL cs vs hp h2⟩
  | .tup cs, v, hp, h => by
    simp only [Pure] at hp
    simp only [rep] at h ⊢
    obtain ⟨vs, h1, h2⟩ := h
    exact ⟨vs, h1, pure_repL cs vs hp h2⟩
theorem pure_repL : ∀ (d : List D) (v : List Value), PureL d → repL J F w d v → repL J' F w d v
  | [], v, _, h => by simpa only [repL] using h
  | d :: r, v, hp, h => by
    simp only [PureL] at hp
    simp only [repL] at h ⊢
    obtain ⟨u, us, h1, h2, h3⟩ := h
    exact ⟨u, us, h1, pure_rep d u hp.1 h2, pure_repL r us hp.2 h3⟩
theorem pure_cells (b : Nat) : ∀ (d : List D) (o : Nat), PureL d → repCells J F w b d o → repCells J' F w b d o
  | [], o, _, h => by simp only [repCells]
  | d :: r, o, hp, h => by
    simp only [PureL] at hp
    simp only [repCells] at h ⊢
    obtain ⟨⟨u, h1, h2, h3⟩, h4⟩ := h
    exact ⟨⟨u, h1, h2, pure_rep d u hp.1 h3⟩, pure_cells b r (o + 1) hp.2 h4⟩
theorem pure_rows (b esz : Nat) : ∀ (d : List (List D)) (o : Nat), PureLL d → repRows J F w b esz d o → repRows J' F w b esz d o
  | [], o, _, h => by simp only [repRows]
  | d :: r, o, hp, h => by
    simp only [PureLL] at hp
    simp only [repRows] at h ⊢
    exact ⟨h.1, pure_cells b d o hp.1 h.2.1, pure_rows b esz r (o + esz) hp.2 h.2.2⟩
end
end

/-- The results, off the temporaries. -/
def resultOf (tmps : Array Value) : ResultVar → Sem Value
  | .tmp t => pure (tmps.getD t undef)
  | .cell a t => do loadVar t (← asAddr (tmps.getD a undef))

theorem run_loadVar {t : TypeId} {a : Addr} {w : World} {v : Value} (h : (Instr.loadAt t (.pointer (some a))).run P w = .ok v w) : (loadVar t a).run P w = .ok v w := by
  simpa [Instr.loadAt, Instr.sureAddr] using h

theorem results_run {J : Inj} {F : Nat → Prop} {env : Env} {H : List AObj} {a : Act} {w : World} (hr : StRep n J F env H a w) : ∀ (l : List ResultVar) (rs : List RV) (K' : List D → Prop), crvs P l = some rs → resultsK env H rs K' →
    ∃ ds vs, K' ds ∧ (l.mapM (resultOf a.tmps)).run P w = .ok vs w ∧ repL J F w ds vs
  | [], rs, K', hc, h => by
    simp [crvs] at hc; subst hc
    exact ⟨[], [], h, by simp [pure, Sem.run], by simp only [repL]⟩
  | r :: l, rs, K', hc, h => by
    simp only [crvs] at hc
    split at hc
    · rename_i x y e1 e2
      cases hc
      have step : ∀ (d : D) (v : Value), (resultOf a.tmps r).run P w = .ok v w → rep J F w d v → resultsK env H y (fun ds => K' (d :: ds)) → ∃ ds vs, K' ds ∧ ((r :: l).mapM (resultOf a.tmps)).run P w = .ok vs w ∧ repL J F w ds vs := fun d v q1 q2 q3 => by
        obtain ⟨ds, vs, k1, k2, k3⟩ := results_run hr l y _ e2 q3
        refine ⟨d :: ds, v :: vs, k1, ?_, by simp only [repL]; exact ⟨v, vs, rfl, q2, k3⟩⟩
        rw [List.mapM_cons]
        simp only [Sem.run_bind, q1, Result.andThen_ok, k2, pure, Sem.run]
      cases r with
      | tmp t =>
        simp [crv] at e1; subst e1
        simp only [resultsK, lookK_eq] at h
        exact step _ _ (by simp [resultOf, pure, Sem.run]) (hr.tmps t) h
      | cell t ty =>
        simp only [crv] at e1
        have ptr : ∀ id off m cs, lookD t env = .loc id off → H[id]? = some (.row m cs) → ∃ b o, a.tmps.getD t undef = .pointer (some ⟨b, o, none⟩) ∧ repCells J F w b (cs.drop off) o := fun id off m cs q1 q2 => by
          have q3 := hr.tmps t
          rw [q1] at q3
          exact points_loc (P := P) (env := env) q2 J F w _ _ hr.ok (fun _ _ => rfl) q3
        split at e1
        · rename_i hag
          cases e1
          simp only [resultsK, lookK_eq] at h
          split at h
          · rename_i id off e3
            obtain ⟨ob, h1, h2⟩ := (hgetK_iff _ _ _).1 h
            split at h2
            · rename_i m cs
              obtain ⟨h3, h4⟩ := (dropK_iff _ _ _).1 h2
              obtain ⟨h5, h6⟩ := (takeK_iff _ _ _).1 h4
              obtain ⟨b, o, p1, p2⟩ := ptr id off m cs e3 h1
              have p3 := repCells_part p2 0 (P.cellsOf ty)
              simp only [List.drop_zero, Nat.add_zero] at p3
              obtain ⟨vs, p4, p5, _⟩ := repCells_vals _ _ p3
              have hl : vs.length = P.cellsOf ty := by rw [repL_len _ _ p4, List.length_take]; omega
              refine step _ (.agg vs.toArray) ?_ (by simp only [rep]; exact ⟨vs, rfl, p4⟩) h6
              simp only [resultOf, p1, asAddr, pure, Sem.run_bind, Sem.run, Result.andThen_ok]
              exact run_loadVar (run_load_agg hag hl p5)
            · exact h2.elim
          · exact h.elim
        · rename_i hag
          cases e1
          simp only [resultsK, lookK_eq] at h
          split at h
          · rename_i id off e3
            obtain ⟨ob, h1, h2⟩ := (hgetK_iff _ _ _).1 h
            split at h2
            · rename_i m cs
              obtain ⟨c, h3, h4⟩ := (atK_iff _ _ _).1 h2
              obtain ⟨b, o, p1, p2⟩ := ptr id off m cs e3 h1
              obtain ⟨u, p3, _, p4⟩ := repCells_get _ o 0 c (by rw [List.getElem?_drop]; exact h3) p2
              refine step _ u ?_ p4 h4
              simp only [resultOf, p1, asAddr, pure, Sem.run_bind, Sem.run, Result.andThen_ok]
              exact run_loadVar (run_load_one hag (by simpa using p3))
            · exact h2.elim
          · exact h.elim
        · cases e1
    · cases hc

theorem results_all {fn : Func} {rs : List RV} (hrs : crvs P fn.results.toList = some rs) {J : Inj} {F : Nat → Prop} {env : Env} {H : List AObj} {a : Act} {w : World} (hr : StRep n J F env H a w) {R : D → List AObj → Prop} {e : Exit} (he : e = .normal ∨ e = .ret) (h : retK rs R e env H) :
    ∃ d v, R d H ∧ (results fn a.tmps).run P w = .ok v w ∧ rep J F w d v := by
  have h' : resultsK env H rs (fun ds => match ds with
    | [d] => R d H
    | ds => R (.tup ds) H) := by rcases he with rfl | rfl <;> exact h
  obtain ⟨ds, vs, k1, k2, k3⟩ := results_run hr fn.results.toList rs _ hrs h'
  have run : (results fn a.tmps).run P w = .ok (if h : vs.length = 1 then vs[0] else .tuple vs.toArray) w := by
    have e1 : (fn.results.mapM (resultOf a.tmps)).run P w = .ok vs.toArray w := by
      rw [Array.mapM_eq_mapM_toList]
      simp [k2]
    have e3 : results fn a.tmps = fn.results.mapM (resultOf a.tmps) >>= fun vs => pure (if h : vs.size = 1 then vs[0] else .tuple vs) := by
      unfold results
      congr 1
    rw [e3, Sem.run_bind, e1]
    simp [pure, Sem.run]
  have hl := repL_len _ _ k3
  match ds, k1, k3, hl with
  | [d], k1, k3, hl =>
    simp only [repL] at k3
    obtain ⟨v, us, rfl, q1, rfl⟩ := k3
    exact ⟨d, v, k1, by rw [run]; simp, q1⟩
  | [], k1, k3, hl =>
    refine ⟨.tup [], _, k1, run, ?_⟩
    have : vs = [] := List.length_eq_zero_iff.1 hl
    subst this
    simp only [rep]
    exact ⟨[], by simp, k3⟩
  | d :: d' :: r, k1, k3, hl =>
    refine ⟨.tup (d :: d' :: r), _, k1, run, ?_⟩
    simp only [List.length_cons] at hl
    rw [dif_neg (by omega)]
    simp only [rep]
    exact ⟨vs, rfl, k3⟩

/-- The temporaries at a call's entry. -/
theorem entry_rep {J : Inj} {F : Nat → Prop} {w : World} {args : List D} {vs : List Value} {H : List AObj} (hn : args.length ≤ n) (h : repL J F w args vs) (hok : StOK J F w (fun i => H[i]?)) (hd : ∀ id, J id ≠ none → id < H.length) :
    StRep n J F (params 0 args) H ⟨vs.toArray ++ Array.replicate (n - vs.toArray.size) undef, []⟩ w where
  defers := rfl
  size := by simp [repL_len _ _ h]; omega
  tmps t := by
    rw [params_look]
    simp only [Nat.zero_le, if_true, Nat.sub_zero]
    have hl := repL_len _ _ h
    cases e : args[t]? with
    | none => simp only [Option.getD_none, rep]
    | some d =>
      obtain ⟨v, h1, h2⟩ := repL_get _ _ _ _ e h
      have ht : t < vs.length := by
        rcases Nat.lt_or_ge t vs.length with h | h
        · exact h
        · rw [List.getElem?_eq_none h] at h1; cases h1
      simp only [Option.getD_some, Array.getD_eq_getD_getElem?]
      rw [Array.getElem?_append_left (by simpa using ht)]
      simp [h1, h2]
  ok := hok
  dom := hd

theorem funOK_ok {f : FuncId} {rs : List RV} {p : PC} (hf : FunOK P f n rs p) : okFun P f := by
  obtain ⟨fn, h1, _, h3, _, h5⟩ := hf.out
  refine ⟨fn, h1, h3, ?_⟩
  cases e : fn.body with
  | none => rw [e] at h5; cases h5
  | some c => rfl

theorem stOK_none {F : Nat → Prop} {w : World} (h : ∀ b, F b → b < w.heap.size) (G : Nat → Option AObj) : StOK noInj F w G := ⟨(fun _ _ h => by cases h), (fun _ _ _ _ _ h => by cases h), (fun _ _ _ _ h => by cases h), h⟩

/-- A function over data alone. -/
theorem pcall_intro {f : FuncId} {rs : List RV} {p : PC} {args : List D} {d : D} (hf : FunOK P f n rs p) (hn : args.length ≤ n) (hp : PureL args)
    (h : PWp P n p (retK rs fun r H => Deep H r d) (params 0 args) []) (hd : Pure d) : PCall P f args d := by
  refine ⟨funOK_ok hf, fun J F w vs hF hargs => ?_⟩
  obtain ⟨fn, h1, h2, h3, h4, h5⟩ := hf.out
  have hargs' : repL noInj F w args vs := pure_repL args vs hp hargs
  cases e : fn.body with
  | none => rw [e] at h5; cases h5
  | some c =>
    rw [e] at h5
    simp only [Option.bind_some] at h5
    refine calls_of_wp h1 e ?_
    rw [h2]
    refine wp_mono (pwp_out h h5 (entry_rep hn hargs' (stOK_none hF _) (fun id hid => absurd rfl hid))) fun e' a' w' ⟨env', H', J', F', q1, q2, q3⟩ => ?_
    have fin : e' = .normal ∨ e' = .ret → a'.defers = [] ∧ ∃ v, (results fn a'.tmps).run P w' = .ok v w' ∧ ∃ v' F'', Ending.returned v = Ending.returned v' ∧ (∀ b, F'' b → b < w'.heap.size) ∧ rep noInj F'' w' d v' ∧ Ext noInj F w noInj F'' w' := fun he => by
      obtain ⟨r, v, k1, k2, k3⟩ := results_all h4 q2 he q1
      refine ⟨q2.defers, v, k2, v, fun b => F' b ∨ Owns J' b, rfl, fun b hb => hb.elim (q2.ok.lt b) fun ⟨i, s, hi, hs⟩ => q2.ok.blk_lt hi hs, pure_rep d v hd (deep_sound q2.ok (fun _ _ h => h) _ _ _ k1 k3), ?_⟩
      exact ⟨q3.os, q3.tape, q3.output, q3.size, q3.block, q3.frozen, Inj.le_refl _, fun b hb => .inl (q3.grow b hb), fun b hb => absurd hb (noOwns b), fun b hb => by
        rcases hb with hb | hb
        · exact q3.growBack b hb
        · exact .inr ((q3.ownsBack b hb).imp_left fun q => absurd q (noOwns b))⟩
    cases e' with
    | normal => exact fin (.inl rfl)
    | ret => exact fin (.inr rfl)
    | exit id => exact q1.elim
    | goto l => exact q1.elim
    | panic ch => exact q1.elim
    | outgrown => exact q1.elim
end
end Go.Proofs.Ytkkfiadefekbbaa
