/-
  What an operation's reckoning says is what the machine does: structs built, nil; all operations. No statement is proved here.
-/
import Derived.Test.YtkkfiadefekbbaaDs7
import Derived.Laws.Tables
namespace Go.Proofs.Ytkkfiadefekbbaa
open Go.RowKit
set_option linter.unusedSimpArgs false
set_option linter.unusedVariables false

section
variable {P : Program} {seq : Bool} {o : Oper} {env : Env} {H : List AObj} {K : Cont}

theorem run_equal_step {t : TypeId} {u v : Value} {w : World} {b : Bool} (h : (Op.equalIn (9999 + 1) t u v).run P w = .ok b w) : (Op.equal t u v).run P w = .ok b w := h

theorem nil_cases {t : TypeId} {y : Operand} {kind : Nat} (h : nilKind P t y = some kind) :
    (kind = 0 ∧ (∃ e, P.underlying t = some (.pointer e)) ∧ y = .const (.pointer none)) ∨ (kind = 1 ∧ (∃ e, P.underlying t = some (.interface e)) ∧ y = .const .nilIface) ∨
    (kind = 2 ∧ (∃ a b c, P.underlying t = some (.func a b c)) ∧ y = .const .nilFunc) ∨ (kind = 3 ∧ (∃ e, P.underlying t = some (.slice e)) ∧ y = .const (.slice none 0 0)) := by
  unfold nilKind at h
  split at h
  all_goals (first | cases h | skip)
  · rename_i h1; exact .inl ⟨rfl, ⟨_, h1⟩, rfl⟩
  · rename_i h1; exact .inr (.inl ⟨rfl, ⟨_, h1⟩, rfl⟩)
  · rename_i h1; exact .inr (.inr (.inl ⟨rfl, ⟨_, _, _, h1⟩, rfl⟩))
  · rename_i h1; exact .inr (.inr (.inr ⟨rfl, ⟨_, h1⟩, rfl⟩))

def a_eval : Operand → Option Value
  | .const v => some v
  | _ => none

theorem s_isnil {neq : Bool} {op : BinOp} {t yt : TypeId} {x y : Operand} {kind : Nat} (hop : op = if neq then .neq else .eql) (hk : nilKind P t y = some kind) (ho : o.op = .binOp op t x y yt) (h : step P seq (.isnil kind neq x) env H K) : Sound P o env H K := by
  simp only [step, evK_eq] at h
  have fin : ∀ (b : Bool) (v : Value), a_eval y = some v → K (.sc (.bool (if neq then !b else b))) H [] [] → (∀ (J : Inj) (F : Nat → Prop) (w : World) (u : Value), rep J F w (evalD env x) u → (∀ z w, (Op.equal t u v).run P w = .ok b w ∧ (eqGuard op t x y u v).run P w = .ok z w ∧ z = ()) ∧ (∀ k n, u ≠ .int k n) ∧ (∀ s, u ≠ .string s) ∧ (∀ k n, u ≠ .float k n) ∧ (∀ k n m, u ≠ .complex k n m)) → Sound P o env H K := by
    intro b v hv hK hall
    refine sound_value hK fun J F w a G _ hops _ => ⟨.bool (if neq then !b else b), ?_, by simp only [rep]⟩
    obtain ⟨h1, h4, h5, h6, h7⟩ := hall J F w _ (hops x (by simp [ho, Op.operands]))
    obtain ⟨h1, h2, _⟩ := h1 () w
    have hy : a.eval y = v := by
      cases y <;> simp [a_eval] at hv
      subst hv; rfl
    have hb : (binOp op t (a.eval x) v).run P w = .ok (.bool (if neq then !b else b)) w := by
      revert h1 h4 h5 h6 h7
      generalize a.eval x = u
      intro q1 q2 q3 q4 q5
      subst hop
      cases neq <;> cases u <;> simp_all [binOp, pure, Sem.run]
    simp only [execOp, ho, hy, Sem.run_bind, h2, Result.andThen_ok, hb, pure, Sem.run]
  have g1 : ∀ (A : Option Addr) (w : World), (eqGuard op t x y (.pointer A) (.pointer none)).run P w = .ok () w := by
    intro A w; subst hop; cases neq <;> simp [eqGuard, pure, Sem.run]
  have g2 : ∀ (c : Value) (w : World), y = .const c → (eqGuard op t x y .nilIface .nilIface).run P w = .ok () w := by
    intro c w hc; subst hop; subst hc; cases neq <;> simp [eqGuard, pure, Sem.run]
  have g3 : ∀ (d : TypeId) (v : Value) (w : World), (eqGuard op t x y (.iface d v) .nilIface).run P w = .ok () w := by
    intro d v w; subst hop; cases neq <;> simp [eqGuard, pure, Sem.run]
  have g4 : ∀ (w : World), (eqGuard op t x y .nilFunc .nilFunc).run P w = .ok () w := by
    intro w; subst hop; cases neq <;> simp [eqGuard, pure, Sem.run]
  have g5 : ∀ (f : Fn) (a b : Array Value) (w : World), (eqGuard op t x y (.func f a b) .nilFunc).run P w = .ok () w := by
    intro f a b w; subst hop; cases neq <;> simp [eqGuard, pure, Sem.run]
  have g6 : ∀ (w : World), (eqGuard op t x y (.slice none 0 0) (.slice none 0 0)).run P w = .ok () w := by
    intro w; subst hop; cases neq <;> simp [eqGuard, pure, Sem.run]
  rcases nil_cases hk with ⟨rfl, ⟨e, ht⟩, rfl⟩ | ⟨rfl, ⟨e, ht⟩, rfl⟩ | ⟨rfl, ⟨e1, e2, e3, ht⟩, rfl⟩ | ⟨rfl, ⟨e, ht⟩, rfl⟩
  · have eq1 : ∀ (A : Option Addr) (w : World), (Op.equal t (.pointer A) (.pointer none)).run P w = .ok A.isNone w := fun A w => by
      refine run_equal_step ?_
      unfold Op.equalIn
      cases A <;> simp [underlying, program, Sem.run, ht, pure]
    simp only [isnilK] at h
    split at h
    · rename_i ex
      refine fin true _ rfl (by cases neq <;> exact h) fun J F w u hu => ?_
      rw [ex] at hu; simp only [rep] at hu; subst hu
      exact ⟨fun _ w => ⟨eq1 none w, g1 none w, rfl⟩, by simp, by simp, by simp, by simp⟩
    · rename_i ex
      refine fin false _ rfl (by cases neq <;> exact h) fun J F w u hu => ?_
      rw [ex] at hu; simp only [rep] at hu; obtain ⟨_, _, _, _, _, rfl⟩ := hu
      exact ⟨fun _ w => ⟨eq1 (some _) w, g1 (some _) w, rfl⟩, by simp, by simp, by simp, by simp⟩
    · rename_i ex
      refine fin false _ rfl (by cases neq <;> exact h) fun J F w u hu => ?_
      rw [ex] at hu; simp only [rep] at hu; obtain ⟨_, _, rfl, _⟩ := hu
      exact ⟨fun _ w => ⟨eq1 (some _) w, g1 (some _) w, rfl⟩, by simp, by simp, by simp, by simp⟩
    · rename_i ex
      refine fin false _ rfl (by cases neq <;> exact h) fun J F w u hu => ?_
      rw [ex] at hu; simp only [rep] at hu; obtain ⟨_, _, _, rfl, _⟩ := hu
      exact ⟨fun _ w => ⟨eq1 (some _) w, g1 (some _) w, rfl⟩, by simp, by simp, by simp, by simp⟩
    · exact h.elim
  · have eq1 : ∀ (w : World), (Op.equal t .nilIface .nilIface).run P w = .ok true w := fun w => by
      refine run_equal_step ?_
      unfold Op.equalIn
      simp [underlying, program, Sem.run, ht, pure]
    have eq2 : ∀ (d : TypeId) (v : Value) (w : World), (Op.equal t (.iface d v) .nilIface).run P w = .ok false w := fun d v w => by
      refine run_equal_step ?_
      unfold Op.equalIn
      simp [underlying, program, Sem.run, ht, pure]
    simp only [isnilK] at h
    split at h
    · rename_i ex
      refine fin true _ rfl (by cases neq <;> exact h) fun J F w u hu => ?_
      rw [ex] at hu; simp only [rep] at hu; subst hu
      exact ⟨fun _ w => ⟨eq1 w, g2 _ w rfl, rfl⟩, by simp, by simp, by simp, by simp⟩
    · rename_i ex
      refine fin false _ rfl (by cases neq <;> exact h) fun J F w u hu => ?_
      rw [ex] at hu; simp only [rep] at hu; obtain ⟨_, rfl, _⟩ := hu
      exact ⟨fun _ w => ⟨eq2 _ _ w, g3 _ _ w, rfl⟩, by simp, by simp, by simp, by simp⟩
    · exact h.elim
  · have eq1 : ∀ (w : World), (Op.equal t .nilFunc .nilFunc).run P w = .ok true w := fun w => by
      refine run_equal_step ?_
      unfold Op.equalIn
      simp [underlying, program, Sem.run, ht, pure]
    have eq2 : ∀ (f : Fn) (a b : Array Value) (w : World), (Op.equal t (.func f a b) .nilFunc).run P w = .ok false w := fun f a b w => by
      refine run_equal_step ?_
      unfold Op.equalIn
      simp [underlying, program, Sem.run, ht, pure]
    simp only [isnilK] at h
    split at h
    · rename_i ex
      refine fin true _ rfl (by cases neq <;> exact h) fun J F w u hu => ?_
      rw [ex] at hu; simp only [rep] at hu; subst hu
      exact ⟨fun _ w => ⟨eq1 w, g4 w, rfl⟩, by simp, by simp, by simp, by simp⟩
    · rename_i ex
      refine fin false _ rfl (by cases neq <;> exact h) fun J F w u hu => ?_
      rw [ex] at hu; simp only [rep] at hu; obtain ⟨_, _, rfl, _⟩ := hu
      exact ⟨fun _ w => ⟨eq2 _ _ _ w, g5 _ _ _ w, rfl⟩, by simp, by simp, by simp, by simp⟩
    · exact h.elim
  · have eq1 : ∀ (w : World), (Op.equal t (.slice none 0 0) (.slice none 0 0)).run P w = .ok true w := fun w => by
      refine run_equal_step ?_
      unfold Op.equalIn
      simp [underlying, program, Sem.run, ht, pure]
    simp only [isnilK] at h
    split at h
    · rename_i ex
      refine fin true _ rfl (by cases neq <;> exact h) fun J F w u hu => ?_
      rw [ex] at hu; simp only [rep] at hu; subst hu
      exact ⟨fun _ w => ⟨eq1 w, g6 w, rfl⟩, by simp, by simp, by simp, by simp⟩
    · exact h.elim

theorem fill_parts (place : Nat → Option (Nat × Nat)) : ∀ (l : List (Nat × Operand)) (l' : List (Nat × Nat × Operand)) (cs : List D) (K' : List D → Prop), placeParts place l = some l' → partsK env l' cs K' → ∃ cs', K' cs' ∧
    ∀ (J : Inj) (F : Nat → Prop) (w : World) (a : Act) (cells : Array Value), (∀ p ∈ l, rep J F w (evalD env p.2) (a.eval p.2)) → repL J F w cs cells.toList →
      ∃ cells', Instr.fill place cells (l.map fun p => (p.1, a.eval p.2)) = some cells' ∧ repL J F w cs' cells'.toList
  | [], l', cs, K', hl, h => by
    simp [placeParts] at hl; subst hl
    exact ⟨cs, h, fun J F w a cells _ hr => ⟨cells, rfl, hr⟩⟩
  | (i, x) :: r, l', cs, K', hl, h => by
    simp only [placeParts] at hl
    split at hl
    · rename_i off n rl e1 e2
      cases hl
      simp only [partsK, evK_eq, cellsK_iff, sameK_iff] at h
      obtain ⟨h1, h2, h3⟩ := h
      obtain ⟨h4, h5⟩ := (putK_iff _ _ _ _).1 h3
      obtain ⟨cs', h6, h7⟩ := fill_parts place r rl _ K' e2 h5
      refine ⟨cs', h6, fun J F w a cells hops hr => ?_⟩
      obtain ⟨k1, _⟩ := cells_rep h1 (hops (i, x) (by simp))
      have hl1 := repL_len _ _ k1
      have hl2 := repL_len _ _ hr
      have hsz : (a.eval x).cells.size = n := by rw [h2, ← hl1]; simp
      obtain ⟨c1, f1, f2, f3⟩ := fill_cons place cells i (a.eval x) (r.map fun p => (p.1, a.eval p.2)) off (by rw [hsz]; exact e1) (by rw [hsz]; simp at hl2; omega)
      have hc1 : repL J F w (cs.take off ++ (evalD env x).cells ++ cs.drop (off + (evalD env x).cells.length)) c1.toList := by
        have ec : c1.toList = cells.toList.take off ++ (a.eval x).cells.toList ++ cells.toList.drop (off + (a.eval x).cells.toList.length) := by
          apply List.ext_getElem?
          intro j
          have hsc : off + (a.eval x).cells.size ≤ cells.toList.length := by rw [hsz, hl2]; omega
          rw [Array.getElem?_toList, f3]
          by_cases q1 : j < off
          · rw [if_neg (by omega), List.append_assoc, List.getElem?_append_left (by simp at hsc ⊢; omega), List.getElem?_take, if_pos q1]; simp
          · by_cases q2 : j < off + (a.eval x).cells.size
            · rw [if_pos (by omega), List.append_assoc, List.getElem?_append_right (by simp at hsc ⊢; omega), List.getElem?_append_left (by simp at hsc ⊢; omega)]
              simp at hsc ⊢
              rw [show j - min off cells.size = j - off by omega]
            · rw [if_neg (by omega), List.getElem?_append_right (by simp at hsc ⊢; omega), List.getElem?_drop]
              simp at hsc ⊢
              rw [show off + (a.eval x).cells.size + (j - (min off cells.size + (a.eval x).cells.size)) = j by omega]
        rw [ec]
        have e3 : (a.eval x).cells.toList.length = (evalD env x).cells.length := hl1
        rw [e3]
        exact repL_append (repL_append (repL_take hr _) k1) (repL_drop hr _)
      obtain ⟨c2, g1, g2⟩ := h7 J F w a c1 (fun p hp => hops p (by simp [hp])) hc1
      exact ⟨c2, by simp only [List.map_cons]; rw [f1]; exact g1, g2⟩
    · cases hl

theorem s_build_of {t : TypeId} {parts : Array (Nat × Operand)} {z : Value} {place : Nat → Option (Nat × Nat)} {l' : List (Nat × Nat × Operand)} (hz : (P.info? t).bind (·.zero) = some z) (hb : ∀ l cells, Instr.fill place z.cells l = some cells → P.built t l = some cells) (hl : placeParts place parts.toList = some l')
    (ho : o.op = .build t parts) (h : step P seq (.build z.cells.toList l') env H K) : Sound P o env H K := by
  simp only [step, scK_eq] at h
  obtain ⟨cs', h1, h2⟩ := fill_parts place parts.toList l' _ _ hl h
  refine sound_value h1 fun J F w a G hok hops hrd => ?_
  obtain ⟨c', h3, h4⟩ := h2 J F w a z.cells (fun p hp => hops p.2 (by
    simp only [ho, Op.operands, List.mem_toArray, List.mem_map]
    exact ⟨p, hp, rfl⟩)) (repL_sc z.cells.toList)
  refine ⟨.agg c', ?_, by simp only [rep]; exact ⟨c'.toList, by simp, h4⟩⟩
  have e1 : (parts.map fun (i, x) => (i, a.eval x)).toList = parts.toList.map fun p => (p.1, a.eval p.2) := by rw [Array.toList_map]
  have := run_build (P := P) w t (parts.map fun (i, x) => (i, a.eval x)) c' (by rw [e1]; exact hb _ _ h3)
  simp only [execOp, ho, Sem.run_bind, this, Result.andThen_ok, pure, Sem.run]

end
end Go.Proofs.Ytkkfiadefekbbaa
