/-
  Code over deep values: regions, loops, calls, what may be forgotten between two steps. No statement is proved here.
-/
import Derived.Laws.Tables
import Derived.Orders
import Derived.Still
import Derived.Deep.LoopGhost
import Derived.LoopN
import Derived.Test.YtgkodbnomgabdaaDoorDA
namespace Go.Proofs.YtgkodbnomgabdaaDoor
/-! ### XDs8 -/
section
open Go.RowKit
set_option linter.unusedSimpArgs false
set_option linter.unusedVariables false

section
variable {P : Program} {seq : Bool} {o : Oper} {env : Env} {H : List AObj} {K : Cont}

theorem run_equal_step {t : TypeId} {u v : Value} {w : World} {b : Bool} (h : (Op.equalIn (9999 + 1) t u v).run P w = .ok b w) : (Op.equal t u v).run P w = .ok b w := h

theorem nil_cases {t : TypeId} {y : Operand} {kind : Nat} (h : nilKind P t y = some kind) :
    (kind = 0 ∧ (∃ e, P.underlying t = some (.pointer e)) ∧ y = .const (.pointer none)) ∨ (kind = 1 ∧ (∃ e, P.underlying t = some (.interface e)) ∧ y = .const .nilIface) ∨
    (kind = 2 ∧ (∃ a b c, P.underlying t = some (.func a b c)) ∧ y = .const .nilFunc) ∨ (kind = 3 ∧ (∃ e, P.underlying t = some (.slice e)) ∧ y = .const (.slice none 0 0)) := by
  unfold nilKind at h
  split at h
  all_goals (first | cases h | skip)
  · rename_i h1; exact .inl ⟨rfl, ⟨_, h1⟩, rfl⟩
  · rename_i h1; exact .inr (.inl ⟨rfl, ⟨_, h1⟩, rfl⟩)
  · rename_i h1; exact .inr (.inr (.inl ⟨rfl, ⟨_, _, _, h1⟩, rfl⟩))
  · rename_i h1; exact .inr (.inr (.inr ⟨rfl, ⟨_, h1⟩, rfl⟩))

def a_eval : Operand → Option Value
  | .const v => some v
  | _ => none

theorem s_isnil {neq : Bool} {op : BinOp} {t yt : TypeId} {x y : Operand} {kind : Nat} (hop : op = if neq then .neq else .eql) (hk : nilKind P t y = some kind) (ho : o.op = .binOp op t x y yt) (h : step P seq (.isnil kind neq x) env H K) : Sound P o env H K ∨ (seq = true ∧ SoundSeq P o env H K) := by
  simp only [step, evK_eq] at h
  have fin : ∀ (b : Bool) (v : Value), a_eval y = some v → K (.sc (.bool (if neq then !b else b))) H [] [] → (∀ (J : Inj) (F : Nat → Prop) (w : World) (u : Value), rep J F w (evalD env x) u → (∀ z w, (Op.equal t u v).run P w = .ok b w ∧ (eqGuard op t x y u v).run P w = .ok z w ∧ z = ()) ∧ (∀ k n, u ≠ .int k n) ∧ (∀ s, u ≠ .string s) ∧ (∀ k n, u ≠ .float k n) ∧ (∀ k n m, u ≠ .complex k n m)) → Sound P o env H K := by
    intro b v hv hK hall
    refine sound_value hK fun J F w a G _ hops _ => ⟨.bool (if neq then !b else b), ?_, by simp only [rep]⟩
    obtain ⟨h1, h4, h5, h6, h7⟩ := hall J F w _ (hops x (by simp [ho, Op.operands]))
    obtain ⟨h1, h2, _⟩ := h1 () w
    have hy : a.eval y = v := by
      cases y <;> simp [a_eval] at hv
      subst hv; rfl
    have hb : (binOp op t (a.eval x) v).run P w = .ok (.bool (if neq then !b else b)) w := by
      revert h1 h4 h5 h6 h7
      generalize a.eval x = u
      intro q1 q2 q3 q4 q5
      subst hop
      cases neq <;> cases u <;> simp_all [binOp, pure, Sem.run]
    simp only [execOp, ho, hy, Sem.run_bind, h2, Result.andThen_ok, hb, pure, Sem.run]
  have hold := @fin
  clear fin
  have fin := fun b v h1 h2 h3 => Or.inl (b := seq = true ∧ SoundSeq P o env H K) (hold b v h1 h2 h3)
  have g1 : ∀ (A : Option Addr) (w : World), (eqGuard op t x y (.pointer A) (.pointer none)).run P w = .ok () w := by
    intro A w; subst hop; cases neq <;> simp [eqGuard, pure, Sem.run]
  have g2 : ∀ (c : Value) (w : World), y = .const c → (eqGuard op t x y .nilIface .nilIface).run P w = .ok () w := by
    intro c w hc; subst hop; subst hc; cases neq <;> simp [eqGuard, pure, Sem.run]
  have g3 : ∀ (d : TypeId) (v : Value) (w : World), (eqGuard op t x y (.iface d v) .nilIface).run P w = .ok () w := by
    intro d v w; subst hop; cases neq <;> simp [eqGuard, pure, Sem.run]
  have g4 : ∀ (w : World), (eqGuard op t x y .nilFunc .nilFunc).run P w = .ok () w := by
    intro w; subst hop; cases neq <;> simp [eqGuard, pure, Sem.run]
  have g5 : ∀ (f : Fn) (a b : Array Value) (w : World), (eqGuard op t x y (.func f a b) .nilFunc).run P w = .ok () w := by
    intro f a b w; subst hop; cases neq <;> simp [eqGuard, pure, Sem.run]
  have g6 : ∀ (w : World), (eqGuard op t x y (.slice none 0 0) (.slice none 0 0)).run P w = .ok () w := by
    intro w; subst hop; cases neq <;> simp [eqGuard, pure, Sem.run]
  rcases nil_cases hk with ⟨rfl, ⟨e, ht⟩, rfl⟩ | ⟨rfl, ⟨e, ht⟩, rfl⟩ | ⟨rfl, ⟨e1, e2, e3, ht⟩, rfl⟩ | ⟨rfl, ⟨e, ht⟩, rfl⟩
  · have eq1 : ∀ (A : Option Addr) (w : World), (Op.equal t (.pointer A) (.pointer none)).run P w = .ok A.isNone w := fun A w => by
      refine run_equal_step ?_
      unfold Op.equalIn
      cases A <;> simp [underlying, program, Sem.run, ht, pure]
    simp only [isnilK] at h
    split at h
    · rename_i ex
      refine fin true _ rfl (by cases neq <;> exact h) fun J F w u hu => ?_
      rw [ex] at hu; simp only [rep] at hu; subst hu
      exact ⟨fun _ w => ⟨eq1 none w, g1 none w, rfl⟩, by simp, by simp, by simp, by simp⟩
    · rename_i ex
      refine fin false _ rfl (by cases neq <;> exact h) fun J F w u hu => ?_
      rw [ex] at hu; simp only [rep] at hu; obtain ⟨_, _, _, _, _, rfl⟩ := hu
      exact ⟨fun _ w => ⟨eq1 (some _) w, g1 (some _) w, rfl⟩, by simp, by simp, by simp, by simp⟩
    · rename_i ex
      refine fin false _ rfl (by cases neq <;> exact h) fun J F w u hu => ?_
      rw [ex] at hu; simp only [rep] at hu; obtain ⟨_, _, rfl, _⟩ := hu
      exact ⟨fun _ w => ⟨eq1 (some _) w, g1 (some _) w, rfl⟩, by simp, by simp, by simp, by simp⟩
    · rename_i ex
      refine fin false _ rfl (by cases neq <;> exact h) fun J F w u hu => ?_
      rw [ex] at hu; simp only [rep] at hu; obtain ⟨_, _, _, rfl, _⟩ := hu
      exact ⟨fun _ w => ⟨eq1 (some _) w, g1 (some _) w, rfl⟩, by simp, by simp, by simp, by simp⟩
    · exact h.elim
  · have eq1 : ∀ (w : World), (Op.equal t .nilIface .nilIface).run P w = .ok true w := fun w => by
      refine run_equal_step ?_
      unfold Op.equalIn
      simp [underlying, program, Sem.run, ht, pure]
    have eq2 : ∀ (d : TypeId) (v : Value) (w : World), (Op.equal t (.iface d v) .nilIface).run P w = .ok false w := fun d v w => by
      refine run_equal_step ?_
      unfold Op.equalIn
      simp [underlying, program, Sem.run, ht, pure]
    simp only [isnilK] at h
    split at h
    · rename_i ex
      refine fin true _ rfl (by cases neq <;> exact h) fun J F w u hu => ?_
      rw [ex] at hu; simp only [rep] at hu; subst hu
      exact ⟨fun _ w => ⟨eq1 w, g2 _ w rfl, rfl⟩, by simp, by simp, by simp, by simp⟩
    · rename_i ex
      refine fin false _ rfl (by cases neq <;> exact h) fun J F w u hu => ?_
      rw [ex] at hu; simp only [rep] at hu; obtain ⟨_, rfl, _⟩ := hu
      exact ⟨fun _ w => ⟨eq2 _ _ w, g3 _ _ w, rfl⟩, by simp, by simp, by simp, by simp⟩
    · exact h.elim
  · have eq1 : ∀ (w : World), (Op.equal t .nilFunc .nilFunc).run P w = .ok true w := fun w => by
      refine run_equal_step ?_
      unfold Op.equalIn
      simp [underlying, program, Sem.run, ht, pure]
    have eq2 : ∀ (f : Fn) (a b : Array Value) (w : World), (Op.equal t (.func f a b) .nilFunc).run P w = .ok false w := fun f a b w => by
      refine run_equal_step ?_
      unfold Op.equalIn
      simp [underlying, program, Sem.run, ht, pure]
    simp only [isnilK] at h
    split at h
    · rename_i ex
      refine fin true _ rfl (by cases neq <;> exact h) fun J F w u hu => ?_
      rw [ex] at hu; simp only [rep] at hu; subst hu
      exact ⟨fun _ w => ⟨eq1 w, g4 w, rfl⟩, by simp, by simp, by simp, by simp⟩
    · rename_i ex
      refine fin false _ rfl (by cases neq <;> exact h) fun J F w u hu => ?_
      rw [ex] at hu; simp only [rep] at hu; obtain ⟨_, _, rfl, _⟩ := hu
      exact ⟨fun _ w => ⟨eq2 _ _ _ w, g5 _ _ _ w, rfl⟩, by simp, by simp, by simp, by simp⟩
    · exact h.elim
  · have eq1 : ∀ (w : World), (Op.equal t (.slice none 0 0) (.slice none 0 0)).run P w = .ok true w := fun w => by
      refine run_equal_step ?_
      unfold Op.equalIn
      simp [underlying, program, Sem.run, ht, pure]
    simp only [isnilK] at h
    split at h
    · rename_i ex
      refine fin true _ rfl (by cases neq <;> exact h) fun J F w u hu => ?_
      rw [ex] at hu; simp only [rep] at hu; subst hu
      exact ⟨fun _ w => ⟨eq1 w, g6 w, rfl⟩, by simp, by simp, by simp, by simp⟩
    · rename_i esz xs ex
      obtain ⟨hs, h⟩ := h
      refine .inr ⟨hs, fun J F w a hok hdom hops K2 Q hK2 => ?_⟩
      have hu := hops x (by simp [ho, Op.operands])
      rw [ex] at hu
      simp only [rep] at hu
      obtain ⟨A, n, c, hu, hn, hc, hx⟩ := hu
      have hb : A.isNone = true → xs = [] := fun hA => by
        rcases hx with hx | ⟨b, o', rfl, _⟩
        · exact List.length_eq_zero_iff.1 (by omega)
        · cases hA
      have eq2 : (Op.equal t (.slice A n c) (.slice none 0 0)).run P w = .ok A.isNone w := by
        refine run_equal_step ?_
        unfold Op.equalIn
        cases A <;> simp [underlying, program, Sem.run, ht, pure]
      have g7 : (eqGuard op t x (.const (.slice none 0 0)) (.slice A n c) (.slice none 0 0)).run P w = .ok () w := by
        subst hop; cases neq <;> simp [eqGuard, pure, Sem.run]
      have hrun : (execOp a.eval o).run P w = .ok (.value (.bool (flipB neq A.isNone))) w := by
        have hbo : (binOp op t (.slice A n c) (.slice none 0 0)).run P w = .ok (.bool (flipB neq A.isNone)) w := by
          clear hold fin h
          subst hop
          cases neq <;> simp_all [binOp, pure, Sem.run, flipB]
        have hy : a.eval (.const (.slice none 0 0)) = .slice none 0 0 := rfl
        simp only [execOp, ho, hu, hy, Sem.run_bind, g7, Result.andThen_ok, hbo, pure, Sem.run]
      unfold Oper.wp
      rw [hrun, Oper.upon_value]
      exact hK2 _ H [] [] _ w J F (h A.isNone hb) (by simp only [rep]) hok (Ext.refl _ _ _) hdom
    · exact h.elim

theorem fill_parts (place : Nat → Option (Nat × Nat)) : ∀ (l : List (Nat × Operand)) (l' : List (Nat × Nat × Operand)) (cs : List D) (K' : List D → Prop), placeParts place l = some l' → partsK env l' cs K' → ∃ cs', K' cs' ∧
    ∀ (J : Inj) (F : Nat → Prop) (w : World) (a : Act) (cells : Array Value), (∀ p ∈ l, rep J F w (evalD env p.2) (a.eval p.2)) → repL J F w cs cells.toList →
      ∃ cells', Instr.fill place cells (l.map fun p => (p.1, a.eval p.2)) = some cells' ∧ repL J F w cs' cells'.toList
  | [], l', cs, K', hl, h => by
    simp [placeParts] at hl; subst hl
    exact ⟨cs, h, fun J F w a cells _ hr => ⟨cells, rfl, hr⟩⟩
  | (i, x) :: r, l', cs, K', hl, h => by
    simp only [placeParts] at hl
    split at hl
    · rename_i off n rl e1 e2
      cases hl
      simp only [partsK, evK_eq, cellsK_iff, sameK_iff] at h
      obtain ⟨h1, h2, h3⟩ := h
      obtain ⟨h4, h5⟩ := (putK_iff _ _ _ _).1 h3
      obtain ⟨cs', h6, h7⟩ := fill_parts place r rl _ K' e2 h5
      refine ⟨cs', h6, fun J F w a cells hops hr => ?_⟩
      obtain ⟨k1, _⟩ := cells_rep h1 (hops (i, x) (by simp))
      have hl1 := repL_len _ _ k1
      have hl2 := repL_len _ _ hr
      have hsz : (a.eval x).cells.size = n := by rw [h2, ← hl1]; simp
      obtain ⟨c1, f1, f2, f3⟩ := fill_cons place cells i (a.eval x) (r.map fun p => (p.1, a.eval p.2)) off (by rw [hsz]; exact e1) (by rw [hsz]; simp at hl2; omega)
      have hc1 : repL J F w (cs.take off ++ (evalD env x).cells ++ cs.drop (off + (evalD env x).cells.length)) c1.toList := by
        have ec : c1.toList = cells.toList.take off ++ (a.eval x).cells.toList ++ cells.toList.drop (off + (a.eval x).cells.toList.length) := by
          apply List.ext_getElem?
          intro j
          have hsc : off + (a.eval x).cells.size ≤ cells.toList.length := by rw [hsz, hl2]; omega
          rw [Array.getElem?_toList, f3]
          by_cases q1 : j < off
          · rw [if_neg (by omega), List.append_assoc, List.getElem?_append_left (by simp at hsc ⊢; omega), List.getElem?_take, if_pos q1]; simp
          · by_cases q2 : j < off + (a.eval x).cells.size
            · rw [if_pos (by omega), List.append_assoc, List.getElem?_append_right (by simp at hsc ⊢; omega), List.getElem?_append_left (by simp at hsc ⊢; omega)]
              simp at hsc ⊢
              rw [show j - min off cells.size = j - off by omega]
            · rw [if_neg (by omega), List.getElem?_append_right (by simp at hsc ⊢; omega), List.getElem?_drop]
              simp at hsc ⊢
              rw [show off + (a.eval x).cells.size + (j - (min off cells.size + (a.eval x).cells.size)) = j by omega]
        rw [ec]
        have e3 : (a.eval x).cells.toList.length = (evalD env x).cells.length := hl1
        rw [e3]
        exact repL_append (repL_append (repL_take hr _) k1) (repL_drop hr _)
      obtain ⟨c2, g1, g2⟩ := h7 J F w a c1 (fun p hp => hops p (by simp [hp])) hc1
      exact ⟨c2, by simp only [List.map_cons]; rw [f1]; exact g1, g2⟩
    · cases hl

theorem s_build_of {t : TypeId} {parts : Array (Nat × Operand)} {z : Value} {place : Nat → Option (Nat × Nat)} {l' : List (Nat × Nat × Operand)} (hz : (P.info? t).bind (·.zero) = some z) (hb : ∀ l cells, Instr.fill place z.cells l = some cells → P.built t l = some cells) (hl : placeParts place parts.toList = some l')
    (ho : o.op = .build t parts) (h : step P seq (.build z.cells.toList l') env H K) : Sound P o env H K := by
  simp only [step, scK_eq] at h
  obtain ⟨cs', h1, h2⟩ := fill_parts place parts.toList l' _ _ hl h
  refine sound_value h1 fun J F w a G hok hops hrd => ?_
  obtain ⟨c', h3, h4⟩ := h2 J F w a z.cells (fun p hp => hops p.2 (by
    simp only [ho, Op.operands, List.mem_toArray, List.mem_map]
    exact ⟨p, hp, rfl⟩)) (repL_sc z.cells.toList)
  refine ⟨.agg c', ?_, by simp only [rep]; exact ⟨c'.toList, by simp, h4⟩⟩
  have e1 : (parts.map fun (i, x) => (i, a.eval x)).toList = parts.toList.map fun p => (p.1, a.eval p.2) := by rw [Array.toList_map]
  have := run_build (P := P) w t (parts.map fun (i, x) => (i, a.eval x)) c' (by rw [e1]; exact hb _ _ h3)
  simp only [execOp, ho, Sem.run_bind, this, Result.andThen_ok, pure, Sem.run]

end
end

/-! ### XDs9 -/
section
open Go.RowKit
set_option linter.unusedSimpArgs false
set_option linter.unusedVariables false

section
variable {P : Program} {seq : Bool} {o : Oper} {env : Env} {H : List AObj} {K : Cont}
/-- Every operation. -/
theorem step_sound {p : POp} (hc : cop P o = some p) (h : step P seq p env H K) : Sound P o env H K ∨ (seq = true ∧ SoundSeq P o env H K) := by
  unfold cop at hc
  split at hc
  · rename_i x ho; cases hc; exact .inl (s_move (.inl ho) h)
  · rename_i x ho; cases hc; exact .inl (s_move (.inr ho) h)
  · rename_i c a b ho; cases hc; exact .inl (s_pick ho h)
  · rename_i t ho
    split at hc
    · rename_i z hz
      split at hc
      · rename_i hone; cases hc; exact .inl (s_alloc hz hone ho h)
      · cases hc
    · cases hc
  · rename_i t x ho; cases hc; exact .inl (s_box ho h)
  · rename_i t parts ho
    split at hc
    · rename_i z fs hz hu
      split at hc
      · rename_i places hp
        cases e : placeParts (places.toArray[·]?) parts.toList with
        | none => rw [e] at hc; cases hc
        | some l' =>
          rw [e] at hc; cases hc
          refine .inl (s_build_of hz (fun l cells hf => ?_) e ho h)
          unfold Program.built
          cases hi : P.info? t with
          | none => rw [hi] at hz; cases hz
          | some it =>
            have hz' : it.zero = some z := by simpa [hi] using hz
            simp only [hu, hz', hp]
            exact hf
      · cases hc
    · rename_i z n e hz hu
      split at hc
      · rename_i ie hie
        cases e' : placeParts (fun i => some (i * ie.size, ie.size)) parts.toList with
        | none => rw [e'] at hc; cases hc
        | some l' =>
          rw [e'] at hc; cases hc
          refine .inl (s_build_of hz (fun l cells hf => ?_) e' ho h)
          unfold Program.built
          cases hi : P.info? t with
          | none => rw [hi] at hz; cases hz
          | some it =>
            have hz' : it.zero = some z := by simpa [hi] using hz
            simp only [hu, hz', hie]
            exact hf
      · cases hc
    · cases hc
  · rename_i t n parts ho
    split at hc
    · rename_i e ht
      split at hc
      · rename_i z hz
        split at hc
        · rename_i hq
          cases e' : inOrder 0 parts.toList with
          | none =>
            rw [e'] at hc
            cases e2 : fillIn z 0 n parts.toList with
            | none => rw [e2] at hc; cases hc
            | some ys => rw [e2] at hc; cases hc; exact .inl (s_bslice ht hz hq.1 hq.2 (.inr e2) ho h)
          | some xs => rw [e'] at hc; cases hc; exact .inl (s_bslice ht hz hq.1 hq.2 (.inl e') ho h)
        · cases hc
      · cases hc
    · cases hc
  · rename_i t x ho
    split at hc
    · rename_i ht; cases hc; exact .inl (s_loadA ht ho h)
    · rename_i ht; cases hc; exact .inl (s_load1 ht ho h)
    · cases hc
  · rename_i t x y ho
    split at hc
    · cases hc
    · rename_i hz; cases hc; exact .inl (s_store hz ho h)
  · rename_i x ho; cases hc; exact .inl (s_nilchk ho h)
  · rename_i op t x y yt ho
    split at hc
    · cases hc; exact .inl (s_bin ho h)
    · split at hc
      · split at hc
        · rename_i hb
          cases hc
          refine .inl (s_eqb (op := .eql) rfl ?_ ho h)
          unfold isBoolT at hb
          split at hb
          · assumption
          · cases hb
        · split at hc
          · rename_i ks hks
            cases hc
            exact .inl (s_eqa (op := .eql) rfl hks ho h)
          · cases e : nilKind P t y with
            | none => rw [e] at hc; cases hc
            | some k => rw [e] at hc; cases hc; exact s_isnil (op := .eql) rfl e ho h
      · split at hc
        · rename_i hb
          cases hc
          refine .inl (s_eqb (op := .neq) rfl ?_ ho h)
          unfold isBoolT at hb
          split at hb
          · assumption
          · cases hb
        · split at hc
          · rename_i ks hks
            cases hc
            exact .inl (s_eqa (op := .neq) rfl hks ho h)
          · cases e : nilKind P t y with
            | none => rw [e] at hc; cases hc
            | some k => rw [e] at hc; cases hc; exact s_isnil (op := .neq) rfl e ho h
      · cases hc
  · rename_i op t x ho; cases hc; exact .inl (s_un ho h)
  · rename_i x i ho; cases hc; exact .inl (s_ext ho h)
  · rename_i s x f ho
    split at hc
    · rename_i fs hs
      split at hc
      · rename_i fd hf
        split at hc
        · cases hc
        · rename_i hz; cases hc; exact .inl (s_faddr hs hf hz ho h)
      · cases hc
    · cases hc
  · rename_i s x f ho
    split at hc
    · rename_i fs hs
      split at hc
      · rename_i fd hf
        split at hc
        · rename_i ag hag; cases hc; exact .inl (s_field hs hf hag ho h)
        · cases hc
      · cases hc
    · cases hc
  · rename_i t x i ho
    split at hc
    · rename_i e ht
      split at hc
      · cases hc
      · rename_i hz; cases hc; exact .inl (s_iaddr ht hz ho h)
    · rename_i n e ht
      split at hc
      · cases hc
      · rename_i hz; cases hc; exact .inl (s_aaddr ht hz ho h)
    · cases hc
  · rename_i t x i ho
    split at hc
    · rename_i ht; cases hc; exact .inl (s_sidx ht ho h)
    · rename_i n e ht
      split at hc
      · rename_i ag hag; cases hc; exact .inl (s_aidx ht hag ho h)
      · cases hc
    · cases hc
  · rename_i f first cap ho; cases hc; exact .inl (s_mkfn ho h)
  · rename_i t l c ho
    split at hc
    · rename_i e ht
      split at hc
      · rename_i z hz
        split at hc
        · rename_i hq; cases hc; exact .inl (s_mslice ht hz hq.1 hq.2.1 hq.2.2.1 hq.2.2.2 ho h)
        · cases hc
      · cases hc
    · cases hc
  · rename_i t x lo hi mx ho
    split at hc
    · rename_i e ht
      split at hc
      · rename_i hz; cases hc; exact .inl (s_slc ht hz ho h)
      · cases hc
    · rename_i ht
      split at hc
      · cases hc; exact .inl (s_sslc ht ho h)
      · cases hc
    · cases hc
  · rename_i args ts ho
    split at hc
    · rename_i x t ha hts
      split at hc
      · rename_i e ht; cases hc; exact .inl (s_len ha hts ht ho h)
      · rename_i ht; cases hc; exact .inl (s_slen ha hts ht ho h)
      · cases hc
    · cases hc
  · rename_i args ts ho
    split at hc
    · rename_i x y t u ha hts
      split at hc
      · rename_i e e' ht hu
        split at hc
        · rename_i z hz
          split at hc
          · rename_i hq; cases hc; exact .inl (s_append ha hts ht hu hz hq.1 hq.2.1 hq.2.2 ho h)
          · cases hc
        · cases hc
      · cases hc
    · cases hc
  · rename_i args ts ho
    split at hc
    · rename_i x t ha hts
      split at hc
      · rename_i e ht
        split at hc
        · rename_i z hz
          split at hc
          · rename_i u hu
            split at hc
            · rename_i hq; cases hc; exact .inl (s_clr ha hts ht hz hu hq ho h)
            · cases hc
          · cases hc
        · cases hc
      · cases hc
    · cases hc
  · rename_i args ts _ ho
    split at hc
    · rename_i x y ha; cases hc; exact .inl (s_max ha ho h)
    · cases hc
  · rename_i args ts _ ho
    split at hc
    · rename_i x y ha; cases hc; exact .inl (s_min ha ho h)
    · cases hc
  · rename_i f args ts ho
    split at hc
    · split at hc
      · cases hc
      · cases hc; exact s_call ho h
    · cases hc
  · rename_i x args ts _ ho; cases hc; exact s_callv ho h
  · rename_i src dst x ho
    split at hc
    · rename_i k0 k hs hd; cases hc; exact .inl (s_conv hs hd ho h)
    · cases hc
  · rename_i t ho
    split at hc
    · rename_i k e ht; cases hc; exact .inl (s_mkmap ho h)
    · cases hc
  · rename_i t m x ho
    split at hc
    · rename_i k e ht
      split at hc
      · rename_i z hz
        split at hc
        · rename_i h1; cases hc; exact .inl (s_look ht hz h1 ho h)
        · cases hc
      · cases hc
    · cases hc
  · rename_i t m x ho
    split at hc
    · rename_i k e ht; cases hc; exact .inl (s_lookv ht ho h)
    · cases hc
  · rename_i t m x v ho
    split at hc
    · rename_i k e ht; cases hc; exact .inl (s_mput ht ho h)
    · cases hc
  · rename_i t x ho
    split at hc
    · cases hc
    · rename_i d hd ht
      cases hc
      exact .inl (s_mkif (fun ms e => by rw [e] at ht; cases ht; exact hd _ rfl) (fun e => by rw [e] at ht; cases ht) ho h)
    · cases hc
  · cases hc
end
end

/-! ### XDsa -/
section
open Go.RowKit
set_option linter.unusedSimpArgs false
set_option linter.unusedVariables false

theorem lookD_cons (t k : Nat) (d : D) (env : Env) : lookD t ((k, d) :: env) = if t = k then d else lookD t env := by
  simp only [lookD]
  cases e : Nat.beq t k
  · rw [if_neg]; intro h; subst h; simp at e
  · rw [if_pos (Nat.eq_of_beq_eq_true e)]

theorem getD_set (a : Array Value) (t u : Nat) (v : Value) (ht : t < a.size) : (a.setIfInBounds t v).getD u undef = if u = t then v else a.getD u undef := by
  simp only [Array.getD_eq_getD_getElem?]
  by_cases h : u = t
  · subst h; simp [Array.getElem?_setIfInBounds, ht]
  · rw [if_neg h, Array.getElem?_setIfInBounds_ne (fun e => h e.symm)]

section
variable {P : Program} {n : Nat} {J J' : Inj} {F F' : Nat → Prop} {env : Env} {H H' : List AObj} {a : Act} {w w' : World}
/-- What stands in the temporaries, behind whatever has become of memory. -/
theorem StRep.tmps_ext (h : StRep n J F env H a w) (hx : Ext J F w J' F' w') : ∀ t, rep J' F' w' (lookD t env) (a.tmps.getD t undef) := fun t => rep_ext hx (h.tmps t)

theorem StRep.put (h : StRep n J F env H a w) (hx : Ext J F w J' F' w') {t : Nat} {d : D} {v : Value} (ht : t < n) (hv : rep J' F' w' d v) (hok : StOK J' F' w' (fun i => H'[i]?)) (hd : ∀ id, J' id ≠ none → id < H'.length) : StRep n J' F' ((t, d) :: env) H' (a.put (some t) v) w' where
  defers := h.defers
  size := by simp [Act.put, h.size]
  tmps u := by
    rw [lookD_cons]
    simp only [Act.put]
    rw [getD_set _ _ _ _ (by rw [h.size]; exact ht)]
    split
    · exact hv
    · exact h.tmps_ext hx u
  ok := hok
  dom := hd
theorem StRep.skip (h : StRep n J F env H a w) (hx : Ext J F w J' F' w') (hok : StOK J' F' w' (fun i => H'[i]?)) (hd : ∀ id, J' id ≠ none → id < H'.length) : StRep n J' F' env H' a w' where
  defers := h.defers
  size := h.size
  tmps := h.tmps_ext hx
  ok := hok
  dom := hd

theorem StRep.eval (h : StRep n J F env H a w) (x : Operand) : rep J F w (evalD env x) (a.eval x) := by
  cases x with
  | tmp t => exact h.tmps t
  | const v =>
    cases v <;> simp only [evalD, lift, Act.eval, rep]
    rename_i cs
    exact ⟨cs.toList, by simp, repL_sc cs.toList⟩
  | global g => exact rep_glob h.ok.lt g
  | func f => simp only [evalD, Act.eval, rep]; exact ⟨[], [], rfl, by simp only [repL], by simp only [repL]⟩

/-- What is asked of a region's operations as they stand in the translation. -/
theorem cOper_spec {ops : Array Oper} {mask : Nat} {o : Oper} {p : POper} (h : cOper P n ops mask o = some p) :
    cop P o = some p.op ∧ p.dst = o.dst ∧ (∀ t, o.dst = some t → t < n) ∧ ((o.guard = none ∧ p.guard = none) ∨ ∃ j b t, o.guard = some (j, b) ∧ (ops[j]?).bind (·.dst) = some t ∧ p.guard = some (t, b)) ∧
      p.mask = mask := by
  unfold cOper at h
  split at h
  · rename_i q hd hq hg
    cases h
    exact ⟨hq, rfl, fun t ht => by unfold dstOK at hd; rw [ht] at hd; simpa using hd, .inl ⟨hg, rfl⟩, rfl⟩
  · rename_i q j b hd hq hg
    split at h
    · rename_i t ht
      cases h
      exact ⟨hq, rfl, fun t ht => by unfold dstOK at hd; rw [ht] at hd; simpa using hd, .inr ⟨j, b, t, hg, ht, rfl⟩, rfl⟩
    · cases h
  · cases h

/-- A guard's value that shuts its operation out. -/
def offV (b : Bool) : Value → Bool
  | .bool c => c != b
  | .tuple _ => true
  | _ => false
theorem wanted_on {ops : Array Oper} {o : Oper} {tmps : Array Value} {j : Nat} {b : Bool} {t : Nat} (h1 : o.guard = some (j, b)) (h2 : (ops[j]?).bind (·.dst) = some t) (h : tmps.getD t undef = .bool b) : Region.wanted o (yielded ops tmps) = true := by
  have h4 : tmps[t]? = some (.bool b) := by
    rw [Array.getD_eq_getD_getElem?] at h
    cases e : tmps[t]? with
    | none => rw [e] at h; simp [undef] at h
    | some v => rw [e] at h; simp at h; rw [h]
  simp only [Region.wanted, h1, yielded, h2, Option.bind_some, h4]
  cases b <;> rfl
theorem wanted_off {ops : Array Oper} {o : Oper} {tmps : Array Value} {j : Nat} {b : Bool} {t : Nat} (h1 : o.guard = some (j, b)) (h2 : (ops[j]?).bind (·.dst) = some t) (h : offV b (tmps.getD t undef) = true) : Region.wanted o (yielded ops tmps) = false := by
  rw [Array.getD_eq_getD_getElem?] at h
  cases e : tmps[t]? with
  | none => simp only [Region.wanted, h1, yielded, h2, Option.bind_some, e]; cases b <;> rfl
  | some v =>
    rw [e] at h
    simp only [Option.getD_some] at h
    simp only [Region.wanted, h1, yielded, h2, Option.bind_some, e]
    cases v <;> simp [offV] at h ⊢
    exact h

theorem wanted_of {ops : Array Oper} {o : Oper} (h : StRep n J F env H a w) {j : Nat} {b c : Bool} {t : Nat} (h1 : o.guard = some (j, b)) (h2 : (ops[j]?).bind (·.dst) = some t) (hc : lookD t env = .sc (.bool c)) :
    Region.wanted o (yielded ops a.tmps) = (c == b) := by
  have h3 := h.tmps t
  rw [hc] at h3
  simp only [rep] at h3
  have h4 : a.tmps[t]? = some (.bool c) := by
    rw [Array.getD_eq_getD_getElem?] at h3
    cases e : a.tmps[t]? with
    | none => rw [e] at h3; simp [undef] at h3
    | some v => rw [e] at h3; simp at h3; rw [h3]
  simp only [Region.wanted, h1, yielded, h2, Option.bind_some, h4]
  cases b <;> cases c <;> rfl
end

section
variable {P : Program} {n : Nat} {ops : Array Oper} {K' : Env → List AObj → Prop} {Q : Exit → Act → World → Prop}

theorem ifK_iff {c : Bool} {A B : Prop} : ifK c A B ↔ (c = true → A) ∧ (c = false → B) := by
  cases c <;> simp [ifK]

theorem soundSeq_of {o : Oper} {p : POp} {env : Env} {H : List AObj} {K : Cont} (hc : cop P o = some p) (h : step P true p env H K) : SoundSeq P o env H K :=
  (step_sound hc h).elim sound_seq (·.2)

theorem runOps_sound : ∀ (l : List Oper) (i : Nat) (ms : List Nat) (pl : List POper), (∀ j, l[j]? = ops[i + j]?) → cOpers P n ops ms l = some pl → ∀ (env : Env) (H : List AObj) (J : Inj) (F : Nat → Prop) (a : Act) (w : World), runOps P pl env H K' → StRep n J F env H a w →
    (∀ env' H' J' F' a' w', K' env' H' → StRep n J' F' env' H' a' w' → Ext J F w J' F' w' → Q .normal a' w') → wpOps P ops Q (List.range' i l.length) a w
  | [], i, ms, pl, hl, hc, env, H, J, F, a, w, h, hr, hQ => by
    simp [cOpers] at hc; subst hc
    simp only [List.length_nil, List.range'_zero, wpOps]
    exact hQ env H J F a w h hr (Ext.refl _ _ _)
  | o :: l, i, ms, pl, hl, hc, env, H, J, F, a, w, h, hr, hQ => by
    simp only [cOpers] at hc
    split at hc
    · rename_i p pr h1 h2
      cases hc
      have ho : ops[i]? = some o := by simpa using (hl 0).symm
      have hl' : ∀ j, l[j]? = ops[i + 1 + j]? := fun j => by have := hl (j + 1); simpa [Nat.add_assoc, Nat.add_comm 1 j] using this
      obtain ⟨k1, k2, k3, k4, _⟩ := cOper_spec h1
      have go : ∀ env' H' J' F' a' w', Ext J F w J' F' w' → runOps P pr env' H' K' → StRep n J' F' env' H' a' w' → wpOps P ops Q (List.range' (i + 1) l.length) a' w' := fun env' H' J' F' a' w' hx h' hr' =>
        runOps_sound l (i + 1) ms.tail pr hl' h2 env' H' J' F' a' w' h' hr' fun env'' H'' J'' F'' a'' w'' q1 q2 q3 => hQ env'' H'' J'' F'' a'' w'' q1 q2 (hx.trans q3)
      have exec : (step P true p.op env H fun d H' _ _ => match p.dst with
          | some t => runOps P pr ((t, d) :: env) H' K'
          | none => runOps P pr env H' K') → o.wp P a w (wpOps P ops Q (List.range' (i + 1) l.length)) Q := fun hs => by
        refine soundSeq_of k1 hs J F w a hr.ok hr.dom (fun x _ => hr.eval x) _ _ fun d H2 rd wr v w' J' F' hK q1 q2 q3 q4 => ?_
        rw [k2] at hK
        cases hd : o.dst with
        | none =>
          rw [hd] at hK
          exact go env H2 J' F' _ w' q3 hK (hr.skip q3 q2 q4)
        | some t =>
          rw [hd] at hK
          exact go _ H2 J' F' _ w' q3 hK (hr.put q3 (k3 t hd) q1 q2 q4)
      have skip : (match p.dst with
          | some t => runOps P pr ((t, .sc undef) :: env) H K'
          | none => runOps P pr env H K') → wpOps P ops Q (List.range' (i + 1) l.length) (a.put o.dst undef) w := fun hs => by
        rw [k2] at hs
        cases hd : o.dst with
        | none =>
          rw [hd] at hs
          exact go env H J F _ w (Ext.refl _ _ _) hs hr
        | some t =>
          rw [hd] at hs
          exact go _ H J F _ w (Ext.refl _ _ _) hs (hr.put (Ext.refl _ _ _) (k3 t hd) (by simp only [rep]) hr.ok hr.dom)
      simp only [List.length_cons, List.range'_succ, wpOps, ho]
      simp only [runOps] at h
      rcases k4 with ⟨g1, g2⟩ | ⟨j, b, t, g1, g2, g3⟩
      · rw [g2] at h
        rw [if_pos (by simp [Region.wanted, g1])]
        exact .inl (exec h)
      · rw [g3] at h
        simp only [lookK_eq] at h
        split at h
        · rename_i c hcc
          have hw := wanted_of hr g1 g2 hcc
          cases b with
          | true =>
            obtain ⟨hA, hB⟩ := ifK_iff.1 h
            cases c with
            | true => rw [if_pos (by rw [hw]; rfl)]; exact .inl (exec (hA rfl))
            | false => rw [if_neg (by rw [hw]; simp)]; exact skip (hB rfl)
          | false =>
            obtain ⟨hA, hB⟩ := ifK_iff.1 h
            cases c with
            | true => rw [if_neg (by rw [hw]; simp)]; exact skip (hA rfl)
            | false => rw [if_pos (by rw [hw]; rfl)]; exact .inl (exec (hB rfl))
        · rename_i xs hcc
          have h3 := hr.tmps t
          rw [hcc] at h3
          simp only [rep] at h3
          rw [if_neg (by rw [wanted_off g1 g2 (by rw [h3]; rfl)]; simp)]
          exact skip h
        · exact h.elim
    · cases hc
end
end

/-! ### XDsr -/
section
open Go.RowKit
set_option linter.unusedSimpArgs false
set_option linter.unusedVariables false

/-! ### What must come ahead -/

theorem maskOf_bit {ms : List Nat} {i : Nat} : ∀ (l : List Nat), (maskOf ms l).testBit i = true → ∃ a ∈ l, a = i ∨ (ms.getD a 0).testBit i = true
  | [], h => by simp [maskOf] at h
  | a :: r, h => by
    simp only [maskOf, Nat.testBit_or, Bool.or_eq_true] at h
    rcases h with (h | h) | h
    · rw [Nat.testBit_two_pow] at h
      exact ⟨a, by simp, .inl (by simpa using h)⟩
    · exact ⟨a, by simp, .inr h⟩
    · obtain ⟨b, hb, k⟩ := maskOf_bit r h
      exact ⟨b, by simp [hb], k⟩

theorem masksOf_spec : ∀ (l : List Oper) (acc : List Nat), (∀ k, k < acc.length → (masksOf acc l).getD k 0 = acc.getD k 0) ∧ (masksOf acc l).length = acc.length + l.length ∧
    ∀ k o, l[k]? = some o → ∃ acc', (∀ a, a < acc.length + k → acc'.getD a 0 = (masksOf acc l).getD a 0) ∧ (∀ a, acc.length + k ≤ a → acc'.getD a 0 = 0) ∧ (masksOf acc l).getD (acc.length + k) 0 = maskOf acc' (afterL o)
  | [], acc => ⟨fun _ _ => rfl, by simp [masksOf], fun k o h => by simp at h⟩
  | x :: r, acc => by
    obtain ⟨h1, h2, h3⟩ := masksOf_spec r (acc ++ [maskOf acc (afterL x)])
    simp only [masksOf]
    simp only [List.length_append, List.length_singleton] at h1 h2 h3
    have hacc : ∀ k, k < acc.length → (acc ++ [maskOf acc (afterL x)]).getD k 0 = acc.getD k 0 := fun k hk => by
      simp [List.getD, List.getElem?_append_left hk]
    refine ⟨fun k hk => by rw [h1 k (by omega), hacc k hk], by rw [h2]; simp; omega, fun k o hk => ?_⟩
    cases k with
    | zero =>
      simp at hk; subst hk
      refine ⟨acc, fun a ha => by rw [h1 a (by omega), hacc a (by omega)], fun a ha => by simp [List.getD, List.getElem?_eq_none (by omega : acc.length ≤ a)], ?_⟩
      rw [Nat.add_zero, h1 _ (by omega)]
      simp [List.getD]
    | succ k =>
      obtain ⟨acc', k1, k2, k3⟩ := h3 k o (by simpa using hk)
      rw [show acc.length + 1 + k = acc.length + (k + 1) by omega] at k1 k2 k3
      exact ⟨acc', k1, k2, k3⟩

theorem apartFrom_spec {ops : Array Oper} {m : Nat} {o : Oper} : ∀ (l : List Oper) (i : Nat), apartFrom ops m o i l = true → ∀ k x, l[k]? = some x → m.testBit (i + k) = true ∨ x.apart ops o = true
  | [], i, _, k, x, h => by simp at h
  | y :: r, i, h, k, x, hk => by
    simp only [apartFrom, Bool.and_eq_true, Bool.or_eq_true] at h
    cases k with
    | zero => simp at hk; subst hk; exact h.1
    | succ k =>
      have := apartFrom_spec r (i + 1) h.2 k x (by simpa using hk)
      rwa [show i + 1 + k = i + (k + 1) by omega] at this

theorem regOK_spec {ops : Array Oper} {ms : List Nat} : ∀ (l pre : List Oper), regOK ops ms pre l = true → ∀ k o, l[k]? = some o → (∀ a ∈ afterL o, a < pre.length + k) ∧
    ∀ i x, i < pre.length + k → (pre ++ l)[i]? = some x → (ms.getD (pre.length + k) 0).testBit i = true ∨ x.apart ops o = true
  | [], pre, _, k, o, h => by simp at h
  | y :: r, pre, h, k, o, hk => by
    simp only [regOK, Bool.and_eq_true] at h
    obtain ⟨⟨h1, h2⟩, h3⟩ := h
    cases k with
    | zero =>
      simp at hk; subst hk
      refine ⟨fun a ha => by simpa using List.all_eq_true.1 h1 a ha, fun i x hi hx => ?_⟩
      rw [List.getElem?_append_left (by omega)] at hx
      have := apartFrom_spec pre 0 h2 i x hx
      simpa using this
    | succ k =>
      have := regOK_spec r (pre ++ [y]) h3 k o (by simpa using hk)
      simp only [List.length_append, List.length_singleton, List.append_assoc, List.singleton_append] at this
      rw [show pre.length + 1 + k = pre.length + (k + 1) by omega] at this
      exact this

section
variable {ops : Array Oper}
/-- Number i must have come ahead of number j. -/
def Bef (ops : Array Oper) (i j : Nat) : Prop := ((masksOf [] ops.toList).getD j 0).testBit i = true
def Closed (ops : Array Oper) (S : Nat → Bool) : Prop := ∀ j o, ops[j]? = some o → S j = true → ∀ a ∈ afterL o, S a = true

theorem bef_spec (hreg : regOK ops (masksOf [] ops.toList) [] ops.toList = true) : ∀ (j : Nat) (o : Oper), ops[j]? = some o → ∀ i, Bef ops i j → i < j ∧ ∀ S : Nat → Bool, Closed ops S → (∀ a ∈ afterL o, S a = true) → S i = true := by
  intro j
  induction j using Nat.strongRecOn with
  | _ j ih =>
    intro o ho i hb
    obtain ⟨acc, h1, h2, h3⟩ := (masksOf_spec ops.toList []).2.2 j o (by simpa using ho)
    simp only [List.length_nil, Nat.zero_add] at h1 h2 h3
    unfold Bef at hb
    rw [h3] at hb
    have hlt := (regOK_spec ops.toList [] hreg j o (by simpa using ho)).1
    simp only [List.length_nil, Nat.zero_add] at hlt
    obtain ⟨a, ha, rfl | hbit⟩ := maskOf_bit _ hb
    · exact ⟨hlt _ ha, fun S _ hS => hS _ ha⟩
    · have haj := hlt a ha
      rw [h1 a haj] at hbit
      have hj : j < ops.size := by
        rcases Nat.lt_or_ge j ops.size with h | h
        · exact h
        · rw [Array.getElem?_eq_none h] at ho; cases ho
      have hao : ops[a]? = some ops[a] := Array.getElem?_eq_getElem (by omega)
      obtain ⟨q1, q2⟩ := ih a haj _ hao i hbit
      exact ⟨by omega, fun S hC hS => q2 S hC (hC a _ hao (hS a ha))⟩
end

/-! ### The text's order -/

structure Rec where
  d : D
  rd : List Nat
  wr : List Nat
  H2 : List AObj
  lt : Option (Nat × Nat)
instance : Inhabited Rec := ⟨⟨.junk, [], [], [], none⟩⟩
def Rec.entry (r : Rec) : (List Nat × List Nat) × (Option (Nat × Nat) × D × List AObj) := ((r.rd, r.wr), (r.lt, r.d, r.H2))
/-- What it touches, a mere load of a box's cell let by. -/
def liteE (x : (List Nat × List Nat) × (Option (Nat × Nat) × D × List AObj)) : List Nat × List Nat := match x.2.1 with
  | some _ => ([], x.1.2)
  | none => x.1

section
variable {P : Program} {n : Nat} {ops : Array Oper}

/-- A mere load of a box's cell does the same wherever the cell holds the same. -/
def LightOK (P : Program) (o : Oper) (env : Env) (H : List AObj) (r : Rec) : Prop := ∀ id k, r.lt = some (id, k) → r.rd = [id] ∧ r.wr = [] ∧ r.H2 = H ∧ (∃ m cs, H[id]? = some (.row m cs) ∧ cs[k]? = some r.d) ∧
  ∀ (H' : List AObj) m' cs', H'[id]? = some (.row m' cs') → cs'[k]? = some r.d → OpS P o env [id] [] H' r.d H'
theorem light_step {o : Oper} {p : POp} (k1 : cop P o = some p) {env : Env} {H : List AObj} {K : D → List AObj → List Nat → List Nat → Prop} (h : step P false p env H K) {id k : Nat} (hl : lightOf p env = some (id, k)) :
    ∃ c, K c H [id] [] ∧ (∃ m cs, H[id]? = some (.row m cs) ∧ cs[k]? = some c) ∧ ∀ (H' : List AObj) m' cs', H'[id]? = some (.row m' cs') → cs'[k]? = some c → OpS P o env [id] [] H' c H' := by
  unfold lightOf at hl
  split at hl
  · rename_i a
    split at hl
    · rename_i id' k' e
      cases hl
      simp only [step, evK_eq] at h
      rw [e] at h
      obtain ⟨ob, h1, h2⟩ := (hgetK_iff _ _ _).1 h
      split at h2
      · rename_i m cs
        obtain ⟨c, h3, h4⟩ := (atK_iff _ _ _).1 h2
        refine ⟨c, h4, ⟨m, cs, h1, h3⟩, fun H' m' cs' g1 g2 => ?_⟩
        have hs : step P false (.load1 a) env H' fun d h rd wr => d = c ∧ h = H' ∧ rd = [id] ∧ wr = [] := by
          simp only [step, evK_eq]
          rw [e]
          exact (hgetK_iff _ _ _).2 ⟨_, g1, (atK_iff _ _ _).2 ⟨c, g2, by simp⟩⟩
        rcases step_sound k1 hs with ⟨d, H2, rd, wr, q, rfl, rfl, rfl, rfl⟩ | ⟨q, _⟩
        · exact q
        · cases q
      · exact h2.elim
    · cases hl
  · cases hl

/-- What is known of one operation at its place in the text. -/
def RecOK (P : Program) (n : Nat) (ops : Array Oper) (o : Oper) (env : Env) (H : List AObj) (r : Rec) : Prop :=
  (∀ t, o.dst = some t → t < n) ∧ (∀ cs b, o.op ≠ .select cs b) ∧ LightOK P o env H r ∧
  ((o.guard = none ∧ OpS P o env r.rd r.wr H r.d r.H2) ∨
   ∃ j b t c, o.guard = some (j, b) ∧ (ops[j]?).bind (·.dst) = some t ∧ lookD t env = .sc c ∧
     ((c = .bool b ∧ OpS P o env r.rd r.wr H r.d r.H2) ∨ (offV b c = true ∧ r = ⟨.sc undef, [], [], H, none⟩)))

def stepEnv (o : Oper) (r : Rec) (env : Env) : Env := match o.dst with
  | some t => (t, r.d) :: env
  | none => env

inductive Run (P : Program) (n : Nat) (ops : Array Oper) : List Oper → Env → List AObj → List Rec → Env → List AObj → Prop
  | nil (env : Env) (H : List AObj) : Run P n ops [] env H [] env H
  | cons (o : Oper) (l : List Oper) (env : Env) (H : List AObj) (r : Rec) (rs : List Rec) (env' : Env) (H' : List AObj) (h : RecOK P n ops o env H r) (k : Run P n ops l (stepEnv o r env) r.H2 rs env' H') : Run P n ops (o :: l) env H (r :: rs) env' H'

theorem cop_select {o : Oper} {p : POp} (h : cop P o = some p) : ∀ cs b, o.op ≠ .select cs b := fun cs b e => by
  unfold cop at h
  rw [e] at h
  simp at h

theorem LightOK.none {o : Oper} {env : Env} {H : List AObj} {d : D} {rd wr : List Nat} {H2 : List AObj} : LightOK P o env H ⟨d, rd, wr, H2, .none⟩ := fun _ _ h => by cases h

theorem runD_spec : ∀ (l : List Oper) (ms : List Nat) (pl : List POper), cOpers P n ops ms l = some pl → ∀ (env : Env) (H : List AObj) (K : Env → List AObj → Trace → Prop), runD P pl env H K →
    ∃ rs env' H', Run P n ops l env H rs env' H' ∧ K env' H' (rs.map Rec.entry) ∧ rs.length = l.length
  | [], ms, pl, hc, env, H, K, h => by
    simp [cOpers] at hc; subst hc
    exact ⟨[], env, H, .nil env H, h, rfl⟩
  | o :: l, ms, pl, hc, env, H, K, h => by
    simp only [cOpers] at hc
    split at hc
    · rename_i p pr h1 h2
      cases hc
      obtain ⟨k1, k2, k3, k4, _⟩ := cOper_spec h1
      have fin : ∀ (r : Rec), RecOK P n ops o env H r → (match p.dst with
          | some t => runD P pr ((t, r.d) :: env) r.H2 fun e h tr => K e h (((r.rd, r.wr), (r.lt, r.d, r.H2)) :: tr)
          | none => runD P pr env r.H2 fun e h tr => K e h (((r.rd, r.wr), (r.lt, r.d, r.H2)) :: tr)) → ∃ rs env' H', Run P n ops (o :: l) env H rs env' H' ∧ K env' H' (rs.map Rec.entry) ∧ rs.length = (o :: l).length := fun r hr hs => by
        have hs' : runD P pr (stepEnv o r env) r.H2 fun e h tr => K e h (((r.rd, r.wr), (r.lt, r.d, r.H2)) :: tr) := by
          unfold stepEnv
          rw [k2] at hs
          cases hd : o.dst with
          | none => rw [hd] at hs; exact hs
          | some t => rw [hd] at hs; exact hs
        obtain ⟨rs, env', H', q1, q2, q3⟩ := runD_spec l ms.tail pr h2 _ _ _ hs'
        exact ⟨r :: rs, env', H', .cons o l env H r rs env' H' hr q1, q2, by simp [q3]⟩
      have exec : ∀ {K' : D → List AObj → List Nat → List Nat → Prop}, step P false p.op env H K' → ∃ d H2 rd wr, OpS P o env rd wr H d H2 ∧ K' d H2 rd wr := fun hs => by
        rcases step_sound k1 hs with q | ⟨q, _⟩
        · exact q
        · cases q
      simp only [runD] at h
      rcases k4 with ⟨g1, g2⟩ | ⟨j, b, t, g1, g2, g3⟩
      · rw [g2] at h
        cases hl : lightOf p.op env with
        | none =>
          simp only [hl] at h
          obtain ⟨d, H2, rd, wr, q1, q2⟩ := exec h
          exact fin ⟨d, rd, wr, H2, none⟩ ⟨k3, cop_select k1, .none, .inl ⟨g1, q1⟩⟩ q2
        | some q =>
          obtain ⟨id, k⟩ := q
          simp only [hl] at h
          obtain ⟨c, q1, ⟨m, cs, q2, q3⟩, q4⟩ := light_step k1 h hl
          refine fin ⟨c, [id], [], H, some (id, k)⟩ ⟨k3, cop_select k1, fun id' k' e => ?_, .inl ⟨g1, q4 H m cs q2 q3⟩⟩ q1
          cases e
          exact ⟨rfl, rfl, rfl, ⟨m, cs, q2, q3⟩, q4⟩
      · rw [g3] at h
        simp only [lookK_eq] at h
        split at h
        · rename_i c hcc
          cases b with
          | true =>
            obtain ⟨hA, hB⟩ := ifK_iff.1 h
            cases c with
            | true =>
              obtain ⟨d, H2, rd, wr, q1, q2⟩ := exec (hA rfl)
              exact fin ⟨d, rd, wr, H2, none⟩ ⟨k3, cop_select k1, .none, .inr ⟨j, true, t, .bool true, g1, g2, hcc, .inl ⟨rfl, q1⟩⟩⟩ q2
            | false => exact fin ⟨.sc undef, [], [], H, none⟩ ⟨k3, cop_select k1, .none, .inr ⟨j, true, t, .bool false, g1, g2, hcc, .inr ⟨rfl, rfl⟩⟩⟩ (hB rfl)
          | false =>
            obtain ⟨hA, hB⟩ := ifK_iff.1 h
            cases c with
            | true => exact fin ⟨.sc undef, [], [], H, none⟩ ⟨k3, cop_select k1, .none, .inr ⟨j, false, t, .bool true, g1, g2, hcc, .inr ⟨rfl, rfl⟩⟩⟩ (hA rfl)
            | false =>
              obtain ⟨d, H2, rd, wr, q1, q2⟩ := exec (hB rfl)
              exact fin ⟨d, rd, wr, H2, none⟩ ⟨k3, cop_select k1, .none, .inr ⟨j, false, t, .bool false, g1, g2, hcc, .inl ⟨rfl, q1⟩⟩⟩ q2
        · rename_i xs hcc
          exact fin ⟨.sc undef, [], [], H, none⟩ ⟨k3, cop_select k1, .none, .inr ⟨j, b, t, .tuple xs, g1, g2, hcc, .inr ⟨rfl, rfl⟩⟩⟩ h
        · exact h.elim
    · cases hc

/-! ### The state behind some of the operations -/

def dstAt (l : List Oper) (k : Nat) : Option Tmp := (l[k]?).bind (·.dst)
def recAt (rs : List Rec) (k : Nat) : Rec := (rs[k]?).getD default
/-- What a temporary holds behind those of the first k operations that S names. -/
def Et (l : List Oper) (rs : List Rec) (env : Env) (S : Nat → Bool) : Nat → Nat → D
  | 0, t => lookD t env
  | k + 1, t => if S k = true ∧ dstAt l k = some t then (recAt rs k).d else Et l rs env S k t
def Gt (rs : List Rec) (H : List AObj) (S : Nat → Bool) : Nat → Nat → Option AObj
  | 0, id => H[id]?
  | k + 1, id => if S k = true ∧ id ∈ (recAt rs k).wr then (recAt rs k).H2[id]? else Gt rs H S k id

theorem Et_agree {l : List Oper} {rs : List Rec} {env : Env} {S S' : Nat → Bool} {t : Nat} : ∀ (k : Nat), (∀ i, i < k → dstAt l i = some t → S i = S' i) → Et l rs env S k t = Et l rs env S' k t
  | 0, _ => rfl
  | k + 1, h => by
    simp only [Et]
    by_cases hd : dstAt l k = some t
    · rw [h k (by omega) hd, Et_agree k fun i hi hd => h i (by omega) hd]
    · rw [if_neg (fun q => hd q.2), if_neg (fun q => hd q.2), Et_agree k fun i hi hd => h i (by omega) hd]
theorem Gt_agree {rs : List Rec} {H : List AObj} {S S' : Nat → Bool} {id : Nat} : ∀ (k : Nat), (∀ i, i < k → id ∈ (recAt rs i).wr → S i = S' i) → Gt rs H S k id = Gt rs H S' k id
  | 0, _ => rfl
  | k + 1, h => by
    simp only [Gt]
    by_cases hd : id ∈ (recAt rs k).wr
    · rw [h k (by omega) hd, Gt_agree k fun i hi hd => h i (by omega) hd]
    · rw [if_neg (fun q => hd q.2), if_neg (fun q => hd q.2), Gt_agree k fun i hi hd => h i (by omega) hd]
/-- The first j operations, all of them. -/
def upto (j : Nat) : Nat → Bool := fun i => decide (i < j)
theorem Et_upto {l : List Oper} {rs : List Rec} {env : Env} {j t : Nat} : ∀ (k : Nat), j ≤ k → Et l rs env (upto j) k t = Et l rs env (fun _ => true) j t
  | 0, h => by have : j = 0 := by omega
               subst this; rfl
  | k + 1, h => by
    by_cases e : j = k + 1
    · subst e
      exact Et_agree (k + 1) fun i hi _ => by simp [upto, hi]
    · simp only [Et]
      rw [if_neg (by simp [upto]; omega), Et_upto k (by omega)]
theorem Gt_upto {rs : List Rec} {H : List AObj} {j id : Nat} : ∀ (k : Nat), j ≤ k → Gt rs H (upto j) k id = Gt rs H (fun _ => true) j id
  | 0, h => by have : j = 0 := by omega
               subst this; rfl
  | k + 1, h => by
    by_cases e : j = k + 1
    · subst e
      exact Gt_agree (k + 1) fun i hi _ => by simp [upto, hi]
    · simp only [Gt]
      rw [if_neg (by simp [upto]; omega), Gt_upto k (by omega)]

/-- The text's states, one by one. -/
def envT (l : List Oper) (rs : List Rec) (env : Env) : Nat → Env
  | 0 => env
  | k + 1 => match l[k]?, rs[k]? with
    | some o, some r => stepEnv o r (envT l rs env k)
    | _, _ => envT l rs env k
def heapT (rs : List Rec) (H : List AObj) : Nat → List AObj
  | 0 => H
  | k + 1 => match rs[k]? with
    | some r => r.H2
    | none => heapT rs H k

theorem envT_cons {o : Oper} {l : List Oper} {r : Rec} {rs : List Rec} {env : Env} : ∀ k, envT (o :: l) (r :: rs) env (k + 1) = envT l rs (stepEnv o r env) k
  | 0 => rfl
  | k + 1 => by
    rw [envT]
    rw [envT_cons k]
    rfl
theorem heapT_cons {r : Rec} {rs : List Rec} {H : List AObj} : ∀ k, heapT (r :: rs) H (k + 1) = heapT rs r.H2 k
  | 0 => rfl
  | k + 1 => by
    rw [heapT]
    rw [heapT_cons k]
    rfl

theorem Run.at {l : List Oper} {env env' : Env} {H H' : List AObj} {rs : List Rec} (h : Run P n ops l env H rs env' H') : rs.length = l.length ∧ envT l rs env l.length = env' ∧ heapT rs H l.length = H' ∧
    ∀ k o, l[k]? = some o → ∃ r, rs[k]? = some r ∧ RecOK P n ops o (envT l rs env k) (heapT rs H k) r := by
  induction h with
  | nil env H => exact ⟨rfl, rfl, rfl, fun k o h => by simp at h⟩
  | cons o l env H r rs env' H' h k ih =>
    obtain ⟨i1, i2, i3, i4⟩ := ih
    refine ⟨by simp [i1], by rw [List.length_cons, envT_cons]; exact i2, by rw [List.length_cons, heapT_cons]; exact i3, fun m x hx => ?_⟩
    cases m with
    | zero => simp at hx; subst hx; exact ⟨r, rfl, h⟩
    | succ m =>
      obtain ⟨r', q1, q2⟩ := i4 m x (by simpa using hx)
      exact ⟨r', by simpa using q1, by rw [envT_cons, heapT_cons]; exact q2⟩

theorem recAt_of {rs : List Rec} {k : Nat} {r : Rec} (h : rs[k]? = some r) : recAt rs k = r := by simp [recAt, h]
theorem dstAt_of {l : List Oper} {k : Nat} {o : Oper} (h : l[k]? = some o) : dstAt l k = o.dst := by simp [dstAt, h]

theorem RecOK.frame {o : Oper} {env : Env} {H : List AObj} {r : Rec} (h : RecOK P n ops o env H r) : (∀ id, id ∉ r.wr → r.H2[id]? = H[id]?) ∧ H.length ≤ r.H2.length ∧ ∀ id ∈ r.wr, id < r.H2.length := by
  rcases h.2.2.2 with ⟨_, q⟩ | ⟨j, b, t, c, _, _, _, ⟨_, q⟩ | ⟨_, rfl⟩⟩
  · exact ⟨q.frame, q.len, q.lt⟩
  · exact ⟨q.frame, q.len, q.lt⟩
  · exact ⟨fun _ _ => rfl, Nat.le_refl _, fun _ h => by cases h⟩

section
variable {l : List Oper} {rs : List Rec} {env : Env} {H : List AObj}
variable (hA : ∀ k o, l[k]? = some o → ∃ r, rs[k]? = some r ∧ RecOK P n ops o (envT l rs env k) (heapT rs H k) r)
include hA

theorem Et_all : ∀ k, k ≤ l.length → ∀ t, Et l rs env (fun _ => true) k t = lookD t (envT l rs env k)
  | 0, _, t => rfl
  | k + 1, hk, t => by
    have hl : l[k]? = some l[k] := List.getElem?_eq_getElem (by omega)
    obtain ⟨r, h1, _⟩ := hA k _ hl
    simp only [Et, envT, hl, h1, recAt_of h1, dstAt_of hl, true_and, stepEnv]
    cases hd : l[k].dst with
    | none => simp; exact Et_all k (by omega) t
    | some u =>
      simp only [Option.some.injEq]
      rw [lookD_cons]
      by_cases e : t = u
      · rw [if_pos e.symm, if_pos e]
      · rw [if_neg (fun q => e q.symm), if_neg e]; exact Et_all k (by omega) t
theorem Gt_all : ∀ k, k ≤ l.length → ∀ id, Gt rs H (fun _ => true) k id = (heapT rs H k)[id]?
  | 0, _, id => rfl
  | k + 1, hk, id => by
    have hl : l[k]? = some l[k] := List.getElem?_eq_getElem (by omega)
    obtain ⟨r, h1, h2⟩ := hA k _ hl
    simp only [Gt, heapT, h1, recAt_of h1, true_and]
    split
    · rfl
    · rename_i hn; rw [Gt_all k (by omega) id]; exact (h2.frame.1 id hn).symm
theorem heapT_le : ∀ k j, j ≤ k → k ≤ l.length → (heapT rs H j).length ≤ (heapT rs H k).length
  | 0, j, hj, _ => by have : j = 0 := by omega
                      subst this; exact Nat.le_refl _
  | k + 1, j, hj, hk => by
    have hl : l[k]? = some l[k] := List.getElem?_eq_getElem (by omega)
    obtain ⟨r, h1, h2⟩ := hA k _ hl
    by_cases e : j = k + 1
    · rw [e]; exact Nat.le_refl _
    · refine Nat.le_trans (heapT_le k j (by omega) (by omega)) ?_
      simp only [heapT, h1]
      exact h2.frame.2.1
theorem wr_lt {i k : Nat} (hik : i < k) (hk : k ≤ l.length) {id : Nat} (h : id ∈ (recAt rs i).wr) : id < (heapT rs H k).length := by
  have hl : l[i]? = some l[i] := List.getElem?_eq_getElem (by omega)
  obtain ⟨r, h1, h2⟩ := hA i _ hl
  rw [recAt_of h1] at h
  have h3 := h2.frame.2.2 id h
  have h4 := heapT_le hA k (i + 1) (by omega) hk
  simp only [heapT, h1] at h4
  omega
end

/-! ### What is noted of memory -/

theorem memb_iff (x : Nat) : ∀ l : List Nat, memb x l = true ↔ x ∈ l
  | [] => by simp [memb]
  | y :: r => by
    simp only [memb]
    cases e : Nat.beq x y with
    | true => simp [Nat.eq_of_beq_eq_true e]
    | false =>
      have : x ≠ y := fun h => by subst h; simp at e
      simp [memb_iff x r, this]
theorem meets_iff : ∀ (a b : List Nat), meets a b = true ↔ ∃ x ∈ a, x ∈ b
  | [], b => by simp [meets]
  | x :: r, b => by
    simp only [meets]
    cases e : memb x b with
    | true => simp [(memb_iff x b).1 e]
    | false =>
      have : x ∉ b := fun h => by rw [(memb_iff x b).2 h] at e; cases e
      simp [meets_iff r b, this]
theorem traceOK_spec {m : Nat} {b : List Nat × List Nat} : ∀ (tr : List (List Nat × List Nat)) (i : Nat), traceOK m b i tr = true → ∀ k a, tr[k]? = some a → clash a b = true → bitOf m (i + k) = true
  | [], i, _, k, a, h, _ => by simp at h
  | x :: r, i, h, k, a, hk, hc => by
    simp only [traceOK] at h
    split at h
    · rename_i h1
      cases k with
      | zero =>
        simp at hk; subst hk
        simpa [hc] using h1
      | succ k =>
        have := traceOK_spec r (i + 1) h k a (by simpa using hk) hc
        rwa [show i + 1 + k = i + (k + 1) by omega] at this
    · cases h
theorem memOK_spec : ∀ (pl : List POper) (pre : List (List Nat × List Nat)) (tr : Trace), memOK pre pl tr = true → ∀ k o b, pl[k]? = some o → tr[k]? = some b → ∀ i a, i < pre.length + k → (pre ++ tr.map (·.1))[i]? = some a → clash a b.1 = true → bitOf o.mask i = true
  | [], pre, tr, _, k, o, b, h, _, _, _, _, _, _ => by simp at h
  | p :: pl, pre, [], _, k, o, b, _, h, _, _, _, _, _ => by simp at h
  | p :: pl, pre, (t, y) :: tr, h, k, o, b, hk, hb, i, a, hi, ha, hc => by
    simp only [memOK] at h
    split at h
    · rename_i h1
      cases k with
      | zero =>
        simp at hk hb; subst hk; subst hb
        rw [List.getElem?_append_left (by omega)] at ha
        have := traceOK_spec pre 0 h1 i a ha hc
        simpa using this
      | succ k =>
        refine memOK_spec pl (pre ++ [t]) tr h k o b (by simpa using hk) (by simpa using hb) i a (by simp; omega) ?_ hc
        simpa using ha
    · cases h
theorem memOKL_spec : ∀ (pl : List POper) (pre : List (List Nat × List Nat)) (tr : Trace), memOKL pre pl tr = true → ∀ k o b, pl[k]? = some o → tr[k]? = some b → ∀ i a, i < pre.length + k → (pre ++ tr.map liteE)[i]? = some a → clash a b.1 = true → bitOf o.mask i = true
  | [], pre, tr, _, k, o, b, h, _, _, _, _, _, _ => by simp at h
  | p :: pl, pre, [], _, k, o, b, _, h, _, _, _, _, _ => by simp at h
  | p :: pl, pre, (t, q, y) :: tr, h, k, o, b, hk, hb, i, a, hi, ha, hc => by
    simp only [memOKL] at h
    split at h
    · rename_i h1
      cases k with
      | zero =>
        simp at hk hb; subst hk; subst hb
        rw [List.getElem?_append_left (by omega)] at ha
        have := traceOK_spec pre 0 h1 i a ha hc
        simpa using this
      | succ k =>
        have e : pre ++ ((t, q, y) :: tr).map liteE = (pre ++ [liteE (t, q, y)]) ++ tr.map liteE := by simp
        rw [e] at ha
        cases q with
        | none => exact memOKL_spec pl (pre ++ [t]) tr h k o b (by simpa using hk) (by simpa using hb) i a (by simp; omega) ha hc
        | some q => exact memOKL_spec pl (pre ++ [([], t.2)]) tr h k o b (by simpa using hk) (by simpa using hb) i a (by simp; omega) ha hc
    · cases h
/-- A load that is let by is held against an operation. -/
def WatchOK (m : Nat) (wr : List Nat) (H : List AObj) (w : Nat × (Nat × Nat) × D) : Prop := bitOf m w.1 = true ∨ w.2.1.1 ∉ wr ∨ ∃ mm cs, H[w.2.1.1]? = some (.row mm cs) ∧ cs[w.2.1.2]? = some w.2.2
theorem watchK_spec {m : Nat} {wr : List Nat} {H : List AObj} {K : Prop} : ∀ ws, watchK m wr H K ws → K ∧ ∀ w ∈ ws, WatchOK m wr H w
  | [], h => ⟨h, fun w hw => by cases hw⟩
  | (i, (id, k), d) :: r, h => by
    simp only [watchK] at h
    split at h
    · rename_i e
      obtain ⟨q1, q2⟩ := watchK_spec r h
      refine ⟨q1, fun w hw => ?_⟩
      rcases List.mem_cons.1 hw with rfl | hw
      · rw [Bool.or_eq_true, Bool.not_eq_true'] at e
        rcases e with e | e
        · exact .inl e
        · refine .inr (.inl fun z => ?_)
          rw [(memb_iff _ _).2 z] at e; cases e
      · exact q2 w hw
    · unfold cellK at h
      obtain ⟨ob, h1, h2⟩ := (hgetK_iff _ _ _).1 h
      split at h2
      · rename_i mm cs
        obtain ⟨c, h3, rfl, h4⟩ := (atK_iff _ _ _).1 h2
        obtain ⟨q1, q2⟩ := watchK_spec r h4
        refine ⟨q1, fun w hw => ?_⟩
        rcases List.mem_cons.1 hw with rfl | hw
        · exact .inr (.inr ⟨mm, cs, h1, h3⟩)
        · exact q2 w hw
      · exact h2.elim
theorem lightK_spec {K : Prop} : ∀ (l : List POper) (tr : Trace) (i0 : Nat) (ws : List (Nat × (Nat × Nat) × D)), lightK K i0 ws l tr → l.length = tr.length → K ∧ ∀ j o b q d H, l[j]? = some o → tr[j]? = some (b, (q, d, H)) →
      (∀ w ∈ ws, WatchOK o.mask b.2 H w) ∧ ∀ i b' lt d' H', i < j → tr[i]? = some (b', (some lt, d', H')) → WatchOK o.mask b.2 H (i0 + i, lt, d')
  | [], [], i0, ws, h, _ => ⟨h, fun j o b q d H hj => by simp at hj⟩
  | [], _ :: _, _, _, _, hl => by simp at hl
  | _ :: _, [], _, _, _, hl => by simp at hl
  | p :: l, (b0, (q0, d0, H0)) :: tr, i0, ws, h, hl => by
    simp only [lightK] at h
    obtain ⟨h1, h2⟩ := watchK_spec ws h
    cases q0 with
    | none =>
      obtain ⟨k1, k2⟩ := lightK_spec l tr (i0 + 1) ws h1 (by simpa using hl)
      refine ⟨k1, fun j o b q d H hj hb => ?_⟩
      cases j with
      | zero => simp at hj hb; obtain ⟨rfl, rfl, rfl, rfl⟩ := hb; subst hj; exact ⟨h2, fun i _ _ _ _ hi => by omega⟩
      | succ j =>
        obtain ⟨m1, m2⟩ := k2 j o b q d H (by simpa using hj) (by simpa using hb)
        refine ⟨m1, fun i b' lt d' H' hi hb' => ?_⟩
        cases i with
        | zero => simp at hb'
        | succ i =>
          have := m2 i b' lt d' H' (by omega) (by simpa using hb')
          rwa [show i0 + 1 + i = i0 + (i + 1) by omega] at this
    | some q0 =>
      obtain ⟨k1, k2⟩ := lightK_spec l tr (i0 + 1) (ws ++ [(i0, q0, d0)]) h1 (by simpa using hl)
      refine ⟨k1, fun j o b q d H hj hb => ?_⟩
      cases j with
      | zero => simp at hj hb; obtain ⟨rfl, rfl, rfl, rfl⟩ := hb; subst hj; exact ⟨h2, fun i _ _ _ _ hi => by omega⟩
      | succ j =>
        obtain ⟨m1, m2⟩ := k2 j o b q d H (by simpa using hj) (by simpa using hb)
        refine ⟨fun w hw => m1 w (List.mem_append_left _ hw), fun i b' lt d' H' hi hb' => ?_⟩
        cases i with
        | zero =>
          simp at hb'
          obtain ⟨rfl, rfl, rfl, rfl⟩ := hb'
          exact m1 (i0, q0, d0) (by simp)
        | succ i =>
          have := m2 i b' lt d' H' (by omega) (by simpa using hb')
          rwa [show i0 + 1 + i = i0 + (i + 1) by omega] at this
theorem bitOf_test {m i : Nat} (h : bitOf m i = true) : m.testBit i = true := by
  unfold bitOf at h
  split at h
  · rename_i e
    rw [Nat.testBit_eq_decide_div_mod_eq]
    simpa using Nat.eq_of_beq_eq_true e
  · cases h
theorem cOpers_mask : ∀ (l : List Oper) (ms : List Nat) (pl : List POper), cOpers P n ops ms l = some pl → ∀ k p, pl[k]? = some p → p.mask = ms.getD k 0
  | [], ms, pl, h, k, p, hk => by simp [cOpers] at h; subst h; simp at hk
  | o :: l, ms, pl, h, k, p, hk => by
    simp only [cOpers] at h
    split at h
    · rename_i q pr h1 h2
      cases h
      cases k with
      | zero =>
        simp at hk; subst hk
        rw [(cOper_spec h1).2.2.2.2]
        cases ms <;> rfl
      | succ k =>
        rw [cOpers_mask l ms.tail pr h2 k p (by simpa using hk)]
        cases ms <;> simp [List.getD]
    · cases h
theorem cOpers_len : ∀ (l : List Oper) (ms : List Nat) (pl : List POper), cOpers P n ops ms l = some pl → pl.length = l.length
  | [], ms, pl, h => by simp [cOpers] at h; subst h; rfl
  | o :: l, ms, pl, h => by
    simp only [cOpers] at h
    split at h
    · rename_i q pr h1 h2
      cases h
      simp [cOpers_len l ms.tail pr h2]
    · cases h
end
end

/-! ### XDsq -/
section
open Go.RowKit
set_option linter.unusedSimpArgs false
set_option linter.unusedVariables false

/-- All that is known of a region in the text's order. -/
structure Plan (P : Program) (n : Nat) (ops : Array Oper) (env : Env) (H : List AObj) (rs : List Rec) : Prop where
  at_ : ∀ k o, ops.toList[k]? = some o → ∃ r, rs[k]? = some r ∧ RecOK P n ops o (envT ops.toList rs env k) (heapT rs H k) r
  len : rs.length = ops.size
  reg : regOK ops (masksOf [] ops.toList) [] ops.toList = true
  mem : ∀ i j, i < j → j < ops.size → clash (liteE (recAt rs i).entry) ((recAt rs j).rd, (recAt rs j).wr) = true → Bef ops i j
  lite : ∀ i id k, (recAt rs i).lt = some (id, k) → ∀ j, i < j → j < ops.size → id ∈ (recAt rs j).wr → Bef ops i j ∨ ∃ m cs, (recAt rs j).H2[id]? = some (.row m cs) ∧ cs[k]? = some (recAt rs i).d

section
variable {P : Program} {n : Nat} {ops : Array Oper} {env : Env} {H : List AObj} {rs : List Rec}

/-- Where the run of a region stands. -/
structure Inv (P : Program) (n : Nat) (ops : Array Oper) (env : Env) (H : List AObj) (rs : List Rec) (J0 : Inj) (F0 : Nat → Prop) (w0 : World) (S : Nat → Bool) (J : Inj) (F : Nat → Prop) (a : Act) (w : World) : Prop where
  closed : Closed ops S
  defers : a.defers = []
  size : a.tmps.size = n
  tmps : ∀ t, rep J F w (Et ops.toList rs env S ops.size t) (a.tmps.getD t undef)
  ok : StOK J F w (Gt rs H S ops.size)
  ext : Ext J0 F0 w0 J F w
  dom : ∀ id, J id ≠ none → id < H.length ∨ ∃ i, i < ops.size ∧ S i = true ∧ id ∈ (recAt rs i).wr

/-- Two operations of which neither waits for the other touch nothing of each other's. -/
theorem Plan.before (hp : Plan P n ops env H rs) {S : Nat → Bool} (hC : Closed ops S) {j : Nat} {o : Oper} (ho : ops[j]? = some o) (hj : S j = false) (hr : ∀ a ∈ afterL o, S a = true) {i : Nat} (hi : i < ops.size) (hne : i ≠ j) (hcmp : Bef ops i j ∨ Bef ops j i) : S i = upto j i := by
  have hio : ops[i]? = some ops[i] := Array.getElem?_eq_getElem hi
  rcases hcmp with h | h
  · obtain ⟨q1, q2⟩ := bef_spec hp.reg j o ho i h
    rw [q2 S hC hr]
    simp [upto, q1]
  · obtain ⟨q1, q2⟩ := bef_spec hp.reg i _ hio j h
    have : S i = false := by
      cases e : S i with
      | false => rfl
      | true =>
        have := q2 S hC (hC i _ hio e)
        rw [hj] at this; cases this
    rw [this]
    simp [upto]; omega

theorem Plan.cmp (hp : Plan P n ops env H rs) {i j : Nat} {x y : Oper} (hi : ops[i]? = some x) (hj : ops[j]? = some y) (hne : i ≠ j) : (Bef ops i j ∨ Bef ops j i) ∨ (x.apart ops y = true ∧ i < j) ∨ (y.apart ops x = true ∧ j < i) := by
  rcases Nat.lt_or_gt_of_ne hne with h | h
  · have := (regOK_spec ops.toList [] hp.reg j y (by simpa using hj)).2 i x (by simpa using h) (by simpa using hi)
    simp only [List.length_nil, Nat.zero_add] at this
    rcases this with q | q
    · exact .inl (.inl q)
    · exact .inr (.inl ⟨q, h⟩)
  · have := (regOK_spec ops.toList [] hp.reg i x (by simpa using hi)).2 j y (by simpa using h) (by simpa using hj)
    simp only [List.length_nil, Nat.zero_add] at this
    rcases this with q | q
    · exact .inl (.inr q)
    · exact .inr (.inr ⟨q, h⟩)

theorem Plan.tmp (hp : Plan P n ops env H rs) {S : Nat → Bool} (hC : Closed ops S) {j : Nat} {o : Oper} (ho : ops[j]? = some o) (hj : S j = false) (hr : ∀ a ∈ afterL o, S a = true) {t : Nat} (ht : t ∈ o.looksAt ops) : Et ops.toList rs env S ops.size t = lookD t (envT ops.toList rs env j) := by
  have hjs : j < ops.size := by
    rcases Nat.lt_or_ge j ops.size with h | h
    · exact h
    · rw [Array.getElem?_eq_none h] at ho; cases ho
  rw [← Et_all hp.at_ j (by simp; omega), ← Et_upto ops.size (by omega)]
  refine Et_agree _ fun i hi hd => ?_
  have hio : ops[i]? = some ops[i] := Array.getElem?_eq_getElem hi
  have hil : ops.toList[i]? = some ops[i] := by rw [Array.getElem?_toList]; exact hio
  rw [dstAt_of hil] at hd
  by_cases e : i = j
  · subst e; rw [hj]; simp [upto]
  · rcases hp.cmp hio ho e with h | ⟨h, _⟩ | ⟨h, _⟩
    · exact hp.before hC ho hj hr hi e h
    · exact absurd ht ((Oper.apart_spec h).1 t hd)
    · exact absurd ht ((Oper.apart_spec h).2.2 t hd)

theorem clash_iff (a b : List Nat × List Nat) : clash a b = true ↔ (∃ x ∈ a.2, x ∈ b.1) ∨ (∃ x ∈ a.2, x ∈ b.2) ∨ ∃ x ∈ b.2, x ∈ a.1 := by
  simp only [clash, Bool.or_eq_true, meets_iff, or_assoc]

theorem liteE_wr (r : Rec) : (liteE r.entry).2 = r.wr := by unfold liteE Rec.entry; split <;> rfl
theorem liteE_rd {r : Rec} (h : r.lt = none) : (liteE r.entry).1 = r.rd := by unfold liteE Rec.entry; dsimp only; rw [h]
theorem Plan.objB (hp : Plan P n ops env H rs) {S : Nat → Bool} (hC : Closed ops S) {j : Nat} {o : Oper} (ho : ops[j]? = some o) (hj : S j = false) (hr : ∀ a ∈ afterL o, S a = true) {id : Nat} (hid : id ∈ (recAt rs j).rd ∨ id ∈ (recAt rs j).wr) {i : Nat} (h : i < j) (hw : id ∈ (recAt rs i).wr) : S i = upto j i := by
  have hjs : j < ops.size := by
    rcases Nat.lt_or_ge j ops.size with h | h
    · exact h
    · rw [Array.getElem?_eq_none h] at ho; cases ho
  refine hp.before hC ho hj hr (by omega) (by omega) (.inl (hp.mem i j h hjs ((clash_iff _ _).2 ?_)))
  rcases hid with q | q
  · exact .inl ⟨id, by rw [liteE_wr]; exact hw, q⟩
  · exact .inr (.inl ⟨id, by rw [liteE_wr]; exact hw, q⟩)
theorem Plan.obj (hp : Plan P n ops env H rs) {S : Nat → Bool} (hC : Closed ops S) {j : Nat} {o : Oper} (ho : ops[j]? = some o) (hj : S j = false) (hr : ∀ a ∈ afterL o, S a = true) {id : Nat} (hid : (id ∈ (recAt rs j).rd ∧ (recAt rs j).lt = none) ∨ id ∈ (recAt rs j).wr) {i : Nat} (hi : i < ops.size) (hw : id ∈ (recAt rs i).wr) : S i = upto j i := by
  by_cases e : i = j
  · subst e; rw [hj]; simp [upto]
  rcases Nat.lt_or_gt_of_ne e with h | h
  · exact hp.objB hC ho hj hr (hid.imp_left And.left) h hw
  · refine hp.before hC ho hj hr hi e (.inr (hp.mem j i h hi ((clash_iff _ _).2 ?_)))
    rcases hid with ⟨q, ql⟩ | q
    · exact .inr (.inr ⟨id, hw, by rw [liteE_rd ql]; exact q⟩)
    · exact .inr (.inl ⟨id, by rw [liteE_wr]; exact q, hw⟩)
theorem Plan.objs (hp : Plan P n ops env H rs) {S : Nat → Bool} (hC : Closed ops S) {j : Nat} {o : Oper} (ho : ops[j]? = some o) (hj : S j = false) (hr : ∀ a ∈ afterL o, S a = true) {id : Nat} (hid : (id ∈ (recAt rs j).rd ∧ (recAt rs j).lt = none) ∨ id ∈ (recAt rs j).wr) : Gt rs H S ops.size id = (heapT rs H j)[id]? := by
  have hjs : j < ops.size := by
    rcases Nat.lt_or_ge j ops.size with h | h
    · exact h
    · rw [Array.getElem?_eq_none h] at ho; cases ho
  rw [← Gt_all hp.at_ j (by simp; omega), ← Gt_upto ops.size (by omega)]
  exact Gt_agree _ fun i hi hw => hp.obj hC ho hj hr hid hi hw
/-- A cell that a mere load reads holds the same whatever came ahead. -/
theorem Plan.cell (hp : Plan P n ops env H rs) {S : Nat → Bool} (hC : Closed ops S) {j : Nat} {o : Oper} (ho : ops[j]? = some o) (hj : S j = false) (hr : ∀ a ∈ afterL o, S a = true) {id k : Nat} (hl : (recAt rs j).lt = some (id, k)) (hrd : (recAt rs j).rd = [id])
    (h0 : ∃ m cs, (heapT rs H j)[id]? = some (.row m cs) ∧ cs[k]? = some (recAt rs j).d) : ∃ m cs, Gt rs H S ops.size id = some (.row m cs) ∧ cs[k]? = some (recAt rs j).d := by
  have hjs : j < ops.size := by
    rcases Nat.lt_or_ge j ops.size with h | h
    · exact h
    · rw [Array.getElem?_eq_none h] at ho; cases ho
  have key : ∀ x, j + x ≤ ops.size → ∃ m cs, Gt rs H S (j + x) id = some (.row m cs) ∧ cs[k]? = some (recAt rs j).d := fun x => by
    induction x with
    | zero =>
      intro _
      have : Gt rs H S j id = (heapT rs H j)[id]? := by
        rw [← Gt_all hp.at_ j (by simp; omega), ← Gt_upto j (Nat.le_refl _)]
        exact Gt_agree _ fun i hi hw => hp.objB hC ho hj hr (.inl (by rw [hrd]; simp)) hi hw
      rw [Nat.add_zero, this]
      exact h0
    | succ x ih =>
      intro hx
      rw [← Nat.add_assoc]
      simp only [Gt]
      split
      · rename_i q
        by_cases e : x = 0
        · subst e; rw [Nat.add_zero] at q; rw [hj] at q; exact absurd q.1 (by simp)
        · rcases hp.lite j id k hl (j + x) (by omega) (by omega) q.2 with r | r
          · exfalso
            have hio : ops[j + x]? = some ops[j + x] := Array.getElem?_eq_getElem (by omega)
            obtain ⟨_, q2⟩ := bef_spec hp.reg (j + x) _ hio j r
            have := q2 S hC (hC (j + x) _ hio q.1)
            rw [hj] at this; cases this
          · exact r
      · exact ih (by omega)
  have := key (ops.size - j) (by omega)
  rwa [show j + (ops.size - j) = ops.size by omega] at this

/-- One more operation. -/
def plus (S : Nat → Bool) (j : Nat) : Nat → Bool := fun i => S i || decide (i = j)
theorem Et_plus {l : List Oper} {S : Nat → Bool} {j t : Nat} (hj : S j = false) (hlater : ∀ i, j < i → S i = true → dstAt l i = some t → dstAt l j ≠ some t) : ∀ k, Et l rs env (plus S j) k t = if j < k ∧ dstAt l j = some t then (recAt rs j).d else Et l rs env S k t
  | 0 => rfl
  | k + 1 => by
    simp only [Et]
    rw [Et_plus hj hlater k]
    by_cases e : k = j
    · subst e
      by_cases hd : dstAt l k = some t
      · rw [if_pos ⟨by simp [plus], hd⟩, if_pos ⟨by omega, hd⟩]
      · rw [if_neg (fun q => hd q.2), if_neg (fun q => hd q.2), if_neg (fun q => hd q.2), if_neg (fun q => hd q.2)]
    · have hS : plus S j k = S k := by simp [plus, e]
      rw [hS]
      by_cases hk : S k = true ∧ dstAt l k = some t
      · rw [if_pos hk, if_pos hk]
        rw [if_neg]
        rintro ⟨q1, q2⟩
        exact hlater k (by omega) hk.1 hk.2 q2
      · rw [if_neg hk, if_neg hk]
        by_cases hd : j < k ∧ dstAt l j = some t
        · rw [if_pos hd, if_pos ⟨by omega, hd.2⟩]
        · rw [if_neg hd, if_neg (fun q => hd ⟨by omega, q.2⟩)]
theorem Gt_plus {S : Nat → Bool} {j id : Nat} (hj : S j = false) (hlater : ∀ i, j < i → S i = true → id ∈ (recAt rs i).wr → id ∉ (recAt rs j).wr) : ∀ k, Gt rs H (plus S j) k id = if j < k ∧ id ∈ (recAt rs j).wr then (recAt rs j).H2[id]? else Gt rs H S k id
  | 0 => rfl
  | k + 1 => by
    simp only [Gt]
    rw [Gt_plus hj hlater k]
    by_cases e : k = j
    · subst e
      by_cases hd : id ∈ (recAt rs k).wr
      · rw [if_pos ⟨by simp [plus], hd⟩, if_pos ⟨by omega, hd⟩]
      · rw [if_neg (fun q => hd q.2), if_neg (fun q => hd q.2), if_neg (fun q => hd q.2), if_neg (fun q => hd q.2)]
    · have hS : plus S j k = S k := by simp [plus, e]
      rw [hS]
      by_cases hk : S k = true ∧ id ∈ (recAt rs k).wr
      · rw [if_pos hk, if_pos hk]
        rw [if_neg]
        rintro ⟨q1, q2⟩
        exact hlater k (by omega) hk.1 hk.2 q2
      · rw [if_neg hk, if_neg hk]
        by_cases hd : j < k ∧ id ∈ (recAt rs j).wr
        · rw [if_pos hd, if_pos ⟨by omega, hd.2⟩]
        · rw [if_neg hd, if_neg (fun q => hd ⟨by omega, q.2⟩)]

theorem Plan.step (hp : Plan P n ops env H rs) {J0 : Inj} {F0 : Nat → Prop} {w0 : World} {S : Nat → Bool} {J : Inj} {F : Nat → Prop} {a : Act} {w : World} (hv : Inv P n ops env H rs J0 F0 w0 S J F a w) {j : Nat} {o : Oper} (ho : ops[j]? = some o) (hj : S j = false) (hr : ∀ a ∈ afterL o, S a = true)
    {K : Act → World → Prop} {Q : Exit → Act → World → Prop} (hK : ∀ J' F' a' w', Inv P n ops env H rs J0 F0 w0 (plus S j) J' F' a' w' → K a' w') :
    if Region.wanted o (yielded ops a.tmps) then o.wp P a w K Q else K (a.put o.dst undef) w := by
  have hjs : j < ops.size := by
    rcases Nat.lt_or_ge j ops.size with h | h
    · exact h
    · rw [Array.getElem?_eq_none h] at ho; cases ho
  have hjl : ops.toList[j]? = some o := by simpa using ho
  obtain ⟨r, hr1, hr2⟩ := hp.at_ j o hjl
  have hrec : recAt rs j = r := recAt_of hr1
  have hdst : dstAt ops.toList j = o.dst := dstAt_of hjl
  have hclosed : Closed ops (plus S j) := fun i x hx hi b hb => by
    simp only [plus, Bool.or_eq_true, decide_eq_true_eq] at hi ⊢
    rcases hi with hi | rfl
    · exact .inl (hv.closed i x hx hi b hb)
    · rw [ho] at hx; cases hx
      exact .inl (hr b hb)
  have hlaterT : ∀ t i, j < i → S i = true → dstAt ops.toList i = some t → dstAt ops.toList j ≠ some t := fun t i hi hS hd hd' => by
    have his : i < ops.size := by
      rcases Nat.lt_or_ge i ops.size with h | h
      · exact h
      · rw [dstAt, List.getElem?_eq_none (by simpa using h)] at hd; cases hd
    have hio : ops[i]? = some ops[i] := Array.getElem?_eq_getElem his
    have hil : ops.toList[i]? = some ops[i] := by rw [Array.getElem?_toList]; exact hio
    rw [dstAt_of hil] at hd
    rw [hdst] at hd'
    rcases hp.cmp hio ho (by omega) with h | ⟨h, h'⟩ | ⟨h, _⟩
    · have := hp.before hv.closed ho hj hr his (by omega) h
      rw [hS] at this
      simp [upto] at this
      omega
    · omega
    · exact (Oper.apart_spec h).2.1 t hd' hd
  have hlaterG : ∀ id i, j < i → S i = true → id ∈ (recAt rs i).wr → id ∉ (recAt rs j).wr := fun id i hi hS hw hw' => by
    by_cases his : i < ops.size
    · have := hp.obj hv.closed ho hj hr (.inr hw') his hw
      rw [hS] at this
      simp [upto] at this
      omega
    · have e : rs[i]? = none := List.getElem?_eq_none (by rw [hp.len]; omega)
      simp [recAt, e] at hw
      cases hw
  -- the new state
  have mk : ∀ (v : Value) (J' : Inj) (F' : Nat → Prop) (w' : World), rep J' F' w' r.d v → StOK J' F' w' (upd (Gt rs H S ops.size) r.wr r.H2) → Ext J F w J' F' w' → (∀ id, J id = none → id ∉ r.wr → J' id = none) → Inv P n ops env H rs J0 F0 w0 (plus S j) J' F' (a.put o.dst v) w' := fun v J' F' w' q1 q2 q3 q4 => by
    refine ⟨hclosed, ?_, ?_, fun t => ?_, ?_, hv.ext.trans q3, fun id hid => ?_⟩
    · cases o.dst <;> exact hv.defers
    · cases o.dst <;> simp [Act.put, hv.size]
    · rw [Et_plus hj (hlaterT t)]
      rw [hdst, hrec]
      cases hd : o.dst with
      | none => rw [if_neg (by simp)]; exact rep_ext q3 (hv.tmps t)
      | some u =>
        simp only [hjs, true_and, Option.some.injEq, Act.put]
        rw [getD_set _ _ _ _ (by rw [hv.size]; exact hr2.1 u hd)]
        by_cases e : t = u
        · rw [if_pos e.symm, if_pos e]; exact q1
        · rw [if_neg (fun q => e q.symm), if_neg e]; exact rep_ext q3 (hv.tmps t)
    · have : Gt rs H (plus S j) ops.size = upd (Gt rs H S ops.size) r.wr r.H2 := by
        funext id
        rw [Gt_plus hj (hlaterG id)]
        simp only [hjs, true_and, hrec, upd]
      rw [this]; exact q2
    · by_cases h1 : J id = none
      · by_cases h2 : id ∈ r.wr
        · exact .inr ⟨j, hjs, by simp [plus], by rw [hrec]; exact h2⟩
        · exact absurd (q4 id h1 h2) hid
      · rcases hv.dom id h1 with q | ⟨i, i1, i2, i3⟩
        · exact .inl q
        · exact .inr ⟨i, i1, by simp [plus, i2], i3⟩
  have opnd : ∀ x ∈ o.op.operands, rep J F w (evalD (envT ops.toList rs env j) x) (a.eval x) := fun x hx => by
    · cases x with
      | tmp t =>
        have ht : t ∈ o.looksAt ops := by
          unfold Oper.looksAt
          refine List.mem_append.2 (.inl (List.mem_filterMap.2 ⟨.tmp t, by simpa using hx, rfl⟩))
        have := hv.tmps t
        rw [hp.tmp hv.closed ho hj hr ht] at this
        exact this
      | const v =>
        cases v <;> simp only [evalD, lift, Act.eval, rep]
        rename_i cs
        exact ⟨cs.toList, by simp, repL_sc cs.toList⟩
      | global g => exact rep_glob hv.ok.lt g
      | func f => simp only [evalD, Act.eval, rep]; exact ⟨[], [], rfl, by simp only [repL], by simp only [repL]⟩
  have exec : OpS P o (envT ops.toList rs env j) r.rd r.wr (heapT rs H j) r.d r.H2 → o.wp P a w K Q := fun hs => by
   cases hlt : r.lt with
   | some q =>
    obtain ⟨id, k⟩ := q
    obtain ⟨e1, e2, e3, e4, e5⟩ := hr2.2.2.1 id k hlt
    obtain ⟨m, cs, c1, c2⟩ := hp.cell hv.closed ho hj hr (by rw [hrec]; exact hlt) (by rw [hrec]; exact e1) (by rw [hrec]; exact e4)
    rw [hrec] at c2
    obtain ⟨m0, cs0, c3, _⟩ := e4
    have hidl : id < (heapT rs H j).length := by
      rcases Nat.lt_or_ge id (heapT rs H j).length with h | h
      · exact h
      · rw [List.getElem?_eq_none h] at c3; cases c3
    have hset : ((heapT rs H j).set id (.row m cs))[id]? = some (.row m cs) := by rw [List.getElem?_set]; simp [hidl]
    refine (e5 _ m cs hset c2).run J F w a _ hv.ok opnd (fun i hi => ?_) (fun i hi hw => by cases hw) K Q fun v w' J' F' q1 q2 q3 q4 => hK _ _ _ _ (mk v J' F' w' q1 (by rw [upd_nil] at q2; rw [e2, upd_nil]; exact q2) q3 fun i h1 _ => q4 i h1 (by simp))
    rcases hi with hi | hi
    · rw [List.mem_singleton] at hi; subst hi; rw [c1, hset]
    · cases hi
   | none =>
    refine hs.run J F w a _ hv.ok opnd (fun id hid => by rw [← hrec] at hid; exact hp.objs hv.closed ho hj hr (hid.imp_left fun h => ⟨h, by rw [hrec]; exact hlt⟩)) (fun id hid hw => ?_) K Q fun v w' J' F' q1 q2 q3 q4 => hK _ _ _ _ (mk v J' F' w' q1 q2 q3 q4)
    · cases e : J id with
      | none => rfl
      | some s =>
        rcases hv.dom id (by rw [e]; simp) with q | ⟨i, i1, i2, i3⟩
        · have := heapT_le hp.at_ j 0 (by omega) (by simp; omega)
          simp only [heapT] at this
          omega
        · have h1 := hp.obj hv.closed ho hj hr (.inr (by rw [hrec]; exact hw)) i1 i3
          rw [i2] at h1
          have hij : i < j := by simpa [upto] using h1.symm
          have := wr_lt hp.at_ hij (by simp; omega) i3
          omega
  rcases hr2.2.2.2 with ⟨g1, g2⟩ | ⟨g, b, t, c, g1, g2, g3, g4⟩
  · rw [if_pos (by simp [Region.wanted, g1])]
    exact exec g2
  · have ht : t ∈ o.looksAt ops := by
      unfold Oper.looksAt
      refine List.mem_append.2 (.inr ?_)
      rw [g1]
      simp only [g2, Option.toList_some, List.mem_singleton]
    have h3 := hv.tmps t
    rw [hp.tmp hv.closed ho hj hr ht, g3] at h3
    simp only [rep] at h3
    rcases g4 with ⟨rfl, g4⟩ | ⟨hne, rfl⟩
    · rw [if_pos (wanted_on g1 g2 h3)]
      exact exec g4
    · rw [if_neg (by rw [wanted_off g1 g2 (by rw [h3]; exact hne)]; simp)]
      exact hK _ _ _ _ (mk undef J F w (by simp only [rep]) (by rw [upd_nil]; exact hv.ok) (Ext.refl _ _ _) fun _ h _ => h)

theorem ready_spec {listed : Array Bool} {j : Nat} (h : j ∈ Region.ready .any ops listed) : ∃ o, ops[j]? = some o ∧ listed.getD j true = false ∧ ∀ a ∈ afterL o, listed.getD a false = true := by
  obtain ⟨h1, o, h2, h3⟩ := mem_ready.1 h
  refine ⟨o, h2, h1, fun a ha => ?_⟩
  unfold afterL at ha
  obtain ⟨e, he, rfl⟩ := List.mem_map.1 ha
  obtain ⟨he1, he2⟩ := List.mem_filter.1 he
  exact h3 e (by simpa using he1) he2

/-- Which have come up. -/
def listedB (listed : Array Bool) : Nat → Bool := fun i => listed.getD i false

theorem listedB_set {listed : Array Bool} {j : Nat} (hj : j < listed.size) : listedB (listed.setIfInBounds j true) = plus (listedB listed) j := by
  funext i
  simp only [listedB, plus, Array.getD_eq_getD_getElem?]
  by_cases e : i = j
  · subst e; simp [Array.getElem?_setIfInBounds, hj]
  · rw [Array.getElem?_setIfInBounds_ne (fun q => e q.symm)]; simp [e]

def missing (listed : Array Bool) : Nat := (List.range listed.size).countP fun i => !listed.getD i false

theorem all_listed {listed : Array Bool} (hreg : regOK ops (masksOf [] ops.toList) [] ops.toList = true) (hs : listed.size = ops.size) (h : Region.ready .any ops listed = []) : ∀ i, i < ops.size → listed.getD i false = true := by
  intro i
  induction i using Nat.strongRecOn with
  | _ i ih =>
    intro hi
    cases e : listed.getD i false with
    | true => rfl
    | false =>
      have hio : ops[i]? = some ops[i] := Array.getElem?_eq_getElem hi
      have hil : ops.toList[i]? = some ops[i] := by rw [Array.getElem?_toList]; exact hio
      have hlt := (regOK_spec ops.toList [] hreg i _ hil).1
      simp only [List.length_nil, Nat.zero_add] at hlt
      have : i ∈ Region.ready .any ops listed := by
        refine mem_ready.2 ⟨?_, _, hio, fun ed hed hb => ?_⟩
        · have : i < listed.size := by omega
          simp only [Array.getD_eq_getD_getElem?, Array.getElem?_eq_getElem this, Option.getD_some] at e ⊢
          exact e
        · have ha : ed.on ∈ afterL ops[i] := List.mem_map.2 ⟨ed, List.mem_filter.2 ⟨by simpa using hed, hb⟩, rfl⟩
          exact ih _ (hlt _ ha) (by have := hlt _ ha; omega)
      rw [h] at this; cases this

theorem plan_run (hp : Plan P n ops env H rs) {J0 : Inj} {F0 : Nat → Prop} {w0 : World} {Q : Exit → Act → World → Prop}
    (hQ : ∀ J F a w, Inv P n ops env H rs J0 F0 w0 (fun _ => true) J F a w → Q .normal a w) : ∀ (fuel : Nat) (listed : Array Bool) (J : Inj) (F : Nat → Prop) (a : Act) (w : World), listed.size = ops.size → missing listed ≤ fuel → Inv P n ops env H rs J0 F0 w0 (listedB listed) J F a w → wpAny P .any ops Q fuel listed a w := by
  have done : ∀ (listed : Array Bool) (J : Inj) (F : Nat → Prop) (a : Act) (w : World), listed.size = ops.size → (∀ i, i < ops.size → listed.getD i false = true) → Inv P n ops env H rs J0 F0 w0 (listedB listed) J F a w → Q .normal a w := fun listed J F a w hs hall hv => by
    refine hQ J F a w ⟨fun _ _ _ _ _ _ => rfl, hv.defers, hv.size, fun t => ?_, ?_, hv.ext, fun id hid => (hv.dom id hid).imp_right fun ⟨i, i1, _, i3⟩ => ⟨i, i1, rfl, i3⟩⟩
    · have := hv.tmps t
      have e : Et ops.toList rs env (listedB listed) ops.size t = Et ops.toList rs env (fun _ => true) ops.size t := Et_agree ops.size fun i hi _ => hall i hi
      rwa [e] at this
    · have e : Gt rs H (listedB listed) ops.size = Gt rs H (fun _ => true) ops.size := funext fun id => Gt_agree ops.size fun i hi _ => hall i hi
      have := hv.ok
      rwa [e] at this
  have key : ∀ (listed : Array Bool) (j : Nat), listed.size = ops.size → j ∈ Region.ready .any ops listed → j < ops.size ∧ listed.getD j false = false := fun listed j hs hj => by
    obtain ⟨o, h1, h2, _⟩ := ready_spec hj
    have hjs : j < ops.size := by
      rcases Nat.lt_or_ge j ops.size with h | h
      · exact h
      · rw [Array.getElem?_eq_none h] at h1; cases h1
    refine ⟨hjs, ?_⟩
    have : j < listed.size := by omega
    simp only [Array.getD_eq_getD_getElem?, Array.getElem?_eq_getElem this, Option.getD_some] at h2 ⊢
    exact h2
  intro fuel
  induction fuel with
  | zero =>
    intro listed J F a w hs hm hv
    have hall : ∀ i, i < ops.size → listed.getD i false = true := fun i hi => by
      have h0 : missing listed = 0 := by omega
      unfold missing at h0
      rw [List.countP_eq_zero] at h0
      have := h0 i (by simp; omega)
      simpa using this
    refine ⟨?_, done listed J F a w hs hall hv⟩
    cases e : Region.ready .any ops listed with
    | nil => rfl
    | cons j r =>
      obtain ⟨q1, q2⟩ := key listed j hs (by rw [e]; simp)
      rw [hall j q1] at q2; cases q2
  | succ fuel ih =>
    intro listed J F a w hs hm hv
    refine ⟨fun h => done listed J F a w hs (all_listed hp.reg hs h) hv, fun j hj => ?_⟩
    obtain ⟨o, h1, h2, h3⟩ := ready_spec hj
    obtain ⟨q1, q2⟩ := key listed j hs hj
    have hm' : missing (listed.setIfInBounds j true) ≤ fuel := by
      have hlt : missing (listed.setIfInBounds j true) < missing listed := by
        unfold missing
        rw [Array.size_setIfInBounds]
        have hmem : j ∈ List.range listed.size := by simp; omega
        obtain ⟨l1, l2, hl⟩ := List.append_of_mem hmem
        have hnd : (List.range listed.size).Nodup := List.nodup_range
        rw [hl] at hnd ⊢
        have hne1 : ∀ x ∈ l1, x ≠ j := fun x hx e => by
          subst e
          rw [List.nodup_append] at hnd
          exact hnd.2.2 x hx x (by simp) rfl
        have hne2 : ∀ x ∈ l2, x ≠ j := fun x hx e => by
          subst e
          rw [List.nodup_append] at hnd
          have := hnd.2.1
          simp at this
          exact this.1 hx
        have hset : ∀ x, x ≠ j → (listed.setIfInBounds j true).getD x false = listed.getD x false := fun x hx => by
          simp only [Array.getD_eq_getD_getElem?]
          rw [Array.getElem?_setIfInBounds_ne (fun q => hx q.symm)]
        rw [List.countP_append, List.countP_append, List.countP_cons, List.countP_cons]
        have c1 : l1.countP (fun i => !(listed.setIfInBounds j true).getD i false) = l1.countP (fun i => !listed.getD i false) := List.countP_congr fun x hx => by rw [hset x (hne1 x hx)]
        have c2 : l2.countP (fun i => !(listed.setIfInBounds j true).getD i false) = l2.countP (fun i => !listed.getD i false) := List.countP_congr fun x hx => by rw [hset x (hne2 x hx)]
        rw [c1, c2, q2]
        have : (listed.setIfInBounds j true).getD j false = true := by
          simp only [Array.getD_eq_getD_getElem?]
          simp [Array.getElem?_setIfInBounds, show j < listed.size by omega]
        rw [this]
        simp
      omega
    have st := hp.step hv h1 (by simpa [listedB] using q2) (by simpa [listedB] using h3) (K := wpAny P .any ops Q fuel (listed.setIfInBounds j true)) (Q := Q) fun J' F' a' w' hv' => ih _ J' F' a' w' (by simp [hs]) hm' (by rw [listedB_set (by omega)]; exact hv')
    unfold wpOp
    simp only [h1]
    split
    · rename_i hw; rw [if_pos hw] at st; exact .inl st
    · rename_i hw; rw [if_neg hw] at st; exact st

theorem drawn_sound {l : List POper} {Q : Exit → Act → World → Prop} {K' : Env → List AObj → Prop} (h : runDraw P l env H K') {id : Nat} (hc : cRegion P n ops true = some l) {J : Inj} {F : Nat → Prop} {a : Act} {w : World} (hr : StRep n J F env H a w)
    (hQ : ∀ env' H' J' F' a' w', K' env' H' → StRep n J' F' env' H' a' w' → Ext J F w J' F' w' → Q .normal a' w') : (Code.region id ops true).wp P Q a w := by
  simp only [cRegion] at hc
  split at hc
  · rename_i hb
    rw [Bool.and_eq_true] at hb
    unfold runDraw at h
    obtain ⟨rs, env', H', h1, h2, h3⟩ := runD_spec ops.toList _ l hc env H _ h
    obtain ⟨r1, r2, r3, r4⟩ := h1.at
    have hlen : rs.length = ops.size := by simpa using r1
    have hllen : l.length = ops.size := by rw [cOpers_len _ _ _ hc]; simp
    have ent : ∀ i, i < ops.size → (rs.map Rec.entry)[i]? = some (recAt rs i).entry := fun i hi => by
      have e1 := List.getElem?_eq_getElem (show i < rs.length by omega)
      rw [List.getElem?_map, e1, recAt_of e1]; rfl
    have bit : ∀ j (hj : j < l.length) i, bitOf l[j].mask i = true → Bef ops i j := fun j hj i h => by
      have hm := cOpers_mask _ _ _ hc j _ (List.getElem?_eq_getElem hj)
      rw [hm] at h
      exact bitOf_test h
    have hsub : ∀ r : Rec, ∀ b, clash (liteE r.entry) b = true → clash (r.rd, r.wr) b = true := fun r b h => by
      rw [clash_iff] at h ⊢
      rw [liteE_wr] at h
      refine h.imp_right fun h => h.imp_right fun ⟨x, q1, q2⟩ => ⟨x, q1, ?_⟩
      unfold liteE at q2
      split at q2
      · cases q2
      · exact q2
    have hK : K' env' H' ∧ Plan P n ops env H rs := by
      split at h2
      · rename_i hmem
        have strict : ∀ i j, i < j → j < ops.size → clash ((recAt rs i).rd, (recAt rs i).wr) ((recAt rs j).rd, (recAt rs j).wr) = true → Bef ops i j := fun i j hij hj hcl => by
          have hpl : j < l.length := by omega
          refine bit j hpl i (memOK_spec l [] _ hmem j l[j] (recAt rs j).entry (List.getElem?_eq_getElem hpl) (ent j hj) i ((recAt rs i).rd, (recAt rs i).wr) (by simpa using hij) ?_ hcl)
          rw [List.nil_append, List.getElem?_map, ent i (by omega)]; rfl
        exact ⟨h2, r4, hlen, hb.2, fun i j hij hj hcl => strict i j hij hj (hsub _ _ hcl), fun i id k hl j hij hj hw => .inl (strict i j hij hj ((clash_iff _ _).2 (.inr (.inr ⟨id, hw, by
          obtain ⟨r, q1, q2⟩ := r4 i _ (List.getElem?_eq_getElem (show i < ops.toList.length by simp; omega))
          rw [recAt_of q1] at hl ⊢
          rw [(q2.2.2.1 id k hl).1]; simp⟩))))⟩
      · split at h2
        · rename_i hmem
          obtain ⟨hk, hw⟩ := lightK_spec l _ 0 [] h2 (by simp; omega)
          refine ⟨hk, r4, hlen, hb.2, fun i j hij hj hcl => ?_, fun i id k hl j hij hj hwr => ?_⟩
          · have hpl : j < l.length := by omega
            refine bit j hpl i (memOKL_spec l [] _ hmem j l[j] (recAt rs j).entry (List.getElem?_eq_getElem hpl) (ent j hj) i (liteE (recAt rs i).entry) (by simpa using hij) ?_ hcl)
            rw [List.nil_append, List.getElem?_map, ent i (by omega)]; rfl
          · have hpl : j < l.length := by omega
            have := (hw j l[j] _ _ _ _ (List.getElem?_eq_getElem hpl) (ent j hj)).2 i ((recAt rs i).rd, (recAt rs i).wr) (id, k) (recAt rs i).d (recAt rs i).H2 hij (by rw [ent i (by omega), ← hl]; rfl)
            rw [Nat.zero_add] at this
            rcases this with q | q | q
            · exact .inl (bit j hpl i q)
            · exact absurd hwr q
            · exact .inr q
        · exact h2.elim
    obtain ⟨h2, hp⟩ := hK
    · skip
      refine wp_region_any hb.1 (plan_run hp (J0 := J) (F0 := F) (w0 := w) (fun J' F' a' w' hv => ?_) _ _ J F a _ (by simp) ?_ ?_)
      · refine hQ env' H' J' F' a' w' h2 ⟨hv.defers, hv.size, fun t => ?_, ?_, fun i hi => ?_⟩ hv.ext
        · have := hv.tmps t
          rw [Et_all hp.at_ _ (by simp)] at this
          rw [← r2]
          simpa using this
        · have := hv.ok
          have e : Gt rs H (fun _ => true) ops.size = fun i => H'[i]? := funext fun i => by
            rw [Gt_all hp.at_ _ (by simp), ← r3]; simp
          rwa [e] at this
        · rcases hv.dom i hi with q | ⟨k, k1, _, k3⟩
          · have := heapT_le hp.at_ ops.size 0 (by omega) (by simp)
            simp only [heapT] at this
            rw [← r3]; simp; omega
          · have := wr_lt hp.at_ k1 (by simp) k3
            rw [← r3]; simpa using this
      · unfold missing
        refine Nat.le_trans List.countP_le_length ?_
        simp
      · have hf : listedB (Array.replicate ops.size false) = fun _ => false := by
          funext i
          simp only [listedB, Array.getD_eq_getD_getElem?, Array.getElem?_replicate]
          split <;> rfl
        rw [hf]
        have e1 : ∀ k t, Et ops.toList rs env (fun _ => false) k t = lookD t env := fun k t => by
          induction k with
          | zero => rfl
          | succ k ih => simp only [Et]; rw [if_neg (by simp)]; exact ih
        have e2 : ∀ k i, Gt rs H (fun _ => false) k i = H[i]? := fun k i => by
          induction k with
          | zero => rfl
          | succ k ih => simp only [Gt]; rw [if_neg (by simp)]; exact ih
        have hd : Ext J F w J F { w with drawn := w.drawn + 1 } := Ext.drew
        refine ⟨(fun _ _ _ h => by cases h), hr.defers, hr.size, fun t => ?_, ?_, hd, fun i hi => .inl (hr.dom i hi)⟩
        · rw [e1]; exact rep_ext hd (hr.tmps t)
        · have : Gt rs H (fun _ => false) ops.size = fun i => H[i]? := funext (e2 _)
          rw [this]
          exact hr.ok.drew
  · cases hc
end
end

/-! ### XDsb -/
section
open Go.RowKit
set_option linter.unusedSimpArgs false
set_option linter.unusedVariables false

/-- What a piece of code's reckoning says of the machine. -/
def conc (n : Nat) (J : Inj) (F : Nat → Prop) (w : World) (Q : Post) : Exit → Act → World → Prop := fun e a' w' => ∃ env' H' J' F', Q e env' H' ∧ StRep n J' F' env' H' a' w' ∧ Ext J F w J' F' w'

section
variable {P : Program} {n : Nat}

theorem pwp_out {p : PC} {Q : Post} {env : Env} {H : List AObj} (h : PWp P n p Q env H) {c : Code} (hc : comp P n c = some p.bare) {J : Inj} {F : Nat → Prop} {a : Act} {w : World} (hr : StRep n J F env H a w) : c.wp P (conc n J F w Q) a w := by
  unfold PWp at h
  exact h c hc J F a w hr
theorem pwp_mk {p : PC} {Q : Post} {env : Env} {H : List AObj} (h : ∀ (c : Code), comp P n c = some p.bare → ∀ (J : Inj) (F : Nat → Prop) (a : Act) (w : World), StRep n J F env H a w → c.wp P (conc n J F w Q) a w) : PWp P n p Q env H := by
  unfold PWp
  exact h

theorem pwp_mono {p : PC} {Q Q' : Post} {env : Env} {H : List AObj} (h : PWp P n p Q env H) (k : ∀ e env H, Q e env H → Q' e env H) : PWp P n p Q' env H :=
  pwp_mk fun c hc J F a w hr => wp_mono (pwp_out h hc hr) fun e a' w' ⟨env', H', J', F', q1, q2⟩ => ⟨env', H', J', F', k _ _ _ q1, q2⟩

theorem conc_later {J J' : Inj} {F F' : Nat → Prop} {w w' : World} {Q : Post} {e : Exit} {a : Act} {w'' : World} (hx : Ext J F w J' F' w') (h : conc n J' F' w' Q e a w'') : conc n J F w Q e a w'' :=
  let ⟨env', H', J'', F'', q1, q2, q3⟩ := h
  ⟨env', H', J'', F'', q1, q2, hx.trans q3⟩

theorem pwp_ghost {p : PC} {Q : Post} {env env' : Env} {H H' : List AObj} (h : St.le n env H env' H') (k : PWp P n p Q env' H') : PWp P n p Q env H :=
  pwp_mk fun c hc J F a w hr => by
    obtain ⟨J', F', h1, h2⟩ := h J F a w hr
    exact wp_mono (pwp_out k hc h1) fun e a' w' q => conc_later h2 q

theorem sameE_look {env : Env} : ∀ (env' : Env), sameE env env' → ∀ t, lookD t env' = lookD t env ∨ lookD t env' = .junk
  | [], _, t => .inr rfl
  | (k, d) :: r, h, t => by
    simp only [sameE] at h
    rw [lookD_cons]
    split
    · rename_i e; rw [e]; exact .inl h.1.symm
    · exact sameE_look r h.2 t

theorem le_env {env env' : Env} {H : List AObj} (h : sameE env env') : St.le n env H env' H := fun J F a w hr =>
  ⟨J, F, ⟨hr.defers, hr.size, fun t => by
    rcases sameE_look env' h t with e | e
    · rw [e]; exact hr.tmps t
    · rw [e]; simp only [rep], hr.ok, hr.dom⟩, Ext.refl _ _ _⟩
theorem le_trans {env env' env'' : Env} {H H' H'' : List AObj} (h : St.le n env H env' H') (k : St.le n env' H' env'' H'') : St.le n env H env'' H'' := fun J F a w hr => by
  obtain ⟨J', F', h1, h2⟩ := h J F a w hr
  obtain ⟨J'', F'', k1, k2⟩ := k J' F' a w h1
  exact ⟨J'', F'', k1, h2.trans k2⟩
theorem le_refl' {env : Env} {H : List AObj} : St.le n env H env H := fun J F a w hr => ⟨J, F, hr, Ext.refl _ _ _⟩

/-! ### From the reckoning to the machine -/

theorem comp_skip {c : Code} (h : comp P n c = some .skip) : c = .skip := by
  cases c <;> simp [comp] at h
  · rfl
  all_goals first | (obtain ⟨_, _, h⟩ := h; cases h) | (split at h <;> simp at h) | skip
theorem comp_seq {c : Code} {x y : PC} (h : comp P n c = some (.seq x y)) : ∃ a b, c = .seq a b ∧ comp P n a = some x ∧ comp P n b = some y := by
  cases c <;> simp [comp] at h
  case seq a b =>
    split at h
    · rename_i e1 e2; simp at h; obtain ⟨rfl, rfl⟩ := h; exact ⟨a, b, rfl, e1, e2⟩
    · cases h
  all_goals first | (obtain ⟨_, _, h⟩ := h; cases h) | (split at h <;> simp at h)
theorem comp_cond {c : Code} {z : Operand} {x y : PC} (h : comp P n c = some (.cond z x y)) : ∃ a b, c = .cond z a b ∧ comp P n a = some x ∧ comp P n b = some y := by
  cases c <;> simp [comp] at h
  case cond z' a b =>
    split at h
    · rename_i e1 e2; simp at h; obtain ⟨rfl, rfl, rfl⟩ := h; exact ⟨a, b, rfl, e1, e2⟩
    · cases h
  all_goals first | (obtain ⟨_, _, h⟩ := h; cases h) | (split at h <;> simp at h)
theorem comp_block {c : Code} {id : Nat} {x : PC} (h : comp P n c = some (.block id x)) : ∃ a, c = .block id a ∧ comp P n a = some x := by
  cases c <;> simp [comp] at h
  case block id' a => obtain ⟨h1, rfl⟩ := h; exact ⟨a, rfl, h1⟩
  all_goals first | (split at h <;> simp at h)
theorem comp_loop {c : Code} {x : PC} (h : comp P n c = some (.loop x)) : ∃ a, c = .loop a ∧ comp P n a = some x := by
  cases c <;> simp [comp] at h
  case loop a => exact ⟨a, rfl, h⟩
  all_goals first | (split at h <;> simp at h)
theorem comp_exit {c : Code} {id : Nat} (h : comp P n c = some (.exit id)) : c = .exit id := by
  cases c <;> simp [comp] at h
  case exit id' => rw [h]
  all_goals first | (split at h <;> simp at h)
theorem comp_ret {c : Code} (h : comp P n c = some .ret) : c = .ret := by
  cases c <;> simp [comp] at h
  · first | rfl | (split at h <;> simp at h)
  all_goals first | rfl | (split at h <;> simp at h)
theorem comp_ops {c : Code} {l : List POper} {d : Bool} (h : comp P n c = some (.ops l d)) : ∃ id ops, c = .region id ops d ∧ cRegion P n ops d = some l := by
  cases c <;> simp [comp] at h
  case region id ops d' => obtain ⟨l', h1, rfl, rfl⟩ := h; exact ⟨id, ops, rfl, h1⟩
  all_goals first | (split at h <;> simp at h)

theorem comp_bare_stop {c : PC} : (PC.stop c).bare = c.bare := rfl

theorem draw_sound {l : List POper} {Q : Post} {env : Env} {H : List AObj} (h : runDraw P l env H fun env H => Q .normal env H) {id : Nat} {ops : Array Oper} (hc : cRegion P n ops true = some l) {J : Inj} {F : Nat → Prop} {a : Act} {w : World} (hr : StRep n J F env H a w) :
    (Code.region id ops true).wp P (conc n J F w Q) a w := drawn_sound h hc hr fun env' H' J' F' a' w' q1 q2 q3 => ⟨env', H', J', F', q1, q2, q3⟩

theorem pw_sound : ∀ (p : PC) (Q : Post) (env : Env) (H : List AObj), pw P n p Q env H → PWp P n p Q env H
  | .skip, Q, env, H, h => pwp_mk fun c hc J F a w hr => by
    rw [comp_skip hc]
    exact wp_skip ⟨env, H, J, F, h, hr, Ext.refl _ _ _⟩
  | .ops l d, Q, env, H, h => pwp_mk fun c hc J F a w hr => by
    obtain ⟨id, ops, rfl, h1⟩ := comp_ops hc
    cases d with
    | false =>
      refine wp_region ?_
      rw [List.range_eq_range']
      have := runOps_sound (P := P) (ops := ops) (Q := conc n J F w Q) ops.toList 0 [] l (fun j => by simp) h1 env H J F a w h hr fun env' H' J' F' a' w' q1 q2 q3 => ⟨env', H', J', F', q1, q2, q3⟩
      simpa using this
    | true => exact draw_sound h h1 hr
  | .seq x y, Q, env, H, h => pwp_mk fun c hc J F a w hr => by
    obtain ⟨a', b', rfl, h1, h2⟩ := comp_seq hc
    refine wp_seq (wp_mono (pwp_out (pw_sound x _ env H h) h1 hr) fun e a1 w1 ⟨env', H', J', F', q1, q2, q3⟩ => ?_)
    cases e with
    | normal => exact wp_mono (pwp_out (pw_sound y Q env' H' q1) h2 q2) fun e a2 w2 q => conc_later q3 q
    | _ => exact ⟨env', H', J', F', q1, q2, q3⟩
  | .cond z x y, Q, env, H, h => pwp_mk fun c hc J F a w hr => by
    obtain ⟨a', b', rfl, h1, h2⟩ := comp_cond hc
    simp only [pw, evK_eq] at h
    split at h
    · rename_i t e
      have hz := hr.eval z
      rw [e] at hz
      simp only [rep] at hz
      obtain ⟨k1, k2⟩ := ifK_iff.1 h
      refine wp_cond hz ?_
      cases t with
      | true => exact pwp_out (pw_sound x Q env H (k1 rfl)) h1 hr
      | false => exact pwp_out (pw_sound y Q env H (k2 rfl)) h2 hr
    · exact h.elim
  | .block id x, Q, env, H, h => pwp_mk fun c hc J F a w hr => by
    obtain ⟨a', rfl, h1⟩ := comp_block hc
    refine wp_block (wp_mono (pwp_out (pw_sound x _ env H h) h1 hr) fun e a1 w1 ⟨env', H', J', F', q1, q2, q3⟩ => ?_)
    cases e with
    | exit id' =>
      simp only [Exit.inBlock]
      by_cases e : id' = id
      · subst e
        rw [if_pos rfl]
        have hb : Nat.beq id' id' = true := by simp
        simp only [hb] at q1
        exact ⟨env', H', J', F', q1, q2, q3⟩
      · rw [if_neg e]
        have hb : Nat.beq id' id = false := by
          cases h : Nat.beq id' id
          · rfl
          · exact absurd (Nat.eq_of_beq_eq_true h) e
        simp only [hb] at q1
        exact ⟨env', H', J', F', q1, q2, q3⟩
    | _ => exact ⟨env', H', J', F', q1, q2, q3⟩
  | .loop x, Q, env, H, h => h
  | .exit id, Q, env, H, h => pwp_mk fun c hc J F a w hr => by
    rw [comp_exit hc]
    exact wp_exit ⟨env, H, J, F, h, hr, Ext.refl _ _ _⟩
  | .ret, Q, env, H, h => pwp_mk fun c hc J F a w hr => by
    rw [comp_ret hc]
    exact wp_ret ⟨env, H, J, F, h, hr, Ext.refl _ _ _⟩
  | .stop x, Q, env, H, h => pwp_mk fun c hc J F a w hr => pwp_out h hc hr

theorem pwp_loop {p : PC} {Q : Post} {env : Env} {H : List AObj} {ι : Type} (E : ι → Env) (O : ι → List AObj) (G : ι → Prop) (m : ι → Nat) (i : ι) (h0 : G i) (h1 : St.le n env H (E i) (O i))
    (round : ∀ j, G j → PWp P n p (loopQ n Q E O G m (m j)) (E j) (O j)) : PWp P n (.loop p) Q env H := pwp_mk fun c hc J F a w hr => by
  obtain ⟨c', rfl, hc'⟩ := comp_loop hc
  obtain ⟨J0, F0, k1, k2⟩ := h1 J F a w hr
  refine wp_loop_ghost (fun k a' w' => ∃ j J' F', G j ∧ m j = k ∧ StRep n J' F' (E j) (O j) a' w' ∧ Ext J F w J' F' w') (m i) ⟨i, J0, F0, h0, rfl, k1, k2⟩ fun k a1 w1 ⟨j, J1, F1, g1, g2, g3, g4⟩ => ?_
  refine wp_mono (pwp_out (round j g1) hc' g3) fun e a2 w2 ⟨env', H', J', F', q1, q2, q3⟩ => ?_
  cases e with
  | normal =>
    obtain ⟨j', r1, r2, r3⟩ := q1
    obtain ⟨J2, F2, t1, t2⟩ := r3 J' F' a2 w2 q2
    exact ⟨m j', by omega, j', J2, F2, r1, rfl, t1, (g4.trans q3).trans t2⟩
  | _ => exact ⟨env', H', J', F', q1, q2, g4.trans q3⟩

/-! ### Calls -/

theorem params_look : ∀ (args : List D) (k t : Nat), lookD t (params k args) = if k ≤ t then (args[t - k]?).getD .junk else .junk
  | [], k, t => by simp [params, lookD]
  | d :: r, k, t => by
    simp only [params]
    rw [lookD_cons, params_look r (k + 1) t]
    by_cases h1 : t = k
    · subst h1; simp
    · rw [if_neg h1]
      by_cases h2 : k + 1 ≤ t
      · rw [if_pos h2, if_pos (by omega), show t - k = t - (k + 1) + 1 by omega, List.getElem?_cons_succ]
      · rw [if_neg h2, if_neg (by omega)]

section
variable {J J' : Inj} {F : Nat → Prop} {w : World}
mutual
theorem pure_rep : ∀ (d : D) (v : Value), Pure d → rep J F w d v → rep J' F w d v
  | .junk, v, _, _ => by simp only [rep]
  | .sc u, v, _, h => by simpa only [rep] using h
  | .gv u, v, _, h => by simpa only [rep] using h
  | .loc .., v, hp, _ => by simp only [Pure] at hp
  | .elt .., v, hp, _ => by simp only [Pure] at hp
  | .own .., v, hp, _ => by simp only [Pure] at hp
  | .ipt cs, v, hp, h => by
    simp only [Pure] at hp
    simp only [rep] at h ⊢
    obtain ⟨b, o, h1, h2, h3⟩ := h
    exact ⟨b, o, h1, h2, pure_cells b cs o hp h3⟩
  | .lst esz xs, v, hp, h => by
    simp only [Pure] at hp
    simp only [rep] at h ⊢
    obtain ⟨A, n, c, h1, h2, hc, h3⟩ := h
    exact ⟨A, n, c, h1, h2, hc, h3.imp_right fun ⟨b, o, h4, h5, h6⟩ => ⟨b, o, h4, h5, pure_rows b esz xs o hp h6⟩⟩
  | .fn f a b, v, hp, h => by
    simp only [Pure] at hp
    simp only [rep] at h ⊢
    obtain ⟨vs, us, h1, h2, h3⟩ := h
    exact ⟨vs, us, h1, pure_repL a vs hp.1 h2, pure_repL b us hp.2 h3⟩
  | .ifc t d, v, hp, h => by
    simp only [Pure] at hp
    simp only [rep] at h ⊢
    obtain ⟨u, h1, h2⟩ := h
    exact ⟨u, h1, pure_rep d u hp h2⟩
  | .agg cs, v, hp, h => by
    simp only [Pure] at hp
    simp only [rep] at h ⊢
    obtain ⟨vs, h1, h2⟩ := h
    exact ⟨vs, h1, pure_repL cs vs hp h2⟩
  | .tup cs, v, hp, h => by
    simp only [Pure] at hp
    simp only [rep] at h ⊢
    obtain ⟨vs, h1, h2⟩ := h
    exact ⟨vs, h1, pure_repL cs vs hp h2⟩
theorem pure_repL : ∀ (d : List D) (v : List Value), PureL d → repL J F w d v → repL J' F w d v
  | [], v, _, h => by simpa only [repL] using h
  | d :: r, v, hp, h => by
    simp only [PureL] at hp
    simp only [repL] at h ⊢
    obtain ⟨u, us, h1, h2, h3⟩ := h
    exact ⟨u, us, h1, pure_rep d u hp.1 h2, pure_repL r us hp.2 h3⟩
theorem pure_cells (b : Nat) : ∀ (d : List D) (o : Nat), PureL d → repCells J F w b d o → repCells J' F w b d o
  | [], o, _, h => by simp only [repCells]
  | d :: r, o, hp, h => by
    simp only [PureL] at hp
    simp only [repCells] at h ⊢
    obtain ⟨⟨u, h1, h2, h3⟩, h4⟩ := h
    exact ⟨⟨u, h1, h2, pure_rep d u hp.1 h3⟩, pure_cells b r (o + 1) hp.2 h4⟩
theorem pure_rows (b esz : Nat) : ∀ (d : List (List D)) (o : Nat), PureLL d → repRows J F w b esz d o → repRows J' F w b esz d o
  | [], o, _, h => by simp only [repRows]
  | d :: r, o, hp, h => by
    simp only [PureLL] at hp
    simp only [repRows] at h ⊢
    exact ⟨h.1, pure_cells b d o hp.1 h.2.1, pure_rows b esz r (o + esz) hp.2 h.2.2⟩
end
end

/-- The results, off the temporaries. -/
def resultOf (tmps : Array Value) : ResultVar → Sem Value
  | .tmp t => pure (tmps.getD t undef)
  | .cell a t => do loadVar t (← asAddr (tmps.getD a undef))

theorem run_loadVar {t : TypeId} {a : Addr} {w : World} {v : Value} (h : (Instr.loadAt t (.pointer (some a))).run P w = .ok v w) : (loadVar t a).run P w = .ok v w := by
  simpa [Instr.loadAt, Instr.sureAddr] using h

theorem results_run {J : Inj} {F : Nat → Prop} {env : Env} {H : List AObj} {a : Act} {w : World} (hr : StRep n J F env H a w) : ∀ (l : List ResultVar) (rs : List RV) (K' : List D → Prop), crvs P l = some rs → resultsK env H rs K' →
    ∃ ds vs, K' ds ∧ (l.mapM (resultOf a.tmps)).run P w = .ok vs w ∧ repL J F w ds vs
  | [], rs, K', hc, h => by
    simp [crvs] at hc; subst hc
    exact ⟨[], [], h, by simp [pure, Sem.run], by simp only [repL]⟩
  | r :: l, rs, K', hc, h => by
    simp only [crvs] at hc
    split at hc
    · rename_i x y e1 e2
      cases hc
      have step : ∀ (d : D) (v : Value), (resultOf a.tmps r).run P w = .ok v w → rep J F w d v → resultsK env H y (fun ds => K' (d :: ds)) → ∃ ds vs, K' ds ∧ ((r :: l).mapM (resultOf a.tmps)).run P w = .ok vs w ∧ repL J F w ds vs := fun d v q1 q2 q3 => by
        obtain ⟨ds, vs, k1, k2, k3⟩ := results_run hr l y _ e2 q3
        refine ⟨d :: ds, v :: vs, k1, ?_, by simp only [repL]; exact ⟨v, vs, rfl, q2, k3⟩⟩
        rw [List.mapM_cons]
        simp only [Sem.run_bind, q1, Result.andThen_ok, k2, pure, Sem.run]
      cases r with
      | tmp t =>
        simp [crv] at e1; subst e1
        simp only [resultsK, lookK_eq] at h
        exact step _ _ (by simp [resultOf, pure, Sem.run]) (hr.tmps t) h
      | cell t ty =>
        simp only [crv] at e1
        have ptr : ∀ id off m cs, lookD t env = .loc id off → H[id]? = some (.row m cs) → ∃ b o, a.tmps.getD t undef = .pointer (some ⟨b, o, none⟩) ∧ repCells J F w b (cs.drop off) o := fun id off m cs q1 q2 => by
          have q3 := hr.tmps t
          rw [q1] at q3
          exact points_loc (P := P) (env := env) q2 J F w _ _ hr.ok (fun _ _ => rfl) q3
        split at e1
        · rename_i hag
          cases e1
          simp only [resultsK, lookK_eq] at h
          split at h
          · rename_i id off e3
            obtain ⟨ob, h1, h2⟩ := (hgetK_iff _ _ _).1 h
            split at h2
            · rename_i m cs
              obtain ⟨h3, h4⟩ := (dropK_iff _ _ _).1 h2
              obtain ⟨h5, h6⟩ := (takeK_iff _ _ _).1 h4
              obtain ⟨b, o, p1, p2⟩ := ptr id off m cs e3 h1
              have p3 := repCells_part p2 0 (P.cellsOf ty)
              simp only [List.drop_zero, Nat.add_zero] at p3
              obtain ⟨vs, p4, p5, _⟩ := repCells_vals _ _ p3
              have hl : vs.length = P.cellsOf ty := by rw [repL_len _ _ p4, List.length_take]; omega
              refine step _ (.agg vs.toArray) ?_ (by simp only [rep]; exact ⟨vs, rfl, p4⟩) h6
              simp only [resultOf, p1, asAddr, pure, Sem.run_bind, Sem.run, Result.andThen_ok]
              exact run_loadVar (run_load_agg hag hl p5)
            · exact h2.elim
          · exact h.elim
        · rename_i hag
          cases e1
          simp only [resultsK, lookK_eq] at h
          split at h
          · rename_i id off e3
            obtain ⟨ob, h1, h2⟩ := (hgetK_iff _ _ _).1 h
            split at h2
            · rename_i m cs
              obtain ⟨c, h3, h4⟩ := (atK_iff _ _ _).1 h2
              obtain ⟨b, o, p1, p2⟩ := ptr id off m cs e3 h1
              obtain ⟨u, p3, _, p4⟩ := repCells_get _ o 0 c (by rw [List.getElem?_drop]; exact h3) p2
              refine step _ u ?_ p4 h4
              simp only [resultOf, p1, asAddr, pure, Sem.run_bind, Sem.run, Result.andThen_ok]
              exact run_loadVar (run_load_one hag (by simpa using p3))
            · exact h2.elim
          · exact h.elim
        · cases e1
    · cases hc

theorem results_all {fn : Func} {rs : List RV} (hrs : crvs P fn.results.toList = some rs) {J : Inj} {F : Nat → Prop} {env : Env} {H : List AObj} {a : Act} {w : World} (hr : StRep n J F env H a w) {R : D → List AObj → Prop} {e : Exit} (he : e = .normal ∨ e = .ret) (h : retK rs R e env H) :
    ∃ d v, R d H ∧ (results fn a.tmps).run P w = .ok v w ∧ rep J F w d v := by
  have h' : resultsK env H rs (fun ds => match ds with
    | [d] => R d H
    | ds => R (.tup ds) H) := by rcases he with rfl | rfl <;> exact h
  obtain ⟨ds, vs, k1, k2, k3⟩ := results_run hr fn.results.toList rs _ hrs h'
  have run : (results fn a.tmps).run P w = .ok (if h : vs.length = 1 then vs[0] else .tuple vs.toArray) w := by
    have e1 : (fn.results.mapM (resultOf a.tmps)).run P w = .ok vs.toArray w := by
      rw [Array.mapM_eq_mapM_toList]
      simp [k2]
    have e3 : results fn a.tmps = fn.results.mapM (resultOf a.tmps) >>= fun vs => pure (if h : vs.size = 1 then vs[0] else .tuple vs) := by
      unfold results
      congr 1
    rw [e3, Sem.run_bind, e1]
    simp [pure, Sem.run]
  have hl := repL_len _ _ k3
  match ds, k1, k3, hl with
  | [d], k1, k3, hl =>
    simp only [repL] at k3
    obtain ⟨v, us, rfl, q1, rfl⟩ := k3
    exact ⟨d, v, k1, by rw [run]; simp, q1⟩
  | [], k1, k3, hl =>
    refine ⟨.tup [], _, k1, run, ?_⟩
    have : vs = [] := List.length_eq_zero_iff.1 hl
    subst this
    simp only [rep]
    exact ⟨[], by simp, k3⟩
  | d :: d' :: r, k1, k3, hl =>
    refine ⟨.tup (d :: d' :: r), _, k1, run, ?_⟩
    simp only [List.length_cons] at hl
    rw [dif_neg (by omega)]
    simp only [rep]
    exact ⟨vs, rfl, k3⟩

/-- The temporaries at a call's entry. -/
theorem entry_rep {J : Inj} {F : Nat → Prop} {w : World} {args : List D} {vs : List Value} {H : List AObj} (hn : args.length ≤ n) (h : repL J F w args vs) (hok : StOK J F w (fun i => H[i]?)) (hd : ∀ id, J id ≠ none → id < H.length) :
    StRep n J F (params 0 args) H ⟨vs.toArray ++ Array.replicate (n - vs.toArray.size) undef, []⟩ w where
  defers := rfl
  size := by simp [repL_len _ _ h]; omega
  tmps t := by
    rw [params_look]
    simp only [Nat.zero_le, if_true, Nat.sub_zero]
    have hl := repL_len _ _ h
    cases e : args[t]? with
    | none => simp only [Option.getD_none, rep]
    | some d =>
      obtain ⟨v, h1, h2⟩ := repL_get _ _ _ _ e h
      have ht : t < vs.length := by
        rcases Nat.lt_or_ge t vs.length with h | h
        · exact h
        · rw [List.getElem?_eq_none h] at h1; cases h1
      simp only [Option.getD_some, Array.getD_eq_getD_getElem?]
      rw [Array.getElem?_append_left (by simpa using ht)]
      simp [h1, h2]
  ok := hok
  dom := hd

theorem funOK_ok {f : FuncId} {rs : List RV} {p : PC} (hf : FunOK P f n rs p) : okFun P f := by
  obtain ⟨fn, h1, _, h3, _, h5⟩ := hf.out
  refine ⟨fn, h1, h3, ?_⟩
  cases e : fn.body with
  | none => rw [e] at h5; cases h5
  | some c => rfl

theorem stOK_none {F : Nat → Prop} {w : World} (h : FOK F w) (G : Nat → Option AObj) : StOK noInj F w G := ⟨(fun _ _ h => by cases h), (fun _ _ _ _ _ h => by cases h), (fun _ _ _ _ h => by cases h), h⟩

/-- A function over data alone. -/
theorem pcall_intro {f : FuncId} {rs : List RV} {p : PC} {args : List D} {d : D} (hf : FunOK P f n rs p) (hn : args.length ≤ n) (hp : PureL args)
    (h : PWp P n p (retK rs fun r H => Deep H r d) (params 0 args) []) (hd : Pure d) : PCall P f args d := by
  refine ⟨funOK_ok hf, fun J F w vs hF hargs => ?_⟩
  obtain ⟨fn, h1, h2, h3, h4, h5⟩ := hf.out
  have hargs' : repL noInj F w args vs := pure_repL args vs hp hargs
  cases e : fn.body with
  | none => rw [e] at h5; cases h5
  | some c =>
    rw [e] at h5
    simp only [Option.bind_some] at h5
    refine calls_of_wp h1 e ?_
    rw [h2]
    refine wp_mono (pwp_out h h5 (entry_rep hn hargs' (stOK_none hF _) (fun id hid => absurd rfl hid))) fun e' a' w' ⟨env', H', J', F', q1, q2, q3⟩ => ?_
    have fin : e' = .normal ∨ e' = .ret → a'.defers = [] ∧ ∃ v, (results fn a'.tmps).run P w' = .ok v w' ∧ ∃ v' F'', Ending.returned v = Ending.returned v' ∧ (∀ b, F'' b → b < w'.heap.size) ∧ rep noInj F'' w' d v' ∧ Ext noInj F w noInj F'' w' := fun he => by
      obtain ⟨r, v, k1, k2, k3⟩ := results_all h4 q2 he q1
      refine ⟨q2.defers, v, k2, v, fun b => F' b ∨ Owns J' b, rfl, fun b hb => hb.elim (q2.ok.lt b) fun ⟨i, s, hi, hs⟩ => q2.ok.blk_lt hi hs, pure_rep d v hd (deep_sound q2.ok (fun _ _ h => h) _ _ _ k1 k3), ?_⟩
      exact ⟨q3.os, q3.tape, q3.output, q3.size, q3.block, q3.frozen, Inj.le_refl _, fun b hb => .inl (q3.grow b hb), fun b hb => absurd hb (noOwns b), fun b hb => by
        rcases hb with hb | hb
        · exact q3.growBack b hb
        · exact .inr ((q3.ownsBack b hb).imp_left fun q => absurd q (noOwns b))⟩
    cases e' with
    | normal => exact fin (.inl rfl)
    | ret => exact fin (.inr rfl)
    | exit id => exact q1.elim
    | goto l => exact q1.elim
    | panic ch => exact q1.elim
    | outgrown => exact q1.elim
end
end

/-! ### XDsf -/
section
open Go.RowKit
set_option linter.unusedSimpArgs false
set_option linter.unusedVariables false

section
variable {P : Program} {n : Nat}
/-- A function that turns its caller's objects, and may make some: the first m objects at its end are handed back. -/
theorem acall_intro {f : FuncId} {rs : List RV} {p : PC} {args : List D} {H : List AObj} {d : D} {H2 : List AObj} (hf : FunOK P f n rs p) (hn : args.length ≤ n) (hlen : H.length ≤ H2.length)
    (h : PWp P n p (retK rs fun r Hf => r = d ∧ Hf.take H2.length = H2 ∧ H2.length ≤ Hf.length) (params 0 args) H) (hd : Under H2.length d) (hH : ∀ o ∈ H2, o.under H2.length) : ACall P f args H d H2 := by
  refine ⟨funOK_ok hf, hlen, fun J F w vs hok hdom hargs => ?_⟩
  obtain ⟨fn, h1, h2, h3, h4, h5⟩ := hf.out
  cases e : fn.body with
  | none => rw [e] at h5; cases h5
  | some c =>
    rw [e] at h5
    simp only [Option.bind_some] at h5
    refine calls_of_wp h1 e ?_
    rw [h2]
    refine wp_mono (pwp_out h h5 (entry_rep hn hargs hok hdom)) fun e' a' w' ⟨env', H', J', F', q1, q2, q3⟩ => ?_
    have fin : e' = .normal ∨ e' = .ret → a'.defers = [] ∧ ∃ v, (results fn a'.tmps).run P w' = .ok v w' ∧ ∃ v' J'' F'', Ending.returned v = Ending.returned v' ∧ StOK J'' F'' w' (fun i => H2[i]?) ∧ (∀ id, J'' id ≠ none → id < H2.length) ∧ rep J'' F'' w' d v' ∧ Ext J F w J'' F'' w' := fun he => by
      obtain ⟨r, v, ⟨rfl, k1, k1'⟩, k2, k3⟩ := results_all h4 q2 he q1
      have hget : ∀ i, i < H2.length → H2[i]? = H'[i]? := fun i hi => by
        conv => lhs; rw [← k1]
        rw [List.getElem?_take, if_pos hi]
      have kle : (keepTo H2.length J').le J' := fun i s hs => by
        unfold keepTo at hs
        split at hs
        · exact ⟨s, hs, Nat.le_refl _, fun _ => rfl⟩
        · cases hs
      refine ⟨q2.defers, v, k2, v, keepTo H2.length J', F', rfl, ⟨fun i s hs => ?_, fun i i' s s' b g1 g2 g3 g4 => ?_, fun i s b o g1 g2 g3 g4 => ?_, q2.ok.lt⟩, fun i hi => ?_, rep_keep _ _ hd k3, ?_⟩
      · unfold keepTo at hs
        split at hs
        · rename_i hi
          obtain ⟨o, g1, g2⟩ := q2.ok.obj i s hs
          have g1' : H2[i]? = some o := by rw [hget i hi]; exact g1
          exact ⟨o, g1', objOK_keep (hH o (List.mem_of_getElem? g1')) g2⟩
        · cases hs
      · unfold keepTo at g1 g2
        split at g1 <;> split at g2
        · exact q2.ok.one i i' s s' b g1 g2 g3 g4
        all_goals first | cases g1 | cases g2
      · unfold keepTo at g1
        split at g1
        · rename_i hi
          exact q2.ok.apart i s b o g1 g2 (by rw [← hget i hi]; exact g3) g4
        · cases g1
      · unfold keepTo at hi
        split at hi
        · assumption
        · exact absurd rfl hi
      · refine ⟨q3.os, q3.tape, q3.output, q3.size, q3.block, q3.frozen, fun i s hs => ?_, q3.grow, fun b ⟨i, s, hs, hb⟩ => ?_, q3.growBack⟩
        · obtain ⟨s', g1, g2, g3⟩ := q3.le i s hs
          have hi : i < H2.length := by have := hdom i (by rw [hs]; simp); omega
          exact ⟨s', by simp [keepTo, hi, g1], g2, g3⟩
        · obtain ⟨s', g1, _⟩ := kle i s hs
          unfold keepTo at hs
          split at hs
          · exact q3.ownsBack b ⟨i, s, hs, hb⟩
          · cases hs
    cases e' with
    | normal => exact fin (.inl rfl)
    | ret => exact fin (.inr rfl)
    | exit id => exact q1.elim
    | goto l => exact q1.elim
    | panic ch => exact q1.elim
    | outgrown => exact q1.elim
end
end

/-! ### XDsg -/
section
open Go.RowKit
set_option linter.unusedSimpArgs false
set_option linter.unusedVariables false

mutual
/-- What the objects of a set read as, to the bottom. -/
inductive DeepM (S : Nat → Bool) (H : List AObj) : D → D → Prop
  | refl (d : D) : DeepM S H d d
  | junk (d : D) : DeepM S H d .junk
  | none (esz : Nat) : DeepM S H (.sc (.slice none 0 0)) (.lst esz [])
  | loc (id off : Nat) (q : Bool) (cs ds : List D) (hm : S id = true) (h : H[id]? = some (.row q cs)) (k : DeepML S H (cs.drop off) ds) : DeepM S H (.loc id off) (.ipt ds)
  | own (id ver lo hi esz : Nat) (q : Bool) (xs ys : List (List D)) (hm : S id = true) (h : H[id]? = some (.vec q ver esz xs)) (k : DeepMLL S H ((xs.take hi).drop lo) ys) : DeepM S H (.own id ver lo hi) (.lst esz ys)
  | fn (f : Fn) (a b c e : List D) (h : DeepML S H a b) (k : DeepML S H c e) : DeepM S H (.fn f a c) (.fn f b e)
  | ifc (t : TypeId) (d e : D) (h : DeepM S H d e) : DeepM S H (.ifc t d) (.ifc t e)
  | agg (a b : List D) (h : DeepML S H a b) : DeepM S H (.agg a) (.agg b)
  | tup (a b : List D) (h : DeepML S H a b) : DeepM S H (.tup a) (.tup b)
inductive DeepML (S : Nat → Bool) (H : List AObj) : List D → List D → Prop
  | refl (l : List D) : DeepML S H l l
  | cons (d e : D) (a b : List D) (h : DeepM S H d e) (k : DeepML S H a b) : DeepML S H (d :: a) (e :: b)
inductive DeepMLL (S : Nat → Bool) (H : List AObj) : List (List D) → List (List D) → Prop
  | refl (l : List (List D)) : DeepMLL S H l l
  | cons (x y : List D) (a b : List (List D)) (h : DeepML S H x y) (k : DeepMLL S H a b) : DeepMLL S H (x :: a) (y :: b)
  | append (x y a b : List (List D)) (h : DeepMLL S H x y) (k : DeepMLL S H a b) : DeepMLL S H (x ++ a) (y ++ b)
end

/-- The blocks of the objects of a set. -/
def OwnsFrom (S : Nat → Bool) (J : Inj) (b : Nat) : Prop := ∃ id s, S id = true ∧ J id = some s ∧ s.blk = some b

section
variable {J : Inj} {F : Nat → Prop} {w : World} {H : List AObj} {S : Nat → Bool}
mutual
theorem deepML_len : ∀ (d e : List D), DeepML S H d e → d.length = e.length
  | _, _, .refl _ => rfl
  | _, _, .cons d e a b _ k => by simp [deepML_len a b k]
theorem deepMLL_len : ∀ (d e : List (List D)), DeepMLL S H d e → d.length = e.length
  | _, _, .refl _ => rfl
  | _, _, .cons d e a b _ k => by simp [deepMLL_len a b k]
  | _, _, .append x y a b h k => by simp [deepMLL_len x y h, deepMLL_len a b k]
end

theorem repRows_app {b esz : Nat} : ∀ (xs ys : List (List D)) (o : Nat), repRows J F w b esz (xs ++ ys) o ↔ repRows J F w b esz xs o ∧ repRows J F w b esz ys (o + xs.length * esz)
  | [], ys, o => by simp [repRows]
  | x :: r, ys, o => by
    simp only [List.cons_append, repRows, repRows_app r ys, List.length_cons, and_assoc]
    rw [show o + esz + r.length * esz = o + (r.length + 1) * esz by rw [Nat.add_mul]; omega]

mutual
theorem deepM_sound (hok : StOK J F w (fun i => H[i]?)) : ∀ (d e : D) (v : Value), DeepM S H d e → rep J F w d v → rep J (fun b => F b ∨ OwnsFrom S J b) w e v
  | d, _, v, .refl _, h => rep_mono (Inj.le_refl J) (fun _ h => .inl h) (fun _ _ => rfl) d v h
  | _, _, v, .junk _, _ => by simp only [rep]
  | _, _, v, .none esz, h => by
    simp only [rep] at h ⊢
    exact ⟨none, 0, 0, h, rfl, Nat.le_refl _, .inl rfl⟩
  | _, _, v, .loc id off q cs ds hm h k, hv => by
    simp only [rep] at hv ⊢
    obtain ⟨s, b, h1, h2, h3, rfl⟩ := hv
    have hc := repCells_drop (rowOK hok h1 h3 h) off
    refine ⟨b, off, rfl, .inr ⟨id, s, hm, h1, by simp [Site.blk, h2, h3]⟩, ?_⟩
    rw [Nat.zero_add] at hc
    exact deepMCells_sound hok _ _ b off k hc
  | _, _, v, .own id ver lo hi esz q xs ys hm h k, hv => by
    simp only [rep] at hv ⊢
    obtain ⟨s, A, n, c, h1, rfl, h2, h3⟩ := hv
    obtain ⟨p1, p2, p3, p4, p5, p6⟩ := vecOK hok h1 h
    obtain ⟨t1, t2, t3, rfl, rfl, t6⟩ := h3 p2.symm
    have hl : ys.length = hi - lo := by
      rw [← deepMLL_len _ _ k]; simp; omega
    refine ⟨A, _, _, rfl, hl.symm, by omega, ?_⟩
    rcases t6 with t6 | ⟨b, o, t6, rfl⟩
    · exact .inl (by omega)
    · rcases p6 with p6 | ⟨b', o', vals, te, e, q1, q2, q3, q4⟩
      · exact .inl (by omega)
      · rw [t6] at e; cases e
        by_cases hz : s.cap = 0
        · exact .inl (by omega)
        · refine .inr ⟨b, _, rfl, .inr ⟨id, s, hm, h1, by simp [Site.blk, hz, t6]⟩, ?_⟩
          rw [p3]
          exact deepMRows_sound hok _ _ b esz _ k (repRows_part q3 lo hi)
  | _, _, v, .fn f a b c e h k, hv => by
    simp only [rep] at hv ⊢
    obtain ⟨vs, us, rfl, h2, h3⟩ := hv
    exact ⟨vs, us, rfl, deepML_sound hok _ _ vs h h2, deepML_sound hok _ _ us k h3⟩
  | _, _, v, .ifc t d e h, hv => by
    simp only [rep] at hv ⊢
    obtain ⟨u, rfl, h2⟩ := hv
    exact ⟨u, rfl, deepM_sound hok _ _ u h h2⟩
  | _, _, v, .agg a b h, hv => by
    simp only [rep] at hv ⊢
    obtain ⟨vs, rfl, h2⟩ := hv
    exact ⟨vs, rfl, deepML_sound hok _ _ vs h h2⟩
  | _, _, v, .tup a b h, hv => by
    simp only [rep] at hv ⊢
    obtain ⟨vs, rfl, h2⟩ := hv
    exact ⟨vs, rfl, deepML_sound hok _ _ vs h h2⟩
theorem deepML_sound (hok : StOK J F w (fun i => H[i]?)) : ∀ (d e : List D) (v : List Value), DeepML S H d e → repL J F w d v → repL J (fun b => F b ∨ OwnsFrom S J b) w e v
  | d, _, v, .refl _, h => repL_mono (Inj.le_refl J) (fun _ h => .inl h) (fun _ _ => rfl) d v h
  | _, _, v, .cons d e a b h k, hv => by
    simp only [repL] at hv ⊢
    obtain ⟨u, us, rfl, h2, h3⟩ := hv
    exact ⟨u, us, rfl, deepM_sound hok _ _ u h h2, deepML_sound hok _ _ us k h3⟩
theorem deepMCells_sound (hok : StOK J F w (fun i => H[i]?)) : ∀ (d e : List D) (b o : Nat), DeepML S H d e → repCells J F w b d o → repCells J (fun b => F b ∨ OwnsFrom S J b) w b e o
  | d, _, b, o, .refl _, h => repCells_mono (Inj.le_refl J) (fun _ h => .inl h) (fun _ _ => rfl) b (fun _ => rfl) d o h
  | _, _, b, o, .cons d e x y h k, hv => by
    simp only [repCells] at hv ⊢
    obtain ⟨⟨u, h1, h2, h3⟩, h4⟩ := hv
    exact ⟨⟨u, h1, h2, deepM_sound hok _ _ u h h3⟩, deepMCells_sound hok _ _ b (o + 1) k h4⟩
theorem deepMRows_sound (hok : StOK J F w (fun i => H[i]?)) : ∀ (d e : List (List D)) (b esz o : Nat), DeepMLL S H d e → repRows J F w b esz d o → repRows J (fun b => F b ∨ OwnsFrom S J b) w b esz e o
  | d, _, b, esz, o, .refl _, h => repRows_mono (Inj.le_refl J) (fun _ h => .inl h) (fun _ _ => rfl) b esz (fun _ => rfl) d o h
  | _, _, b, esz, o, .cons d e x y h k, hv => by
    simp only [repRows] at hv ⊢
    obtain ⟨h1, h2, h3⟩ := hv
    exact ⟨by rw [← deepML_len _ _ h]; exact h1, deepMCells_sound hok _ _ b o h h2, deepMRows_sound hok _ _ b esz (o + esz) k h3⟩
  | _, _, b, esz, o, .append x y a c h k, hv => by
    rw [repRows_app] at hv ⊢
    refine ⟨deepMRows_sound hok _ _ b esz o h hv.1, ?_⟩
    rw [← deepMLL_len _ _ h]
    exact deepMRows_sound hok _ _ b esz _ k hv.2
end
end

/-- The numbers from one on. -/
def fromN (m : Nat) : Nat → Bool := fun i => Nat.ble m i
theorem fromN_iff {m i : Nat} : fromN m i = true ↔ m ≤ i := by simp [fromN]

/-- One state says no more than another, but for objects from number L on. -/
def St.leB (L n : Nat) (env : Env) (H : List AObj) (env' : Env) (H' : List AObj) : Prop := ∀ J F a w, StRep n J F env H a w → ∃ J' F', StRep n J' F' env' H' a w ∧ (∀ i s, i < L → J i = some s → J' i = some s) ∧ (∀ b, F b → F' b) ∧ (∀ b, Owns J' b → Owns J b) ∧ ∀ b, F' b → F b ∨ Owns J b

theorem leB_env {L n : Nat} {env env' : Env} {H : List AObj} (h : sameE env env') : St.leB L n env H env' H := fun J F a w hr =>
  ⟨J, F, ⟨hr.defers, hr.size, fun t => by
    rcases sameE_look env' h t with e | e
    · rw [e]; exact hr.tmps t
    · rw [e]; simp only [rep], hr.ok, hr.dom⟩, fun _ _ _ h => h, fun _ h => h, fun _ h => h, fun _ h => .inl h⟩
theorem leB_refl {L n : Nat} {env : Env} {H : List AObj} : St.leB L n env H env H := fun J F a w hr => ⟨J, F, hr, fun _ _ _ h => h, fun _ h => h, fun _ h => h, fun _ h => .inl h⟩
theorem leB_trans {L n : Nat} {env env' env'' : Env} {H H' H'' : List AObj} (h : St.leB L n env H env' H') (k : St.leB L n env' H' env'' H'') : St.leB L n env H env'' H'' := fun J F a w hr => by
  obtain ⟨J', F', h1, h2, h3, h4, h5⟩ := h J F a w hr
  obtain ⟨J'', F'', k1, k2, k3, k4, k5⟩ := k J' F' a w h1
  exact ⟨J'', F'', k1, fun i s q1 q2 => k2 i s q1 (h2 i s q1 q2), fun b hb => k3 b (h3 b hb), fun b hb => h4 b (k4 b hb), fun b hb => (k5 b hb).elim (h5 b) fun q => .inr (h4 b q)⟩

/-- The slots, with what is forgotten read to the bottom. -/
def closeE (m : Nat) (H : List AObj) (env : Env) : Env → Prop
  | [] => True
  | (t, d) :: r => DeepM (fromN m) H (lookD t env) d ∧ Under m d ∧ closeE m H env r
def closeO (m : Nat) (H : List AObj) : AObj → AObj → Prop
  | .row q cs, .row q' cs' => q = q' ∧ DeepML (fromN m) H cs cs' ∧ UnderL m cs'
  | .vec q v e xs, .vec q' v' e' xs' => q = q' ∧ v = v' ∧ e = e' ∧ DeepMLL (fromN m) H xs xs' ∧ UnderLL m xs'
  | .mapo q I, .mapo q' I' => q = q' ∧ I = I'
  | _, _ => False
def closeH (m : Nat) (H : List AObj) : List AObj → List AObj → Prop
  | _, [] => True
  | o :: r, o' :: r' => closeO m H o o' ∧ closeH m H r r'
  | [], _ :: _ => False

theorem closeE_look {m : Nat} {H : List AObj} {env : Env} : ∀ (env' : Env), closeE m H env env' → ∀ t, (DeepM (fromN m) H (lookD t env) (lookD t env') ∧ Under m (lookD t env')) ∨ lookD t env' = .junk
  | [], _, t => .inr rfl
  | (k, d) :: r, h, t => by
    simp only [closeE] at h
    rw [lookD_cons]
    split
    · rename_i e; subst e; exact .inl ⟨h.1, h.2.1⟩
    · exact closeE_look r h.2.2 t
theorem closeH_get {m : Nat} {H : List AObj} : ∀ (l l' : List AObj), closeH m H l l' → ∀ i (o : AObj), i < l'.length → l[i]? = some o → ∃ o', l'[i]? = some o' ∧ closeO m H o o'
  | _, [], _, i, o, hi, _ => by simp at hi
  | [], _ :: _, h, i, o, hi, _ => by simp only [closeH] at h
  | o :: r, o' :: r', h, 0, x, _, hx => by
    simp at hx; subst hx
    exact ⟨o', rfl, h.1⟩
  | o :: r, o' :: r', h, i + 1, x, hi, hx => by
    simpa using closeH_get r r' h.2 i x (by simpa using hi) (by simpa using hx)

theorem closeO_ok {J : Inj} {F : Nat → Prop} {w : World} {H : List AObj} {m : Nat} (hok : StOK J F w (fun i => H[i]?)) {s : Site} {o o' : AObj} (h : closeO m H o o') (k : ObjOK J F w s o) : ObjOK (keepTo m J) (fun b => F b ∨ OwnsFrom (fromN m) J b) w s o' ∧ o'.mut = o.mut := by
  cases o with
  | row q cs =>
    cases o' with
    | vec => exact h.elim
    | mapo => exact h.elim
    | row q' cs' =>
      obtain ⟨rfl, h1, h2⟩ := h
      obtain ⟨k1, k2, k3, k4, k5, b, vals, te, t1, t2, t3, t4, t5⟩ := k
      have hl := deepML_len _ _ h1
      exact ⟨⟨k1, k2, k3, by rw [← hl]; exact k4, by rw [← hl]; exact k5, b, vals, te, t1, t2, by rw [← hl]; exact t3, repCells_keep b cs' 0 h2 (deepMCells_sound hok _ _ b 0 h1 t4), fun e => .inl (t5 e)⟩, rfl⟩
  | vec q v e xs =>
    cases o' with
    | row => exact h.elim
    | mapo => exact h.elim
    | vec q' v' e' xs' =>
      obtain ⟨rfl, rfl, rfl, h1, h2⟩ := h
      obtain ⟨k1, k2, k3, k4, k5, k6⟩ := k
      have hl := deepMLL_len _ _ h1
      exact ⟨⟨k1, k2, k3, by rw [← hl]; exact k4, k5, k6.imp_right fun ⟨b, o, vals, te, t1, t2, t3, t4, t5⟩ => ⟨b, o, vals, te, t1, t2, t3, repRows_keep b e xs' o h2 (deepMRows_sound hok _ _ b e o h1 t4), fun e => .inl (t5 e)⟩⟩, rfl⟩
  | mapo q I =>
    cases o' with
    | row => exact h.elim
    | vec => exact h.elim
    | mapo q' I' =>
      obtain ⟨rfl, rfl⟩ := h
      exact ⟨k, rfl⟩

/-- The objects from number m on are forgotten. -/
theorem leB_close {L n : Nat} (m : Nat) {env env' : Env} {H H' : List AObj} (hL : L ≤ m) (hm : H'.length = m) (hE : closeE m H env env') (hH : closeH m H H H') : St.leB L n env H env' H' := fun J F a w hr => by
  refine ⟨keepTo m J, fun b => F b ∨ OwnsFrom (fromN m) J b, ⟨hr.defers, hr.size, fun t => ?_, ⟨fun i s hs => ?_, fun i i' s s' b g1 g2 g3 g4 => ?_, fun i s b o g1 g2 g3 g4 => ?_, hr.ok.lt.mono (fun _ h => .inl h) (fun _ _ => rfl) fun b hb => ?_⟩, fun i hi => ?_⟩, fun i s hi hs => ?_, fun b hb => .inl hb, fun b ⟨i, s, hs, hb⟩ => ?_, fun b hb => hb.imp_right fun ⟨i, s, _, h1, h2⟩ => ⟨i, s, h1, h2⟩⟩
  · rcases closeE_look env' hE t with ⟨h1, h2⟩ | e
    · exact rep_keep _ _ h2 (deepM_sound hr.ok _ _ _ h1 (hr.tmps t))
    · rw [e]; simp only [rep]
  · unfold keepTo at hs
    split at hs
    · rename_i hi
      obtain ⟨o, h1, h2⟩ := hr.ok.obj i s hs
      obtain ⟨o', h3, h4⟩ := closeH_get H H' hH i o (by omega) h1
      exact ⟨o', h3, (closeO_ok hr.ok h4 h2).1⟩
    · cases hs
  · unfold keepTo at g1 g2
    split at g1 <;> split at g2
    · exact hr.ok.one i i' s s' b g1 g2 g3 g4
    all_goals first | cases g1 | cases g2
  · unfold keepTo at g1
    split at g1
    · rename_i hi
      obtain ⟨o1, h1, h2⟩ := hr.ok.obj i s g1
      obtain ⟨o', h3, h4⟩ := closeH_get H H' hH i o1 (by omega) h1
      have h3' : H'[i]? = some o := g3
      rw [h3'] at h3
      cases h3
      have hmut := (closeO_ok hr.ok h4 h2).2
      rintro (hx | ⟨i', s', p1, p2, p3⟩)
      · exact hr.ok.apart i s b o1 g1 g2 h1 (by rw [← hmut]; exact g4) hx
      · have p1 := fromN_iff.1 p1
        have := hr.ok.one i i' s s' b g1 p2 g2 p3
        omega
    · cases g1
  · exact hb.elim (hr.ok.lt b) fun ⟨i, s, _, h1, h2⟩ => hr.ok.blk_lt h1 h2
  · unfold keepTo at hi
    split at hi
    · omega
    · exact absurd rfl hi
  · unfold keepTo; rw [if_pos (by omega)]; exact hs
  · unfold keepTo at hs
    split at hs
    · exact ⟨i, s, hs, hb⟩
    · cases hs

/-- A slice of none becomes an own one. -/
theorem leB_nilV {L n : Nat} (t esz ver : Nat) {env : Env} {H : List AObj} (hL : L ≤ H.length) (h : lookD t env = .sc (.slice none 0 0)) : St.leB L n env H ((t, .own H.length ver 0 0) :: env) (H ++ [.vec true ver esz []]) := fun J F a w hr => by
  have hfree : J H.length = none := by
    cases e : J H.length with
    | none => rfl
    | some s => have := hr.dom H.length (by rw [e]; simp); omega
  let J' : Inj := fun i => if i = H.length then some ⟨false, ver, none, esz, 0, 0⟩ else J i
  have hle : J.le J' := fun i s hs => ⟨s, by
    have : i ≠ H.length := fun e => by subst e; rw [hfree] at hs; cases hs
    simp [J', this, hs], Nat.le_refl _, fun _ => rfl⟩
  have hget : ∀ i, i ≠ H.length → (H ++ [AObj.vec true ver esz []])[i]? = H[i]? := fun i hi => by
    rcases Nat.lt_or_ge i H.length with q | q
    · rw [List.getElem?_append_left q]
    · rw [List.getElem?_eq_none q, List.getElem?_eq_none (by simp; omega)]
  refine ⟨J', F, ⟨hr.defers, hr.size, fun u => ?_, ⟨fun i s hs => ?_, fun i i' s s' b g1 g2 g3 g4 => ?_, fun i s b o g1 g2 g3 g4 => ?_, hr.ok.lt⟩, fun i hi => ?_⟩, fun i s hi hs => ?_, fun b hb => hb, fun b ⟨i, s, hs, hb⟩ => ?_, fun b hb => .inl hb⟩
  · rw [lookD_cons]
    split
    · rename_i e; subst e
      have := hr.tmps u
      rw [h] at this
      simp only [rep] at this ⊢
      exact ⟨_, none, 0, 0, by simp [J']; rfl, this, Nat.le_refl _, fun _ => ⟨rfl, Nat.le_refl _, Nat.zero_le _, rfl, rfl, .inl rfl⟩⟩
    · exact rep_mono hle (fun _ h => h) (fun _ _ => rfl) _ _ (hr.tmps u)
  · simp only [J'] at hs
    split at hs
    · rename_i e; subst e
      cases hs
      exact ⟨.vec true ver esz [], by simp, rfl, rfl, rfl, rfl, Nat.le_refl _, .inl rfl⟩
    · rename_i e
      obtain ⟨o, h1, h2⟩ := hr.ok.obj i s hs
      exact ⟨o, by rw [hget i e]; exact h1, ObjOK_mono hle (fun _ h => h) (fun _ _ => rfl) (fun _ _ => rfl) h2⟩
  · simp only [J'] at g1 g2
    split at g1
    · cases g1; simp [Site.blk] at g3
    · split at g2
      · cases g2; simp [Site.blk] at g4
      · exact hr.ok.one i i' s s' b g1 g2 g3 g4
  · simp only [J'] at g1
    split at g1
    · cases g1; simp [Site.blk] at g2
    · rename_i e
      exact hr.ok.apart i s b o g1 g2 (by rw [← hget i e]; exact g3) g4
  · simp only [J'] at hi
    rw [List.length_append, List.length_singleton]
    split at hi
    · omega
    · have := hr.dom i hi; omega
  · have : i ≠ H.length := by omega
    simp [J', this, hs]
  · simp only [J'] at hs
    split at hs
    · cases hs; simp [Site.blk] at hb
    · exact ⟨i, s, hs, hb⟩

theorem leB_nil {L n : Nat} (t esz : Nat) {env : Env} {H : List AObj} (hL : L ≤ H.length) (h : lookD t env = .sc (.slice none 0 0)) : St.leB L n env H ((t, .own H.length 0 0 0) :: env) (H ++ [.vec true 0 esz []]) := leB_nilV t esz 0 hL h

section
variable {P : Program} {n : Nat}
/-- What a loop's round must hand on: it may forget what was made since the loop began. -/
def loopQB {ι : Type} (L n : Nat) (Q : Post) (E : ι → Env) (O : ι → List AObj) (G : ι → Prop) (m : ι → Nat) (k : Nat) : Post
  | .normal, env, H => ∃ j, G j ∧ m j < k ∧ St.leB L n env H (E j) (O j)
  | e, env, H => Q e env H

theorem ext_leB {L : Nat} {J J1 J2 : Inj} {F F1 F2 : Nat → Prop} {w w1 : World} (hd : ∀ id, J id ≠ none → id < L) (h : Ext J F w J1 F1 w1) (k1 : ∀ i s, i < L → J1 i = some s → J2 i = some s) (k2 : ∀ b, F1 b → F2 b) (k3 : ∀ b, Owns J2 b → Owns J1 b) (k4 : ∀ b, F2 b → F1 b ∨ Owns J1 b) : Ext J F w J2 F2 w1 :=
  ⟨h.os, h.tape, h.output, h.size, h.block, h.frozen, fun i s hs => by
    obtain ⟨s', g1, g2⟩ := h.le i s hs
    exact ⟨s', k1 i s' (hd i (by rw [hs]; simp)) g1, g2⟩, fun b hb => k2 b (h.grow b hb), fun b hb => h.ownsBack b (k3 b hb), fun b hb => by
    rcases k4 b hb with q | q
    · exact h.growBack b q
    · rcases h.ownsBack b q with q | q
      · exact .inr (.inl q)
      · exact .inr (.inr q)⟩

/-- A loop whose rounds may forget. -/
theorem pwp_loopB {p : PC} {Q : Post} {env : Env} {H : List AObj} {ι : Type} (E : ι → Env) (O : ι → List AObj) (G : ι → Prop) (m : ι → Nat) (i : ι) (h0 : G i) (h1 : St.leB H.length n env H (E i) (O i))
    (round : ∀ j, G j → PWp P n p (loopQB H.length n Q E O G m (m j)) (E j) (O j)) : PWp P n (.loop p) Q env H := pwp_mk fun c hc J F a w hr => by
  obtain ⟨c', rfl, hc'⟩ := comp_loop hc
  obtain ⟨J0, F0, k1, k2, k3, k4, k5⟩ := h1 J F a w hr
  have k6 : Ext J F w J0 F0 w := ext_leB hr.dom (Ext.refl J F w) k2 k3 k4 k5
  refine wp_loop_ghost (fun k a' w' => ∃ j J' F', G j ∧ m j = k ∧ StRep n J' F' (E j) (O j) a' w' ∧ Ext J F w J' F' w') (m i) ⟨i, J0, F0, h0, rfl, k1, k6⟩ fun k a1 w1 ⟨j, J1, F1, g1, g2, g3, g4⟩ => ?_
  refine wp_mono (pwp_out (round j g1) hc' g3) fun e a2 w2 ⟨env', H', J', F', q1, q2, q3⟩ => ?_
  cases e with
  | normal =>
    obtain ⟨j', r1, r2, r3⟩ := q1
    obtain ⟨J2, F2, t1, t2, t3, t4, t5⟩ := r3 J' F' a2 w2 q2
    exact ⟨m j', by omega, j', J2, F2, r1, rfl, t1, ext_leB hr.dom (g4.trans q3) t2 t3 t4 t5⟩
  | _ => exact ⟨env', H', J', F', q1, q2, g4.trans q3⟩

/-- A loop that is gone through round by round: at most so many rounds more. -/
def roundsQ (P : Program) (n : Nat) (c : PC) (Q : Post) : Nat → Post
  | 0, e, env, H => match e with
    | .normal => False
    | e => Q e env H
  | k + 1, e, env, H => match e with
    | .normal => PWp P n c (roundsQ P n c Q k) env H
    | e => Q e env H
theorem pwp_rounds {p : PC} {Q : Post} {env : Env} {H : List AObj} (k : Nat) (h : PWp P n p (roundsQ P n p Q k) env H) : PWp P n (.loop p) Q env H := pwp_mk fun c hc J F a w hr => by
  obtain ⟨c', rfl, hc'⟩ := comp_loop hc
  refine wp_loop_rounds (k + 1) ?_
  have key : ∀ (k : Nat) (env : Env) (H : List AObj) (J1 : Inj) (F1 : Nat → Prop) (a1 : Act) (w1 : World), PWp P n p (roundsQ P n p Q k) env H → StRep n J1 F1 env H a1 w1 → Ext J F w J1 F1 w1 → Code.rounds P c' (conc n J F w Q) (k + 1) a1 w1 := by
    intro k
    induction k with
    | zero =>
      intro env H J1 F1 a1 w1 h1 h2 h3
      rw [rounds_succ]
      refine wp_mono (pwp_out h1 hc' h2) fun e a2 w2 ⟨env', H', J', F', q1, q2, q3⟩ => ?_
      cases e with
      | normal => exact q1.elim
      | _ => exact ⟨env', H', J', F', q1, q2, h3.trans q3⟩
    | succ k ih =>
      intro env H J1 F1 a1 w1 h1 h2 h3
      rw [rounds_succ]
      refine wp_mono (pwp_out h1 hc' h2) fun e a2 w2 ⟨env', H', J', F', q1, q2, q3⟩ => ?_
      cases e with
      | normal => exact ih env' H' J' F' a2 w2 q1 q2 (h3.trans q3)
      | _ => exact ⟨env', H', J', F', q1, q2, h3.trans q3⟩
  exact key k env H J F a w h hr (Ext.refl J F w)

/-- Between two steps. -/
theorem pwp_ghostB {p : PC} {Q : Post} {env env' : Env} {H H' : List AObj} (h : St.leB H.length n env H env' H') (k : PWp P n p Q env' H') : PWp P n p Q env H :=
  pwp_mk fun c hc J F a w hr => by
    obtain ⟨J', F', h1, h2, h3, h4, h5⟩ := h J F a w hr
    exact wp_mono (pwp_out k hc h1) fun e a' w' q => conc_later (ext_leB hr.dom (Ext.refl J F w) h2 h3 h4 h5) q
end

section
variable {P : Program}
theorem deepL_none {F : Nat → Prop} {w : World} (hF : FOK F w) {args args' : List D} {vs : List Value} (h : DeepL [] args args') (k : repL noInj F w args vs) : repL noInj F w args' vs := by
  have := deepL_sound (G := fun _ => none) (stOK_none hF _) (H := []) (fun i o hi => by simp at hi) _ _ _ h k
  have e : (fun b => F b ∨ Owns noInj b) = F := funext fun b => propext ⟨fun h => h.elim id fun q => absurd q (noOwns b), .inl⟩
  rwa [e] at this
/-- A contract on lists serves for slices of none. -/
theorem pcall_deep {f : FuncId} {args args' : List D} {d : D} (hp : PureL args) (h : DeepL [] args args') (k : PCall P f args' d) : PCall P f args d :=
  ⟨k.1, fun J F w vs hF hargs => k.2 noInj F w vs hF (deepL_none hF h (pure_repL args vs hp hargs))⟩
end
end

/-! ### XDsh -/
section
open Go.RowKit
set_option linter.unusedSimpArgs false
set_option linter.unusedVariables false

section
variable {P : Program} {f : FuncId}
theorem acall_frame {args : List D} {H0 H0' H H' : List AObj} {d : D} (ρ : Nat → Nat) (hA : ACall P f args H0 d H0') (inj : ∀ i j, i < H0'.length → j < H0'.length → ρ i = ρ j → i = j) (hold : ∀ i o, H0[i]? = some o → H[ρ i]? = some (o.ren ρ))
    (hnew : ∀ i, H0.length ≤ i → i < H0'.length → H.length ≤ ρ i) (hlen : H.length ≤ H'.length) (h1 : ∀ i o, H0'[i]? = some o → H'[ρ i]? = some (o.ren ρ)) (h2 : ∀ j, j < H.length → (∀ i, i < H0.length → ρ i ≠ j) → H'[j]? = H[j]?)
    (hargs : UnderL H0.length args) (hobj : ∀ o ∈ H0, o.under H0.length) : ACall P f (renL ρ args) H (D.ren ρ d) H' := by
  obtain ⟨hok, hl0, hrun⟩ := hA
  refine ⟨hok, hlen, fun J F w vs hst hdom hrep => ?_⟩
  have h0get : ∀ i, i < H0.length → H0[i]? = some (H0[i]!) := fun i hi => by rw [List.getElem!_eq_getElem?_getD, List.getElem?_eq_getElem hi]; rfl
  have hst0 : StOK (keepTo H0.length fun i => J (ρ i)) F w (fun i => H0[i]?) := by
    refine ⟨fun i s hs => ?_, fun i i' s s' b g1 g2 g3 g4 => ?_, fun i s b o g1 g2 g3 g4 => ?_, hst.lt⟩
    · unfold keepTo at hs
      split at hs
      · rename_i hi
        have ho := h0get i hi
        refine ⟨_, ho, objOK_keep (hobj _ (List.mem_of_getElem? ho)) (objOK_ren.2 ?_)⟩
        obtain ⟨o', q1, q2⟩ := hst.obj (ρ i) s hs
        have q1' : H[ρ i]? = some o' := q1
        rw [hold i _ ho] at q1'
        cases q1'
        exact q2
      · cases hs
    · unfold keepTo at g1 g2
      split at g1 <;> split at g2
      · exact inj i i' (by omega) (by omega) (hst.one (ρ i) (ρ i') s s' b g1 g2 g3 g4)
      all_goals first | cases g1 | cases g2
    · unfold keepTo at g1
      split at g1
      · exact hst.apart (ρ i) s b (o.ren ρ) g1 g2 (hold i o g3) (by rw [mut_ren]; exact g4)
      · cases g1
  have hd0 : ∀ id, keepTo H0.length (fun i => J (ρ i)) id ≠ none → id < H0.length := fun id hid => by
    unfold keepTo at hid
    split at hid
    · assumption
    · exact absurd rfl hid
  have hr0 : repL (keepTo H0.length fun i => J (ρ i)) F w args vs := repL_keep _ _ hargs ((repL_ren args vs).2 hrep)
  have own0 : ∀ b, Owns (keepTo H0.length fun i => J (ρ i)) b → ∃ i s, i < H0.length ∧ J (ρ i) = some s ∧ s.blk = some b := fun b ⟨i, s, hs, hb⟩ => by
    unfold keepTo at hs
    split at hs
    · exact ⟨i, s, by assumption, hs, hb⟩
    · cases hs
  have main := hrun _ F w vs hst0 hd0 hr0
  refine Calls.mono main fun e w' ⟨v, J0', F', he, st', dom', rp', ex⟩ => ?_
  let J' : Inj := fun id => match back ρ H0'.length id with | some i => J0' i | none => J id
  have jat : ∀ i, i < H0'.length → J' (ρ i) = J0' i := fun i hi => by simp only [J', back_of inj hi]
  have jno : ∀ id, back ρ H0'.length id = none → J' id = J id := fun id h => by simp only [J', h]
  have hle : J.le J' := fun id s hs => by
    cases e : back ρ H0'.length id with
    | none => exact ⟨s, by rw [jno id e]; exact hs, Nat.le_refl _, fun _ => rfl⟩
    | some i =>
      obtain ⟨k1, rfl⟩ := back_some e
      have hi : i < H0.length := by
        rcases Nat.lt_or_ge i H0.length with q | q
        · exact q
        · have := hnew i q k1
          have := hdom (ρ i) (by rw [hs]; simp)
          omega
      obtain ⟨s', g1, g2⟩ := ex.le i s (by simp only [keepTo, if_pos hi]; exact hs)
      exact ⟨s', by rw [jat i k1]; exact g1, g2⟩
  have hleρ : J0'.le (fun i => J' (ρ i)) := fun i s hs => ⟨s, by
    dsimp only
    rw [jat i (dom' i (by rw [hs]; simp))]; exact hs, Nat.le_refl _, fun _ => rfl⟩
  have nown : ∀ id s b, back ρ H0'.length id = none → J id = some s → s.blk = some b → ¬ Owns (keepTo H0.length fun i => J (ρ i)) b := fun id s b hb hs hblk ho => by
    obtain ⟨i, s', k1, k2, k3⟩ := own0 b ho
    exact back_none hb i (by omega) (hst.one (ρ i) id s' s b k2 hs k3 hblk)
  refine ⟨v, J', F', he, ⟨fun id s hs => ?_, fun id id' s s' b g1 g2 g3 g4 => ?_, fun id s b o g1 g2 g3 g4 => ?_, st'.lt⟩, fun id hid => ?_, (rep_ren d v).1 (rep_mono hleρ (fun _ h => h) (fun _ _ => rfl) _ _ rp'), ?_⟩
  · cases e : back ρ H0'.length id with
    | some i =>
      obtain ⟨k1, rfl⟩ := back_some e
      rw [jat i k1] at hs
      obtain ⟨o, q1, q2⟩ := st'.obj i s hs
      exact ⟨o.ren ρ, h1 i o q1, objOK_ren.1 (ObjOK_mono hleρ (fun _ h => h) (fun _ _ => rfl) (fun _ _ => rfl) q2)⟩
    | none =>
      rw [jno id e] at hs
      obtain ⟨o, q1, q2⟩ := hst.obj id s hs
      refine ⟨o, ?_, ObjOK_mono hle ex.grow ex.frozen (fun b hb => ex.block b (hst.blk_lt hs hb) (nown id s b e hs hb)) q2⟩
      show H'[id]? = some o
      rw [h2 id (hdom id (by rw [hs]; simp)) fun i hi => back_none e i (by omega)]
      exact q1
  · cases e : back ρ H0'.length id with
    | some i =>
      obtain ⟨k1, rfl⟩ := back_some e
      rw [jat i k1] at g1
      cases e' : back ρ H0'.length id' with
      | some i' =>
        obtain ⟨k1', rfl⟩ := back_some e'
        rw [jat i' k1'] at g2
        rw [st'.one i i' s s' b g1 g2 g3 g4]
      | none =>
        rw [jno id' e'] at g2
        rcases ex.ownsBack b ⟨i, s, g1, g3⟩ with q | q
        · exact absurd q (nown id' s' b e' g2 g4)
        · have := hst.blk_lt g2 g4; omega
    | none =>
      rw [jno id e] at g1
      cases e' : back ρ H0'.length id' with
      | some i' =>
        obtain ⟨k1', rfl⟩ := back_some e'
        rw [jat i' k1'] at g2
        rcases ex.ownsBack b ⟨i', s', g2, g4⟩ with q | q
        · exact absurd q (nown id s b e g1 g3)
        · have := hst.blk_lt g1 g3; omega
      | none =>
        rw [jno id' e'] at g2
        exact hst.one id id' s s' b g1 g2 g3 g4
  · have g3' : H'[id]? = some o := g3
    cases e : back ρ H0'.length id with
    | some i =>
      obtain ⟨k1, rfl⟩ := back_some e
      rw [jat i k1] at g1
      obtain ⟨o0, q1, _⟩ := st'.obj i s g1
      rw [h1 i o0 q1] at g3'
      cases g3'
      exact st'.apart i s b o0 g1 g2 q1 (by rw [mut_ren] at g4; exact g4)
    | none =>
      rw [jno id e] at g1
      rw [h2 id (hdom id (by rw [g1]; simp)) fun i hi => back_none e i (by omega)] at g3'
      intro hx
      rcases ex.growBack b hx with q | q | q
      · exact hst.apart id s b o g1 g2 g3' g4 q
      · exact nown id s b e g1 g2 q
      · have := hst.blk_lt g1 g2; omega
  · cases e : back ρ H0'.length id with
    | some i =>
      obtain ⟨k1, rfl⟩ := back_some e
      have := h1 i _ (List.getElem?_eq_getElem k1)
      exact get_lt this
    | none =>
      rw [jno id e] at hid
      have := hdom id hid
      omega
  · refine ⟨ex.os, ex.tape, ex.output, ex.size, fun b hb hn => ex.block b hb fun ho => ?_, ex.frozen, hle, ex.grow, fun b ⟨id, s, hs, hb⟩ => ?_, fun b hb => ?_⟩
    · obtain ⟨i, s, _, k2, k3⟩ := own0 b ho
      exact hn ⟨ρ i, s, k2, k3⟩
    · cases e : back ρ H0'.length id with
      | some i =>
        obtain ⟨k1, rfl⟩ := back_some e
        rw [jat i k1] at hs
        refine (ex.ownsBack b ⟨i, s, hs, hb⟩).imp_left fun q => ?_
        obtain ⟨k, s', _, k2, k3⟩ := own0 b q
        exact ⟨ρ k, s', k2, k3⟩
      | none =>
        rw [jno id e] at hs
        exact .inl ⟨id, s, hs, hb⟩
    · rcases ex.growBack b hb with q | q | q
      · exact .inl q
      · obtain ⟨k, s', _, k2, k3⟩ := own0 b q
        exact .inr (.inl ⟨ρ k, s', k2, k3⟩)
      · exact .inr (.inr q)

/-- A function that turns one row of the caller's. -/
theorem acall_row {pre post : List D} {cs cs' : List D} {d : D} (h : ACall P f (pre ++ .loc 0 0 :: post) [.row true cs] d [.row true cs']) (hpre : PureL pre) (hpost : PureL post) (hcs : PureL cs) (hcs' : PureL cs') (hd : Pure d)
    {H : List AObj} {id : Nat} (hid : H[id]? = some (.row true cs)) : ACall P f (pre ++ .loc id 0 :: post) H d (H.set id (.row true cs')) := by
  have hap : ∀ (a b : List D) (ρ : Nat → Nat), renL ρ (a ++ b) = renL ρ a ++ renL ρ b := fun a b ρ => by
    induction a with
    | nil => simp only [renL, List.nil_append]
    | cons x r ih => simp only [List.cons_append, renL, ih]
  have hua : ∀ (a b : List D), UnderL 1 a → UnderL 1 b → UnderL 1 (a ++ b) := fun a b ha hb => by
    induction a with
    | nil => exact hb
    | cons x r ih => simp only [UnderL, List.cons_append] at ha ⊢; exact ⟨ha.1, ih ha.2⟩
  have one : ∀ (i : Nat) (x y : AObj), [x][i]? = some y → i = 0 ∧ y = x := fun i x y h => by
    cases i with
    | zero => simp at h; exact ⟨rfl, h.symm⟩
    | succ i => simp at h
  have := acall_frame (H := H) (H' := H.set id (.row true cs')) (fun _ => id) h (fun i j hi hj _ => by simp at hi hj; omega) (fun i o ho => by
      obtain ⟨_, rfl⟩ := one i _ o ho
      simp only [AObj.ren, renL_pure cs hcs]; exact hid) (fun i h1 h2 => by simp at h1 h2; omega) (by simp) (fun i o ho => by
      obtain ⟨_, rfl⟩ := one i _ o ho
      simp only [AObj.ren, renL_pure cs' hcs']
      rw [List.getElem?_set_self (get_lt hid)]) (fun j hj hne => by
      rw [List.getElem?_set_ne (hne 0 (by simp))]) (by
      refine hua _ _ (underL_pure _ hpre) ?_
      simp only [UnderL, Under]
      exact ⟨by simp, underL_pure _ hpost⟩) (fun o ho => by
      simp at ho; subst ho
      exact underL_pure _ hcs)
  rw [hap, renL_pure _ hpre, ren_pure _ hd] at this
  simpa only [renL, D.ren, renL_pure _ hpost] using this
/-- Objects laid at places. -/
def putL : List AObj → List Nat → List AObj → List AObj
  | H, i :: L, o :: r => putL (H.set i o) L r
  | H, _, _ => H
theorem putL_len : ∀ (L : List Nat) (os H : List AObj), (putL H L os).length = H.length
  | [], os, H => by cases os <;> rfl
  | i :: L, [], H => rfl
  | i :: L, o :: r, H => by simp only [putL]; rw [putL_len L r]; simp
theorem putL_out : ∀ (L : List Nat) (os H : List AObj) (j : Nat), j ∉ L → (putL H L os)[j]? = H[j]?
  | [], os, H, j, _ => by cases os <;> rfl
  | i :: L, [], H, j, _ => rfl
  | i :: L, o :: r, H, j, h => by
    simp only [putL]
    rw [putL_out L r _ j (fun q => h (by simp [q])), List.getElem?_set_ne (fun e => h (by simp [e]))]
theorem putL_at : ∀ (L : List Nat) (os H : List AObj) (k : Nat) (o : AObj), L.Nodup → (∀ i ∈ L, i < H.length) → k < L.length → os[k]? = some o → (putL H L os)[L.getD k 0]? = some o
  | [], os, H, k, o, _, _, h, _ => by simp at h
  | i :: L, [], H, k, o, _, _, _, h => by simp at h
  | i :: L, x :: r, H, 0, o, hn, hl, _, h => by
    simp only [putL, List.getD_cons_zero]
    rw [putL_out L r _ i (List.nodup_cons.1 hn).1, List.getElem?_set_self (hl i (by simp))]
    simpa using h
  | i :: L, x :: r, H, k + 1, o, hn, hl, hk, h => by
    simp only [putL, List.getD_cons_succ]
    exact putL_at L r _ k o (List.nodup_cons.1 hn).2 (fun j hj => by simpa using hl j (by simp [hj])) (by simpa using hk) (by simpa using h)
/-- A contract on the fewest objects, at whatever places. -/
theorem acallAt_of {args0 : List D} {H0 H0' : List AObj} {d0 : D} (hA : ACall P f args0 H0 d0 H0') (hl : H0'.length = H0.length) (L : List Nat) (hL : L.length = H0.length) (hnd : L.Nodup)
    (hargs : UnderL H0.length args0) (hobj : UnderO H0.length H0) {args : List D} {d : D} {H : List AObj} (e1 : renL (fun i => L.getD i 0) args0 = args) (e2 : D.ren (fun i => L.getD i 0) d0 = d)
    (h1 : ∀ i o, H0[i]? = some o → H[L.getD i 0]? = some (o.ren fun i => L.getD i 0)) : ACallAt P f args H d (putL H L (H0'.map (AObj.ren fun i => L.getD i 0))) L := by
  subst e1 e2
  have mem : ∀ {j}, j ∈ L ↔ ∃ i, i < H0.length ∧ L.getD i 0 = j := fun {j} => by
    rw [List.mem_iff_getElem]
    constructor
    · rintro ⟨i, hi, rfl⟩
      exact ⟨i, by omega, by rw [List.getD_eq_getElem?_getD, List.getElem?_eq_getElem hi]; rfl⟩
    · rintro ⟨i, hi, rfl⟩
      exact ⟨i, by omega, by rw [List.getD_eq_getElem?_getD, List.getElem?_eq_getElem (by omega)]; rfl⟩
  have inL : ∀ id ∈ L, id < H.length := fun id hid => by
    obtain ⟨i, hi, rfl⟩ := mem.1 hid
    exact get_lt (h1 i _ (List.getElem?_eq_getElem hi))
  have inj : ∀ i j, i < H0'.length → j < H0'.length → L.getD i 0 = L.getD j 0 → i = j := fun i j hi hj e => by
    rw [List.getD_eq_getElem?_getD, List.getD_eq_getElem?_getD, List.getElem?_eq_getElem (by omega), List.getElem?_eq_getElem (by omega)] at e
    exact (List.getElem_inj hnd).1 e
  refine ⟨hA.ok, by rw [putL_len]; exact Nat.le_refl _, fun id hid => putL_out _ _ _ _ hid, fun id hid => by rw [putL_len]; exact inL id hid, fun J F w vs G hst hG _ hrep => ?_⟩
  have core := acall_core (G := G) (G' := fun id => if id ∈ L then (putL H L (H0'.map (AObj.ren fun i => L.getD i 0)))[id]? else G id) (fun i => L.getD i 0) hA inj hst (fun i o ho => by
      rw [hG _ (mem.2 ⟨i, get_lt ho, rfl⟩)]; exact h1 i o ho) (fun i h1 h2 => by omega) hrep (fun i o ho => by
      have hi := get_lt ho
      rw [if_pos (mem.2 ⟨i, by omega, rfl⟩)]
      exact putL_at L _ H i _ hnd inL (by omega) (by rw [List.getElem?_map, ho]; rfl)) (fun j hj => by
      rw [if_neg fun h => by obtain ⟨i, hi, e⟩ := mem.1 h; exact hj i (by omega) e]) hargs (underO_mem hobj)
  refine core.mono fun e w' ⟨v, J', F', q1, q2, q3, q4, q5⟩ => ⟨v, J', F', q1, q2, fun id hid => (q3 id hid).imp_right fun ⟨i, hi, e⟩ => mem.2 ⟨i, by omega, e⟩, q4, q5⟩
/-- A contract that turns nothing, at whatever places: its row is named among the arguments, all else in the row. -/
theorem aread_of {args0 : List D} {H0 : List AObj} {d0 : D} (hA : ACall P f args0 H0 d0 H0) (L : List Nat) (hL : L.length = H0.length) (hnd : L.Nodup)
    (hargs : UnderL H0.length args0) (hobj : UnderO H0.length H0) {args : List D} {d : D} {H : List AObj} (e1 : renL (fun i => L.getD i 0) args0 = args) (e2 : D.ren (fun i => L.getD i 0) d0 = d)
    (h1 : ∀ i o, H0[i]? = some o → H[L.getD i 0]? = some (o.ren fun i => L.getD i 0)) (m : Nat) {q : Bool} {cs : List D} (hm : D.loc m 0 ∈ args) (hrow : H[m]? = some (.row q cs)) (hmL : m ∈ L) (hin : ∀ id ∈ L, id = m ∨ ∃ v lo hi, D.own id v lo hi ∈ cs) : ARead P f args H d L := by
  have hAt := acallAt_of hA rfl L hL hnd hargs hobj e1 e2 h1
  have inL : ∀ id ∈ L, id < H.length ∧ (putL H L (H0.map (AObj.ren fun i => L.getD i 0)))[id]? = H[id]? := fun id hid => by
    obtain ⟨i, hi, rfl⟩ := List.mem_iff_getElem.1 hid
    have e : L.getD i 0 = L[i] := by rw [List.getD_eq_getElem?_getD, List.getElem?_eq_getElem hi]; rfl
    have hk := h1 i _ (List.getElem?_eq_getElem (by omega))
    rw [← e]
    refine ⟨get_lt hk, ?_⟩
    rw [hk]
    refine putL_at L _ H i _ hnd (fun j hj => ?_) hi (by rw [List.getElem?_map, List.getElem?_eq_getElem (by omega)]; rfl)
    obtain ⟨i', hi', rfl⟩ := List.mem_iff_getElem.1 hj
    have := get_lt (h1 i' _ (List.getElem?_eq_getElem (by omega)))
    rwa [List.getD_eq_getElem?_getD, List.getElem?_eq_getElem hi'] at this
  refine ⟨hA.ok, fun J F w vs G hok hG hrep => ?_⟩
  have hJm : ∃ s, J m = some s := by
    have : ∀ (ds : List D) (us : List Value), D.loc m 0 ∈ ds → repL J F w ds us → ∃ s, J m = some s := fun ds => by
      induction ds with
      | nil => intro us h; simp at h
      | cons x r ih =>
        intro us h k
        simp only [repL] at k
        obtain ⟨v, us, rfl, k1, k2⟩ := k
        rcases List.mem_cons.1 h with rfl | h
        · simp only [rep] at k1
          obtain ⟨s, b, k1, _⟩ := k1
          exact ⟨s, k1⟩
        · exact ih us h k2
    exact this _ _ hm hrep
  have hJ : ∀ id ∈ L, J id ≠ none := fun id hid => by
    obtain ⟨s, hs⟩ := hJm
    rcases hin id hid with rfl | ⟨v, lo, hi, hc⟩
    · rw [hs]; simp
    · obtain ⟨o, k1, k2⟩ := hok.obj m s hs
      rw [hG m hmL, hrow] at k1
      cases k1
      obtain ⟨_, _, _, _, _, b, vals, te, _, _, _, k3, _⟩ := k2
      have : ∀ (ds : List D) (n : Nat), D.own id v lo hi ∈ ds → repCells J F w b ds n → J id ≠ none := fun ds => by
        induction ds with
        | nil => intro n h; simp at h
        | cons x r ih =>
          intro n h k
          simp only [repCells] at k
          obtain ⟨⟨u, _, _, k1⟩, k2⟩ := k
          rcases List.mem_cons.1 h with rfl | h
          · simp only [rep] at k1
            obtain ⟨s', _, _, _, k1, _⟩ := k1
            rw [k1]; simp
          · exact ih _ h k2
      exact this _ _ hc k3
  refine (hAt.run J F w vs G hok hG (fun id hid hge => by have := (inL id hid).1; omega) hrep).mono fun e w' hR => ?_
  obtain ⟨v, J', F', rfl, k1, k2, k3, k4⟩ := hR
  refine ⟨v, J', F', rfl, ?_, fun id h => (k2 id h).elim (fun h => h) (hJ id), k3, k4⟩
  have e : (fun id => if id ∈ L then (putL H L (H0.map (AObj.ren fun i => L.getD i 0)))[id]? else G id) = G := by
    funext id
    split
    · rename_i hid
      rw [(inL id hid).2, hG id hid]
    · rfl
  rw [e] at k1
  exact k1
/-- Where a contract's objects lie: the caller's at these places, the new ones behind all. -/
def seatsOf (L : List Nat) (h n : Nat) : List Nat := L ++ List.range' h n
/-- A contract on the fewest objects, at whatever places; what it makes comes last. -/
theorem acallAt_gen {args0 : List D} {H0 H0' : List AObj} {d0 : D} (hA : ACall P f args0 H0 d0 H0') (L : List Nat) (hL : L.length = H0.length) (hnd : L.Nodup)
    (hargs : UnderL H0.length args0) (hobj : UnderO H0.length H0) {args : List D} {d : D} {H : List AObj} (W : List Nat) (hW : W = seatsOf L H.length (H0'.length - H0.length)) (e1 : renL (fun i => W.getD i 0) args0 = args) (e2 : D.ren (fun i => W.getD i 0) d0 = d)
    (h1 : ∀ i o, H0[i]? = some o → H[L.getD i 0]? = some (o.ren fun i => W.getD i 0)) {H2 : List AObj} (e3 : putL H L ((H0'.take H0.length).map (AObj.ren fun i => W.getD i 0)) ++ (H0'.drop H0.length).map (AObj.ren fun i => W.getD i 0) = H2) : ACallAt P f args H d H2 W := by
  subst e1 e2 e3
  have hl0 := hA.len
  have inL : ∀ id ∈ L, id < H.length := fun id hid => by
    obtain ⟨i, hi, rfl⟩ := List.mem_iff_getElem.1 hid
    have := get_lt (h1 i _ (List.getElem?_eq_getElem (by omega)))
    rwa [List.getD_eq_getElem?_getD, List.getElem?_eq_getElem hi] at this
  have hWl : W.length = H0'.length := by rw [hW, seatsOf, List.length_append, List.length_range']; omega
  have hWn : W.Nodup := by
    rw [hW, seatsOf, List.nodup_append]
    refine ⟨hnd, List.nodup_range', fun a ha b hb e => ?_⟩
    have := inL a ha
    have := (List.mem_range'_1.1 hb).1
    omega
  have mem : ∀ {j}, j ∈ W ↔ ∃ i, i < H0'.length ∧ W.getD i 0 = j := fun {j} => by
    rw [List.mem_iff_getElem]
    constructor
    · rintro ⟨i, hi, rfl⟩
      exact ⟨i, by omega, by rw [List.getD_eq_getElem?_getD, List.getElem?_eq_getElem hi]; rfl⟩
    · rintro ⟨i, hi, rfl⟩
      exact ⟨i, by omega, by rw [List.getD_eq_getElem?_getD, List.getElem?_eq_getElem (by omega)]; rfl⟩
  have inj : ∀ i j, i < H0'.length → j < H0'.length → W.getD i 0 = W.getD j 0 → i = j := fun i j hi hj e => by
    rw [List.getD_eq_getElem?_getD, List.getD_eq_getElem?_getD, List.getElem?_eq_getElem (by omega), List.getElem?_eq_getElem (by omega)] at e
    exact (List.getElem_inj hWn).1 e
  have wold : ∀ i, i < L.length → W.getD i 0 = L.getD i 0 := fun i hi => by
    rw [hW, seatsOf, List.getD_eq_getElem?_getD, List.getElem?_append_left hi, List.getD_eq_getElem?_getD]
  have wnew : ∀ i, L.length ≤ i → i < H0'.length → W.getD i 0 = H.length + (i - L.length) := fun i h1 h2 => by
    rw [hW, seatsOf, List.getD_eq_getElem?_getD, List.getElem?_append_right h1, List.getElem?_range' (by omega)]
    simp
  have hN : (putL H L ((H0'.take H0.length).map (AObj.ren fun i => W.getD i 0)) ++ (H0'.drop H0.length).map (AObj.ren fun i => W.getD i 0)).length = H.length + (H0'.length - H0.length) := by
    rw [List.length_append, putL_len, List.length_map, List.length_drop]
  have at2 : ∀ i o, H0'[i]? = some o → (putL H L ((H0'.take H0.length).map (AObj.ren fun i => W.getD i 0)) ++ (H0'.drop H0.length).map (AObj.ren fun i => W.getD i 0))[W.getD i 0]? = some (o.ren fun i => W.getD i 0) := fun i o ho => by
    have hi := get_lt ho
    rcases Nat.lt_or_ge i L.length with q | q
    · rw [wold i q, List.getElem?_append_left (by rw [putL_len]; exact inL _ (by rw [List.getD_eq_getElem?_getD, List.getElem?_eq_getElem q]; exact List.getElem_mem q))]
      refine putL_at L _ H i _ hnd inL q ?_
      rw [List.getElem?_map, List.getElem?_take_of_lt (by omega), ho]
      rfl
    · rw [wnew i q hi, List.getElem?_append_right (by rw [putL_len]; omega), putL_len, List.getElem?_map, List.getElem?_drop, show H0.length + (H.length + (i - L.length) - H.length) = i by omega, ho]
      rfl
  refine ⟨hA.ok, by rw [hN]; omega, fun id hid => ?_, fun id hid => ?_, fun J F w vs G hst hG hnone hrep => ?_⟩
  · have h2 : id ∉ L := fun h => hid (by rw [hW, seatsOf]; exact List.mem_append_left _ h)
    rcases Nat.lt_or_ge id H.length with q | q
    · rw [List.getElem?_append_left (by rw [putL_len]; exact q), putL_out _ _ _ _ h2]
    · rcases Nat.lt_or_ge id (H.length + (H0'.length - H0.length)) with q2 | q2
      · exact absurd (by rw [hW, seatsOf]; exact List.mem_append_right _ (List.mem_range'_1.2 ⟨q, q2⟩)) hid
      · rw [List.getElem?_eq_none q, List.getElem?_eq_none (by rw [hN]; exact q2)]
  · obtain ⟨i, hi, rfl⟩ := mem.1 hid
    exact get_lt (at2 i _ (List.getElem?_eq_getElem hi))
  · have core := acall_core (G := G) (G' := fun id => if id ∈ W then (putL H L ((H0'.take H0.length).map (AObj.ren fun i => W.getD i 0)) ++ (H0'.drop H0.length).map (AObj.ren fun i => W.getD i 0))[id]? else G id) (fun i => W.getD i 0) hA inj hst (fun i o ho => by
        have hi := get_lt ho
        rw [hG _ (mem.2 ⟨i, by omega, rfl⟩), wold i (by omega)]; exact h1 i o ho) (fun i q1 q2 => by
        refine hnone _ (mem.2 ⟨i, q2, rfl⟩) ?_
        rw [wnew i (by omega) q2]; omega) hrep (fun i o ho => by
        rw [if_pos (mem.2 ⟨i, get_lt ho, rfl⟩)]
        exact at2 i o ho) (fun j hj => by
        rw [if_neg fun h => by obtain ⟨i, hi, e⟩ := mem.1 h; exact hj i hi e]) hargs (underO_mem hobj)
    exact core.mono fun e w' ⟨v, J', F', q1, q2, q3, q4, q5⟩ => ⟨v, J', F', q1, q2, fun id hid => (q3 id hid).imp_right fun ⟨i, hi, e⟩ => mem.2 ⟨i, hi, e⟩, q4, q5⟩
/-- A call on data that makes objects. -/
theorem acallAt_new {args : List D} {H0' : List AObj} {d0 : D} (hA : ACall P f args [] d0 H0') (hp : PureL args) {d : D} {H H2 : List AObj} (W : List Nat) (hW : W = List.range' H.length H0'.length) (e2 : D.ren (fun i => W.getD i 0) d0 = d)
    (e3 : H ++ H0'.map (AObj.ren fun i => W.getD i 0) = H2) : ACallAt P f args H d H2 W :=
  acallAt_gen hA [] rfl .nil (underL_pure _ hp) trivial W (by rw [hW]; rfl) (renL_pure _ hp) e2 (fun i o h => by simp at h) (by rw [← e3]; rfl)
/-- One row, anywhere. -/
theorem acallAt_row {pre post : List D} {cs cs' : List D} {d : D} (h : ACall P f (pre ++ .loc 0 0 :: post) [.row true cs] d [.row true cs']) (hpre : PureL pre) (hpost : PureL post) (hcs : PureL cs) (hcs' : PureL cs') (hd : Pure d)
    {H : List AObj} {id : Nat} (hid : H[id]? = some (.row true cs)) : ACallAt P f (pre ++ .loc id 0 :: post) H d (H.set id (.row true cs')) [id] := by
  have hap : ∀ (a b : List D) (ρ : Nat → Nat), renL ρ (a ++ b) = renL ρ a ++ renL ρ b := fun a b ρ => by
    induction a with
    | nil => simp only [renL, List.nil_append]
    | cons x r ih => simp only [List.cons_append, renL, ih]
  have hua : ∀ (a b : List D), UnderL 1 a → UnderL 1 b → UnderL 1 (a ++ b) := fun a b ha hb => by
    induction a with
    | nil => exact hb
    | cons x r ih => simp only [UnderL, List.cons_append] at ha ⊢; exact ⟨ha.1, ih ha.2⟩
  have := acallAt_of h rfl [id] rfl (by simp) (hua _ _ (underL_pure _ hpre) ⟨by simp [Under], underL_pure _ hpost⟩) ⟨underL_pure _ hcs, trivial⟩ (H := H) (args := pre ++ .loc id 0 :: post) (d := d)
    (by rw [hap, renL_pure _ hpre]; simp only [renL, D.ren, renL_pure _ hpost]; rfl) (ren_pure _ hd) (fun i o ho => by
      cases i with
      | zero => simp at ho; subst ho; simp only [AObj.ren, renL_pure cs hcs]; exact hid
      | succ i => simp at ho)
  simpa only [List.map_cons, List.map_nil, putL, AObj.ren, renL_pure cs' hcs'] using this
end
end

/-! ### XDsd -/
section
open Go.RowKit
set_option linter.unusedSimpArgs false
set_option linter.unusedVariables false
section
variable {P : Program} {n : Nat}
/-- What a function's end must show: the result and the first objects, with what is made since read to the bottom. -/
def endD (d : D) (H2 : List AObj) (r : D) (Hf : List AObj) : Prop := DeepM (fromN H2.length) Hf r d ∧ closeH H2.length Hf Hf H2
theorem acall_introD {f : FuncId} {rs : List RV} {p : PC} {args : List D} {H : List AObj} {d : D} {H2 : List AObj} (hf : FunOK P f n rs p) (hn : args.length ≤ n) (hlen : H.length ≤ H2.length)
    (h : PWp P n p (retK rs fun r Hf => endD d H2 r Hf) (params 0 args) H) (hd : Under H2.length d) : ACall P f args H d H2 := by
  refine ⟨funOK_ok hf, hlen, fun J F w vs hok hdom hargs => ?_⟩
  obtain ⟨fn, h1, h2, h3, h4, h5⟩ := hf.out
  cases e : fn.body with
  | none => rw [e] at h5; cases h5
  | some c =>
    rw [e] at h5
    simp only [Option.bind_some] at h5
    refine calls_of_wp h1 e ?_
    rw [h2]
    refine wp_mono (pwp_out h h5 (entry_rep hn hargs hok hdom)) fun e' a' w' ⟨env', H', J', F', q1, q2, q3⟩ => ?_
    have fin : e' = .normal ∨ e' = .ret → a'.defers = [] ∧ ∃ v, (results fn a'.tmps).run P w' = .ok v w' ∧ ∃ v' J'' F'', Ending.returned v = Ending.returned v' ∧ StOK J'' F'' w' (fun i => H2[i]?) ∧ (∀ id, J'' id ≠ none → id < H2.length) ∧ rep J'' F'' w' d v' ∧ Ext J F w J'' F'' w' := fun he => by
      obtain ⟨r, v, ⟨hdm, hcl⟩, k2, k3⟩ := results_all h4 q2 he q1
      have hok' := q2.ok
      have kle : (keepTo H2.length J').le J' := fun i s hs => by
        unfold keepTo at hs
        split at hs
        · exact ⟨s, hs, Nat.le_refl _, fun _ => rfl⟩
        · cases hs
      refine ⟨q2.defers, v, k2, v, keepTo H2.length J', fun b => F' b ∨ OwnsFrom (fromN H2.length) J' b, rfl, ⟨fun i s hs => ?_, fun i i' s s' b g1 g2 g3 g4 => ?_, fun i s b o g1 g2 g3 g4 => ?_, hok'.lt.mono (fun _ h => .inl h) (fun _ _ => rfl) fun b hb => ?_⟩, fun i hi => ?_, rep_keep _ _ hd (deepM_sound hok' _ _ _ hdm k3), ?_⟩
      · unfold keepTo at hs
        split at hs
        · rename_i hi
          obtain ⟨o, g1, g2⟩ := hok'.obj i s hs
          obtain ⟨o', g3, g4⟩ := closeH_get H' H2 hcl i o hi g1
          exact ⟨o', g3, (closeO_ok hok' g4 g2).1⟩
        · cases hs
      · unfold keepTo at g1 g2
        split at g1 <;> split at g2
        · exact hok'.one i i' s s' b g1 g2 g3 g4
        all_goals first | cases g1 | cases g2
      · unfold keepTo at g1
        split at g1
        · rename_i hi
          obtain ⟨o1, t1, t2⟩ := hok'.obj i s g1
          obtain ⟨o', t3, t4⟩ := closeH_get H' H2 hcl i o1 hi t1
          have g3' : H2[i]? = some o := g3
          rw [g3'] at t3
          cases t3
          have hmut := (closeO_ok hok' t4 t2).2
          rintro (hx | ⟨i', s', p1, p2, p3⟩)
          · exact hok'.apart i s b o1 g1 g2 t1 (by rw [← hmut]; exact g4) hx
          · have p1 := fromN_iff.1 p1
            have := hok'.one i i' s s' b g1 p2 g2 p3
            omega
        · cases g1
      · exact hb.elim (hok'.lt b) fun ⟨i, s, _, t1, t2⟩ => hok'.blk_lt t1 t2
      · unfold keepTo at hi
        split at hi
        · assumption
        · exact absurd rfl hi
      · refine ⟨q3.os, q3.tape, q3.output, q3.size, q3.block, q3.frozen, fun i s hs => ?_, fun b hb => .inl (q3.grow b hb), fun b ⟨i, s, hs, hb⟩ => ?_, fun b hb => ?_⟩
        · obtain ⟨s', g1, g2, g3⟩ := q3.le i s hs
          have hi : i < H2.length := by have := hdom i (by rw [hs]; simp); omega
          exact ⟨s', by simp [keepTo, hi, g1], g2, g3⟩
        · obtain ⟨s', g1, _⟩ := kle i s hs
          unfold keepTo at hs
          split at hs
          · exact q3.ownsBack b ⟨i, s, hs, hb⟩
          · cases hs
        · rcases hb with hb | ⟨i, s, _, t1, t2⟩
          · exact q3.growBack b hb
          · rcases q3.ownsBack b ⟨i, s, t1, t2⟩ with q | q
            · exact .inr (.inl q)
            · exact .inr (.inr q)
    cases e' with
    | normal => exact fin (.inl rfl)
    | ret => exact fin (.inr rfl)
    | exit id => exact q1.elim
    | goto l => exact q1.elim
    | panic ch => exact q1.elim
    | outgrown => exact q1.elim
end
end

/-! ### XDr -/
section
open Go.RowKit
set_option linter.unusedVariables false

abbrev WP := Post → Env → List AObj → Prop
def skipW : WP := fun Q env H => Q .normal env H
def seqQ (g : WP) (Q : Post) : Post := fun e env H => match e with
  | .normal => g Q env H
  | e => Q e env H
def seqW (f g : WP) : WP := fun Q env H => f (seqQ g Q) env H
def condW (c : Operand) (f g : WP) : WP := fun Q env H => evK env c fun d => match d with
  | .sc (.bool t) => ifK t (f Q env H) (g Q env H)
  | _ => False
def blockQ (id : Nat) (Q : Post) : Post := fun e env H => match e with
  | .exit id' => match Nat.beq id' id with
    | true => Q .normal env H
    | false => Q (.exit id') env H
  | e => Q e env H
def blockW (id : Nat) (f : WP) : WP := fun Q env H => f (blockQ id Q) env H
def loopW (P : Program) (n : Nat) (c : PC) : WP := fun Q env H => PWp P n (.loop c) Q env H
def stopW (P : Program) (n : Nat) (c : PC) : WP := fun Q env H => PWp P n c Q env H
def exitW (id : Nat) : WP := fun Q env H => Q (.exit id) env H
def retW : WP := fun Q env H => Q .ret env H

abbrev WO := Env → List AObj → (Env → List AObj → Prop) → Prop
def nilO : WO := fun env H K => K env H
def opO (P : Program) (o : POper) (g : WO) : WO := fun env H K =>
  match o.guard with
  | none => step P true o.op env H fun d H' _ _ => match o.dst with
    | some t => g ((t, d) :: env) H' K
    | none => g env H' K
  | some (t, b) => lookK t (fun q => match q with
    | .sc (.bool c) => match b with
      | true => ifK c
        (step P true o.op env H fun d H' _ _ => match o.dst with
          | some u => g ((u, d) :: env) H' K
          | none => g env H' K)
        (match o.dst with
          | some u => g ((u, .sc undef) :: env) H K
          | none => g env H K)
      | false => ifK c
        (match o.dst with
          | some u => g ((u, .sc undef) :: env) H K
          | none => g env H K)
        (step P true o.op env H fun d H' _ _ => match o.dst with
          | some u => g ((u, d) :: env) H' K
          | none => g env H' K)
    | .sc (.tuple _) => match o.dst with
      | some u => g ((u, .sc undef) :: env) H K
      | none => g env H K
    | _ => False) env
def opsW (f : WO) : WP := fun Q env H => f env H fun env H => Q .normal env H

abbrev WD := Env → List AObj → (Env → List AObj → Trace → Prop) → Prop
def nilD : WD := fun env H K => K env H []
def opD (P : Program) (o : POper) (g : WD) : WD := fun env H K =>
  match o.guard with
  | none => step P false o.op env H fun d H' rd wr => match o.dst with
    | some t => g ((t, d) :: env) H' fun e h tr => K e h (((rd, wr), (lightOf o.op env, d, H')) :: tr)
    | none => g env H' fun e h tr => K e h (((rd, wr), (lightOf o.op env, d, H')) :: tr)
  | some (t, b) => lookK t (fun q => match q with
    | .sc (.bool c) => match b with
      | true => ifK c
        (step P false o.op env H fun d H' rd wr => match o.dst with
          | some u => g ((u, d) :: env) H' fun e h tr => K e h (((rd, wr), (none, d, H')) :: tr)
          | none => g env H' fun e h tr => K e h (((rd, wr), (none, d, H')) :: tr))
        (match o.dst with
          | some u => g ((u, .sc undef) :: env) H fun e h tr => K e h ((([], []), (none, .sc undef, H)) :: tr)
          | none => g env H fun e h tr => K e h ((([], []), (none, .sc undef, H)) :: tr))
      | false => ifK c
        (match o.dst with
          | some u => g ((u, .sc undef) :: env) H fun e h tr => K e h ((([], []), (none, .sc undef, H)) :: tr)
          | none => g env H fun e h tr => K e h ((([], []), (none, .sc undef, H)) :: tr))
        (step P false o.op env H fun d H' rd wr => match o.dst with
          | some u => g ((u, d) :: env) H' fun e h tr => K e h (((rd, wr), (none, d, H')) :: tr)
          | none => g env H' fun e h tr => K e h (((rd, wr), (none, d, H')) :: tr))
    | .sc (.tuple _) => match o.dst with
      | some u => g ((u, .sc undef) :: env) H fun e h tr => K e h ((([], []), (none, .sc undef, H)) :: tr)
      | none => g env H fun e h tr => K e h ((([], []), (none, .sc undef, H)) :: tr)
    | _ => False) env
def drawW (l : List POper) (f : WD) : WP := fun Q env H => f env H fun e h tr => match memOK [] l tr with
  | true => Q .normal e h
  | false => match memOKL [] l tr with
    | true => lightK (Q .normal e h) 0 [] l tr
    | false => False

section
variable {P : Program} {n : Nat}
def RedO (P : Program) (l : List POper) (f : WO) : Prop := f = runOps P l
def RedD (P : Program) (l : List POper) (f : WD) : Prop := f = runD P l
def Red (P : Program) (n : Nat) (p : PC) (f : WP) : Prop := f = pw P n p

theorem RedO.nil : RedO P [] nilO := rfl
theorem RedO.cons (o : POper) {l : List POper} {g : WO} (h : RedO P l g) : RedO P (o :: l) (opO P o g) := by
  unfold RedO at h ⊢
  subst h
  funext env H K
  rfl
theorem RedD.nil : RedD P [] nilD := rfl
theorem RedD.cons (o : POper) {l : List POper} {g : WD} (h : RedD P l g) : RedD P (o :: l) (opD P o g) := by
  unfold RedD at h ⊢
  subst h
  funext env H K
  rfl
theorem Red.skip : Red P n .skip skipW := rfl
theorem Red.ops {l : List POper} {f : WO} (h : RedO P l f) : Red P n (.ops l false) (opsW f) := by
  unfold RedO at h; subst h; rfl
theorem Red.draw {l : List POper} {f : WD} (h : RedD P l f) : Red P n (.ops l true) (drawW l f) := by
  unfold RedD at h; subst h; rfl
theorem Red.seq {a b : PC} {f g : WP} (h : Red P n a f) (k : Red P n b g) : Red P n (.seq a b) (seqW f g) := by
  unfold Red at h k; subst h; subst k; rfl
theorem Red.cond (c : Operand) {a b : PC} {f g : WP} (h : Red P n a f) (k : Red P n b g) : Red P n (.cond c a b) (condW c f g) := by
  unfold Red at h k; subst h; subst k; rfl
theorem Red.block (id : Nat) {a : PC} {f : WP} (h : Red P n a f) : Red P n (.block id a) (blockW id f) := by
  unfold Red at h; subst h; rfl
theorem Red.loop (c : PC) : Red P n (.loop c) (loopW P n c) := rfl
theorem Red.stop (c : PC) : Red P n (.stop c) (stopW P n c) := rfl
theorem Red.exit (id : Nat) : Red P n (.exit id) (exitW id) := rfl
theorem Red.ret : Red P n .ret retW := rfl

theorem red_sound {p : PC} {f : WP} {Q : Post} {env : Env} {H : List AObj} (h : Red P n p f) (k : f Q env H) : PWp P n p Q env H :=
  pw_sound _ _ _ _ (by unfold Red at h; subst h; exact k)

/-- The same, told by rules: for `constructor`. -/
inductive RdO (P : Program) : List POper → WO → Prop
  | nil : RdO P [] nilO
  | cons {o : POper} {l : List POper} {g : WO} (h : RdO P l g) : RdO P (o :: l) (opO P o g)
inductive RdD (P : Program) : List POper → WD → Prop
  | nil : RdD P [] nilD
  | cons {o : POper} {l : List POper} {g : WD} (h : RdD P l g) : RdD P (o :: l) (opD P o g)
inductive Rd (P : Program) (n : Nat) : PC → WP → Prop
  | skip : Rd P n .skip skipW
  | ret : Rd P n .ret retW
  | exit {id : Nat} : Rd P n (.exit id) (exitW id)
  | loop {c : PC} : Rd P n (.loop c) (loopW P n c)
  | stop {c : PC} : Rd P n (.stop c) (stopW P n c)
  | ops {l : List POper} {f : WO} (h : RdO P l f) : Rd P n (.ops l false) (opsW f)
  | draw {l : List POper} {f : WD} (h : RdD P l f) : Rd P n (.ops l true) (drawW l f)
  | seq {a b : PC} {f g : WP} (h : Rd P n a f) (k : Rd P n b g) : Rd P n (.seq a b) (seqW f g)
  | cond {c : Operand} {a b : PC} {f g : WP} (h : Rd P n a f) (k : Rd P n b g) : Rd P n (.cond c a b) (condW c f g)
  | block {id : Nat} {a : PC} {f : WP} (h : Rd P n a f) : Rd P n (.block id a) (blockW id f)
theorem RdO.red {l : List POper} {f : WO} (h : RdO P l f) : RedO P l f := by
  induction h with
  | nil => exact .nil
  | cons _ ih => exact .cons _ ih
theorem RdD.red {l : List POper} {f : WD} (h : RdD P l f) : RedD P l f := by
  induction h with
  | nil => exact .nil
  | cons _ ih => exact .cons _ ih
theorem Rd.red {p : PC} {f : WP} (h : Rd P n p f) : Red P n p f := by
  induction h with
  | skip => exact .skip
  | ret => exact .ret
  | exit => exact .exit _
  | loop => exact .loop _
  | stop => exact .stop _
  | ops h => exact .ops h.red
  | draw h => exact .draw h.red
  | seq _ _ ih ik => exact .seq ih ik
  | cond _ _ ih ik => exact .cond _ ih ik
  | block _ ih => exact .block _ ih
theorem rd_sound {p : PC} {f : WP} {Q : Post} {env : Env} {H : List AObj} (h : Rd P n p f) (k : f Q env H) : PWp P n p Q env H := red_sound h.red k
end
end

/-! ### XDsi -/
section
open Go.RowKit
set_option linter.unusedSimpArgs false
set_option linter.unusedVariables false

theorem leB_nilc {L n : Nat} (id j esz : Nat) {env : Env} {H : List AObj} {cs : List D} (hL : L ≤ H.length) (hid : H[id]? = some (.row true cs)) (hj : cs[j]? = some (.sc (.slice none 0 0))) :
    St.leB L n env H env (H.set id (.row true (cs.set j (.own H.length 0 0 0))) ++ [.vec true 0 esz []]) := fun J F a w hr => by
  have hfree : J H.length = none := by
    cases e : J H.length with
    | none => rfl
    | some s => have := hr.dom H.length (by rw [e]; simp); omega
  have hidl := get_lt hid
  let J' : Inj := fun i => if i = H.length then some ⟨false, 0, none, esz, 0, 0⟩ else J i
  have hle : J.le J' := fun i s hs => ⟨s, by
    have : i ≠ H.length := fun e => by subst e; rw [hfree] at hs; cases hs
    simp [J', this, hs], Nat.le_refl _, fun _ => rfl⟩
  have hget : ∀ i, i ≠ H.length → i ≠ id → (H.set id (.row true (cs.set j (.own H.length 0 0 0))) ++ [AObj.vec true 0 esz []])[i]? = H[i]? := fun i hi hne => by
    rcases Nat.lt_or_ge i H.length with q | q
    · rw [List.getElem?_append_left (by simpa using q), List.getElem?_set_ne (fun e => hne e.symm)]
    · rw [List.getElem?_eq_none q, List.getElem?_eq_none (by simp; omega)]
  have hgid : (H.set id (.row true (cs.set j (.own H.length 0 0 0))) ++ [AObj.vec true 0 esz []])[id]? = some (.row true (cs.set j (.own H.length 0 0 0))) := by
    rw [List.getElem?_append_left (by simpa using hidl), List.getElem?_set_self hidl]
  have hnew : ∀ v, v = Value.slice none 0 0 → rep J' F w (.own H.length 0 0 0) v := fun v hv => by
    simp only [rep]
    exact ⟨_, none, 0, 0, by simp [J']; rfl, hv, Nat.le_refl _, fun _ => ⟨rfl, Nat.le_refl _, Nat.zero_le _, rfl, rfl, .inl rfl⟩⟩
  refine ⟨J', F, ⟨hr.defers, hr.size, fun u => rep_mono hle (fun _ h => h) (fun _ _ => rfl) _ _ (hr.tmps u), ⟨fun i s hs => ?_, fun i i' s s' b g1 g2 g3 g4 => ?_, fun i s b o g1 g2 g3 g4 => ?_, hr.ok.lt⟩, fun i hi => ?_⟩, fun i s hi hs => ?_, fun b hb => hb, fun b ⟨i, s, hs, hb⟩ => ?_, fun b hb => .inl hb⟩
  · simp only [J'] at hs
    split at hs
    · rename_i e; subst e
      cases hs
      exact ⟨.vec true 0 esz [], by simp, rfl, rfl, rfl, rfl, Nat.le_refl _, .inl rfl⟩
    · rename_i e
      obtain ⟨o, h1, h2⟩ := hr.ok.obj i s hs
      by_cases e2 : i = id
      · subst e2
        have h1' : H[i]? = some o := h1
        rw [hid] at h1'
        cases h1'
        obtain ⟨k1, k2, k3, k4, k5, b, vals, te, t1, t2, t3, t4, t5⟩ := h2
        refine ⟨_, hgid, k1, k2, k3, by rw [List.length_set]; exact k4, by rw [List.length_set]; exact k5, b, vals, te, t1, t2, by rw [List.length_set]; exact t3, repCells_mk _ _ fun q c hq => ?_, t5⟩
        by_cases e3 : q = j
        · subst e3
          rw [List.getElem?_set_self (get_lt hj)] at hq
          cases hq
          obtain ⟨u, p1, p2, p3⟩ := repCells_get _ _ _ _ hj t4
          simp only [rep] at p3
          exact ⟨u, p1, p2, hnew u p3⟩
        · rw [List.getElem?_set_ne (fun e => e3 e.symm)] at hq
          obtain ⟨u, p1, p2, p3⟩ := repCells_get _ _ _ _ hq t4
          exact ⟨u, p1, p2, rep_mono hle (fun _ h => h) (fun _ _ => rfl) _ _ p3⟩
      · exact ⟨o, by rw [hget i e e2]; exact h1, ObjOK_mono hle (fun _ h => h) (fun _ _ => rfl) (fun _ _ => rfl) h2⟩
  · simp only [J'] at g1 g2
    split at g1
    · cases g1; simp [Site.blk] at g3
    · split at g2
      · cases g2; simp [Site.blk] at g4
      · exact hr.ok.one i i' s s' b g1 g2 g3 g4
  · simp only [J'] at g1
    split at g1
    · cases g1; simp [Site.blk] at g2
    · rename_i e
      by_cases e2 : i = id
      · subst e2
        exact hr.ok.apart i s b _ g1 g2 hid rfl
      · exact hr.ok.apart i s b o g1 g2 (by rw [← hget i e e2]; exact g3) g4
  · simp only [J'] at hi
    rw [List.length_append, List.length_singleton, List.length_set]
    split at hi
    · omega
    · have := hr.dom i hi; omega
  · have : i ≠ H.length := by omega
    simp [J', this, hs]
  · simp only [J'] at hs
    split at hs
    · cases hs; simp [Site.blk] at hb
    · exact ⟨i, s, hs, hb⟩
end

/-! ### XDsj -/
section
open Go.RowKit
set_option linter.unusedSimpArgs false
set_option linter.unusedVariables false

def freezeE (S : Nat → Bool) (H : List AObj) (env : Env) : Env → Prop
  | [] => True
  | (t, d) :: r => DeepM S H (lookD t env) d ∧ freezeE S H env r
def freezeO (S : Nat → Bool) (H : List AObj) (i : Nat) : AObj → AObj → Prop
  | .row q cs, .row q' cs' => (q' = q ∨ (S i = true ∧ q' = false)) ∧ (S i = true → q' = false) ∧ DeepML S H cs cs'
  | .vec q v e xs, .vec q' v' e' xs' => (q' = q ∨ (S i = true ∧ q' = false)) ∧ (S i = true → q' = false) ∧ v = v' ∧ e = e' ∧ DeepMLL S H xs xs'
  | .mapo q I, .mapo q' I' => (q' = q ∨ (S i = true ∧ q' = false)) ∧ (S i = true → q' = false) ∧ I = I'
  | _, _ => False
def freezeH (S : Nat → Bool) (H : List AObj) : Nat → List AObj → List AObj → Prop
  | _, [], [] => True
  | i, o :: r, o' :: r' => freezeO S H i o o' ∧ freezeH S H (i + 1) r r'
  | _, _, _ => False

theorem freezeE_look {S : Nat → Bool} {H : List AObj} {env : Env} : ∀ (env' : Env), freezeE S H env env' → ∀ t, DeepM S H (lookD t env) (lookD t env') ∨ lookD t env' = .junk
  | [], _, t => .inr rfl
  | (k, d) :: r, h, t => by
    simp only [freezeE] at h
    rw [lookD_cons]
    split
    · rename_i e; subst e; exact .inl h.1
    · exact freezeE_look r h.2 t
theorem freezeH_get {S : Nat → Bool} {H : List AObj} : ∀ (l l' : List AObj) (k : Nat), freezeH S H k l l' → l.length = l'.length ∧ ∀ i (o : AObj), l[i]? = some o → ∃ o', l'[i]? = some o' ∧ freezeO S H (k + i) o o'
  | [], [], k, _ => ⟨rfl, fun i o h => by simp at h⟩
  | [], _ :: _, k, h => by simp only [freezeH] at h
  | _ :: _, [], k, h => by simp only [freezeH] at h
  | o :: r, o' :: r', k, h => by
    simp only [freezeH] at h
    obtain ⟨h1, h2⟩ := freezeH_get r r' (k + 1) h.2
    refine ⟨by simp [h1], fun i x hx => ?_⟩
    cases i with
    | zero => simp at hx; subst hx; exact ⟨o', rfl, h.1⟩
    | succ i =>
      obtain ⟨y, q1, q2⟩ := h2 i x (by simpa using hx)
      exact ⟨y, by simpa using q1, by rw [show k + (i + 1) = k + 1 + i by omega]; exact q2⟩

theorem leB_freeze {L n : Nat} (S : Nat → Bool) {env env' : Env} {H H' : List AObj} (hE : freezeE S H env env') (hH : freezeH S H 0 H H') : St.leB L n env H env' H' := fun J F a w hr => by
  obtain ⟨hlen, hget⟩ := freezeH_get H H' 0 hH
  have hok := hr.ok
  refine ⟨J, fun b => F b ∨ OwnsFrom S J b, ⟨hr.defers, hr.size, fun t => ?_, ⟨fun i s hs => ?_, hok.one, fun i s b o g1 g2 g3 g4 => ?_, hok.lt.mono (fun _ h => .inl h) (fun _ _ => rfl) fun b hb => hb.elim (hok.lt b) fun ⟨i, s, _, h1, h2⟩ => hok.blk_lt h1 h2⟩, fun i hi => by rw [← hlen]; exact hr.dom i hi⟩, fun i s hi hs => hs, fun b hb => .inl hb, fun b hb => hb, fun b hb => hb.imp_right fun ⟨i, s, _, h1, h2⟩ => ⟨i, s, h1, h2⟩⟩
  · rcases freezeE_look env' hE t with h1 | e
    · exact deepM_sound hok _ _ _ h1 (hr.tmps t)
    · rw [e]; simp only [rep]
  · obtain ⟨o, h1, h2⟩ := hok.obj i s hs
    obtain ⟨o', h3, h4⟩ := hget i o h1
    rw [Nat.zero_add] at h4
    refine ⟨o', h3, ?_⟩
    cases o with
    | row q cs =>
      cases o' with
      | vec => exact h4.elim
      | mapo => exact h4.elim
      | row q' cs' =>
        obtain ⟨p1, _, p2⟩ := h4
        obtain ⟨k1, k2, k3, k4, k5, b, vals, te, t1, t2, t3, t4, t5⟩ := h2
        have hl := deepML_len _ _ p2
        refine ⟨k1, k2, k3, by rw [← hl]; exact k4, by rw [← hl]; exact k5, b, vals, te, t1, t2, by rw [← hl]; exact t3, deepMCells_sound hok _ _ b 0 p2 t4, fun e => ?_⟩
        rcases p1 with rfl | ⟨p1, _⟩
        · exact .inl (t5 e)
        · exact .inr ⟨i, s, p1, hs, by simp [Site.blk, k1, t1]⟩
    | vec q v e xs =>
      cases o' with
      | row => exact h4.elim
      | mapo => exact h4.elim
      | vec q' v' e' xs' =>
        obtain ⟨p1, _, rfl, rfl, p2⟩ := h4
        obtain ⟨k1, k2, k3, k4, k5, k6⟩ := h2
        have hl := deepMLL_len _ _ p2
        refine ⟨k1, k2, k3, by rw [← hl]; exact k4, k5, ?_⟩
        by_cases hz : s.cap = 0
        · exact .inl hz
        rcases k6 with k6 | ⟨b, o, vals, te, t1, t2, t3, t4, t5⟩
        · exact .inl k6
        · refine .inr ⟨b, o, vals, te, t1, t2, t3, deepMRows_sound hok _ _ b e o p2 t4, fun e => ?_⟩
          rcases p1 with rfl | ⟨p1, _⟩
          · exact .inl (t5 e)
          · exact .inr ⟨i, s, p1, hs, by simp [Site.blk, k1, hz, t1]⟩
    | mapo q I =>
      cases o' with
      | row => exact h4.elim
      | vec => exact h4.elim
      | mapo q' I' =>
        obtain ⟨_, _, rfl⟩ := h4
        exact h2
  · obtain ⟨o0, h1, h2⟩ := hok.obj i s g1
    obtain ⟨o', h3, h4⟩ := hget i o0 h1
    rw [Nat.zero_add] at h4
    have g3' : H'[i]? = some o := g3
    rw [h3] at g3'
    cases g3'
    have hm : ¬ S i = true ∧ o0.mut = true := by
      cases o0 with
      | row q cs =>
        cases o with
        | vec => exact h4.elim
        | mapo => exact h4.elim
        | row q' cs' =>
          obtain ⟨p1, p2, _⟩ := h4
          simp only [AObj.mut] at g4 ⊢
          refine ⟨fun h => ?_, ?_⟩
          · rw [p2 h] at g4; cases g4
          · rcases p1 with rfl | ⟨_, rfl⟩
            · exact g4
            · cases g4
      | vec q v e xs =>
        cases o with
        | row => exact h4.elim
        | mapo => exact h4.elim
        | vec q' v' e' xs' =>
          obtain ⟨p1, p2, _⟩ := h4
          simp only [AObj.mut] at g4 ⊢
          refine ⟨fun h => ?_, ?_⟩
          · rw [p2 h] at g4; cases g4
          · rcases p1 with rfl | ⟨_, rfl⟩
            · exact g4
            · cases g4
      | mapo q I =>
        cases o with
        | row => exact h4.elim
        | vec => exact h4.elim
        | mapo q' I' =>
          obtain ⟨p1, p2, _⟩ := h4
          simp only [AObj.mut] at g4 ⊢
          refine ⟨fun h => ?_, ?_⟩
          · rw [p2 h] at g4; cases g4
          · rcases p1 with rfl | ⟨_, rfl⟩
            · exact g4
            · cases g4
    rintro (hx | ⟨i', s', p1, p2, p3⟩)
    · exact hok.apart i s b o0 g1 g2 h1 hm.2 hx
    · have := hok.one i i' s s' b g1 p2 g2 p3
      subst this
      exact hm.1 p1
end

end Go.Proofs.YtgkodbnomgabdaaDoor
