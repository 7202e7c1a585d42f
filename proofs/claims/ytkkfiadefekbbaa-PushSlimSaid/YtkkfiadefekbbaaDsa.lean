/-
  Regions and code over deep values: what is reckoned is what the machine does. No statement is proved here.
-/
import Derived.Test.YtkkfiadefekbbaaDs9
namespace Go.Proofs.Ytkkfiadefekbbaa
open Go.RowKit
set_option linter.unusedSimpArgs false
set_option linter.unusedVariables false

theorem lookD_cons (t k : Nat) (d : D) (env : Env) : lookD t ((k, d) :: env) = if t = k then d else lookD t env := by
  simp only [lookD]
  cases e : Nat.beq t k
  · rw [if_neg]; intro h; subst h; simp at e
  · rw [if_pos (Nat.eq_of_beq_eq_true e)]

theorem getD_set (a : Array Value) (t u : Nat) (v : Value) (ht : t < a.size) : (a.setIfInBounds t v).getD u undef = if u = t then v else a.getD u undef := by
  simp only [Array.getD_eq_getD_getElem?]
  by_cases h : u = t
  · subst h; simp [Array.getElem?_setIfInBounds, ht]
  · rw [if_neg h, Array.getElem?_setIfInBounds_ne (fun e => h e.symm)]

section
variable {P : Program} {n : Nat} {J J' : Inj} {F F' : Nat → Prop} {env : Env} {H H' : List AObj} {a : Act} {w w' : World}
/-- What stands in the temporaries, behind whatever has become of memory. -/
theorem StRep.tmps_ext (h : StRep n J F env H a w) (hx : Ext J F w J' F' w') : ∀ t, rep J' F' w' (lookD t env) (a.tmps.getD t undef) := fun t => rep_ext hx (h.tmps t)

theorem StRep.put (h : StRep n J F env H a w) (hx : Ext J F w J' F' w') {t : Nat} {d : D} {v : Value} (ht : t < n) (hv : rep J' F' w' d v) (hok : StOK J' F' w' (fun i => H'[i]?)) (hd : ∀ id, J' id ≠ none → id < H'.length) : StRep n J' F' ((t, d) :: env) H' (a.put (some t) v) w' where
  defers := h.defers
  size := by simp [Act.put, h.size]
  tmps u := by
    rw [lookD_cons]
    simp only [Act.put]
    rw [getD_set _ _ _ _ (by rw [h.size]; exact ht)]
    split
    · exact hv
    · exact h.tmps_ext hx u
  ok := hok
  dom := hd
theorem StRep.skip (h : StRep n J F env H a w) (hx : Ext J F w J' F' w') (hok : StOK J' F' w' (fun i => H'[i]?)) (hd : ∀ id, J' id ≠ none → id < H'.length) : StRep n J' F' env H' a w' where
  defers := h.defers
  size := h.size
  tmps := h.tmps_ext hx
  ok := hok
  dom := hd

theorem StRep.eval (h : StRep n J F env H a w) (x : Operand) : rep J F w (evalD env x) (a.eval x) := by
  cases x with
  | tmp t => exact h.tmps t
  | const v =>
    cases v <;> simp only [evalD, lift, Act.eval, rep]
    rename_i cs
    exact ⟨cs.toList, by simp, repL_sc cs.toList⟩
  | global g => simp only [evalD, Act.eval, rep]
  | func f => simp only [evalD, Act.eval, rep]; exact ⟨[], [], rfl, by simp only [repL], by simp only [repL]⟩

/-- What is asked of a region's operations as they stand in the translation. -/
theorem cOper_spec {ops : Array Oper} {mask : Nat} {o : Oper} {p : POper} (h : cOper P n ops mask o = some p) :
    cop P o = some p.op ∧ p.dst = o.dst ∧ (∀ t, o.dst = some t → t < n) ∧ ((o.guard = none ∧ p.guard = none) ∨ ∃ j b t, o.guard = some (j, b) ∧ (ops[j]?).bind (·.dst) = some t ∧ p.guard = some (t, b)) ∧
      p.mask = mask := by
  unfold cOper at h
  split at h
  · rename_i q hd hq hg
    cases h
    exact ⟨hq, rfl, fun t ht => by unfold dstOK at hd; rw [ht] at hd; simpa using hd, .inl ⟨hg, rfl⟩, rfl⟩
  · rename_i q j b hd hq hg
    split at h
    · rename_i t ht
      cases h
      exact ⟨hq, rfl, fun t ht => by unfold dstOK at hd; rw [ht] at hd; simpa using hd, .inr ⟨j, b, t, hg, ht, rfl⟩, rfl⟩
    · cases h
  · cases h

/-- A guard's value that shuts its operation out. -/
def offV (b : Bool) : Value → Bool
  | .bool c => c != b
  | .tuple _ => true
  | _ => false
theorem wanted_on {ops : Array Oper} {o : Oper} {tmps : Array Value} {j : Nat} {b : Bool} {t : Nat} (h1 : o.guard = some (j, b)) (h2 : (ops[j]?).bind (·.dst) = some t) (h : tmps.getD t undef = .bool b) : Region.wanted o (yielded ops tmps) = true := by
  have h4 : tmps[t]? = some (.bool b) := by
    rw [Array.getD_eq_getD_getElem?] at h
    cases e : tmps[t]? with
    | none => rw [e] at h; simp [undef] at h
    | some v => rw [e] at h; simp at h; rw [h]
  simp only [Region.wanted, h1, yielded, h2, Option.bind_some, h4]
  cases b <;> rfl
theorem wanted_off {ops : Array Oper} {o : Oper} {tmps : Array Value} {j : Nat} {b : Bool} {t : Nat} (h1 : o.guard = some (j, b)) (h2 : (ops[j]?).bind (·.dst) = some t) (h : offV b (tmps.getD t undef) = true) : Region.wanted o (yielded ops tmps) = false := by
  rw [Array.getD_eq_getD_getElem?] at h
  cases e : tmps[t]? with
  | none => simp only [Region.wanted, h1, yielded, h2, Option.bind_some, e]; cases b <;> rfl
  | some v =>
    rw [e] at h
    simp only [Option.getD_some] at h
    simp only [Region.wanted, h1, yielded, h2, Option.bind_some, e]
    cases v <;> simp [offV] at h ⊢
    exact h

theorem wanted_of {ops : Array Oper} {o : Oper} (h : StRep n J F env H a w) {j : Nat} {b c : Bool} {t : Nat} (h1 : o.guard = some (j, b)) (h2 : (ops[j]?).bind (·.dst) = some t) (hc : lookD t env = .sc (.bool c)) :
    Region.wanted o (yielded ops a.tmps) = (c == b) := by
  have h3 := h.tmps t
  rw [hc] at h3
  simp only [rep] at h3
  have h4 : a.tmps[t]? = some (.bool c) := by
    rw [Array.getD_eq_getD_getElem?] at h3
    cases e : a.tmps[t]? with
    | none => rw [e] at h3; simp [undef] at h3
    | some v => rw [e] at h3; simp at h3; rw [h3]
  simp only [Region.wanted, h1, yielded, h2, Option.bind_some, h4]
  cases b <;> cases c <;> rfl
end

section
variable {P : Program} {n : Nat} {ops : Array Oper} {K' : Env → List AObj → Prop} {Q : Exit → Act → World → Prop}

theorem ifK_iff {c : Bool} {A B : Prop} : ifK c A B ↔ (c = true → A) ∧ (c = false → B) := by
  cases c <;> simp [ifK]

theorem soundSeq_of {o : Oper} {p : POp} {env : Env} {H : List AObj} {K : Cont} (hc : cop P o = some p) (h : step P true p env H K) : SoundSeq P o env H K :=
  (step_sound hc h).elim sound_seq (·.2)

theorem runOps_sound : ∀ (l : List Oper) (i : Nat) (ms : List Nat) (pl : List POper), (∀ j, l[j]? = ops[i + j]?) → cOpers P n ops ms l = some pl → ∀ (env : Env) (H : List AObj) (J : Inj) (F : Nat → Prop) (a : Act) (w : World), runOps P pl env H K' → StRep n J F env H a w →
    (∀ env' H' J' F' a' w', K' env' H' → StRep n J' F' env' H' a' w' → Ext J F w J' F' w' → Q .normal a' w') → wpOps P ops Q (List.range' i l.length) a w
  | [], i, ms, pl, hl, hc, env, H, J, F, a, w, h, hr, hQ => by
    simp [cOpers] at hc; subst hc
    simp only [List.length_nil, List.range'_zero, wpOps]
    exact hQ env H J F a w h hr (Ext.refl _ _ _)
  | o :: l, i, ms, pl, hl, hc, env, H, J, F, a, w, h, hr, hQ => by
    simp only [cOpers] at hc
    split at hc
    · rename_i p pr h1 h2
      cases hc
      have ho : ops[i]? = some o := by simpa using (hl 0).symm
      have hl' : ∀ j, l[j]? = ops[i + 1 + j]? := fun j => by have := hl (j + 1); simpa [Nat.add_assoc, Nat.add_comm 1 j] using this
      obtain ⟨k1, k2, k3, k4, _⟩ := cOper_spec h1
      have go : ∀ env' H' J' F' a' w', Ext J F w J' F' w' → runOps P pr env' H' K' → StRep n J' F' env' H' a' w' → wpOps P ops Q (List.range' (i + 1) l.length) a' w' := fun env' H' J' F' a' w' hx h' hr' =>
        runOps_sound l (i + 1) ms.tail pr hl' h2 env' H' J' F' a' w' h' hr' fun env'' H'' J'' F'' a'' w'' q1 q2 q3 => hQ env'' H'' J'' F'' a'' w'' q1 q2 (hx.trans q3)
      have exec : (step P true p.op env H fun d H' _ _ => match p.dst with
          | some t => runOps P pr ((t, d) :: env) H' K'
          | none => runOps P pr env H' K') → o.wp P a w (wpOps P ops Q (List.range' (i + 1) l.length)) Q := fun hs => by
        obtain ⟨d, H2, rd, wr, ⟨hle, hseq⟩, hK⟩ := soundSeq_of k1 hs
        refine hseq J F w a hr.ok hr.dom (fun x _ => hr.eval x) _ _ fun v w' J' F' q1 q2 q3 q4 => ?_
        rw [k2] at hK
        cases hd : o.dst with
        | none =>
          rw [hd] at hK
          exact go env H2 J' F' _ w' q3 hK (hr.skip q3 q2 q4)
        | some t =>
          rw [hd] at hK
          exact go _ H2 J' F' _ w' q3 hK (hr.put q3 (k3 t hd) q1 q2 q4)
      have skip : (match p.dst with
          | some t => runOps P pr ((t, .sc undef) :: env) H K'
          | none => runOps P pr env H K') → wpOps P ops Q (List.range' (i + 1) l.length) (a.put o.dst undef) w := fun hs => by
        rw [k2] at hs
        cases hd : o.dst with
        | none =>
          rw [hd] at hs
          exact go env H J F _ w (Ext.refl _ _ _) hs hr
        | some t =>
          rw [hd] at hs
          exact go _ H J F _ w (Ext.refl _ _ _) hs (hr.put (Ext.refl _ _ _) (k3 t hd) (by simp only [rep]) hr.ok hr.dom)
      simp only [List.length_cons, List.range'_succ, wpOps, ho]
      simp only [runOps] at h
      rcases k4 with ⟨g1, g2⟩ | ⟨j, b, t, g1, g2, g3⟩
      · rw [g2] at h
        rw [if_pos (by simp [Region.wanted, g1])]
        exact .inl (exec h)
      · rw [g3] at h
        simp only [lookK_eq] at h
        split at h
        · rename_i c hcc
          have hw := wanted_of hr g1 g2 hcc
          cases b with
          | true =>
            obtain ⟨hA, hB⟩ := ifK_iff.1 h
            cases c with
            | true => rw [if_pos (by rw [hw]; rfl)]; exact .inl (exec (hA rfl))
            | false => rw [if_neg (by rw [hw]; simp)]; exact skip (hB rfl)
          | false =>
            obtain ⟨hA, hB⟩ := ifK_iff.1 h
            cases c with
            | true => rw [if_neg (by rw [hw]; simp)]; exact skip (hA rfl)
            | false => rw [if_pos (by rw [hw]; rfl)]; exact .inl (exec (hB rfl))
        · rename_i xs hcc
          have h3 := hr.tmps t
          rw [hcc] at h3
          simp only [rep] at h3
          rw [if_neg (by rw [wanted_off g1 g2 (by rw [h3]; rfl)]; simp)]
          exact skip h
        · exact h.elim
    · cases hc
end
end Go.Proofs.Ytkkfiadefekbbaa
