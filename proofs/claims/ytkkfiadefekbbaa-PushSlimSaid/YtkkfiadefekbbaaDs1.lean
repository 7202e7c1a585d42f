/-
  What an operation's reckoning says is what the machine does: the operations that leave memory alone. No statement is proved here.
-/
import Derived.Test.YtkkfiadefekbbaaDwp
namespace Go.Proofs.Ytkkfiadefekbbaa
open Go.RowKit
set_option linter.unusedSimpArgs false
set_option linter.unusedVariables false

def upd (G : Nat → Option AObj) (wr : List Nat) (H2 : List AObj) : Nat → Option AObj := fun id => if id ∈ wr then H2[id]? else G id

theorem upd_nil (G : Nat → Option AObj) (H2 : List AObj) : upd G [] H2 = G := by funext id; simp [upd]

/-- An operation does, in whatever memory stands for these objects, what is said of it. -/
structure OpS (P : Program) (o : Oper) (env : Env) (rd wr : List Nat) (H : List AObj) (d : D) (H2 : List AObj) : Prop where
  frame : ∀ id, id ∉ wr → H2[id]? = H[id]?
  len : H.length ≤ H2.length
  lt : ∀ id ∈ wr, id < H2.length
  run : ∀ (J : Inj) (F : Nat → Prop) (w : World) (a : Act) (G : Nat → Option AObj), StOK J F w G → (∀ x ∈ o.op.operands, rep J F w (evalD env x) (a.eval x)) →
    (∀ id, id ∈ rd ∨ id ∈ wr → G id = H[id]?) → (∀ id, H.length ≤ id → id ∈ wr → J id = none) →
    ∀ (K : Act → World → Prop) (Q : Exit → Act → World → Prop),
      (∀ v w' J' F', rep J' F' w' d v → StOK J' F' w' (upd G wr H2) → Ext J F w J' F' w' → (∀ id, J id = none → id ∉ wr → J' id = none) → K (a.put o.dst v) w') → o.wp P a w K Q

theorem OpS.value {P : Program} {o : Oper} {env : Env} {rd : List Nat} {H : List AObj} {d : D}
    (h : ∀ (J : Inj) (F : Nat → Prop) (w : World) (a : Act) (G : Nat → Option AObj), StOK J F w G → (∀ x ∈ o.op.operands, rep J F w (evalD env x) (a.eval x)) →
      (∀ id ∈ rd, G id = H[id]?) → ∃ v, (execOp a.eval o).run P w = .ok (.value v) w ∧ rep J F w d v) : OpS P o env rd [] H d H where
  frame _ _ := rfl
  len := Nat.le_refl _
  lt _ h := by cases h
  run J F w a G hok hops hrd _ K Q hK := by
    obtain ⟨v, h1, h2⟩ := h J F w a G hok hops fun id hid => hrd id (.inl hid)
    unfold Oper.wp
    rw [h1, Oper.upon_value]
    exact hK v w J F h2 (by rw [upd_nil]; exact hok) (Ext.refl _ _ _) fun _ h _ => h

/-! ### The reckoning's words, said plainly -/

theorem lookK_eq (t : Nat) (K : D → Prop) : ∀ env, lookK t K env = K (lookD t env)
  | [] => rfl
  | (k, d) :: r => by
    simp only [lookK, lookD]
    cases Nat.beq t k
    · exact lookK_eq t K r
    · rfl
theorem scK_eq : ∀ (l : List Value) (K : List D → Prop), scK l K = K (l.map .sc)
  | [], K => rfl
  | v :: r, K => by simp only [scK, scK_eq r, List.map_cons]
theorem evK_eq (env : Env) (x : Operand) (K : D → Prop) : evK env x K = K (evalD env x) := by
  cases x with
  | tmp t => exact lookK_eq t K env
  | const v => cases v <;> first | rfl | simp only [evK, evalD, lift, scK_eq]
  | global g => rfl
  | func f => rfl
theorem evLK_eq (env : Env) : ∀ (xs : List Operand) (K : List D → Prop), evLK env xs K = K (xs.map (evalD env))
  | [], K => rfl
  | x :: r, K => by simp only [evLK, evK_eq, evLK_eq env r, List.map_cons]
theorem atK_iff : ∀ (cs : List D) (n : Nat) (K : D → Prop), atK cs n K ↔ ∃ c, cs[n]? = some c ∧ K c
  | [], n, K => by simp [atK]
  | c :: r, 0, K => by simp [atK]
  | c :: r, n + 1, K => by simp only [atK, List.getElem?_cons_succ]; exact atK_iff r n K
theorem takeK_iff : ∀ (cs : List D) (n : Nat) (K : List D → Prop), takeK cs n K ↔ n ≤ cs.length ∧ K (cs.take n)
  | cs, 0, K => by simp [takeK]
  | [], n + 1, K => by simp [takeK]
  | c :: r, n + 1, K => by simp only [takeK, takeK_iff r n, List.length_cons, List.take_succ_cons, Nat.add_le_add_iff_right]
theorem dropK_iff : ∀ (cs : List D) (n : Nat) (K : List D → Prop), dropK cs n K ↔ n ≤ cs.length ∧ K (cs.drop n)
  | cs, 0, K => by cases cs <;> simp [dropK]
  | [], n + 1, K => by simp [dropK]
  | c :: r, n + 1, K => by simp only [dropK, dropK_iff r n, List.length_cons, List.drop_succ_cons, Nat.add_le_add_iff_right]
theorem hgetK_iff : ∀ (H : List AObj) (n : Nat) (K : AObj → Prop), hgetK H n K ↔ ∃ c, H[n]? = some c ∧ K c
  | [], n, K => by simp [hgetK]
  | c :: r, 0, K => by simp [hgetK]
  | c :: r, n + 1, K => by simp only [hgetK, List.getElem?_cons_succ]; exact hgetK_iff r n K
theorem hputK_iff : ∀ (H : List AObj) (n : Nat) (o : AObj) (K : List AObj → Prop), hputK H n o K ↔ n < H.length ∧ K (H.set n o)
  | [], n, o, K => by simp [hputK]
  | c :: r, 0, o, K => by simp [hputK]
  | c :: r, n + 1, o, K => by simp only [hputK, hputK_iff r n, List.length_cons, List.set_cons_succ, Nat.add_lt_add_iff_right]
theorem hpushK_iff : ∀ (H : List AObj) (o : AObj) (K : List AObj → Nat → Prop), hpushK H o K ↔ K (H ++ [o]) H.length
  | [], o, K => by simp [hpushK]
  | c :: r, o, K => by simp only [hpushK, hpushK_iff r, List.length_cons, List.cons_append]
theorem putK_iff : ∀ (r : List D) (n : Nat) (cs : List D) (K : List D → Prop), putK r n cs K ↔ n + cs.length ≤ r.length ∧ K (r.take n ++ cs ++ r.drop (n + cs.length))
  | [], 0, [], K => by simp [putK]
  | [], 0, c :: cs, K => by simp [putK]
  | [], n + 1, cs, K => by simp [putK]
  | x :: r, 0, [], K => by simp [putK]
  | x :: r, 0, c :: cs, K => by
    simp only [putK, putK_iff r 0 cs, List.length_cons, List.take_zero, List.nil_append, Nat.zero_add, List.cons_append, List.drop_succ_cons, Nat.add_le_add_iff_right]
  | x :: r, n + 1, cs, K => by
    simp only [putK, putK_iff r n cs, List.length_cons, List.take_succ_cons, List.cons_append]
    rw [show n + 1 + cs.length = n + cs.length + 1 by omega, List.drop_succ_cons, Nat.add_le_add_iff_right]

theorem sameK_iff (a b : Nat) (A : Prop) : sameK a b A ↔ a = b ∧ A := by
  unfold sameK
  cases e : Nat.beq a b
  · simp only [false_iff, not_and]; intro h; subst h; simp at e
  · simp [Nat.eq_of_beq_eq_true e]

/-- The cells of a value that may be stored. -/
def D.cells : D → List D
  | .agg cs => cs
  | d => [d]
def storable (d : D) : Bool := match d with
  | .agg cs => cells1 cs
  | d => cell1 d
theorem cellsK_iff (d : D) (K : List D → Prop) : cellsK d K ↔ storable d = true ∧ K d.cells := by
  cases d <;> simp only [cellsK, storable, D.cells]
  all_goals
    first
    | (generalize e : cells1 _ = b; cases b <;> simp)
    | (generalize e : cell1 _ = b; cases b <;> simp)

section
variable {J : Inj} {F : Nat → Prop} {w : World}
theorem cells1_mem : ∀ (cs : List D), cells1 cs = true → ∀ c ∈ cs, cell1 c = true
  | [], _, c, h => by cases h
  | c :: r, h, d, hd => by
    simp only [cells1] at h
    cases e : cell1 c with
    | false => rw [e] at h; cases h
    | true =>
      rw [e] at h
      rcases List.mem_cons.1 hd with rfl | hd
      · exact e
      · exact cells1_mem r h d hd
theorem oneCell_of {c : D} {v : Value} (h : cell1 c = true) (k : rep J F w c v) : oneCell v = true := by
  cases c <;> simp only [rep] at k
  case sc u => subst k; cases v <;> first | rfl | simp [cell1] at h
  case loc => obtain ⟨_, _, _, _, _, rfl⟩ := k; rfl
  case ipt => obtain ⟨_, _, rfl, _⟩ := k; rfl
  case lst => obtain ⟨_, _, _, rfl, _⟩ := k; rfl
  case fn => obtain ⟨_, _, rfl, _⟩ := k; rfl
  case ifc => obtain ⟨_, rfl, _⟩ := k; rfl
  case elt => obtain ⟨_, _, _, rfl, _⟩ := k; rfl
  case own => obtain ⟨_, _, _, _, _, rfl, _⟩ := k; rfl
  all_goals simp [cell1] at h
end

/-! ### Arithmetic -/
theorem arithK_iff (k : IntKind) (z : Int) (K : D → Prop) (h : arithK k z K) : K (.sc (.int k (k.wrap z))) := by
  rcases h with ⟨h1, h2⟩ | h
  · unfold InR at h1; rw [h1]; exact h2
  · exact h _ rfl

theorem run_eqGuard_int (P : Program) (w : World) (op : BinOp) (t : TypeId) (x y : Operand) (k k' : IntKind) (a b : Int) : (eqGuard op t x y (.int k a) (.int k' b)).run P w = .ok () w := by
  cases op <;> simp [eqGuard, pure, Sem.run]
theorem run_eqGuard_string (P : Program) (w : World) (op : BinOp) (t : TypeId) (x y : Operand) (a b : ByteArray) : (eqGuard op t x y (.string a) (.string b)).run P w = .ok () w := by
  cases op <;> simp [eqGuard, pure, Sem.run]
theorem run_eqGuard_bool (P : Program) (w : World) (op : BinOp) (t : TypeId) (x y : Operand) (a b : Bool) : (eqGuard op t x y (.bool a) (.bool b)).run P w = .ok () w := by
  cases op <;> simp [eqGuard, pure, Sem.run]

theorem kindNo_inj {k k' : IntKind} (h : Nat.beq (kindNo k) (kindNo k') = true) : k = k' := by
  cases k <;> cases k' <;> first | rfl | cases h

theorem binK_sound (op : BinOp) (dx dy : D) (K : D → Prop) (h : binK op dx dy K) :
    ∃ u v r, dx = .sc u ∧ dy = .sc v ∧ K (.sc r) ∧ ∀ (P : Program) (w : World) (t : TypeId) (x y : Operand), ((do eqGuard op t x y u v; binOp op t u v : Sem Value)).run P w = .ok r w := by
  unfold binK at h
  split at h
  · rename_i k a k' b
    split at h
    · obtain ⟨h0, h⟩ := h
      refine ⟨_, _, _, rfl, rfl, arithK_iff _ _ _ h, fun P w t x y => ?_⟩
      simp [run_eqGuard_int, binOp, Op.shift, show ¬ b < 0 by omega, pure, Sem.run]
    · obtain ⟨h0, h⟩ := h
      refine ⟨_, _, _, rfl, rfl, h, fun P w t x y => ?_⟩
      simp [run_eqGuard_int, binOp, Op.shift, show ¬ b < 0 by omega, pure, Sem.run]
    · rename_i hn1 hn2
      split at h
      · exact h.elim
      · rename_i hk
        have hk := kindNo_inj hk
        subst hk
        cases op <;> simp only at h
        all_goals try exact h.elim
        case add => exact ⟨_, _, _, rfl, rfl, arithK_iff _ _ _ h, fun P w t x y => by simp [run_eqGuard_int, binOp, Op.intArith, pure, Sem.run]⟩
        case sub => exact ⟨_, _, _, rfl, rfl, arithK_iff _ _ _ h, fun P w t x y => by simp [run_eqGuard_int, binOp, Op.intArith, pure, Sem.run]⟩
        case mul => exact ⟨_, _, _, rfl, rfl, arithK_iff _ _ _ h, fun P w t x y => by simp [run_eqGuard_int, binOp, Op.intArith, pure, Sem.run]⟩
        case quo => exact ⟨_, _, _, rfl, rfl, arithK_iff _ _ _ h.2, fun P w t x y => by simp [run_eqGuard_int, binOp, Op.intDiv, pure, Sem.run, h.1]⟩
        case rem => exact ⟨_, _, _, rfl, rfl, h.2, fun P w t x y => by simp [run_eqGuard_int, binOp, Op.intDiv, pure, Sem.run, h.1]⟩
        case eql => exact ⟨_, _, _, rfl, rfl, h, fun P w t x y => by simp [run_eqGuard_int, binOp, Op.intCmp, pure, Sem.run]⟩
        case neq => exact ⟨_, _, _, rfl, rfl, h, fun P w t x y => by simp [run_eqGuard_int, binOp, Op.intCmp, pure, Sem.run]⟩
        case lss => exact ⟨_, _, _, rfl, rfl, h, fun P w t x y => by simp [run_eqGuard_int, binOp, Op.intCmp, pure, Sem.run]⟩
        case leq => exact ⟨_, _, _, rfl, rfl, h, fun P w t x y => by simp [run_eqGuard_int, binOp, Op.intCmp, pure, Sem.run]⟩
        case gtr => exact ⟨_, _, _, rfl, rfl, h, fun P w t x y => by simp [run_eqGuard_int, binOp, Op.intCmp, pure, Sem.run]⟩
        case geq => exact ⟨_, _, _, rfl, rfl, h, fun P w t x y => by simp [run_eqGuard_int, binOp, Op.intCmp, pure, Sem.run]⟩
        case and => exact ⟨_, _, _, rfl, rfl, h, fun P w t x y => by simp [run_eqGuard_int, binOp, Op.intBits, pure, Sem.run, bitsV]⟩
        case or => exact ⟨_, _, _, rfl, rfl, h, fun P w t x y => by simp [run_eqGuard_int, binOp, Op.intBits, pure, Sem.run, bitsV]⟩
        case xor => exact ⟨_, _, _, rfl, rfl, h, fun P w t x y => by simp [run_eqGuard_int, binOp, Op.intBits, pure, Sem.run, bitsV]⟩
        case andNot => exact ⟨_, _, _, rfl, rfl, h, fun P w t x y => by simp [run_eqGuard_int, binOp, Op.intBits, pure, Sem.run, bitsV]⟩
  · rename_i a b
    cases op <;> simp only at h
    all_goals try exact h.elim
    case add => exact ⟨_, _, _, rfl, rfl, h.2, fun P w t x y => by
      have h1 := h.1
      have h2 : (a.size : Int) + (b.size : Int) ≤ 9223372036854775807 := by omega
      simp [run_eqGuard_string, binOp, Op.stringOp, pure, Sem.run, h2]⟩
    all_goals exact ⟨_, _, _, rfl, rfl, h, fun P w t x y => by simp [run_eqGuard_string, binOp, Op.stringOp, pure, Sem.run]⟩
  · exact h.elim

/-! ### The operations that leave memory alone -/
section
variable {P : Program} {seq : Bool} {o : Oper} {env : Env} {H : List AObj} {K : Cont}

/-- What the reckoning of an operation promises. -/
def Sound (P : Program) (o : Oper) (env : Env) (H : List AObj) (K : Cont) : Prop := ∃ d H2 rd wr, OpS P o env rd wr H d H2 ∧ K d H2 rd wr

theorem sound_value {d : D} {rd : List Nat} (hK : K d H rd [])
    (h : ∀ (J : Inj) (F : Nat → Prop) (w : World) (a : Act) (G : Nat → Option AObj), StOK J F w G → (∀ x ∈ o.op.operands, rep J F w (evalD env x) (a.eval x)) →
      (∀ id ∈ rd, G id = H[id]?) → ∃ v, (execOp a.eval o).run P w = .ok (.value v) w ∧ rep J F w d v) : Sound P o env H K := ⟨d, H, rd, [], OpS.value h, hK⟩

theorem s_move {x : Operand} (ho : o.op = .move x ∨ o.op = .assign x) (h : step P seq (.move x) env H K) : Sound P o env H K := by
  simp only [step, evK_eq] at h
  refine sound_value h fun J F w a G _ hops _ => ⟨a.eval x, ?_, ?_⟩
  · rcases ho with e | e <;> simp [execOp, e, pure, Sem.run]
  · rcases ho with e | e <;> exact hops x (by simp [e, Op.operands])

theorem ifK_true {A B : Prop} : ifK true A B = A := rfl
theorem ifK_false {A B : Prop} : ifK false A B = B := rfl

theorem s_pick {c x y : Operand} (ho : o.op = .pick c x y) (h : step P seq (.pick c x y) env H K) : Sound P o env H K := by
  simp only [step, evK_eq] at h
  cases hc : evalD env c with
  | sc u =>
    cases u with
    | bool t =>
      rw [hc] at h
      cases t with
      | true =>
        simp only [ifK_true] at h
        refine sound_value h fun J F w a G _ hops _ => ⟨a.eval x, ?_, hops x (by simp [ho, Op.operands])⟩
        have h1 := hops c (by simp [ho, Op.operands])
        rw [hc] at h1
        simp only [rep] at h1
        simp [execOp, ho, pure, Sem.run, h1, asBool]
      | false =>
        simp only [ifK_false] at h
        refine sound_value h fun J F w a G _ hops _ => ⟨a.eval y, ?_, hops y (by simp [ho, Op.operands])⟩
        have h1 := hops c (by simp [ho, Op.operands])
        rw [hc] at h1
        simp only [rep] at h1
        simp [execOp, ho, pure, Sem.run, h1, asBool]
    | _ => rw [hc] at h; exact h.elim
  | _ => rw [hc] at h; exact h.elim

theorem s_nilchk {x : Operand} (ho : o.op = .nilCheck x) (h : step P seq (.nilchk x) env H K) : Sound P o env H K := by
  simp only [step, evK_eq] at h
  have key : ∀ v, (∃ a, v = Value.pointer (some a)) ∨ (∃ f us vs, v = .func (.func f) us vs) → ∀ (w : World) (ρ : Operand → Value), ρ x = v → (execOp ρ o).run P w = .ok (.value v) w := by
    rintro v (⟨a, rfl⟩ | ⟨f, us, vs, rfl⟩) w ρ e <;> simp [execOp, ho, e, pure, Sem.run]
  cases hx : evalD env x with
  | loc id off =>
    rw [hx] at h
    refine sound_value h fun J F w a G _ hops _ => ?_
    have h1 := hops x (by simp [ho, Op.operands])
    rw [hx] at h1
    refine ⟨_, key _ (.inl ?_) w _ rfl, h1⟩
    simp only [rep] at h1
    obtain ⟨_, _, _, _, _, e⟩ := h1
    exact ⟨_, e⟩
  | elt id ver i off =>
    rw [hx] at h
    refine sound_value h fun J F w a G _ hops _ => ?_
    have h1 := hops x (by simp [ho, Op.operands])
    rw [hx] at h1
    refine ⟨_, key _ (.inl ?_) w _ rfl, h1⟩
    simp only [rep] at h1
    obtain ⟨_, _, _, e, _⟩ := h1
    exact ⟨_, e⟩
  | ipt cs =>
    rw [hx] at h
    refine sound_value h fun J F w a G _ hops _ => ?_
    have h1 := hops x (by simp [ho, Op.operands])
    rw [hx] at h1
    refine ⟨_, key _ (.inl ?_) w _ rfl, h1⟩
    simp only [rep] at h1
    obtain ⟨_, _, e, _⟩ := h1
    exact ⟨_, e⟩
  | fn f first cap =>
    rw [hx] at h
    cases f with
    | func f =>
      refine sound_value h fun J F w a G _ hops _ => ?_
      have h1 := hops x (by simp [ho, Op.operands])
      rw [hx] at h1
      refine ⟨_, key _ (.inr ?_) w _ rfl, h1⟩
      simp only [rep] at h1
      obtain ⟨_, _, e, _⟩ := h1
      exact ⟨_, _, _, e⟩
    | _ => exact h.elim
  | _ => rw [hx] at h; exact h.elim

theorem s_bin {op : BinOp} {t yt : TypeId} {x y : Operand} (ho : o.op = .binOp op t x y yt) (h : step P seq (.bin op x y) env H K) : Sound P o env H K := by
  simp only [step, evK_eq] at h
  obtain ⟨u, v, r, h1, h2, h3, h4⟩ := binK_sound _ _ _ _ h
  refine sound_value h3 fun J F w a G _ hops _ => ⟨r, ?_, by simp only [rep]⟩
  have k1 := hops x (by simp [ho, Op.operands])
  have k2 := hops y (by simp [ho, Op.operands])
  rw [h1] at k1; rw [h2] at k2
  simp only [rep] at k1 k2
  simp only [execOp, ho, k1, k2]
  have := h4 P w t x y
  simp only [Sem.run_bind] at this ⊢
  rw [this]
  rfl

theorem run_equal_bool {t : TypeId} (ht : P.underlying t = some .bool) (a b : Bool) (w : World) : (Op.equal t (.bool a) (.bool b)).run P w = .ok (a == b) w := by
  unfold Op.equal
  rw [show Op.maxDepth = 9999 + 1 from rfl]
  unfold Op.equalIn
  simp [underlying, program, Sem.run, ht, pure]

theorem s_eqb {neq : Bool} {op : BinOp} {t yt : TypeId} {x y : Operand} (hop : op = if neq then .neq else .eql) (ht : P.underlying t = some .bool) (ho : o.op = .binOp op t x y yt) (h : step P seq (.eqb neq x y) env H K) : Sound P o env H K := by
  simp only [step, evK_eq] at h
  unfold eqbK at h
  split at h
  · rename_i u v e1 e2
    cases neq with
    | false =>
      simp only [Bool.false_eq_true, if_false] at hop
      refine sound_value h fun J F w a G _ hops _ => ⟨_, ?_, rfl⟩
      have k1 := hops x (by simp [ho, Op.operands])
      have k2 := hops y (by simp [ho, Op.operands])
      rw [e1] at k1; rw [e2] at k2
      simp only [rep] at k1 k2
      simp [execOp, ho, k1, k2, hop, run_eqGuard_bool, binOp, run_equal_bool ht, Sem.run, pure]
    | true =>
      simp only [if_true] at hop
      refine sound_value h fun J F w a G _ hops _ => ⟨_, ?_, rfl⟩
      have k1 := hops x (by simp [ho, Op.operands])
      have k2 := hops y (by simp [ho, Op.operands])
      rw [e1] at k1; rw [e2] at k2
      simp only [rep] at k1 k2
      simp [execOp, ho, k1, k2, hop, run_eqGuard_bool, binOp, run_equal_bool ht, Sem.run, pure]
  · exact h.elim

theorem s_un {op : UnOp} {t : TypeId} {x : Operand} (ho : o.op = .unOp op t x) (h : step P seq (.un op x) env H K) : Sound P o env H K := by
  simp only [step, evK_eq] at h
  unfold unK at h
  split at h
  · rename_i b e
    refine sound_value h fun J F w a G _ hops _ => ⟨_, ?_, rfl⟩
    have k1 := hops x (by simp [ho, Op.operands])
    rw [e] at k1
    simp only [rep] at k1
    simp [execOp, ho, k1, Op.unary, Sem.run, pure]
  · rename_i k n e
    refine sound_value (arithK_iff _ _ _ h) fun J F w a G _ hops _ => ⟨_, ?_, rfl⟩
    have k1 := hops x (by simp [ho, Op.operands])
    rw [e] at k1
    simp only [rep] at k1
    simp [execOp, ho, k1, Op.unary, Op.intArith, Sem.run, pure]
  · exact h.elim

theorem s_ext {i : Nat} {x : Operand} (ho : o.op = .extract x i) (h : step P seq (.ext i x) env H K) : Sound P o env H K := by
  simp only [step, evK_eq] at h
  split at h
  · rename_i cs e
    obtain ⟨c, h1, h2⟩ := (atK_iff _ _ _).1 h
    refine sound_value h2 fun J F w a G _ hops _ => ?_
    have k1 := hops x (by simp [ho, Op.operands])
    rw [e] at k1
    simp only [rep] at k1
    obtain ⟨vs, k2, k3⟩ := k1
    obtain ⟨v, k4, k5⟩ := repL_get _ _ _ _ h1 k3
    refine ⟨v, ?_, k5⟩
    simp [execOp, ho, k2, Instr.extract, k4, Sem.run, pure]
  · exact h.elim

theorem s_mkfn {f : Fn} {first cap : Array Operand} (ho : o.op = .makeFunc f first cap) (h : step P seq (.mkfn f first.toList cap.toList) env H K) : Sound P o env H K := by
  simp only [step, evLK_eq] at h
  refine sound_value h fun J F w a G _ hops _ => ⟨.func f (first.map a.eval) (cap.map a.eval), ?_, ?_⟩
  · simp [execOp, ho, Instr.makeFunc, Sem.run, pure]
  · simp only [rep]
    refine ⟨first.toList.map a.eval, cap.toList.map a.eval, ?_, ?_, ?_⟩
    · congr 1 <;> (apply Array.ext' ; simp)
    · refine repL_mk _ _ (by simp) fun j d v hd hv => ?_
      rw [List.getElem?_map] at hd hv
      cases e : first.toList[j]? with
      | none => rw [e] at hd; cases hd
      | some x =>
        rw [e] at hd hv
        simp only [Option.map_some, Option.some.injEq] at hd hv
        subst hd; subst hv
        exact hops x (by simp [ho, Op.operands]; exact .inl (by simpa using List.mem_of_getElem? e))
    · refine repL_mk _ _ (by simp) fun j d v hd hv => ?_
      rw [List.getElem?_map] at hd hv
      cases e : cap.toList[j]? with
      | none => rw [e] at hd; cases hd
      | some x =>
        rw [e] at hd hv
        simp only [Option.map_some, Option.some.injEq] at hd hv
        subst hd; subst hv
        exact hops x (by simp [ho, Op.operands]; exact .inr (by simpa using List.mem_of_getElem? e))

theorem s_mkif {t : TypeId} {x : Operand} (hc : ∀ ms, P.underlying t ≠ some (.interface ms)) (hu : P.underlying t ≠ none) (ho : o.op = .makeInterface t x) (h : step P seq (.mkif t x) env H K) : Sound P o env H K := by
  simp only [step, evK_eq] at h
  refine sound_value h fun J F w a G _ hops _ => ⟨.iface t (a.eval x), ?_, ?_⟩
  · cases e : P.underlying t with
    | none => exact absurd e hu
    | some d =>
      cases d <;> first | exact absurd e (hc _) | simp [execOp, ho, Instr.makeInterface, Sem.run, pure, underlying, program, e]
  · simp only [rep]
    exact ⟨_, rfl, hops x (by simp [ho, Op.operands])⟩

theorem s_slen {args : Array Operand} {ts : Array TypeId} {x : Operand} {t : TypeId} (ha : args.toList = [x]) (hts : ts.toList = [t]) (ht : P.underlying t = some .string) (ho : o.op = .call { callee := .builtin .len, args, argTypes := ts }) (h : step P seq (.slen x) env H K) : Sound P o env H K := by
  have ea : args = #[x] := Array.ext' (by simpa using ha)
  have et : ts = #[t] := Array.ext' (by simpa using hts)
  subst ea et
  simp only [step, evK_eq] at h
  split at h
  · rename_i s e
    refine sound_value h fun J F w a G _ hops _ => ⟨_, ?_, rfl⟩
    have k1 := hops x (by simp [ho, Op.operands, Call.operands])
    rw [e] at k1
    simp only [rep] at k1
    simp [execOp, ho, resolve, invoke, builtin, Builtin.len_, k1, Sem.run, pure, underlying, program, ht, goInt]
  · exact h.elim

theorem s_sidx {t : TypeId} {x i : Operand} (ht : P.underlying t = some .string) (ho : o.op = .index t x i) (h : step P seq (.sidx x i) env H K) : Sound P o env H K := by
  simp only [step, evK_eq] at h
  split at h
  · rename_i s k z e1 e2
    obtain ⟨h0, b, hb, h⟩ := h
    refine sound_value h fun J F w a G _ hops _ => ⟨_, ?_, rfl⟩
    have k1 := hops x (by simp [ho, Op.operands])
    have k2 := hops i (by simp [ho, Op.operands])
    rw [e1] at k1; rw [e2] at k2
    simp only [rep] at k1 k2
    simp [execOp, ho, Instr.index, asIntOf, k1, k2, Sem.run, pure, underlying, program, ht, h0, hb]
  · exact h.elim
end
end Go.Proofs.Ytkkfiadefekbbaa
