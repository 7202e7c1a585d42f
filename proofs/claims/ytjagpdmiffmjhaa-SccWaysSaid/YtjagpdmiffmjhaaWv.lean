/-
  How far the next marked node is: the program's search, over deep values. No statement is proved here.
-/
import Derived.Test.YtjagpdmiffmjhaaWu
namespace Go.Proofs.Ytjagpdmiffmjhaa
open Go.RowKit
set_option linter.unusedSimpArgs false
set_option linter.unusedVariables false
def nats (l : List Int) : List Nat := l.map Int.toNat
theorem nats_app (l r : List Int) : nats (l ++ r) = nats l ++ nats r := by simp [nats]
theorem nats_mem {l : List Int} {n : Nat} : n ∈ nats l ↔ ∃ x ∈ l, x.toNat = n := by simp [nats]
theorem gl_put {n z k : Nat} {o : Nat → Int} {v : Int} (hz : z = k) : (i64s (gl n o)).set z [.sc (.int .i64 v)] = i64s (gl n (setO o k v)) := gl_set hz
/-- What stands in the first places when the marks are laid. -/
def begO (to : Nat → Bool) (k : Nat) : Nat → Int := fun i => if i < k then (if to i = true then 0 else -1) else 0
theorem begO_next {to : Nat → Bool} {k : Nat} {v : Int} (h : v = if to k = true then 0 else -1) (o : Nat → Int) (ho : ∀ i, i ≠ k → o i = begO to k i) (hk : o k = v) : ∀ i, o i = begO to (k + 1) i := by
  intro i
  by_cases e : i = k
  · subst e; rw [hk, h]; simp [begO]
  · rw [ho i e]
    by_cases q : i < k
    · simp [begO, q, show i < k + 1 by omega]
    · simp [begO, q, show ¬ i < k + 1 by omega]
theorem begin_bfs {g : List (List Int)} {to : Nat → Bool} {N : Nat} (hto : ∀ i, N ≤ i → to i = false) : Bfs g to (fun i => if to i = true then 0 else -1) (nats (marksTo to N)) := by
  have hQ : ∀ n, to n = true ↔ n ∈ nats (marksTo to N) := fun n => by
    rw [nats_mem]
    constructor
    · intro h
      have hn : n < N := by
        rcases Nat.lt_or_ge n N with q | q
        · exact q
        · rw [hto n q] at h; cases h
      exact ⟨(n : Int), marksTo_mem.2 ⟨n, hn, h, rfl⟩, by simp⟩
    · rintro ⟨x, hx, rfl⟩
      obtain ⟨i, _, h2, rfl⟩ := marksTo_mem.1 hx
      simpa using h2
  exact Bfs.begin (fun n => by
    by_cases h : to n = true
    · rw [if_pos h, if_pos ⟨h, (hQ n).1 h⟩]
    · rw [if_neg h, if_neg fun q => h q.1]) hQ
/-- A queue's state. -/
structure QOk (g : List (List Int)) (to : Nat → Bool) (o : Nat → Int) (Z : List Int) : Prop where
  rng : ∀ x ∈ Z, 0 ≤ x ∧ x < (g.length : Int)
  low : ∀ n, -1 ≤ o n
  out : ∀ n, g.length ≤ n → o n = -1
theorem far_bound {g : List (List Int)} (hin : ∀ l ∈ g, inB l g.length = true) {to : Nat → Bool} {n d : Nat} (hn : n < g.length) (h : Far g to n d) : d < g.length :=
  far_lt (fun v x hx => by have := inB_mem (inB_row hin v) hx; omega) hn h
theorem marksTo_unseen (to : Nat → Bool) : ∀ n, (marksTo to n).length + unseen to n = n
  | 0 => rfl
  | n + 1 => by
    have := marksTo_unseen to n
    unfold unseen at this ⊢
    simp only [marksTo, sumTo]
    cases h : to n <;> simp <;> omega
/-- Nodes that are not found yet. -/
def lost (o : Nat → Int) (n : Nat) : Nat := unseen (fun i => decide (0 ≤ o i)) n
theorem lost_begin (to : Nat → Bool) (n : Nat) : (marksTo to n).length + lost (fun i => if to i = true then 0 else -1) n = n := by
  have h := marksTo_unseen to n
  have e : lost (fun i => if to i = true then 0 else -1) n = unseen to n := sumTo_congr n fun j _ => by
    by_cases h : to j = true <;> simp [h]
  rw [e]; exact h
theorem lost_put {o : Nat → Int} {n k : Nat} {v : Int} (hk : k < n) (h : o k < 0) (hv : 0 ≤ v) : lost (setO o k v) n < lost o n :=
  unseen_lt hk (fun j _ hj => by
    have hj := of_decide_eq_true hj
    rw [decide_eq_true_eq, setO_ne fun e => by subst e; omega]
    exact hj) (by simpa using h) (by simpa using hv)
theorem nats_cons (x : Int) (r : List Int) : nats (x :: r) = x.toNat :: nats r := rfl
theorem QOk.put {g : List (List Int)} {to : Nat → Bool} {o : Nat → Int} {Z : List Int} (h : QOk g to o Z) {k : Nat} (hk : k < g.length) {v : Int} (hv : 0 ≤ v) {lo hi : Nat} : QOk g to (setO o k v) ((Z.take hi).drop lo ++ [(k : Int)]) where
  rng x hx := by
    rcases List.mem_append.1 hx with q | q
    · exact h.rng x (List.mem_of_mem_take (List.mem_of_mem_drop q))
    · rw [List.mem_singleton] at q; subst q; omega
  low n := by
    by_cases e : n = k
    · subst e; rw [setO_self]; omega
    · rw [setO_ne e]; exact h.low n
  out n hn := by rw [setO_ne (by omega)]; exact h.out n hn
def c11_1 : PC := .seq (.ops [⟨(some 21), .bin .lss (.tmp 20) (.tmp 19), none, 0⟩] false) (.seq (.cond (.tmp 21) (.skip) (.exit 0)) (.seq (.block 1 (.seq (.ops [⟨(some 22), .move (.tmp 20), none, 0⟩,
    ⟨(some 23), .iaddr 1 (.tmp 18) (.tmp 20), none, 0⟩,
    ⟨(some 24), .load1 (.tmp 23), none, 0⟩,
    ⟨(some 8), .move (.tmp 22), none, 0⟩,
    ⟨(some 9), .move (.tmp 24), none, 0⟩] false) (.seq (.ops [⟨(some 25), .move (.tmp 6), none, 0⟩,
    ⟨(some 26), .move (.tmp 8), none, 0⟩,
    ⟨(some 27), .iaddr 1 (.tmp 25) (.tmp 26), none, 0⟩,
    ⟨none, .store 1 (.tmp 27) (.const (.int .i64 (-1))), none, 0⟩] false) (.seq (.ops [⟨(some 28), .move (.tmp 9), none, 0⟩] false) (.cond (.tmp 28) (.seq (.ops [⟨(some 29), .move (.tmp 6), none, 0⟩,
    ⟨(some 30), .move (.tmp 8), none, 0⟩,
    ⟨(some 31), .iaddr 1 (.tmp 29) (.tmp 30), none, 0⟩,
    ⟨none, .store 1 (.tmp 31) (.const (.int .i64 0)), none, 0⟩] false) (.ops [⟨(some 32), .move (.tmp 7), none, 0⟩,
    ⟨(some 33), .move (.tmp 8), none, 0⟩,
    ⟨(some 34), .bslice 1 1 [(.tmp 33)], none, 0⟩,
    ⟨(some 35), .append 1 8 (.tmp 32) (.tmp 34), none, 0⟩,
    ⟨(some 7), .move (.tmp 35), none, 0⟩] false)) (.skip)))))) (.ops [⟨(some 36), .bin .add (.tmp 20) (.const (.int .i64 1)), none, 0⟩,
    ⟨(some 20), .move (.tmp 36), none, 0⟩] false)))
def c11_3 : PC := .seq (.ops [⟨(some 51), .bin .lss (.tmp 50) (.tmp 49), none, 0⟩] false) (.seq (.cond (.tmp 51) (.skip) (.exit 4)) (.seq (.block 5 (.seq (.ops [⟨(some 52), .iaddr 1 (.tmp 48) (.tmp 50), none, 0⟩,
    ⟨(some 53), .load1 (.tmp 52), none, 0⟩,
    ⟨(some 12), .move (.tmp 53), none, 0⟩] false) (.seq (.ops [⟨(some 54), .move (.tmp 6), none, 0⟩,
    ⟨(some 55), .move (.tmp 12), none, 0⟩,
    ⟨(some 56), .iaddr 1 (.tmp 54) (.tmp 55), none, 0⟩,
    ⟨(some 57), .load1 (.tmp 56), none, 0⟩,
    ⟨(some 58), .bin .lss (.tmp 57) (.const (.int .i64 0)), none, 0⟩] false) (.cond (.tmp 58) (.seq (.ops [⟨(some 59), .move (.tmp 6), none, 0⟩,
    ⟨(some 60), .move (.tmp 12), none, 0⟩,
    ⟨(some 61), .move (.tmp 6), none, 0⟩,
    ⟨(some 62), .move (.tmp 10), none, 0⟩,
    ⟨(some 63), .iaddr 1 (.tmp 61) (.tmp 62), none, 0⟩,
    ⟨(some 64), .load1 (.tmp 63), none, 0⟩,
    ⟨(some 65), .bin .add (.tmp 64) (.const (.int .i64 1)), none, 0⟩,
    ⟨(some 66), .iaddr 1 (.tmp 59) (.tmp 60), none, 0⟩,
    ⟨none, .store 1 (.tmp 66) (.tmp 65), none, 0⟩] false) (.ops [⟨(some 67), .move (.tmp 7), none, 0⟩,
    ⟨(some 68), .move (.tmp 12), none, 0⟩,
    ⟨(some 69), .bslice 1 1 [(.tmp 68)], none, 0⟩,
    ⟨(some 70), .append 1 8 (.tmp 67) (.tmp 69), none, 0⟩,
    ⟨(some 7), .move (.tmp 70), none, 0⟩] false)) (.skip))))) (.ops [⟨(some 71), .bin .add (.tmp 50) (.const (.int .i64 1)), none, 0⟩,
    ⟨(some 50), .move (.tmp 71), none, 0⟩] false)))
def c11_2 : PC := .seq (.seq (.ops [⟨(some 37), .move (.tmp 7), none, 0⟩,
    ⟨(some 38), .len (.tmp 37), none, 0⟩,
    ⟨(some 39), .bin .gtr (.tmp 38) (.const (.int .i64 0)), none, 0⟩] false) (.cond (.tmp 39) (.skip) (.exit 2))) (.block 3 (.seq (.ops [⟨(some 40), .move (.tmp 7), none, 0⟩,
    ⟨(some 41), .iaddr 1 (.tmp 40) (.const (.int .i64 0)), none, 0⟩,
    ⟨(some 42), .load1 (.tmp 41), none, 0⟩,
    ⟨(some 10), .move (.tmp 42), none, 0⟩] false) (.seq (.ops [⟨(some 43), .move (.tmp 7), none, 0⟩,
    ⟨(some 44), .slc 1 (.tmp 43) (some (.const (.int .i64 1))) none none, none, 0⟩,
    ⟨(some 7), .move (.tmp 44), none, 0⟩] false) (.seq (.ops [⟨(some 45), .move (.tmp 5), none, 0⟩,
    ⟨(some 46), .move (.tmp 10), none, 0⟩,
    ⟨(some 47), .iaddr 1 (.tmp 45) (.tmp 46), none, 0⟩,
    ⟨(some 48), .load1 (.tmp 47), none, 0⟩,
    ⟨(some 49), .len (.tmp 48), none, 0⟩,
    ⟨(some 50), .move (.const (.int .i64 0)), none, 0⟩] false) (.block 4 (.loop c11_3))))))
def c11 : PC := .seq (.ops [⟨(some 4), .move (.const (.slice none 0 0)), none, 0⟩] false) (.seq (.ops [⟨(some 13), .move (.tmp 0), none, 0⟩,
    ⟨(some 14), .call 15 [(.tmp 13)], none, 0⟩,
    ⟨(some 5), .move (.tmp 14), none, 0⟩] false) (.seq (.ops [⟨(some 15), .move (.tmp 0), none, 0⟩,
    ⟨(some 16), .len (.tmp 15), none, 0⟩,
    ⟨(some 17), .mslice 1 8 [(.int .i64 0)] (.tmp 16) (.tmp 16), none, 0⟩,
    ⟨(some 6), .move (.tmp 17), none, 0⟩] false) (.seq (.ops [⟨(some 7), .move (.const (.slice none 0 0)), none, 0⟩] false) (.seq (.seq (.ops [⟨(some 18), .move (.tmp 1), none, 0⟩,
    ⟨(some 19), .len (.tmp 18), none, 0⟩,
    ⟨(some 20), .move (.const (.int .i64 0)), none, 0⟩] false) (.block 0 (.loop c11_1))) (.seq (.block 2 (.loop c11_2)) (.seq (.ops [⟨(some 72), .move (.tmp 6), none, 0⟩,
    ⟨(some 4), .move (.tmp 72), none, 0⟩] false) (.ret)))))))
set_option maxRecDepth 100000 in
theorem c11_ok : FunOK Try.prog 11 73 [.tmp 4] c11 := ⟨⟨Try.f11, Try.func11, rfl, by kernel_rfl, rfl, by kernel_rfl⟩⟩
set_option maxRecDepth 100000 in
theorem scc_far (g : List (List Int)) (hg : chkG g = 0) (hF : FitsG g) (to : Nat → Bool) (hto : ∀ i, g.length ≤ i → to i = false) :
    PCall Try.prog 11 [dgrid g, dbl g.length to] (dints (gl g.length (dis g to))) := by
  obtain ⟨hn, hin⟩ := chkG_zero.1 hg
  have hin' : ∀ v y, y ∈ g.getD v [] → y.toNat < g.length := fun v x hx => by have := inB_mem (inB_row hin v) hx; omega
  refine pcall_intro c11_ok (by simp) (by simp [PureL, Pure, pure_dgrid, pure_dbl]) ?_ (pure_dints _)
  (apply red_sound; focus (repeat' (first | exact Red.skip | exact Red.ret | exact RedO.nil | exact RedD.nil | exact Red.exit _ | exact Red.loop _ | exact Red.stop _ | apply Red.ops | apply Red.draw | apply Red.seq | apply Red.cond | apply Red.block | apply RedO.cons | apply RedD.cons | exact (0 : Nat))))
  ((conv => whnf); repeat (refine And.intro rfl ?_; (conv => whnf)))
  (refine .inl ⟨_, (scc_turnD g hg hF), ?_⟩; ((conv => whnf); repeat (refine And.intro rfl ?_; (conv => whnf))))
  generalize hT : turnG g g.length = T
  have lT : T.length = g.length := by rw [← hT, turnG_len]
  have mT : ∀ (m : Nat) (x : Int), x ∈ T.getD m [] ↔ ∃ k, k < g.length ∧ x = (k : Int) ∧ ∃ y, y ∈ g.getD k [] ∧ y.toNat = m := fun m x => by rw [← hT]; exact turnG_mem hin' (Nat.le_refl _)
  have rT : ∀ m, (T.getD m []).length ≤ g.length := fun m => by rw [← hT]; exact turnG_row g g.length m
  clear hT
  unfold dgrid dbl
  rw [List.length_map]
  refine ⟨by omega, by omega, by omega, ?_⟩
  rw [Int.toNat_natCast, show List.map D.sc [Value.int .i64 0] = [D.sc (.int .i64 0)] from rfl, gl_rep]
  ((conv => whnf); repeat (refine And.intro rfl ?_; (conv => whnf)))
  rw [rbl_len]
  refine pwp_ghostB (leB_nil 7 1 (by simp) rfl) ?_
  refine pwp_for [5, 6, 18, 19] (fun k : Nat => [(7, .own 1 (marksTo to k).length 0 (marksTo to k).length), (20, .sc (.int .i64 k))]) (fun k => [(0, .vec true 0 1 (i64s (gl g.length (begO to k)))), (1, .vec true (marksTo to k).length 1 (i64s (marksTo to k)))])
    (fun k => k ≤ g.length) (fun k => g.length - k) 0 ?_
  ((conv => whnf); repeat (refine And.intro rfl ?_; (conv => whnf)))
  refine ⟨by omega, by (repeat' (first | exact trivial | refine And.intro rfl ?_)), by rw [gl_congr (g' := begO to 0) fun i _ => by simp [begO]]; rfl, ?_⟩
  rintro k hk
  ((conv => whnf); repeat (refine And.intro rfl ?_; (conv => whnf)))
  (apply red_sound; focus (repeat' (first | exact Red.skip | exact Red.ret | exact RedO.nil | exact RedD.nil | exact Red.exit _ | exact Red.loop _ | exact Red.stop _ | apply Red.ops | apply Red.draw | apply Red.seq | apply Red.cond | apply Red.block | apply RedO.cons | apply RedD.cons | exact (0 : Nat))))
  ((conv => whnf); repeat (refine And.intro rfl ?_; (conv => whnf)))
  (refine ifK_split (fun h1 => ?_) (fun h1 => ?_) <;> (rw [h1]; ((conv => whnf); repeat (refine And.intro rfl ?_; (conv => whnf)))))
  · have hk' : k < g.length := by ((try simp only [bne_iff_ne, ne_eq, bne_eq_false_iff_eq, beq_iff_eq, beq_eq_false_iff_ne, decide_eq_true_eq, decide_eq_false_iff_not, List.length_map, Bool.not_eq_true, Bool.not_eq_false, Bool.and_eq_true, Bool.or_eq_true, Bool.and_eq_false_iff, Bool.or_eq_false_iff, Bool.not_eq_true', Bool.not_eq_false', Bool.not_true, Bool.not_false, Bool.not_eq_eq_eq_not, not_true_eq_false, not_false_eq_true, reduceCtorEq, Bool.true_or, Bool.false_or, Bool.or_true, Bool.or_false, Bool.true_and, Bool.and_true, Bool.false_and, Bool.and_false, true_and, and_true, or_false, false_or, true_or, or_true, false_and, and_false, Bool.true_eq_false, Bool.false_eq_true] at *) <;> omega)
    refine ⟨by omega, _, rbl_atN k (by omega) hk', ?_⟩
    ((conv => whnf); repeat (refine And.intro rfl ?_; (conv => whnf)))
    (refine ⟨by omega, (by first | omega | (simp; done) | (simp; omega) | (simp only [List.length_map, List.length_append, List.length_cons, List.length_nil, List.length_take, List.length_drop, List.drop_zero, List.take_succ_cons, List.take_zero]; omega)), ?_⟩; ((conv => whnf); repeat (refine And.intro rfl ?_; (conv => whnf))))
    refine ⟨_, gl_atN k (by omega) hk', ?_⟩
    ((conv => whnf); repeat (refine And.intro rfl ?_; (conv => whnf)))
    cases ht : to k
    · ((conv => whnf); repeat (refine And.intro rfl ?_; (conv => whnf)))
      (refine .inl ⟨by (unfold InR; rw [IntKind.wrap_i64]; omega), ?_⟩; ((conv => whnf); repeat (refine And.intro rfl ?_; (conv => whnf))))
      refine ⟨k + 1, by omega, by dsimp only; omega, ?_⟩
      have em : marksTo to (k + 1) = marksTo to k := by simp [marksTo, ht]
      dsimp only
      rw [em]
      refine leB_envH (by (repeat' (first | exact trivial | refine And.intro rfl ?_))) ?_
      rw [gl_put (k := k) (by omega), gl_congr (g' := begO to (k + 1)) fun i _ => begO_next (v := -1) (by simp [ht]) _ (fun i hi => setO_ne hi) (setO_self _ _ _) i]
      rfl
    · ((conv => whnf); repeat (refine And.intro rfl ?_; (conv => whnf)))
      (refine ⟨by omega, (by first | omega | (simp; done) | (simp; omega) | (simp only [List.length_map, List.length_append, List.length_cons, List.length_nil, List.length_take, List.length_drop, List.drop_zero, List.take_succ_cons, List.take_zero]; omega)), ?_⟩; ((conv => whnf); repeat (refine And.intro rfl ?_; (conv => whnf))))
      refine ⟨[.sc (.int .i64 (-1))], by rw [gl_put (k := k) (by omega), gl_atN k (by omega) hk', setO_self], ?_⟩
      ((conv => whnf); repeat (refine And.intro rfl ?_; (conv => whnf)))
      have hml := marksTo_len to k
      refine ⟨(by unfold sliceAppend; simp only [List.length_map, List.length_cons, List.length_nil, List.length_append, List.length_take, List.length_drop, List.drop_zero, List.take_succ_cons, List.take_zero]; omega), ?_⟩
      ((conv => whnf); repeat (refine And.intro rfl ?_; (conv => whnf)))
      (refine .inl ⟨by (unfold InR; rw [IntKind.wrap_i64]; omega), ?_⟩; ((conv => whnf); repeat (refine And.intro rfl ?_; (conv => whnf))))
      refine ⟨k + 1, by omega, by dsimp only; omega, ?_⟩
      have em : marksTo to (k + 1) = marksTo to k ++ [(k : Int)] := by simp [marksTo, ht]
      dsimp only
      rw [em]
      have el : (marksTo to k ++ [(k : Int)]).length = (marksTo to k).length + 1 := by simp
      rw [el]
      (refine leB_close 2 (by simp) rfl ?_ ?_ <;> (repeat' (first | exact trivial | exact rfl | exact DeepM.refl _ | exact DeepML.refl _ | exact DeepMLL.refl _ | refine And.intro ?_ ?_ | (simp [Under, UnderL, UnderLL, -List.map_take, -List.map_drop]; done))))
      · exact deepMLL_eq (by
          rw [gl_put (k := k) (by omega), gl_put (k := k) (by omega), gl_congr (g' := begO to (k + 1)) fun i _ => begO_next (v := 0) (by simp [ht]) _ (fun i hi => by rw [setO_ne hi, setO_ne hi]) (setO_self _ _ _) i])
      · exact deepMLL_eq (by
          rw [List.take_of_length_le (by simp), List.drop_zero]
          simp [i64s])
  · have hk' : k = g.length := by have : ¬ k < g.length := by ((try simp only [bne_iff_ne, ne_eq, bne_eq_false_iff_eq, beq_iff_eq, beq_eq_false_iff_ne, decide_eq_true_eq, decide_eq_false_iff_not, List.length_map, Bool.not_eq_true, Bool.not_eq_false, Bool.and_eq_true, Bool.or_eq_true, Bool.and_eq_false_iff, Bool.or_eq_false_iff, Bool.not_eq_true', Bool.not_eq_false', Bool.not_true, Bool.not_false, Bool.not_eq_eq_eq_not, not_true_eq_false, not_false_eq_true, reduceCtorEq, Bool.true_or, Bool.false_or, Bool.or_true, Bool.or_false, Bool.true_and, Bool.and_true, Bool.false_and, Bool.and_false, true_and, and_true, or_false, false_or, true_or, or_true, false_and, and_false, Bool.true_eq_false, Bool.false_eq_true] at *) <;> omega)
                                  omega
    subst hk'
    refine pwp_for [5, 6] (fun ((o, Z, lo, hi, ver) : (Nat → Int) × List Int × Nat × Nat × Nat) => [(7, .own 1 ver lo hi)]) (fun (o, Z, lo, hi, ver) => [(0, .vec true 0 1 (i64s (gl g.length o))), (1, .vec true ver 1 (i64s Z))])
      (fun (o, Z, lo, hi, ver) => lo ≤ hi ∧ hi ≤ Z.length ∧ QOk g to o Z ∧ hi - lo + lost o g.length ≤ g.length ∧ Bfs g to o (nats ((Z.take hi).drop lo))) (fun (o, Z, lo, hi, ver) => hi - lo + lost o g.length) (fun i => if to i = true then 0 else -1, marksTo to g.length, 0, (marksTo to g.length).length, (marksTo to g.length).length) ?_
    ((conv => whnf); repeat (refine And.intro rfl ?_; (conv => whnf)))
    have hl0 := lost_begin to g.length
    refine ⟨⟨by omega, by omega, ⟨fun x hx => ?_, fun n => by split <;> omega, fun n hn => by simp [hto n hn]⟩, by omega, by rw [List.take_length, List.drop_zero]; exact begin_bfs hto⟩, by (repeat' (first | exact trivial | refine And.intro rfl ?_)), by rw [gl_congr (g' := fun i => if to i = true then 0 else -1) fun i hi => by simp [begO, hi]]; rfl, ?_⟩
    · obtain ⟨i, h1, _, rfl⟩ := marksTo_mem.1 hx; omega
    rintro ⟨o, Z, lo, hi, ver⟩ ⟨hlo, hhi, hq, hu, hB⟩
    ((conv => whnf); repeat (refine And.intro rfl ?_; (conv => whnf)))
    (apply red_sound; focus (repeat' (first | exact Red.skip | exact Red.ret | exact RedO.nil | exact RedD.nil | exact Red.exit _ | exact Red.loop _ | exact Red.stop _ | apply Red.ops | apply Red.draw | apply Red.seq | apply Red.cond | apply Red.block | apply RedO.cons | apply RedD.cons | exact (0 : Nat))))
    ((conv => whnf); repeat (refine And.intro rfl ?_; (conv => whnf)))
    (refine ifK_split (fun h1 => ?_) (fun h1 => ?_) <;> (rw [h1]; ((conv => whnf); repeat (refine And.intro rfl ?_; (conv => whnf)))))
    · have h1 : lo < hi := by ((try simp only [bne_iff_ne, ne_eq, bne_eq_false_iff_eq, beq_iff_eq, beq_eq_false_iff_ne, decide_eq_true_eq, decide_eq_false_iff_not, List.length_map, Bool.not_eq_true, Bool.not_eq_false, Bool.and_eq_true, Bool.or_eq_true, Bool.and_eq_false_iff, Bool.or_eq_false_iff, Bool.not_eq_true', Bool.not_eq_false', Bool.not_true, Bool.not_false, Bool.not_eq_eq_eq_not, not_true_eq_false, not_false_eq_true, reduceCtorEq, Bool.true_or, Bool.false_or, Bool.or_true, Bool.or_false, Bool.true_and, Bool.and_true, Bool.false_and, Bool.and_false, true_and, and_true, or_false, false_or, true_or, or_true, false_and, and_false, Bool.true_eq_false, Bool.false_eq_true] at *) <;> omega)
      rw [headQ h1 hhi, nats_cons] at hB
      have hx := hq.rng (Z.getD lo 0) (mem_getD (by omega))
      generalize hX : Z.getD lo 0 = x at hB hx
      (refine ⟨by omega, (by first | omega | (simp; done) | (simp; omega) | (simp only [List.length_map, List.length_append, List.length_cons, List.length_nil, List.length_take, List.length_drop, List.drop_zero, List.take_succ_cons, List.take_zero]; omega)), ?_⟩; ((conv => whnf); repeat (refine And.intro rfl ?_; (conv => whnf))))
      refine ⟨_, intsD_at (l := Z) (k := lo) (by omega) (by omega), ?_⟩
      ((conv => whnf); repeat (refine And.intro rfl ?_; (conv => whnf)))
      rw [hX]
      refine ⟨by omega, by omega, by omega, ?_⟩
      ((conv => whnf); repeat (refine And.intro rfl ?_; (conv => whnf)))
      rw [show lo + (hi - lo) = hi by omega]
      refine ⟨by omega, _, gridD_at (g := T) (k := x.toNat) (by omega) (by omega), ?_⟩
      ((conv => whnf); repeat (refine And.intro rfl ?_; (conv => whnf)))
      rw [List.length_map]
      have hL := rT x.toNat
      have mL := mT x.toNat
      generalize T.getD x.toNat [] = L at hL mL
      refine pwp_for [5, 6, 10, 48, 49] (fun ((o', Z', lo', hi', ver', k) : (Nat → Int) × List Int × Nat × Nat × Nat × Nat) => [(7, .own 1 ver' lo' hi'), (50, .sc (.int .i64 k))]) (fun (o', Z', lo', hi', ver', k) => [(0, .vec true 0 1 (i64s (gl g.length o'))), (1, .vec true ver' 1 (i64s Z'))])
        (fun (o', Z', lo', hi', ver', k) => k ≤ L.length ∧ lo' ≤ hi' ∧ hi' ≤ Z'.length ∧ QOk g to o' Z' ∧ hi' - lo' + lost o' g.length < hi - lo + lost o g.length ∧ BfsJ g to o' (nats ((Z'.take hi').drop lo')) x.toNat (nats (L.take k))) (fun (o', Z', lo', hi', ver', k) => L.length - k) (o, Z, lo + 1, hi, ver, 0) ?_
      ((conv => whnf); repeat (refine And.intro rfl ?_; (conv => whnf)))
      refine ⟨⟨by omega, by omega, hhi, hq, by omega, hB.pop⟩, by (repeat' (first | exact trivial | refine And.intro rfl ?_)), rfl, ?_⟩
      rintro ⟨o', Z', lo', hi', ver', k⟩ ⟨hk, hlo', hhi', hq', hu', hJ⟩
      ((conv => whnf); repeat (refine And.intro rfl ?_; (conv => whnf)))
      (apply red_sound; focus (repeat' (first | exact Red.skip | exact Red.ret | exact RedO.nil | exact RedD.nil | exact Red.exit _ | exact Red.loop _ | exact Red.stop _ | apply Red.ops | apply Red.draw | apply Red.seq | apply Red.cond | apply Red.block | apply RedO.cons | apply RedD.cons | exact (0 : Nat))))
      ((conv => whnf); repeat (refine And.intro rfl ?_; (conv => whnf)))
      (refine ifK_split (fun h3 => ?_) (fun h3 => ?_) <;> (rw [h3]; ((conv => whnf); repeat (refine And.intro rfl ?_; (conv => whnf)))))
      · have hk' : k < L.length := by ((try simp only [bne_iff_ne, ne_eq, bne_eq_false_iff_eq, beq_iff_eq, beq_eq_false_iff_ne, decide_eq_true_eq, decide_eq_false_iff_not, List.length_map, Bool.not_eq_true, Bool.not_eq_false, Bool.and_eq_true, Bool.or_eq_true, Bool.and_eq_false_iff, Bool.or_eq_false_iff, Bool.not_eq_true', Bool.not_eq_false', Bool.not_true, Bool.not_false, Bool.not_eq_eq_eq_not, not_true_eq_false, not_false_eq_true, reduceCtorEq, Bool.true_or, Bool.false_or, Bool.or_true, Bool.or_false, Bool.true_and, Bool.and_true, Bool.false_and, Bool.and_false, true_and, and_true, or_false, false_or, true_or, or_true, false_and, and_false, Bool.true_eq_false, Bool.false_eq_true] at *) <;> omega)
        obtain ⟨v, hv1, hv2, y, hy1, hy2⟩ := (mL (L.getD k 0)).1 (mem_getD hk')
        refine ⟨by omega, _, intsD_at (l := L) (k := k) (by omega) hk', ?_⟩
        ((conv => whnf); repeat (refine And.intro rfl ?_; (conv => whnf)))
        rw [hv2]
        (refine ⟨by omega, (by first | omega | (simp; done) | (simp; omega) | (simp only [List.length_map, List.length_append, List.length_cons, List.length_nil, List.length_take, List.length_drop, List.drop_zero, List.take_succ_cons, List.take_zero]; omega)), ?_⟩; ((conv => whnf); repeat (refine And.intro rfl ?_; (conv => whnf))))
        refine ⟨_, gl_atN v (by omega) hv1, ?_⟩
        ((conv => whnf); repeat (refine And.intro rfl ?_; (conv => whnf)))
        have eT : nats (L.take (k + 1)) = nats (L.take k) ++ [v] := by
          rw [List.take_add_one, List.getElem?_eq_getElem hk', nats_app]
          rw [List.getD_eq_getElem?_getD, List.getElem?_eq_getElem hk'] at hv2
          simp at hv2
          simp [nats, hv2]
        (refine ifK_split (fun h4 => ?_) (fun h4 => ?_) <;> (rw [h4]; ((conv => whnf); repeat (refine And.intro rfl ?_; (conv => whnf)))))
        · have h4 : o' v < 0 := by ((try simp only [bne_iff_ne, ne_eq, bne_eq_false_iff_eq, beq_iff_eq, beq_eq_false_iff_ne, decide_eq_true_eq, decide_eq_false_iff_not, List.length_map, Bool.not_eq_true, Bool.not_eq_false, Bool.and_eq_true, Bool.or_eq_true, Bool.and_eq_false_iff, Bool.or_eq_false_iff, Bool.not_eq_true', Bool.not_eq_false', Bool.not_true, Bool.not_false, Bool.not_eq_eq_eq_not, not_true_eq_false, not_false_eq_true, reduceCtorEq, Bool.true_or, Bool.false_or, Bool.or_true, Bool.or_false, Bool.true_and, Bool.and_true, Bool.false_and, Bool.and_false, true_and, and_true, or_false, false_or, true_or, or_true, false_and, and_false, Bool.true_eq_false, Bool.false_eq_true] at *) <;> omega)
          have hb := far_bound hin (by omega) (hJ.sound x.toNat hJ.here)
          have h0 := hJ.here
          (refine ⟨by omega, (by first | omega | (simp; done) | (simp; omega) | (simp only [List.length_map, List.length_append, List.length_cons, List.length_nil, List.length_take, List.length_drop, List.drop_zero, List.take_succ_cons, List.take_zero]; omega)), ?_⟩; ((conv => whnf); repeat (refine And.intro rfl ?_; (conv => whnf))))
          refine ⟨_, gl_atN x.toNat (by omega) (by omega), ?_⟩
          ((conv => whnf); repeat (refine And.intro rfl ?_; (conv => whnf)))
          (refine .inl ⟨by (unfold InR; rw [IntKind.wrap_i64]; omega), ?_⟩; ((conv => whnf); repeat (refine And.intro rfl ?_; (conv => whnf))))
          (refine ⟨by omega, (by first | omega | (simp; done) | (simp; omega) | (simp only [List.length_map, List.length_append, List.length_cons, List.length_nil, List.length_take, List.length_drop, List.drop_zero, List.take_succ_cons, List.take_zero]; omega)), ?_⟩; ((conv => whnf); repeat (refine And.intro rfl ?_; (conv => whnf))))
          refine ⟨_, gl_atN v (by omega) hv1, ?_⟩
          ((conv => whnf); repeat (refine And.intro rfl ?_; (conv => whnf)))
          refine ⟨(by unfold sliceAppend; simp only [List.length_map, List.length_cons, List.length_nil, List.length_append, List.length_take, List.length_drop, List.drop_zero, List.take_succ_cons, List.take_zero]; omega), ?_⟩
          ((conv => whnf); repeat (refine And.intro rfl ?_; (conv => whnf)))
          (refine .inl ⟨by (unfold InR; rw [IntKind.wrap_i64]; omega), ?_⟩; ((conv => whnf); repeat (refine And.intro rfl ?_; (conv => whnf))))
          have hl1 := lost_put (n := g.length) hv1 h4 (v := o' x.toNat + 1) (by omega)
          have hp := hJ.push h4 hy1 hy2
          refine ⟨(setO o' v (o' x.toNat + 1), (Z'.take hi').drop lo' ++ [(v : Int)], 0, hi' - lo' + 1, ver' + 1, k + 1), ⟨by omega, by omega, by simp; omega, hq'.put hv1 (by omega), by omega, ?_⟩, by dsimp only; omega, ?_⟩
          · rw [List.drop_zero, List.take_of_length_le (by simp; omega), nats_app, eT]
            exact hp
          · (refine leB_close 2 (by simp) rfl ?_ ?_ <;> (repeat' (first | exact trivial | exact rfl | exact DeepM.refl _ | exact DeepML.refl _ | exact DeepMLL.refl _ | refine And.intro ?_ ?_ | (simp [Under, UnderL, UnderLL, -List.map_take, -List.map_drop]; done))))
            · exact deepMLL_eq (gl_put (by omega))
            · exact deepMLL_eq i64s_queueW
        · have h4 : 0 ≤ o' v := by ((try simp only [bne_iff_ne, ne_eq, bne_eq_false_iff_eq, beq_iff_eq, beq_eq_false_iff_ne, decide_eq_true_eq, decide_eq_false_iff_not, List.length_map, Bool.not_eq_true, Bool.not_eq_false, Bool.and_eq_true, Bool.or_eq_true, Bool.and_eq_false_iff, Bool.or_eq_false_iff, Bool.not_eq_true', Bool.not_eq_false', Bool.not_true, Bool.not_false, Bool.not_eq_eq_eq_not, not_true_eq_false, not_false_eq_true, reduceCtorEq, Bool.true_or, Bool.false_or, Bool.or_true, Bool.or_false, Bool.true_and, Bool.and_true, Bool.false_and, Bool.and_false, true_and, and_true, or_false, false_or, true_or, or_true, false_and, and_false, Bool.true_eq_false, Bool.false_eq_true] at *) <;> omega)
          (refine .inl ⟨by (unfold InR; rw [IntKind.wrap_i64]; omega), ?_⟩; ((conv => whnf); repeat (refine And.intro rfl ?_; (conv => whnf))))
          refine ⟨(o', Z', lo', hi', ver', k + 1), ⟨by omega, hlo', hhi', hq', hu', by rw [eT]; exact hJ.skip h4⟩, by dsimp only; omega, ?_⟩
          exact leB_envH (by (repeat' (first | exact trivial | refine And.intro rfl ?_))) rfl
      · have hk' : k = L.length := by have : ¬ k < L.length := by ((try simp only [bne_iff_ne, ne_eq, bne_eq_false_iff_eq, beq_iff_eq, beq_eq_false_iff_ne, decide_eq_true_eq, decide_eq_false_iff_not, List.length_map, Bool.not_eq_true, Bool.not_eq_false, Bool.and_eq_true, Bool.or_eq_true, Bool.and_eq_false_iff, Bool.or_eq_false_iff, Bool.not_eq_true', Bool.not_eq_false', Bool.not_true, Bool.not_false, Bool.not_eq_eq_eq_not, not_true_eq_false, not_false_eq_true, reduceCtorEq, Bool.true_or, Bool.false_or, Bool.or_true, Bool.or_false, Bool.true_and, Bool.and_true, Bool.false_and, Bool.and_false, true_and, and_true, or_false, false_or, true_or, or_true, false_and, and_false, Bool.true_eq_false, Bool.false_eq_true] at *) <;> omega)
                                      omega
        subst hk'
        refine ⟨(o', Z', lo', hi', ver'), ⟨hlo', hhi', hq', by omega, hJ.fin fun k y h1 h2 => ?_⟩, by dsimp only; omega, ?_⟩
        · have hk : k < g.length := by
            rcases Nat.lt_or_ge k g.length with q | q
            · exact q
            · rw [List.getD_eq_getElem?_getD, List.getElem?_eq_none q] at h1; cases h1
          rw [List.take_length]
          exact nats_mem.2 ⟨(k : Int), (mL k).2 ⟨k, hk, rfl, y, h1, h2⟩, by simp⟩
        · exact leB_envH (by (repeat' (first | exact trivial | refine And.intro rfl ?_))) rfl
    · have h0 : hi = lo := by ((try simp only [bne_iff_ne, ne_eq, bne_eq_false_iff_eq, beq_iff_eq, beq_eq_false_iff_ne, decide_eq_true_eq, decide_eq_false_iff_not, List.length_map, Bool.not_eq_true, Bool.not_eq_false, Bool.and_eq_true, Bool.or_eq_true, Bool.and_eq_false_iff, Bool.or_eq_false_iff, Bool.not_eq_true', Bool.not_eq_false', Bool.not_true, Bool.not_false, Bool.not_eq_eq_eq_not, not_true_eq_false, not_false_eq_true, reduceCtorEq, Bool.true_or, Bool.false_or, Bool.or_true, Bool.or_false, Bool.true_and, Bool.and_true, Bool.false_and, Bool.and_false, true_and, and_true, or_false, false_or, true_or, or_true, false_and, and_false, Bool.true_eq_false, Bool.false_eq_true] at *) <;> omega)
      subst h0
      rw [List.drop_eq_nil_of_le (by rw [List.length_take]; omega)] at hB
      rw [gl_congr (g' := dis g to) fun i _ => bfs_dis hB hq.low i]
      exact deep_gl rfl
end Go.Proofs.Ytjagpdmiffmjhaa
