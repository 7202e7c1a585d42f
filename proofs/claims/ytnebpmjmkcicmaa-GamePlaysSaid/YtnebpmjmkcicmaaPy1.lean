/-
  Sequences of steps, over deep values. No statement is proved here.
-/
import Derived.Test.YtnebpmjmkcicmaaPy0
import Derived.Test.YtnebpmjmkcicmaaGa9
import Derived.Test.YtnebpmjmkcicmaaEqG
namespace Go.Proofs.Ytnebpmjmkcicmaa
open Go.RowKit
set_option linter.unusedSimpArgs false
set_option linter.unusedVariables false
def grows (L : List (List Int)) : List (List D) := L.map fun l => [dints l]
theorem pure_grows (L : List (List Int)) : PureLL (grows L) := pureLL_map _ (fun l => by simp [PureL, pure_dints]) L
@[simp] theorem underLL_grows {m : Nat} (L : List (List Int)) : UnderLL m (grows L) ↔ True := ⟨fun _ => trivial, fun _ => underLL_pure _ (pure_grows L)⟩
@[simp] theorem grows_len (L : List (List Int)) : (grows L).length = L.length := by simp [grows]
theorem grows_snoc {L : List (List Int)} {c : Nat} {x : List Int} (h : c = L.length) : List.drop 0 (List.take c (grows L)) ++ [[dints x]] = grows (L ++ [x]) := by
  subst h
  rw [drop_take_all (by simp)]
  simp [grows]
theorem grows_at {L : List (List Int)} {z k : Nat} (hz : z = k) (h : k < L.length) : (grows L)[z]? = some [dints (L.getD k [])] := by
  unfold grows
  rw [grid_at hz h, List.getD_eq_getElem?_getD, List.getElem?_eq_getElem h]
  rfl
theorem deep_grows {H : List AObj} {id v n : Nat} {q : Bool} {L : List (List Int)} (hn : n = L.length) (h : H[id]? = some (.vec q v 1 (grows L))) : Deep H (.own id v 0 n) (dgrid L) := by
  subst hn
  exact .own _ _ _ _ _ _ _ _ h (by rw [drop_take_all (by simp)]; exact deepLL_refl _)
@[simp] theorem under_dints' {m : Nat} (l : List Int) : Under m (dints l) ↔ True := ⟨fun _ => trivial, fun _ => under_pure _ (pure_dints l)⟩
theorem now_len {P : ProcD} {l : List Int} (h : P.stepsE = 0) {i : Nat} (hz : ∀ j, j < i → P.errAt l j = 0) : (P.nowAt l i).length ≤ 30 := by
  have h1 := (ProcD.mark_of (ProcD.now_ok h i hz)).len
  have h2 := (chk_small (ProcD.stepsE_zero h).1).2
  omega
theorem gridTo_rows {P : ProcD} {l : List Int} (h : P.stepsE = 0) : ∀ {i : Nat}, (∀ j, j < i → P.errAt l j = 0) → ∀ x ∈ P.gridTo l i, x.length ≤ 30
  | 0, hz, x, hx => by
    simp only [ProcD.gridTo, List.mem_singleton] at hx
    subst hx
    exact now_len h hz
  | i + 1, hz, x, hx => by
    simp only [ProcD.gridTo, List.mem_append, List.mem_singleton] at hx
    rcases hx with hx | hx
    · exact gridTo_rows h (fun j hj => hz j (by omega)) x hx
    · subst hx
      exact now_len h hz
theorem pure_dgrid' (L : List (List Int)) : Pure (dgrid L) := pure_dgrid L
def c4_1 : PC := .seq (.ops [⟨(some 28), .bin .lss (.tmp 27) (.tmp 26), none, 0⟩] false) (.seq (.cond (.tmp 28) (.skip) (.exit 0)) (.seq (.block 1 (.seq (.ops [⟨(some 29), .move (.tmp 27), none, 0⟩,
    ⟨(some 30), .iaddr 1 (.tmp 25) (.tmp 27), none, 0⟩,
    ⟨(some 31), .load1 (.tmp 30), none, 0⟩,
    ⟨(some 10), .move (.tmp 29), none, 0⟩,
    ⟨(some 11), .move (.tmp 31), none, 0⟩] false) (.seq (.seq (.ops [⟨(some 33), .loadA 2 (.tmp 2), none, 0⟩,
    ⟨(some 34), .move (.tmp 7), none, 0⟩,
    ⟨(some 35), .move (.tmp 11), none, 0⟩,
    ⟨(some 36), .call 11 [(.tmp 33), (.tmp 34), (.tmp 35)], none, 0⟩,
    ⟨(some 32), .move (.tmp 36), none, 0⟩,
    ⟨(some 37), .ext 0 (.tmp 32), none, 0⟩,
    ⟨(some 38), .ext 1 (.tmp 32), none, 0⟩,
    ⟨(some 7), .move (.tmp 37), none, 0⟩,
    ⟨(some 8), .move (.tmp 38), none, 0⟩] false) (.seq (.ops [⟨(some 39), .move (.tmp 8), none, 0⟩,
    ⟨(some 40), .bin .neq (.tmp 39) (.const (.int .i64 0)), none, 0⟩] false) (.cond (.tmp 40) (.seq (.ops [⟨(some 41), .move (.tmp 9), none, 0⟩,
    ⟨(some 42), .move (.tmp 10), none, 0⟩,
    ⟨(some 43), .move (.tmp 8), none, 0⟩,
    ⟨(some 4), .move (.tmp 41), none, 0⟩,
    ⟨(some 5), .move (.tmp 42), none, 0⟩,
    ⟨(some 6), .move (.tmp 43), none, 0⟩] false) (.ret)) (.skip)))) (.ops [⟨(some 44), .move (.tmp 9), none, 0⟩,
    ⟨(some 45), .move (.tmp 7), none, 0⟩,
    ⟨(some 46), .bslice 1 1 [(.tmp 45)], none, 0⟩,
    ⟨(some 47), .append 1 24 (.tmp 44) (.tmp 46), none, 0⟩,
    ⟨(some 9), .move (.tmp 47), none, 0⟩] false)))) (.ops [⟨(some 48), .bin .add (.tmp 27) (.const (.int .i64 1)), none, 0⟩,
    ⟨(some 27), .move (.tmp 48), none, 0⟩] false)))
def c4 : PC := .seq (.ops [⟨(some 2), .box (.tmp 0), none, 0⟩,
    ⟨(some 4), .move (.const (.slice none 0 0)), none, 0⟩,
    ⟨(some 5), .move (.const (.int .i64 0)), none, 0⟩,
    ⟨(some 6), .move (.const (.int .i64 0)), none, 0⟩] false) (.seq (.ops [⟨(some 13), .loadA 2 (.tmp 2), none, 0⟩,
    ⟨(some 14), .call 10 [(.tmp 13)], none, 0⟩,
    ⟨(some 12), .move (.tmp 14), none, 0⟩,
    ⟨(some 15), .ext 0 (.tmp 12), none, 0⟩,
    ⟨(some 16), .ext 1 (.tmp 12), none, 0⟩,
    ⟨(some 7), .move (.tmp 15), none, 0⟩,
    ⟨(some 8), .move (.tmp 16), none, 0⟩] false) (.seq (.seq (.ops [⟨(some 17), .move (.tmp 8), none, 0⟩,
    ⟨(some 18), .bin .neq (.tmp 17) (.const (.int .i64 0)), none, 0⟩] false) (.cond (.tmp 18) (.seq (.ops [⟨(some 19), .move (.tmp 8), none, 0⟩,
    ⟨(some 4), .move (.const (.slice none 0 0)), none, 0⟩,
    ⟨(some 5), .move (.const (.int .i64 0)), none, 0⟩,
    ⟨(some 6), .move (.tmp 19), none, 0⟩] false) (.ret)) (.skip))) (.seq (.seq (.ops [⟨(some 20), .move (.tmp 1), none, 0⟩,
    ⟨(some 21), .len (.tmp 20), none, 0⟩,
    ⟨(some 22), .bin .gtr (.tmp 21) (.const (.int .i64 500)), none, 0⟩] false) (.cond (.tmp 22) (.seq (.ops [⟨(some 4), .move (.const (.slice none 0 0)), none, 0⟩,
    ⟨(some 5), .move (.const (.int .i64 0)), none, 0⟩,
    ⟨(some 6), .move (.const (.int .i64 2)), none, 0⟩] false) (.ret)) (.skip))) (.seq (.ops [⟨(some 23), .move (.tmp 7), none, 0⟩,
    ⟨(some 24), .bslice 1 1 [(.tmp 23)], none, 0⟩,
    ⟨(some 9), .move (.tmp 24), none, 0⟩] false) (.seq (.seq (.ops [⟨(some 25), .move (.tmp 1), none, 0⟩,
    ⟨(some 26), .len (.tmp 25), none, 0⟩,
    ⟨(some 27), .move (.const (.int .i64 0)), none, 0⟩] false) (.block 0 (.loop c4_1))) (.seq (.ops [⟨(some 49), .move (.tmp 9), none, 0⟩,
    ⟨(some 50), .move (.tmp 1), none, 0⟩,
    ⟨(some 51), .len (.tmp 50), none, 0⟩,
    ⟨(some 4), .move (.tmp 49), none, 0⟩,
    ⟨(some 5), .move (.tmp 51), none, 0⟩,
    ⟨(some 6), .move (.const (.int .i64 0)), none, 0⟩] false) (.ret)))))))
set_option maxRecDepth 100000 in
theorem c4_ok : FunOK Try.prog 4 52 [.tmp 4, .tmp 5, .tmp 6] c4 := ⟨⟨Try.f4, Try.func4, rfl, by kernel_rfl, rfl, by kernel_rfl⟩⟩
set_option maxRecDepth 100000 in
theorem game_Play (P : ProcD) (hP : P.Fits) (l : List Int) (hl : l.length ≤ 9223372036854775807) (n : Nat) (hn : n ≤ l.length) (hz : ∀ j, j < n → P.errAt l j = 0) (hs : n = l.length ∨ P.errAt l n ≠ 0) :
    PCall Try.prog 4 [dproc P, dints l] (if P.stepsE ≠ 0 then .tup [dgrid [], .sc (.int .i64 0), .sc (.int .i64 P.stepsE)] else if 500 < l.length then .tup [dgrid [], .sc (.int .i64 0), .sc (.int .i64 2)]
      else .tup [dgrid (P.gridTo l n), .sc (.int .i64 n), .sc (.int .i64 (if n = l.length then 0 else P.errAt l n))]) := by
  refine pcall_intro c4_ok (by simp) (by simp [PureL, Pure, pure_dproc, pure_dints]) ?_ (by (repeat' split) <;> simp [Pure, PureL, pure_dgrid'])
  (apply red_sound; focus (repeat' (first | exact Red.skip | exact Red.ret | exact RedO.nil | exact RedD.nil | exact Red.exit _ | exact Red.loop _ | exact Red.stop _ | apply Red.ops | apply Red.draw | apply Red.seq | apply Red.cond | apply Red.block | apply RedO.cons | apply RedD.cons | exact (0 : Nat))))
  ((conv => whnf); repeat (refine And.intro rfl ?_; (conv => whnf)))
  (refine .inl ⟨_, (game_Begin P hP), ?_⟩; ((conv => whnf); repeat (refine And.intro rfl ?_; (conv => whnf))))
  (refine ifK_split (fun h1 => ?_) (fun h1 => ?_) <;> (rw [h1]; ((conv => whnf); repeat (refine And.intro rfl ?_; (conv => whnf)))))
  · have h1 : P.stepsE ≠ 0 := by ((try simp only [bne_iff_ne, ne_eq, bne_eq_false_iff_eq, beq_iff_eq, beq_eq_false_iff_ne, decide_eq_true_eq, decide_eq_false_iff_not, List.length_map, Bool.not_eq_true, Bool.not_eq_false, Bool.and_eq_true, Bool.or_eq_true, Bool.and_eq_false_iff, Bool.or_eq_false_iff, Bool.not_eq_true', Bool.not_eq_false', Bool.not_true, Bool.not_false, Bool.not_eq_eq_eq_not, not_true_eq_false, not_false_eq_true, reduceCtorEq, Bool.true_or, Bool.false_or, Bool.or_true, Bool.or_false, Bool.true_and, Bool.and_true, Bool.false_and, Bool.and_false, true_and, and_true, or_false, false_or, true_or, or_true, false_and, and_false, Bool.true_eq_false, Bool.false_eq_true] at *) <;> omega)
    rw [if_pos h1]
    exact .tup _ _ (.cons _ _ _ _ (.none _) (.cons _ _ _ _ (.refl _) (.cons _ _ _ _ (.refl _) .nil)))
  have h1 : P.stepsE = 0 := by ((try simp only [bne_iff_ne, ne_eq, bne_eq_false_iff_eq, beq_iff_eq, beq_eq_false_iff_ne, decide_eq_true_eq, decide_eq_false_iff_not, List.length_map, Bool.not_eq_true, Bool.not_eq_false, Bool.and_eq_true, Bool.or_eq_true, Bool.and_eq_false_iff, Bool.or_eq_false_iff, Bool.not_eq_true', Bool.not_eq_false', Bool.not_true, Bool.not_false, Bool.not_eq_eq_eq_not, not_true_eq_false, not_false_eq_true, reduceCtorEq, Bool.true_or, Bool.false_or, Bool.or_true, Bool.or_false, Bool.true_and, Bool.and_true, Bool.false_and, Bool.and_false, true_and, and_true, or_false, false_or, true_or, or_true, false_and, and_false, Bool.true_eq_false, Bool.false_eq_true] at *) <;> omega)
  rw [if_neg (by omega), List.length_map]
  (refine ifK_split (fun h2 => ?_) (fun h2 => ?_) <;> (rw [h2]; ((conv => whnf); repeat (refine And.intro rfl ?_; (conv => whnf)))))
  · rw [if_pos (by ((try simp only [bne_iff_ne, ne_eq, bne_eq_false_iff_eq, beq_iff_eq, beq_eq_false_iff_ne, decide_eq_true_eq, decide_eq_false_iff_not, List.length_map, Bool.not_eq_true, Bool.not_eq_false, Bool.and_eq_true, Bool.or_eq_true, Bool.and_eq_false_iff, Bool.or_eq_false_iff, Bool.not_eq_true', Bool.not_eq_false', Bool.not_true, Bool.not_false, Bool.not_eq_eq_eq_not, not_true_eq_false, not_false_eq_true, reduceCtorEq, Bool.true_or, Bool.false_or, Bool.or_true, Bool.or_false, Bool.true_and, Bool.and_true, Bool.false_and, Bool.and_false, true_and, and_true, or_false, false_or, true_or, or_true, false_and, and_false, Bool.true_eq_false, Bool.false_eq_true] at *) <;> omega))]
    exact .tup _ _ (.cons _ _ _ _ (.none _) (.cons _ _ _ _ (.refl _) (.cons _ _ _ _ (.refl _) .nil)))
  rw [if_neg (by ((try simp only [bne_iff_ne, ne_eq, bne_eq_false_iff_eq, beq_iff_eq, beq_eq_false_iff_ne, decide_eq_true_eq, decide_eq_false_iff_not, List.length_map, Bool.not_eq_true, Bool.not_eq_false, Bool.and_eq_true, Bool.or_eq_true, Bool.and_eq_false_iff, Bool.or_eq_false_iff, Bool.not_eq_true', Bool.not_eq_false', Bool.not_true, Bool.not_false, Bool.not_eq_eq_eq_not, not_true_eq_false, not_false_eq_true, reduceCtorEq, Bool.true_or, Bool.false_or, Bool.or_true, Bool.or_false, Bool.true_and, Bool.and_true, Bool.false_and, Bool.and_false, true_and, and_true, or_false, false_or, true_or, or_true, false_and, and_false, Bool.true_eq_false, Bool.false_eq_true] at *) <;> omega))]
  have h2 : l.length ≤ 500 := by ((try simp only [bne_iff_ne, ne_eq, bne_eq_false_iff_eq, beq_iff_eq, beq_eq_false_iff_ne, decide_eq_true_eq, decide_eq_false_iff_not, List.length_map, Bool.not_eq_true, Bool.not_eq_false, Bool.and_eq_true, Bool.or_eq_true, Bool.and_eq_false_iff, Bool.or_eq_false_iff, Bool.not_eq_true', Bool.not_eq_false', Bool.not_true, Bool.not_false, Bool.not_eq_eq_eq_not, not_true_eq_false, not_false_eq_true, reduceCtorEq, Bool.true_or, Bool.false_or, Bool.or_true, Bool.or_false, Bool.true_and, Bool.and_true, Bool.false_and, Bool.and_false, true_and, and_true, or_false, false_or, true_or, or_true, false_and, and_false, Bool.true_eq_false, Bool.false_eq_true] at *) <;> omega)
  refine pwp_for [1, 2, 25, 26] (fun i : Nat => [(7, dints (P.nowAt l i)), (9, .own 1 i 0 (i + 1)), (27, .sc (.int .i64 i))]) (fun i => [(1, .vec true i 1 (grows (P.gridTo l i)))]) (fun i => i ≤ n) (fun i => l.length - i) 0 ?_
  ((conv => whnf); repeat (refine And.intro rfl ?_; (conv => whnf)))
  refine ⟨by omega, by (repeat' (first | exact trivial | refine And.intro rfl ?_)), rfl, ?_⟩
  rintro i hi
  ((conv => whnf); repeat (refine And.intro rfl ?_; (conv => whnf)))
  (apply red_sound; focus (repeat' (first | exact Red.skip | exact Red.ret | exact RedO.nil | exact RedD.nil | exact Red.exit _ | exact Red.loop _ | exact Red.stop _ | apply Red.ops | apply Red.draw | apply Red.seq | apply Red.cond | apply Red.block | apply RedO.cons | apply RedD.cons | exact (0 : Nat))))
  ((conv => whnf); repeat (refine And.intro rfl ?_; (conv => whnf)))
  (refine ifK_split (fun h3 => ?_) (fun h3 => ?_) <;> (rw [h3]; ((conv => whnf); repeat (refine And.intro rfl ?_; (conv => whnf)))))
  · have hi' : i < l.length := by ((try simp only [bne_iff_ne, ne_eq, bne_eq_false_iff_eq, beq_iff_eq, beq_eq_false_iff_ne, decide_eq_true_eq, decide_eq_false_iff_not, List.length_map, Bool.not_eq_true, Bool.not_eq_false, Bool.and_eq_true, Bool.or_eq_true, Bool.and_eq_false_iff, Bool.or_eq_false_iff, Bool.not_eq_true', Bool.not_eq_false', Bool.not_true, Bool.not_false, Bool.not_eq_eq_eq_not, not_true_eq_false, not_false_eq_true, reduceCtorEq, Bool.true_or, Bool.false_or, Bool.or_true, Bool.or_false, Bool.true_and, Bool.and_true, Bool.false_and, Bool.and_false, true_and, and_true, or_false, false_or, true_or, or_true, false_and, and_false, Bool.true_eq_false, Bool.false_eq_true] at *) <;> omega)
    have hzi : ∀ j, j < i → P.errAt l j = 0 := fun j hj => hz j (by omega)
    have lN := now_len h1 hzi
    have lG := P.gridTo_len l i
    have hF : PCall Try.prog 11 [dproc P, dints (P.nowAt l i), .sc (.int .i64 (l.getD i 0))] (.tup [dints (P.nowAt l (i + 1)), .sc (.int .i64 (P.errAt l i))]) := game_Fire P hP (P.nowAt l i) (by omega) (l.getD i 0)
    refine ⟨by omega, _, intsD_at (k := i) (by omega) hi', ?_⟩
    ((conv => whnf); repeat (refine And.intro rfl ?_; (conv => whnf)))
    (refine .inl ⟨_, hF, ?_⟩; ((conv => whnf); repeat (refine And.intro rfl ?_; (conv => whnf))))
    (refine ifK_split (fun h4 => ?_) (fun h4 => ?_) <;> (rw [h4]; ((conv => whnf); repeat (refine And.intro rfl ?_; (conv => whnf)))))
    · have h4 : P.errAt l i ≠ 0 := by ((try simp only [bne_iff_ne, ne_eq, bne_eq_false_iff_eq, beq_iff_eq, beq_eq_false_iff_ne, decide_eq_true_eq, decide_eq_false_iff_not, List.length_map, Bool.not_eq_true, Bool.not_eq_false, Bool.and_eq_true, Bool.or_eq_true, Bool.and_eq_false_iff, Bool.or_eq_false_iff, Bool.not_eq_true', Bool.not_eq_false', Bool.not_true, Bool.not_false, Bool.not_eq_eq_eq_not, not_true_eq_false, not_false_eq_true, reduceCtorEq, Bool.true_or, Bool.false_or, Bool.or_true, Bool.or_false, Bool.true_and, Bool.and_true, Bool.false_and, Bool.and_false, true_and, and_true, or_false, false_or, true_or, or_true, false_and, and_false, Bool.true_eq_false, Bool.false_eq_true] at *) <;> omega)
      have e : i = n := by
        by_cases q : i = n
        · exact q
        · exact absurd (hz i (by omega)) h4
      subst e
      rw [if_neg (by omega)]
      exact .tup _ _ (.cons _ _ _ _ (deep_grows lG.symm rfl) (.cons _ _ _ _ (.refl _) (.cons _ _ _ _ (.refl _) .nil)))
    · have h4 : P.errAt l i = 0 := by ((try simp only [bne_iff_ne, ne_eq, bne_eq_false_iff_eq, beq_iff_eq, beq_eq_false_iff_ne, decide_eq_true_eq, decide_eq_false_iff_not, List.length_map, Bool.not_eq_true, Bool.not_eq_false, Bool.and_eq_true, Bool.or_eq_true, Bool.and_eq_false_iff, Bool.or_eq_false_iff, Bool.not_eq_true', Bool.not_eq_false', Bool.not_true, Bool.not_false, Bool.not_eq_eq_eq_not, not_true_eq_false, not_false_eq_true, reduceCtorEq, Bool.true_or, Bool.false_or, Bool.or_true, Bool.or_false, Bool.true_and, Bool.and_true, Bool.false_and, Bool.and_false, true_and, and_true, or_false, false_or, true_or, or_true, false_and, and_false, Bool.true_eq_false, Bool.false_eq_true] at *) <;> omega)
      have e : i < n := by
        by_cases q : i = n
        · subst q; rcases hs with hs | hs
          · omega
          · exact absurd h4 hs
        · omega
      refine ⟨(by unfold sliceAppend; simp only [List.length_map, List.length_cons, List.length_nil, List.length_append, List.length_take, List.length_drop, List.drop_zero, List.take_succ_cons, List.take_zero]; omega), ?_⟩
      ((conv => whnf); repeat (refine And.intro rfl ?_; (conv => whnf)))
      (refine .inl ⟨by (unfold InR; rw [IntKind.wrap_i64]; omega), ?_⟩; ((conv => whnf); repeat (refine And.intro rfl ?_; (conv => whnf))))
      refine ⟨i + 1, by omega, by dsimp only; omega, ?_⟩
      (refine leB_close 2 (by simp) rfl ?_ ?_ <;> (repeat' (first | exact trivial | exact rfl | exact DeepM.refl _ | exact DeepML.refl _ | exact DeepMLL.refl _ | refine And.intro ?_ ?_ | (simp [Under, UnderL, UnderLL, -List.map_take, -List.map_drop]; done))))
      exact deepMLL_eq (grows_snoc lG.symm)
  · have hi' : i = l.length := by have : ¬ i < l.length := by ((try simp only [bne_iff_ne, ne_eq, bne_eq_false_iff_eq, beq_iff_eq, beq_eq_false_iff_ne, decide_eq_true_eq, decide_eq_false_iff_not, List.length_map, Bool.not_eq_true, Bool.not_eq_false, Bool.and_eq_true, Bool.or_eq_true, Bool.and_eq_false_iff, Bool.or_eq_false_iff, Bool.not_eq_true', Bool.not_eq_false', Bool.not_true, Bool.not_false, Bool.not_eq_eq_eq_not, not_true_eq_false, not_false_eq_true, reduceCtorEq, Bool.true_or, Bool.false_or, Bool.or_true, Bool.or_false, Bool.true_and, Bool.and_true, Bool.false_and, Bool.and_false, true_and, and_true, or_false, false_or, true_or, or_true, false_and, and_false, Bool.true_eq_false, Bool.false_eq_true] at *) <;> omega)
                                  omega
    subst hi'
    have e : n = l.length := by omega
    subst e
    rw [if_pos rfl, List.length_map]
    exact .tup _ _ (.cons _ _ _ _ (deep_grows (P.gridTo_len l _).symm rfl) (.cons _ _ _ _ (.refl _) (.cons _ _ _ _ (.refl _) .nil)))
end Go.Proofs.Ytnebpmjmkcicmaa
