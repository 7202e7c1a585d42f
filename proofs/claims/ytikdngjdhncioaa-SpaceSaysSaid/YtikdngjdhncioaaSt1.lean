/-
  The steps of a process over deep values. No statement is proved here.
-/
import Derived.Test.YtikdngjdhncioaaSt0
import Derived.Test.YtikdngjdhncioaaPr3
import Derived.Test.YtikdngjdhncioaaPr4
import Derived.Test.YtikdngjdhncioaaFn
namespace Go.Proofs.Ytikdngjdhncioaa
open Go.RowKit
set_option linter.unusedSimpArgs false
set_option linter.unusedVariables false
def srow (x : StepD) : List D := [.sc (.int .i64 x.1), .sc (.int .i64 x.2.1), .sc (.int .i64 x.2.2)]
def srows (l : List StepD) : List (List D) := l.map srow
def dsteps (l : List StepD) : D := .lst 3 (srows l)
theorem pure_srow (x : StepD) : PureL (srow x) := by simp [srow, PureL, Pure]
theorem pure_srows (l : List StepD) : PureLL (srows l) := pureLL_map _ pure_srow l
theorem pure_dsteps (l : List StepD) : Pure (dsteps l) := by simp [dsteps, Pure, pure_srows]
theorem srows_len (l : List StepD) : (srows l).length = l.length := by simp [srows]
@[simp] theorem underL_srow {m : Nat} (x : StepD) : UnderL m (srow x) ↔ True := ⟨fun _ => trivial, fun _ => underL_pure _ (pure_srow x)⟩
@[simp] theorem underLL_srows {m : Nat} (l : List StepD) : UnderLL m (srows l) ↔ True := ⟨fun _ => trivial, fun _ => underLL_pure _ (pure_srows l)⟩
theorem srow_snoc {l : List StepD} {c : Nat} {x y z : Int} (h : c = l.length) : List.drop 0 (List.take c (srows l)) ++ [[D.sc (.int .i64 x), D.sc (.int .i64 y), D.sc (.int .i64 z)]] = srows (l ++ [(x, y, z)]) := by
  subst h
  rw [drop_take_all (by simp [srows])]
  simp [srows, srow]
theorem srow_app {l r : List StepD} {c : Nat} (h : c = l.length) : List.drop 0 (List.take c (srows l)) ++ srows r = srows (l ++ r) := by
  subst h
  rw [drop_take_all (by simp [srows])]
  simp [srows]
theorem deep_steps {H : List AObj} {id v n : Nat} {q : Bool} {l : List StepD} (hn : n = l.length) (h : H[id]? = some (.vec q v 3 (srows l))) : Deep H (.own id v 0 n) (dsteps l) := by
  subst hn
  exact .own _ _ _ _ _ _ _ _ h (by rw [drop_take_all (by simp [srows])]; exact deepLL_refl _)
theorem shl_fit {z : Int} {k : Nat} (hk : z = k) (h : k ≤ 30) : (1 : Int) * 2 ^ min z.toNat IntKind.i64.bits = 2 ^ k := by
  subst hk
  show (1 : Int) * 2 ^ min (k : Int).toNat 64 = 2 ^ k
  rw [Int.one_mul, Int.toNat_natCast, Nat.min_eq_left (by omega)]
theorem pow30 {k : Nat} (h : k ≤ 30) : (1 : Int) ≤ 2 ^ k ∧ (2 : Int) ^ k ≤ 1073741824 := ⟨pow_pos' k, pow_le (n := 30) h⟩
def c63_1 : PC := .seq (.ops [⟨(some 46), .bin .lss (.tmp 45) (.tmp 44), none, 0⟩] false) (.seq (.cond (.tmp 46) (.skip) (.exit 1)) (.seq (.block 2 (.seq (.ops [⟨(some 47), .iaddr 1 (.tmp 43) (.tmp 45), none, 0⟩,
    ⟨(some 48), .load1 (.tmp 47), none, 0⟩,
    ⟨(some 12), .move (.tmp 48), none, 0⟩] false) (.ops [⟨(some 49), .move (.tmp 10), none, 0⟩,
    ⟨(some 50), .move (.tmp 1), none, 0⟩,
    ⟨(some 51), .move (.tmp 12), none, 0⟩,
    ⟨(some 52), .move (.tmp 9), none, 0⟩,
    ⟨(some 53), .build [(.int .i64 0), (.int .i64 0), (.int .i64 0)] [(0, 1, (.tmp 50)), (1, 1, (.tmp 51)), (2, 1, (.tmp 52))], none, 0⟩,
    ⟨(some 54), .bslice 3 1 [(.tmp 53)], none, 0⟩,
    ⟨(some 55), .append 3 24 (.tmp 49) (.tmp 54), none, 0⟩,
    ⟨(some 10), .move (.tmp 55), none, 0⟩] false))) (.ops [⟨(some 56), .bin .add (.tmp 45) (.const (.int .i64 1)), none, 0⟩,
    ⟨(some 45), .move (.tmp 56), none, 0⟩] false)))
def c63_3 : PC := .seq (.ops [⟨(some 68), .bin .lss (.tmp 67) (.tmp 66), none, 0⟩] false) (.seq (.cond (.tmp 68) (.skip) (.exit 5)) (.seq (.block 6 (.seq (.ops [⟨(some 69), .move (.tmp 67), none, 0⟩,
    ⟨(some 15), .move (.tmp 69), none, 0⟩] false) (.ops [⟨(some 70), .move (.tmp 10), none, 0⟩,
    ⟨(some 71), .move (.tmp 1), none, 0⟩,
    ⟨(some 72), .move (.tmp 14), none, 0⟩,
    ⟨(some 73), .move (.tmp 15), none, 0⟩,
    ⟨(some 74), .bin .shl (.const (.int .i64 1)) (.tmp 73), none, 0⟩,
    ⟨(some 75), .build [(.int .i64 0), (.int .i64 0), (.int .i64 0)] [(0, 1, (.tmp 71)), (1, 1, (.tmp 72)), (2, 1, (.tmp 74))], none, 0⟩,
    ⟨(some 76), .bslice 3 1 [(.tmp 75)], none, 0⟩,
    ⟨(some 77), .append 3 24 (.tmp 70) (.tmp 76), none, 0⟩,
    ⟨(some 10), .move (.tmp 77), none, 0⟩] false))) (.ops [⟨(some 78), .bin .add (.tmp 67) (.const (.int .i64 1)), none, 0⟩,
    ⟨(some 67), .move (.tmp 78), none, 0⟩] false)))
def c63_2 : PC := .seq (.ops [⟨(some 62), .bin .lss (.tmp 61) (.tmp 60), none, 0⟩] false) (.seq (.cond (.tmp 62) (.skip) (.exit 3)) (.seq (.block 4 (.seq (.ops [⟨(some 63), .iaddr 1 (.tmp 59) (.tmp 61), none, 0⟩,
    ⟨(some 64), .load1 (.tmp 63), none, 0⟩,
    ⟨(some 14), .move (.tmp 64), none, 0⟩] false) (.seq (.ops [⟨(some 65), .move (.tmp 7), none, 0⟩,
    ⟨(some 66), .len (.tmp 65), none, 0⟩,
    ⟨(some 67), .move (.const (.int .i64 0)), none, 0⟩] false) (.block 5 (.loop c63_3))))) (.ops [⟨(some 79), .bin .add (.tmp 61) (.const (.int .i64 1)), none, 0⟩,
    ⟨(some 61), .move (.tmp 79), none, 0⟩] false)))
def c63_4 : PC := .seq (.seq (.ops [⟨(some 90), .move (.tmp 16), none, 0⟩,
    ⟨(some 91), .move (.tmp 9), none, 0⟩,
    ⟨(some 92), .bin .leq (.tmp 90) (.tmp 91), none, 0⟩] false) (.cond (.tmp 92) (.skip) (.exit 7))) (.seq (.block 8 (.ops [⟨(some 95), .move (.tmp 10), none, 0⟩,
    ⟨(some 96), .move (.tmp 1), none, 0⟩,
    ⟨(some 97), .move (.tmp 16), none, 0⟩,
    ⟨(some 98), .build [(.int .i64 0), (.int .i64 0), (.int .i64 0)] [(0, 1, (.tmp 96)), (1, 1, (.const (.int .i64 (-1)))), (2, 1, (.tmp 97))], none, 0⟩,
    ⟨(some 99), .bslice 3 1 [(.tmp 98)], none, 0⟩,
    ⟨(some 100), .append 3 24 (.tmp 95) (.tmp 99), none, 0⟩,
    ⟨(some 10), .move (.tmp 100), none, 0⟩] false)) (.ops [⟨(some 93), .move (.tmp 16), none, 0⟩,
    ⟨(some 94), .bin .add (.tmp 93) (.const (.int .i64 1)), none, 0⟩,
    ⟨(some 16), .move (.tmp 94), none, 0⟩] false))
def c63 : PC := .seq (.ops [⟨(some 2), .box (.tmp 0), none, 0⟩,
    ⟨(some 4), .move (.const (.slice none 0 0)), none, 0⟩] false) (.seq (.ops [⟨(some 18), .loadA 2 (.tmp 2), none, 0⟩,
    ⟨(some 19), .move (.tmp 1), none, 0⟩,
    ⟨(some 20), .call 79 [(.tmp 18), (.tmp 19)], none, 0⟩,
    ⟨(some 17), .move (.tmp 20), none, 0⟩,
    ⟨(some 21), .ext 0 (.tmp 17), none, 0⟩,
    ⟨(some 22), .ext 1 (.tmp 17), none, 0⟩,
    ⟨(some 5), .move (.tmp 21), none, 0⟩,
    ⟨(some 6), .move (.tmp 22), none, 0⟩] false) (.seq (.ops [⟨(some 24), .loadA 2 (.tmp 2), none, 0⟩,
    ⟨(some 25), .move (.tmp 1), none, 0⟩,
    ⟨(some 26), .call 80 [(.tmp 24), (.tmp 25)], none, 0⟩,
    ⟨(some 23), .move (.tmp 26), none, 0⟩,
    ⟨(some 27), .ext 0 (.tmp 23), none, 0⟩,
    ⟨(some 28), .ext 1 (.tmp 23), none, 0⟩,
    ⟨(some 7), .move (.tmp 27), none, 0⟩,
    ⟨(some 8), .move (.tmp 28), none, 0⟩] false) (.seq (.ops [⟨(some 29), .move (.tmp 7), none, 0⟩,
    ⟨(some 30), .len (.tmp 29), none, 0⟩,
    ⟨(some 31), .bin .shl (.const (.int .i64 1)) (.tmp 30), none, 0⟩,
    ⟨(some 32), .bin .sub (.tmp 31) (.const (.int .i64 1)), none, 0⟩,
    ⟨(some 9), .move (.tmp 32), none, 0⟩] false) (.seq (.ops [⟨(some 10), .move (.const (.slice none 0 0)), none, 0⟩] false) (.seq (.seq (.ops [⟨(some 33), .faddr 0 (.tmp 2), none, 0⟩,
    ⟨(some 34), .load1 (.tmp 33), none, 0⟩,
    ⟨(some 35), .move (.tmp 1), none, 0⟩,
    ⟨(some 36), .iaddr 2 (.tmp 34) (.tmp 35), none, 0⟩,
    ⟨(some 37), .faddr 1 (.tmp 36), none, 0⟩,
    ⟨(some 38), .load1 (.tmp 37), none, 0⟩] false) (.block 0 (.seq (.seq (.ops [⟨(some 40), .bin .eql (.tmp 38) (.const (.int .i64 4)), none, 0⟩,
    ⟨(some 39), .move (.tmp 40), none, 0⟩] false) (.cond (.tmp 39) (.skip) (.seq (.ops [⟨(some 41), .bin .eql (.tmp 38) (.const (.int .i64 2)), none, 0⟩,
    ⟨(some 39), .move (.tmp 41), none, 0⟩] false) (.cond (.tmp 39) (.skip) (.ops [⟨(some 42), .bin .eql (.tmp 38) (.const (.int .i64 3)), none, 0⟩,
    ⟨(some 39), .move (.tmp 42), none, 0⟩] false))))) (.cond (.tmp 39) (.seq (.ops [⟨(some 43), .move (.tmp 5), none, 0⟩,
    ⟨(some 44), .len (.tmp 43), none, 0⟩,
    ⟨(some 45), .move (.const (.int .i64 0)), none, 0⟩] false) (.block 1 (.loop c63_1))) (.seq (.ops [⟨(some 58), .bin .eql (.tmp 38) (.const (.int .i64 5)), none, 0⟩,
    ⟨(some 57), .move (.tmp 58), none, 0⟩] false) (.cond (.tmp 57) (.seq (.ops [⟨(some 59), .move (.tmp 5), none, 0⟩,
    ⟨(some 60), .len (.tmp 59), none, 0⟩,
    ⟨(some 61), .move (.const (.int .i64 0)), none, 0⟩] false) (.block 3 (.loop c63_2))) (.seq (.ops [⟨(some 81), .bin .eql (.tmp 38) (.const (.int .i64 6)), none, 0⟩,
    ⟨(some 80), .move (.tmp 81), none, 0⟩] false) (.cond (.tmp 80) (.ops [⟨(some 82), .move (.tmp 10), none, 0⟩,
    ⟨(some 83), .move (.tmp 1), none, 0⟩,
    ⟨(some 84), .move (.tmp 9), none, 0⟩,
    ⟨(some 85), .build [(.int .i64 0), (.int .i64 0), (.int .i64 0)] [(0, 1, (.tmp 83)), (1, 1, (.const (.int .i64 (-1)))), (2, 1, (.tmp 84))], none, 0⟩,
    ⟨(some 86), .bslice 3 1 [(.tmp 85)], none, 0⟩,
    ⟨(some 87), .append 3 24 (.tmp 82) (.tmp 86), none, 0⟩,
    ⟨(some 10), .move (.tmp 87), none, 0⟩] false) (.seq (.ops [⟨(some 89), .bin .eql (.tmp 38) (.const (.int .i64 7)), none, 0⟩,
    ⟨(some 88), .move (.tmp 89), none, 0⟩] false) (.cond (.tmp 88) (.seq (.ops [⟨(some 16), .move (.const (.int .i64 1)), none, 0⟩] false) (.block 7 (.loop c63_4))) (.skip))))))))))) (.seq (.ops [⟨(some 101), .move (.tmp 10), none, 0⟩,
    ⟨(some 4), .move (.tmp 101), none, 0⟩] false) (.ret)))))))
set_option maxRecDepth 100000 in
theorem c63_ok : FunOK Try.prog 63 102 [.tmp 4] c63 := ⟨⟨Try.f63, Try.func63, rfl, by kernel_rfl, rfl, by kernel_rfl⟩⟩
set_option maxRecDepth 100000 in
theorem steps_of (P : ProcD) (hP : P.Fits) (h0 : P.chk = 0) (n : Nat) (hn : n < P.nodes.length) : PCall Try.prog 63 [dproc P, .sc (.int .i64 n)] (dsteps (P.stepsOf n)) := by
  obtain ⟨hs1, hs2⟩ := chk_small h0
  have l1 := P.inL_len n
  have l2 := P.outL_len n
  have hE : P.listE n = 0 := by unfold ProcD.listE; rw [if_neg (by omega), if_neg (by omega)]
  have hI := proc_Ins P hP n
  have hO := proc_Outs P hP n
  rw [show P.insT n = P.inL n from by unfold ProcD.insT; rw [if_pos hE], hE] at hI
  rw [show P.outsT n = P.outL n from by unfold ProcD.outsT; rw [if_pos hE], hE] at hO
  have hok := ProcD.nodeOK_of h0 n hn
  refine pcall_intro c63_ok (by simp) (by simp [PureL, Pure, pure_dproc]) ?_ (pure_dsteps _)
  (apply red_sound; focus (repeat' (first | exact Red.skip | exact Red.ret | exact RedO.nil | exact RedD.nil | exact Red.exit _ | exact Red.loop _ | exact Red.stop _ | apply Red.ops | apply Red.draw | apply Red.seq | apply Red.cond | apply Red.block | apply RedO.cons | apply RedD.cons | exact (0 : Nat))))
  ((conv => whnf); repeat (refine And.intro rfl ?_; (conv => whnf)))
  (refine .inl ⟨_, hI, ?_⟩; ((conv => whnf); repeat (refine And.intro rfl ?_; (conv => whnf))))
  (refine .inl ⟨_, hO, ?_⟩; ((conv => whnf); repeat (refine And.intro rfl ?_; (conv => whnf))))
  have e2 := ones_pow (P.outL n).length
  have e3 := pow30 (k := (P.outL n).length) (by omega)
  have ea : ones (P.outL n).length = P.allO n := rfl
  have ei : ∀ k, P.byIns (P.kind n) n (k + 1) = P.byIns (P.kind n) n k ++ P.byIn (P.kind n) n ((P.inL n).getD k 0) := fun k => rfl
  rw [ea] at e2
  refine ⟨by omega, ?_⟩
  rw [List.length_map, shl_fit (k := (P.outL n).length) rfl (by omega)]
  (refine .inl ⟨by (unfold InR; rw [IntKind.wrap_i64]; omega), ?_⟩; ((conv => whnf); repeat (refine And.intro rfl ?_; (conv => whnf))))
  (refine .inl ⟨by (unfold InR; rw [IntKind.wrap_i64]; omega), ?_⟩; ((conv => whnf); repeat (refine And.intro rfl ?_; (conv => whnf))))
  rw [← e2, Int.add_sub_cancel]
  refine ⟨by omega, _, node_at P (k := n) (by omega) hn, ?_⟩
  ((conv => whnf); repeat (refine And.intro rfl ?_; (conv => whnf)))
  have eS : P.stepsOf n = if P.kind n = 4 ∨ P.kind n = 5 ∨ P.kind n = 2 ∨ P.kind n = 3 then P.byIns (P.kind n) n (P.inL n).length
    else if P.kind n = 6 then [((n : Int), -1, P.allO n)] else if P.kind n = 7 then orS n (P.allO n).toNat else [] := rfl
  (refine ifK_split (fun h4 => ?_) (fun h4 => ?_) <;> (rw [h4]; ((conv => whnf); repeat (refine And.intro rfl ?_; (conv => whnf)))))
  · have h4 : P.kind n = 4 := by ((try simp only [oo, reduceCtorEq] at *) <;> omega)
    rw [if_pos (by omega)] at eS
    have e5 : ∀ i : Int, P.byIn (P.kind n) n i = [((n : Int), i, P.allO n)] := fun i => by unfold ProcD.byIn; rw [if_neg (by omega)]
    ((conv => whnf); repeat (refine And.intro rfl ?_; (conv => whnf)))
    rw [List.length_map]
    refine pwp_ghostB (leB_nil 10 3 (by simp) rfl) ?_
    refine pwp_for [1, 9, 43, 44] (fun ((k, c, l) : Nat × Nat × List StepD) => [(10, .own 1 c 0 c), (45, .sc (.int .i64 k))]) (fun (k, c, l) => [(1, .vec true c 3 (srows l))]) (fun (k, c, l) => k ≤ (P.inL n).length ∧ c = l.length ∧ c = k ∧ l = P.byIns (P.kind n) n k) (fun (k, c, l) => (P.inL n).length - k) (0, 0, []) ?_
    ((conv => whnf); repeat (refine And.intro rfl ?_; (conv => whnf)))
    refine ⟨⟨by omega, rfl, rfl, rfl⟩, by (repeat' (first | exact trivial | refine And.intro rfl ?_)), rfl, ?_⟩
    rintro ⟨k, c, l⟩ ⟨hk, hc, hck, hl⟩
    ((conv => whnf); repeat (refine And.intro rfl ?_; (conv => whnf)))
    (apply red_sound; focus (repeat' (first | exact Red.skip | exact Red.ret | exact RedO.nil | exact RedD.nil | exact Red.exit _ | exact Red.loop _ | exact Red.stop _ | apply Red.ops | apply Red.draw | apply Red.seq | apply Red.cond | apply Red.block | apply RedO.cons | apply RedD.cons | exact (0 : Nat))))
    ((conv => whnf); repeat (refine And.intro rfl ?_; (conv => whnf)))
    (refine ifK_split (fun h1 => ?_) (fun h1 => ?_) <;> (rw [h1]; ((conv => whnf); repeat (refine And.intro rfl ?_; (conv => whnf)))))
    · have hk' : k < (P.inL n).length := by ((try simp only [oo, reduceCtorEq] at *) <;> omega)
      refine ⟨by omega, _, intsD_at (k := k) (by omega) hk', ?_⟩
      ((conv => whnf); repeat (refine And.intro rfl ?_; (conv => whnf)))
      refine ⟨(by unfold sliceAppend; simp only [ll]; omega), ?_⟩
      ((conv => whnf); repeat (refine And.intro rfl ?_; (conv => whnf)))
      (refine .inl ⟨by (unfold InR; rw [IntKind.wrap_i64]; omega), ?_⟩; ((conv => whnf); repeat (refine And.intro rfl ?_; (conv => whnf))))
      refine ⟨(k + 1, c + 1, l ++ [((n : Int), (P.inL n).getD k 0, P.allO n)]), ⟨by omega, by simp [hc], by omega, by rw [ei, e5, hl]⟩, by dsimp only; omega, ?_⟩
      (refine leB_close 2 (by simp) rfl ?_ ?_ <;> (repeat' (first | exact trivial | exact rfl | exact DeepM.refl _ | exact DeepML.refl _ | exact DeepMLL.refl _ | refine And.intro ?_ ?_ | (simp [Under, UnderL, UnderLL, -List.map_take, -List.map_drop]; done))))
      exact deepMLL_eq (srow_snoc hc)
    · have hk' : k = (P.inL n).length := by have : ¬ k < (P.inL n).length := by ((try simp only [oo, reduceCtorEq] at *) <;> omega)
                                            omega
      subst hk'
      rw [eS, ← hl]
      exact deep_steps hc rfl
  have h4 : P.kind n ≠ 4 := by ((try simp only [oo, reduceCtorEq] at *) <;> omega)
  (refine ifK_split (fun h2 => ?_) (fun h2 => ?_) <;> (rw [h2]; ((conv => whnf); repeat (refine And.intro rfl ?_; (conv => whnf)))))
  · have h2 : P.kind n = 2 := by ((try simp only [oo, reduceCtorEq] at *) <;> omega)
    rw [if_pos (by omega)] at eS
    have e5 : ∀ i : Int, P.byIn (P.kind n) n i = [((n : Int), i, P.allO n)] := fun i => by unfold ProcD.byIn; rw [if_neg (by omega)]
    ((conv => whnf); repeat (refine And.intro rfl ?_; (conv => whnf)))
    rw [List.length_map]
    refine pwp_ghostB (leB_nil 10 3 (by simp) rfl) ?_
    refine pwp_for [1, 9, 43, 44] (fun ((k, c, l) : Nat × Nat × List StepD) => [(10, .own 1 c 0 c), (45, .sc (.int .i64 k))]) (fun (k, c, l) => [(1, .vec true c 3 (srows l))]) (fun (k, c, l) => k ≤ (P.inL n).length ∧ c = l.length ∧ c = k ∧ l = P.byIns (P.kind n) n k) (fun (k, c, l) => (P.inL n).length - k) (0, 0, []) ?_
    ((conv => whnf); repeat (refine And.intro rfl ?_; (conv => whnf)))
    refine ⟨⟨by omega, rfl, rfl, rfl⟩, by (repeat' (first | exact trivial | refine And.intro rfl ?_)), rfl, ?_⟩
    rintro ⟨k, c, l⟩ ⟨hk, hc, hck, hl⟩
    ((conv => whnf); repeat (refine And.intro rfl ?_; (conv => whnf)))
    (apply red_sound; focus (repeat' (first | exact Red.skip | exact Red.ret | exact RedO.nil | exact RedD.nil | exact Red.exit _ | exact Red.loop _ | exact Red.stop _ | apply Red.ops | apply Red.draw | apply Red.seq | apply Red.cond | apply Red.block | apply RedO.cons | apply RedD.cons | exact (0 : Nat))))
    ((conv => whnf); repeat (refine And.intro rfl ?_; (conv => whnf)))
    (refine ifK_split (fun h1 => ?_) (fun h1 => ?_) <;> (rw [h1]; ((conv => whnf); repeat (refine And.intro rfl ?_; (conv => whnf)))))
    · have hk' : k < (P.inL n).length := by ((try simp only [oo, reduceCtorEq] at *) <;> omega)
      refine ⟨by omega, _, intsD_at (k := k) (by omega) hk', ?_⟩
      ((conv => whnf); repeat (refine And.intro rfl ?_; (conv => whnf)))
      refine ⟨(by unfold sliceAppend; simp only [ll]; omega), ?_⟩
      ((conv => whnf); repeat (refine And.intro rfl ?_; (conv => whnf)))
      (refine .inl ⟨by (unfold InR; rw [IntKind.wrap_i64]; omega), ?_⟩; ((conv => whnf); repeat (refine And.intro rfl ?_; (conv => whnf))))
      refine ⟨(k + 1, c + 1, l ++ [((n : Int), (P.inL n).getD k 0, P.allO n)]), ⟨by omega, by simp [hc], by omega, by rw [ei, e5, hl]⟩, by dsimp only; omega, ?_⟩
      (refine leB_close 2 (by simp) rfl ?_ ?_ <;> (repeat' (first | exact trivial | exact rfl | exact DeepM.refl _ | exact DeepML.refl _ | exact DeepMLL.refl _ | refine And.intro ?_ ?_ | (simp [Under, UnderL, UnderLL, -List.map_take, -List.map_drop]; done))))
      exact deepMLL_eq (srow_snoc hc)
    · have hk' : k = (P.inL n).length := by have : ¬ k < (P.inL n).length := by ((try simp only [oo, reduceCtorEq] at *) <;> omega)
                                            omega
      subst hk'
      rw [eS, ← hl]
      exact deep_steps hc rfl
  have h2 : P.kind n ≠ 2 := by ((try simp only [oo, reduceCtorEq] at *) <;> omega)
  (refine ifK_split (fun h3 => ?_) (fun h3 => ?_) <;> (rw [h3]; ((conv => whnf); repeat (refine And.intro rfl ?_; (conv => whnf)))))
  · have h3 : P.kind n = 3 := by ((try simp only [oo, reduceCtorEq] at *) <;> omega)
    rw [if_pos (by omega)] at eS
    have e5 : ∀ i : Int, P.byIn (P.kind n) n i = [((n : Int), i, P.allO n)] := fun i => by unfold ProcD.byIn; rw [if_neg (by omega)]
    ((conv => whnf); repeat (refine And.intro rfl ?_; (conv => whnf)))
    rw [List.length_map]
    refine pwp_ghostB (leB_nil 10 3 (by simp) rfl) ?_
    refine pwp_for [1, 9, 43, 44] (fun ((k, c, l) : Nat × Nat × List StepD) => [(10, .own 1 c 0 c), (45, .sc (.int .i64 k))]) (fun (k, c, l) => [(1, .vec true c 3 (srows l))]) (fun (k, c, l) => k ≤ (P.inL n).length ∧ c = l.length ∧ c = k ∧ l = P.byIns (P.kind n) n k) (fun (k, c, l) => (P.inL n).length - k) (0, 0, []) ?_
    ((conv => whnf); repeat (refine And.intro rfl ?_; (conv => whnf)))
    refine ⟨⟨by omega, rfl, rfl, rfl⟩, by (repeat' (first | exact trivial | refine And.intro rfl ?_)), rfl, ?_⟩
    rintro ⟨k, c, l⟩ ⟨hk, hc, hck, hl⟩
    ((conv => whnf); repeat (refine And.intro rfl ?_; (conv => whnf)))
    (apply red_sound; focus (repeat' (first | exact Red.skip | exact Red.ret | exact RedO.nil | exact RedD.nil | exact Red.exit _ | exact Red.loop _ | exact Red.stop _ | apply Red.ops | apply Red.draw | apply Red.seq | apply Red.cond | apply Red.block | apply RedO.cons | apply RedD.cons | exact (0 : Nat))))
    ((conv => whnf); repeat (refine And.intro rfl ?_; (conv => whnf)))
    (refine ifK_split (fun h1 => ?_) (fun h1 => ?_) <;> (rw [h1]; ((conv => whnf); repeat (refine And.intro rfl ?_; (conv => whnf)))))
    · have hk' : k < (P.inL n).length := by ((try simp only [oo, reduceCtorEq] at *) <;> omega)
      refine ⟨by omega, _, intsD_at (k := k) (by omega) hk', ?_⟩
      ((conv => whnf); repeat (refine And.intro rfl ?_; (conv => whnf)))
      refine ⟨(by unfold sliceAppend; simp only [ll]; omega), ?_⟩
      ((conv => whnf); repeat (refine And.intro rfl ?_; (conv => whnf)))
      (refine .inl ⟨by (unfold InR; rw [IntKind.wrap_i64]; omega), ?_⟩; ((conv => whnf); repeat (refine And.intro rfl ?_; (conv => whnf))))
      refine ⟨(k + 1, c + 1, l ++ [((n : Int), (P.inL n).getD k 0, P.allO n)]), ⟨by omega, by simp [hc], by omega, by rw [ei, e5, hl]⟩, by dsimp only; omega, ?_⟩
      (refine leB_close 2 (by simp) rfl ?_ ?_ <;> (repeat' (first | exact trivial | exact rfl | exact DeepM.refl _ | exact DeepML.refl _ | exact DeepMLL.refl _ | refine And.intro ?_ ?_ | (simp [Under, UnderL, UnderLL, -List.map_take, -List.map_drop]; done))))
      exact deepMLL_eq (srow_snoc hc)
    · have hk' : k = (P.inL n).length := by have : ¬ k < (P.inL n).length := by ((try simp only [oo, reduceCtorEq] at *) <;> omega)
                                            omega
      subst hk'
      rw [eS, ← hl]
      exact deep_steps hc rfl
  have h3 : P.kind n ≠ 3 := by ((try simp only [oo, reduceCtorEq] at *) <;> omega)
  (refine ifK_split (fun h5 => ?_) (fun h5 => ?_) <;> (rw [h5]; ((conv => whnf); repeat (refine And.intro rfl ?_; (conv => whnf)))))
  · have h5 : P.kind n = 5 := by ((try simp only [oo, reduceCtorEq] at *) <;> omega)
    rw [if_pos (by omega)] at eS
    have e5 : ∀ i : Int, P.byIn (P.kind n) n i = xorS n i (P.outL n).length := fun i => by unfold ProcD.byIn; rw [if_pos h5]
    ((conv => whnf); repeat (refine And.intro rfl ?_; (conv => whnf)))
    rw [List.length_map]
    refine pwp_ghostB (leB_nil 10 3 (by simp) rfl) ?_
    refine pwp_for [1, 7, 59, 60] (fun ((k, c, l) : Nat × Nat × List StepD) => [(10, .own 1 c 0 c), (61, .sc (.int .i64 k))]) (fun (k, c, l) => [(1, .vec true c 3 (srows l))]) (fun (k, c, l) => k ≤ (P.inL n).length ∧ c = l.length ∧ l = P.byIns (P.kind n) n k) (fun (k, c, l) => (P.inL n).length - k) (0, 0, []) ?_
    ((conv => whnf); repeat (refine And.intro rfl ?_; (conv => whnf)))
    refine ⟨⟨by omega, rfl, rfl⟩, by (repeat' (first | exact trivial | refine And.intro rfl ?_)), rfl, ?_⟩
    rintro ⟨k, c, l⟩ ⟨hk, hc, hl⟩
    ((conv => whnf); repeat (refine And.intro rfl ?_; (conv => whnf)))
    (apply red_sound; focus (repeat' (first | exact Red.skip | exact Red.ret | exact RedO.nil | exact RedD.nil | exact Red.exit _ | exact Red.loop _ | exact Red.stop _ | apply Red.ops | apply Red.draw | apply Red.seq | apply Red.cond | apply Red.block | apply RedO.cons | apply RedD.cons | exact (0 : Nat))))
    ((conv => whnf); repeat (refine And.intro rfl ?_; (conv => whnf)))
    (refine ifK_split (fun h1 => ?_) (fun h1 => ?_) <;> (rw [h1]; ((conv => whnf); repeat (refine And.intro rfl ?_; (conv => whnf)))))
    · have hk' : k < (P.inL n).length := by ((try simp only [oo, reduceCtorEq] at *) <;> omega)
      refine ⟨by omega, _, intsD_at (k := k) (by omega) hk', ?_⟩
      ((conv => whnf); repeat (refine And.intro rfl ?_; (conv => whnf)))
      rw [List.length_map]
      have b1 := P.byIns_len (P.kind n) n (by omega) k
      have b2 : l.length = (P.byIns (P.kind n) n k).length := by rw [hl]
      refine pwp_for [1, 7, 14, 59, 60, 61, 66] (fun ((j, c', m) : Nat × Nat × List StepD) => [(10, .own 1 c' 0 c'), (67, .sc (.int .i64 j))]) (fun (j, c', m) => [(1, .vec true c' 3 (srows m))]) (fun (j, c', m) => j ≤ (P.outL n).length ∧ c' = m.length ∧ c' = l.length + j ∧ m = l ++ xorS n ((P.inL n).getD k 0) j) (fun (j, c', m) => (P.outL n).length - j) (0, c, l) ?_
      ((conv => whnf); repeat (refine And.intro rfl ?_; (conv => whnf)))
      refine ⟨⟨by omega, hc, hc, (List.append_nil l).symm⟩, by (repeat' (first | exact trivial | refine And.intro rfl ?_)), rfl, ?_⟩
      rintro ⟨j, c', m⟩ ⟨hj, hc', hcj, hm⟩
      ((conv => whnf); repeat (refine And.intro rfl ?_; (conv => whnf)))
      (apply red_sound; focus (repeat' (first | exact Red.skip | exact Red.ret | exact RedO.nil | exact RedD.nil | exact Red.exit _ | exact Red.loop _ | exact Red.stop _ | apply Red.ops | apply Red.draw | apply Red.seq | apply Red.cond | apply Red.block | apply RedO.cons | apply RedD.cons | exact (0 : Nat))))
      ((conv => whnf); repeat (refine And.intro rfl ?_; (conv => whnf)))
      (refine ifK_split (fun h6 => ?_) (fun h6 => ?_) <;> (rw [h6]; ((conv => whnf); repeat (refine And.intro rfl ?_; (conv => whnf)))))
      · have hj' : j < (P.outL n).length := by ((try simp only [oo, reduceCtorEq] at *) <;> omega)
        refine ⟨by omega, ?_⟩
        rw [shl_fit (k := j) rfl (by omega)]
        have e4 := pow30 (k := j) (by omega)
        (refine .inl ⟨by (unfold InR; rw [IntKind.wrap_i64]; omega), ?_⟩; ((conv => whnf); repeat (refine And.intro rfl ?_; (conv => whnf))))
        refine ⟨(by unfold sliceAppend; simp only [ll]; omega), ?_⟩
        ((conv => whnf); repeat (refine And.intro rfl ?_; (conv => whnf)))
        (refine .inl ⟨by (unfold InR; rw [IntKind.wrap_i64]; omega), ?_⟩; ((conv => whnf); repeat (refine And.intro rfl ?_; (conv => whnf))))
        refine ⟨(j + 1, c' + 1, m ++ [((n : Int), (P.inL n).getD k 0, 2 ^ j)]), ⟨by omega, by simp [hc'], by omega, by rw [hm, List.append_assoc]; rfl⟩, by dsimp only; omega, ?_⟩
        (refine leB_close 2 (by simp) rfl ?_ ?_ <;> (repeat' (first | exact trivial | exact rfl | exact DeepM.refl _ | exact DeepML.refl _ | exact DeepMLL.refl _ | refine And.intro ?_ ?_ | (simp [Under, UnderL, UnderLL, -List.map_take, -List.map_drop]; done))))
        exact deepMLL_eq (srow_snoc hc')
      · have hj' : j = (P.outL n).length := by have : ¬ j < (P.outL n).length := by ((try simp only [oo, reduceCtorEq] at *) <;> omega)
                                               omega
        subst hj'
        (refine .inl ⟨by (unfold InR; rw [IntKind.wrap_i64]; omega), ?_⟩; ((conv => whnf); repeat (refine And.intro rfl ?_; (conv => whnf))))
        refine ⟨(k + 1, c', m), ⟨by omega, hc', by rw [ei, e5, hm, hl]⟩, by dsimp only; omega, ?_⟩
        (refine leB_close 2 (by simp) rfl ?_ ?_ <;> (repeat' (first | exact trivial | exact rfl | exact DeepM.refl _ | exact DeepML.refl _ | exact DeepMLL.refl _ | refine And.intro ?_ ?_ | (simp [Under, UnderL, UnderLL, -List.map_take, -List.map_drop]; done))))
    · have hk' : k = (P.inL n).length := by have : ¬ k < (P.inL n).length := by ((try simp only [oo, reduceCtorEq] at *) <;> omega)
                                            omega
      subst hk'
      rw [eS, ← hl]
      exact deep_steps hc rfl
  have h5 : P.kind n ≠ 5 := by ((try simp only [oo, reduceCtorEq] at *) <;> omega)
  rw [if_neg (by omega)] at eS
  (refine ifK_split (fun h6 => ?_) (fun h6 => ?_) <;> (rw [h6]; ((conv => whnf); repeat (refine And.intro rfl ?_; (conv => whnf)))))
  · have h6 : P.kind n = 6 := by ((try simp only [oo, reduceCtorEq] at *) <;> omega)
    rw [if_pos h6] at eS
    refine ⟨(by unfold sliceAppend; simp only [ll]; omega), ?_⟩
    ((conv => whnf); repeat (refine And.intro rfl ?_; (conv => whnf)))
    rw [eS]
    exact deep_steps (l := [((n : Int), -1, P.allO n)]) rfl rfl
  rw [if_neg (by ((try simp only [oo, reduceCtorEq] at *) <;> omega))] at eS
  (refine ifK_split (fun h7 => ?_) (fun h7 => ?_) <;> (rw [h7]; ((conv => whnf); repeat (refine And.intro rfl ?_; (conv => whnf)))))
  · have h7 : P.kind n = 7 := by ((try simp only [oo, reduceCtorEq] at *) <;> omega)
    rw [if_pos h7] at eS
    have b3 := ProcD.orO_le hok h7
    have b4 := (ones_le (Nat.le_refl (P.outL n).length)).1
    rw [ea] at b4
    refine pwp_ghostB (leB_nil 10 3 (by simp) rfl) ?_
    refine pwp_for [1, 9] (fun ((k, c, l) : Nat × Nat × List StepD) => [(10, .own 1 c 0 c), (16, .sc (.int .i64 ((k : Int) + 1)))]) (fun (k, c, l) => [(1, .vec true c 3 (srows l))]) (fun (k, c, l) => k ≤ (P.allO n).toNat ∧ c = l.length ∧ c = k ∧ l = orS n k) (fun (k, c, l) => (P.allO n).toNat - k) (0, 0, []) ?_
    ((conv => whnf); repeat (refine And.intro rfl ?_; (conv => whnf)))
    refine ⟨⟨by omega, rfl, rfl, rfl⟩, by (repeat' (first | exact trivial | refine And.intro rfl ?_)), rfl, ?_⟩
    rintro ⟨k, c, l⟩ ⟨hk, hc, hck, hl⟩
    ((conv => whnf); repeat (refine And.intro rfl ?_; (conv => whnf)))
    (apply red_sound; focus (repeat' (first | exact Red.skip | exact Red.ret | exact RedO.nil | exact RedD.nil | exact Red.exit _ | exact Red.loop _ | exact Red.stop _ | apply Red.ops | apply Red.draw | apply Red.seq | apply Red.cond | apply Red.block | apply RedO.cons | apply RedD.cons | exact (0 : Nat))))
    ((conv => whnf); repeat (refine And.intro rfl ?_; (conv => whnf)))
    (refine ifK_split (fun h1 => ?_) (fun h1 => ?_) <;> (rw [h1]; ((conv => whnf); repeat (refine And.intro rfl ?_; (conv => whnf)))))
    · have hk' : k < (P.allO n).toNat := by ((try simp only [oo, reduceCtorEq] at *) <;> omega)
      refine ⟨(by unfold sliceAppend; simp only [ll]; omega), ?_⟩
      ((conv => whnf); repeat (refine And.intro rfl ?_; (conv => whnf)))
      (refine .inl ⟨by (unfold InR; rw [IntKind.wrap_i64]; omega), ?_⟩; ((conv => whnf); repeat (refine And.intro rfl ?_; (conv => whnf))))
      refine ⟨(k + 1, c + 1, l ++ [((n : Int), -1, (k : Int) + 1)]), ⟨by omega, by simp [hc], by omega, by rw [hl]; rfl⟩, by dsimp only; omega, ?_⟩
      (refine leB_close 2 (by simp) rfl ?_ ?_ <;> (repeat' (first | exact trivial | exact rfl | exact DeepM.refl _ | exact DeepML.refl _ | exact DeepMLL.refl _ | refine And.intro ?_ ?_ | (simp [Under, UnderL, UnderLL, -List.map_take, -List.map_drop]; done))))
      exact deepMLL_eq (srow_snoc hc)
    · have hk' : k = (P.allO n).toNat := by have : ¬ k < (P.allO n).toNat := by ((try simp only [oo, reduceCtorEq] at *) <;> omega)
                                            omega
      subst hk'
      rw [eS, ← hl]
      exact deep_steps hc rfl
  · rw [if_neg (by ((try simp only [oo, reduceCtorEq] at *) <;> omega))] at eS
    rw [eS]
    exact .none _
end Go.Proofs.Ytikdngjdhncioaa
