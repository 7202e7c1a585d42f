/-
  Tokens: the program's Fire, over deep values. No statement is proved here.
-/
import Derived.Test.YtikdngjdhncioaaGa6
namespace Go.Proofs.Ytikdngjdhncioaa
open Go.RowKit
set_option linter.unusedSimpArgs false
set_option linter.unusedVariables false
theorem clr_all {zs : List (List D)} {n : Nat} {y : List D} (h : zs.length = n) : zs.take 0 ++ List.replicate (n - 0) y ++ zs.drop n = List.replicate n y := by
  rw [List.drop_eq_nil_of_le (by omega)]
  simp
theorem fdiv_small {x : Int} (h : 0 ≤ x) (h' : x ≤ 1073741824) (k : Nat) : 0 ≤ x.fdiv (2 ^ k) ∧ x.fdiv (2 ^ k) < 9223372036854775808 := by
  have hp : (0 : Int) < 2 ^ k := Int.pow_pos (by decide)
  rw [Int.fdiv_eq_ediv_of_nonneg _ (by omega)]
  have h1 := Int.ediv_nonneg h (by omega : (0 : Int) ≤ 2 ^ k)
  have h2 := Int.ediv_le_self (2 ^ k) h
  omega
def c84_1 : PC := .seq (.ops [⟨(some 39), .bin .lss (.tmp 38) (.tmp 37), none, 0⟩] false) (.seq (.cond (.tmp 39) (.skip) (.exit 0)) (.seq (.block 1 (.seq (.ops [⟨(some 40), .iaddr 1 (.tmp 36) (.tmp 38), none, 0⟩,
    ⟨(some 41), .load1 (.tmp 40), none, 0⟩,
    ⟨(some 12), .move (.tmp 41), none, 0⟩] false) (.seq (.ops [⟨(some 42), .faddr 1 (.tmp 5), none, 0⟩,
    ⟨(some 43), .load1 (.tmp 42), none, 0⟩,
    ⟨(some 44), .move (.tmp 12), none, 0⟩,
    ⟨(some 45), .bin .eql (.tmp 43) (.tmp 44), none, 0⟩,
    ⟨(some 46), .move (.tmp 45), none, 0⟩,
    ⟨(some 47), .faddr 1 (.tmp 5), (some (46, false)), 0⟩,
    ⟨(some 48), .load1 (.tmp 47), (some (46, false)), 0⟩,
    ⟨(some 49), .bin .lss (.tmp 48) (.const (.int .i64 0)), (some (46, false)), 0⟩,
    ⟨(some 50), .move (.tmp 49), (some (46, false)), 0⟩,
    ⟨(some 51), .move (.tmp 8), (some (50, true)), 0⟩,
    ⟨(some 52), .move (.tmp 12), (some (50, true)), 0⟩,
    ⟨(some 53), .iaddr 1 (.tmp 51) (.tmp 52), (some (50, true)), 0⟩,
    ⟨(some 54), .load1 (.tmp 53), (some (50, true)), 0⟩,
    ⟨(some 55), .bin .gtr (.tmp 54) (.const (.int .i64 0)), (some (50, true)), 0⟩,
    ⟨(some 56), .pick (.tmp 50) (.tmp 55) (.const (.bool false)), (some (46, false)), 0⟩,
    ⟨(some 57), .pick (.tmp 46) (.const (.bool true)) (.tmp 56), none, 0⟩] false) (.cond (.tmp 57) (.ops [⟨(some 58), .move (.tmp 8), none, 0⟩,
    ⟨(some 59), .move (.tmp 12), none, 0⟩,
    ⟨(some 60), .iaddr 1 (.tmp 58) (.tmp 59), none, 0⟩,
    ⟨(some 61), .load1 (.tmp 60), none, 0⟩,
    ⟨(some 62), .bin .sub (.tmp 61) (.const (.int .i64 1)), none, 0⟩,
    ⟨(some 63), .iaddr 1 (.tmp 58) (.tmp 59), none, 0⟩,
    ⟨none, .store 1 (.tmp 63) (.tmp 62), none, 0⟩] false) (.skip))))) (.ops [⟨(some 64), .bin .add (.tmp 38) (.const (.int .i64 1)), none, 0⟩,
    ⟨(some 38), .move (.tmp 64), none, 0⟩] false)))
def c84_2 : PC := .seq (.ops [⟨(some 75), .bin .lss (.tmp 74) (.tmp 73), none, 0⟩] false) (.seq (.cond (.tmp 75) (.skip) (.exit 2)) (.seq (.block 3 (.seq (.ops [⟨(some 76), .move (.tmp 74), none, 0⟩,
    ⟨(some 77), .iaddr 1 (.tmp 72) (.tmp 74), none, 0⟩,
    ⟨(some 78), .load1 (.tmp 77), none, 0⟩,
    ⟨(some 15), .move (.tmp 76), none, 0⟩,
    ⟨(some 16), .move (.tmp 78), none, 0⟩] false) (.seq (.ops [⟨(some 79), .faddr 2 (.tmp 5), none, 0⟩,
    ⟨(some 80), .load1 (.tmp 79), none, 0⟩,
    ⟨(some 81), .move (.tmp 15), none, 0⟩,
    ⟨(some 82), .bin .shr (.tmp 80) (.tmp 81), none, 0⟩,
    ⟨(some 83), .bin .and (.tmp 82) (.const (.int .i64 1)), none, 0⟩,
    ⟨(some 84), .bin .eql (.tmp 83) (.const (.int .i64 1)), none, 0⟩] false) (.cond (.tmp 84) (.seq (.ops [⟨(some 85), .move (.tmp 8), none, 0⟩,
    ⟨(some 86), .move (.tmp 16), none, 0⟩,
    ⟨(some 87), .iaddr 1 (.tmp 85) (.tmp 86), none, 0⟩,
    ⟨(some 88), .load1 (.tmp 87), none, 0⟩,
    ⟨(some 89), .bin .add (.tmp 88) (.const (.int .i64 1)), none, 0⟩,
    ⟨(some 90), .iaddr 1 (.tmp 85) (.tmp 86), none, 0⟩,
    ⟨none, .store 1 (.tmp 90) (.tmp 89), none, 0⟩] false) (.seq (.ops [⟨(some 91), .move (.tmp 8), none, 0⟩,
    ⟨(some 92), .move (.tmp 16), none, 0⟩,
    ⟨(some 93), .iaddr 1 (.tmp 91) (.tmp 92), none, 0⟩,
    ⟨(some 94), .load1 (.tmp 93), none, 0⟩,
    ⟨(some 95), .bin .gtr (.tmp 94) (.const (.int .i64 9)), none, 0⟩] false) (.cond (.tmp 95) (.seq (.ops [⟨(some 6), .move (.const (.slice none 0 0)), none, 0⟩,
    ⟨(some 7), .move (.const (.int .i64 7)), none, 0⟩] false) (.ret)) (.skip)))) (.skip))))) (.ops [⟨(some 96), .bin .add (.tmp 74) (.const (.int .i64 1)), none, 0⟩,
    ⟨(some 74), .move (.tmp 96), none, 0⟩] false)))
def c84 : PC := .seq (.ops [⟨(some 3), .box (.tmp 0), none, 0⟩,
    ⟨(some 5), .box (.tmp 2), none, 0⟩,
    ⟨(some 6), .move (.const (.slice none 0 0)), none, 0⟩,
    ⟨(some 7), .move (.const (.int .i64 0)), none, 0⟩] false) (.seq (.ops [⟨(some 17), .move (.tmp 1), none, 0⟩,
    ⟨(some 18), .call 97 [(.tmp 17)], none, 0⟩,
    ⟨(some 8), .move (.tmp 18), none, 0⟩] false) (.seq (.seq (.ops [⟨(some 19), .faddr 0 (.tmp 3), none, 0⟩,
    ⟨(some 20), .load1 (.tmp 19), none, 0⟩,
    ⟨(some 21), .faddr 0 (.tmp 5), none, 0⟩,
    ⟨(some 22), .load1 (.tmp 21), none, 0⟩,
    ⟨(some 23), .iaddr 2 (.tmp 20) (.tmp 22), none, 0⟩,
    ⟨(some 24), .faddr 1 (.tmp 23), none, 0⟩,
    ⟨(some 25), .load1 (.tmp 24), none, 0⟩,
    ⟨(some 26), .bin .eql (.tmp 25) (.const (.int .i64 3)), none, 0⟩] false) (.cond (.tmp 26) (.seq (.ops [⟨(some 27), .move (.tmp 8), none, 0⟩,
    ⟨none, .clr ((.int .i64 0)) (.tmp 27), none, 0⟩] false) (.seq (.ops [⟨(some 28), .move (.tmp 8), none, 0⟩,
    ⟨(some 6), .move (.tmp 28), none, 0⟩,
    ⟨(some 7), .move (.const (.int .i64 0)), none, 0⟩] false) (.ret))) (.skip))) (.seq (.ops [⟨(some 30), .loadA 2 (.tmp 3), none, 0⟩,
    ⟨(some 31), .faddr 0 (.tmp 5), none, 0⟩,
    ⟨(some 32), .load1 (.tmp 31), none, 0⟩,
    ⟨(some 33), .call 79 [(.tmp 30), (.tmp 32)], none, 0⟩,
    ⟨(some 29), .move (.tmp 33), none, 0⟩,
    ⟨(some 34), .ext 0 (.tmp 29), none, 0⟩,
    ⟨(some 35), .ext 1 (.tmp 29), none, 0⟩,
    ⟨(some 9), .move (.tmp 34), none, 0⟩,
    ⟨(some 10), .move (.tmp 35), none, 0⟩] false) (.seq (.seq (.ops [⟨(some 36), .move (.tmp 9), none, 0⟩,
    ⟨(some 37), .len (.tmp 36), none, 0⟩,
    ⟨(some 38), .move (.const (.int .i64 0)), none, 0⟩] false) (.block 0 (.loop c84_1))) (.seq (.ops [⟨(some 66), .loadA 2 (.tmp 3), none, 0⟩,
    ⟨(some 67), .faddr 0 (.tmp 5), none, 0⟩,
    ⟨(some 68), .load1 (.tmp 67), none, 0⟩,
    ⟨(some 69), .call 80 [(.tmp 66), (.tmp 68)], none, 0⟩,
    ⟨(some 65), .move (.tmp 69), none, 0⟩,
    ⟨(some 70), .ext 0 (.tmp 65), none, 0⟩,
    ⟨(some 71), .ext 1 (.tmp 65), none, 0⟩,
    ⟨(some 13), .move (.tmp 70), none, 0⟩,
    ⟨(some 14), .move (.tmp 71), none, 0⟩] false) (.seq (.seq (.ops [⟨(some 72), .move (.tmp 13), none, 0⟩,
    ⟨(some 73), .len (.tmp 72), none, 0⟩,
    ⟨(some 74), .move (.const (.int .i64 0)), none, 0⟩] false) (.block 2 (.loop c84_2))) (.seq (.ops [⟨(some 97), .move (.tmp 8), none, 0⟩,
    ⟨(some 6), .move (.tmp 97), none, 0⟩,
    ⟨(some 7), .move (.const (.int .i64 0)), none, 0⟩] false) (.ret))))))))
set_option maxRecDepth 100000 in
theorem c84_ok : FunOK Try.prog 84 98 [.tmp 6, .tmp 7] c84 := ⟨⟨Try.f84, Try.func84, rfl, by kernel_rfl, rfl, by kernel_rfl⟩⟩
set_option maxRecDepth 100000 in
theorem game_fire (P : ProcD) (hP : P.Fits) (h0 : P.chk = 0) (M : List Int) (hM : P.Mark M) (s : StepD) (hs : P.StepOK s) :
    PCall Try.prog 84 [dproc P, dints M, .agg (srow s)] (.tup [dints (P.fireL M s), .sc (.int .i64 (P.fireE M s))]) := by
  obtain ⟨hs1, hs2⟩ := chk_small h0
  have hn := hs.node
  obtain ⟨hE, hI, hO⟩ := listE_ok h0 hn.1 hn.2
  have hi := proc_Ins P hP s.1
  have ho := proc_Outs P hP s.1
  rw [hI, hE] at hi
  rw [hO, hE] at ho
  have l1 := P.inL_len s.1
  have l2 := P.outL_len s.1
  have lM := hM.len
  have hout := hs.out
  have eE : P.fireE M s = if P.kind s.1.toNat = 3 then 0 else if ∃ f, f < P.flows.length ∧ 9 < P.finI M s f then 7 else 0 := by unfold ProcD.fireE; rfl
  have eL : P.fireL M s = if P.kind s.1.toNat = 3 then gl P.flows.length fun _ => 0 else if P.fireE M s = 0 then gl P.flows.length (P.finI M s) else [] := rfl
  refine pcall_intro c84_ok (by simp) (by simp [PureL, Pure, pure_dproc, pure_dints, pure_srow]) ?_ (by simp [Pure, PureL, pure_dints])
  (apply red_sound; focus (repeat' (first | exact Red.skip | exact Red.ret | exact RedO.nil | exact RedD.nil | exact Red.exit _ | exact Red.loop _ | exact Red.stop _ | apply Red.ops | apply Red.draw | apply Red.seq | apply Red.cond | apply Red.block | apply RedO.cons | apply RedD.cons | exact (0 : Nat))))
  ((conv => whnf); repeat (refine And.intro rfl ?_; (conv => whnf)))
  (refine .inr (.inr (.inr (.inr (.inl ⟨_, _, _, (acallAt_new (cloneO_int M (by omega)) (by simp [PureL, Pure]) [2] rfl rfl (by simp [AObj.ren, renL, D.ren]; rfl)), ?_⟩)))); ((conv => whnf); repeat (refine And.intro rfl ?_; (conv => whnf))))
  rw [lM]
  refine ⟨by omega, _, node_at P (k := s.1.toNat) (by omega) (by omega), ?_⟩
  ((conv => whnf); repeat (refine And.intro rfl ?_; (conv => whnf)))
  (refine ifK_split (fun h1 => ?_) (fun h1 => ?_) <;> (rw [h1]; ((conv => whnf); repeat (refine And.intro rfl ?_; (conv => whnf)))))
  · have h1 : P.kind s.1.toNat = 3 := by ((try simp only [oo, reduceCtorEq] at *) <;> omega)
    rw [if_pos h1] at eE eL
    rw [eE, eL, clr_all (by rw [List.length_map]; exact lM), gl_rep]
    exact .tup _ _ (.cons _ _ _ _ (deep_gl rfl) (.cons _ _ _ _ (.refl _) .nil))
  have h1 : P.kind s.1.toNat ≠ 3 := by ((try simp only [oo, reduceCtorEq] at *) <;> omega)
  rw [if_neg h1] at eE eL
  (refine .inl ⟨_, hi, ?_⟩; ((conv => whnf); repeat (refine And.intro rfl ?_; (conv => whnf))))
  rw [List.length_map]
  have eM : (M.map fun n => [D.sc (.int .i64 n)]) = i64s (gl P.flows.length (val M)) := by rw [← lM, gl_val]; rfl
  refine pwp_for [3, 5, 8, 36, 37] (fun ((a, g) : Nat × (Nat → Int)) => [(38, .sc (.int .i64 a))]) (fun (a, g) => [(2, .vec true 1 1 (i64s (gl P.flows.length g)))]) (fun (a, g) => a ≤ (P.inL s.1).length ∧ P.Away M s g a) (fun (a, g) => (P.inL s.1).length - a) (0, val M) ?_
  ((conv => whnf); repeat (refine And.intro rfl ?_; (conv => whnf)))
  refine ⟨⟨by omega, ProcD.Away.begin⟩, by (repeat' (first | exact trivial | refine And.intro rfl ?_)), by rw [eM]; rfl, ?_⟩
  rintro ⟨a, g⟩ ⟨ha, hA⟩
  ((conv => whnf); repeat (refine And.intro rfl ?_; (conv => whnf)))
  (apply red_sound; focus (repeat' (first | exact Red.skip | exact Red.ret | exact RedO.nil | exact RedD.nil | exact Red.exit _ | exact Red.loop _ | exact Red.stop _ | apply Red.ops | apply Red.draw | apply Red.seq | apply Red.cond | apply Red.block | apply RedO.cons | apply RedD.cons | exact (0 : Nat))))
  ((conv => whnf); repeat (refine And.intro rfl ?_; (conv => whnf)))
  (refine ifK_split (fun h2 => ?_) (fun h2 => ?_) <;> (rw [h2]; ((conv => whnf); repeat (refine And.intro rfl ?_; (conv => whnf)))))
  · have ha' : a < (P.inL s.1).length := by ((try simp only [oo, reduceCtorEq] at *) <;> omega)
    have hin := ProcD.inAt_ok (P := P) (n := s.1) ha'
    obtain ⟨X, hX⟩ : ∃ X : Nat, P.inAt s.1 a = X := ⟨_, (Int.toNat_of_nonneg hin.1).symm⟩
    have hold := hA.old ha' hX
    have v1 := hM.pos X
    have v2 := hM.top X
    refine ⟨by omega, _, intsD_at (k := a) (by omega) ha', ?_⟩
    ((conv => whnf); repeat (refine And.intro rfl ?_; (conv => whnf)))
    rw [show (P.inL s.1).getD a 0 = P.inAt s.1 a from rfl, hX]
    rw [hX, Int.toNat_natCast] at hin
    have eD : P.decB M s X = (s.2.1 == (X : Int) || decide (s.2.1 < 0) && decide (0 < val M X)) := by unfold ProcD.decB; rw [decide_eq_true hin.2.2, Bool.true_and]
    have eBase : P.baseI M s X = val M X - if P.decB M s X = true then 1 else 0 := rfl
    cases h3 : (s.2.1 == (X : Int))
    · ((conv => whnf); repeat (refine And.intro rfl ?_; (conv => whnf)))
      rw [h3, Bool.false_or] at eD
      cases h4 : decide (s.2.1 < 0)
      · rw [h4, Bool.false_and] at eD
        rw [if_neg (by rw [eD]; decide), Int.sub_zero] at eBase
        ((conv => whnf); repeat (refine And.intro rfl ?_; (conv => whnf)))
        (refine .inl ⟨by (unfold InR; rw [IntKind.wrap_i64]; omega), ?_⟩; ((conv => whnf); repeat (refine And.intro rfl ?_; (conv => whnf))))
        refine ⟨(a + 1, g), ⟨by omega, hA.next ha' hX (by rw [eBase, hold]) fun f hf => rfl⟩, by dsimp only; omega, ?_⟩
        exact leB_envH (by (repeat' (first | exact trivial | refine And.intro rfl ?_))) rfl
      · ((conv => whnf); repeat (refine And.intro rfl ?_; (conv => whnf)))
        (refine ⟨by omega, (by first | omega | (simp; done) | (simp; omega) | (simp only [ll]; omega)), ?_⟩; ((conv => whnf); repeat (refine And.intro rfl ?_; (conv => whnf))))
        refine ⟨_, gl_atN X (by omega) (by omega), ?_⟩
        ((conv => whnf); repeat (refine And.intro rfl ?_; (conv => whnf)))
        rw [h4, Bool.true_and] at eD
        rw [hold]
        cases h5 : decide (val M X > 0)
        · have eD : P.decB M s X = false := by rw [eD]; exact h5
          rw [if_neg (by rw [eD]; decide), Int.sub_zero] at eBase
          ((conv => whnf); repeat (refine And.intro rfl ?_; (conv => whnf)))
          (refine .inl ⟨by (unfold InR; rw [IntKind.wrap_i64]; omega), ?_⟩; ((conv => whnf); repeat (refine And.intro rfl ?_; (conv => whnf))))
          refine ⟨(a + 1, g), ⟨by omega, hA.next ha' hX (by rw [eBase, hold]) fun f hf => rfl⟩, by dsimp only; omega, ?_⟩
          exact leB_envH (by (repeat' (first | exact trivial | refine And.intro rfl ?_))) rfl
        · have eD : P.decB M s X = true := by rw [eD]; exact h5
          rw [if_pos eD] at eBase
          ((conv => whnf); repeat (refine And.intro rfl ?_; (conv => whnf)))
          (refine ⟨by omega, (by first | omega | (simp; done) | (simp; omega) | (simp only [ll]; omega)), ?_⟩; ((conv => whnf); repeat (refine And.intro rfl ?_; (conv => whnf))))
          refine ⟨_, gl_atN X (by omega) (by omega), ?_⟩
          ((conv => whnf); repeat (refine And.intro rfl ?_; (conv => whnf)))
          (refine .inl ⟨by (unfold InR; rw [IntKind.wrap_i64]; omega), ?_⟩; ((conv => whnf); repeat (refine And.intro rfl ?_; (conv => whnf))))
          (refine ⟨by omega, (by first | omega | (simp; done) | (simp; omega) | (simp only [ll]; omega)), ?_⟩; ((conv => whnf); repeat (refine And.intro rfl ?_; (conv => whnf))))
          refine ⟨_, gl_atN X (by omega) (by omega), ?_⟩
          ((conv => whnf); repeat (refine And.intro rfl ?_; (conv => whnf)))
          (refine .inl ⟨by (unfold InR; rw [IntKind.wrap_i64]; omega), ?_⟩; ((conv => whnf); repeat (refine And.intro rfl ?_; (conv => whnf))))
          refine ⟨(a + 1, putA g X (g X - 1)), ⟨by omega, hA.next ha' hX (by rw [putA_self, eBase, hold]) fun f hf => putA_ne hf⟩, by dsimp only; omega, ?_⟩
          exact leB_envH (by (repeat' (first | exact trivial | refine And.intro rfl ?_))) (by rw [gl_set (k := X) (by omega)]; rfl)
    · rw [h3, Bool.true_or] at eD
      rw [if_pos eD] at eBase
      ((conv => whnf); repeat (refine And.intro rfl ?_; (conv => whnf)))
      (refine ⟨by omega, (by first | omega | (simp; done) | (simp; omega) | (simp only [ll]; omega)), ?_⟩; ((conv => whnf); repeat (refine And.intro rfl ?_; (conv => whnf))))
      refine ⟨_, gl_atN X (by omega) (by omega), ?_⟩
      ((conv => whnf); repeat (refine And.intro rfl ?_; (conv => whnf)))
      (refine .inl ⟨by (unfold InR; rw [IntKind.wrap_i64]; omega), ?_⟩; ((conv => whnf); repeat (refine And.intro rfl ?_; (conv => whnf))))
      (refine ⟨by omega, (by first | omega | (simp; done) | (simp; omega) | (simp only [ll]; omega)), ?_⟩; ((conv => whnf); repeat (refine And.intro rfl ?_; (conv => whnf))))
      refine ⟨_, gl_atN X (by omega) (by omega), ?_⟩
      ((conv => whnf); repeat (refine And.intro rfl ?_; (conv => whnf)))
      (refine .inl ⟨by (unfold InR; rw [IntKind.wrap_i64]; omega), ?_⟩; ((conv => whnf); repeat (refine And.intro rfl ?_; (conv => whnf))))
      refine ⟨(a + 1, putA g X (g X - 1)), ⟨by omega, hA.next ha' hX (by rw [putA_self, eBase, hold]) fun f hf => putA_ne hf⟩, by dsimp only; omega, ?_⟩
      exact leB_envH (by (repeat' (first | exact trivial | refine And.intro rfl ?_))) (by rw [gl_set (k := X) (by omega)]; rfl)
  have ha' : a = (P.inL s.1).length := by have : ¬ a < (P.inL s.1).length := by ((try simp only [oo, reduceCtorEq] at *) <;> omega)
                                          omega
  subst ha'
  (refine .inl ⟨_, ho, ?_⟩; ((conv => whnf); repeat (refine And.intro rfl ?_; (conv => whnf))))
  rw [List.length_map]
  refine pwp_for [5, 8, 72, 73] (fun ((k, g) : Nat × (Nat → Int)) => [(74, .sc (.int .i64 k))]) (fun (k, g) => [(2, .vec true 1 1 (i64s (gl P.flows.length g)))]) (fun (k, g) => k ≤ (P.outL s.1).length ∧ ∀ f, f < P.flows.length → g f = P.baseI M s f + P.incs s f k ∧ g f ≤ 9) (fun (k, g) => (P.outL s.1).length - k) (0, g) ?_
  ((conv => whnf); repeat (refine And.intro rfl ?_; (conv => whnf)))
  refine ⟨⟨by omega, fun f hf => ?_⟩, by (repeat' (first | exact trivial | refine And.intro rfl ?_)), rfl, ?_⟩
  · have b1 := ProcD.baseI_ok hM s f
    rw [hA.fin hf]
    exact ⟨by simp [ProcD.incs], b1.2⟩
  clear hA h2
  rintro ⟨k, g⟩ ⟨hk, hg⟩
  ((conv => whnf); repeat (refine And.intro rfl ?_; (conv => whnf)))
  (apply red_sound; focus (repeat' (first | exact Red.skip | exact Red.ret | exact RedO.nil | exact RedD.nil | exact Red.exit _ | exact Red.loop _ | exact Red.stop _ | apply Red.ops | apply Red.draw | apply Red.seq | apply Red.cond | apply Red.block | apply RedO.cons | apply RedD.cons | exact (0 : Nat))))
  ((conv => whnf); repeat (refine And.intro rfl ?_; (conv => whnf)))
  (refine ifK_split (fun h2 => ?_) (fun h2 => ?_) <;> (rw [h2]; ((conv => whnf); repeat (refine And.intro rfl ?_; (conv => whnf)))))
  · have hk' : k < (P.outL s.1).length := by ((try simp only [oo, reduceCtorEq] at *) <;> omega)
    have hin := ProcD.outAt_ok (P := P) (n := s.1) hk'
    obtain ⟨X, hX⟩ : ∃ X : Nat, P.outAt s.1 k = X := ⟨_, (Int.toNat_of_nonneg hin.1).symm⟩
    refine ⟨by omega, _, intsD_at (k := k) (by omega) hk', ?_⟩
    ((conv => whnf); repeat (refine And.intro rfl ?_; (conv => whnf)))
    rw [show (P.outL s.1).getD k 0 = P.outAt s.1 k from rfl, hX]
    rw [hX, Int.toNat_natCast] at hin
    have fd := fdiv_small hout.1 hout.2 (min (k : Int).toNat IntKind.i64.bits)
    refine ⟨by omega, ?_⟩
    ((conv => whnf); repeat (refine And.intro rfl ?_; (conv => whnf)))
    have eb : (bitsV .and .i64 (s.2.2.fdiv (2 ^ min (k : Int).toNat IntKind.i64.bits)) 1 == 1) = bitB s.2.2 k := by rw [and_one_i fd.1 fd.2]; rfl
    rw [eb]
    obtain ⟨g1, g2⟩ := hg X (by omega)
    have b1 := ProcD.baseI_ok hM s X
    have b2 := ProcD.incs_ok P s X k
    (refine ifK_split (fun h3 => ?_) (fun h3 => ?_) <;> (rw [h3]; ((conv => whnf); repeat (refine And.intro rfl ?_; (conv => whnf)))))
    · have hh := ProcD.incs_hit hX h3
      (refine ⟨by omega, (by first | omega | (simp; done) | (simp; omega) | (simp only [ll]; omega)), ?_⟩; ((conv => whnf); repeat (refine And.intro rfl ?_; (conv => whnf))))
      refine ⟨_, gl_atN X (by omega) (by omega), ?_⟩
      ((conv => whnf); repeat (refine And.intro rfl ?_; (conv => whnf)))
      (refine .inl ⟨by (unfold InR; rw [IntKind.wrap_i64]; omega), ?_⟩; ((conv => whnf); repeat (refine And.intro rfl ?_; (conv => whnf))))
      (refine ⟨by omega, (by first | omega | (simp; done) | (simp; omega) | (simp only [ll]; omega)), ?_⟩; ((conv => whnf); repeat (refine And.intro rfl ?_; (conv => whnf))))
      refine ⟨_, gl_atN X (by omega) (by omega), ?_⟩
      ((conv => whnf); repeat (refine And.intro rfl ?_; (conv => whnf)))
      rw [gl_set (k := X) (by omega)]
      (refine ⟨by omega, (by first | omega | (simp; done) | (simp; omega) | (simp only [ll]; omega)), ?_⟩; ((conv => whnf); repeat (refine And.intro rfl ?_; (conv => whnf))))
      refine ⟨_, gl_atN X (by omega) (by omega), ?_⟩
      ((conv => whnf); repeat (refine And.intro rfl ?_; (conv => whnf)))
      rw [putA_self]
      (refine ifK_split (fun h4 => ?_) (fun h4 => ?_) <;> (rw [h4]; ((conv => whnf); repeat (refine And.intro rfl ?_; (conv => whnf)))))
      · have h4 : 9 < g X + 1 := by ((try simp only [oo, reduceCtorEq] at *) <;> omega)
        have hm := ProcD.incs_mono P s X (j := k + 1) (k := (P.outL s.1).length) (by omega)
        have e7 : P.fireE M s = 7 := by rw [eE, if_pos ⟨X, by omega, by unfold ProcD.finI; omega⟩]
        rw [e7] at eL
        rw [e7, eL, if_neg (by decide)]
        exact .tup _ _ (.cons _ _ _ _ (.none _) (.cons _ _ _ _ (.refl _) .nil))
      · have h4 : g X + 1 ≤ 9 := by ((try simp only [oo, reduceCtorEq] at *) <;> omega)
        (refine .inl ⟨by (unfold InR; rw [IntKind.wrap_i64]; omega), ?_⟩; ((conv => whnf); repeat (refine And.intro rfl ?_; (conv => whnf))))
        refine ⟨(k + 1, putA g X (g X + 1)), ⟨by omega, fun f hf => ?_⟩, by dsimp only; omega, leB_envH (by (repeat' (first | exact trivial | refine And.intro rfl ?_))) rfl⟩
        by_cases e : f = X
        · subst e
          rw [putA_self, hh]
          omega
        · rw [putA_ne e, ProcD.incs_miss (.inl (by rw [hX]; omega))]
          exact hg f hf
    · (refine .inl ⟨by (unfold InR; rw [IntKind.wrap_i64]; omega), ?_⟩; ((conv => whnf); repeat (refine And.intro rfl ?_; (conv => whnf))))
      refine ⟨(k + 1, g), ⟨by omega, fun f hf => ?_⟩, by dsimp only; omega, leB_envH (by (repeat' (first | exact trivial | refine And.intro rfl ?_))) rfl⟩
      rw [ProcD.incs_miss (.inr h3)]
      exact hg f hf
  · have hk' : k = (P.outL s.1).length := by have : ¬ k < (P.outL s.1).length := by ((try simp only [oo, reduceCtorEq] at *) <;> omega)
                                             omega
    subst hk'
    have e0 : P.fireE M s = 0 := by
      rw [eE, if_neg]
      rintro ⟨f, hf, h9⟩
      have := hg f hf
      unfold ProcD.finI at h9
      omega
    rw [e0, if_pos rfl] at eL
    have e : gl P.flows.length (P.finI M s) = gl P.flows.length g := gl_congr fun f hf => (hg f hf).1.symm
    rw [e0, eL, e]
    exact .tup _ _ (.cons _ _ _ _ (deep_gl rfl) (.cons _ _ _ _ (.refl _) .nil))
open Classical in
noncomputable def ProcD.firE (P : ProcD) (M : List Int) (k : Int) : Int :=
  if P.markE M ≠ 0 then P.markE M else if k < 0 ∨ (P.stepsL.length : Int) ≤ k then 1
  else if P.mayB M (P.stepsL.getD k.toNat (0, 0, 0)) = true then P.fireE M (P.stepsL.getD k.toNat (0, 0, 0)) else 9
noncomputable def ProcD.firL (P : ProcD) (M : List Int) (k : Int) : List Int := if P.firE M k = 0 then P.fireL M (P.stepsL.getD k.toNat (0, 0, 0)) else []
theorem fireL_bad {P : ProcD} {M : List Int} {s : StepD} (h : P.fireE M s ≠ 0) : P.fireL M s = [] := by
  unfold ProcD.fireL
  split
  · rename_i q
    exfalso
    apply h
    unfold ProcD.fireE
    rw [if_pos q]
  · first | rfl | rw [if_neg h]
def c68 : PC := .seq (.ops [⟨(some 3), .box (.tmp 0), none, 0⟩,
    ⟨(some 6), .move (.const (.slice none 0 0)), none, 0⟩,
    ⟨(some 7), .move (.const (.int .i64 0)), none, 0⟩] false) (.seq (.ops [⟨(some 11), .loadA 2 (.tmp 3), none, 0⟩,
    ⟨(some 12), .move (.tmp 1), none, 0⟩,
    ⟨(some 13), .call 82 [(.tmp 11), (.tmp 12)], none, 0⟩,
    ⟨(some 10), .move (.tmp 13), none, 0⟩,
    ⟨(some 14), .ext 0 (.tmp 10), none, 0⟩,
    ⟨(some 15), .ext 1 (.tmp 10), none, 0⟩,
    ⟨(some 8), .move (.tmp 14), none, 0⟩,
    ⟨(some 9), .move (.tmp 15), none, 0⟩] false) (.seq (.block 0 (.seq (.ops [⟨(some 17), .move (.tmp 9), none, 0⟩,
    ⟨(some 18), .bin .neq (.tmp 17) (.const (.int .i64 0)), none, 0⟩,
    ⟨(some 16), .move (.tmp 18), none, 0⟩] false) (.cond (.tmp 16) (.seq (.ops [⟨(some 19), .move (.tmp 9), none, 0⟩,
    ⟨(some 6), .move (.const (.slice none 0 0)), none, 0⟩,
    ⟨(some 7), .move (.tmp 19), none, 0⟩] false) (.ret)) (.seq (.ops [⟨(some 21), .move (.tmp 2), none, 0⟩,
    ⟨(some 22), .bin .lss (.tmp 21) (.const (.int .i64 0)), none, 0⟩,
    ⟨(some 23), .move (.tmp 22), none, 0⟩,
    ⟨(some 24), .move (.tmp 2), (some (23, false)), 0⟩,
    ⟨(some 25), .move (.tmp 8), (some (23, false)), 0⟩,
    ⟨(some 26), .len (.tmp 25), (some (23, false)), 0⟩,
    ⟨(some 27), .bin .geq (.tmp 24) (.tmp 26), (some (23, false)), 0⟩,
    ⟨(some 28), .pick (.tmp 23) (.const (.bool true)) (.tmp 27), none, 0⟩,
    ⟨(some 20), .move (.tmp 28), none, 0⟩] false) (.cond (.tmp 20) (.seq (.ops [⟨(some 6), .move (.const (.slice none 0 0)), none, 0⟩,
    ⟨(some 7), .move (.const (.int .i64 1)), none, 0⟩] false) (.ret)) (.seq (.ops [⟨(some 30), .loadA 2 (.tmp 3), none, 0⟩,
    ⟨(some 31), .move (.tmp 1), none, 0⟩,
    ⟨(some 32), .move (.tmp 8), none, 0⟩,
    ⟨(some 33), .move (.tmp 2), none, 0⟩,
    ⟨(some 34), .iaddr 3 (.tmp 32) (.tmp 33), none, 12⟩,
    ⟨(some 35), .loadA 3 (.tmp 34), none, 28⟩,
    ⟨(some 36), .call 83 [(.tmp 30), (.tmp 31), (.tmp 35)], none, 63⟩,
    ⟨(some 37), .un .not (.tmp 36), none, 127⟩,
    ⟨(some 29), .move (.tmp 37), none, 255⟩] true) (.cond (.tmp 29) (.seq (.ops [⟨(some 6), .move (.const (.slice none 0 0)), none, 0⟩,
    ⟨(some 7), .move (.const (.int .i64 9)), none, 0⟩] false) (.ret)) (.skip)))))))) (.seq (.ops [⟨(some 38), .loadA 2 (.tmp 3), none, 0⟩,
    ⟨(some 39), .move (.tmp 1), none, 0⟩,
    ⟨(some 40), .move (.tmp 8), none, 0⟩,
    ⟨(some 41), .move (.tmp 2), none, 0⟩,
    ⟨(some 42), .iaddr 3 (.tmp 40) (.tmp 41), none, 12⟩,
    ⟨(some 43), .loadA 3 (.tmp 42), none, 28⟩,
    ⟨(some 44), .call 84 [(.tmp 38), (.tmp 39), (.tmp 43)], none, 63⟩,
    ⟨(some 45), .ext 0 (.tmp 44), none, 127⟩,
    ⟨(some 46), .ext 1 (.tmp 44), none, 127⟩,
    ⟨(some 6), .move (.tmp 45), none, 511⟩,
    ⟨(some 7), .move (.tmp 46), none, 1023⟩] true) (.ret))))
set_option maxRecDepth 100000 in
theorem c68_ok : FunOK Try.prog 68 47 [.tmp 6, .tmp 7] c68 := ⟨⟨Try.f68, Try.func68, rfl, by kernel_rfl, rfl, by kernel_rfl⟩⟩
set_option maxRecDepth 100000 in
theorem game_Fire (P : ProcD) (hP : P.Fits) (M : List Int) (hM : M.length ≤ 9223372036854775807) (k : Int) :
    PCall Try.prog 68 [dproc P, dints M, .sc (.int .i64 k)] (.tup [dints (P.firL M k), .sc (.int .i64 (P.firE M k))]) := by
  have eE : P.firE M k = if P.markE M ≠ 0 then P.markE M else if k < 0 ∨ (P.stepsL.length : Int) ≤ k then 1
    else if P.mayB M (P.stepsL.getD k.toNat (0, 0, 0)) = true then P.fireE M (P.stepsL.getD k.toNat (0, 0, 0)) else 9 := by unfold ProcD.firE; rfl
  have eL : P.firL M k = if P.firE M k = 0 then P.fireL M (P.stepsL.getD k.toNat (0, 0, 0)) else [] := rfl
  refine pcall_intro c68_ok (by simp) (by simp [PureL, Pure, pure_dproc, pure_dints]) ?_ (by simp [Pure, PureL, pure_dints])
  have bad : ∀ {H : List AObj} {e : Int}, e ≠ 0 → P.firE M k = e → Deep H (.tup [.sc (.slice none 0 0), .sc (.int .i64 e)]) (.tup [dints (P.firL M k), .sc (.int .i64 (P.firE M k))]) := fun h q => by
    rw [eL, q, if_neg h]
    exact .tup _ _ (.cons _ _ _ _ (.none _) (.cons _ _ _ _ (.refl _) .nil))
  (apply red_sound; focus (repeat' (first | exact Red.skip | exact Red.ret | exact RedO.nil | exact RedD.nil | exact Red.exit _ | exact Red.loop _ | exact Red.stop _ | apply Red.ops | apply Red.draw | apply Red.seq | apply Red.cond | apply Red.block | apply RedO.cons | apply RedD.cons | exact (0 : Nat))))
  ((conv => whnf); repeat (refine And.intro rfl ?_; (conv => whnf)))
  (refine .inl ⟨_, (game_check P hP M hM), ?_⟩; ((conv => whnf); repeat (refine And.intro rfl ?_; (conv => whnf))))
  (refine ifK_split (fun h1 => ?_) (fun h1 => ?_) <;> (rw [h1]; ((conv => whnf); repeat (refine And.intro rfl ?_; (conv => whnf)))))
  · have h1 : P.markE M ≠ 0 := by ((try simp only [oo, reduceCtorEq] at *) <;> omega)
    exact bad h1 (by rw [eE, if_pos h1])
  have h1 : P.markE M = 0 := by ((try simp only [oo, reduceCtorEq] at *) <;> omega)
  obtain ⟨hE, hB⟩ := ProcD.markE_zero h1
  obtain ⟨h0, _, h60⟩ := ProcD.stepsE_zero hE
  have hK := ProcD.mark_of hB
  have eN : P.markL M = P.stepsL := by unfold ProcD.markL; rw [if_pos h1]
  rw [if_neg (by omega)] at eE
  rw [eN]
  cases h2 : decide (k < 0)
  · have h2 : ¬ k < 0 := by ((try simp only [oo, reduceCtorEq] at *) <;> omega)
    ((conv => whnf); repeat (refine And.intro rfl ?_; (conv => whnf)))
    rw [srows_len]
    (refine ifK_split (fun h3 => ?_) (fun h3 => ?_) <;> (rw [h3]; ((conv => whnf); repeat (refine And.intro rfl ?_; (conv => whnf)))))
    · exact bad (by decide) (by rw [eE, if_pos (.inr (by ((try simp only [oo, reduceCtorEq] at *) <;> omega)))])
    · have h3 : ¬ (P.stepsL.length : Int) ≤ k := by ((try simp only [oo, reduceCtorEq] at *) <;> omega)
      rw [if_neg (by omega)] at eE
      have hk' : k.toNat < P.stepsL.length := by omega
      have hsk := ProcD.stepAt_ok hE hk'
      refine ⟨by omega, _, step_atD (k := k.toNat) (by omega) hk', ?_⟩
      ((conv => whnf); repeat (refine And.intro rfl ?_; (conv => whnf)))
      generalize hS : P.stepsL.getD k.toNat (0, 0, 0) = s at hsk eE eL
      (refine .inl ⟨_, (game_enabled P hP h0 M hK s hsk), ?_⟩; ((conv => whnf); repeat (refine And.intro rfl ?_; (conv => whnf))))
      cases h4 : P.mayB M s
      · ((conv => whnf); repeat (refine And.intro rfl ?_; (conv => whnf)))
        exact bad (by decide) (by rw [eE, if_neg (by rw [h4]; decide)])
      · rw [if_pos h4] at eE
        ((conv => whnf); repeat (refine And.intro rfl ?_; (conv => whnf)))
        refine ⟨by omega, _, step_atD (k := k.toNat) (by omega) hk', ?_⟩
        ((conv => whnf); repeat (refine And.intro rfl ?_; (conv => whnf)))
        rw [hS]
        (refine .inl ⟨_, (game_fire P hP h0 M hK s hsk), ?_⟩; ((conv => whnf); repeat (refine And.intro rfl ?_; (conv => whnf))))
        have e : P.firL M k = P.fireL M s := by
          rw [eL, eE]
          split
          · rfl
          · rename_i q; exact (fireL_bad q).symm
        rw [eE, e]
        exact .refl _
  · have h2 : k < 0 := by ((try simp only [oo, reduceCtorEq] at *) <;> omega)
    ((conv => whnf); repeat (refine And.intro rfl ?_; (conv => whnf)))
    exact bad (by decide) (by rw [eE, if_pos (.inl h2)])
end Go.Proofs.Ytikdngjdhncioaa
