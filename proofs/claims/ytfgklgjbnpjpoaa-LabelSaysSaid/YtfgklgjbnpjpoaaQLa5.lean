/-
  Where formulas of all ways hold: the reference's until, over deep values. No statement is proved here.
-/
import Derived.Test.YtfgklgjbnpjpoaaQLa4
namespace Go.Proofs.Ytfgklgjbnpjpoaa
open Go.RowKit
set_option linter.unusedSimpArgs false
set_option linter.unusedVariables false
def c117_3 : PC := .seq (.seq (.ops [⟨(some 22), .move (.tmp 12), none, 0⟩,
    ⟨(some 23), .faddr 1 (.tmp 5), none, 0⟩,
    ⟨(some 24), .load1 (.tmp 23), none, 0⟩,
    ⟨(some 25), .move (.tmp 11), none, 0⟩,
    ⟨(some 26), .iaddr 1 (.tmp 24) (.tmp 25), none, 0⟩,
    ⟨(some 27), .load1 (.tmp 26), none, 0⟩,
    ⟨(some 28), .len (.tmp 27), none, 0⟩,
    ⟨(some 29), .bin .lss (.tmp 22) (.tmp 28), none, 0⟩] false) (.cond (.tmp 29) (.skip) (.exit 4))) (.seq (.block 5 (.seq (.ops [⟨(some 32), .move (.tmp 0), none, 0⟩,
    ⟨(some 33), .move (.tmp 11), none, 0⟩,
    ⟨(some 34), .iaddr 1 (.tmp 32) (.tmp 33), none, 0⟩,
    ⟨(some 35), .load1 (.tmp 34), none, 0⟩,
    ⟨(some 36), .move (.tmp 35), none, 0⟩,
    ⟨(some 37), .move (.tmp 9), (some (36, true)), 0⟩,
    ⟨(some 38), .move (.tmp 11), (some (36, true)), 0⟩,
    ⟨(some 39), .iaddr 1 (.tmp 37) (.tmp 38), (some (36, true)), 0⟩,
    ⟨(some 40), .load1 (.tmp 39), (some (36, true)), 0⟩,
    ⟨(some 41), .un .not (.tmp 40), (some (36, true)), 0⟩,
    ⟨(some 42), .pick (.tmp 36) (.tmp 41) (.const (.bool false)), none, 0⟩,
    ⟨(some 43), .move (.tmp 42), none, 0⟩,
    ⟨(some 44), .move (.tmp 9), (some (43, true)), 0⟩,
    ⟨(some 45), .faddr 1 (.tmp 5), (some (43, true)), 0⟩,
    ⟨(some 46), .load1 (.tmp 45), (some (43, true)), 0⟩,
    ⟨(some 47), .move (.tmp 11), (some (43, true)), 0⟩,
    ⟨(some 48), .iaddr 1 (.tmp 46) (.tmp 47), (some (43, true)), 0⟩,
    ⟨(some 49), .load1 (.tmp 48), (some (43, true)), 0⟩,
    ⟨(some 50), .move (.tmp 12), (some (43, true)), 0⟩,
    ⟨(some 51), .iaddr 1 (.tmp 49) (.tmp 50), (some (43, true)), 0⟩,
    ⟨(some 52), .load1 (.tmp 51), (some (43, true)), 0⟩,
    ⟨(some 53), .iaddr 1 (.tmp 44) (.tmp 52), (some (43, true)), 0⟩,
    ⟨(some 54), .load1 (.tmp 53), (some (43, true)), 0⟩,
    ⟨(some 55), .pick (.tmp 43) (.tmp 54) (.const (.bool false)), none, 0⟩] false) (.cond (.tmp 55) (.seq (.ops [⟨(some 56), .move (.tmp 9), none, 0⟩,
    ⟨(some 57), .move (.tmp 11), none, 0⟩,
    ⟨(some 58), .iaddr 1 (.tmp 56) (.tmp 57), none, 0⟩,
    ⟨none, .store 1 (.tmp 58) (.const (.bool true)), none, 0⟩] false) (.ops [⟨(some 10), .move (.const (.bool true)), none, 0⟩] false)) (.skip)))) (.ops [⟨(some 30), .move (.tmp 12), none, 0⟩,
    ⟨(some 31), .bin .add (.tmp 30) (.const (.int .i64 1)), none, 0⟩,
    ⟨(some 12), .move (.tmp 31), none, 0⟩] false))
def c117_2 : PC := .seq (.seq (.ops [⟨(some 17), .move (.tmp 11), none, 0⟩,
    ⟨(some 18), .load1 (.tmp 4), none, 0⟩,
    ⟨(some 19), .bin .lss (.tmp 17) (.tmp 18), none, 0⟩] false) (.cond (.tmp 19) (.skip) (.exit 2))) (.seq (.block 3 (.seq (.ops [⟨(some 12), .move (.const (.int .i64 0)), none, 0⟩] false) (.block 4 (.loop c117_3)))) (.ops [⟨(some 20), .move (.tmp 11), none, 0⟩,
    ⟨(some 21), .bin .add (.tmp 20) (.const (.int .i64 1)), none, 0⟩,
    ⟨(some 11), .move (.tmp 21), none, 0⟩] false))
def c117_1 : PC := .seq (.seq (.ops [⟨(some 16), .move (.tmp 10), none, 0⟩] false) (.cond (.tmp 16) (.skip) (.exit 0))) (.block 1 (.seq (.ops [⟨(some 10), .move (.const (.bool false)), none, 0⟩] false) (.seq (.ops [⟨(some 11), .move (.const (.int .i64 0)), none, 0⟩] false) (.block 2 (.loop c117_2)))))
def c117 : PC := .seq (.ops [⟨(some 7), .box (.tmp 1), none, 0⟩,
    ⟨(some 8), .move (.const (.slice none 0 0)), none, 0⟩] false) (.seq (.ops [⟨(some 13), .load1 (.tmp 2), none, 0⟩,
    ⟨(some 14), .mkfn (.func 118) [] [(.tmp 7), (.tmp 3)], none, 0⟩,
    ⟨(some 15), .callv (.tmp 13) [(.tmp 14)], none, 0⟩,
    ⟨(some 9), .move (.tmp 15), none, 0⟩] false) (.seq (.seq (.ops [⟨(some 10), .move (.const (.bool true)), none, 0⟩] false) (.block 0 (.loop c117_1))) (.seq (.ops [⟨(some 59), .move (.tmp 9), none, 0⟩,
    ⟨(some 8), .move (.tmp 59), none, 0⟩] false) (.ret))))
set_option maxRecDepth 100000 in
theorem c117_ok : FunOK Try.prog 117 60 [.tmp 8] c117 := ⟨⟨Try.f117, Try.func117, rfl, by kernel_rfl, rfl, by kernel_rfl⟩⟩
set_option maxRecDepth 100000 in
theorem lr_until (W : WorldD) (hW : W.Fits) (hc : W.chk = 0) (a b : Nat → Bool) : PCall Try.prog 117 [dbl W.next.length a, dbl W.next.length b, .ipt [mapF W.next.length], .ipt [dbl W.next.length (fairF W)], .ipt [.sc (.int .i64 W.next.length)], .ipt W.cells] (dbl W.next.length (euF W a b)) := by
  obtain ⟨_, h600, h80, _, hnx, hfr⟩ := chk_label W hc
  have hrow := fun k => inB_row (g := W.next) (fun l hl => (hnx l hl).2) k
  have hFN : FitsG W.next := ⟨hW.next, hW.nextEach⟩
  have hM := lr_map2 W.next.length (by omega) (andF b (fairF W)) 118 (dbl W.next.length b) (dbl W.next.length (fairF W)) (pure_dbl _ _) (pure_dbl _ _) (fun i hi => lr_until1 W.next.length b (fairF W) i hi)
  have e0 : euF W a b = euB W.next a (andF b (fairF W)) := rfl
  refine pcall_intro c117_ok (by simp) (by simp [PureL, Pure, pure_dbl, pure_wdc]) ?_ (pure_dbl _ _)
  rw [e0]
  clear e0
  generalize andF b (fairF W) = c at *
  unfold mapF WorldD.cells at *
  (apply rd_sound; focus (repeat' constructor))
  ((conv=>whnf);repeat(refine And.intro rfl ?_;(conv=>whnf)))
  (refine .inr (.inr (.inl ⟨rfl, _, _, hM, ?_⟩)); ((conv=>whnf);repeat(refine And.intro rfl ?_;(conv=>whnf))))
  refine pwp_for [0, 4, 5, 9] (fun ((m, s) : Bool × (Nat → Bool)) => [(10, .sc (.bool m))]) (fun (m, s) => [(1, .vec true 0 1 (rbl W.next.length s))])
    (fun (m, s) => (∀ v, s v = true → Eu W.next a c v) ∧ (∀ v, c v = true → s v = true) ∧ (m = false → ∀ v x, x ∈ W.next.getD v [] → a v = true → s x.toNat = true → s v = true)) (fun (m, s) => if m = true then 1 + unseen s W.next.length else 0) (true, c) ?_
  ((conv=>whnf);repeat(refine And.intro rfl ?_;(conv=>whnf)))
  refine ⟨⟨(fun v h => .base h), (fun v h => h), (fun h => by cases h)⟩, by (repeat' (first | exact trivial | refine And.intro rfl ?_)), rfl, ?_⟩
  rintro ⟨m, s0⟩ ⟨hS, hC, hcl⟩
  ((conv=>whnf);repeat(refine And.intro rfl ?_;(conv=>whnf)))
  (apply rd_sound; focus (repeat' constructor))
  ((conv=>whnf);repeat(refine And.intro rfl ?_;(conv=>whnf)))
  cases m
  · ((conv=>whnf);repeat(refine And.intro rfl ?_;(conv=>whnf)))
    rw [rbl_congr (g' := euB W.next a c) fun i _ => eu_rounds hS hC (hcl rfl) i]
    exact deep_vec rfl
  ((conv=>whnf);repeat(refine And.intro rfl ?_;(conv=>whnf)))
  refine pwp_for [0, 4, 5, 9] (fun ((m, i, s) : Bool × Nat × (Nat → Bool)) => [(10, .sc (.bool m)), (11, .sc (.int .i64 i))]) (fun (m, i, s) => [(1, .vec true 0 1 (rbl W.next.length s))])
    (fun (m, i, s) => i ≤ W.next.length ∧ (∀ v, s v = true → Eu W.next a c v) ∧ (∀ v, s0 v = true → s v = true) ∧ (m = true → unseen s W.next.length < unseen s0 W.next.length) ∧ (m = false → ∀ v x, v < i → x ∈ W.next.getD v [] → a v = true → s x.toNat = true → s v = true)) (fun (m, i, s) => W.next.length - i) (false, 0, s0) ?_
  ((conv=>whnf);repeat(refine And.intro rfl ?_;(conv=>whnf)))
  refine ⟨⟨by omega, hS, (fun v h => h), (fun h => by cases h), (fun _ v x h => by omega)⟩, by (repeat' (first | exact trivial | refine And.intro rfl ?_)), rfl, ?_⟩
  clear hS hcl
  rintro ⟨m, i, s⟩ ⟨hi, hS, hmo, hmt, hmf⟩
  ((conv=>whnf);repeat(refine And.intro rfl ?_;(conv=>whnf)))
  (apply rd_sound; focus (repeat' constructor))
  ((conv=>whnf);repeat(refine And.intro rfl ?_;(conv=>whnf)))
  (refine ifK_split (fun q1 => ?_) (fun q1 => ?_) <;> (rw [q1]; ((conv=>whnf);repeat(refine And.intro rfl ?_;(conv=>whnf)))))
  rotate_left
  · have q1 : i = W.next.length := by have : ¬ i < W.next.length := by ((try simp only [oo, reduceCtorEq] at *) <;> omega)
                                      omega
    subst q1
    have hle := unseen_mono (n := W.next.length) fun j _ h => hmo j h
    refine ⟨(m, s), ⟨hS, fun v h => hmo v (hC v h), fun h v x hx => ?_⟩, ?_, leB_envH (by (repeat' (first | exact trivial | refine And.intro rfl ?_))) rfl⟩
    · rcases Nat.lt_or_ge v W.next.length with q | q
      · exact hmf h v x q hx
      · rw [List.getD_eq_getElem?_getD, List.getElem?_eq_none q] at hx; cases hx
    · dsimp only
      cases m
      · simp; omega
      · have := hmt rfl
        simp; omega
  have hi' : i < W.next.length := by ((try simp only [oo, reduceCtorEq] at *) <;> omega)
  have hgF := hFN.at i
  refine pwp_for [0, 4, 5, 9, 11] (fun ((m, j, s) : Bool × Nat × (Nat → Bool)) => [(10, .sc (.bool m)), (12, .sc (.int .i64 j))]) (fun (m, j, s) => [(1, .vec true 0 1 (rbl W.next.length s))])
    (fun (m, j, s) => j ≤ (W.next.getD i []).length ∧ (∀ v, s v = true → Eu W.next a c v) ∧ (∀ v, s0 v = true → s v = true) ∧ (m = true → unseen s W.next.length < unseen s0 W.next.length) ∧ (m = false → (∀ v x, v < i → x ∈ W.next.getD v [] → a v = true → s x.toNat = true → s v = true) ∧ ∀ y, y < j → a i = true → s ((W.next.getD i []).getD y 0).toNat = true → s i = true)) (fun (m, j, s) => (W.next.getD i []).length - j) (m, 0, s) ?_
  ((conv=>whnf);repeat(refine And.intro rfl ?_;(conv=>whnf)))
  refine ⟨⟨by omega, hS, hmo, hmt, fun h => ⟨hmf h, fun y h => by omega⟩⟩, by (repeat' (first | exact trivial | refine And.intro rfl ?_)), rfl, ?_⟩
  clear hS hmo hmt hmf q1
  rintro ⟨m, j, s⟩ ⟨hj, hS, hmo, hmt, hmf⟩
  ((conv=>whnf);repeat(refine And.intro rfl ?_;(conv=>whnf)))
  (apply rd_sound; focus (repeat' constructor))
  ((conv=>whnf);repeat(refine And.intro rfl ?_;(conv=>whnf)))
  refine ⟨by omega, _, gridD_at (g := W.next) (k := i) (by omega) hi', ?_⟩
  ((conv=>whnf);repeat(refine And.intro rfl ?_;(conv=>whnf)))
  rw [List.length_map]
  (refine ifK_split (fun q1 => ?_) (fun q1 => ?_) <;> (rw [q1]; ((conv=>whnf);repeat(refine And.intro rfl ?_;(conv=>whnf)))))
  rotate_left
  · have q1 : j = (W.next.getD i []).length := by have : ¬ j < (W.next.getD i []).length := by ((try simp only [oo, reduceCtorEq] at *) <;> omega)
                                                  omega
    subst q1
    (refine .inl ⟨by (unfold InR; rw [IntKind.wrap_i64]; omega), ?_⟩; ((conv=>whnf);repeat(refine And.intro rfl ?_;(conv=>whnf))))
    refine ⟨(m, i + 1, s), ⟨by omega, hS, hmo, hmt, fun h v x hv hx ha hsx => ?_⟩, by dsimp only; omega, leB_envH (by (repeat' (first | exact trivial | refine And.intro rfl ?_))) rfl⟩
    by_cases e : v = i
    · subst e
      obtain ⟨y, hy, rfl⟩ := getD_mem hx
      exact (hmf h).2 y hy ha hsx
    · exact (hmf h).1 v x (by omega) hx ha hsx
  have hj' : j < (W.next.getD i []).length := by ((try simp only [oo, reduceCtorEq] at *) <;> omega)
  have hx := inB_mem (hrow i) (mem_getD hj')
  have hmx := mem_getD hj'
  have hxat : ∀ z', z' = j → ((W.next.getD i []).map fun n => [D.sc (.int .i64 n)])[z']? = some [.sc (.int .i64 ((W.next.getD i []).getD j 0))] := fun z' hz => intsD_at (l := W.next.getD i []) hz hj'
  refine ⟨by omega, _, rbl_atN i (by omega) hi', ?_⟩
  ((conv=>whnf);repeat(refine And.intro rfl ?_;(conv=>whnf)))
  cases ra : a i
  · have hrow2 : a i = true → s ((W.next.getD i []).getD j 0).toNat = true → s i = true := fun h => by rw [ra] at h; cases h
    ((conv=>whnf);repeat(refine And.intro rfl ?_;(conv=>whnf)))
    (refine .inl ⟨by (unfold InR; rw [IntKind.wrap_i64]; omega), ?_⟩; ((conv=>whnf);repeat(refine And.intro rfl ?_;(conv=>whnf))))
    refine ⟨(m, j + 1, s), ⟨by omega, hS, hmo, hmt, fun h => ⟨(hmf h).1, fun y hy ha hsy => ?_⟩⟩, by dsimp only; omega, leB_envH (by (repeat' (first | exact trivial | refine And.intro rfl ?_))) rfl⟩
    have hq : s i = true := by
      by_cases e : y = j
      · subst e; exact hrow2 (ra.trans ha) (by first | exact hsy | exact rx.trans hsy)
      · exact (hmf h).2 y (by omega) (ra.trans ha) hsy
    first | exact hq | exact rs.symm.trans hq
  ((conv=>whnf);repeat(refine And.intro rfl ?_;(conv=>whnf)))
  (refine ⟨by omega, (by first | omega | (simp; done) | (simp; omega) | (simp only [ll]; omega)), ?_⟩; ((conv=>whnf);repeat(refine And.intro rfl ?_;(conv=>whnf))))
  refine ⟨_, rbl_atN i (by omega) hi', ?_⟩
  ((conv=>whnf);repeat(refine And.intro rfl ?_;(conv=>whnf)))
  cases rs : s i
  rotate_left
  · have hrow2 : a i = true → s ((W.next.getD i []).getD j 0).toNat = true → s i = true := fun _ _ => rs
    ((conv=>whnf);repeat(refine And.intro rfl ?_;(conv=>whnf)))
    (refine .inl ⟨by (unfold InR; rw [IntKind.wrap_i64]; omega), ?_⟩; ((conv=>whnf);repeat(refine And.intro rfl ?_;(conv=>whnf))))
    refine ⟨(m, j + 1, s), ⟨by omega, hS, hmo, hmt, fun h => ⟨(hmf h).1, fun y hy ha hsy => ?_⟩⟩, by dsimp only; omega, leB_envH (by (repeat' (first | exact trivial | refine And.intro rfl ?_))) rfl⟩
    have hq : s i = true := by
      by_cases e : y = j
      · subst e; exact hrow2 (ra.trans ha) (by first | exact hsy | exact rx.trans hsy)
      · exact (hmf h).2 y (by omega) (ra.trans ha) hsy
    first | exact hq | exact rs.symm.trans hq
  ((conv=>whnf);repeat(refine And.intro rfl ?_;(conv=>whnf)))
  refine ⟨by omega, _, gridD_at (g := W.next) (k := i) (by omega) hi', ?_⟩
  ((conv=>whnf);repeat(refine And.intro rfl ?_;(conv=>whnf)))
  refine ⟨by omega, _, hxat _ (by omega), ?_⟩
  generalize hxe : (W.next.getD i []).getD j 0 = x at *
  ((conv=>whnf);repeat(refine And.intro rfl ?_;(conv=>whnf)))
  (refine ⟨by omega, (by first | omega | (simp; done) | (simp; omega) | (simp only [ll]; omega)), ?_⟩; ((conv=>whnf);repeat(refine And.intro rfl ?_;(conv=>whnf))))
  refine ⟨_, rbl_atN x.toNat (by omega) (by omega), ?_⟩
  ((conv=>whnf);repeat(refine And.intro rfl ?_;(conv=>whnf)))
  cases rx : s x.toNat
  · have hrow2 : a i = true → s ((W.next.getD i []).getD j 0).toNat = true → s i = true := fun _ h => by rw [hxe, rx] at h; cases h
    ((conv=>whnf);repeat(refine And.intro rfl ?_;(conv=>whnf)))
    (refine .inl ⟨by (unfold InR; rw [IntKind.wrap_i64]; omega), ?_⟩; ((conv=>whnf);repeat(refine And.intro rfl ?_;(conv=>whnf))))
    refine ⟨(m, j + 1, s), ⟨by omega, hS, hmo, hmt, fun h => ⟨(hmf h).1, fun y hy ha hsy => ?_⟩⟩, by dsimp only; omega, leB_envH (by (repeat' (first | exact trivial | refine And.intro rfl ?_))) rfl⟩
    have hq : s i = true := by
      by_cases e : y = j
      · subst e; exact hrow2 (ra.trans ha) (by first | exact hsy | exact rx.trans hsy)
      · exact (hmf h).2 y (by omega) (ra.trans ha) hsy
    first | exact hq | exact rs.symm.trans hq
  ((conv=>whnf);repeat(refine And.intro rfl ?_;(conv=>whnf)))
  (refine ⟨by omega, (by first | omega | (simp; done) | (simp; omega) | (simp only [ll]; omega)), ?_⟩; ((conv=>whnf);repeat(refine And.intro rfl ?_;(conv=>whnf))))
  refine ⟨_, rbl_atN i (by omega) hi', ?_⟩
  ((conv=>whnf);repeat(refine And.intro rfl ?_;(conv=>whnf)))
  (refine .inl ⟨by (unfold InR; rw [IntKind.wrap_i64]; omega), ?_⟩; ((conv=>whnf);repeat(refine And.intro rfl ?_;(conv=>whnf))))
  have hlt := unseen_lt (s := s) (s' := mark s i) hi' (fun j _ q => mark_of q) rs (mark_self _ _)
  have hle := unseen_mono (n := W.next.length) fun j _ h => hmo j h
  refine ⟨(true, j + 1, mark s i), ⟨by omega, fun v hv => ?_, fun v h => mark_of (hmo v h), fun _ => by omega, fun h => by cases h⟩, by dsimp only; omega, leB_envH (by (repeat' (first | exact trivial | refine And.intro rfl ?_))) (by rw [rbl_mark (v := i) (by omega)]; rfl)⟩
  rcases mark_iff.1 hv with e | e
  · subst e; exact .step ra hmx (hS _ rx)
  · exact hS v e
end Go.Proofs.Ytfgklgjbnpjpoaa
