/-
  Where formulas of all ways hold: the labeler's functions, over deep values. No statement is proved here.
-/
import Derived.Test.YtfgklgjbnpjpoaaQWj
import Derived.Test.YtfgklgjbnpjpoaaQEu0
namespace Go.Proofs.Ytfgklgjbnpjpoaa
open Go.RowKit
set_option linter.unusedSimpArgs false
set_option linter.unusedVariables false
noncomputable def fairF (W : WorldD) : Nat → Bool := fwB (resG W.next allT) (W.fair.map setB)
noncomputable def lcel (W : WorldD) : List D := [dints W.start, dgrid W.next, dlet W.label, dgrid W.fair, dbl W.next.length (fairF W), dgrid (turnG W.next W.next.length)]
noncomputable def dlab (W : WorldD) : D := .ipt (lcel W)
theorem pure_lcel (W : WorldD) : PureL (lcel W) := by simp [lcel, PureL, pure_dints, pure_dgrid, pure_dlet, pure_dbl]
theorem pure_dlab (W : WorldD) : Pure (dlab W) := by simp only [dlab, Pure]; exact pure_lcel W
@[simp] theorem under_dbl2 {m n : Nat} (f : Nat → Bool) : Under m (dbl n f) ↔ True := ⟨fun _ => trivial, fun _ => under_pure _ (pure_dbl n f)⟩
def notF (a : Nat → Bool) : Nat → Bool := fun i => !a i
def andF (a b : Nat → Bool) : Nat → Bool := fun i => a i && b i
def orF (a b : Nat → Bool) : Nat → Bool := fun i => a i || b i
noncomputable def exF (W : WorldD) (a : Nat → Bool) : Nat → Bool := fun i => (W.next.getD i []).any fun x => a x.toNat && fairF W x.toNat
noncomputable def euF (W : WorldD) (a b : Nat → Bool) : Nat → Bool := euB W.next a (andF b (fairF W))
noncomputable def egF (W : WorldD) (a : Nat → Bool) : Nat → Bool := fwB (resG W.next a) (W.fair.map setB)
noncomputable def auF (W : WorldD) (a b : Nat → Bool) : Nat → Bool := notF (orF (euF W (notF b) (andF (notF a) (notF b))) (egF W (notF b)))
def c190_1 : PC := .seq (.ops [⟨(some 17), .bin .lss (.tmp 16) (.tmp 15), none, 0⟩] false) (.seq (.cond (.tmp 17) (.skip) (.exit 0)) (.seq (.block 1 (.seq (.ops [⟨(some 18), .move (.tmp 16), none, 0⟩,
    ⟨(some 6), .move (.tmp 18), none, 0⟩] false) (.ops [⟨(some 19), .move (.tmp 5), none, 0⟩,
    ⟨(some 20), .move (.tmp 6), none, 0⟩,
    ⟨(some 21), .move (.tmp 1), none, 0⟩,
    ⟨(some 22), .move (.tmp 6), none, 0⟩,
    ⟨(some 23), .callv (.tmp 21) [(.tmp 22)], none, 0⟩,
    ⟨(some 24), .iaddr 1 (.tmp 19) (.tmp 20), none, 0⟩,
    ⟨none, .store 1 (.tmp 24) (.tmp 23), none, 0⟩] false))) (.ops [⟨(some 25), .bin .add (.tmp 16) (.const (.int .i64 1)), none, 0⟩,
    ⟨(some 16), .move (.tmp 25), none, 0⟩] false)))
def c190 : PC := .seq (.ops [⟨(some 4), .move (.const (.slice none 0 0)), none, 0⟩] false) (.seq (.ops [⟨(some 7), .move (.tmp 0), none, 0⟩,
    ⟨(some 8), .nilchk (.tmp 7), none, 0⟩,
    ⟨(some 9), .faddr 0 (.tmp 8), none, 0⟩,
    ⟨(some 10), .faddr 1 (.tmp 9), none, 0⟩,
    ⟨(some 11), .load1 (.tmp 10), none, 0⟩,
    ⟨(some 12), .len (.tmp 11), none, 0⟩,
    ⟨(some 13), .mslice 1 1 [(.bool false)] (.tmp 12) (.tmp 12), none, 0⟩,
    ⟨(some 5), .move (.tmp 13), none, 0⟩] false) (.seq (.seq (.ops [⟨(some 14), .move (.tmp 5), none, 0⟩,
    ⟨(some 15), .len (.tmp 14), none, 0⟩,
    ⟨(some 16), .move (.const (.int .i64 0)), none, 0⟩] false) (.block 0 (.loop c190_1))) (.seq (.ops [⟨(some 26), .move (.tmp 5), none, 0⟩,
    ⟨(some 4), .move (.tmp 26), none, 0⟩] false) (.ret))))
set_option maxRecDepth 100000 in
theorem c190_ok : FunOK Try.prog 190 27 [.tmp 4] c190 := ⟨⟨Try.f190, Try.func190, rfl, by kernel_rfl, rfl, by kernel_rfl⟩⟩
theorem la_each (W : WorldD) (h6 : W.next.length ≤ 1000000) (p : Nat → Bool) (cl : FuncId) (caps : List D) (hcaps : PureL caps) (hc : ∀ i : Nat, i < W.next.length → PCall Try.prog cl (.sc (.int .i64 i) :: caps) (.sc (.bool (p i)))) :
    PCall Try.prog 190 [dlab W, .fn (.func cl) [] caps] (dbl W.next.length p) := by
  refine pcall_intro c190_ok (by simp) (by simp [PureL, Pure, pure_dlab, hcaps]) ?_ (pure_dbl _ _)
  unfold dlab lcel
  (apply rd_sound; focus (repeat' constructor))
  ((conv=>whnf);repeat(refine And.intro rfl ?_;(conv=>whnf)))
  rw [List.length_map]
  refine ⟨by omega, by omega, by omega, ?_⟩
  rw [Int.toNat_natCast, show List.map D.sc [Value.bool false] = [D.sc (.bool false)] from rfl, rbl_rep]
  ((conv=>whnf);repeat(refine And.intro rfl ?_;(conv=>whnf)))
  refine pwp_for [1, 5, 15] (fun k : Nat => [(16, .sc (.int .i64 k))]) (fun k => [(0, .vec true 0 1 (rbl W.next.length fun i => if i < k then p i else false))]) (fun k => k ≤ W.next.length) (fun k => W.next.length - k) 0 ?_
  ((conv=>whnf);repeat(refine And.intro rfl ?_;(conv=>whnf)))
  refine ⟨by omega, by (repeat' (first | exact trivial | refine And.intro rfl ?_)), by simp; rfl, ?_⟩
  rintro k hk
  ((conv=>whnf);repeat(refine And.intro rfl ?_;(conv=>whnf)))
  (apply rd_sound; focus (repeat' constructor))
  ((conv=>whnf);repeat(refine And.intro rfl ?_;(conv=>whnf)))
  (refine ifK_split (fun q0 => ?_) (fun q0 => ?_) <;> (rw [q0]; ((conv=>whnf);repeat(refine And.intro rfl ?_;(conv=>whnf)))))
  · have q0 : k < W.next.length := by ((try simp only [oo, reduceCtorEq] at *) <;> omega)
    (refine .inl ⟨_, (hc k q0), ?_⟩; ((conv=>whnf);repeat(refine And.intro rfl ?_;(conv=>whnf))))
    (refine ⟨by omega, (by first | omega | (simp; done) | (simp; omega) | (simp only [ll]; omega)), ?_⟩; ((conv=>whnf);repeat(refine And.intro rfl ?_;(conv=>whnf))))
    refine ⟨_, rbl_atN k (by omega) q0, ?_⟩
    ((conv=>whnf);repeat(refine And.intro rfl ?_;(conv=>whnf)))
    (refine .inl ⟨by (unfold InR; rw [IntKind.wrap_i64]; omega), ?_⟩; ((conv=>whnf);repeat(refine And.intro rfl ?_;(conv=>whnf))))
    refine ⟨k + 1, by omega, by dsimp only; omega, leB_envH (by (repeat' (first | exact trivial | refine And.intro rfl ?_))) ?_⟩
    rw [rbl_put (i := k) (f' := fun i => if i < k + 1 then p i else false) (by omega) fun v _ => by
      by_cases e : v = k
      · subst e; rw [if_pos (by omega), if_pos rfl]
      · rw [if_neg e]
        by_cases e2 : v < k
        · rw [if_pos e2, if_pos (by omega)]
        · rw [if_neg e2, if_neg (by omega)]]
    rfl
  · have q0 : k = W.next.length := by have : ¬ k < W.next.length := by ((try simp only [oo, reduceCtorEq] at *) <;> omega)
                                      omega
    subst q0
    rw [rbl_congr (g' := p) fun i hi => if_pos hi]
    exact deep_vec rfl
/-- The same with what the closure holds in two boxes: the list is the caller's. -/
theorem la_each2 (W : WorldD) (h6 : W.next.length ≤ 1000000) (p : Nat → Bool) (cl : FuncId) (x y : D) (hx : Pure x) (hy : Pure y) (hc : ∀ i : Nat, i < W.next.length → PCall Try.prog cl [.sc (.int .i64 i), .ipt [x], .ipt [y]] (.sc (.bool (p i)))) :
    ACall Try.prog 190 [dlab W, .fn (.func cl) [] [.loc 0 0, .loc 1 0]] [.row true [x], .row true [y]] (.own 2 0 0 W.next.length) [.row true [x], .row true [y], .vec true 0 1 (rbl W.next.length p)] := by
  refine acall_intro c190_ok (by simp) (by simp) ?_ (by simp [Under]) (by
    intro o ho
    simp only [List.mem_cons, List.not_mem_nil, or_false] at ho
    rcases ho with rfl | rfl | rfl
    · exact ⟨under_pure _ hx, trivial⟩
    · exact ⟨under_pure _ hy, trivial⟩
    · exact underLL_pure _ (pure_rbl _ _))
  unfold dlab lcel
  (apply rd_sound; focus (repeat' constructor))
  ((conv=>whnf);repeat(refine And.intro rfl ?_;(conv=>whnf)))
  rw [List.length_map]
  refine ⟨by omega, by omega, by omega, ?_⟩
  rw [Int.toNat_natCast, show List.map D.sc [Value.bool false] = [D.sc (.bool false)] from rfl, rbl_rep]
  ((conv=>whnf);repeat(refine And.intro rfl ?_;(conv=>whnf)))
  refine pwp_for [1, 5, 15] (fun k : Nat => [(16, .sc (.int .i64 k))]) (fun k => [(2, .vec true 0 1 (rbl W.next.length fun i => if i < k then p i else false))]) (fun k => k ≤ W.next.length) (fun k => W.next.length - k) 0 ?_
  ((conv=>whnf);repeat(refine And.intro rfl ?_;(conv=>whnf)))
  refine ⟨by omega, by (repeat' (first | exact trivial | refine And.intro rfl ?_)), by simp; rfl, ?_⟩
  rintro k hk
  ((conv=>whnf);repeat(refine And.intro rfl ?_;(conv=>whnf)))
  (apply rd_sound; focus (repeat' constructor))
  ((conv=>whnf);repeat(refine And.intro rfl ?_;(conv=>whnf)))
  (refine ifK_split (fun q0 => ?_) (fun q0 => ?_) <;> (rw [q0]; ((conv=>whnf);repeat(refine And.intro rfl ?_;(conv=>whnf)))))
  · have q0 : k < W.next.length := by ((try simp only [oo, reduceCtorEq] at *) <;> omega)
    (refine .inr (.inl ⟨_, _, (by (repeat' (first | exact Deep.refl _ | exact Deep.none _ | exact deep_row _ | exact DeepL.nil | exact DeepLL.nil | refine Deep.agg _ _ ?_ | refine Deep.tup _ _ ?_ | refine Deep.own _ _ _ _ _ _ _ _ rfl ?_ | refine Deep.loc _ _ _ _ _ rfl ?_ | refine Deep.ifc _ _ _ ?_ | refine Deep.fn _ _ _ _ _ ?_ ?_ | refine DeepL.cons _ _ _ _ ?_ ?_ | refine DeepLL.cons _ _ _ _ ?_ ?_))), (hc k q0), rfl, ?_⟩); ((conv=>whnf);repeat(refine And.intro rfl ?_;(conv=>whnf))))
    (refine ⟨by omega, (by first | omega | (simp; done) | (simp; omega) | (simp only [ll]; omega)), ?_⟩; ((conv=>whnf);repeat(refine And.intro rfl ?_;(conv=>whnf))))
    refine ⟨_, rbl_atN k (by omega) q0, ?_⟩
    ((conv=>whnf);repeat(refine And.intro rfl ?_;(conv=>whnf)))
    (refine .inl ⟨by (unfold InR; rw [IntKind.wrap_i64]; omega), ?_⟩; ((conv=>whnf);repeat(refine And.intro rfl ?_;(conv=>whnf))))
    refine ⟨k + 1, by omega, by dsimp only; omega, leB_envH (by (repeat' (first | exact trivial | refine And.intro rfl ?_))) ?_⟩
    rw [rbl_put (i := k) (f' := fun i => if i < k + 1 then p i else false) (by omega) fun v _ => by
      by_cases e : v = k
      · subst e; rw [if_pos (by omega), if_pos rfl]
      · rw [if_neg e]
        by_cases e2 : v < k
        · rw [if_pos e2, if_pos (by omega)]
        · rw [if_neg e2, if_neg (by omega)]]
    rfl
  · have q0 : k = W.next.length := by have : ¬ k < W.next.length := by ((try simp only [oo, reduceCtorEq] at *) <;> omega)
                                      omega
    subst q0
    rw [rbl_congr (g' := p) fun i hi => if_pos hi]
    exact ⟨rfl, Nat.le_refl _⟩
def c223 : PC := .seq (.ops [⟨(some 3), .move (.const (.bool false)), none, 0⟩] false) (.seq (.ops [⟨(some 4), .load1 (.tmp 1), none, 0⟩,
    ⟨(some 5), .move (.tmp 0), none, 0⟩,
    ⟨(some 6), .iaddr 1 (.tmp 4) (.tmp 5), none, 0⟩,
    ⟨(some 7), .load1 (.tmp 6), none, 0⟩,
    ⟨(some 8), .un .not (.tmp 7), none, 0⟩,
    ⟨(some 3), .move (.tmp 8), none, 0⟩] false) (.ret))
set_option maxRecDepth 100000 in
theorem c223_ok : FunOK Try.prog 223 9 [.tmp 3] c223 := ⟨⟨Try.f223, Try.func223, rfl, by kernel_rfl, rfl, by kernel_rfl⟩⟩
theorem la_not1 (n : Nat) (a : Nat → Bool) (i : Nat) (hi : i < n) : PCall Try.prog 223 [.sc (.int .i64 i), .ipt [dbl n a]] (.sc (.bool (notF a i))) := by
  refine pcall_intro c223_ok (by simp) (by simp [PureL, Pure, pure_dbl]) ?_ (by simp [Pure])
  (apply rd_sound; focus (repeat' constructor))
  ((conv=>whnf);repeat(refine And.intro rfl ?_;(conv=>whnf)))
  refine ⟨by omega, _, rbl_atN i (by omega) hi, ?_⟩
  ((conv=>whnf);repeat(refine And.intro rfl ?_;(conv=>whnf)))
  exact .refl _
def c193 : PC := .seq (.ops [⟨(some 3), .box (.tmp 1), none, 0⟩,
    ⟨(some 4), .move (.const (.slice none 0 0)), none, 0⟩] false) (.seq (.ops [⟨(some 5), .move (.tmp 0), none, 0⟩,
    ⟨(some 6), .mkfn (.func 223) [] [(.tmp 3)], none, 0⟩,
    ⟨(some 7), .call 190 [(.tmp 5), (.tmp 6)], none, 0⟩,
    ⟨(some 4), .move (.tmp 7), none, 0⟩] false) (.ret))
set_option maxRecDepth 100000 in
theorem c193_ok : FunOK Try.prog 193 8 [.tmp 4] c193 := ⟨⟨Try.f193, Try.func193, rfl, by kernel_rfl, rfl, by kernel_rfl⟩⟩
theorem la_not (W : WorldD) (h6 : W.next.length ≤ 1000000) (a : Nat → Bool) : PCall Try.prog 193 [dlab W, dbl W.next.length a] (dbl W.next.length (notF a)) := by
  have hE := la_each W h6 (notF a) 223 [.ipt [dbl W.next.length a]] (by simp [PureL, Pure, pure_dbl]) (fun i hi => la_not1 W.next.length a i hi)
  refine pcall_intro c193_ok (by simp) (by simp [PureL, pure_dlab, pure_dbl]) ?_ (pure_dbl _ _)
  (apply rd_sound; focus (repeat' constructor))
  ((conv=>whnf);repeat(refine And.intro rfl ?_;(conv=>whnf)))
  (refine .inr (.inr (.inr (.inr (.inr (.inl ⟨rfl, _, _, (by (repeat' (first | exact Deep.refl _ | exact Deep.none _ | exact deep_row _ | exact DeepL.nil | exact DeepLL.nil | refine Deep.agg _ _ ?_ | refine Deep.tup _ _ ?_ | refine Deep.own _ _ _ _ _ _ _ _ rfl ?_ | refine Deep.loc _ _ _ _ _ rfl ?_ | refine Deep.ifc _ _ _ ?_ | refine Deep.fn _ _ _ _ _ ?_ ?_ | refine DeepL.cons _ _ _ _ ?_ ?_ | refine DeepLL.cons _ _ _ _ ?_ ?_))), hE, ?_⟩))))); ((conv=>whnf);repeat(refine And.intro rfl ?_;(conv=>whnf))))
  exact .refl _
def c224 : PC := .seq (.ops [⟨(some 4), .move (.const (.bool false)), none, 0⟩] false) (.seq (.ops [⟨(some 5), .load1 (.tmp 1), none, 0⟩,
    ⟨(some 6), .move (.tmp 0), none, 0⟩,
    ⟨(some 7), .iaddr 1 (.tmp 5) (.tmp 6), none, 0⟩,
    ⟨(some 8), .load1 (.tmp 7), none, 0⟩,
    ⟨(some 9), .move (.tmp 8), none, 0⟩,
    ⟨(some 10), .load1 (.tmp 2), (some (9, true)), 0⟩,
    ⟨(some 11), .move (.tmp 0), (some (9, true)), 0⟩,
    ⟨(some 12), .iaddr 1 (.tmp 10) (.tmp 11), (some (9, true)), 0⟩,
    ⟨(some 13), .load1 (.tmp 12), (some (9, true)), 0⟩,
    ⟨(some 14), .pick (.tmp 9) (.tmp 13) (.const (.bool false)), none, 0⟩,
    ⟨(some 4), .move (.tmp 14), none, 0⟩] false) (.ret))
set_option maxRecDepth 100000 in
theorem c224_ok : FunOK Try.prog 224 15 [.tmp 4] c224 := ⟨⟨Try.f224, Try.func224, rfl, by kernel_rfl, rfl, by kernel_rfl⟩⟩
theorem la_both1 (n : Nat) (a b : Nat → Bool) (i : Nat) (hi : i < n) : PCall Try.prog 224 [.sc (.int .i64 i), .ipt [dbl n a], .ipt [dbl n b]] (.sc (.bool (andF a b i))) := by
  refine pcall_intro c224_ok (by simp) (by simp [PureL, Pure, pure_dbl]) ?_ (by simp [Pure])
  have e : andF a b i = (a i && b i) := rfl
  (apply rd_sound; focus (repeat' constructor))
  ((conv=>whnf);repeat(refine And.intro rfl ?_;(conv=>whnf)))
  refine ⟨by omega, _, rbl_atN i (by omega) hi, ?_⟩
  ((conv=>whnf);repeat(refine And.intro rfl ?_;(conv=>whnf)))
  cases r : a i
  · rw [r] at e
    ((conv=>whnf);repeat(refine And.intro rfl ?_;(conv=>whnf)))
    rw [e]
    exact .refl _
  · rw [r] at e
    ((conv=>whnf);repeat(refine And.intro rfl ?_;(conv=>whnf)))
    refine ⟨by omega, _, rbl_atN i (by omega) hi, ?_⟩
    ((conv=>whnf);repeat(refine And.intro rfl ?_;(conv=>whnf)))
    rw [e]
    exact .refl _
def c194 : PC := .seq (.ops [⟨(some 4), .box (.tmp 1), none, 0⟩,
    ⟨(some 5), .box (.tmp 2), none, 0⟩,
    ⟨(some 6), .move (.const (.slice none 0 0)), none, 0⟩] false) (.seq (.ops [⟨(some 7), .move (.tmp 0), none, 0⟩,
    ⟨(some 8), .mkfn (.func 224) [] [(.tmp 4), (.tmp 5)], none, 0⟩,
    ⟨(some 9), .call 190 [(.tmp 7), (.tmp 8)], none, 0⟩,
    ⟨(some 6), .move (.tmp 9), none, 0⟩] false) (.ret))
set_option maxRecDepth 100000 in
theorem c194_ok : FunOK Try.prog 194 10 [.tmp 6] c194 := ⟨⟨Try.f194, Try.func194, rfl, by kernel_rfl, rfl, by kernel_rfl⟩⟩
theorem la_both (W : WorldD) (h6 : W.next.length ≤ 1000000) (a b : Nat → Bool) : PCall Try.prog 194 [dlab W, dbl W.next.length a, dbl W.next.length b] (dbl W.next.length (andF a b)) := by
  have hE := la_each W h6 (andF a b) 224 [.ipt [dbl W.next.length a], .ipt [dbl W.next.length b]] (by simp [PureL, Pure, pure_dbl]) (fun i hi => la_both1 W.next.length a b i hi)
  refine pcall_intro c194_ok (by simp) (by simp [PureL, pure_dlab, pure_dbl]) ?_ (pure_dbl _ _)
  (apply rd_sound; focus (repeat' constructor))
  ((conv=>whnf);repeat(refine And.intro rfl ?_;(conv=>whnf)))
  (refine .inr (.inr (.inr (.inr (.inr (.inl ⟨rfl, _, _, (by (repeat' (first | exact Deep.refl _ | exact Deep.none _ | exact deep_row _ | exact DeepL.nil | exact DeepLL.nil | refine Deep.agg _ _ ?_ | refine Deep.tup _ _ ?_ | refine Deep.own _ _ _ _ _ _ _ _ rfl ?_ | refine Deep.loc _ _ _ _ _ rfl ?_ | refine Deep.ifc _ _ _ ?_ | refine Deep.fn _ _ _ _ _ ?_ ?_ | refine DeepL.cons _ _ _ _ ?_ ?_ | refine DeepLL.cons _ _ _ _ ?_ ?_))), hE, ?_⟩))))); ((conv=>whnf);repeat(refine And.intro rfl ?_;(conv=>whnf))))
  exact .refl _
theorem la_bothO (W : WorldD) (h6 : W.next.length ≤ 1000000) (a b : Nat → Bool) : ACall Try.prog 194 [dlab W, dbl W.next.length a, dbl W.next.length b] [] (.own 2 0 0 W.next.length) [.row true [dbl W.next.length a], .row true [dbl W.next.length b], .vec true 0 1 (rbl W.next.length (andF a b))] := by
  have hE := la_each2 W h6 (andF a b) 224 (dbl W.next.length a) (dbl W.next.length b) (pure_dbl _ _) (pure_dbl _ _) (fun i hi => la_both1 W.next.length a b i hi)
  refine acall_intro c194_ok (by simp) (by simp) ?_ (by simp [Under]) (by simp [AObj.under, UnderL, underLL_pure _ (pure_rbl _ _)])
  (apply rd_sound; focus (repeat' constructor))
  ((conv=>whnf);repeat(refine And.intro rfl ?_;(conv=>whnf)))
  (refine .inr (.inr (.inl ⟨rfl, _, _, hE, ?_⟩)); ((conv=>whnf);repeat(refine And.intro rfl ?_;(conv=>whnf))))
  exact Nat.le_refl _
def c225_1 : PC := .seq (.ops [⟨(some 17), .bin .lss (.tmp 16) (.tmp 15), none, 0⟩] false) (.seq (.cond (.tmp 17) (.skip) (.exit 0)) (.seq (.block 1 (.seq (.ops [⟨(some 18), .iaddr 1 (.tmp 14) (.tmp 16), none, 0⟩,
    ⟨(some 19), .load1 (.tmp 18), none, 0⟩,
    ⟨(some 6), .move (.tmp 19), none, 0⟩] false) (.seq (.ops [⟨(some 20), .load1 (.tmp 2), none, 0⟩,
    ⟨(some 21), .move (.tmp 6), none, 0⟩,
    ⟨(some 22), .iaddr 1 (.tmp 20) (.tmp 21), none, 0⟩,
    ⟨(some 23), .load1 (.tmp 22), none, 0⟩,
    ⟨(some 24), .move (.tmp 23), none, 0⟩,
    ⟨(some 25), .load1 (.tmp 1), (some (24, true)), 0⟩,
    ⟨(some 26), .nilchk (.tmp 25), (some (24, true)), 0⟩,
    ⟨(some 27), .faddr 4 (.tmp 26), (some (24, true)), 0⟩,
    ⟨(some 28), .load1 (.tmp 27), (some (24, true)), 0⟩,
    ⟨(some 29), .move (.tmp 6), (some (24, true)), 0⟩,
    ⟨(some 30), .iaddr 1 (.tmp 28) (.tmp 29), (some (24, true)), 0⟩,
    ⟨(some 31), .load1 (.tmp 30), (some (24, true)), 0⟩,
    ⟨(some 32), .pick (.tmp 24) (.tmp 31) (.const (.bool false)), none, 0⟩] false) (.cond (.tmp 32) (.seq (.ops [⟨(some 4), .move (.const (.bool true)), none, 0⟩] false) (.ret)) (.skip))))) (.ops [⟨(some 33), .bin .add (.tmp 16) (.const (.int .i64 1)), none, 0⟩,
    ⟨(some 16), .move (.tmp 33), none, 0⟩] false)))
def c225 : PC := .seq (.ops [⟨(some 4), .move (.const (.bool false)), none, 0⟩] false) (.seq (.seq (.ops [⟨(some 7), .load1 (.tmp 1), none, 0⟩,
    ⟨(some 8), .nilchk (.tmp 7), none, 0⟩,
    ⟨(some 9), .faddr 0 (.tmp 8), none, 0⟩,
    ⟨(some 10), .faddr 1 (.tmp 9), none, 0⟩,
    ⟨(some 11), .load1 (.tmp 10), none, 0⟩,
    ⟨(some 12), .move (.tmp 0), none, 0⟩,
    ⟨(some 13), .iaddr 1 (.tmp 11) (.tmp 12), none, 0⟩,
    ⟨(some 14), .load1 (.tmp 13), none, 0⟩,
    ⟨(some 15), .len (.tmp 14), none, 0⟩,
    ⟨(some 16), .move (.const (.int .i64 0)), none, 0⟩] false) (.block 0 (.loop c225_1))) (.seq (.ops [⟨(some 4), .move (.const (.bool false)), none, 0⟩] false) (.ret)))
set_option maxRecDepth 100000 in
theorem c225_ok : FunOK Try.prog 225 34 [.tmp 4] c225 := ⟨⟨Try.f225, Try.func225, rfl, by kernel_rfl, rfl, by kernel_rfl⟩⟩
theorem la_ex1 (W : WorldD) (hW : W.Fits) (hc : W.chk = 0) (a : Nat → Bool) (i : Nat) (hi : i < W.next.length) : PCall Try.prog 225 [.sc (.int .i64 i), .ipt [dlab W], .ipt [dbl W.next.length a]] (.sc (.bool (exF W a i))) := by
  obtain ⟨_, h600, h80, _, hnx, hfr⟩ := chk_label W hc
  have hrow := fun k => inB_row (g := W.next) (fun l hl => (hnx l hl).2) k
  have hFN : FitsG W.next := ⟨hW.next, hW.nextEach⟩
  have hgF := hFN.at i
  refine pcall_intro c225_ok (by simp) (by simp [PureL, Pure, pure_dbl, pure_dlab]) ?_ (by simp [Pure])
  have e : exF W a i = (W.next.getD i []).any fun x => a x.toNat && fairF W x.toNat := rfl
  rw [e]
  have hr := hrow i
  unfold dlab lcel
  generalize fairF W = f at *
  (apply rd_sound; focus (repeat' constructor))
  ((conv=>whnf);repeat(refine And.intro rfl ?_;(conv=>whnf)))
  refine ⟨by omega, _, gridD_at (g := W.next) (k := i) (by omega) hi, ?_⟩
  ((conv=>whnf);repeat(refine And.intro rfl ?_;(conv=>whnf)))
  rw [List.length_map]
  generalize W.next.getD i [] = l at *
  refine pwp_for [1, 2, 14, 15] (fun k : Nat => [(16, .sc (.int .i64 k))]) (fun _ => []) (fun k => k ≤ l.length ∧ ∀ j (hj : j < l.length), j < k → (a l[j].toNat && f l[j].toNat) = false) (fun k => l.length - k) 0 ?_
  ((conv=>whnf);repeat(refine And.intro rfl ?_;(conv=>whnf)))
  refine ⟨⟨by omega, fun j hj h => by omega⟩, by (repeat' (first | exact trivial | refine And.intro rfl ?_)), rfl, ?_⟩
  rintro k ⟨hk, hno⟩
  ((conv=>whnf);repeat(refine And.intro rfl ?_;(conv=>whnf)))
  (apply rd_sound; focus (repeat' constructor))
  ((conv=>whnf);repeat(refine And.intro rfl ?_;(conv=>whnf)))
  (refine ifK_split (fun q0 => ?_) (fun q0 => ?_) <;> (rw [q0]; ((conv=>whnf);repeat(refine And.intro rfl ?_;(conv=>whnf)))))
  · have q0 : k < l.length := by ((try simp only [oo, reduceCtorEq] at *) <;> omega)
    have hx := inB_mem hr (mem_getD q0)
    have next : (a (l.getD k 0).toNat && f (l.getD k 0).toNat) = false → ∀ j (hj : j < l.length), j < k + 1 → (a l[j].toNat && f l[j].toNat) = false := fun h j hj hjk => by
      by_cases e : j = k
      · subst e; rw [List.getD_eq_getElem?_getD, List.getElem?_eq_getElem q0] at h; exact h
      · exact hno j hj (by omega)
    have yes : (a (l.getD k 0).toNat && f (l.getD k 0).toNat) = true → (l.any fun x => a x.toNat && f x.toNat) = true := fun h => List.any_eq_true.2 ⟨_, mem_getD q0, h⟩
    refine ⟨by omega, _, intsD_at (l := l) (k := k) (by omega) q0, ?_⟩
    ((conv=>whnf);repeat(refine And.intro rfl ?_;(conv=>whnf)))
    generalize l.getD k 0 = x at *
    refine ⟨by omega, _, rbl_atN x.toNat (by omega) (by omega), ?_⟩
    ((conv=>whnf);repeat(refine And.intro rfl ?_;(conv=>whnf)))
    cases r : a x.toNat
    · rw [r] at next
      ((conv=>whnf);repeat(refine And.intro rfl ?_;(conv=>whnf)))
      (refine .inl ⟨by (unfold InR; rw [IntKind.wrap_i64]; omega), ?_⟩; ((conv=>whnf);repeat(refine And.intro rfl ?_;(conv=>whnf))))
      exact ⟨k + 1, ⟨by omega, next rfl⟩, by dsimp only; omega, leB_envH (by (repeat' (first | exact trivial | refine And.intro rfl ?_))) rfl⟩
    · rw [r] at next yes
      ((conv=>whnf);repeat(refine And.intro rfl ?_;(conv=>whnf)))
      refine ⟨by omega, _, rbl_atN x.toNat (by omega) (by omega), ?_⟩
      ((conv=>whnf);repeat(refine And.intro rfl ?_;(conv=>whnf)))
      cases r2 : f x.toNat
      · rw [r2] at next
        ((conv=>whnf);repeat(refine And.intro rfl ?_;(conv=>whnf)))
        (refine .inl ⟨by (unfold InR; rw [IntKind.wrap_i64]; omega), ?_⟩; ((conv=>whnf);repeat(refine And.intro rfl ?_;(conv=>whnf))))
        exact ⟨k + 1, ⟨by omega, next rfl⟩, by dsimp only; omega, leB_envH (by (repeat' (first | exact trivial | refine And.intro rfl ?_))) rfl⟩
      · rw [r2] at yes
        ((conv=>whnf);repeat(refine And.intro rfl ?_;(conv=>whnf)))
        rw [yes rfl]
        exact .refl _
  · have q0 : k = l.length := by have : ¬ k < l.length := by ((try simp only [oo, reduceCtorEq] at *) <;> omega)
                                 omega
    rw [any_no fun j hj => hno j hj (by omega)]
    exact .refl _
def c196 : PC := .seq (.ops [⟨(some 2), .box (.tmp 0), none, 0⟩,
    ⟨(some 3), .box (.tmp 1), none, 0⟩,
    ⟨(some 4), .move (.const (.slice none 0 0)), none, 0⟩] false) (.seq (.ops [⟨(some 5), .load1 (.tmp 2), none, 0⟩,
    ⟨(some 6), .mkfn (.func 225) [] [(.tmp 2), (.tmp 3)], none, 0⟩,
    ⟨(some 7), .call 190 [(.tmp 5), (.tmp 6)], none, 0⟩,
    ⟨(some 4), .move (.tmp 7), none, 0⟩] false) (.ret))
set_option maxRecDepth 100000 in
theorem c196_ok : FunOK Try.prog 196 8 [.tmp 4] c196 := ⟨⟨Try.f196, Try.func196, rfl, by kernel_rfl, rfl, by kernel_rfl⟩⟩
theorem la_ex (W : WorldD) (hW : W.Fits) (hc : W.chk = 0) (a : Nat → Bool) : PCall Try.prog 196 [dlab W, dbl W.next.length a] (dbl W.next.length (exF W a)) := by
  obtain ⟨_, h600, _⟩ := chk_label W hc
  have hE := la_each W (by omega) (exF W a) 225 [.ipt [dlab W], .ipt [dbl W.next.length a]] (by simp [PureL, Pure, pure_dbl, pure_dlab]) (fun i hi => la_ex1 W hW hc a i hi)
  refine pcall_intro c196_ok (by simp) (by simp [PureL, pure_dlab, pure_dbl]) ?_ (pure_dbl _ _)
  (apply rd_sound; focus (repeat' constructor))
  ((conv=>whnf);repeat(refine And.intro rfl ?_;(conv=>whnf)))
  (refine .inr (.inr (.inr (.inr (.inr (.inl ⟨rfl, _, _, (by (repeat' (first | exact Deep.refl _ | exact Deep.none _ | exact deep_row _ | exact DeepL.nil | exact DeepLL.nil | refine Deep.agg _ _ ?_ | refine Deep.tup _ _ ?_ | refine Deep.own _ _ _ _ _ _ _ _ rfl ?_ | refine Deep.loc _ _ _ _ _ rfl ?_ | refine Deep.ifc _ _ _ ?_ | refine Deep.fn _ _ _ _ _ ?_ ?_ | refine DeepL.cons _ _ _ _ ?_ ?_ | refine DeepLL.cons _ _ _ _ ?_ ?_))), hE, ?_⟩))))); ((conv=>whnf);repeat(refine And.intro rfl ?_;(conv=>whnf))))
  exact .refl _
def c198 : PC := .seq (.ops [⟨(some 4), .move (.const (.slice none 0 0)), none, 0⟩] false) (.seq (.ops [⟨(some 5), .move (.tmp 0), none, 0⟩,
    ⟨(some 6), .nilchk (.tmp 5), none, 0⟩,
    ⟨(some 7), .faddr 0 (.tmp 6), none, 0⟩,
    ⟨(some 8), .loadA 4 (.tmp 7), none, 0⟩,
    ⟨(some 9), .move (.tmp 1), none, 0⟩,
    ⟨(some 10), .call 84 [(.tmp 8), (.tmp 9)], none, 0⟩,
    ⟨(some 4), .move (.tmp 10), none, 0⟩] false) (.ret))
set_option maxRecDepth 100000 in
theorem c198_ok : FunOK Try.prog 198 11 [.tmp 4] c198 := ⟨⟨Try.f198, Try.func198, rfl, by kernel_rfl, rfl, by kernel_rfl⟩⟩
theorem la_eg (W : WorldD) (hW : W.Fits) (hc : W.chk = 0) (a : Nat → Bool) : PCall Try.prog 198 [dlab W, dbl W.next.length a] (dbl W.next.length (egF W a)) := by
  have h := wo_Within W hW hc a
  refine pcall_intro c198_ok (by simp) (by simp [PureL, pure_dlab, pure_dbl]) ?_ (pure_dbl _ _)
  unfold dworld WorldD.cells at h
  (apply rd_sound; focus (repeat' constructor))
  ((conv=>whnf);repeat(refine And.intro rfl ?_;(conv=>whnf)))
  (refine .inl ⟨_, h, ?_⟩; ((conv=>whnf);repeat(refine And.intro rfl ?_;(conv=>whnf))))
  exact .refl _
end Go.Proofs.Ytfgklgjbnpjpoaa
