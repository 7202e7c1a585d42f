/-
  La1 La2 La3 joined. No statement is proved here.
-/
import Derived.Test.YtfgklgjbnpjpoaaQWj
import Derived.Test.YtfgklgjbnpjpoaaQEu0
import Derived.Test.YtfgklgjbnpjpoaaQWxA
import Derived.Test.YtfgklgjbnpjpoaaQCk
import Derived.Test.YtfgklgjbnpjpoaaQLa
namespace Go.Proofs.Ytfgklgjbnpjpoaa
/-! ### XLa1 -/
section
open Go.RowKit
set_option linter.unusedSimpArgs false
set_option linter.unusedVariables false
noncomputable def fairF (W : WorldD) : Nat → Bool := fwB (resG W.next allT) (W.fair.map setB)
noncomputable def lcel (W : WorldD) : List D := [dints W.start, dgrid W.next, dlet W.label, dgrid W.fair, dbl W.next.length (fairF W), dgrid (turnG W.next W.next.length)]
noncomputable def dlab (W : WorldD) : D := .ipt (lcel W)
theorem pure_lcel (W : WorldD) : PureL (lcel W) := by simp [lcel, PureL, pure_dints, pure_dgrid, pure_dlet, pure_dbl]
theorem pure_dlab (W : WorldD) : Pure (dlab W) := by simp only [dlab, Pure]; exact pure_lcel W
@[simp] theorem under_dbl2 {m n : Nat} (f : Nat → Bool) : Under m (dbl n f) ↔ True := ⟨fun _ => trivial, fun _ => under_pure _ (pure_dbl n f)⟩
def notF (a : Nat → Bool) : Nat → Bool := fun i => !a i
def andF (a b : Nat → Bool) : Nat → Bool := fun i => a i && b i
def orF (a b : Nat → Bool) : Nat → Bool := fun i => a i || b i
noncomputable def exF (W : WorldD) (a : Nat → Bool) : Nat → Bool := fun i => (W.next.getD i []).any fun x => a x.toNat && fairF W x.toNat
noncomputable def euF (W : WorldD) (a b : Nat → Bool) : Nat → Bool := euB W.next a (andF b (fairF W))
noncomputable def egF (W : WorldD) (a : Nat → Bool) : Nat → Bool := fwB (resG W.next a) (W.fair.map setB)
noncomputable def auF (W : WorldD) (a b : Nat → Bool) : Nat → Bool := notF (orF (euF W (notF b) (andF (notF a) (notF b))) (egF W (notF b)))
def c190_1 : PC := .seq (.ops [⟨some 17,.bin .lss (.tmp 16) (.tmp 15),none,0⟩] false) (.seq (.cond (.tmp 17) (.skip) (.exit 0)) (.seq (.block 1 (.seq (.ops [⟨some 18,.move (.tmp 16),none,0⟩,
 ⟨some 6,.move (.tmp 18),none,0⟩] false) (.ops [⟨some 19,.move (.tmp 5),none,0⟩,
 ⟨some 20,.move (.tmp 6),none,0⟩,
 ⟨some 21,.move (.tmp 1),none,0⟩,
 ⟨some 22,.move (.tmp 6),none,0⟩,
 ⟨some 23,.callv (.tmp 21) [(.tmp 22)],none,0⟩,
 ⟨some 24,.iaddr 1 (.tmp 19) (.tmp 20),none,0⟩,
 ⟨none,.store 1 (.tmp 24) (.tmp 23),none,0⟩] false))) (.ops [⟨some 25,.bin .add (.tmp 16) (.const (.int .i64 1)),none,0⟩,
 ⟨some 16,.move (.tmp 25),none,0⟩] false)))
def c190 : PC := .seq (.ops [⟨some 4,.move (.const (.slice none 0 0)),none,0⟩] false) (.seq (.ops [⟨some 7,.move (.tmp 0),none,0⟩,
 ⟨some 8,.nilchk (.tmp 7),none,0⟩,
 ⟨some 9,.faddr 0 (.tmp 8),none,0⟩,
 ⟨some 10,.faddr 1 (.tmp 9),none,0⟩,
 ⟨some 11,.load1 (.tmp 10),none,0⟩,
 ⟨some 12,.len (.tmp 11),none,0⟩,
 ⟨some 13,.mslice 1 1 [(.bool false)] (.tmp 12) (.tmp 12),none,0⟩,
 ⟨some 5,.move (.tmp 13),none,0⟩] false) (.seq (.seq (.ops [⟨some 14,.move (.tmp 5),none,0⟩,
 ⟨some 15,.len (.tmp 14),none,0⟩,
 ⟨some 16,.move (.const (.int .i64 0)),none,0⟩] false) (.block 0 (.loop c190_1))) (.seq (.ops [⟨some 26,.move (.tmp 5),none,0⟩,
 ⟨some 4,.move (.tmp 26),none,0⟩] false) (.ret))))
set_option maxRecDepth 100000 in
theorem c190_ok : FunOK Try.prog 190 27 [.tmp 4] c190 := ⟨⟨Try.f190, Try.func190, rfl, by kernel_rfl, rfl, by kernel_rfl⟩⟩
theorem la_each (W : WorldD) (h6 : W.next.length ≤ 1000000) (p : Nat → Bool) (cl : FuncId) (caps : List D) (hcaps : PureL caps) (hc : ∀ i : Nat, i < W.next.length → PCall Try.prog cl (.sc (.int .i64 i) :: caps) (.sc (.bool (p i)))) :
    PCall Try.prog 190 [dlab W, .fn (.func cl) [] caps] (dbl W.next.length p) := by
  refine pcall_intro c190_ok (by simp) (by simp [PureL, Pure, pure_dlab, hcaps]) ?_ (pure_dbl _ _)
  unfold dlab lcel
  (apply rd_sound; focus (repeat' constructor))
  ((conv=>whnf);repeat(refine .intro rfl ?_;conv=>whnf))
  rw [List.length_map]
  refine ⟨by omega, by omega, by omega, ?_⟩
  rw [Int.toNat_natCast, show List.map D.sc [Value.bool false] = [D.sc (.bool false)] from rfl, rbl_rep]
  ((conv=>whnf);repeat(refine .intro rfl ?_;conv=>whnf))
  refine pwp_for [1, 5, 15] (fun k : Nat => [(16, .sc (.int .i64 k))]) (fun k => [(0, .vec true 0 1 (rbl W.next.length fun i => if i < k then p i else false))]) (fun k => k ≤ W.next.length) (fun k => W.next.length - k) 0 ?_
  ((conv=>whnf);repeat(refine .intro rfl ?_;conv=>whnf))
  refine ⟨by omega, by (repeat' (first | exact trivial | refine And.intro rfl ?_)), by simp; rfl, ?_⟩
  rintro k hk
  ((conv=>whnf);repeat(refine .intro rfl ?_;conv=>whnf))
  (apply rd_sound; focus (repeat' constructor))
  ((conv=>whnf);repeat(refine .intro rfl ?_;conv=>whnf))
  (refine ifK_split (fun q0 => ?_) (fun q0 => ?_) <;> (rw [q0]; ((conv=>whnf);repeat(refine .intro rfl ?_;conv=>whnf))))
  · have q0 : k < W.next.length := by ((try simp only[oo,reduceCtorEq]at*)<;>omega)
    (refine .inl ⟨_, (hc k q0), ?_⟩; ((conv=>whnf);repeat(refine .intro rfl ?_;conv=>whnf)))
    (refine ⟨by omega, (by first | omega | (simp; done) | (simp; omega) | (simp only [ll]; omega)), ?_⟩; ((conv=>whnf);repeat(refine .intro rfl ?_;conv=>whnf)))
    refine ⟨_, rbl_atN k (by omega) q0, ?_⟩
    ((conv=>whnf);repeat(refine .intro rfl ?_;conv=>whnf))
    (refine .inl ⟨by (unfold InR; rw [IntKind.wrap_i64]; omega), ?_⟩; ((conv=>whnf);repeat(refine .intro rfl ?_;conv=>whnf)))
    refine ⟨k + 1, by omega, by dsimp only; omega, leB_envH (by (repeat' (first | exact trivial | refine And.intro rfl ?_))) ?_⟩
    rw [rbl_put (i := k) (f' := fun i => if i < k + 1 then p i else false) (by omega) fun v _ => by
      by_cases e : v = k
      · subst e; rw [if_pos (by omega), if_pos rfl]
      · rw [if_neg e]
        by_cases e2 : v < k
        · rw [if_pos e2, if_pos (by omega)]
        · rw [if_neg e2, if_neg (by omega)]]
    rfl
  · have q0 : k = W.next.length := by have : ¬ k < W.next.length := by ((try simp only[oo,reduceCtorEq]at*)<;>omega)
                                      omega
    subst q0
    rw [rbl_congr (g' := p) fun i hi => if_pos hi]
    exact deep_vec rfl
/-- The same with what the closure holds in two boxes: the list is the caller's. -/
theorem la_each2 (W : WorldD) (h6 : W.next.length ≤ 1000000) (p : Nat → Bool) (cl : FuncId) (x y : D) (hx : Pure x) (hy : Pure y) (hc : ∀ i : Nat, i < W.next.length → PCall Try.prog cl [.sc (.int .i64 i), .ipt [x], .ipt [y]] (.sc (.bool (p i)))) :
    ACall Try.prog 190 [dlab W, .fn (.func cl) [] [.loc 0 0, .loc 1 0]] [.row true [x], .row true [y]] (.own 2 0 0 W.next.length) [.row true [x], .row true [y], .vec true 0 1 (rbl W.next.length p)] := by
  refine acall_intro c190_ok (by simp) (by simp) ?_ (by simp [Under]) (by
    intro o ho
    simp only [List.mem_cons, List.not_mem_nil, or_false] at ho
    rcases ho with rfl | rfl | rfl
    · exact ⟨under_pure _ hx, trivial⟩
    · exact ⟨under_pure _ hy, trivial⟩
    · exact underLL_pure _ (pure_rbl _ _))
  unfold dlab lcel
  (apply rd_sound; focus (repeat' constructor))
  ((conv=>whnf);repeat(refine .intro rfl ?_;conv=>whnf))
  rw [List.length_map]
  refine ⟨by omega, by omega, by omega, ?_⟩
  rw [Int.toNat_natCast, show List.map D.sc [Value.bool false] = [D.sc (.bool false)] from rfl, rbl_rep]
  ((conv=>whnf);repeat(refine .intro rfl ?_;conv=>whnf))
  refine pwp_for [1, 5, 15] (fun k : Nat => [(16, .sc (.int .i64 k))]) (fun k => [(2, .vec true 0 1 (rbl W.next.length fun i => if i < k then p i else false))]) (fun k => k ≤ W.next.length) (fun k => W.next.length - k) 0 ?_
  ((conv=>whnf);repeat(refine .intro rfl ?_;conv=>whnf))
  refine ⟨by omega, by (repeat' (first | exact trivial | refine And.intro rfl ?_)), by simp; rfl, ?_⟩
  rintro k hk
  ((conv=>whnf);repeat(refine .intro rfl ?_;conv=>whnf))
  (apply rd_sound; focus (repeat' constructor))
  ((conv=>whnf);repeat(refine .intro rfl ?_;conv=>whnf))
  (refine ifK_split (fun q0 => ?_) (fun q0 => ?_) <;> (rw [q0]; ((conv=>whnf);repeat(refine .intro rfl ?_;conv=>whnf))))
  · have q0 : k < W.next.length := by ((try simp only[oo,reduceCtorEq]at*)<;>omega)
    (refine .inr (.inl ⟨_, _, (by (repeat' (first | exact Deep.refl _ | exact Deep.none _ | exact deep_row _ | exact DeepL.nil | exact DeepLL.nil | refine Deep.agg _ _ ?_ | refine Deep.tup _ _ ?_ | refine Deep.own _ _ _ _ _ _ _ _ rfl ?_ | refine Deep.loc _ _ _ _ _ rfl ?_ | refine Deep.ifc _ _ _ ?_ | refine Deep.fn _ _ _ _ _ ?_ ?_ | refine DeepL.cons _ _ _ _ ?_ ?_ | refine DeepLL.cons _ _ _ _ ?_ ?_))), (hc k q0), rfl, ?_⟩); ((conv=>whnf);repeat(refine .intro rfl ?_;conv=>whnf)))
    (refine ⟨by omega, (by first | omega | (simp; done) | (simp; omega) | (simp only [ll]; omega)), ?_⟩; ((conv=>whnf);repeat(refine .intro rfl ?_;conv=>whnf)))
    refine ⟨_, rbl_atN k (by omega) q0, ?_⟩
    ((conv=>whnf);repeat(refine .intro rfl ?_;conv=>whnf))
    (refine .inl ⟨by (unfold InR; rw [IntKind.wrap_i64]; omega), ?_⟩; ((conv=>whnf);repeat(refine .intro rfl ?_;conv=>whnf)))
    refine ⟨k + 1, by omega, by dsimp only; omega, leB_envH (by (repeat' (first | exact trivial | refine And.intro rfl ?_))) ?_⟩
    rw [rbl_put (i := k) (f' := fun i => if i < k + 1 then p i else false) (by omega) fun v _ => by
      by_cases e : v = k
      · subst e; rw [if_pos (by omega), if_pos rfl]
      · rw [if_neg e]
        by_cases e2 : v < k
        · rw [if_pos e2, if_pos (by omega)]
        · rw [if_neg e2, if_neg (by omega)]]
    rfl
  · have q0 : k = W.next.length := by have : ¬ k < W.next.length := by ((try simp only[oo,reduceCtorEq]at*)<;>omega)
                                      omega
    subst q0
    rw [rbl_congr (g' := p) fun i hi => if_pos hi]
    exact ⟨rfl, Nat.le_refl _⟩
def c223 : PC := .seq (.ops [⟨some 3,.move (.const (.bool false)),none,0⟩] false) (.seq (.ops [⟨some 4,.load1 (.tmp 1),none,0⟩,
 ⟨some 5,.move (.tmp 0),none,0⟩,
 ⟨some 6,.iaddr 1 (.tmp 4) (.tmp 5),none,0⟩,
 ⟨some 7,.load1 (.tmp 6),none,0⟩,
 ⟨some 8,.un .not (.tmp 7),none,0⟩,
 ⟨some 3,.move (.tmp 8),none,0⟩] false) (.ret))
set_option maxRecDepth 100000 in
theorem c223_ok : FunOK Try.prog 223 9 [.tmp 3] c223 := ⟨⟨Try.f223, Try.func223, rfl, by kernel_rfl, rfl, by kernel_rfl⟩⟩
theorem la_not1 (n : Nat) (a : Nat → Bool) (i : Nat) (hi : i < n) : PCall Try.prog 223 [.sc (.int .i64 i), .ipt [dbl n a]] (.sc (.bool (notF a i))) := by
  refine pcall_intro c223_ok (by simp) (by simp [PureL, Pure, pure_dbl]) ?_ (by simp [Pure])
  (apply rd_sound; focus (repeat' constructor))
  ((conv=>whnf);repeat(refine .intro rfl ?_;conv=>whnf))
  refine ⟨by omega, _, rbl_atN i (by omega) hi, ?_⟩
  ((conv=>whnf);repeat(refine .intro rfl ?_;conv=>whnf))
  exact .refl _
def c193 : PC := .seq (.ops [⟨some 3,.box (.tmp 1),none,0⟩,
 ⟨some 4,.move (.const (.slice none 0 0)),none,0⟩] false) (.seq (.ops [⟨some 5,.move (.tmp 0),none,0⟩,
 ⟨some 6,.mkfn (.func 223) [] [(.tmp 3)],none,0⟩,
 ⟨some 7,.call 190 [(.tmp 5), (.tmp 6)],none,0⟩,
 ⟨some 4,.move (.tmp 7),none,0⟩] false) (.ret))
set_option maxRecDepth 100000 in
theorem c193_ok : FunOK Try.prog 193 8 [.tmp 4] c193 := ⟨⟨Try.f193, Try.func193, rfl, by kernel_rfl, rfl, by kernel_rfl⟩⟩
theorem la_not (W : WorldD) (h6 : W.next.length ≤ 1000000) (a : Nat → Bool) : PCall Try.prog 193 [dlab W, dbl W.next.length a] (dbl W.next.length (notF a)) := by
  have hE := la_each W h6 (notF a) 223 [.ipt [dbl W.next.length a]] (by simp [PureL, Pure, pure_dbl]) (fun i hi => la_not1 W.next.length a i hi)
  refine pcall_intro c193_ok (by simp) (by simp [PureL, pure_dlab, pure_dbl]) ?_ (pure_dbl _ _)
  (apply rd_sound; focus (repeat' constructor))
  ((conv=>whnf);repeat(refine .intro rfl ?_;conv=>whnf))
  (refine .inr (.inr (.inr (.inr (.inr (.inl ⟨rfl, _, _, (by (repeat' (first | exact Deep.refl _ | exact Deep.none _ | exact deep_row _ | exact DeepL.nil | exact DeepLL.nil | refine Deep.agg _ _ ?_ | refine Deep.tup _ _ ?_ | refine Deep.own _ _ _ _ _ _ _ _ rfl ?_ | refine Deep.loc _ _ _ _ _ rfl ?_ | refine Deep.ifc _ _ _ ?_ | refine Deep.fn _ _ _ _ _ ?_ ?_ | refine DeepL.cons _ _ _ _ ?_ ?_ | refine DeepLL.cons _ _ _ _ ?_ ?_))), hE, ?_⟩))))); ((conv=>whnf);repeat(refine .intro rfl ?_;conv=>whnf)))
  exact .refl _
def c224 : PC := .seq (.ops [⟨some 4,.move (.const (.bool false)),none,0⟩] false) (.seq (.ops [⟨some 5,.load1 (.tmp 1),none,0⟩,
 ⟨some 6,.move (.tmp 0),none,0⟩,
 ⟨some 7,.iaddr 1 (.tmp 5) (.tmp 6),none,0⟩,
 ⟨some 8,.load1 (.tmp 7),none,0⟩,
 ⟨some 9,.move (.tmp 8),none,0⟩,
 ⟨some 10,.load1 (.tmp 2),some (9,true),0⟩,
 ⟨some 11,.move (.tmp 0),some (9,true),0⟩,
 ⟨some 12,.iaddr 1 (.tmp 10) (.tmp 11),some (9,true),0⟩,
 ⟨some 13,.load1 (.tmp 12),some (9,true),0⟩,
 ⟨some 14,.pick (.tmp 9) (.tmp 13) (.const (.bool false)),none,0⟩,
 ⟨some 4,.move (.tmp 14),none,0⟩] false) (.ret))
set_option maxRecDepth 100000 in
theorem c224_ok : FunOK Try.prog 224 15 [.tmp 4] c224 := ⟨⟨Try.f224, Try.func224, rfl, by kernel_rfl, rfl, by kernel_rfl⟩⟩
theorem la_both1 (n : Nat) (a b : Nat → Bool) (i : Nat) (hi : i < n) : PCall Try.prog 224 [.sc (.int .i64 i), .ipt [dbl n a], .ipt [dbl n b]] (.sc (.bool (andF a b i))) := by
  refine pcall_intro c224_ok (by simp) (by simp [PureL, Pure, pure_dbl]) ?_ (by simp [Pure])
  have e : andF a b i = (a i && b i) := rfl
  (apply rd_sound; focus (repeat' constructor))
  ((conv=>whnf);repeat(refine .intro rfl ?_;conv=>whnf))
  refine ⟨by omega, _, rbl_atN i (by omega) hi, ?_⟩
  ((conv=>whnf);repeat(refine .intro rfl ?_;conv=>whnf))
  cases r : a i
  · rw [r] at e
    ((conv=>whnf);repeat(refine .intro rfl ?_;conv=>whnf))
    rw [e]
    exact .refl _
  · rw [r] at e
    ((conv=>whnf);repeat(refine .intro rfl ?_;conv=>whnf))
    refine ⟨by omega, _, rbl_atN i (by omega) hi, ?_⟩
    ((conv=>whnf);repeat(refine .intro rfl ?_;conv=>whnf))
    rw [e]
    exact .refl _
def c194 : PC := .seq (.ops [⟨some 4,.box (.tmp 1),none,0⟩,
 ⟨some 5,.box (.tmp 2),none,0⟩,
 ⟨some 6,.move (.const (.slice none 0 0)),none,0⟩] false) (.seq (.ops [⟨some 7,.move (.tmp 0),none,0⟩,
 ⟨some 8,.mkfn (.func 224) [] [(.tmp 4), (.tmp 5)],none,0⟩,
 ⟨some 9,.call 190 [(.tmp 7), (.tmp 8)],none,0⟩,
 ⟨some 6,.move (.tmp 9),none,0⟩] false) (.ret))
set_option maxRecDepth 100000 in
theorem c194_ok : FunOK Try.prog 194 10 [.tmp 6] c194 := ⟨⟨Try.f194, Try.func194, rfl, by kernel_rfl, rfl, by kernel_rfl⟩⟩
theorem la_both (W : WorldD) (h6 : W.next.length ≤ 1000000) (a b : Nat → Bool) : PCall Try.prog 194 [dlab W, dbl W.next.length a, dbl W.next.length b] (dbl W.next.length (andF a b)) := by
  have hE := la_each W h6 (andF a b) 224 [.ipt [dbl W.next.length a], .ipt [dbl W.next.length b]] (by simp [PureL, Pure, pure_dbl]) (fun i hi => la_both1 W.next.length a b i hi)
  refine pcall_intro c194_ok (by simp) (by simp [PureL, pure_dlab, pure_dbl]) ?_ (pure_dbl _ _)
  (apply rd_sound; focus (repeat' constructor))
  ((conv=>whnf);repeat(refine .intro rfl ?_;conv=>whnf))
  (refine .inr (.inr (.inr (.inr (.inr (.inl ⟨rfl, _, _, (by (repeat' (first | exact Deep.refl _ | exact Deep.none _ | exact deep_row _ | exact DeepL.nil | exact DeepLL.nil | refine Deep.agg _ _ ?_ | refine Deep.tup _ _ ?_ | refine Deep.own _ _ _ _ _ _ _ _ rfl ?_ | refine Deep.loc _ _ _ _ _ rfl ?_ | refine Deep.ifc _ _ _ ?_ | refine Deep.fn _ _ _ _ _ ?_ ?_ | refine DeepL.cons _ _ _ _ ?_ ?_ | refine DeepLL.cons _ _ _ _ ?_ ?_))), hE, ?_⟩))))); ((conv=>whnf);repeat(refine .intro rfl ?_;conv=>whnf)))
  exact .refl _
theorem la_bothO (W : WorldD) (h6 : W.next.length ≤ 1000000) (a b : Nat → Bool) : ACall Try.prog 194 [dlab W, dbl W.next.length a, dbl W.next.length b] [] (.own 2 0 0 W.next.length) [.row true [dbl W.next.length a], .row true [dbl W.next.length b], .vec true 0 1 (rbl W.next.length (andF a b))] := by
  have hE := la_each2 W h6 (andF a b) 224 (dbl W.next.length a) (dbl W.next.length b) (pure_dbl _ _) (pure_dbl _ _) (fun i hi => la_both1 W.next.length a b i hi)
  refine acall_intro c194_ok (by simp) (by simp) ?_ (by simp [Under]) (by simp [AObj.under, UnderL, underLL_pure _ (pure_rbl _ _)])
  (apply rd_sound; focus (repeat' constructor))
  ((conv=>whnf);repeat(refine .intro rfl ?_;conv=>whnf))
  (refine .inr (.inr (.inl ⟨rfl, _, _, hE, ?_⟩)); ((conv=>whnf);repeat(refine .intro rfl ?_;conv=>whnf)))
  exact Nat.le_refl _
def c225_1 : PC := .seq (.ops [⟨some 17,.bin .lss (.tmp 16) (.tmp 15),none,0⟩] false) (.seq (.cond (.tmp 17) (.skip) (.exit 0)) (.seq (.block 1 (.seq (.ops [⟨some 18,.iaddr 1 (.tmp 14) (.tmp 16),none,0⟩,
 ⟨some 19,.load1 (.tmp 18),none,0⟩,
 ⟨some 6,.move (.tmp 19),none,0⟩] false) (.seq (.ops [⟨some 20,.load1 (.tmp 2),none,0⟩,
 ⟨some 21,.move (.tmp 6),none,0⟩,
 ⟨some 22,.iaddr 1 (.tmp 20) (.tmp 21),none,0⟩,
 ⟨some 23,.load1 (.tmp 22),none,0⟩,
 ⟨some 24,.move (.tmp 23),none,0⟩,
 ⟨some 25,.load1 (.tmp 1),some (24,true),0⟩,
 ⟨some 26,.nilchk (.tmp 25),some (24,true),0⟩,
 ⟨some 27,.faddr 4 (.tmp 26),some (24,true),0⟩,
 ⟨some 28,.load1 (.tmp 27),some (24,true),0⟩,
 ⟨some 29,.move (.tmp 6),some (24,true),0⟩,
 ⟨some 30,.iaddr 1 (.tmp 28) (.tmp 29),some (24,true),0⟩,
 ⟨some 31,.load1 (.tmp 30),some (24,true),0⟩,
 ⟨some 32,.pick (.tmp 24) (.tmp 31) (.const (.bool false)),none,0⟩] false) (.cond (.tmp 32) (.seq (.ops [⟨some 4,.move (.const (.bool true)),none,0⟩] false) (.ret)) (.skip))))) (.ops [⟨some 33,.bin .add (.tmp 16) (.const (.int .i64 1)),none,0⟩,
 ⟨some 16,.move (.tmp 33),none,0⟩] false)))
def c225 : PC := .seq (.ops [⟨some 4,.move (.const (.bool false)),none,0⟩] false) (.seq (.seq (.ops [⟨some 7,.load1 (.tmp 1),none,0⟩,
 ⟨some 8,.nilchk (.tmp 7),none,0⟩,
 ⟨some 9,.faddr 0 (.tmp 8),none,0⟩,
 ⟨some 10,.faddr 1 (.tmp 9),none,0⟩,
 ⟨some 11,.load1 (.tmp 10),none,0⟩,
 ⟨some 12,.move (.tmp 0),none,0⟩,
 ⟨some 13,.iaddr 1 (.tmp 11) (.tmp 12),none,0⟩,
 ⟨some 14,.load1 (.tmp 13),none,0⟩,
 ⟨some 15,.len (.tmp 14),none,0⟩,
 ⟨some 16,.move (.const (.int .i64 0)),none,0⟩] false) (.block 0 (.loop c225_1))) (.seq (.ops [⟨some 4,.move (.const (.bool false)),none,0⟩] false) (.ret)))
set_option maxRecDepth 100000 in
theorem c225_ok : FunOK Try.prog 225 34 [.tmp 4] c225 := ⟨⟨Try.f225, Try.func225, rfl, by kernel_rfl, rfl, by kernel_rfl⟩⟩
theorem la_ex1 (W : WorldD) (hW : W.Fits) (hc : W.chk = 0) (a : Nat → Bool) (i : Nat) (hi : i < W.next.length) : PCall Try.prog 225 [.sc (.int .i64 i), .ipt [dlab W], .ipt [dbl W.next.length a]] (.sc (.bool (exF W a i))) := by
  obtain ⟨_, h600, h80, _, hnx, hfr⟩ := chk_label W hc
  have hrow := fun k => inB_row (g := W.next) (fun l hl => (hnx l hl).2) k
  have hFN : FitsG W.next := ⟨hW.next, hW.nextEach⟩
  have hgF := hFN.at i
  refine pcall_intro c225_ok (by simp) (by simp [PureL, Pure, pure_dbl, pure_dlab]) ?_ (by simp [Pure])
  have e : exF W a i = (W.next.getD i []).any fun x => a x.toNat && fairF W x.toNat := rfl
  rw [e]
  have hr := hrow i
  unfold dlab lcel
  generalize fairF W = f at *
  (apply rd_sound; focus (repeat' constructor))
  ((conv=>whnf);repeat(refine .intro rfl ?_;conv=>whnf))
  refine ⟨by omega, _, gridD_at (g := W.next) (k := i) (by omega) hi, ?_⟩
  ((conv=>whnf);repeat(refine .intro rfl ?_;conv=>whnf))
  rw [List.length_map]
  generalize W.next.getD i [] = l at *
  refine pwp_for [1, 2, 14, 15] (fun k : Nat => [(16, .sc (.int .i64 k))]) (fun _ => []) (fun k => k ≤ l.length ∧ ∀ j (hj : j < l.length), j < k → (a l[j].toNat && f l[j].toNat) = false) (fun k => l.length - k) 0 ?_
  ((conv=>whnf);repeat(refine .intro rfl ?_;conv=>whnf))
  refine ⟨⟨by omega, fun j hj h => by omega⟩, by (repeat' (first | exact trivial | refine And.intro rfl ?_)), rfl, ?_⟩
  rintro k ⟨hk, hno⟩
  ((conv=>whnf);repeat(refine .intro rfl ?_;conv=>whnf))
  (apply rd_sound; focus (repeat' constructor))
  ((conv=>whnf);repeat(refine .intro rfl ?_;conv=>whnf))
  (refine ifK_split (fun q0 => ?_) (fun q0 => ?_) <;> (rw [q0]; ((conv=>whnf);repeat(refine .intro rfl ?_;conv=>whnf))))
  · have q0 : k < l.length := by ((try simp only[oo,reduceCtorEq]at*)<;>omega)
    have hx := inB_mem hr (mem_getD q0)
    have next : (a (l.getD k 0).toNat && f (l.getD k 0).toNat) = false → ∀ j (hj : j < l.length), j < k + 1 → (a l[j].toNat && f l[j].toNat) = false := fun h j hj hjk => by
      by_cases e : j = k
      · subst e; rw [List.getD_eq_getElem?_getD, List.getElem?_eq_getElem q0] at h; exact h
      · exact hno j hj (by omega)
    have yes : (a (l.getD k 0).toNat && f (l.getD k 0).toNat) = true → (l.any fun x => a x.toNat && f x.toNat) = true := fun h => List.any_eq_true.2 ⟨_, mem_getD q0, h⟩
    refine ⟨by omega, _, intsD_at (l := l) (k := k) (by omega) q0, ?_⟩
    ((conv=>whnf);repeat(refine .intro rfl ?_;conv=>whnf))
    generalize l.getD k 0 = x at *
    refine ⟨by omega, _, rbl_atN x.toNat (by omega) (by omega), ?_⟩
    ((conv=>whnf);repeat(refine .intro rfl ?_;conv=>whnf))
    cases r : a x.toNat
    · rw [r] at next
      ((conv=>whnf);repeat(refine .intro rfl ?_;conv=>whnf))
      (refine .inl ⟨by (unfold InR; rw [IntKind.wrap_i64]; omega), ?_⟩; ((conv=>whnf);repeat(refine .intro rfl ?_;conv=>whnf)))
      exact ⟨k + 1, ⟨by omega, next rfl⟩, by dsimp only; omega, leB_envH (by (repeat' (first | exact trivial | refine And.intro rfl ?_))) rfl⟩
    · rw [r] at next yes
      ((conv=>whnf);repeat(refine .intro rfl ?_;conv=>whnf))
      refine ⟨by omega, _, rbl_atN x.toNat (by omega) (by omega), ?_⟩
      ((conv=>whnf);repeat(refine .intro rfl ?_;conv=>whnf))
      cases r2 : f x.toNat
      · rw [r2] at next
        ((conv=>whnf);repeat(refine .intro rfl ?_;conv=>whnf))
        (refine .inl ⟨by (unfold InR; rw [IntKind.wrap_i64]; omega), ?_⟩; ((conv=>whnf);repeat(refine .intro rfl ?_;conv=>whnf)))
        exact ⟨k + 1, ⟨by omega, next rfl⟩, by dsimp only; omega, leB_envH (by (repeat' (first | exact trivial | refine And.intro rfl ?_))) rfl⟩
      · rw [r2] at yes
        ((conv=>whnf);repeat(refine .intro rfl ?_;conv=>whnf))
        rw [yes rfl]
        exact .refl _
  · have q0 : k = l.length := by have : ¬ k < l.length := by ((try simp only[oo,reduceCtorEq]at*)<;>omega)
                                 omega
    rw [any_no fun j hj => hno j hj (by omega)]
    exact .refl _
def c196 : PC := .seq (.ops [⟨some 2,.box (.tmp 0),none,0⟩,
 ⟨some 3,.box (.tmp 1),none,0⟩,
 ⟨some 4,.move (.const (.slice none 0 0)),none,0⟩] false) (.seq (.ops [⟨some 5,.load1 (.tmp 2),none,0⟩,
 ⟨some 6,.mkfn (.func 225) [] [(.tmp 2), (.tmp 3)],none,0⟩,
 ⟨some 7,.call 190 [(.tmp 5), (.tmp 6)],none,0⟩,
 ⟨some 4,.move (.tmp 7),none,0⟩] false) (.ret))
set_option maxRecDepth 100000 in
theorem c196_ok : FunOK Try.prog 196 8 [.tmp 4] c196 := ⟨⟨Try.f196, Try.func196, rfl, by kernel_rfl, rfl, by kernel_rfl⟩⟩
theorem la_ex (W : WorldD) (hW : W.Fits) (hc : W.chk = 0) (a : Nat → Bool) : PCall Try.prog 196 [dlab W, dbl W.next.length a] (dbl W.next.length (exF W a)) := by
  obtain ⟨_, h600, _⟩ := chk_label W hc
  have hE := la_each W (by omega) (exF W a) 225 [.ipt [dlab W], .ipt [dbl W.next.length a]] (by simp [PureL, Pure, pure_dbl, pure_dlab]) (fun i hi => la_ex1 W hW hc a i hi)
  refine pcall_intro c196_ok (by simp) (by simp [PureL, pure_dlab, pure_dbl]) ?_ (pure_dbl _ _)
  (apply rd_sound; focus (repeat' constructor))
  ((conv=>whnf);repeat(refine .intro rfl ?_;conv=>whnf))
  (refine .inr (.inr (.inr (.inr (.inr (.inl ⟨rfl, _, _, (by (repeat' (first | exact Deep.refl _ | exact Deep.none _ | exact deep_row _ | exact DeepL.nil | exact DeepLL.nil | refine Deep.agg _ _ ?_ | refine Deep.tup _ _ ?_ | refine Deep.own _ _ _ _ _ _ _ _ rfl ?_ | refine Deep.loc _ _ _ _ _ rfl ?_ | refine Deep.ifc _ _ _ ?_ | refine Deep.fn _ _ _ _ _ ?_ ?_ | refine DeepL.cons _ _ _ _ ?_ ?_ | refine DeepLL.cons _ _ _ _ ?_ ?_))), hE, ?_⟩))))); ((conv=>whnf);repeat(refine .intro rfl ?_;conv=>whnf)))
  exact .refl _
def c198 : PC := .seq (.ops [⟨some 4,.move (.const (.slice none 0 0)),none,0⟩] false) (.seq (.ops [⟨some 5,.move (.tmp 0),none,0⟩,
 ⟨some 6,.nilchk (.tmp 5),none,0⟩,
 ⟨some 7,.faddr 0 (.tmp 6),none,0⟩,
 ⟨some 8,.loadA 4 (.tmp 7),none,0⟩,
 ⟨some 9,.move (.tmp 1),none,0⟩,
 ⟨some 10,.call 84 [(.tmp 8), (.tmp 9)],none,0⟩,
 ⟨some 4,.move (.tmp 10),none,0⟩] false) (.ret))
set_option maxRecDepth 100000 in
theorem c198_ok : FunOK Try.prog 198 11 [.tmp 4] c198 := ⟨⟨Try.f198, Try.func198, rfl, by kernel_rfl, rfl, by kernel_rfl⟩⟩
theorem la_eg (W : WorldD) (hW : W.Fits) (hc : W.chk = 0) (a : Nat → Bool) : PCall Try.prog 198 [dlab W, dbl W.next.length a] (dbl W.next.length (egF W a)) := by
  have h := wo_Within W hW hc a
  refine pcall_intro c198_ok (by simp) (by simp [PureL, pure_dlab, pure_dbl]) ?_ (pure_dbl _ _)
  unfold dworld WorldD.cells at h
  (apply rd_sound; focus (repeat' constructor))
  ((conv=>whnf);repeat(refine .intro rfl ?_;conv=>whnf))
  (refine .inl ⟨_, h, ?_⟩; ((conv=>whnf);repeat(refine .intro rfl ?_;conv=>whnf)))
  exact .refl _
end

/-! ### XLa2 -/
section
open Go.RowKit
set_option linter.unusedSimpArgs false
set_option linter.unusedVariables false
def c197_1 : PC := .seq (.ops [⟨some 24,.bin .lss (.tmp 23) (.tmp 22),none,0⟩] false) (.seq (.cond (.tmp 24) (.skip) (.exit 0)) (.seq (.block 1 (.seq (.ops [⟨some 25,.move (.tmp 23),none,0⟩,
 ⟨some 26,.iaddr 1 (.tmp 21) (.tmp 23),none,0⟩,
 ⟨some 27,.load1 (.tmp 26),none,0⟩,
 ⟨some 9,.move (.tmp 25),none,0⟩,
 ⟨some 10,.move (.tmp 27),none,0⟩] false) (.seq (.ops [⟨some 28,.move (.tmp 10),none,0⟩] false) (.cond (.tmp 28) (.ops [⟨some 29,.move (.tmp 8),none,0⟩,
 ⟨some 30,.move (.tmp 9),none,0⟩,
 ⟨some 31,.bslice 1 1 [(.tmp 30)],none,0⟩,
 ⟨some 32,.append 1 8 (.tmp 29) (.tmp 31),none,0⟩,
 ⟨some 8,.move (.tmp 32),none,0⟩] false) (.skip))))) (.ops [⟨some 33,.bin .add (.tmp 23) (.const (.int .i64 1)),none,0⟩,
 ⟨some 23,.move (.tmp 33),none,0⟩] false)))
def c197_3 : PC := .seq (.ops [⟨some 51,.bin .lss (.tmp 50) (.tmp 49),none,0⟩] false) (.seq (.cond (.tmp 51) (.skip) (.exit 4)) (.seq (.block 5 (.seq (.ops [⟨some 52,.iaddr 1 (.tmp 48) (.tmp 50),none,0⟩,
 ⟨some 53,.load1 (.tmp 52),none,0⟩,
 ⟨some 13,.move (.tmp 53),none,0⟩] false) (.seq (.ops [⟨some 54,.move (.tmp 1),none,0⟩,
 ⟨some 55,.move (.tmp 13),none,0⟩,
 ⟨some 56,.iaddr 1 (.tmp 54) (.tmp 55),none,0⟩,
 ⟨some 57,.load1 (.tmp 56),none,0⟩,
 ⟨some 58,.move (.tmp 57),none,0⟩,
 ⟨some 59,.move (.tmp 7),some (58,true),0⟩,
 ⟨some 60,.move (.tmp 13),some (58,true),0⟩,
 ⟨some 61,.iaddr 1 (.tmp 59) (.tmp 60),some (58,true),0⟩,
 ⟨some 62,.load1 (.tmp 61),some (58,true),0⟩,
 ⟨some 63,.un .not (.tmp 62),some (58,true),0⟩,
 ⟨some 64,.pick (.tmp 58) (.tmp 63) (.const (.bool false)),none,0⟩] false) (.cond (.tmp 64) (.seq (.ops [⟨some 65,.move (.tmp 7),none,0⟩,
 ⟨some 66,.move (.tmp 13),none,0⟩,
 ⟨some 67,.iaddr 1 (.tmp 65) (.tmp 66),none,0⟩,
 ⟨none,.store 1 (.tmp 67) (.const (.bool true)),none,0⟩] false) (.ops [⟨some 68,.move (.tmp 8),none,0⟩,
 ⟨some 69,.move (.tmp 13),none,0⟩,
 ⟨some 70,.bslice 1 1 [(.tmp 69)],none,0⟩,
 ⟨some 71,.append 1 8 (.tmp 68) (.tmp 70),none,0⟩,
 ⟨some 8,.move (.tmp 71),none,0⟩] false)) (.skip))))) (.ops [⟨some 72,.bin .add (.tmp 50) (.const (.int .i64 1)),none,0⟩,
 ⟨some 50,.move (.tmp 72),none,0⟩] false)))
def c197_2 : PC := .seq (.seq (.ops [⟨some 34,.move (.tmp 8),none,0⟩,
 ⟨some 35,.len (.tmp 34),none,0⟩,
 ⟨some 36,.bin .gtr (.tmp 35) (.const (.int .i64 0)),none,0⟩] false) (.cond (.tmp 36) (.skip) (.exit 2))) (.block 3 (.seq (.ops [⟨some 37,.move (.tmp 8),none,0⟩,
 ⟨some 38,.iaddr 1 (.tmp 37) (.const (.int .i64 0)),none,0⟩,
 ⟨some 39,.load1 (.tmp 38),none,0⟩,
 ⟨some 11,.move (.tmp 39),none,0⟩] false) (.seq (.ops [⟨some 40,.move (.tmp 8),none,0⟩,
 ⟨some 41,.slc 1 (.tmp 40) (some (.const (.int .i64 1))) none none,none,0⟩,
 ⟨some 8,.move (.tmp 41),none,0⟩] false) (.seq (.ops [⟨some 42,.move (.tmp 0),none,0⟩,
 ⟨some 43,.nilchk (.tmp 42),none,0⟩,
 ⟨some 44,.faddr 5 (.tmp 43),none,0⟩,
 ⟨some 45,.load1 (.tmp 44),none,0⟩,
 ⟨some 46,.move (.tmp 11),none,0⟩,
 ⟨some 47,.iaddr 1 (.tmp 45) (.tmp 46),none,0⟩,
 ⟨some 48,.load1 (.tmp 47),none,0⟩,
 ⟨some 49,.len (.tmp 48),none,0⟩,
 ⟨some 50,.move (.const (.int .i64 0)),none,0⟩] false) (.block 4 (.loop c197_3))))))
def c197 : PC := .seq (.ops [⟨some 6,.move (.const (.slice none 0 0)),none,0⟩] false) (.seq (.ops [⟨some 14,.move (.tmp 0),none,0⟩,
 ⟨some 15,.move (.tmp 2),none,0⟩,
 ⟨some 16,.move (.tmp 0),none,0⟩,
 ⟨some 17,.nilchk (.tmp 16),none,0⟩,
 ⟨some 18,.faddr 4 (.tmp 17),none,0⟩,
 ⟨some 19,.load1 (.tmp 18),none,0⟩,
 ⟨some 20,.call 194 [(.tmp 14), (.tmp 15), (.tmp 19)],none,0⟩,
 ⟨some 7,.move (.tmp 20),none,0⟩] false) (.seq (.ops [⟨some 8,.move (.const (.slice none 0 0)),none,0⟩] false) (.seq (.seq (.ops [⟨some 21,.move (.tmp 7),none,0⟩,
 ⟨some 22,.len (.tmp 21),none,0⟩,
 ⟨some 23,.move (.const (.int .i64 0)),none,0⟩] false) (.block 0 (.loop c197_1))) (.seq (.block 2 (.loop c197_2)) (.seq (.ops [⟨some 73,.move (.tmp 7),none,0⟩,
 ⟨some 6,.move (.tmp 73),none,0⟩] false) (.ret))))))
set_option maxRecDepth 100000 in
theorem c197_ok : FunOK Try.prog 197 74 [.tmp 6] c197 := ⟨⟨Try.f197, Try.func197, rfl, by kernel_rfl, rfl, by kernel_rfl⟩⟩
theorem ends_unseen (c : Nat → Bool) : ∀ n, (endsT c n).length + unseen c n = n
  | 0 => rfl
  | n + 1 => by
    have := ends_unseen c n
    unfold unseen at this ⊢
    rw [endsT_succ]
    simp only [sumTo]
    cases h : c n <;> simp <;> omega
set_option maxRecDepth 100000 in
theorem la_eu (W : WorldD) (hc : W.chk = 0) (a b : Nat → Bool) : PCall Try.prog 197 [dlab W, dbl W.next.length a, dbl W.next.length b] (dbl W.next.length (euF W a b)) := by
  obtain ⟨_, h600, h80, _, hnx, hfr⟩ := chk_label W hc
  have hin0 : ∀ l ∈ W.next, inB l W.next.length = true := fun l hl => (hnx l hl).2
  have hrow := fun k => inB_row hin0 k
  have hin' : ∀ v y, y ∈ W.next.getD v [] → y.toNat < W.next.length := fun v x hx => by have := inB_mem (hrow v) hx; omega
  have hB := la_bothO W (by omega) b (fairF W)
  have e0 : euF W a b = euB W.next a (andF b (fairF W)) := rfl
  rw [e0]
  clear e0
  generalize andF b (fairF W) = c at *
  refine pcall_intro c197_ok (by simp) (by simp [PureL, pure_dlab, pure_dbl]) ?_ (pure_dbl _ _)
  unfold dlab lcel at *
  generalize hT : turnG W.next W.next.length = T at *
  have lT : T.length = W.next.length := by rw [← hT, turnG_len]
  have mT : ∀ (m : Nat) (x : Int), x ∈ T.getD m [] ↔ ∃ k, k < W.next.length ∧ x = (k : Int) ∧ ∃ y, y ∈ W.next.getD k [] ∧ y.toNat = m := fun m x => by rw [← hT]; exact turnG_mem hin' (Nat.le_refl _)
  have rT : ∀ m, (T.getD m []).length ≤ W.next.length := fun m => by rw [← hT]; exact turnG_row W.next W.next.length m
  (apply rd_sound; focus (repeat' constructor))
  ((conv=>whnf);repeat(refine .intro rfl ?_;conv=>whnf))
  (refine .inr (.inr (.inl ⟨rfl, _, _, hB, ?_⟩)); ((conv=>whnf);repeat(refine .intro rfl ?_;conv=>whnf)))
  refine pwp_ghostB (leB_nil 8 1 (by simp) rfl) ?_
  refine pwp_for [0, 1, 7, 21, 22] (fun k : Nat => [(8, .own 3 (endsT c k).length 0 (endsT c k).length), (23, .sc (.int .i64 k))]) (fun k => [(3, .vec true (endsT c k).length 1 (i64s (endsT c k)))]) (fun k => k ≤ W.next.length) (fun k => W.next.length - k) 0 ?_
  ((conv=>whnf);repeat(refine .intro rfl ?_;conv=>whnf))
  refine ⟨by omega, by (repeat' (first | exact trivial | refine And.intro rfl ?_)), rfl, ?_⟩
  rintro k hk
  have hcl := endsT_len c k
  have eS := endsT_succ c k
  ((conv=>whnf);repeat(refine .intro rfl ?_;conv=>whnf))
  (apply rd_sound; focus (repeat' constructor))
  ((conv=>whnf);repeat(refine .intro rfl ?_;conv=>whnf))
  (refine ifK_split (fun q0 => ?_) (fun q0 => ?_) <;> (rw [q0]; ((conv=>whnf);repeat(refine .intro rfl ?_;conv=>whnf))))
  · have q0 : k < W.next.length := by ((try simp only[oo,reduceCtorEq]at*)<;>omega)
    (refine ⟨by omega, (by first | omega | (simp; done) | (simp; omega) | (simp only [ll]; omega)), ?_⟩; ((conv=>whnf);repeat(refine .intro rfl ?_;conv=>whnf)))
    refine ⟨_, rbl_atN k (by omega) q0, ?_⟩
    ((conv=>whnf);repeat(refine .intro rfl ?_;conv=>whnf))
    cases r : c k
    · rw [r, if_neg (by decide)] at eS
      ((conv=>whnf);repeat(refine .intro rfl ?_;conv=>whnf))
      (refine .inl ⟨by (unfold InR; rw [IntKind.wrap_i64]; omega), ?_⟩; ((conv=>whnf);repeat(refine .intro rfl ?_;conv=>whnf)))
      refine ⟨k + 1, by omega, by dsimp only; omega, ?_⟩
      dsimp only
      rw [eS]
      exact leB_envH (by (repeat' (first | exact trivial | refine And.intro rfl ?_))) rfl
    · rw [r, if_pos rfl] at eS
      ((conv=>whnf);repeat(refine .intro rfl ?_;conv=>whnf))
      refine ⟨(by unfold sliceAppend; simp only [ll]; omega), ?_⟩
      ((conv=>whnf);repeat(refine .intro rfl ?_;conv=>whnf))
      (refine .inl ⟨by (unfold InR; rw [IntKind.wrap_i64]; omega), ?_⟩; ((conv=>whnf);repeat(refine .intro rfl ?_;conv=>whnf)))
      refine ⟨k + 1, by omega, by dsimp only; omega, ?_⟩
      dsimp only
      rw [eS, show (endsT c k ++ [(k : Int)]).length = (endsT c k).length + 1 by simp]
      (refine leB_close 4 (by simp) rfl ?_ ?_ <;> (repeat' (first | exact trivial | exact rfl | exact DeepM.refl _ | exact DeepML.refl _ | exact DeepMLL.refl _ | refine And.intro ?_ ?_ | (simp [Under, UnderL, UnderLL, -List.map_take, -List.map_drop]; done))))
      exact deepMLL_eq (by rw [i64s_app, List.take_length])
  have q0 : k = W.next.length := by have : ¬ k < W.next.length := by ((try simp only[oo,reduceCtorEq]at*)<;>omega)
                                    omega
  subst q0
  clear eS
  refine pwp_for [0, 1, 7] (fun ((s, Z, lo, hi, ver) : (Nat → Bool) × List Int × Nat × Nat × Nat) => [(8, .own 3 ver lo hi)]) (fun (s, Z, lo, hi, ver) => [(2, .vec true 0 1 (rbl W.next.length s)), (3, .vec true ver 1 (i64s Z))])
    (fun (s, Z, lo, hi, ver) => lo ≤ hi ∧ hi ≤ Z.length ∧ (∀ x ∈ Z, 0 ≤ x ∧ x < (W.next.length : Int)) ∧ hi - lo + unseen s W.next.length ≤ W.next.length ∧ EuI W.next a c s (nats ((Z.take hi).drop lo))) (fun (s, Z, lo, hi, ver) => hi - lo + unseen s W.next.length) (c, endsT c W.next.length, 0, (endsT c W.next.length).length, (endsT c W.next.length).length) ?_
  ((conv=>whnf);repeat(refine .intro rfl ?_;conv=>whnf))
  refine ⟨⟨by omega, by omega, fun x hx => ⟨(endsT_mem.1 hx).1, (endsT_mem.1 hx).2.1⟩, by rw [Nat.sub_zero]; exact Nat.le_of_eq (ends_unseen c _), ?_⟩, by (repeat' (first | exact trivial | refine And.intro rfl ?_)), rfl, ?_⟩
  · rw [List.take_length, List.drop_zero]
    refine ⟨fun v hv => .base hv, fun v hv => hv, fun v hv => ?_, fun v hv => ?_⟩
    · obtain ⟨x, hx, rfl⟩ := nats_mem.1 hv
      exact (endsT_mem.1 hx).2.2
    · by_cases q : v < W.next.length
      · exact .inl (nats_mem.2 ⟨(v : Int), endsT_mem.2 ⟨by omega, by omega, by rw [Int.toNat_natCast]; exact hv⟩, by simp⟩)
      · exact .inr fun k x hx e => absurd (e ▸ hin' k x hx) q
  rintro ⟨s, Z, lo, hi, ver⟩ ⟨hlo, hhi, hrg, hu, hI⟩
  ((conv=>whnf);repeat(refine .intro rfl ?_;conv=>whnf))
  (apply rd_sound; focus (repeat' constructor))
  ((conv=>whnf);repeat(refine .intro rfl ?_;conv=>whnf))
  (refine ifK_split (fun h1 => ?_) (fun h1 => ?_) <;> (rw [h1]; ((conv=>whnf);repeat(refine .intro rfl ?_;conv=>whnf))))
  · have h1 : lo < hi := by ((try simp only[oo,reduceCtorEq]at*)<;>omega)
    rw [headQ h1 hhi, nats_cons] at hI
    have hx := hrg (Z.getD lo 0) (mem_getD (by omega))
    generalize hX : Z.getD lo 0 = x at hI hx
    (refine ⟨by omega, (by first | omega | (simp; done) | (simp; omega) | (simp only [ll]; omega)), ?_⟩; ((conv=>whnf);repeat(refine .intro rfl ?_;conv=>whnf)))
    refine ⟨_, intsD_at (l := Z) (k := lo) (by omega) (by omega), ?_⟩
    ((conv=>whnf);repeat(refine .intro rfl ?_;conv=>whnf))
    rw [hX]
    refine ⟨by omega, by omega, by omega, ?_⟩
    ((conv=>whnf);repeat(refine .intro rfl ?_;conv=>whnf))
    rw [show lo + (hi - lo) = hi by omega]
    refine ⟨by omega, _, gridD_at (g := T) (k := x.toNat) (by omega) (by omega), ?_⟩
    ((conv=>whnf);repeat(refine .intro rfl ?_;conv=>whnf))
    rw [List.length_map]
    have hL := rT x.toNat
    have mL := mT x.toNat
    generalize T.getD x.toNat [] = L at hL mL
    refine pwp_for [0, 1, 7, 48, 49] (fun ((s', Z', lo', hi', ver', k) : (Nat → Bool) × List Int × Nat × Nat × Nat × Nat) => [(8, .own 3 ver' lo' hi'), (50, .sc (.int .i64 k))]) (fun (s', Z', lo', hi', ver', k) => [(2, .vec true 0 1 (rbl W.next.length s')), (3, .vec true ver' 1 (i64s Z'))])
      (fun (s', Z', lo', hi', ver', k) => k ≤ L.length ∧ lo' ≤ hi' ∧ hi' ≤ Z'.length ∧ (∀ x ∈ Z', 0 ≤ x ∧ x < (W.next.length : Int)) ∧ hi' - lo' + unseen s' W.next.length < hi - lo + unseen s W.next.length ∧ EuJ W.next a c s' (nats ((Z'.take hi').drop lo')) x.toNat (nats (L.take k))) (fun (s', Z', lo', hi', ver', k) => L.length - k) (s, Z, lo + 1, hi, ver, 0) ?_
    ((conv=>whnf);repeat(refine .intro rfl ?_;conv=>whnf))
    refine ⟨⟨by omega, by omega, hhi, hrg, by omega, hI.pop⟩, by (repeat' (first | exact trivial | refine And.intro rfl ?_)), rfl, ?_⟩
    rintro ⟨s', Z', lo', hi', ver', k⟩ ⟨hk, hlo', hhi', hrg', hu', hJ⟩
    ((conv=>whnf);repeat(refine .intro rfl ?_;conv=>whnf))
    (apply rd_sound; focus (repeat' constructor))
    ((conv=>whnf);repeat(refine .intro rfl ?_;conv=>whnf))
    (refine ifK_split (fun h3 => ?_) (fun h3 => ?_) <;> (rw [h3]; ((conv=>whnf);repeat(refine .intro rfl ?_;conv=>whnf))))
    · have hk' : k < L.length := by ((try simp only[oo,reduceCtorEq]at*)<;>omega)
      obtain ⟨v, hv1, hv2, y, hy1, hy2⟩ := (mL (L.getD k 0)).1 (mem_getD hk')
      have eT : nats (L.take (k + 1)) = nats (L.take k) ++ [v] := by
        rw [List.take_add_one, List.getElem?_eq_getElem hk', nats_app]
        rw [List.getD_eq_getElem?_getD, List.getElem?_eq_getElem hk'] at hv2
        simp at hv2
        simp [nats, hv2]
      refine ⟨by omega, _, intsD_at (l := L) (k := k) (by omega) hk', ?_⟩
      ((conv=>whnf);repeat(refine .intro rfl ?_;conv=>whnf))
      rw [hv2]
      refine ⟨by omega, _, rbl_atN v (by omega) hv1, ?_⟩
      ((conv=>whnf);repeat(refine .intro rfl ?_;conv=>whnf))
      cases av : a v
      · ((conv=>whnf);repeat(refine .intro rfl ?_;conv=>whnf))
        (refine .inl ⟨by (unfold InR; rw [IntKind.wrap_i64]; omega), ?_⟩; ((conv=>whnf);repeat(refine .intro rfl ?_;conv=>whnf)))
        refine ⟨(s', Z', lo', hi', ver', k + 1), ⟨by omega, hlo', hhi', hrg', hu', by rw [eT]; exact hJ.skip fun q => by rw [av] at q; cases q⟩, by dsimp only; omega, leB_envH (by (repeat' (first | exact trivial | refine And.intro rfl ?_))) rfl⟩
      · ((conv=>whnf);repeat(refine .intro rfl ?_;conv=>whnf))
        (refine ⟨by omega, (by first | omega | (simp; done) | (simp; omega) | (simp only [ll]; omega)), ?_⟩; ((conv=>whnf);repeat(refine .intro rfl ?_;conv=>whnf)))
        refine ⟨_, rbl_atN v (by omega) hv1, ?_⟩
        ((conv=>whnf);repeat(refine .intro rfl ?_;conv=>whnf))
        cases sv : s' v
        · ((conv=>whnf);repeat(refine .intro rfl ?_;conv=>whnf))
          (refine ⟨by omega, (by first | omega | (simp; done) | (simp; omega) | (simp only [ll]; omega)), ?_⟩; ((conv=>whnf);repeat(refine .intro rfl ?_;conv=>whnf)))
          refine ⟨_, rbl_atN v (by omega) hv1, ?_⟩
          ((conv=>whnf);repeat(refine .intro rfl ?_;conv=>whnf))
          refine ⟨(by unfold sliceAppend; simp only [ll]; omega), ?_⟩
          ((conv=>whnf);repeat(refine .intro rfl ?_;conv=>whnf))
          (refine .inl ⟨by (unfold InR; rw [IntKind.wrap_i64]; omega), ?_⟩; ((conv=>whnf);repeat(refine .intro rfl ?_;conv=>whnf)))
          have hl1 := unseen_lt (s := s') (s' := mark s' v) hv1 (fun j _ q => mark_of q) sv (mark_self _ _)
          refine ⟨(mark s' v, (Z'.take hi').drop lo' ++ [(v : Int)], 0, hi' - lo' + 1, ver' + 1, k + 1), ⟨by omega, by omega, by simp; omega, fun z hz => ?_, by omega, ?_⟩, by dsimp only; omega, ?_⟩
          · rcases List.mem_append.1 hz with q | q
            · exact hrg' z (List.mem_of_mem_take (List.mem_of_mem_drop q))
            · rw [List.mem_singleton] at q; omega
          · rw [List.drop_zero, List.take_of_length_le (by simp; omega), nats_app, eT]
            exact hJ.push hy1 hy2 av
          · (refine leB_close 4 (by simp) rfl ?_ ?_ <;> (repeat' (first | exact trivial | exact rfl | exact DeepM.refl _ | exact DeepML.refl _ | exact DeepMLL.refl _ | refine And.intro ?_ ?_ | (simp [Under, UnderL, UnderLL, -List.map_take, -List.map_drop]; done))))
            · exact deepMLL_eq (rbl_mark (by omega))
            · exact deepMLL_eq i64s_queueW
        · ((conv=>whnf);repeat(refine .intro rfl ?_;conv=>whnf))
          (refine .inl ⟨by (unfold InR; rw [IntKind.wrap_i64]; omega), ?_⟩; ((conv=>whnf);repeat(refine .intro rfl ?_;conv=>whnf)))
          refine ⟨(s', Z', lo', hi', ver', k + 1), ⟨by omega, hlo', hhi', hrg', hu', by rw [eT]; exact hJ.skip fun _ => sv⟩, by dsimp only; omega, leB_envH (by (repeat' (first | exact trivial | refine And.intro rfl ?_))) rfl⟩
    · have hk' : k = L.length := by have : ¬ k < L.length := by ((try simp only[oo,reduceCtorEq]at*)<;>omega)
                                    omega
      subst hk'
      refine ⟨(s', Z', lo', hi', ver'), ⟨hlo', hhi', hrg', by omega, hJ.fin fun k y h1 h2 => ?_⟩, by dsimp only; omega, leB_envH (by (repeat' (first | exact trivial | refine And.intro rfl ?_))) rfl⟩
      have hk : k < W.next.length := by
        rcases Nat.lt_or_ge k W.next.length with q | q
        · exact q
        · rw [List.getD_eq_getElem?_getD, List.getElem?_eq_none q] at h1; cases h1
      rw [List.take_length]
      exact nats_mem.2 ⟨(k : Int), (mL k).2 ⟨k, hk, rfl, y, h1, h2⟩, by simp⟩
  have h0 : hi = lo := by ((try simp only[oo,reduceCtorEq]at*)<;>omega)
  subst h0
  rw [List.drop_eq_nil_of_le (by rw [List.length_take]; omega)] at hI
  rw [rbl_congr (g' := euB W.next a c) fun i _ => hI.end_ i]
  exact deep_vec rfl
set_option maxRecDepth 100000 in
theorem la_euO (W : WorldD) (hc : W.chk = 0) (a b : Nat → Bool) : ACall Try.prog 197 [dlab W, dbl W.next.length a, dbl W.next.length b] [] (.own 2 0 0 W.next.length) [.row true [dbl W.next.length b], .row true [dbl W.next.length (fairF W)], .vec true 0 1 (rbl W.next.length (euF W a b))] := by
  obtain ⟨_, h600, h80, _, hnx, hfr⟩ := chk_label W hc
  have hin0 : ∀ l ∈ W.next, inB l W.next.length = true := fun l hl => (hnx l hl).2
  have hrow := fun k => inB_row hin0 k
  have hin' : ∀ v y, y ∈ W.next.getD v [] → y.toNat < W.next.length := fun v x hx => by have := inB_mem (hrow v) hx; omega
  have hB := la_bothO W (by omega) b (fairF W)
  have e0 : euF W a b = euB W.next a (andF b (fairF W)) := rfl
  rw [e0]
  clear e0
  generalize andF b (fairF W) = c at *
  refine acall_intro c197_ok (by simp) (by simp) ?_ (by simp [Under]) (by simp [AObj.under, UnderL, underLL_pure _ (pure_rbl _ _)])
  unfold dlab lcel at *
  generalize hT : turnG W.next W.next.length = T at *
  have lT : T.length = W.next.length := by rw [← hT, turnG_len]
  have mT : ∀ (m : Nat) (x : Int), x ∈ T.getD m [] ↔ ∃ k, k < W.next.length ∧ x = (k : Int) ∧ ∃ y, y ∈ W.next.getD k [] ∧ y.toNat = m := fun m x => by rw [← hT]; exact turnG_mem hin' (Nat.le_refl _)
  have rT : ∀ m, (T.getD m []).length ≤ W.next.length := fun m => by rw [← hT]; exact turnG_row W.next W.next.length m
  (apply rd_sound; focus (repeat' constructor))
  ((conv=>whnf);repeat(refine .intro rfl ?_;conv=>whnf))
  (refine .inr (.inr (.inl ⟨rfl, _, _, hB, ?_⟩)); ((conv=>whnf);repeat(refine .intro rfl ?_;conv=>whnf)))
  refine pwp_ghostB (leB_nil 8 1 (by simp) rfl) ?_
  refine pwp_for [0, 1, 7, 21, 22] (fun k : Nat => [(8, .own 3 (endsT c k).length 0 (endsT c k).length), (23, .sc (.int .i64 k))]) (fun k => [(3, .vec true (endsT c k).length 1 (i64s (endsT c k)))]) (fun k => k ≤ W.next.length) (fun k => W.next.length - k) 0 ?_
  ((conv=>whnf);repeat(refine .intro rfl ?_;conv=>whnf))
  refine ⟨by omega, by (repeat' (first | exact trivial | refine And.intro rfl ?_)), rfl, ?_⟩
  rintro k hk
  have hcl := endsT_len c k
  have eS := endsT_succ c k
  ((conv=>whnf);repeat(refine .intro rfl ?_;conv=>whnf))
  (apply rd_sound; focus (repeat' constructor))
  ((conv=>whnf);repeat(refine .intro rfl ?_;conv=>whnf))
  (refine ifK_split (fun q0 => ?_) (fun q0 => ?_) <;> (rw [q0]; ((conv=>whnf);repeat(refine .intro rfl ?_;conv=>whnf))))
  · have q0 : k < W.next.length := by ((try simp only[oo,reduceCtorEq]at*)<;>omega)
    (refine ⟨by omega, (by first | omega | (simp; done) | (simp; omega) | (simp only [ll]; omega)), ?_⟩; ((conv=>whnf);repeat(refine .intro rfl ?_;conv=>whnf)))
    refine ⟨_, rbl_atN k (by omega) q0, ?_⟩
    ((conv=>whnf);repeat(refine .intro rfl ?_;conv=>whnf))
    cases r : c k
    · rw [r, if_neg (by decide)] at eS
      ((conv=>whnf);repeat(refine .intro rfl ?_;conv=>whnf))
      (refine .inl ⟨by (unfold InR; rw [IntKind.wrap_i64]; omega), ?_⟩; ((conv=>whnf);repeat(refine .intro rfl ?_;conv=>whnf)))
      refine ⟨k + 1, by omega, by dsimp only; omega, ?_⟩
      dsimp only
      rw [eS]
      exact leB_envH (by (repeat' (first | exact trivial | refine And.intro rfl ?_))) rfl
    · rw [r, if_pos rfl] at eS
      ((conv=>whnf);repeat(refine .intro rfl ?_;conv=>whnf))
      refine ⟨(by unfold sliceAppend; simp only [ll]; omega), ?_⟩
      ((conv=>whnf);repeat(refine .intro rfl ?_;conv=>whnf))
      (refine .inl ⟨by (unfold InR; rw [IntKind.wrap_i64]; omega), ?_⟩; ((conv=>whnf);repeat(refine .intro rfl ?_;conv=>whnf)))
      refine ⟨k + 1, by omega, by dsimp only; omega, ?_⟩
      dsimp only
      rw [eS, show (endsT c k ++ [(k : Int)]).length = (endsT c k).length + 1 by simp]
      (refine leB_close 4 (by simp) rfl ?_ ?_ <;> (repeat' (first | exact trivial | exact rfl | exact DeepM.refl _ | exact DeepML.refl _ | exact DeepMLL.refl _ | refine And.intro ?_ ?_ | (simp [Under, UnderL, UnderLL, -List.map_take, -List.map_drop]; done))))
      exact deepMLL_eq (by rw [i64s_app, List.take_length])
  have q0 : k = W.next.length := by have : ¬ k < W.next.length := by ((try simp only[oo,reduceCtorEq]at*)<;>omega)
                                    omega
  subst q0
  clear eS
  refine pwp_for [0, 1, 7] (fun ((s, Z, lo, hi, ver) : (Nat → Bool) × List Int × Nat × Nat × Nat) => [(8, .own 3 ver lo hi)]) (fun (s, Z, lo, hi, ver) => [(2, .vec true 0 1 (rbl W.next.length s)), (3, .vec true ver 1 (i64s Z))])
    (fun (s, Z, lo, hi, ver) => lo ≤ hi ∧ hi ≤ Z.length ∧ (∀ x ∈ Z, 0 ≤ x ∧ x < (W.next.length : Int)) ∧ hi - lo + unseen s W.next.length ≤ W.next.length ∧ EuI W.next a c s (nats ((Z.take hi).drop lo))) (fun (s, Z, lo, hi, ver) => hi - lo + unseen s W.next.length) (c, endsT c W.next.length, 0, (endsT c W.next.length).length, (endsT c W.next.length).length) ?_
  ((conv=>whnf);repeat(refine .intro rfl ?_;conv=>whnf))
  refine ⟨⟨by omega, by omega, fun x hx => ⟨(endsT_mem.1 hx).1, (endsT_mem.1 hx).2.1⟩, by rw [Nat.sub_zero]; exact Nat.le_of_eq (ends_unseen c _), ?_⟩, by (repeat' (first | exact trivial | refine And.intro rfl ?_)), rfl, ?_⟩
  · rw [List.take_length, List.drop_zero]
    refine ⟨fun v hv => .base hv, fun v hv => hv, fun v hv => ?_, fun v hv => ?_⟩
    · obtain ⟨x, hx, rfl⟩ := nats_mem.1 hv
      exact (endsT_mem.1 hx).2.2
    · by_cases q : v < W.next.length
      · exact .inl (nats_mem.2 ⟨(v : Int), endsT_mem.2 ⟨by omega, by omega, by rw [Int.toNat_natCast]; exact hv⟩, by simp⟩)
      · exact .inr fun k x hx e => absurd (e ▸ hin' k x hx) q
  rintro ⟨s, Z, lo, hi, ver⟩ ⟨hlo, hhi, hrg, hu, hI⟩
  ((conv=>whnf);repeat(refine .intro rfl ?_;conv=>whnf))
  (apply rd_sound; focus (repeat' constructor))
  ((conv=>whnf);repeat(refine .intro rfl ?_;conv=>whnf))
  (refine ifK_split (fun h1 => ?_) (fun h1 => ?_) <;> (rw [h1]; ((conv=>whnf);repeat(refine .intro rfl ?_;conv=>whnf))))
  · have h1 : lo < hi := by ((try simp only[oo,reduceCtorEq]at*)<;>omega)
    rw [headQ h1 hhi, nats_cons] at hI
    have hx := hrg (Z.getD lo 0) (mem_getD (by omega))
    generalize hX : Z.getD lo 0 = x at hI hx
    (refine ⟨by omega, (by first | omega | (simp; done) | (simp; omega) | (simp only [ll]; omega)), ?_⟩; ((conv=>whnf);repeat(refine .intro rfl ?_;conv=>whnf)))
    refine ⟨_, intsD_at (l := Z) (k := lo) (by omega) (by omega), ?_⟩
    ((conv=>whnf);repeat(refine .intro rfl ?_;conv=>whnf))
    rw [hX]
    refine ⟨by omega, by omega, by omega, ?_⟩
    ((conv=>whnf);repeat(refine .intro rfl ?_;conv=>whnf))
    rw [show lo + (hi - lo) = hi by omega]
    refine ⟨by omega, _, gridD_at (g := T) (k := x.toNat) (by omega) (by omega), ?_⟩
    ((conv=>whnf);repeat(refine .intro rfl ?_;conv=>whnf))
    rw [List.length_map]
    have hL := rT x.toNat
    have mL := mT x.toNat
    generalize T.getD x.toNat [] = L at hL mL
    refine pwp_for [0, 1, 7, 48, 49] (fun ((s', Z', lo', hi', ver', k) : (Nat → Bool) × List Int × Nat × Nat × Nat × Nat) => [(8, .own 3 ver' lo' hi'), (50, .sc (.int .i64 k))]) (fun (s', Z', lo', hi', ver', k) => [(2, .vec true 0 1 (rbl W.next.length s')), (3, .vec true ver' 1 (i64s Z'))])
      (fun (s', Z', lo', hi', ver', k) => k ≤ L.length ∧ lo' ≤ hi' ∧ hi' ≤ Z'.length ∧ (∀ x ∈ Z', 0 ≤ x ∧ x < (W.next.length : Int)) ∧ hi' - lo' + unseen s' W.next.length < hi - lo + unseen s W.next.length ∧ EuJ W.next a c s' (nats ((Z'.take hi').drop lo')) x.toNat (nats (L.take k))) (fun (s', Z', lo', hi', ver', k) => L.length - k) (s, Z, lo + 1, hi, ver, 0) ?_
    ((conv=>whnf);repeat(refine .intro rfl ?_;conv=>whnf))
    refine ⟨⟨by omega, by omega, hhi, hrg, by omega, hI.pop⟩, by (repeat' (first | exact trivial | refine And.intro rfl ?_)), rfl, ?_⟩
    rintro ⟨s', Z', lo', hi', ver', k⟩ ⟨hk, hlo', hhi', hrg', hu', hJ⟩
    ((conv=>whnf);repeat(refine .intro rfl ?_;conv=>whnf))
    (apply rd_sound; focus (repeat' constructor))
    ((conv=>whnf);repeat(refine .intro rfl ?_;conv=>whnf))
    (refine ifK_split (fun h3 => ?_) (fun h3 => ?_) <;> (rw [h3]; ((conv=>whnf);repeat(refine .intro rfl ?_;conv=>whnf))))
    · have hk' : k < L.length := by ((try simp only[oo,reduceCtorEq]at*)<;>omega)
      obtain ⟨v, hv1, hv2, y, hy1, hy2⟩ := (mL (L.getD k 0)).1 (mem_getD hk')
      have eT : nats (L.take (k + 1)) = nats (L.take k) ++ [v] := by
        rw [List.take_add_one, List.getElem?_eq_getElem hk', nats_app]
        rw [List.getD_eq_getElem?_getD, List.getElem?_eq_getElem hk'] at hv2
        simp at hv2
        simp [nats, hv2]
      refine ⟨by omega, _, intsD_at (l := L) (k := k) (by omega) hk', ?_⟩
      ((conv=>whnf);repeat(refine .intro rfl ?_;conv=>whnf))
      rw [hv2]
      refine ⟨by omega, _, rbl_atN v (by omega) hv1, ?_⟩
      ((conv=>whnf);repeat(refine .intro rfl ?_;conv=>whnf))
      cases av : a v
      · ((conv=>whnf);repeat(refine .intro rfl ?_;conv=>whnf))
        (refine .inl ⟨by (unfold InR; rw [IntKind.wrap_i64]; omega), ?_⟩; ((conv=>whnf);repeat(refine .intro rfl ?_;conv=>whnf)))
        refine ⟨(s', Z', lo', hi', ver', k + 1), ⟨by omega, hlo', hhi', hrg', hu', by rw [eT]; exact hJ.skip fun q => by rw [av] at q; cases q⟩, by dsimp only; omega, leB_envH (by (repeat' (first | exact trivial | refine And.intro rfl ?_))) rfl⟩
      · ((conv=>whnf);repeat(refine .intro rfl ?_;conv=>whnf))
        (refine ⟨by omega, (by first | omega | (simp; done) | (simp; omega) | (simp only [ll]; omega)), ?_⟩; ((conv=>whnf);repeat(refine .intro rfl ?_;conv=>whnf)))
        refine ⟨_, rbl_atN v (by omega) hv1, ?_⟩
        ((conv=>whnf);repeat(refine .intro rfl ?_;conv=>whnf))
        cases sv : s' v
        · ((conv=>whnf);repeat(refine .intro rfl ?_;conv=>whnf))
          (refine ⟨by omega, (by first | omega | (simp; done) | (simp; omega) | (simp only [ll]; omega)), ?_⟩; ((conv=>whnf);repeat(refine .intro rfl ?_;conv=>whnf)))
          refine ⟨_, rbl_atN v (by omega) hv1, ?_⟩
          ((conv=>whnf);repeat(refine .intro rfl ?_;conv=>whnf))
          refine ⟨(by unfold sliceAppend; simp only [ll]; omega), ?_⟩
          ((conv=>whnf);repeat(refine .intro rfl ?_;conv=>whnf))
          (refine .inl ⟨by (unfold InR; rw [IntKind.wrap_i64]; omega), ?_⟩; ((conv=>whnf);repeat(refine .intro rfl ?_;conv=>whnf)))
          have hl1 := unseen_lt (s := s') (s' := mark s' v) hv1 (fun j _ q => mark_of q) sv (mark_self _ _)
          refine ⟨(mark s' v, (Z'.take hi').drop lo' ++ [(v : Int)], 0, hi' - lo' + 1, ver' + 1, k + 1), ⟨by omega, by omega, by simp; omega, fun z hz => ?_, by omega, ?_⟩, by dsimp only; omega, ?_⟩
          · rcases List.mem_append.1 hz with q | q
            · exact hrg' z (List.mem_of_mem_take (List.mem_of_mem_drop q))
            · rw [List.mem_singleton] at q; omega
          · rw [List.drop_zero, List.take_of_length_le (by simp; omega), nats_app, eT]
            exact hJ.push hy1 hy2 av
          · (refine leB_close 4 (by simp) rfl ?_ ?_ <;> (repeat' (first | exact trivial | exact rfl | exact DeepM.refl _ | exact DeepML.refl _ | exact DeepMLL.refl _ | refine And.intro ?_ ?_ | (simp [Under, UnderL, UnderLL, -List.map_take, -List.map_drop]; done))))
            · exact deepMLL_eq (rbl_mark (by omega))
            · exact deepMLL_eq i64s_queueW
        · ((conv=>whnf);repeat(refine .intro rfl ?_;conv=>whnf))
          (refine .inl ⟨by (unfold InR; rw [IntKind.wrap_i64]; omega), ?_⟩; ((conv=>whnf);repeat(refine .intro rfl ?_;conv=>whnf)))
          refine ⟨(s', Z', lo', hi', ver', k + 1), ⟨by omega, hlo', hhi', hrg', hu', by rw [eT]; exact hJ.skip fun _ => sv⟩, by dsimp only; omega, leB_envH (by (repeat' (first | exact trivial | refine And.intro rfl ?_))) rfl⟩
    · have hk' : k = L.length := by have : ¬ k < L.length := by ((try simp only[oo,reduceCtorEq]at*)<;>omega)
                                    omega
      subst hk'
      refine ⟨(s', Z', lo', hi', ver'), ⟨hlo', hhi', hrg', by omega, hJ.fin fun k y h1 h2 => ?_⟩, by dsimp only; omega, leB_envH (by (repeat' (first | exact trivial | refine And.intro rfl ?_))) rfl⟩
      have hk : k < W.next.length := by
        rcases Nat.lt_or_ge k W.next.length with q | q
        · exact q
        · rw [List.getD_eq_getElem?_getD, List.getElem?_eq_none q] at h1; cases h1
      rw [List.take_length]
      exact nats_mem.2 ⟨(k : Int), (mL k).2 ⟨k, hk, rfl, y, h1, h2⟩, by simp⟩
  have h0 : hi = lo := by ((try simp only[oo,reduceCtorEq]at*)<;>omega)
  subst h0
  rw [List.drop_eq_nil_of_le (by rw [List.length_take]; omega)] at hI
  rw [rbl_congr (g' := euB W.next a c) fun i _ => hI.end_ i]
  exact ⟨rfl, by simp⟩
end

/-! ### XLa3 -/
section
open Go.RowKit
set_option linter.unusedSimpArgs false
set_option linter.unusedVariables false
/-! ### Plain -/
def atomF (W : WorldD) (num : Int) : Nat → Bool := fun i => bitB (W.label.getD i 0) num
noncomputable def labN (W : WorldD) (kind num : Int) (K : Nat → Nat → Bool) : Nat → Bool :=
  if kind = 1 then allT else if kind = 3 then atomF W num else if kind = 4 then notF (K 0) else if kind = 5 then andF (K 0) (K 1) else if kind = 6 then orF (K 0) (K 1)
  else if kind = 7 then exF W (K 0) else if kind = 8 then euF W allT (K 0) else if kind = 9 then egF W (K 0) else if kind = 10 then euF W (K 0) (K 1)
  else if kind = 11 then notF (exF W (notF (K 0))) else if kind = 12 then notF (egF W (notF (K 0))) else if kind = 13 then notF (euF W allT (notF (K 0))) else if kind = 14 then auF W (K 0) (K 1) else notF allT
mutual
noncomputable def labT (W : WorldD) : Tree → Nat → Bool
  | .node k n ks => labN W k n (labK W ks)
noncomputable def labK (W : WorldD) : List Tree → Nat → Nat → Bool
  | [], _ => noT
  | t :: _, 0 => labT W t
  | _ :: ts, j + 1 => labK W ts j
end
theorem labK_get (W : WorldD) : ∀ (ts : List Tree) (j : Nat), j < ts.length → labK W ts j = labT W (ts.getD j default)
  | [], j, h => by simp at h
  | t :: _, 0, _ => by simp [labK]
  | _ :: ts, j + 1, h => by
    rw [labK, labK_get W ts j (by simpa using h)]
    rfl
theorem labK_eq (W : WorldD) {t : Tree} {j : Nat} (h : j < t.width) : labK W t.kids j = labT W (t.kid j) := labK_get W t.kids j h
theorem labT_eq (W : WorldD) (t : Tree) : labT W t = labN W t.kind t.num (labK W t.kids) := by cases t; rw [labT]; rfl
noncomputable def kidsB (W : WorldD) (t : Tree) (k : Nat) : List (List D) := (List.range k).map fun j => [dbl W.next.length (labK W t.kids j)]
@[simp] theorem kidsB_len (W : WorldD) (t : Tree) (k : Nat) : (kidsB W t k).length = k := by simp [kidsB]
theorem pure_kidsB (W : WorldD) (t : Tree) (k : Nat) : PureLL (kidsB W t k) := pureLL_map _ (fun j => by simp [PureL, pure_dbl]) _
@[simp] theorem underLL_kidsB {m : Nat} (W : WorldD) (t : Tree) (k : Nat) : UnderLL m (kidsB W t k) ↔ True := ⟨fun _ => trivial, fun _ => underLL_pure _ (pure_kidsB W t k)⟩
theorem kidsB_at {W : WorldD} {t : Tree} {k z j : Nat} (hz : z = j) (h : j < k) : (kidsB W t k)[z]? = some [dbl W.next.length (labK W t.kids j)] := by
  subst hz
  rw [List.getElem?_eq_getElem (by simpa using h)]; simp [kidsB]
theorem kidsB_snoc (W : WorldD) (t : Tree) (k : Nat) : List.drop 0 (List.take k (kidsB W t k)) ++ List.drop 0 (List.take 1 [[dbl W.next.length (labK W t.kids k)]]) = kidsB W t (k + 1) := by
  rw [drop_take_all (by simp)]
  simp [kidsB, List.range_succ]
theorem node_arityC {t : Tree} (h : ¬ oddNode cKids t) : ((t.kind = 1 ∨ t.kind = 2 ∨ t.kind = 3) ∧ t.width = 0 ∨ (t.kind = 4 ∨ t.kind = 7 ∨ t.kind = 8 ∨ t.kind = 9 ∨ t.kind = 11 ∨ t.kind = 12 ∨ t.kind = 13) ∧ t.width = 1 ∨ (t.kind = 5 ∨ t.kind = 6 ∨ t.kind = 10 ∨ t.kind = 14) ∧ t.width = 2) ∧ 0 ≤ t.num ∧ t.num ≤ 63 := by
  unfold oddNode cKids at h
  (repeat' split at h) <;> omega
theorem bit_and {v : Int} (h : 0 ≤ v ∧ v < 18446744073709551616) (a : Int) : (bitsV .and .u64 (v.fdiv (2 ^ min a.toNat 64)) 1 == 1) = bitB v a := by
  have hr := fdiv_range h.1 h.2 (min a.toNat 64)
  rw [and_one hr.1 hr.2]
  rfl
theorem u64d_at {l : List Int} {z k : Nat} (hz : z = k) (h : k < l.length) : (l.map fun n => [D.sc (.int .u64 n)])[z]? = some [.sc (.int .u64 (l.getD k 0))] := by
  subst hz
  rw [List.getElem?_map, List.getElem?_eq_getElem h, List.getD_eq_getElem?_getD, List.getElem?_eq_getElem h]; rfl
/-! ### The labeler -/
def c199_1 : PC := .seq (.ops [⟨some 30,.bin .lss (.tmp 29) (.tmp 28),none,0⟩] false) (.seq (.cond (.tmp 30) (.skip) (.exit 0)) (.seq (.block 1 (.seq (.ops [⟨some 31,.move (.tmp 29),none,0⟩,
 ⟨some 32,.iaddr 1 (.tmp 27) (.tmp 29),none,0⟩,
 ⟨some 33,.load1 (.tmp 32),none,0⟩,
 ⟨some 8,.move (.tmp 31),none,0⟩,
 ⟨some 9,.move (.tmp 33),none,0⟩] false) (.ops [⟨some 34,.move (.tmp 7),none,0⟩,
 ⟨some 35,.move (.tmp 8),none,0⟩,
 ⟨some 36,.move (.tmp 7),none,0⟩,
 ⟨some 37,.move (.tmp 8),none,0⟩,
 ⟨some 38,.iaddr 1 (.tmp 36) (.tmp 37),none,0⟩,
 ⟨some 39,.load1 (.tmp 38),none,0⟩,
 ⟨some 40,.move (.tmp 39),none,0⟩,
 ⟨some 41,.move (.tmp 9),some (40,false),0⟩,
 ⟨some 42,.pick (.tmp 40) (.const (.bool true)) (.tmp 41),none,0⟩,
 ⟨some 43,.iaddr 1 (.tmp 34) (.tmp 35),none,0⟩,
 ⟨none,.store 1 (.tmp 43) (.tmp 42),none,0⟩] false))) (.ops [⟨some 44,.bin .add (.tmp 29) (.const (.int .i64 1)),none,0⟩,
 ⟨some 29,.move (.tmp 44),none,0⟩] false)))
def c199 : PC := .seq (.ops [⟨some 6,.move (.const (.slice none 0 0)),none,0⟩] false) (.seq (.ops [⟨some 10,.move (.tmp 0),none,0⟩,
 ⟨some 11,.move (.tmp 0),none,0⟩,
 ⟨some 12,.move (.tmp 2),none,0⟩,
 ⟨some 13,.call 193 [(.tmp 11), (.tmp 12)],none,0⟩,
 ⟨some 14,.move (.tmp 0),none,0⟩,
 ⟨some 15,.move (.tmp 0),none,0⟩,
 ⟨some 16,.move (.tmp 1),none,0⟩,
 ⟨some 17,.call 193 [(.tmp 15), (.tmp 16)],none,0⟩,
 ⟨some 18,.move (.tmp 0),none,0⟩,
 ⟨some 19,.move (.tmp 2),none,0⟩,
 ⟨some 20,.call 193 [(.tmp 18), (.tmp 19)],none,0⟩,
 ⟨some 21,.call 194 [(.tmp 14), (.tmp 17), (.tmp 20)],none,0⟩,
 ⟨some 22,.call 197 [(.tmp 10), (.tmp 13), (.tmp 21)],none,0⟩,
 ⟨some 7,.move (.tmp 22),none,0⟩] false) (.seq (.seq (.ops [⟨some 23,.move (.tmp 0),none,0⟩,
 ⟨some 24,.move (.tmp 0),none,0⟩,
 ⟨some 25,.move (.tmp 2),none,0⟩,
 ⟨some 26,.call 193 [(.tmp 24), (.tmp 25)],none,0⟩,
 ⟨some 27,.call 198 [(.tmp 23), (.tmp 26)],none,0⟩,
 ⟨some 28,.len (.tmp 27),none,0⟩,
 ⟨some 29,.move (.const (.int .i64 0)),none,0⟩] false) (.block 0 (.loop c199_1))) (.seq (.ops [⟨some 45,.move (.tmp 0),none,0⟩,
 ⟨some 46,.move (.tmp 7),none,0⟩,
 ⟨some 47,.call 193 [(.tmp 45), (.tmp 46)],none,0⟩,
 ⟨some 6,.move (.tmp 47),none,0⟩] false) (.ret))))
set_option maxRecDepth 100000 in
theorem c199_ok : FunOK Try.prog 199 48 [.tmp 6] c199 := ⟨⟨Try.f199, Try.func199, rfl, by kernel_rfl, rfl, by kernel_rfl⟩⟩
set_option maxRecDepth 100000 in
theorem la_au (W : WorldD) (hW : W.Fits) (hc : W.chk = 0) (a b : Nat → Bool) : PCall Try.prog 199 [dlab W, dbl W.next.length a, dbl W.next.length b] (dbl W.next.length (auF W a b)) := by
  obtain ⟨_, h600, _⟩ := chk_label W hc
  have n1 := la_not W (by omega) a
  have n2 := la_not W (by omega) b
  have bo := la_both W (by omega) (notF a) (notF b)
  have eO := la_euO W hc (notF b) (andF (notF a) (notF b))
  have eg := la_eg W hW hc (notF b)
  have n3 := la_not W (by omega) (orF (euF W (notF b) (andF (notF a) (notF b))) (egF W (notF b)))
  have e0 : auF W a b = notF (orF (euF W (notF b) (andF (notF a) (notF b))) (egF W (notF b))) := rfl
  refine pcall_intro c199_ok (by simp) (by simp [PureL, pure_dlab, pure_dbl]) ?_ (pure_dbl _ _)
  rw [e0]
  clear e0
  generalize euF W (notF b) (andF (notF a) (notF b)) = e at *
  generalize egF W (notF b) = f at *
  (apply rd_sound; focus (repeat' constructor))
  ((conv=>whnf);repeat(refine .intro rfl ?_;conv=>whnf))
  (refine .inl ⟨_, n2, ?_⟩; ((conv=>whnf);repeat(refine .intro rfl ?_;conv=>whnf)))
  (refine .inl ⟨_, n1, ?_⟩; ((conv=>whnf);repeat(refine .intro rfl ?_;conv=>whnf)))
  (refine .inl ⟨_, n2, ?_⟩; ((conv=>whnf);repeat(refine .intro rfl ?_;conv=>whnf)))
  (refine .inl ⟨_, bo, ?_⟩; ((conv=>whnf);repeat(refine .intro rfl ?_;conv=>whnf)))
  (refine .inr (.inr (.inl ⟨rfl, _, _, eO, ?_⟩)); ((conv=>whnf);repeat(refine .intro rfl ?_;conv=>whnf)))
  (refine .inl ⟨_, n2, ?_⟩; ((conv=>whnf);repeat(refine .intro rfl ?_;conv=>whnf)))
  (refine .inl ⟨_, eg, ?_⟩; ((conv=>whnf);repeat(refine .intro rfl ?_;conv=>whnf)))
  rw [rbl_len]
  refine pwp_for [0, 7, 27, 28] (fun k : Nat => [(29, .sc (.int .i64 k))]) (fun k => [(2, .vec true 0 1 (rbl W.next.length fun i => if i < k then orF e f i else e i))]) (fun k => k ≤ W.next.length) (fun k => W.next.length - k) 0 ?_
  ((conv=>whnf);repeat(refine .intro rfl ?_;conv=>whnf))
  refine ⟨by omega, by (repeat' (first | exact trivial | refine And.intro rfl ?_)), by simp; rfl, ?_⟩
  rintro k hk
  ((conv=>whnf);repeat(refine .intro rfl ?_;conv=>whnf))
  (apply rd_sound; focus (repeat' constructor))
  ((conv=>whnf);repeat(refine .intro rfl ?_;conv=>whnf))
  (refine ifK_split (fun q0 => ?_) (fun q0 => ?_) <;> (rw [q0]; ((conv=>whnf);repeat(refine .intro rfl ?_;conv=>whnf))))
  · have q0 : k < W.next.length := by ((try simp only[oo,reduceCtorEq]at*)<;>omega)
    have eat : (if k < k then orF e f k else e k) = e k := if_neg (by omega)
    have eput : ∀ v, v < W.next.length → (if v < k + 1 then orF e f v else e v) = if v = k then (e k || f k) else if v < k then orF e f v else e v := fun v _ => by
      by_cases q : v = k
      · subst q; rw [if_pos (by omega), if_pos rfl]; rfl
      · rw [if_neg q]
        by_cases e2 : v < k
        · rw [if_pos e2, if_pos (by omega)]
        · rw [if_neg e2, if_neg (by omega)]
    refine ⟨by omega, _, rbl_atN k (by omega) q0, ?_⟩
    ((conv=>whnf);repeat(refine .intro rfl ?_;conv=>whnf))
    (refine ⟨by omega, (by first | omega | (simp; done) | (simp; omega) | (simp only [ll]; omega)), ?_⟩; ((conv=>whnf);repeat(refine .intro rfl ?_;conv=>whnf)))
    refine ⟨_, rbl_atN k (by omega) q0, ?_⟩
    rw [eat]
    cases r : e k
    · rw [r, Bool.false_or] at eput
      ((conv=>whnf);repeat(refine .intro rfl ?_;conv=>whnf))
      (refine ⟨by omega, (by first | omega | (simp; done) | (simp; omega) | (simp only [ll]; omega)), ?_⟩; ((conv=>whnf);repeat(refine .intro rfl ?_;conv=>whnf)))
      refine ⟨_, rbl_atN k (by omega) q0, ?_⟩
      ((conv=>whnf);repeat(refine .intro rfl ?_;conv=>whnf))
      (refine .inl ⟨by (unfold InR; rw [IntKind.wrap_i64]; omega), ?_⟩; ((conv=>whnf);repeat(refine .intro rfl ?_;conv=>whnf)))
      refine ⟨k + 1, by omega, by dsimp only; omega, leB_envH (by (repeat' (first | exact trivial | refine And.intro rfl ?_))) ?_⟩
      rw [rbl_put (i := k) (by omega) eput]
      rfl
    · rw [r, Bool.true_or] at eput
      ((conv=>whnf);repeat(refine .intro rfl ?_;conv=>whnf))
      (refine ⟨by omega, (by first | omega | (simp; done) | (simp; omega) | (simp only [ll]; omega)), ?_⟩; ((conv=>whnf);repeat(refine .intro rfl ?_;conv=>whnf)))
      refine ⟨_, rbl_atN k (by omega) q0, ?_⟩
      ((conv=>whnf);repeat(refine .intro rfl ?_;conv=>whnf))
      (refine .inl ⟨by (unfold InR; rw [IntKind.wrap_i64]; omega), ?_⟩; ((conv=>whnf);repeat(refine .intro rfl ?_;conv=>whnf)))
      refine ⟨k + 1, by omega, by dsimp only; omega, leB_envH (by (repeat' (first | exact trivial | refine And.intro rfl ?_))) ?_⟩
      rw [rbl_put (i := k) (by omega) eput]
      rfl
  · have q0 : k = W.next.length := by have : ¬ k < W.next.length := by ((try simp only[oo,reduceCtorEq]at*)<;>omega)
                                      omega
    subst q0
    rw [rbl_congr (g' := orF e f) fun i hi => if_pos hi]
    rw [show dbl W.next.length (orF e f) = D.lst 1 (List.drop 0 (List.take W.next.length (rbl W.next.length (orF e f)))) from by rw [rbl_all]; rfl] at n3
    (refine .inr (.inr (.inr (.inr (.inl ⟨_, _, _, (acallAt_frz1 (pre := [_]) (post := []) n3 (pure_dbl _ _) ⟨pure_dlab W, trivial⟩ trivial (pure_rbl _ _) rfl), ?_⟩)))); ((conv=>whnf);repeat(refine .intro rfl ?_;conv=>whnf)))
    exact .refl _
def c110 : PC := .seq (.ops [⟨some 1,.box (.tmp 0),none,0⟩,
 ⟨some 2,.move (.const (.pointer none)),none,0⟩] false) (.seq (.ops [⟨some 4,.loadA 4 (.tmp 1),none,0⟩,
 ⟨some 5,.build [(.slice none 0 0), (.slice none 0 0), (.slice none 0 0), (.slice none 0 0), (.slice none 0 0), (.slice none 0 0)] [(0, 4, (.tmp 4))],none,0⟩,
 ⟨some 6,.box (.tmp 5),none,0⟩,
 ⟨some 3,.move (.tmp 6),none,0⟩] false) (.seq (.ops [⟨some 8,.move (.tmp 3),none,0⟩,
 ⟨some 9,.loadA 4 (.tmp 1),none,0⟩,
 ⟨some 10,.call 32 [(.tmp 9)],none,0⟩,
 ⟨some 7,.move (.tmp 10),none,0⟩,
 ⟨some 11,.ext 0 (.tmp 7),none,0⟩,
 ⟨some 12,.ext 1 (.tmp 7),none,0⟩,
 ⟨some 13,.nilchk (.tmp 8),none,0⟩,
 ⟨some 14,.faddr 4 (.tmp 13),none,0⟩,
 ⟨none,.store 1 (.tmp 14) (.tmp 11),none,0⟩] false) (.seq (.ops [⟨some 16,.move (.tmp 3),none,0⟩,
 ⟨some 17,.faddr 1 (.tmp 1),none,0⟩,
 ⟨some 18,.load1 (.tmp 17),none,0⟩,
 ⟨some 19,.call 168 [(.tmp 18)],none,0⟩,
 ⟨some 15,.move (.tmp 19),none,0⟩,
 ⟨some 20,.ext 0 (.tmp 15),none,0⟩,
 ⟨some 21,.ext 1 (.tmp 15),none,0⟩,
 ⟨some 22,.nilchk (.tmp 16),none,0⟩,
 ⟨some 23,.faddr 5 (.tmp 22),none,0⟩,
 ⟨none,.store 1 (.tmp 23) (.tmp 20),none,0⟩] false) (.seq (.ops [⟨some 24,.move (.tmp 3),none,0⟩,
 ⟨some 2,.move (.tmp 24),none,0⟩] false) (.ret)))))
set_option maxRecDepth 100000 in
theorem c110_ok : FunOK Try.prog 110 25 [.tmp 2] c110 := ⟨⟨Try.f110, Try.func110, rfl, by kernel_rfl, rfl, by kernel_rfl⟩⟩
theorem la_begun (W : WorldD) (hW : W.Fits) (hc : W.chk = 0) : PCall Try.prog 110 [dworld W] (dlab W) := by
  obtain ⟨_, h600, h80, _, hnx, hfr⟩ := chk_label W hc
  have hF := wo_Fair W hW hc
  have hT := scc_TurnD W.next (chkG_zero.2 ⟨by omega, fun l hl => (hnx l hl).2⟩) ⟨hW.next, hW.nextEach⟩
  refine pcall_intro c110_ok (by simp) (by simp [PureL, pure_dworld]) ?_ (pure_dlab W)
  unfold dworld WorldD.cells dlab lcel at *
  (apply rd_sound; focus (repeat' constructor))
  ((conv=>whnf);repeat(refine .intro rfl ?_;conv=>whnf))
  (refine .inl ⟨_, hF, ?_⟩; ((conv=>whnf);repeat(refine .intro rfl ?_;conv=>whnf)))
  (refine .inl ⟨_, hT, ?_⟩; ((conv=>whnf);repeat(refine .intro rfl ?_;conv=>whnf)))
  exact .loc _ _ _ _ _ rfl (deepL_refl _)
def c191 : PC := .seq (.ops [⟨some 2,.move (.const (.bool false)),none,0⟩] false) (.seq (.ops [⟨some 2,.move (.const (.bool true)),none,0⟩] false) (.ret))
set_option maxRecDepth 100000 in
theorem c191_ok : FunOK Try.prog 191 3 [.tmp 2] c191 := ⟨⟨Try.f191, Try.func191, rfl, by kernel_rfl, rfl, by kernel_rfl⟩⟩
theorem la_lab1 (i : Int) : PCall Try.prog 191 [.sc (.int .i64 i)] (.sc (.bool true)) := by
  refine pcall_intro c191_ok (by simp) (by simp [PureL, Pure]) ?_ (by simp [Pure])
  (apply rd_sound; focus (repeat' constructor))
  ((conv=>whnf);repeat(refine .intro rfl ?_;conv=>whnf))
  exact .refl _
def c192 : PC := .seq (.ops [⟨some 4,.move (.const (.bool false)),none,0⟩] false) (.seq (.ops [⟨some 5,.load1 (.tmp 1),none,0⟩,
 ⟨some 6,.nilchk (.tmp 5),none,1⟩,
 ⟨some 7,.faddr 0 (.tmp 6),none,3⟩,
 ⟨some 8,.faddr 2 (.tmp 7),none,7⟩,
 ⟨some 9,.load1 (.tmp 8),none,15⟩,
 ⟨some 10,.move (.tmp 0),none,0⟩,
 ⟨some 11,.iaddr 1 (.tmp 9) (.tmp 10),none,63⟩,
 ⟨some 12,.load1 (.tmp 11),none,127⟩,
 ⟨some 13,.faddr 1 (.tmp 2),none,0⟩,
 ⟨some 14,.load1 (.tmp 13),none,256⟩,
 ⟨some 15,.bin .shr (.tmp 12) (.tmp 14),none,1023⟩,
 ⟨some 16,.bin .and (.tmp 15) (.const (.int .u64 1)),none,2047⟩,
 ⟨some 17,.bin .eql (.tmp 16) (.const (.int .u64 1)),none,4095⟩,
 ⟨some 4,.move (.tmp 17),none,8191⟩] true) (.ret))
set_option maxRecDepth 100000 in
theorem c192_ok : FunOK Try.prog 192 18 [.tmp 4] c192 := ⟨⟨Try.f192, Try.func192, rfl, by kernel_rfl, rfl, by kernel_rfl⟩⟩
theorem la_lab2 (W : WorldD) (hl : W.label.length = W.next.length) (hL : Lett W.label) (t : Tree) (hn : 0 ≤ t.num ∧ t.num ≤ 63) (i : Nat) (hi : i < W.next.length) : PCall Try.prog 192 [.sc (.int .i64 i), .ipt [dlab W], .ipt (drow t)] (.sc (.bool (atomF W t.num i))) := by
  have hv : 0 ≤ W.label.getD i 0 ∧ W.label.getD i 0 < 18446744073709551616 := hL _ (mem_getD (by omega))
  have hb := bit_and hv t.num
  refine pcall_intro c192_ok (by simp) (by simp [PureL, Pure, pure_dlab, pure_drow]) ?_ (by simp [Pure])
  have e : atomF W t.num i = bitB (W.label.getD i 0) t.num := rfl
  rw [e, ← hb]
  unfold dlab lcel dlet
  (apply rd_sound; focus (repeat' constructor))
  ((conv=>whnf);repeat(refine .intro rfl ?_;conv=>whnf))
  refine ⟨by omega, _, u64d_at (k := i) (by omega) (by omega), ?_⟩
  ((conv=>whnf);repeat(refine .intro rfl ?_;conv=>whnf))
  refine ⟨hn.1, ?_⟩
  ((conv=>whnf);repeat(refine .intro rfl ?_;conv=>whnf))
  exact .refl _
def c195 : PC := .seq (.ops [⟨some 3,.move (.const (.bool false)),none,0⟩] false) (.seq (.ops [⟨some 4,.load1 (.tmp 1),none,0⟩,
 ⟨some 5,.iaddr 1 (.tmp 4) (.const (.int .i64 0)),none,0⟩,
 ⟨some 6,.load1 (.tmp 5),none,0⟩,
 ⟨some 7,.move (.tmp 0),none,0⟩,
 ⟨some 8,.iaddr 1 (.tmp 6) (.tmp 7),none,0⟩,
 ⟨some 9,.load1 (.tmp 8),none,0⟩,
 ⟨some 10,.move (.tmp 9),none,0⟩,
 ⟨some 11,.load1 (.tmp 1),some (10,false),0⟩,
 ⟨some 12,.iaddr 1 (.tmp 11) (.const (.int .i64 1)),some (10,false),0⟩,
 ⟨some 13,.load1 (.tmp 12),some (10,false),0⟩,
 ⟨some 14,.move (.tmp 0),some (10,false),0⟩,
 ⟨some 15,.iaddr 1 (.tmp 13) (.tmp 14),some (10,false),0⟩,
 ⟨some 16,.load1 (.tmp 15),some (10,false),0⟩,
 ⟨some 17,.pick (.tmp 10) (.const (.bool true)) (.tmp 16),none,0⟩,
 ⟨some 3,.move (.tmp 17),none,0⟩] false) (.ret))
set_option maxRecDepth 100000 in
theorem c195_ok : FunOK Try.prog 195 18 [.tmp 3] c195 := ⟨⟨Try.f195, Try.func195, rfl, by kernel_rfl, rfl, by kernel_rfl⟩⟩
theorem la_lab3 (W : WorldD) (t : Tree) (h2 : t.width = 2) (i : Nat) (hi : i < W.next.length) : PCall Try.prog 195 [.sc (.int .i64 i), .ipt [.lst 1 (kidsB W t t.width)]] (.sc (.bool (orF (labK W t.kids 0) (labK W t.kids 1) i))) := by
  refine pcall_intro c195_ok (by simp) (by simp [PureL, Pure, pure_kidsB]) ?_ (by simp [Pure])
  have e : orF (labK W t.kids 0) (labK W t.kids 1) i = (labK W t.kids 0 i || labK W t.kids 1 i) := rfl
  rw [e]
  (apply rd_sound; focus (repeat' constructor))
  ((conv=>whnf);repeat(refine .intro rfl ?_;conv=>whnf))
  refine ⟨by omega, _, kidsB_at (j := 0) (by omega) (by omega), ?_⟩
  ((conv=>whnf);repeat(refine .intro rfl ?_;conv=>whnf))
  refine ⟨by omega, _, rbl_atN i (by omega) hi, ?_⟩
  ((conv=>whnf);repeat(refine .intro rfl ?_;conv=>whnf))
  cases r : labK W t.kids 0 i
  · ((conv=>whnf);repeat(refine .intro rfl ?_;conv=>whnf))
    refine ⟨by omega, _, kidsB_at (j := 1) (by omega) (by omega), ?_⟩
    ((conv=>whnf);repeat(refine .intro rfl ?_;conv=>whnf))
    refine ⟨by omega, _, rbl_atN i (by omega) hi, ?_⟩
    ((conv=>whnf);repeat(refine .intro rfl ?_;conv=>whnf))
    exact .refl _
  · ((conv=>whnf);repeat(refine .intro rfl ?_;conv=>whnf))
    exact .refl _
def c111_1 : PC := .seq (.ops [⟨some 15,.bin .lss (.tmp 14) (.tmp 13),none,0⟩] false) (.seq (.cond (.tmp 15) (.skip) (.exit 0)) (.seq (.block 1 (.seq (.ops [⟨some 16,.iaddr 3 (.tmp 12) (.tmp 14),none,0⟩,
 ⟨some 17,.loadA 3 (.tmp 16),none,0⟩,
 ⟨some 8,.alloc [(.int .i64 0), (.int .i64 0), (.slice none 0 0)],none,0⟩,
 ⟨none,.store 3 (.tmp 8) (.tmp 17),none,0⟩] false) (.ops [⟨some 18,.load1 (.tmp 6),none,0⟩,
 ⟨some 19,.load1 (.tmp 2),none,0⟩,
 ⟨some 20,.loadA 3 (.tmp 8),none,0⟩,
 ⟨some 21,.call 111 [(.tmp 19), (.tmp 20)],none,6⟩,
 ⟨some 22,.bslice 1 1 [(.tmp 21)],none,14⟩,
 ⟨some 23,.append 1 24 (.tmp 18) (.tmp 22),none,31⟩,
 ⟨none,.store 1 (.tmp 6) (.tmp 23),none,63⟩] true))) (.ops [⟨some 24,.bin .add (.tmp 14) (.const (.int .i64 1)),none,0⟩,
 ⟨some 14,.move (.tmp 24),none,0⟩] false)))
def c111 : PC := .seq (.ops [⟨some 2,.box (.tmp 0),none,0⟩,
 ⟨some 3,.box (.tmp 1),none,0⟩,
 ⟨some 4,.move (.const (.slice none 0 0)),none,0⟩] false) (.seq (.ops [⟨some 9,.load1 (.tmp 2),none,0⟩,
 ⟨some 10,.call 190 [(.tmp 9), (.func 191)],none,0⟩,
 ⟨some 5,.move (.tmp 10),none,0⟩] false) (.seq (.ops [⟨some 6,.alloc [(.slice none 0 0)],none,0⟩] false) (.seq (.seq (.ops [⟨some 11,.faddr 2 (.tmp 3),none,0⟩,
 ⟨some 12,.load1 (.tmp 11),none,0⟩,
 ⟨some 13,.len (.tmp 12),none,0⟩,
 ⟨some 14,.move (.const (.int .i64 0)),none,0⟩] false) (.block 0 (.loop c111_1))) (.seq (.seq (.ops [⟨some 25,.faddr 0 (.tmp 3),none,0⟩,
 ⟨some 26,.load1 (.tmp 25),none,0⟩] false) (.block 2 (.seq (.ops [⟨some 28,.bin .eql (.tmp 26) (.const (.int .i64 1)),none,0⟩,
 ⟨some 27,.move (.tmp 28),none,0⟩] false) (.cond (.tmp 27) (.seq (.ops [⟨some 29,.move (.tmp 5),none,0⟩,
 ⟨some 4,.move (.tmp 29),none,0⟩] false) (.ret)) (.seq (.ops [⟨some 31,.bin .eql (.tmp 26) (.const (.int .i64 3)),none,0⟩,
 ⟨some 30,.move (.tmp 31),none,0⟩] false) (.cond (.tmp 30) (.seq (.ops [⟨some 32,.load1 (.tmp 2),none,0⟩,
 ⟨some 33,.mkfn (.func 192) [] [(.tmp 2), (.tmp 3)],none,0⟩,
 ⟨some 34,.call 190 [(.tmp 32), (.tmp 33)],none,0⟩,
 ⟨some 4,.move (.tmp 34),none,0⟩] false) (.ret)) (.seq (.ops [⟨some 36,.bin .eql (.tmp 26) (.const (.int .i64 4)),none,0⟩,
 ⟨some 35,.move (.tmp 36),none,0⟩] false) (.cond (.tmp 35) (.seq (.ops [⟨some 37,.load1 (.tmp 2),none,0⟩,
 ⟨some 38,.load1 (.tmp 6),none,0⟩,
 ⟨some 39,.iaddr 1 (.tmp 38) (.const (.int .i64 0)),none,2⟩,
 ⟨some 40,.load1 (.tmp 39),none,6⟩,
 ⟨some 41,.call 193 [(.tmp 37), (.tmp 40)],none,15⟩,
 ⟨some 4,.move (.tmp 41),none,31⟩] true) (.ret)) (.seq (.ops [⟨some 43,.bin .eql (.tmp 26) (.const (.int .i64 5)),none,0⟩,
 ⟨some 42,.move (.tmp 43),none,0⟩] false) (.cond (.tmp 42) (.seq (.ops [⟨some 44,.load1 (.tmp 2),none,0⟩,
 ⟨some 45,.load1 (.tmp 6),none,0⟩,
 ⟨some 46,.iaddr 1 (.tmp 45) (.const (.int .i64 0)),none,2⟩,
 ⟨some 47,.load1 (.tmp 46),none,6⟩,
 ⟨some 48,.load1 (.tmp 6),none,0⟩,
 ⟨some 49,.iaddr 1 (.tmp 48) (.const (.int .i64 1)),none,16⟩,
 ⟨some 50,.load1 (.tmp 49),none,48⟩,
 ⟨some 51,.call 194 [(.tmp 44), (.tmp 47), (.tmp 50)],none,127⟩,
 ⟨some 4,.move (.tmp 51),none,255⟩] true) (.ret)) (.seq (.ops [⟨some 53,.bin .eql (.tmp 26) (.const (.int .i64 6)),none,0⟩,
 ⟨some 52,.move (.tmp 53),none,0⟩] false) (.cond (.tmp 52) (.seq (.ops [⟨some 54,.load1 (.tmp 2),none,0⟩,
 ⟨some 55,.mkfn (.func 195) [] [(.tmp 6)],none,0⟩,
 ⟨some 56,.call 190 [(.tmp 54), (.tmp 55)],none,0⟩,
 ⟨some 4,.move (.tmp 56),none,0⟩] false) (.ret)) (.seq (.ops [⟨some 58,.bin .eql (.tmp 26) (.const (.int .i64 7)),none,0⟩,
 ⟨some 57,.move (.tmp 58),none,0⟩] false) (.cond (.tmp 57) (.seq (.ops [⟨some 59,.load1 (.tmp 2),none,0⟩,
 ⟨some 60,.load1 (.tmp 6),none,0⟩,
 ⟨some 61,.iaddr 1 (.tmp 60) (.const (.int .i64 0)),none,2⟩,
 ⟨some 62,.load1 (.tmp 61),none,6⟩,
 ⟨some 63,.call 196 [(.tmp 59), (.tmp 62)],none,15⟩,
 ⟨some 4,.move (.tmp 63),none,31⟩] true) (.ret)) (.seq (.ops [⟨some 65,.bin .eql (.tmp 26) (.const (.int .i64 8)),none,0⟩,
 ⟨some 64,.move (.tmp 65),none,0⟩] false) (.cond (.tmp 64) (.seq (.ops [⟨some 66,.load1 (.tmp 2),none,0⟩,
 ⟨some 67,.move (.tmp 5),none,0⟩,
 ⟨some 68,.load1 (.tmp 6),none,0⟩,
 ⟨some 69,.iaddr 1 (.tmp 68) (.const (.int .i64 0)),none,4⟩,
 ⟨some 70,.load1 (.tmp 69),none,12⟩,
 ⟨some 71,.call 197 [(.tmp 66), (.tmp 67), (.tmp 70)],none,31⟩,
 ⟨some 4,.move (.tmp 71),none,63⟩] true) (.ret)) (.seq (.ops [⟨some 73,.bin .eql (.tmp 26) (.const (.int .i64 9)),none,0⟩,
 ⟨some 72,.move (.tmp 73),none,0⟩] false) (.cond (.tmp 72) (.seq (.ops [⟨some 74,.load1 (.tmp 2),none,0⟩,
 ⟨some 75,.load1 (.tmp 6),none,0⟩,
 ⟨some 76,.iaddr 1 (.tmp 75) (.const (.int .i64 0)),none,2⟩,
 ⟨some 77,.load1 (.tmp 76),none,6⟩,
 ⟨some 78,.call 198 [(.tmp 74), (.tmp 77)],none,15⟩,
 ⟨some 4,.move (.tmp 78),none,31⟩] true) (.ret)) (.seq (.ops [⟨some 80,.bin .eql (.tmp 26) (.const (.int .i64 10)),none,0⟩,
 ⟨some 79,.move (.tmp 80),none,0⟩] false) (.cond (.tmp 79) (.seq (.ops [⟨some 81,.load1 (.tmp 2),none,0⟩,
 ⟨some 82,.load1 (.tmp 6),none,0⟩,
 ⟨some 83,.iaddr 1 (.tmp 82) (.const (.int .i64 0)),none,2⟩,
 ⟨some 84,.load1 (.tmp 83),none,6⟩,
 ⟨some 85,.load1 (.tmp 6),none,0⟩,
 ⟨some 86,.iaddr 1 (.tmp 85) (.const (.int .i64 1)),none,16⟩,
 ⟨some 87,.load1 (.tmp 86),none,48⟩,
 ⟨some 88,.call 197 [(.tmp 81), (.tmp 84), (.tmp 87)],none,127⟩,
 ⟨some 4,.move (.tmp 88),none,255⟩] true) (.ret)) (.seq (.ops [⟨some 90,.bin .eql (.tmp 26) (.const (.int .i64 11)),none,0⟩,
 ⟨some 89,.move (.tmp 90),none,0⟩] false) (.cond (.tmp 89) (.seq (.ops [⟨some 91,.load1 (.tmp 2),none,0⟩,
 ⟨some 92,.load1 (.tmp 2),none,0⟩,
 ⟨some 93,.load1 (.tmp 2),none,0⟩,
 ⟨some 94,.load1 (.tmp 6),none,0⟩,
 ⟨some 95,.iaddr 1 (.tmp 94) (.const (.int .i64 0)),none,8⟩,
 ⟨some 96,.load1 (.tmp 95),none,24⟩,
 ⟨some 97,.call 193 [(.tmp 93), (.tmp 96)],none,60⟩,
 ⟨some 98,.call 196 [(.tmp 92), (.tmp 97)],none,126⟩,
 ⟨some 99,.call 193 [(.tmp 91), (.tmp 98)],none,255⟩,
 ⟨some 4,.move (.tmp 99),none,511⟩] true) (.ret)) (.seq (.ops [⟨some 101,.bin .eql (.tmp 26) (.const (.int .i64 12)),none,0⟩,
 ⟨some 100,.move (.tmp 101),none,0⟩] false) (.cond (.tmp 100) (.seq (.ops [⟨some 102,.load1 (.tmp 2),none,0⟩,
 ⟨some 103,.load1 (.tmp 2),none,0⟩,
 ⟨some 104,.load1 (.tmp 2),none,0⟩,
 ⟨some 105,.load1 (.tmp 6),none,0⟩,
 ⟨some 106,.iaddr 1 (.tmp 105) (.const (.int .i64 0)),none,8⟩,
 ⟨some 107,.load1 (.tmp 106),none,24⟩,
 ⟨some 108,.call 193 [(.tmp 104), (.tmp 107)],none,60⟩,
 ⟨some 109,.call 198 [(.tmp 103), (.tmp 108)],none,126⟩,
 ⟨some 110,.call 193 [(.tmp 102), (.tmp 109)],none,255⟩,
 ⟨some 4,.move (.tmp 110),none,511⟩] true) (.ret)) (.seq (.ops [⟨some 112,.bin .eql (.tmp 26) (.const (.int .i64 13)),none,0⟩,
 ⟨some 111,.move (.tmp 112),none,0⟩] false) (.cond (.tmp 111) (.seq (.ops [⟨some 113,.load1 (.tmp 2),none,0⟩,
 ⟨some 114,.load1 (.tmp 2),none,0⟩,
 ⟨some 115,.move (.tmp 5),none,0⟩,
 ⟨some 116,.load1 (.tmp 2),none,0⟩,
 ⟨some 117,.load1 (.tmp 6),none,0⟩,
 ⟨some 118,.iaddr 1 (.tmp 117) (.const (.int .i64 0)),none,16⟩,
 ⟨some 119,.load1 (.tmp 118),none,48⟩,
 ⟨some 120,.call 193 [(.tmp 116), (.tmp 119)],none,120⟩,
 ⟨some 121,.call 197 [(.tmp 114), (.tmp 115), (.tmp 120)],none,254⟩,
 ⟨some 122,.call 193 [(.tmp 113), (.tmp 121)],none,511⟩,
 ⟨some 4,.move (.tmp 122),none,1023⟩] true) (.ret)) (.seq (.ops [⟨some 124,.bin .eql (.tmp 26) (.const (.int .i64 14)),none,0⟩,
 ⟨some 123,.move (.tmp 124),none,0⟩] false) (.cond (.tmp 123) (.seq (.ops [⟨some 125,.load1 (.tmp 2),none,0⟩,
 ⟨some 126,.load1 (.tmp 6),none,0⟩,
 ⟨some 127,.iaddr 1 (.tmp 126) (.const (.int .i64 0)),none,2⟩,
 ⟨some 128,.load1 (.tmp 127),none,6⟩,
 ⟨some 129,.load1 (.tmp 6),none,0⟩,
 ⟨some 130,.iaddr 1 (.tmp 129) (.const (.int .i64 1)),none,16⟩,
 ⟨some 131,.load1 (.tmp 130),none,48⟩,
 ⟨some 132,.call 199 [(.tmp 125), (.tmp 128), (.tmp 131)],none,127⟩,
 ⟨some 4,.move (.tmp 132),none,255⟩] true) (.ret)) (.skip))))))))))))))))))))))))))))) (.seq (.ops [⟨some 133,.load1 (.tmp 2),none,0⟩,
 ⟨some 134,.move (.tmp 5),none,0⟩,
 ⟨some 135,.call 193 [(.tmp 133), (.tmp 134)],none,0⟩,
 ⟨some 4,.move (.tmp 135),none,0⟩] false) (.ret))))))
set_option maxRecDepth 100000 in
theorem c111_ok : FunOK Try.prog 111 136 [.tmp 4] c111 := ⟨⟨Try.f111, Try.func111, rfl, by kernel_rfl, rfl, by kernel_rfl⟩⟩
set_option maxRecDepth 100000 in
theorem la_label (W : WorldD) (hW : W.Fits) (hc : W.chk = 0) (hL : Lett W.label) : ∀ t : Tree, t.wf cKids → PCall Try.prog 111 [dlab W, dtree t] (dbl W.next.length (labT W t)) := by
  obtain ⟨hl, h600, _⟩ := chk_label W hc
  have h6 : W.next.length ≤ 1000000 := by omega
  have hAll := la_each W h6 allT 191 [] (by simp [PureL]) (fun i hi => la_lab1 i)
  intro t
  induction t using Tree.ind with
  | h t ih =>
    intro hwf
    obtain ⟨har, hnum⟩ := node_arityC ((wf_iff _ _).1 hwf).1
    have hwd : t.width ≤ 2 := by omega
    have hA := la_each W h6 (atomF W t.num) 192 [.ipt [dlab W], .ipt (drow t)] (by simp [PureL, Pure, pure_dlab, pure_drow]) (fun i hi => la_lab2 W hl hL t hnum i hi)
    have hO := fun (h : t.width = 2) => la_each W h6 (orF (labK W t.kids 0) (labK W t.kids 1)) 195 [.ipt [.lst 1 (kidsB W t t.width)]] (by simp [PureL, Pure, pure_kidsB]) (fun i hi => la_lab3 W t h i hi)
    refine pcall_intro c111_ok (by simp) (by simp [PureL, pure_dlab, pure_dtree]) ?_ (pure_dbl _ _)
    rw [labT_eq]
    (apply rd_sound; focus (repeat' constructor))
    ((conv=>whnf);repeat(refine .intro rfl ?_;conv=>whnf))
    (refine .inl ⟨_, hAll, ?_⟩; ((conv=>whnf);repeat(refine .intro rfl ?_;conv=>whnf)))
    refine pwp_ghostB (leB_nilc 2 0 1 (by simp) rfl rfl) ?_
    refine pwp_forH [2, 3, 5, 6, 12, 13] (fun k : Nat => [(14, .sc (.int .i64 k))]) (fun k => [.row true [dlab W], .row true (drow t), .row true [.own 3 k 0 k], .vec true k 1 (kidsB W t k)]) (fun k => k ≤ t.width) (fun k => t.width - k) 0 ?_
    ((conv=>whnf);repeat(refine .intro rfl ?_;conv=>whnf))
    refine ⟨by omega, by (repeat' (first | exact trivial | refine And.intro rfl ?_)), rfl, ?_⟩
    rintro k hk
    ((conv=>whnf);repeat(refine .intro rfl ?_;conv=>whnf))
    (apply rd_sound; focus (repeat' constructor))
    ((conv=>whnf);repeat(refine .intro rfl ?_;conv=>whnf))
    (refine ifK_split (fun h1 => ?_) (fun h1 => ?_) <;> (rw [h1]; ((conv=>whnf);repeat(refine .intro rfl ?_;conv=>whnf))))
    · have hk' : k < t.width := by simpa [Tree.width] using h1
      refine ⟨by omega, _, by rw [Int.toNat_natCast]; exact kid_at hk', ?_⟩
      ((conv=>whnf);repeat(refine .intro rfl ?_;conv=>whnf))
      have hih := ih k hk' (wf_kid hwf hk')
      rw [← labK_eq W hk'] at hih
      (refine .inl ⟨_, hih, ?_⟩; ((conv=>whnf);repeat(refine .intro rfl ?_;conv=>whnf)))
      refine ⟨by unfold sliceAppend; simp; omega, ?_⟩
      ((conv=>whnf);repeat(refine .intro rfl ?_;conv=>whnf))
      (refine .inl ⟨by (unfold InR; rw [IntKind.wrap_i64]; omega), ?_⟩; ((conv=>whnf);repeat(refine .intro rfl ?_;conv=>whnf)))
      refine ⟨k + 1, by omega, by dsimp only; omega, ?_⟩
      dsimp only
      (refine leB_close 4 (by simp) rfl ?_ ?_ <;> (repeat' (first | exact trivial | exact rfl | exact DeepM.refl _ | exact DeepML.refl _ | exact DeepMLL.refl _ | refine And.intro ?_ ?_ | (simp [Under, UnderL, UnderLL, -List.map_take, -List.map_drop]; done))))
      exact deepMLL_eq (kidsB_snoc W t k)
    have hkw : k = t.width := by have : ¬ k < t.width := by simpa [Tree.width] using h1
                                 omega
    subst hkw
    clear ih h1 hk
    (refine ifK_split (fun g1 => ?_) (fun g1 => ?_) <;> (rw [g1]; ((conv=>whnf);repeat(refine .intro rfl ?_;conv=>whnf))))
    · have g1 : t.kind = 1 := by ((try simp only[oo,reduceCtorEq]at*)<;>omega)
      rw [show labN W t.kind t.num (labK W t.kids) = allT from by unfold labN; simp [g1]]
      exact .refl _
    have g1 : ¬ t.kind = 1 := by ((try simp only[oo,reduceCtorEq]at*)<;>omega)
    (refine ifK_split (fun g3 => ?_) (fun g3 => ?_) <;> (rw [g3]; ((conv=>whnf);repeat(refine .intro rfl ?_;conv=>whnf))))
    · have g3 : t.kind = 3 := by ((try simp only[oo,reduceCtorEq]at*)<;>omega)
      rw [show labN W t.kind t.num (labK W t.kids) = atomF W t.num from by unfold labN; simp [g3]]
      (refine .inr (.inr (.inr (.inr (.inr (.inl ⟨rfl, _, _, (by (repeat' (first | exact Deep.refl _ | exact Deep.none _ | exact deep_row _ | exact DeepL.nil | exact DeepLL.nil | refine Deep.agg _ _ ?_ | refine Deep.tup _ _ ?_ | refine Deep.own _ _ _ _ _ _ _ _ rfl ?_ | refine Deep.loc _ _ _ _ _ rfl ?_ | refine Deep.ifc _ _ _ ?_ | refine Deep.fn _ _ _ _ _ ?_ ?_ | refine DeepL.cons _ _ _ _ ?_ ?_ | refine DeepLL.cons _ _ _ _ ?_ ?_))), hA, ?_⟩))))); ((conv=>whnf);repeat(refine .intro rfl ?_;conv=>whnf)))
      exact .refl _
    have g3 : ¬ t.kind = 3 := by ((try simp only[oo,reduceCtorEq]at*)<;>omega)
    (refine ifK_split (fun g4 => ?_) (fun g4 => ?_) <;> (rw [g4]; ((conv=>whnf);repeat(refine .intro rfl ?_;conv=>whnf))))
    · have g4 : t.kind = 4 := by ((try simp only[oo,reduceCtorEq]at*)<;>omega)
      rw [show labN W t.kind t.num (labK W t.kids) = notF (labK W t.kids 0) from by unfold labN; simp [g4]]
      (refine ⟨by omega, (by first | omega | (simp; done) | (simp; omega) | (simp only [ll]; omega)), ?_⟩; ((conv=>whnf);repeat(refine .intro rfl ?_;conv=>whnf)))
      refine ⟨_, kidsB_at (j := 0) (by omega) (by omega), ?_⟩
      ((conv=>whnf);repeat(refine .intro rfl ?_;conv=>whnf))
      (refine .inl ⟨_, (la_not W h6 (labK W t.kids 0)), ?_⟩; ((conv=>whnf);repeat(refine .intro rfl ?_;conv=>whnf)))
      exact .refl _
    have g4 : ¬ t.kind = 4 := by ((try simp only[oo,reduceCtorEq]at*)<;>omega)
    (refine ifK_split (fun g5 => ?_) (fun g5 => ?_) <;> (rw [g5]; ((conv=>whnf);repeat(refine .intro rfl ?_;conv=>whnf))))
    · have g5 : t.kind = 5 := by ((try simp only[oo,reduceCtorEq]at*)<;>omega)
      rw [show labN W t.kind t.num (labK W t.kids) = andF (labK W t.kids 0) (labK W t.kids 1) from by unfold labN; simp [g5]]
      (refine ⟨by omega, (by first | omega | (simp; done) | (simp; omega) | (simp only [ll]; omega)), ?_⟩; ((conv=>whnf);repeat(refine .intro rfl ?_;conv=>whnf)))
      refine ⟨_, kidsB_at (j := 0) (by omega) (by omega), ?_⟩
      ((conv=>whnf);repeat(refine .intro rfl ?_;conv=>whnf))
      (refine ⟨by omega, (by first | omega | (simp; done) | (simp; omega) | (simp only [ll]; omega)), ?_⟩; ((conv=>whnf);repeat(refine .intro rfl ?_;conv=>whnf)))
      refine ⟨_, kidsB_at (j := 1) (by omega) (by omega), ?_⟩
      ((conv=>whnf);repeat(refine .intro rfl ?_;conv=>whnf))
      (refine .inl ⟨_, (la_both W h6 (labK W t.kids 0) (labK W t.kids 1)), ?_⟩; ((conv=>whnf);repeat(refine .intro rfl ?_;conv=>whnf)))
      exact .refl _
    have g5 : ¬ t.kind = 5 := by ((try simp only[oo,reduceCtorEq]at*)<;>omega)
    (refine ifK_split (fun g6 => ?_) (fun g6 => ?_) <;> (rw [g6]; ((conv=>whnf);repeat(refine .intro rfl ?_;conv=>whnf))))
    · have g6 : t.kind = 6 := by ((try simp only[oo,reduceCtorEq]at*)<;>omega)
      rw [show labN W t.kind t.num (labK W t.kids) = orF (labK W t.kids 0) (labK W t.kids 1) from by unfold labN; simp [g6]]
      have hdd : ∀ {H : List AObj}, DeepLL H (List.drop 0 (List.take t.width (kidsB W t t.width))) (kidsB W t t.width) := by intro H; rw [drop_take_all (by simp)]; exact deepLL_refl _
      refine .inr (.inr (.inr (.inr (.inr (.inl ⟨rfl, _, _, .cons _ _ _ _ (.refl _) (.cons _ _ _ _ (.fn _ _ _ _ _ .nil (.cons _ _ _ _ (.loc _ _ _ _ _ rfl (.cons _ _ _ _ (.own _ _ _ _ _ _ _ _ rfl hdd) .nil)) .nil)) .nil), hO (by omega), ?_⟩)))))
      ((conv=>whnf);repeat(refine .intro rfl ?_;conv=>whnf))
      exact .refl _
    have g6 : ¬ t.kind = 6 := by ((try simp only[oo,reduceCtorEq]at*)<;>omega)
    (refine ifK_split (fun g7 => ?_) (fun g7 => ?_) <;> (rw [g7]; ((conv=>whnf);repeat(refine .intro rfl ?_;conv=>whnf))))
    · have g7 : t.kind = 7 := by ((try simp only[oo,reduceCtorEq]at*)<;>omega)
      rw [show labN W t.kind t.num (labK W t.kids) = exF W (labK W t.kids 0) from by unfold labN; simp [g7]]
      (refine ⟨by omega, (by first | omega | (simp; done) | (simp; omega) | (simp only [ll]; omega)), ?_⟩; ((conv=>whnf);repeat(refine .intro rfl ?_;conv=>whnf)))
      refine ⟨_, kidsB_at (j := 0) (by omega) (by omega), ?_⟩
      ((conv=>whnf);repeat(refine .intro rfl ?_;conv=>whnf))
      (refine .inl ⟨_, (la_ex W hW hc (labK W t.kids 0)), ?_⟩; ((conv=>whnf);repeat(refine .intro rfl ?_;conv=>whnf)))
      exact .refl _
    have g7 : ¬ t.kind = 7 := by ((try simp only[oo,reduceCtorEq]at*)<;>omega)
    (refine ifK_split (fun g8 => ?_) (fun g8 => ?_) <;> (rw [g8]; ((conv=>whnf);repeat(refine .intro rfl ?_;conv=>whnf))))
    · have g8 : t.kind = 8 := by ((try simp only[oo,reduceCtorEq]at*)<;>omega)
      rw [show labN W t.kind t.num (labK W t.kids) = euF W allT (labK W t.kids 0) from by unfold labN; simp [g8]]
      (refine ⟨by omega, (by first | omega | (simp; done) | (simp; omega) | (simp only [ll]; omega)), ?_⟩; ((conv=>whnf);repeat(refine .intro rfl ?_;conv=>whnf)))
      refine ⟨_, kidsB_at (j := 0) (by omega) (by omega), ?_⟩
      ((conv=>whnf);repeat(refine .intro rfl ?_;conv=>whnf))
      (refine .inl ⟨_, (la_eu W hc allT (labK W t.kids 0)), ?_⟩; ((conv=>whnf);repeat(refine .intro rfl ?_;conv=>whnf)))
      exact .refl _
    have g8 : ¬ t.kind = 8 := by ((try simp only[oo,reduceCtorEq]at*)<;>omega)
    (refine ifK_split (fun g9 => ?_) (fun g9 => ?_) <;> (rw [g9]; ((conv=>whnf);repeat(refine .intro rfl ?_;conv=>whnf))))
    · have g9 : t.kind = 9 := by ((try simp only[oo,reduceCtorEq]at*)<;>omega)
      rw [show labN W t.kind t.num (labK W t.kids) = egF W (labK W t.kids 0) from by unfold labN; simp [g9]]
      (refine ⟨by omega, (by first | omega | (simp; done) | (simp; omega) | (simp only [ll]; omega)), ?_⟩; ((conv=>whnf);repeat(refine .intro rfl ?_;conv=>whnf)))
      refine ⟨_, kidsB_at (j := 0) (by omega) (by omega), ?_⟩
      ((conv=>whnf);repeat(refine .intro rfl ?_;conv=>whnf))
      (refine .inl ⟨_, (la_eg W hW hc (labK W t.kids 0)), ?_⟩; ((conv=>whnf);repeat(refine .intro rfl ?_;conv=>whnf)))
      exact .refl _
    have g9 : ¬ t.kind = 9 := by ((try simp only[oo,reduceCtorEq]at*)<;>omega)
    (refine ifK_split (fun g10 => ?_) (fun g10 => ?_) <;> (rw [g10]; ((conv=>whnf);repeat(refine .intro rfl ?_;conv=>whnf))))
    · have g10 : t.kind = 10 := by ((try simp only[oo,reduceCtorEq]at*)<;>omega)
      rw [show labN W t.kind t.num (labK W t.kids) = euF W (labK W t.kids 0) (labK W t.kids 1) from by unfold labN; simp [g10]]
      (refine ⟨by omega, (by first | omega | (simp; done) | (simp; omega) | (simp only [ll]; omega)), ?_⟩; ((conv=>whnf);repeat(refine .intro rfl ?_;conv=>whnf)))
      refine ⟨_, kidsB_at (j := 0) (by omega) (by omega), ?_⟩
      ((conv=>whnf);repeat(refine .intro rfl ?_;conv=>whnf))
      (refine ⟨by omega, (by first | omega | (simp; done) | (simp; omega) | (simp only [ll]; omega)), ?_⟩; ((conv=>whnf);repeat(refine .intro rfl ?_;conv=>whnf)))
      refine ⟨_, kidsB_at (j := 1) (by omega) (by omega), ?_⟩
      ((conv=>whnf);repeat(refine .intro rfl ?_;conv=>whnf))
      (refine .inl ⟨_, (la_eu W hc (labK W t.kids 0) (labK W t.kids 1)), ?_⟩; ((conv=>whnf);repeat(refine .intro rfl ?_;conv=>whnf)))
      exact .refl _
    have g10 : ¬ t.kind = 10 := by ((try simp only[oo,reduceCtorEq]at*)<;>omega)
    (refine ifK_split (fun g11 => ?_) (fun g11 => ?_) <;> (rw [g11]; ((conv=>whnf);repeat(refine .intro rfl ?_;conv=>whnf))))
    · have g11 : t.kind = 11 := by ((try simp only[oo,reduceCtorEq]at*)<;>omega)
      rw [show labN W t.kind t.num (labK W t.kids) = notF (exF W (notF (labK W t.kids 0))) from by unfold labN; simp [g11]]
      (refine ⟨by omega, (by first | omega | (simp; done) | (simp; omega) | (simp only [ll]; omega)), ?_⟩; ((conv=>whnf);repeat(refine .intro rfl ?_;conv=>whnf)))
      refine ⟨_, kidsB_at (j := 0) (by omega) (by omega), ?_⟩
      ((conv=>whnf);repeat(refine .intro rfl ?_;conv=>whnf))
      (refine .inl ⟨_, (la_not W h6 (labK W t.kids 0)), ?_⟩; ((conv=>whnf);repeat(refine .intro rfl ?_;conv=>whnf)))
      (refine .inl ⟨_, (la_ex W hW hc (notF (labK W t.kids 0))), ?_⟩; ((conv=>whnf);repeat(refine .intro rfl ?_;conv=>whnf)))
      (refine .inl ⟨_, (la_not W h6 (exF W (notF (labK W t.kids 0)))), ?_⟩; ((conv=>whnf);repeat(refine .intro rfl ?_;conv=>whnf)))
      exact .refl _
    have g11 : ¬ t.kind = 11 := by ((try simp only[oo,reduceCtorEq]at*)<;>omega)
    (refine ifK_split (fun g12 => ?_) (fun g12 => ?_) <;> (rw [g12]; ((conv=>whnf);repeat(refine .intro rfl ?_;conv=>whnf))))
    · have g12 : t.kind = 12 := by ((try simp only[oo,reduceCtorEq]at*)<;>omega)
      rw [show labN W t.kind t.num (labK W t.kids) = notF (egF W (notF (labK W t.kids 0))) from by unfold labN; simp [g12]]
      (refine ⟨by omega, (by first | omega | (simp; done) | (simp; omega) | (simp only [ll]; omega)), ?_⟩; ((conv=>whnf);repeat(refine .intro rfl ?_;conv=>whnf)))
      refine ⟨_, kidsB_at (j := 0) (by omega) (by omega), ?_⟩
      ((conv=>whnf);repeat(refine .intro rfl ?_;conv=>whnf))
      (refine .inl ⟨_, (la_not W h6 (labK W t.kids 0)), ?_⟩; ((conv=>whnf);repeat(refine .intro rfl ?_;conv=>whnf)))
      (refine .inl ⟨_, (la_eg W hW hc (notF (labK W t.kids 0))), ?_⟩; ((conv=>whnf);repeat(refine .intro rfl ?_;conv=>whnf)))
      (refine .inl ⟨_, (la_not W h6 (egF W (notF (labK W t.kids 0)))), ?_⟩; ((conv=>whnf);repeat(refine .intro rfl ?_;conv=>whnf)))
      exact .refl _
    have g12 : ¬ t.kind = 12 := by ((try simp only[oo,reduceCtorEq]at*)<;>omega)
    (refine ifK_split (fun g13 => ?_) (fun g13 => ?_) <;> (rw [g13]; ((conv=>whnf);repeat(refine .intro rfl ?_;conv=>whnf))))
    · have g13 : t.kind = 13 := by ((try simp only[oo,reduceCtorEq]at*)<;>omega)
      rw [show labN W t.kind t.num (labK W t.kids) = notF (euF W allT (notF (labK W t.kids 0))) from by unfold labN; simp [g13]]
      (refine ⟨by omega, (by first | omega | (simp; done) | (simp; omega) | (simp only [ll]; omega)), ?_⟩; ((conv=>whnf);repeat(refine .intro rfl ?_;conv=>whnf)))
      refine ⟨_, kidsB_at (j := 0) (by omega) (by omega), ?_⟩
      ((conv=>whnf);repeat(refine .intro rfl ?_;conv=>whnf))
      (refine .inl ⟨_, (la_not W h6 (labK W t.kids 0)), ?_⟩; ((conv=>whnf);repeat(refine .intro rfl ?_;conv=>whnf)))
      (refine .inl ⟨_, (la_eu W hc allT (notF (labK W t.kids 0))), ?_⟩; ((conv=>whnf);repeat(refine .intro rfl ?_;conv=>whnf)))
      (refine .inl ⟨_, (la_not W h6 (euF W allT (notF (labK W t.kids 0)))), ?_⟩; ((conv=>whnf);repeat(refine .intro rfl ?_;conv=>whnf)))
      exact .refl _
    have g13 : ¬ t.kind = 13 := by ((try simp only[oo,reduceCtorEq]at*)<;>omega)
    (refine ifK_split (fun g14 => ?_) (fun g14 => ?_) <;> (rw [g14]; ((conv=>whnf);repeat(refine .intro rfl ?_;conv=>whnf))))
    · have g14 : t.kind = 14 := by ((try simp only[oo,reduceCtorEq]at*)<;>omega)
      rw [show labN W t.kind t.num (labK W t.kids) = auF W (labK W t.kids 0) (labK W t.kids 1) from by unfold labN; simp [g14]]
      (refine ⟨by omega, (by first | omega | (simp; done) | (simp; omega) | (simp only [ll]; omega)), ?_⟩; ((conv=>whnf);repeat(refine .intro rfl ?_;conv=>whnf)))
      refine ⟨_, kidsB_at (j := 0) (by omega) (by omega), ?_⟩
      ((conv=>whnf);repeat(refine .intro rfl ?_;conv=>whnf))
      (refine ⟨by omega, (by first | omega | (simp; done) | (simp; omega) | (simp only [ll]; omega)), ?_⟩; ((conv=>whnf);repeat(refine .intro rfl ?_;conv=>whnf)))
      refine ⟨_, kidsB_at (j := 1) (by omega) (by omega), ?_⟩
      ((conv=>whnf);repeat(refine .intro rfl ?_;conv=>whnf))
      (refine .inl ⟨_, (la_au W hW hc (labK W t.kids 0) (labK W t.kids 1)), ?_⟩; ((conv=>whnf);repeat(refine .intro rfl ?_;conv=>whnf)))
      exact .refl _
    have g14 : ¬ t.kind = 14 := by ((try simp only[oo,reduceCtorEq]at*)<;>omega)
    rw [show labN W t.kind t.num (labK W t.kids) = notF allT from by unfold labN; simp [g1, g3, g4, g5, g6, g7, g8, g9, g10, g11, g12, g13, g14]]
    (refine .inl ⟨_, (la_not W h6 allT), ?_⟩; ((conv=>whnf);repeat(refine .intro rfl ?_;conv=>whnf)))
    exact .refl _
end

end Go.Proofs.Ytfgklgjbnpjpoaa
