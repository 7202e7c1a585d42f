/-
  La4 La5 La6 joined. No statement is proved here.
-/
import Derived.Test.YtfgklgjbnpjpoaaQLaA
import Derived.Test.YtfgklgjbnpjpoaaQFn
namespace Go.Proofs.Ytfgklgjbnpjpoaa
/-! ### XLa4 -/
section
open Go.RowKit
set_option linter.unusedSimpArgs false
set_option linter.unusedVariables false
def mapF (n : Nat) : D := .fn (.func 114) [] [.ipt [.sc (.int .i64 n)]]
@[simp] theorem pure_mapF (n : Nat) : Pure (mapF n) := by simp [mapF, Pure, PureL]
theorem pure_wdc (W : WorldD) : PureL W.cells := by have := pure_dworld W; simpa only [dworld, Pure] using this
def c114_1 : PC := .seq (.seq (.ops [⟨some 8,.move (.tmp 5),none,0⟩,
 ⟨some 9,.load1 (.tmp 1),none,0⟩,
 ⟨some 10,.bin .lss (.tmp 8) (.tmp 9),none,0⟩] false) (.cond (.tmp 10) (.skip) (.exit 0))) (.seq (.block 1 (.ops [⟨some 13,.move (.tmp 4),none,0⟩,
 ⟨some 14,.move (.tmp 5),none,0⟩,
 ⟨some 15,.move (.tmp 0),none,0⟩,
 ⟨some 16,.move (.tmp 5),none,0⟩,
 ⟨some 17,.callv (.tmp 15) [(.tmp 16)],none,0⟩,
 ⟨some 18,.iaddr 1 (.tmp 13) (.tmp 14),none,0⟩,
 ⟨none,.store 1 (.tmp 18) (.tmp 17),none,0⟩] false)) (.ops [⟨some 11,.move (.tmp 5),none,0⟩,
 ⟨some 12,.bin .add (.tmp 11) (.const (.int .i64 1)),none,0⟩,
 ⟨some 5,.move (.tmp 12),none,0⟩] false))
def c114 : PC := .seq (.ops [⟨some 3,.move (.const (.slice none 0 0)),none,0⟩] false) (.seq (.ops [⟨some 6,.load1 (.tmp 1),none,0⟩,
 ⟨some 7,.mslice 1 1 [(.bool false)] (.tmp 6) (.tmp 6),none,0⟩,
 ⟨some 4,.move (.tmp 7),none,0⟩] false) (.seq (.seq (.ops [⟨some 5,.move (.const (.int .i64 0)),none,0⟩] false) (.block 0 (.loop c114_1))) (.seq (.ops [⟨some 19,.move (.tmp 4),none,0⟩,
 ⟨some 3,.move (.tmp 19),none,0⟩] false) (.ret))))
set_option maxRecDepth 100000 in
theorem c114_ok : FunOK Try.prog 114 20 [.tmp 3] c114 := ⟨⟨Try.f114, Try.func114, rfl, by kernel_rfl, rfl, by kernel_rfl⟩⟩
theorem lr_map (n : Nat) (hn : n ≤ 1000000) (p : Nat → Bool) (cl : FuncId) (caps : List D) (hcaps : PureL caps) (hc : ∀ i : Nat, i < n → PCall Try.prog cl (.sc (.int .i64 i) :: caps) (.sc (.bool (p i)))) :
    PCall Try.prog 114 [.fn (.func cl) [] caps, .ipt [.sc (.int .i64 n)]] (dbl n p) := by
  refine pcall_intro c114_ok (by simp) (by simp [PureL, Pure, hcaps]) ?_ (pure_dbl _ _)
  (apply rd_sound; focus (repeat' constructor))
  ((conv=>whnf);repeat(refine .intro rfl ?_;conv=>whnf))
  refine ⟨by omega, by omega, by omega, ?_⟩
  rw [Int.toNat_natCast, show List.map D.sc [Value.bool false] = [D.sc (.bool false)] from rfl, rbl_rep]
  ((conv=>whnf);repeat(refine .intro rfl ?_;conv=>whnf))
  refine pwp_for [0, 1, 4] (fun k : Nat => [(5, .sc (.int .i64 k))]) (fun k => [(0, .vec true 0 1 (rbl n fun i => if i < k then p i else false))]) (fun k => k ≤ n) (fun k => n - k) 0 ?_
  ((conv=>whnf);repeat(refine .intro rfl ?_;conv=>whnf))
  refine ⟨by omega, by (repeat' (first | exact trivial | refine And.intro rfl ?_)), by simp; rfl, ?_⟩
  rintro k hk
  ((conv=>whnf);repeat(refine .intro rfl ?_;conv=>whnf))
  (apply rd_sound; focus (repeat' constructor))
  ((conv=>whnf);repeat(refine .intro rfl ?_;conv=>whnf))
  (refine ifK_split (fun q0 => ?_) (fun q0 => ?_) <;> (rw [q0]; ((conv=>whnf);repeat(refine .intro rfl ?_;conv=>whnf))))
  rotate_left
  · have q0 : k = n := by have : ¬ k < n := by ((try simp only[oo,reduceCtorEq]at*)<;>omega)
                          omega
    subst q0
    rw [rbl_congr (g' := p) fun i hi => if_pos hi]
    exact deep_vec rfl
  have q0 : k < n := by ((try simp only[oo,reduceCtorEq]at*)<;>omega)
  (refine .inl ⟨_, (hc k q0), ?_⟩; ((conv=>whnf);repeat(refine .intro rfl ?_;conv=>whnf)))
  (refine ⟨by omega, (by first | omega | (simp; done) | (simp; omega) | (simp only [ll]; omega)), ?_⟩; ((conv=>whnf);repeat(refine .intro rfl ?_;conv=>whnf)))
  refine ⟨_, rbl_atN k (by omega) q0, ?_⟩
  ((conv=>whnf);repeat(refine .intro rfl ?_;conv=>whnf))
  (refine .inl ⟨by (unfold InR; rw [IntKind.wrap_i64]; omega), ?_⟩; ((conv=>whnf);repeat(refine .intro rfl ?_;conv=>whnf)))
  refine ⟨k + 1, by omega, by dsimp only; omega, leB_envH (by (repeat' (first | exact trivial | refine And.intro rfl ?_))) ?_⟩
  rw [rbl_put (i := k) (f' := fun i => if i < k + 1 then p i else false) (by omega) fun v _ => by
    by_cases e : v = k
    · subst e; rw [if_pos (by omega), if_pos rfl]
    · rw [if_neg e]
      by_cases e2 : v < k
      · rw [if_pos e2, if_pos (by omega)]
      · rw [if_neg e2, if_neg (by omega)]]
  rfl
theorem lr_map2 (n : Nat) (hn : n ≤ 1000000) (p : Nat → Bool) (cl : FuncId) (x y : D) (hx : Pure x) (hy : Pure y) (hc : ∀ i : Nat, i < n → PCall Try.prog cl [.sc (.int .i64 i), .ipt [x], .ipt [y]] (.sc (.bool (p i)))) :
    ACall Try.prog 114 [.fn (.func cl) [] [.loc 0 0, .ipt [y]], .ipt [.sc (.int .i64 n)]] [.row true [x]] (.own 1 0 0 n) [.row true [x], .vec true 0 1 (rbl n p)] := by
  refine acall_intro c114_ok (by simp) (by simp) ?_ (by simp [Under]) (by
    intro o ho
    simp only [List.mem_cons, List.not_mem_nil, or_false] at ho
    rcases ho with rfl | rfl
    · exact ⟨under_pure _ hx, trivial⟩
    · exact underLL_pure _ (pure_rbl _ _))
  (apply rd_sound; focus (repeat' constructor))
  ((conv=>whnf);repeat(refine .intro rfl ?_;conv=>whnf))
  refine ⟨by omega, by omega, by omega, ?_⟩
  rw [Int.toNat_natCast, show List.map D.sc [Value.bool false] = [D.sc (.bool false)] from rfl, rbl_rep]
  ((conv=>whnf);repeat(refine .intro rfl ?_;conv=>whnf))
  refine pwp_for [0, 1, 4] (fun k : Nat => [(5, .sc (.int .i64 k))]) (fun k => [(1, .vec true 0 1 (rbl n fun i => if i < k then p i else false))]) (fun k => k ≤ n) (fun k => n - k) 0 ?_
  ((conv=>whnf);repeat(refine .intro rfl ?_;conv=>whnf))
  refine ⟨by omega, by (repeat' (first | exact trivial | refine And.intro rfl ?_)), by simp; rfl, ?_⟩
  rintro k hk
  ((conv=>whnf);repeat(refine .intro rfl ?_;conv=>whnf))
  (apply rd_sound; focus (repeat' constructor))
  ((conv=>whnf);repeat(refine .intro rfl ?_;conv=>whnf))
  (refine ifK_split (fun q0 => ?_) (fun q0 => ?_) <;> (rw [q0]; ((conv=>whnf);repeat(refine .intro rfl ?_;conv=>whnf))))
  rotate_left
  · have q0 : k = n := by have : ¬ k < n := by ((try simp only[oo,reduceCtorEq]at*)<;>omega)
                          omega
    subst q0
    rw [rbl_congr (g' := p) fun i hi => if_pos hi]
    exact ⟨rfl, Nat.le_refl _⟩
  have q0 : k < n := by ((try simp only[oo,reduceCtorEq]at*)<;>omega)
  (refine .inr (.inl ⟨_, _, (by (repeat' (first | exact Deep.refl _ | exact Deep.none _ | exact deep_row _ | exact DeepL.nil | exact DeepLL.nil | refine Deep.agg _ _ ?_ | refine Deep.tup _ _ ?_ | refine Deep.own _ _ _ _ _ _ _ _ rfl ?_ | refine Deep.loc _ _ _ _ _ rfl ?_ | refine Deep.ifc _ _ _ ?_ | refine Deep.fn _ _ _ _ _ ?_ ?_ | refine DeepL.cons _ _ _ _ ?_ ?_ | refine DeepLL.cons _ _ _ _ ?_ ?_))), (hc k q0), rfl, ?_⟩); ((conv=>whnf);repeat(refine .intro rfl ?_;conv=>whnf)))
  (refine ⟨by omega, (by first | omega | (simp; done) | (simp; omega) | (simp only [ll]; omega)), ?_⟩; ((conv=>whnf);repeat(refine .intro rfl ?_;conv=>whnf)))
  refine ⟨_, rbl_atN k (by omega) q0, ?_⟩
  ((conv=>whnf);repeat(refine .intro rfl ?_;conv=>whnf))
  (refine .inl ⟨by (unfold InR; rw [IntKind.wrap_i64]; omega), ?_⟩; ((conv=>whnf);repeat(refine .intro rfl ?_;conv=>whnf)))
  refine ⟨k + 1, by omega, by dsimp only; omega, leB_envH (by (repeat' (first | exact trivial | refine And.intro rfl ?_))) ?_⟩
  rw [rbl_put (i := k) (f' := fun i => if i < k + 1 then p i else false) (by omega) fun v _ => by
    by_cases e : v = k
    · subst e; rw [if_pos (by omega), if_pos rfl]
    · rw [if_neg e]
      by_cases e2 : v < k
      · rw [if_pos e2, if_pos (by omega)]
      · rw [if_neg e2, if_neg (by omega)]]
  rfl
def c116 : PC := .seq (.ops [⟨some 3,.move (.const (.bool false)),none,0⟩] false) (.seq (.ops [⟨some 4,.load1 (.tmp 1),none,0⟩,
 ⟨some 5,.move (.tmp 0),none,0⟩,
 ⟨some 6,.iaddr 1 (.tmp 4) (.tmp 5),none,0⟩,
 ⟨some 7,.load1 (.tmp 6),none,0⟩,
 ⟨some 8,.un .not (.tmp 7),none,0⟩,
 ⟨some 3,.move (.tmp 8),none,0⟩] false) (.ret))
set_option maxRecDepth 100000 in
theorem c116_ok : FunOK Try.prog 116 9 [.tmp 3] c116 := ⟨⟨Try.f116, Try.func116, rfl, by kernel_rfl, rfl, by kernel_rfl⟩⟩
theorem lr_no1 (n : Nat) (a : Nat → Bool) (i : Nat) (hi : i < n) : PCall Try.prog 116 [.sc (.int .i64 i), .ipt [dbl n a]] (.sc (.bool (notF a i))) := by
  refine pcall_intro c116_ok (by simp) (by simp [PureL, Pure, pure_dbl]) ?_ (by simp [Pure])
  (apply rd_sound; focus (repeat' constructor))
  ((conv=>whnf);repeat(refine .intro rfl ?_;conv=>whnf))
  refine ⟨by omega, _, rbl_atN i (by omega) hi, ?_⟩
  ((conv=>whnf);repeat(refine .intro rfl ?_;conv=>whnf))
  exact .refl _
def c115 : PC := .seq (.ops [⟨some 2,.box (.tmp 0),none,0⟩,
 ⟨some 3,.move (.const (.slice none 0 0)),none,0⟩] false) (.seq (.ops [⟨some 4,.load1 (.tmp 1),none,0⟩,
 ⟨some 5,.mkfn (.func 116) [] [(.tmp 2)],none,0⟩,
 ⟨some 6,.callv (.tmp 4) [(.tmp 5)],none,0⟩,
 ⟨some 3,.move (.tmp 6),none,0⟩] false) (.ret))
set_option maxRecDepth 100000 in
theorem c115_ok : FunOK Try.prog 115 7 [.tmp 3] c115 := ⟨⟨Try.f115, Try.func115, rfl, by kernel_rfl, rfl, by kernel_rfl⟩⟩
theorem lr_no (n : Nat) (hn : n ≤ 1000000) (a : Nat → Bool) : PCall Try.prog 115 [dbl n a, .ipt [mapF n]] (dbl n (notF a)) := by
  have hE := lr_map n hn (notF a) 116 [.ipt [dbl n a]] (by simp [PureL, Pure, pure_dbl]) (fun i hi => lr_no1 n a i hi)
  refine pcall_intro c115_ok (by simp) (by simp [PureL, Pure, pure_dbl]) ?_ (pure_dbl _ _)
  unfold mapF
  (apply rd_sound; focus (repeat' constructor))
  ((conv=>whnf);repeat(refine .intro rfl ?_;conv=>whnf))
  (refine .inr (.inr (.inr (.inr (.inr (.inl ⟨rfl, _, _, (by (repeat' (first | exact Deep.refl _ | exact Deep.none _ | exact deep_row _ | exact DeepL.nil | exact DeepLL.nil | refine Deep.agg _ _ ?_ | refine Deep.tup _ _ ?_ | refine Deep.own _ _ _ _ _ _ _ _ rfl ?_ | refine Deep.loc _ _ _ _ _ rfl ?_ | refine Deep.ifc _ _ _ ?_ | refine Deep.fn _ _ _ _ _ ?_ ?_ | refine DeepL.cons _ _ _ _ ?_ ?_ | refine DeepLL.cons _ _ _ _ ?_ ?_))), hE, ?_⟩))))); ((conv=>whnf);repeat(refine .intro rfl ?_;conv=>whnf)))
  exact .refl _
def c118 : PC := .seq (.ops [⟨some 4,.move (.const (.bool false)),none,0⟩] false) (.seq (.ops [⟨some 5,.load1 (.tmp 1),none,0⟩,
 ⟨some 6,.move (.tmp 0),none,0⟩,
 ⟨some 7,.iaddr 1 (.tmp 5) (.tmp 6),none,0⟩,
 ⟨some 8,.load1 (.tmp 7),none,0⟩,
 ⟨some 9,.move (.tmp 8),none,0⟩,
 ⟨some 10,.load1 (.tmp 2),some (9,true),0⟩,
 ⟨some 11,.move (.tmp 0),some (9,true),0⟩,
 ⟨some 12,.iaddr 1 (.tmp 10) (.tmp 11),some (9,true),0⟩,
 ⟨some 13,.load1 (.tmp 12),some (9,true),0⟩,
 ⟨some 14,.pick (.tmp 9) (.tmp 13) (.const (.bool false)),none,0⟩,
 ⟨some 4,.move (.tmp 14),none,0⟩] false) (.ret))
set_option maxRecDepth 100000 in
theorem c118_ok : FunOK Try.prog 118 15 [.tmp 4] c118 := ⟨⟨Try.f118, Try.func118, rfl, by kernel_rfl, rfl, by kernel_rfl⟩⟩
theorem lr_until1 (n : Nat) (a b : Nat → Bool) (i : Nat) (hi : i < n) : PCall Try.prog 118 [.sc (.int .i64 i), .ipt [dbl n a], .ipt [dbl n b]] (.sc (.bool (andF a b i))) := by
  refine pcall_intro c118_ok (by simp) (by simp [PureL, Pure, pure_dbl]) ?_ (by simp [Pure])
  have e : andF a b i = (a i && b i) := rfl
  (apply rd_sound; focus (repeat' constructor))
  ((conv=>whnf);repeat(refine .intro rfl ?_;conv=>whnf))
  refine ⟨by omega, _, rbl_atN i (by omega) hi, ?_⟩
  ((conv=>whnf);repeat(refine .intro rfl ?_;conv=>whnf))
  cases r : a i
  · rw [r] at e
    ((conv=>whnf);repeat(refine .intro rfl ?_;conv=>whnf))
    rw [e]
    exact .refl _
  · rw [r] at e
    ((conv=>whnf);repeat(refine .intro rfl ?_;conv=>whnf))
    refine ⟨by omega, _, rbl_atN i (by omega) hi, ?_⟩
    ((conv=>whnf);repeat(refine .intro rfl ?_;conv=>whnf))
    rw [e]
    exact .refl _
def c122 : PC := .seq (.ops [⟨some 4,.move (.const (.bool false)),none,0⟩] false) (.seq (.ops [⟨some 5,.load1 (.tmp 1),none,0⟩,
 ⟨some 6,.move (.tmp 0),none,0⟩,
 ⟨some 7,.iaddr 1 (.tmp 5) (.tmp 6),none,0⟩,
 ⟨some 8,.load1 (.tmp 7),none,0⟩,
 ⟨some 9,.move (.tmp 8),none,0⟩,
 ⟨some 10,.load1 (.tmp 2),some (9,true),0⟩,
 ⟨some 11,.move (.tmp 0),some (9,true),0⟩,
 ⟨some 12,.iaddr 1 (.tmp 10) (.tmp 11),some (9,true),0⟩,
 ⟨some 13,.load1 (.tmp 12),some (9,true),0⟩,
 ⟨some 14,.pick (.tmp 9) (.tmp 13) (.const (.bool false)),none,0⟩,
 ⟨some 4,.move (.tmp 14),none,0⟩] false) (.ret))
set_option maxRecDepth 100000 in
theorem c122_ok : FunOK Try.prog 122 15 [.tmp 4] c122 := ⟨⟨Try.f122, Try.func122, rfl, by kernel_rfl, rfl, by kernel_rfl⟩⟩
theorem lr_next11 (n : Nat) (a b : Nat → Bool) (i : Nat) (hi : i < n) : PCall Try.prog 122 [.sc (.int .i64 i), .ipt [dbl n a], .ipt [dbl n b]] (.sc (.bool (andF a b i))) := by
  refine pcall_intro c122_ok (by simp) (by simp [PureL, Pure, pure_dbl]) ?_ (by simp [Pure])
  have e : andF a b i = (a i && b i) := rfl
  (apply rd_sound; focus (repeat' constructor))
  ((conv=>whnf);repeat(refine .intro rfl ?_;conv=>whnf))
  refine ⟨by omega, _, rbl_atN i (by omega) hi, ?_⟩
  ((conv=>whnf);repeat(refine .intro rfl ?_;conv=>whnf))
  cases r : a i
  · rw [r] at e
    ((conv=>whnf);repeat(refine .intro rfl ?_;conv=>whnf))
    rw [e]
    exact .refl _
  · rw [r] at e
    ((conv=>whnf);repeat(refine .intro rfl ?_;conv=>whnf))
    refine ⟨by omega, _, rbl_atN i (by omega) hi, ?_⟩
    ((conv=>whnf);repeat(refine .intro rfl ?_;conv=>whnf))
    rw [e]
    exact .refl _
def c120 : PC := .seq (.ops [⟨some 5,.move (.const (.bool false)),none,0⟩] false) (.seq (.ops [⟨some 6,.faddr 1 (.tmp 1),none,0⟩,
 ⟨some 7,.load1 (.tmp 6),none,0⟩,
 ⟨some 8,.move (.tmp 0),none,0⟩,
 ⟨some 9,.iaddr 1 (.tmp 7) (.tmp 8),none,0⟩,
 ⟨some 10,.load1 (.tmp 9),none,0⟩,
 ⟨some 11,.mkfn (.func 122) [] [(.tmp 2), (.tmp 3)],none,0⟩,
 ⟨some 12,.call 121 [(.tmp 10), (.tmp 11)],none,0⟩,
 ⟨some 5,.move (.tmp 12),none,0⟩] false) (.ret))
set_option maxRecDepth 100000 in
theorem c120_ok : FunOK Try.prog 120 13 [.tmp 5] c120 := ⟨⟨Try.f120, Try.func120, rfl, by kernel_rfl, rfl, by kernel_rfl⟩⟩
theorem lr_next1 (W : WorldD) (hW : W.Fits) (hc : W.chk = 0) (a : Nat → Bool) (i : Nat) (hi : i < W.next.length) : PCall Try.prog 120 [.sc (.int .i64 i), .ipt W.cells, .ipt [dbl W.next.length a], .ipt [dbl W.next.length (fairF W)]] (.sc (.bool (exF W a i))) := by
  obtain ⟨_, h600, h80, _, hnx, hfr⟩ := chk_label W hc
  have hrow := fun k => inB_row (g := W.next) (fun l hl => (hnx l hl).2) k
  have hFN : FitsG W.next := ⟨hW.next, hW.nextEach⟩
  have hgF := hFN.at i
  have hcl : ∀ x ∈ W.next.getD i [], PCall Try.prog 122 [.sc (.int .i64 x), .ipt [dbl W.next.length a], .ipt [dbl W.next.length (fairF W)]] (.sc (.bool (andF a (fairF W) x.toNat))) := fun x hx => by
    have h := inB_mem (hrow i) hx
    have := lr_next11 W.next.length a (fairF W) x.toNat (by omega)
    rwa [show ((x.toNat : Nat) : Int) = x by omega] at this
  have hC := containsF_int (fun x => .sc (.int .i64 x)) (fun x => by simp [Pure]) (W.next.getD i []) (by omega) (fun x => andF a (fairF W) x.toNat) 122 [.ipt [dbl W.next.length a], .ipt [dbl W.next.length (fairF W)]] (by simp [PureL, Pure, pure_dbl]) hcl
  refine pcall_intro c120_ok (by simp) (by simp [PureL, Pure, pure_dbl, pure_wdc]) ?_ (by simp [Pure])
  have e : exF W a i = (W.next.getD i []).any fun x => andF a (fairF W) x.toNat := rfl
  rw [e]
  unfold WorldD.cells at *
  (apply rd_sound; focus (repeat' constructor))
  ((conv=>whnf);repeat(refine .intro rfl ?_;conv=>whnf))
  refine ⟨by omega, _, gridD_at (g := W.next) (k := i) (by omega) hi, ?_⟩
  ((conv=>whnf);repeat(refine .intro rfl ?_;conv=>whnf))
  (refine .inl ⟨_, hC, ?_⟩; ((conv=>whnf);repeat(refine .intro rfl ?_;conv=>whnf)))
  exact .refl _
def c119 : PC := .seq (.ops [⟨some 4,.box (.tmp 0),none,0⟩,
 ⟨some 5,.move (.const (.slice none 0 0)),none,0⟩] false) (.seq (.ops [⟨some 6,.load1 (.tmp 1),none,0⟩,
 ⟨some 7,.mkfn (.func 120) [] [(.tmp 2), (.tmp 4), (.tmp 3)],none,0⟩,
 ⟨some 8,.callv (.tmp 6) [(.tmp 7)],none,0⟩,
 ⟨some 5,.move (.tmp 8),none,0⟩] false) (.ret))
set_option maxRecDepth 100000 in
theorem c119_ok : FunOK Try.prog 119 9 [.tmp 5] c119 := ⟨⟨Try.f119, Try.func119, rfl, by kernel_rfl, rfl, by kernel_rfl⟩⟩
theorem lr_next (W : WorldD) (hW : W.Fits) (hc : W.chk = 0) (a : Nat → Bool) : PCall Try.prog 119 [dbl W.next.length a, .ipt [mapF W.next.length], .ipt W.cells, .ipt [dbl W.next.length (fairF W)]] (dbl W.next.length (exF W a)) := by
  obtain ⟨_, h600, _⟩ := chk_label W hc
  have hE := lr_map W.next.length (by omega) (exF W a) 120 [.ipt W.cells, .ipt [dbl W.next.length a], .ipt [dbl W.next.length (fairF W)]] (by simp [PureL, Pure, pure_dbl, pure_wdc]) (fun i hi => lr_next1 W hW hc a i hi)
  refine pcall_intro c119_ok (by simp) (by simp [PureL, Pure, pure_dbl, pure_wdc]) ?_ (pure_dbl _ _)
  unfold mapF
  (apply rd_sound; focus (repeat' constructor))
  ((conv=>whnf);repeat(refine .intro rfl ?_;conv=>whnf))
  (refine .inr (.inr (.inr (.inr (.inr (.inl ⟨rfl, _, _, (by (repeat' (first | exact Deep.refl _ | exact Deep.none _ | exact deep_row _ | exact DeepL.nil | exact DeepLL.nil | refine Deep.agg _ _ ?_ | refine Deep.tup _ _ ?_ | refine Deep.own _ _ _ _ _ _ _ _ rfl ?_ | refine Deep.loc _ _ _ _ _ rfl ?_ | refine Deep.ifc _ _ _ ?_ | refine Deep.fn _ _ _ _ _ ?_ ?_ | refine DeepL.cons _ _ _ _ ?_ ?_ | refine DeepLL.cons _ _ _ _ ?_ ?_))), hE, ?_⟩))))); ((conv=>whnf);repeat(refine .intro rfl ?_;conv=>whnf)))
  exact .refl _
end

/-! ### XLa5 -/
section
open Go.RowKit
set_option linter.unusedSimpArgs false
set_option linter.unusedVariables false
def c117_3 : PC := .seq (.seq (.ops [⟨some 22,.move (.tmp 12),none,0⟩,
 ⟨some 23,.faddr 1 (.tmp 5),none,0⟩,
 ⟨some 24,.load1 (.tmp 23),none,0⟩,
 ⟨some 25,.move (.tmp 11),none,0⟩,
 ⟨some 26,.iaddr 1 (.tmp 24) (.tmp 25),none,0⟩,
 ⟨some 27,.load1 (.tmp 26),none,0⟩,
 ⟨some 28,.len (.tmp 27),none,0⟩,
 ⟨some 29,.bin .lss (.tmp 22) (.tmp 28),none,0⟩] false) (.cond (.tmp 29) (.skip) (.exit 4))) (.seq (.block 5 (.seq (.ops [⟨some 32,.move (.tmp 0),none,0⟩,
 ⟨some 33,.move (.tmp 11),none,0⟩,
 ⟨some 34,.iaddr 1 (.tmp 32) (.tmp 33),none,0⟩,
 ⟨some 35,.load1 (.tmp 34),none,0⟩,
 ⟨some 36,.move (.tmp 35),none,0⟩,
 ⟨some 37,.move (.tmp 9),some (36,true),0⟩,
 ⟨some 38,.move (.tmp 11),some (36,true),0⟩,
 ⟨some 39,.iaddr 1 (.tmp 37) (.tmp 38),some (36,true),0⟩,
 ⟨some 40,.load1 (.tmp 39),some (36,true),0⟩,
 ⟨some 41,.un .not (.tmp 40),some (36,true),0⟩,
 ⟨some 42,.pick (.tmp 36) (.tmp 41) (.const (.bool false)),none,0⟩,
 ⟨some 43,.move (.tmp 42),none,0⟩,
 ⟨some 44,.move (.tmp 9),some (43,true),0⟩,
 ⟨some 45,.faddr 1 (.tmp 5),some (43,true),0⟩,
 ⟨some 46,.load1 (.tmp 45),some (43,true),0⟩,
 ⟨some 47,.move (.tmp 11),some (43,true),0⟩,
 ⟨some 48,.iaddr 1 (.tmp 46) (.tmp 47),some (43,true),0⟩,
 ⟨some 49,.load1 (.tmp 48),some (43,true),0⟩,
 ⟨some 50,.move (.tmp 12),some (43,true),0⟩,
 ⟨some 51,.iaddr 1 (.tmp 49) (.tmp 50),some (43,true),0⟩,
 ⟨some 52,.load1 (.tmp 51),some (43,true),0⟩,
 ⟨some 53,.iaddr 1 (.tmp 44) (.tmp 52),some (43,true),0⟩,
 ⟨some 54,.load1 (.tmp 53),some (43,true),0⟩,
 ⟨some 55,.pick (.tmp 43) (.tmp 54) (.const (.bool false)),none,0⟩] false) (.cond (.tmp 55) (.seq (.ops [⟨some 56,.move (.tmp 9),none,0⟩,
 ⟨some 57,.move (.tmp 11),none,0⟩,
 ⟨some 58,.iaddr 1 (.tmp 56) (.tmp 57),none,0⟩,
 ⟨none,.store 1 (.tmp 58) (.const (.bool true)),none,0⟩] false) (.ops [⟨some 10,.move (.const (.bool true)),none,0⟩] false)) (.skip)))) (.ops [⟨some 30,.move (.tmp 12),none,0⟩,
 ⟨some 31,.bin .add (.tmp 30) (.const (.int .i64 1)),none,0⟩,
 ⟨some 12,.move (.tmp 31),none,0⟩] false))
def c117_2 : PC := .seq (.seq (.ops [⟨some 17,.move (.tmp 11),none,0⟩,
 ⟨some 18,.load1 (.tmp 4),none,0⟩,
 ⟨some 19,.bin .lss (.tmp 17) (.tmp 18),none,0⟩] false) (.cond (.tmp 19) (.skip) (.exit 2))) (.seq (.block 3 (.seq (.ops [⟨some 12,.move (.const (.int .i64 0)),none,0⟩] false) (.block 4 (.loop c117_3)))) (.ops [⟨some 20,.move (.tmp 11),none,0⟩,
 ⟨some 21,.bin .add (.tmp 20) (.const (.int .i64 1)),none,0⟩,
 ⟨some 11,.move (.tmp 21),none,0⟩] false))
def c117_1 : PC := .seq (.seq (.ops [⟨some 16,.move (.tmp 10),none,0⟩] false) (.cond (.tmp 16) (.skip) (.exit 0))) (.block 1 (.seq (.ops [⟨some 10,.move (.const (.bool false)),none,0⟩] false) (.seq (.ops [⟨some 11,.move (.const (.int .i64 0)),none,0⟩] false) (.block 2 (.loop c117_2)))))
def c117 : PC := .seq (.ops [⟨some 7,.box (.tmp 1),none,0⟩,
 ⟨some 8,.move (.const (.slice none 0 0)),none,0⟩] false) (.seq (.ops [⟨some 13,.load1 (.tmp 2),none,0⟩,
 ⟨some 14,.mkfn (.func 118) [] [(.tmp 7), (.tmp 3)],none,0⟩,
 ⟨some 15,.callv (.tmp 13) [(.tmp 14)],none,0⟩,
 ⟨some 9,.move (.tmp 15),none,0⟩] false) (.seq (.seq (.ops [⟨some 10,.move (.const (.bool true)),none,0⟩] false) (.block 0 (.loop c117_1))) (.seq (.ops [⟨some 59,.move (.tmp 9),none,0⟩,
 ⟨some 8,.move (.tmp 59),none,0⟩] false) (.ret))))
set_option maxRecDepth 100000 in
theorem c117_ok : FunOK Try.prog 117 60 [.tmp 8] c117 := ⟨⟨Try.f117, Try.func117, rfl, by kernel_rfl, rfl, by kernel_rfl⟩⟩
set_option maxRecDepth 100000 in
theorem lr_until (W : WorldD) (hW : W.Fits) (hc : W.chk = 0) (a b : Nat → Bool) : PCall Try.prog 117 [dbl W.next.length a, dbl W.next.length b, .ipt [mapF W.next.length], .ipt [dbl W.next.length (fairF W)], .ipt [.sc (.int .i64 W.next.length)], .ipt W.cells] (dbl W.next.length (euF W a b)) := by
  obtain ⟨_, h600, h80, _, hnx, hfr⟩ := chk_label W hc
  have hrow := fun k => inB_row (g := W.next) (fun l hl => (hnx l hl).2) k
  have hFN : FitsG W.next := ⟨hW.next, hW.nextEach⟩
  have hM := lr_map2 W.next.length (by omega) (andF b (fairF W)) 118 (dbl W.next.length b) (dbl W.next.length (fairF W)) (pure_dbl _ _) (pure_dbl _ _) (fun i hi => lr_until1 W.next.length b (fairF W) i hi)
  have e0 : euF W a b = euB W.next a (andF b (fairF W)) := rfl
  refine pcall_intro c117_ok (by simp) (by simp [PureL, Pure, pure_dbl, pure_wdc]) ?_ (pure_dbl _ _)
  rw [e0]
  clear e0
  generalize andF b (fairF W) = c at *
  unfold mapF WorldD.cells at *
  (apply rd_sound; focus (repeat' constructor))
  ((conv=>whnf);repeat(refine .intro rfl ?_;conv=>whnf))
  (refine .inr (.inr (.inl ⟨rfl, _, _, hM, ?_⟩)); ((conv=>whnf);repeat(refine .intro rfl ?_;conv=>whnf)))
  refine pwp_for [0, 4, 5, 9] (fun ((m, s) : Bool × (Nat → Bool)) => [(10, .sc (.bool m))]) (fun (m, s) => [(1, .vec true 0 1 (rbl W.next.length s))])
    (fun (m, s) => (∀ v, s v = true → Eu W.next a c v) ∧ (∀ v, c v = true → s v = true) ∧ (m = false → ∀ v x, x ∈ W.next.getD v [] → a v = true → s x.toNat = true → s v = true)) (fun (m, s) => if m = true then 1 + unseen s W.next.length else 0) (true, c) ?_
  ((conv=>whnf);repeat(refine .intro rfl ?_;conv=>whnf))
  refine ⟨⟨(fun v h => .base h), (fun v h => h), (fun h => by cases h)⟩, by (repeat' (first | exact trivial | refine And.intro rfl ?_)), rfl, ?_⟩
  rintro ⟨m, s0⟩ ⟨hS, hC, hcl⟩
  ((conv=>whnf);repeat(refine .intro rfl ?_;conv=>whnf))
  (apply rd_sound; focus (repeat' constructor))
  ((conv=>whnf);repeat(refine .intro rfl ?_;conv=>whnf))
  cases m
  · ((conv=>whnf);repeat(refine .intro rfl ?_;conv=>whnf))
    rw [rbl_congr (g' := euB W.next a c) fun i _ => eu_rounds hS hC (hcl rfl) i]
    exact deep_vec rfl
  ((conv=>whnf);repeat(refine .intro rfl ?_;conv=>whnf))
  refine pwp_for [0, 4, 5, 9] (fun ((m, i, s) : Bool × Nat × (Nat → Bool)) => [(10, .sc (.bool m)), (11, .sc (.int .i64 i))]) (fun (m, i, s) => [(1, .vec true 0 1 (rbl W.next.length s))])
    (fun (m, i, s) => i ≤ W.next.length ∧ (∀ v, s v = true → Eu W.next a c v) ∧ (∀ v, s0 v = true → s v = true) ∧ (m = true → unseen s W.next.length < unseen s0 W.next.length) ∧ (m = false → ∀ v x, v < i → x ∈ W.next.getD v [] → a v = true → s x.toNat = true → s v = true)) (fun (m, i, s) => W.next.length - i) (false, 0, s0) ?_
  ((conv=>whnf);repeat(refine .intro rfl ?_;conv=>whnf))
  refine ⟨⟨by omega, hS, (fun v h => h), (fun h => by cases h), (fun _ v x h => by omega)⟩, by (repeat' (first | exact trivial | refine And.intro rfl ?_)), rfl, ?_⟩
  clear hS hcl
  rintro ⟨m, i, s⟩ ⟨hi, hS, hmo, hmt, hmf⟩
  ((conv=>whnf);repeat(refine .intro rfl ?_;conv=>whnf))
  (apply rd_sound; focus (repeat' constructor))
  ((conv=>whnf);repeat(refine .intro rfl ?_;conv=>whnf))
  (refine ifK_split (fun q1 => ?_) (fun q1 => ?_) <;> (rw [q1]; ((conv=>whnf);repeat(refine .intro rfl ?_;conv=>whnf))))
  rotate_left
  · have q1 : i = W.next.length := by have : ¬ i < W.next.length := by ((try simp only[oo,reduceCtorEq]at*)<;>omega)
                                      omega
    subst q1
    have hle := unseen_mono (n := W.next.length) fun j _ h => hmo j h
    refine ⟨(m, s), ⟨hS, fun v h => hmo v (hC v h), fun h v x hx => ?_⟩, ?_, leB_envH (by (repeat' (first | exact trivial | refine And.intro rfl ?_))) rfl⟩
    · rcases Nat.lt_or_ge v W.next.length with q | q
      · exact hmf h v x q hx
      · rw [List.getD_eq_getElem?_getD, List.getElem?_eq_none q] at hx; cases hx
    · dsimp only
      cases m
      · simp; omega
      · have := hmt rfl
        simp; omega
  have hi' : i < W.next.length := by ((try simp only[oo,reduceCtorEq]at*)<;>omega)
  have hgF := hFN.at i
  refine pwp_for [0, 4, 5, 9, 11] (fun ((m, j, s) : Bool × Nat × (Nat → Bool)) => [(10, .sc (.bool m)), (12, .sc (.int .i64 j))]) (fun (m, j, s) => [(1, .vec true 0 1 (rbl W.next.length s))])
    (fun (m, j, s) => j ≤ (W.next.getD i []).length ∧ (∀ v, s v = true → Eu W.next a c v) ∧ (∀ v, s0 v = true → s v = true) ∧ (m = true → unseen s W.next.length < unseen s0 W.next.length) ∧ (m = false → (∀ v x, v < i → x ∈ W.next.getD v [] → a v = true → s x.toNat = true → s v = true) ∧ ∀ y, y < j → a i = true → s ((W.next.getD i []).getD y 0).toNat = true → s i = true)) (fun (m, j, s) => (W.next.getD i []).length - j) (m, 0, s) ?_
  ((conv=>whnf);repeat(refine .intro rfl ?_;conv=>whnf))
  refine ⟨⟨by omega, hS, hmo, hmt, fun h => ⟨hmf h, fun y h => by omega⟩⟩, by (repeat' (first | exact trivial | refine And.intro rfl ?_)), rfl, ?_⟩
  clear hS hmo hmt hmf q1
  rintro ⟨m, j, s⟩ ⟨hj, hS, hmo, hmt, hmf⟩
  ((conv=>whnf);repeat(refine .intro rfl ?_;conv=>whnf))
  (apply rd_sound; focus (repeat' constructor))
  ((conv=>whnf);repeat(refine .intro rfl ?_;conv=>whnf))
  refine ⟨by omega, _, gridD_at (g := W.next) (k := i) (by omega) hi', ?_⟩
  ((conv=>whnf);repeat(refine .intro rfl ?_;conv=>whnf))
  rw [List.length_map]
  (refine ifK_split (fun q1 => ?_) (fun q1 => ?_) <;> (rw [q1]; ((conv=>whnf);repeat(refine .intro rfl ?_;conv=>whnf))))
  rotate_left
  · have q1 : j = (W.next.getD i []).length := by have : ¬ j < (W.next.getD i []).length := by ((try simp only[oo,reduceCtorEq]at*)<;>omega)
                                                  omega
    subst q1
    (refine .inl ⟨by (unfold InR; rw [IntKind.wrap_i64]; omega), ?_⟩; ((conv=>whnf);repeat(refine .intro rfl ?_;conv=>whnf)))
    refine ⟨(m, i + 1, s), ⟨by omega, hS, hmo, hmt, fun h v x hv hx ha hsx => ?_⟩, by dsimp only; omega, leB_envH (by (repeat' (first | exact trivial | refine And.intro rfl ?_))) rfl⟩
    by_cases e : v = i
    · subst e
      obtain ⟨y, hy, rfl⟩ := getD_mem hx
      exact (hmf h).2 y hy ha hsx
    · exact (hmf h).1 v x (by omega) hx ha hsx
  have hj' : j < (W.next.getD i []).length := by ((try simp only[oo,reduceCtorEq]at*)<;>omega)
  have hx := inB_mem (hrow i) (mem_getD hj')
  have hmx := mem_getD hj'
  have hxat : ∀ z', z' = j → ((W.next.getD i []).map fun n => [D.sc (.int .i64 n)])[z']? = some [.sc (.int .i64 ((W.next.getD i []).getD j 0))] := fun z' hz => intsD_at (l := W.next.getD i []) hz hj'
  refine ⟨by omega, _, rbl_atN i (by omega) hi', ?_⟩
  ((conv=>whnf);repeat(refine .intro rfl ?_;conv=>whnf))
  cases ra : a i
  · have hrow2 : a i = true → s ((W.next.getD i []).getD j 0).toNat = true → s i = true := fun h => by rw [ra] at h; cases h
    ((conv=>whnf);repeat(refine .intro rfl ?_;conv=>whnf))
    (refine .inl ⟨by (unfold InR; rw [IntKind.wrap_i64]; omega), ?_⟩; ((conv=>whnf);repeat(refine .intro rfl ?_;conv=>whnf)))
    refine ⟨(m, j + 1, s), ⟨by omega, hS, hmo, hmt, fun h => ⟨(hmf h).1, fun y hy ha hsy => ?_⟩⟩, by dsimp only; omega, leB_envH (by (repeat' (first | exact trivial | refine And.intro rfl ?_))) rfl⟩
    have hq : s i = true := by
      by_cases e : y = j
      · subst e; exact hrow2 (ra.trans ha) (by first | exact hsy | exact rx.trans hsy)
      · exact (hmf h).2 y (by omega) (ra.trans ha) hsy
    first | exact hq | exact rs.symm.trans hq
  ((conv=>whnf);repeat(refine .intro rfl ?_;conv=>whnf))
  (refine ⟨by omega, (by first | omega | (simp; done) | (simp; omega) | (simp only [ll]; omega)), ?_⟩; ((conv=>whnf);repeat(refine .intro rfl ?_;conv=>whnf)))
  refine ⟨_, rbl_atN i (by omega) hi', ?_⟩
  ((conv=>whnf);repeat(refine .intro rfl ?_;conv=>whnf))
  cases rs : s i
  rotate_left
  · have hrow2 : a i = true → s ((W.next.getD i []).getD j 0).toNat = true → s i = true := fun _ _ => rs
    ((conv=>whnf);repeat(refine .intro rfl ?_;conv=>whnf))
    (refine .inl ⟨by (unfold InR; rw [IntKind.wrap_i64]; omega), ?_⟩; ((conv=>whnf);repeat(refine .intro rfl ?_;conv=>whnf)))
    refine ⟨(m, j + 1, s), ⟨by omega, hS, hmo, hmt, fun h => ⟨(hmf h).1, fun y hy ha hsy => ?_⟩⟩, by dsimp only; omega, leB_envH (by (repeat' (first | exact trivial | refine And.intro rfl ?_))) rfl⟩
    have hq : s i = true := by
      by_cases e : y = j
      · subst e; exact hrow2 (ra.trans ha) (by first | exact hsy | exact rx.trans hsy)
      · exact (hmf h).2 y (by omega) (ra.trans ha) hsy
    first | exact hq | exact rs.symm.trans hq
  ((conv=>whnf);repeat(refine .intro rfl ?_;conv=>whnf))
  refine ⟨by omega, _, gridD_at (g := W.next) (k := i) (by omega) hi', ?_⟩
  ((conv=>whnf);repeat(refine .intro rfl ?_;conv=>whnf))
  refine ⟨by omega, _, hxat _ (by omega), ?_⟩
  generalize hxe : (W.next.getD i []).getD j 0 = x at *
  ((conv=>whnf);repeat(refine .intro rfl ?_;conv=>whnf))
  (refine ⟨by omega, (by first | omega | (simp; done) | (simp; omega) | (simp only [ll]; omega)), ?_⟩; ((conv=>whnf);repeat(refine .intro rfl ?_;conv=>whnf)))
  refine ⟨_, rbl_atN x.toNat (by omega) (by omega), ?_⟩
  ((conv=>whnf);repeat(refine .intro rfl ?_;conv=>whnf))
  cases rx : s x.toNat
  · have hrow2 : a i = true → s ((W.next.getD i []).getD j 0).toNat = true → s i = true := fun _ h => by rw [hxe, rx] at h; cases h
    ((conv=>whnf);repeat(refine .intro rfl ?_;conv=>whnf))
    (refine .inl ⟨by (unfold InR; rw [IntKind.wrap_i64]; omega), ?_⟩; ((conv=>whnf);repeat(refine .intro rfl ?_;conv=>whnf)))
    refine ⟨(m, j + 1, s), ⟨by omega, hS, hmo, hmt, fun h => ⟨(hmf h).1, fun y hy ha hsy => ?_⟩⟩, by dsimp only; omega, leB_envH (by (repeat' (first | exact trivial | refine And.intro rfl ?_))) rfl⟩
    have hq : s i = true := by
      by_cases e : y = j
      · subst e; exact hrow2 (ra.trans ha) (by first | exact hsy | exact rx.trans hsy)
      · exact (hmf h).2 y (by omega) (ra.trans ha) hsy
    first | exact hq | exact rs.symm.trans hq
  ((conv=>whnf);repeat(refine .intro rfl ?_;conv=>whnf))
  (refine ⟨by omega, (by first | omega | (simp; done) | (simp; omega) | (simp only [ll]; omega)), ?_⟩; ((conv=>whnf);repeat(refine .intro rfl ?_;conv=>whnf)))
  refine ⟨_, rbl_atN i (by omega) hi', ?_⟩
  ((conv=>whnf);repeat(refine .intro rfl ?_;conv=>whnf))
  (refine .inl ⟨by (unfold InR; rw [IntKind.wrap_i64]; omega), ?_⟩; ((conv=>whnf);repeat(refine .intro rfl ?_;conv=>whnf)))
  have hlt := unseen_lt (s := s) (s' := mark s i) hi' (fun j _ q => mark_of q) rs (mark_self _ _)
  have hle := unseen_mono (n := W.next.length) fun j _ h => hmo j h
  refine ⟨(true, j + 1, mark s i), ⟨by omega, fun v hv => ?_, fun v h => mark_of (hmo v h), fun _ => by omega, fun h => by cases h⟩, by dsimp only; omega, leB_envH (by (repeat' (first | exact trivial | refine And.intro rfl ?_))) (by rw [rbl_mark (v := i) (by omega)]; rfl)⟩
  rcases mark_iff.1 hv with e | e
  · subst e; exact .step ra hmx (hS _ rx)
  · exact hS v e
end

/-! ### XLa6 -/
section
open Go.RowKit
set_option linter.unusedSimpArgs false
set_option linter.unusedVariables false
def c123 : PC := .seq (.ops [⟨some 4,.move (.const (.bool false)),none,0⟩] false) (.seq (.ops [⟨some 5,.faddr 2 (.tmp 1),none,0⟩,
 ⟨some 6,.load1 (.tmp 5),none,1⟩,
 ⟨some 7,.move (.tmp 0),none,0⟩,
 ⟨some 8,.iaddr 1 (.tmp 6) (.tmp 7),none,7⟩,
 ⟨some 9,.load1 (.tmp 8),none,15⟩,
 ⟨some 10,.faddr 1 (.tmp 2),none,0⟩,
 ⟨some 11,.load1 (.tmp 10),none,32⟩,
 ⟨some 12,.bin .shr (.tmp 9) (.tmp 11),none,127⟩,
 ⟨some 13,.bin .rem (.tmp 12) (.const (.int .u64 2)),none,255⟩,
 ⟨some 14,.bin .eql (.tmp 13) (.const (.int .u64 1)),none,511⟩,
 ⟨some 4,.move (.tmp 14),none,1023⟩] true) (.ret))
set_option maxRecDepth 100000 in
theorem c123_ok : FunOK Try.prog 123 15 [.tmp 4] c123 := ⟨⟨Try.f123, Try.func123, rfl, by kernel_rfl, rfl, by kernel_rfl⟩⟩
theorem lr_atom (W : WorldD) (hl : W.label.length = W.next.length) (hL : Lett W.label) (t : Tree) (hn : 0 ≤ t.num ∧ t.num ≤ 63) (i : Nat) (hi : i < W.next.length) : PCall Try.prog 123 [.sc (.int .i64 i), .ipt W.cells, .ipt (drow t)] (.sc (.bool (atomF W t.num i))) := by
  refine pcall_intro c123_ok (by simp) (by simp [PureL, Pure, pure_wdc, pure_drow]) ?_ (by simp [Pure])
  have e : atomF W t.num i = bitB (W.label.getD i 0) t.num := rfl
  rw [e]
  unfold WorldD.cells dlet
  (apply rd_sound; focus (repeat' constructor))
  ((conv=>whnf);repeat(refine .intro rfl ?_;conv=>whnf))
  refine ⟨by omega, _, u64d_at (k := i) (by omega) (by omega), ?_⟩
  ((conv=>whnf);repeat(refine .intro rfl ?_;conv=>whnf))
  refine ⟨hn.1, ?_⟩
  ((conv=>whnf);repeat(refine .intro rfl ?_;conv=>whnf))
  refine ⟨by decide, ?_⟩
  ((conv=>whnf);repeat(refine .intro rfl ?_;conv=>whnf))
  exact .refl _
def c124 : PC := .seq (.ops [⟨some 3,.move (.const (.bool false)),none,0⟩] false) (.seq (.ops [⟨some 4,.load1 (.tmp 1),none,0⟩,
 ⟨some 5,.iaddr 1 (.tmp 4) (.const (.int .i64 0)),none,0⟩,
 ⟨some 6,.load1 (.tmp 5),none,0⟩,
 ⟨some 7,.move (.tmp 0),none,0⟩,
 ⟨some 8,.iaddr 1 (.tmp 6) (.tmp 7),none,0⟩,
 ⟨some 9,.load1 (.tmp 8),none,0⟩,
 ⟨some 10,.move (.tmp 9),none,0⟩,
 ⟨some 11,.load1 (.tmp 1),some (10,true),0⟩,
 ⟨some 12,.iaddr 1 (.tmp 11) (.const (.int .i64 1)),some (10,true),0⟩,
 ⟨some 13,.load1 (.tmp 12),some (10,true),0⟩,
 ⟨some 14,.move (.tmp 0),some (10,true),0⟩,
 ⟨some 15,.iaddr 1 (.tmp 13) (.tmp 14),some (10,true),0⟩,
 ⟨some 16,.load1 (.tmp 15),some (10,true),0⟩,
 ⟨some 17,.pick (.tmp 10) (.tmp 16) (.const (.bool false)),none,0⟩,
 ⟨some 3,.move (.tmp 17),none,0⟩] false) (.ret))
set_option maxRecDepth 100000 in
theorem c124_ok : FunOK Try.prog 124 18 [.tmp 3] c124 := ⟨⟨Try.f124, Try.func124, rfl, by kernel_rfl, rfl, by kernel_rfl⟩⟩
theorem lr_and (W : WorldD) (t : Tree) (h2 : t.width = 2) (i : Nat) (hi : i < W.next.length) : PCall Try.prog 124 [.sc (.int .i64 i), .ipt [.lst 1 (kidsB W t t.width)]] (.sc (.bool (andF (labK W t.kids 0) (labK W t.kids 1) i))) := by
  refine pcall_intro c124_ok (by simp) (by simp [PureL, Pure, pure_kidsB]) ?_ (by simp [Pure])
  have e : andF (labK W t.kids 0) (labK W t.kids 1) i = (labK W t.kids 0 i && labK W t.kids 1 i) := rfl
  rw [e]
  (apply rd_sound; focus (repeat' constructor))
  ((conv=>whnf);repeat(refine .intro rfl ?_;conv=>whnf))
  refine ⟨by omega, _, kidsB_at (j := 0) (by omega) (by omega), ?_⟩
  ((conv=>whnf);repeat(refine .intro rfl ?_;conv=>whnf))
  refine ⟨by omega, _, rbl_atN i (by omega) hi, ?_⟩
  ((conv=>whnf);repeat(refine .intro rfl ?_;conv=>whnf))
  cases r : labK W t.kids 0 i
  · ((conv=>whnf);repeat(refine .intro rfl ?_;conv=>whnf))
    exact .refl _
  · ((conv=>whnf);repeat(refine .intro rfl ?_;conv=>whnf))
    refine ⟨by omega, _, kidsB_at (j := 1) (by omega) (by omega), ?_⟩
    ((conv=>whnf);repeat(refine .intro rfl ?_;conv=>whnf))
    refine ⟨by omega, _, rbl_atN i (by omega) hi, ?_⟩
    ((conv=>whnf);repeat(refine .intro rfl ?_;conv=>whnf))
    exact .refl _
def c125 : PC := .seq (.ops [⟨some 3,.move (.const (.bool false)),none,0⟩] false) (.seq (.ops [⟨some 4,.load1 (.tmp 1),none,0⟩,
 ⟨some 5,.iaddr 1 (.tmp 4) (.const (.int .i64 0)),none,0⟩,
 ⟨some 6,.load1 (.tmp 5),none,0⟩,
 ⟨some 7,.move (.tmp 0),none,0⟩,
 ⟨some 8,.iaddr 1 (.tmp 6) (.tmp 7),none,0⟩,
 ⟨some 9,.load1 (.tmp 8),none,0⟩,
 ⟨some 10,.move (.tmp 9),none,0⟩,
 ⟨some 11,.load1 (.tmp 1),some (10,false),0⟩,
 ⟨some 12,.iaddr 1 (.tmp 11) (.const (.int .i64 1)),some (10,false),0⟩,
 ⟨some 13,.load1 (.tmp 12),some (10,false),0⟩,
 ⟨some 14,.move (.tmp 0),some (10,false),0⟩,
 ⟨some 15,.iaddr 1 (.tmp 13) (.tmp 14),some (10,false),0⟩,
 ⟨some 16,.load1 (.tmp 15),some (10,false),0⟩,
 ⟨some 17,.pick (.tmp 10) (.const (.bool true)) (.tmp 16),none,0⟩,
 ⟨some 3,.move (.tmp 17),none,0⟩] false) (.ret))
set_option maxRecDepth 100000 in
theorem c125_ok : FunOK Try.prog 125 18 [.tmp 3] c125 := ⟨⟨Try.f125, Try.func125, rfl, by kernel_rfl, rfl, by kernel_rfl⟩⟩
theorem lr_or (W : WorldD) (t : Tree) (h2 : t.width = 2) (i : Nat) (hi : i < W.next.length) : PCall Try.prog 125 [.sc (.int .i64 i), .ipt [.lst 1 (kidsB W t t.width)]] (.sc (.bool (orF (labK W t.kids 0) (labK W t.kids 1) i))) := by
  refine pcall_intro c125_ok (by simp) (by simp [PureL, Pure, pure_kidsB]) ?_ (by simp [Pure])
  have e : orF (labK W t.kids 0) (labK W t.kids 1) i = (labK W t.kids 0 i || labK W t.kids 1 i) := rfl
  rw [e]
  (apply rd_sound; focus (repeat' constructor))
  ((conv=>whnf);repeat(refine .intro rfl ?_;conv=>whnf))
  refine ⟨by omega, _, kidsB_at (j := 0) (by omega) (by omega), ?_⟩
  ((conv=>whnf);repeat(refine .intro rfl ?_;conv=>whnf))
  refine ⟨by omega, _, rbl_atN i (by omega) hi, ?_⟩
  ((conv=>whnf);repeat(refine .intro rfl ?_;conv=>whnf))
  cases r : labK W t.kids 0 i
  · ((conv=>whnf);repeat(refine .intro rfl ?_;conv=>whnf))
    refine ⟨by omega, _, kidsB_at (j := 1) (by omega) (by omega), ?_⟩
    ((conv=>whnf);repeat(refine .intro rfl ?_;conv=>whnf))
    refine ⟨by omega, _, rbl_atN i (by omega) hi, ?_⟩
    ((conv=>whnf);repeat(refine .intro rfl ?_;conv=>whnf))
    exact .refl _
  · ((conv=>whnf);repeat(refine .intro rfl ?_;conv=>whnf))
    exact .refl _
def c126 : PC := .seq (.ops [⟨some 3,.move (.const (.bool false)),none,0⟩] false) (.seq (.ops [⟨some 4,.load1 (.tmp 1),none,0⟩,
 ⟨some 5,.iaddr 1 (.tmp 4) (.const (.int .i64 0)),none,0⟩,
 ⟨some 6,.load1 (.tmp 5),none,0⟩,
 ⟨some 7,.move (.tmp 0),none,0⟩,
 ⟨some 8,.iaddr 1 (.tmp 6) (.tmp 7),none,0⟩,
 ⟨some 9,.load1 (.tmp 8),none,0⟩,
 ⟨some 10,.un .not (.tmp 9),none,0⟩,
 ⟨some 11,.move (.tmp 10),none,0⟩,
 ⟨some 12,.load1 (.tmp 1),some (11,true),0⟩,
 ⟨some 13,.iaddr 1 (.tmp 12) (.const (.int .i64 1)),some (11,true),0⟩,
 ⟨some 14,.load1 (.tmp 13),some (11,true),0⟩,
 ⟨some 15,.move (.tmp 0),some (11,true),0⟩,
 ⟨some 16,.iaddr 1 (.tmp 14) (.tmp 15),some (11,true),0⟩,
 ⟨some 17,.load1 (.tmp 16),some (11,true),0⟩,
 ⟨some 18,.un .not (.tmp 17),some (11,true),0⟩,
 ⟨some 19,.pick (.tmp 11) (.tmp 18) (.const (.bool false)),none,0⟩,
 ⟨some 3,.move (.tmp 19),none,0⟩] false) (.ret))
set_option maxRecDepth 100000 in
theorem c126_ok : FunOK Try.prog 126 20 [.tmp 3] c126 := ⟨⟨Try.f126, Try.func126, rfl, by kernel_rfl, rfl, by kernel_rfl⟩⟩
theorem lr_nor (W : WorldD) (t : Tree) (h2 : t.width = 2) (i : Nat) (hi : i < W.next.length) : PCall Try.prog 126 [.sc (.int .i64 i), .ipt [.lst 1 (kidsB W t t.width)]] (.sc (.bool (andF (notF (labK W t.kids 0)) (notF (labK W t.kids 1)) i))) := by
  refine pcall_intro c126_ok (by simp) (by simp [PureL, Pure, pure_kidsB]) ?_ (by simp [Pure])
  have e : andF (notF (labK W t.kids 0)) (notF (labK W t.kids 1)) i = (!labK W t.kids 0 i && !labK W t.kids 1 i) := rfl
  rw [e]
  (apply rd_sound; focus (repeat' constructor))
  ((conv=>whnf);repeat(refine .intro rfl ?_;conv=>whnf))
  refine ⟨by omega, _, kidsB_at (j := 0) (by omega) (by omega), ?_⟩
  ((conv=>whnf);repeat(refine .intro rfl ?_;conv=>whnf))
  refine ⟨by omega, _, rbl_atN i (by omega) hi, ?_⟩
  ((conv=>whnf);repeat(refine .intro rfl ?_;conv=>whnf))
  cases r : labK W t.kids 0 i
  · ((conv=>whnf);repeat(refine .intro rfl ?_;conv=>whnf))
    refine ⟨by omega, _, kidsB_at (j := 1) (by omega) (by omega), ?_⟩
    ((conv=>whnf);repeat(refine .intro rfl ?_;conv=>whnf))
    refine ⟨by omega, _, rbl_atN i (by omega) hi, ?_⟩
    ((conv=>whnf);repeat(refine .intro rfl ?_;conv=>whnf))
    exact .refl _
  · ((conv=>whnf);repeat(refine .intro rfl ?_;conv=>whnf))
    exact .refl _
def c127 : PC := .seq (.ops [⟨some 4,.move (.const (.bool false)),none,0⟩] false) (.seq (.ops [⟨some 5,.load1 (.tmp 1),none,0⟩,
 ⟨some 6,.move (.tmp 0),none,0⟩,
 ⟨some 7,.iaddr 1 (.tmp 5) (.tmp 6),none,0⟩,
 ⟨some 8,.load1 (.tmp 7),none,0⟩,
 ⟨some 9,.un .not (.tmp 8),none,0⟩,
 ⟨some 10,.move (.tmp 9),none,0⟩,
 ⟨some 11,.load1 (.tmp 2),some (10,true),0⟩,
 ⟨some 12,.move (.tmp 0),some (10,true),0⟩,
 ⟨some 13,.iaddr 1 (.tmp 11) (.tmp 12),some (10,true),0⟩,
 ⟨some 14,.load1 (.tmp 13),some (10,true),0⟩,
 ⟨some 15,.un .not (.tmp 14),some (10,true),0⟩,
 ⟨some 16,.pick (.tmp 10) (.tmp 15) (.const (.bool false)),none,0⟩,
 ⟨some 4,.move (.tmp 16),none,0⟩] false) (.ret))
set_option maxRecDepth 100000 in
theorem c127_ok : FunOK Try.prog 127 17 [.tmp 4] c127 := ⟨⟨Try.f127, Try.func127, rfl, by kernel_rfl, rfl, by kernel_rfl⟩⟩
theorem lr_nor2 (n : Nat) (a b : Nat → Bool) (i : Nat) (hi : i < n) : PCall Try.prog 127 [.sc (.int .i64 i), .ipt [dbl n a], .ipt [dbl n b]] (.sc (.bool (notF (orF b a) i))) := by
  refine pcall_intro c127_ok (by simp) (by simp [PureL, Pure, pure_dbl]) ?_ (by simp [Pure])
  have e : notF (orF b a) i = (!a i && !b i) := by unfold notF orF; rw [Bool.not_or, Bool.and_comm]
  rw [e]
  (apply rd_sound; focus (repeat' constructor))
  ((conv=>whnf);repeat(refine .intro rfl ?_;conv=>whnf))
  refine ⟨by omega, _, rbl_atN i (by omega) hi, ?_⟩
  ((conv=>whnf);repeat(refine .intro rfl ?_;conv=>whnf))
  cases r : a i
  · ((conv=>whnf);repeat(refine .intro rfl ?_;conv=>whnf))
    refine ⟨by omega, _, rbl_atN i (by omega) hi, ?_⟩
    ((conv=>whnf);repeat(refine .intro rfl ?_;conv=>whnf))
    exact .refl _
  · ((conv=>whnf);repeat(refine .intro rfl ?_;conv=>whnf))
    exact .refl _
def c43_1 : PC := .seq (.seq (.ops [⟨some 19,.move (.tmp 7),none,0⟩,
 ⟨some 20,.faddr 2 (.tmp 3),none,0⟩,
 ⟨some 21,.load1 (.tmp 20),none,0⟩,
 ⟨some 22,.len (.tmp 21),none,0⟩,
 ⟨some 23,.bin .lss (.tmp 19) (.tmp 22),none,0⟩] false) (.cond (.tmp 23) (.skip) (.exit 0))) (.seq (.block 1 (.ops [⟨some 26,.load1 (.tmp 6),none,0⟩,
 ⟨some 27,.loadA 4 (.tmp 2),none,0⟩,
 ⟨some 28,.faddr 2 (.tmp 3),none,0⟩,
 ⟨some 29,.load1 (.tmp 28),none,4⟩,
 ⟨some 30,.move (.tmp 7),none,0⟩,
 ⟨some 31,.iaddr 3 (.tmp 29) (.tmp 30),none,28⟩,
 ⟨some 32,.loadA 3 (.tmp 31),none,60⟩,
 ⟨some 33,.call 43 [(.tmp 27), (.tmp 32)],none,126⟩,
 ⟨some 34,.bslice 1 1 [(.tmp 33)],none,254⟩,
 ⟨some 35,.append 1 24 (.tmp 26) (.tmp 34),none,511⟩,
 ⟨none,.store 1 (.tmp 6) (.tmp 35),none,1023⟩] true)) (.ops [⟨some 24,.move (.tmp 7),none,0⟩,
 ⟨some 25,.bin .add (.tmp 24) (.const (.int .i64 1)),none,0⟩,
 ⟨some 7,.move (.tmp 25),none,0⟩] false))
def c43 : PC := .seq (.ops [⟨some 2,.box (.tmp 0),none,0⟩,
 ⟨some 3,.box (.tmp 1),none,0⟩,
 ⟨some 4,.move (.const (.slice none 0 0)),none,0⟩] false) (.seq (.ops [⟨some 16,.faddr 1 (.tmp 2),none,0⟩,
 ⟨some 17,.load1 (.tmp 16),none,0⟩,
 ⟨some 18,.len (.tmp 17),none,0⟩,
 ⟨some 5,.alloc [(.int .i64 0)],none,0⟩,
 ⟨none,.store 1 (.tmp 5) (.tmp 18),none,0⟩] false) (.seq (.ops [⟨some 6,.alloc [(.slice none 0 0)],none,0⟩] false) (.seq (.seq (.ops [⟨some 7,.move (.const (.int .i64 0)),none,0⟩] false) (.block 0 (.loop c43_1))) (.seq (.stop (.ops [⟨some 36,.mkfn (.func 114) [] [(.tmp 5)],none,0⟩,
 ⟨some 8,.alloc [(.nilFunc)],none,0⟩,
 ⟨none,.store 1 (.tmp 8) (.tmp 36),none,0⟩] false)) (.seq (.ops [⟨some 37,.mkfn (.func 115) [] [(.tmp 8)],none,0⟩,
 ⟨some 9,.move (.tmp 37),none,0⟩] false) (.seq (.ops [⟨some 10,.alloc [(.slice none 0 0)],none,0⟩] false) (.seq (.seq (.ops [⟨some 38,.faddr 0 (.tmp 3),none,0⟩,
 ⟨some 39,.load1 (.tmp 38),none,0⟩,
 ⟨some 40,.bin .geq (.tmp 39) (.const (.int .i64 7)),none,0⟩] false) (.cond (.tmp 40) (.ops [⟨some 41,.loadA 4 (.tmp 2),none,0⟩,
 ⟨some 42,.load1 (.tmp 5),none,0⟩,
 ⟨some 43,.call 35 [(.tmp 42)],none,2⟩,
 ⟨some 44,.call 34 [(.tmp 41), (.tmp 43)],none,7⟩,
 ⟨none,.store 1 (.tmp 10) (.tmp 44),none,15⟩] true) (.skip))) (.seq (.ops [⟨some 45,.mkfn (.func 117) [] [(.tmp 8), (.tmp 10), (.tmp 5), (.tmp 2)],none,0⟩,
 ⟨some 11,.move (.tmp 45),none,0⟩] false) (.seq (.ops [⟨some 46,.mkfn (.func 119) [] [(.tmp 8), (.tmp 2), (.tmp 10)],none,0⟩,
 ⟨some 12,.move (.tmp 46),none,0⟩] false) (.seq (.stop (.ops [⟨some 47,.load1 (.tmp 5),none,0⟩,
 ⟨some 48,.call 35 [(.tmp 47)],none,0⟩,
 ⟨some 13,.move (.tmp 48),none,0⟩] false)) (.seq (.seq (.ops [⟨some 49,.faddr 0 (.tmp 3),none,0⟩,
 ⟨some 50,.load1 (.tmp 49),none,0⟩] false) (.block 2 (.seq (.ops [⟨some 52,.bin .eql (.tmp 50) (.const (.int .i64 1)),none,0⟩,
 ⟨some 51,.move (.tmp 52),none,0⟩] false) (.cond (.tmp 51) (.seq (.ops [⟨some 53,.move (.tmp 13),none,0⟩,
 ⟨some 4,.move (.tmp 53),none,0⟩] false) (.ret)) (.seq (.ops [⟨some 55,.bin .eql (.tmp 50) (.const (.int .i64 2)),none,0⟩,
 ⟨some 54,.move (.tmp 55),none,0⟩] false) (.cond (.tmp 54) (.seq (.ops [⟨some 56,.move (.tmp 9),none,0⟩,
 ⟨some 57,.move (.tmp 13),none,0⟩,
 ⟨some 58,.callv (.tmp 56) [(.tmp 57)],none,0⟩,
 ⟨some 4,.move (.tmp 58),none,0⟩] false) (.ret)) (.seq (.ops [⟨some 60,.bin .eql (.tmp 50) (.const (.int .i64 3)),none,0⟩,
 ⟨some 59,.move (.tmp 60),none,0⟩] false) (.cond (.tmp 59) (.seq (.ops [⟨some 61,.load1 (.tmp 8),none,0⟩,
 ⟨some 62,.mkfn (.func 123) [] [(.tmp 2), (.tmp 3)],none,0⟩,
 ⟨some 63,.callv (.tmp 61) [(.tmp 62)],none,0⟩,
 ⟨some 4,.move (.tmp 63),none,0⟩] false) (.ret)) (.seq (.ops [⟨some 65,.bin .eql (.tmp 50) (.const (.int .i64 4)),none,0⟩,
 ⟨some 64,.move (.tmp 65),none,0⟩] false) (.cond (.tmp 64) (.seq (.ops [⟨some 66,.move (.tmp 9),none,0⟩,
 ⟨some 67,.load1 (.tmp 6),none,0⟩,
 ⟨some 68,.iaddr 1 (.tmp 67) (.const (.int .i64 0)),none,0⟩,
 ⟨some 69,.load1 (.tmp 68),none,0⟩,
 ⟨some 70,.callv (.tmp 66) [(.tmp 69)],none,0⟩,
 ⟨some 4,.move (.tmp 70),none,0⟩] false) (.ret)) (.seq (.ops [⟨some 72,.bin .eql (.tmp 50) (.const (.int .i64 5)),none,0⟩,
 ⟨some 71,.move (.tmp 72),none,0⟩] false) (.cond (.tmp 71) (.seq (.ops [⟨some 73,.load1 (.tmp 8),none,0⟩,
 ⟨some 74,.mkfn (.func 124) [] [(.tmp 6)],none,0⟩,
 ⟨some 75,.callv (.tmp 73) [(.tmp 74)],none,0⟩,
 ⟨some 4,.move (.tmp 75),none,0⟩] false) (.ret)) (.seq (.ops [⟨some 77,.bin .eql (.tmp 50) (.const (.int .i64 6)),none,0⟩,
 ⟨some 76,.move (.tmp 77),none,0⟩] false) (.cond (.tmp 76) (.seq (.ops [⟨some 78,.load1 (.tmp 8),none,0⟩,
 ⟨some 79,.mkfn (.func 125) [] [(.tmp 6)],none,0⟩,
 ⟨some 80,.callv (.tmp 78) [(.tmp 79)],none,0⟩,
 ⟨some 4,.move (.tmp 80),none,0⟩] false) (.ret)) (.seq (.ops [⟨some 82,.bin .eql (.tmp 50) (.const (.int .i64 7)),none,0⟩,
 ⟨some 81,.move (.tmp 82),none,0⟩] false) (.cond (.tmp 81) (.seq (.ops [⟨some 83,.move (.tmp 12),none,0⟩,
 ⟨some 84,.load1 (.tmp 6),none,0⟩,
 ⟨some 85,.iaddr 1 (.tmp 84) (.const (.int .i64 0)),none,0⟩,
 ⟨some 86,.load1 (.tmp 85),none,0⟩,
 ⟨some 87,.callv (.tmp 83) [(.tmp 86)],none,0⟩,
 ⟨some 4,.move (.tmp 87),none,0⟩] false) (.ret)) (.seq (.ops [⟨some 89,.bin .eql (.tmp 50) (.const (.int .i64 8)),none,0⟩,
 ⟨some 88,.move (.tmp 89),none,0⟩] false) (.cond (.tmp 88) (.seq (.ops [⟨some 90,.move (.tmp 11),none,0⟩,
 ⟨some 91,.move (.tmp 13),none,0⟩,
 ⟨some 92,.load1 (.tmp 6),none,0⟩,
 ⟨some 93,.iaddr 1 (.tmp 92) (.const (.int .i64 0)),none,0⟩,
 ⟨some 94,.load1 (.tmp 93),none,0⟩,
 ⟨some 95,.callv (.tmp 90) [(.tmp 91), (.tmp 94)],none,0⟩,
 ⟨some 4,.move (.tmp 95),none,0⟩] false) (.ret)) (.seq (.ops [⟨some 97,.bin .eql (.tmp 50) (.const (.int .i64 9)),none,0⟩,
 ⟨some 96,.move (.tmp 97),none,0⟩] false) (.cond (.tmp 96) (.seq (.ops [⟨some 98,.loadA 4 (.tmp 2),none,0⟩,
 ⟨some 99,.load1 (.tmp 6),none,0⟩,
 ⟨some 100,.iaddr 1 (.tmp 99) (.const (.int .i64 0)),none,2⟩,
 ⟨some 101,.load1 (.tmp 100),none,6⟩,
 ⟨some 102,.call 34 [(.tmp 98), (.tmp 101)],none,15⟩,
 ⟨some 4,.move (.tmp 102),none,31⟩] true) (.ret)) (.seq (.ops [⟨some 104,.bin .eql (.tmp 50) (.const (.int .i64 10)),none,0⟩,
 ⟨some 103,.move (.tmp 104),none,0⟩] false) (.cond (.tmp 103) (.seq (.ops [⟨some 105,.move (.tmp 11),none,0⟩,
 ⟨some 106,.load1 (.tmp 6),none,0⟩,
 ⟨some 107,.iaddr 1 (.tmp 106) (.const (.int .i64 0)),none,2⟩,
 ⟨some 108,.load1 (.tmp 107),none,6⟩,
 ⟨some 109,.load1 (.tmp 6),none,0⟩,
 ⟨some 110,.iaddr 1 (.tmp 109) (.const (.int .i64 1)),none,16⟩,
 ⟨some 111,.load1 (.tmp 110),none,48⟩,
 ⟨some 112,.callv (.tmp 105) [(.tmp 108), (.tmp 111)],none,127⟩,
 ⟨some 4,.move (.tmp 112),none,255⟩] true) (.ret)) (.seq (.ops [⟨some 114,.bin .eql (.tmp 50) (.const (.int .i64 11)),none,0⟩,
 ⟨some 113,.move (.tmp 114),none,0⟩] false) (.cond (.tmp 113) (.seq (.ops [⟨some 115,.move (.tmp 9),none,0⟩,
 ⟨some 116,.move (.tmp 12),none,0⟩,
 ⟨some 117,.move (.tmp 9),none,0⟩,
 ⟨some 118,.load1 (.tmp 6),none,0⟩,
 ⟨some 119,.iaddr 1 (.tmp 118) (.const (.int .i64 0)),none,0⟩,
 ⟨some 120,.load1 (.tmp 119),none,0⟩,
 ⟨some 121,.callv (.tmp 117) [(.tmp 120)],none,0⟩,
 ⟨some 122,.callv (.tmp 116) [(.tmp 121)],none,0⟩,
 ⟨some 123,.callv (.tmp 115) [(.tmp 122)],none,0⟩,
 ⟨some 4,.move (.tmp 123),none,0⟩] false) (.ret)) (.seq (.ops [⟨some 125,.bin .eql (.tmp 50) (.const (.int .i64 12)),none,0⟩,
 ⟨some 124,.move (.tmp 125),none,0⟩] false) (.cond (.tmp 124) (.seq (.ops [⟨some 126,.move (.tmp 9),none,0⟩,
 ⟨some 127,.loadA 4 (.tmp 2),none,0⟩,
 ⟨some 128,.move (.tmp 9),none,0⟩,
 ⟨some 129,.load1 (.tmp 6),none,0⟩,
 ⟨some 130,.iaddr 1 (.tmp 129) (.const (.int .i64 0)),none,8⟩,
 ⟨some 131,.load1 (.tmp 130),none,24⟩,
 ⟨some 132,.callv (.tmp 128) [(.tmp 131)],none,60⟩,
 ⟨some 133,.call 34 [(.tmp 127), (.tmp 132)],none,126⟩,
 ⟨some 134,.callv (.tmp 126) [(.tmp 133)],none,255⟩,
 ⟨some 4,.move (.tmp 134),none,511⟩] true) (.ret)) (.seq (.ops [⟨some 136,.bin .eql (.tmp 50) (.const (.int .i64 13)),none,0⟩,
 ⟨some 135,.move (.tmp 136),none,0⟩] false) (.cond (.tmp 135) (.seq (.ops [⟨some 137,.move (.tmp 9),none,0⟩,
 ⟨some 138,.move (.tmp 11),none,0⟩,
 ⟨some 139,.move (.tmp 13),none,0⟩,
 ⟨some 140,.move (.tmp 9),none,0⟩,
 ⟨some 141,.load1 (.tmp 6),none,0⟩,
 ⟨some 142,.iaddr 1 (.tmp 141) (.const (.int .i64 0)),none,0⟩,
 ⟨some 143,.load1 (.tmp 142),none,0⟩,
 ⟨some 144,.callv (.tmp 140) [(.tmp 143)],none,0⟩,
 ⟨some 145,.callv (.tmp 138) [(.tmp 139), (.tmp 144)],none,0⟩,
 ⟨some 146,.callv (.tmp 137) [(.tmp 145)],none,0⟩,
 ⟨some 4,.move (.tmp 146),none,0⟩] false) (.ret)) (.skip))))))))))))))))))))))))))))) (.seq (.ops [⟨some 147,.loadA 4 (.tmp 2),none,0⟩,
 ⟨some 148,.move (.tmp 9),none,0⟩,
 ⟨some 149,.load1 (.tmp 6),none,0⟩,
 ⟨some 150,.iaddr 1 (.tmp 149) (.const (.int .i64 1)),none,4⟩,
 ⟨some 151,.load1 (.tmp 150),none,12⟩,
 ⟨some 152,.callv (.tmp 148) [(.tmp 151)],none,30⟩,
 ⟨some 153,.call 34 [(.tmp 147), (.tmp 152)],none,63⟩,
 ⟨some 14,.alloc [(.slice none 0 0)],none,0⟩,
 ⟨none,.store 1 (.tmp 14) (.tmp 153),none,255⟩] true) (.seq (.ops [⟨some 154,.move (.tmp 11),none,0⟩,
 ⟨some 155,.move (.tmp 9),none,0⟩,
 ⟨some 156,.load1 (.tmp 6),none,0⟩,
 ⟨some 157,.iaddr 1 (.tmp 156) (.const (.int .i64 1)),none,4⟩,
 ⟨some 158,.load1 (.tmp 157),none,12⟩,
 ⟨some 159,.callv (.tmp 155) [(.tmp 158)],none,30⟩,
 ⟨some 160,.load1 (.tmp 8),none,0⟩,
 ⟨some 161,.mkfn (.func 126) [] [(.tmp 6)],none,0⟩,
 ⟨some 162,.callv (.tmp 160) [(.tmp 161)],none,254⟩,
 ⟨some 163,.callv (.tmp 154) [(.tmp 159), (.tmp 162)],none,511⟩,
 ⟨some 15,.alloc [(.slice none 0 0)],none,0⟩,
 ⟨none,.store 1 (.tmp 15) (.tmp 163),none,2047⟩] true) (.seq (.ops [⟨some 164,.load1 (.tmp 8),none,0⟩,
 ⟨some 165,.mkfn (.func 127) [] [(.tmp 14), (.tmp 15)],none,0⟩,
 ⟨some 166,.callv (.tmp 164) [(.tmp 165)],none,0⟩,
 ⟨some 4,.move (.tmp 166),none,0⟩] false) (.ret)))))))))))))))
set_option maxRecDepth 100000 in
theorem c43_ok : FunOK Try.prog 43 167 [.tmp 4] c43 := ⟨⟨Try.f43, Try.func43, rfl, by kernel_rfl, rfl, by kernel_rfl⟩⟩
set_option maxRecDepth 100000 in
theorem ref_Label (W : WorldD) (hW : W.Fits) (hc : W.chk = 0) (hL : Lett W.label) : ∀ t : Tree, t.wf cKids → PCall Try.prog 43 [dworld W, dtree t] (dbl W.next.length (labT W t)) := by
  obtain ⟨hl, h600, _⟩ := chk_label W hc
  have h6 : W.next.length ≤ 1000000 := by omega
  have hEv := ref_Every W.next.length h6
  intro t
  induction t using Tree.ind with
  | h t ih =>
    intro hwf
    obtain ⟨har, hnum⟩ := node_arityC ((wf_iff _ _).1 hwf).1
    have hwd : t.width ≤ 2 := by omega
    have hNo := fun a => lr_no W.next.length h6 a
    have hNx := fun a => lr_next W hW hc a
    have hUn := fun a b => lr_until W hW hc a b
    have hFa := fun z => ref_Fair W hW hc z
    have hA := lr_map W.next.length h6 (atomF W t.num) 123 [.ipt W.cells, .ipt (drow t)] (by simp [PureL, Pure, pure_wdc, pure_drow]) (fun i hi => lr_atom W hl hL t hnum i hi)
    have hAn := fun (h : t.width = 2) => lr_map W.next.length h6 (andF (labK W t.kids 0) (labK W t.kids 1)) 124 [.ipt [.lst 1 (kidsB W t t.width)]] (by simp [PureL, Pure, pure_kidsB]) (fun i hi => lr_and W t h i hi)
    have hOr := fun (h : t.width = 2) => lr_map W.next.length h6 (orF (labK W t.kids 0) (labK W t.kids 1)) 125 [.ipt [.lst 1 (kidsB W t t.width)]] (by simp [PureL, Pure, pure_kidsB]) (fun i hi => lr_or W t h i hi)
    have hNr := fun (h : t.width = 2) => lr_map W.next.length h6 (andF (notF (labK W t.kids 0)) (notF (labK W t.kids 1))) 126 [.ipt [.lst 1 (kidsB W t t.width)]] (by simp [PureL, Pure, pure_kidsB]) (fun i hi => lr_nor W t h i hi)
    have hN2 := fun a b => lr_map W.next.length h6 (notF (orF b a)) 127 [.ipt [dbl W.next.length a], .ipt [dbl W.next.length b]] (by simp [PureL, Pure, pure_dbl]) (fun i hi => lr_nor2 W.next.length a b i hi)
    refine pcall_intro c43_ok (by simp) (by simp [PureL, pure_dworld, pure_dtree]) ?_ (pure_dbl _ _)
    rw [labT_eq]
    unfold dworld at *
    have hcell : W.cells = W.cells := rfl
    (apply rd_sound; focus (repeat' constructor))
    ((conv=>whnf);repeat(refine .intro rfl ?_;conv=>whnf))
    rw [List.length_map]
    refine pwp_ghostB (leB_nilc 3 0 1 (by simp) rfl rfl) ?_
    refine pwp_forH [2, 3, 5, 6] (fun k : Nat => [(7, .sc (.int .i64 k))]) (fun k => [.row true W.cells, .row true (drow t), .row true [.sc (.int .i64 W.next.length)], .row true [.own 4 k 0 k], .vec true k 1 (kidsB W t k)]) (fun k => k ≤ t.width) (fun k => t.width - k) 0 ?_
    ((conv=>whnf);repeat(refine .intro rfl ?_;conv=>whnf))
    refine ⟨by omega, by (repeat' (first | exact trivial | refine And.intro rfl ?_)), rfl, ?_⟩
    rintro k hk
    ((conv=>whnf);repeat(refine .intro rfl ?_;conv=>whnf))
    (apply rd_sound; focus (repeat' constructor))
    ((conv=>whnf);repeat(refine .intro rfl ?_;conv=>whnf))
    (refine ifK_split (fun h1 => ?_) (fun h1 => ?_) <;> (rw [h1]; ((conv=>whnf);repeat(refine .intro rfl ?_;conv=>whnf))))
    · have hk' : k < t.width := by simpa [Tree.width] using h1
      refine ⟨by omega, _, by rw [Int.toNat_natCast]; exact kid_at hk', ?_⟩
      ((conv=>whnf);repeat(refine .intro rfl ?_;conv=>whnf))
      have hih := ih k hk' (wf_kid hwf hk')
      rw [← labK_eq W hk'] at hih
      (refine .inl ⟨_, hih, ?_⟩; ((conv=>whnf);repeat(refine .intro rfl ?_;conv=>whnf)))
      refine ⟨by unfold sliceAppend; simp; omega, ?_⟩
      ((conv=>whnf);repeat(refine .intro rfl ?_;conv=>whnf))
      (refine .inl ⟨by (unfold InR; rw [IntKind.wrap_i64]; omega), ?_⟩; ((conv=>whnf);repeat(refine .intro rfl ?_;conv=>whnf)))
      refine ⟨k + 1, by omega, by dsimp only; omega, ?_⟩
      dsimp only
      (refine leB_close 5 (by simp) rfl ?_ ?_ <;> (repeat' (first | exact trivial | exact rfl | exact DeepM.refl _ | exact DeepML.refl _ | exact DeepMLL.refl _ | refine And.intro ?_ ?_ | (simp [Under, UnderL, UnderLL, -List.map_take, -List.map_drop]; done))))
      exact deepMLL_eq (kidsB_snoc W t k)
    have hkw : k = t.width := by have : ¬ k < t.width := by simpa [Tree.width] using h1
                                 omega
    subst hkw
    clear ih h1 hk
    have hdep : ∀ {H : List AObj}, H[4]? = some (.vec true t.width 1 (kidsB W t t.width)) → DeepM (fun _ => true) H (.own 4 t.width 0 t.width) (.lst 1 (kidsB W t t.width)) := fun h => .own _ _ _ _ _ _ _ _ rfl h (deepMLL_eq (by rw [List.drop_zero, List.take_of_length_le (by simp)]))
    refine pwp_ghostB (leB_freeze (fun _ => true) (env' := [(2, .ipt W.cells), (3, .ipt (drow t)), (5, .ipt [.sc (.int .i64 W.next.length)]), (6, .ipt [.lst 1 (kidsB W t t.width)])])
      (H' := [.row false W.cells, .row false (drow t), .row false [.sc (.int .i64 W.next.length)], .row false [.lst 1 (kidsB W t t.width)], .vec false t.width 1 (kidsB W t t.width)]) ?_ ?_) ?_
    · refine ⟨.loc _ _ _ _ _ rfl rfl (.refl _), .loc _ _ _ _ _ rfl rfl (.refl _), .loc _ _ _ _ _ rfl rfl (.refl _), .loc _ _ _ _ _ rfl rfl (.cons _ _ _ _ (hdep rfl) (.refl _)), trivial⟩
    · exact ⟨⟨.inr ⟨rfl, rfl⟩, fun _ => rfl, .refl _⟩, ⟨.inr ⟨rfl, rfl⟩, fun _ => rfl, .refl _⟩, ⟨.inr ⟨rfl, rfl⟩, fun _ => rfl, .refl _⟩, ⟨.inr ⟨rfl, rfl⟩, fun _ => rfl, .cons _ _ _ _ (hdep rfl) (.refl _)⟩, ⟨.inr ⟨rfl, rfl⟩, fun _ => rfl, rfl, rfl, .refl _⟩, trivial⟩
    (apply rd_sound; focus (repeat' constructor))
    ((conv=>whnf);repeat(refine .intro rfl ?_;conv=>whnf))
    (refine ifK_split (fun g7 => ?_) (fun g7 => ?_) <;> (rw [g7]; ((conv=>whnf);repeat(refine .intro rfl ?_;conv=>whnf))))
    · have g7 : 7 ≤ t.kind := by ((try simp only[oo,reduceCtorEq]at*)<;>omega)
      (refine .inl ⟨_, hEv, ?_⟩; ((conv=>whnf);repeat(refine .intro rfl ?_;conv=>whnf)))
      (refine .inl ⟨_, (hFa allT), ?_⟩; ((conv=>whnf);repeat(refine .intro rfl ?_;conv=>whnf)))
      have ct : ∀ {H : List AObj}, H[4]? = some (.vec false t.width 1 (kidsB W t t.width)) → True := fun _ => trivial
      refine pwp_ghostB (leB_freeze (fun _ => true) (env' := [(2, .ipt W.cells), (3, .ipt (drow t)), (5, .ipt [.sc (.int .i64 W.next.length)]), (6, .ipt [.lst 1 (kidsB W t t.width)]), (8, .ipt [mapF W.next.length]), (9, .fn (.func 115) [] [.ipt [mapF W.next.length]]), (11, .fn (.func 117) [] [.ipt [mapF W.next.length], .ipt [dbl W.next.length (fairF W)], .ipt [.sc (.int .i64 W.next.length)], .ipt W.cells]), (12, .fn (.func 119) [] [.ipt [mapF W.next.length], .ipt W.cells, .ipt [dbl W.next.length (fairF W)]])])
        (H' := [.row false W.cells, .row false (drow t), .row false [.sc (.int .i64 W.next.length)], .row false [.lst 1 (kidsB W t t.width)], .vec false t.width 1 (kidsB W t t.width), .row false [mapF W.next.length], .row false [dbl W.next.length (fairF W)]]) ?_ ?_) ?_
      · (repeat' (first | exact trivial | refine And.intro ?_ ?_ | exact Or.inl rfl | exact Or.inr ⟨rfl, rfl⟩ | exact fun _ => rfl | exact (fun h => by cases h) | refine DeepM.loc _ _ _ _ _ rfl rfl ?_ | refine DeepM.own _ _ _ _ _ _ _ _ rfl rfl ?_ | refine DeepM.fn _ _ _ _ _ ?_ ?_ | refine DeepM.agg _ _ ?_ | refine DeepM.tup _ _ ?_ | refine DeepM.ifc _ _ _ ?_ | exact DeepM.refl _ | refine DeepML.cons _ _ _ _ ?_ ?_ | exact DeepML.refl _ | refine DeepMLL.cons _ _ _ _ ?_ ?_ | exact DeepMLL.refl _ | exact rfl))
      · (repeat' (first | exact trivial | refine And.intro ?_ ?_ | exact Or.inl rfl | exact Or.inr ⟨rfl, rfl⟩ | exact fun _ => rfl | exact (fun h => by cases h) | refine DeepM.loc _ _ _ _ _ rfl rfl ?_ | refine DeepM.own _ _ _ _ _ _ _ _ rfl rfl ?_ | refine DeepM.fn _ _ _ _ _ ?_ ?_ | refine DeepM.agg _ _ ?_ | refine DeepM.tup _ _ ?_ | refine DeepM.ifc _ _ _ ?_ | exact DeepM.refl _ | refine DeepML.cons _ _ _ _ ?_ ?_ | exact DeepML.refl _ | refine DeepMLL.cons _ _ _ _ ?_ ?_ | exact DeepMLL.refl _ | exact rfl))
      (apply rd_sound; focus (repeat' constructor))
      ((conv=>whnf);repeat(refine .intro rfl ?_;conv=>whnf))
      (refine .inl ⟨_, hEv, ?_⟩; ((conv=>whnf);repeat(refine .intro rfl ?_;conv=>whnf)))
      (refine ifK_split (fun g => ?_) (fun g => ?_) <;> (rw [g]; ((conv=>whnf);repeat(refine .intro rfl ?_;conv=>whnf))))
      · exfalso; ((try simp only[oo,reduceCtorEq]at*)<;>omega)
      have g1 : ¬ t.kind = 1 := by ((try simp only[oo,reduceCtorEq]at*)<;>omega)
      clear g
      (refine ifK_split (fun g => ?_) (fun g => ?_) <;> (rw [g]; ((conv=>whnf);repeat(refine .intro rfl ?_;conv=>whnf))))
      · exfalso; ((try simp only[oo,reduceCtorEq]at*)<;>omega)
      have g2 : ¬ t.kind = 2 := by ((try simp only[oo,reduceCtorEq]at*)<;>omega)
      clear g
      (refine ifK_split (fun g => ?_) (fun g => ?_) <;> (rw [g]; ((conv=>whnf);repeat(refine .intro rfl ?_;conv=>whnf))))
      · exfalso; ((try simp only[oo,reduceCtorEq]at*)<;>omega)
      have g3 : ¬ t.kind = 3 := by ((try simp only[oo,reduceCtorEq]at*)<;>omega)
      clear g
      (refine ifK_split (fun g => ?_) (fun g => ?_) <;> (rw [g]; ((conv=>whnf);repeat(refine .intro rfl ?_;conv=>whnf))))
      · exfalso; ((try simp only[oo,reduceCtorEq]at*)<;>omega)
      have g4 : ¬ t.kind = 4 := by ((try simp only[oo,reduceCtorEq]at*)<;>omega)
      clear g
      (refine ifK_split (fun g => ?_) (fun g => ?_) <;> (rw [g]; ((conv=>whnf);repeat(refine .intro rfl ?_;conv=>whnf))))
      · exfalso; ((try simp only[oo,reduceCtorEq]at*)<;>omega)
      have g5 : ¬ t.kind = 5 := by ((try simp only[oo,reduceCtorEq]at*)<;>omega)
      clear g
      (refine ifK_split (fun g => ?_) (fun g => ?_) <;> (rw [g]; ((conv=>whnf);repeat(refine .intro rfl ?_;conv=>whnf))))
      · exfalso; ((try simp only[oo,reduceCtorEq]at*)<;>omega)
      have g6 : ¬ t.kind = 6 := by ((try simp only[oo,reduceCtorEq]at*)<;>omega)
      clear g
      (refine ifK_split (fun g => ?_) (fun g => ?_) <;> (rw [g]; ((conv=>whnf);repeat(refine .intro rfl ?_;conv=>whnf))))
      · have g : t.kind = 7 := by ((try simp only[oo,reduceCtorEq]at*)<;>omega)
        rw [show labN W t.kind t.num (labK W t.kids) = exF W (labK W t.kids 0) from by unfold labN; simp [g]]
        refine ⟨by omega, _, kidsB_at (j := 0) (by omega) (by omega), ?_⟩
        ((conv=>whnf);repeat(refine .intro rfl ?_;conv=>whnf))
        (refine .inl ⟨_, (hNx (labK W t.kids 0)), ?_⟩; ((conv=>whnf);repeat(refine .intro rfl ?_;conv=>whnf)))
        exact .refl _
      have g7 : ¬ t.kind = 7 := by ((try simp only[oo,reduceCtorEq]at*)<;>omega)
      clear g
      (refine ifK_split (fun g => ?_) (fun g => ?_) <;> (rw [g]; ((conv=>whnf);repeat(refine .intro rfl ?_;conv=>whnf))))
      · have g : t.kind = 8 := by ((try simp only[oo,reduceCtorEq]at*)<;>omega)
        rw [show labN W t.kind t.num (labK W t.kids) = euF W allT (labK W t.kids 0) from by unfold labN; simp [g]]
        refine ⟨by omega, _, kidsB_at (j := 0) (by omega) (by omega), ?_⟩
        ((conv=>whnf);repeat(refine .intro rfl ?_;conv=>whnf))
        (refine .inl ⟨_, (hUn allT (labK W t.kids 0)), ?_⟩; ((conv=>whnf);repeat(refine .intro rfl ?_;conv=>whnf)))
        exact .refl _
      have g8 : ¬ t.kind = 8 := by ((try simp only[oo,reduceCtorEq]at*)<;>omega)
      clear g
      (refine ifK_split (fun g => ?_) (fun g => ?_) <;> (rw [g]; ((conv=>whnf);repeat(refine .intro rfl ?_;conv=>whnf))))
      · have g : t.kind = 9 := by ((try simp only[oo,reduceCtorEq]at*)<;>omega)
        rw [show labN W t.kind t.num (labK W t.kids) = egF W (labK W t.kids 0) from by unfold labN; simp [g]]
        refine ⟨by omega, _, kidsB_at (j := 0) (by omega) (by omega), ?_⟩
        ((conv=>whnf);repeat(refine .intro rfl ?_;conv=>whnf))
        (refine .inl ⟨_, (hFa (labK W t.kids 0)), ?_⟩; ((conv=>whnf);repeat(refine .intro rfl ?_;conv=>whnf)))
        exact .refl _
      have g9 : ¬ t.kind = 9 := by ((try simp only[oo,reduceCtorEq]at*)<;>omega)
      clear g
      (refine ifK_split (fun g => ?_) (fun g => ?_) <;> (rw [g]; ((conv=>whnf);repeat(refine .intro rfl ?_;conv=>whnf))))
      · have g : t.kind = 10 := by ((try simp only[oo,reduceCtorEq]at*)<;>omega)
        rw [show labN W t.kind t.num (labK W t.kids) = euF W (labK W t.kids 0) (labK W t.kids 1) from by unfold labN; simp [g]]
        refine ⟨by omega, _, kidsB_at (j := 0) (by omega) (by omega), ?_⟩
        ((conv=>whnf);repeat(refine .intro rfl ?_;conv=>whnf))
        refine ⟨by omega, _, kidsB_at (j := 1) (by omega) (by omega), ?_⟩
        ((conv=>whnf);repeat(refine .intro rfl ?_;conv=>whnf))
        (refine .inl ⟨_, (hUn (labK W t.kids 0) (labK W t.kids 1)), ?_⟩; ((conv=>whnf);repeat(refine .intro rfl ?_;conv=>whnf)))
        exact .refl _
      have g10 : ¬ t.kind = 10 := by ((try simp only[oo,reduceCtorEq]at*)<;>omega)
      clear g
      (refine ifK_split (fun g => ?_) (fun g => ?_) <;> (rw [g]; ((conv=>whnf);repeat(refine .intro rfl ?_;conv=>whnf))))
      · have g : t.kind = 11 := by ((try simp only[oo,reduceCtorEq]at*)<;>omega)
        rw [show labN W t.kind t.num (labK W t.kids) = notF (exF W (notF (labK W t.kids 0))) from by unfold labN; simp [g]]
        refine ⟨by omega, _, kidsB_at (j := 0) (by omega) (by omega), ?_⟩
        ((conv=>whnf);repeat(refine .intro rfl ?_;conv=>whnf))
        (refine .inl ⟨_, (hNo (labK W t.kids 0)), ?_⟩; ((conv=>whnf);repeat(refine .intro rfl ?_;conv=>whnf)))
        (refine .inl ⟨_, (hNx (notF (labK W t.kids 0))), ?_⟩; ((conv=>whnf);repeat(refine .intro rfl ?_;conv=>whnf)))
        (refine .inl ⟨_, (hNo (exF W (notF (labK W t.kids 0)))), ?_⟩; ((conv=>whnf);repeat(refine .intro rfl ?_;conv=>whnf)))
        exact .refl _
      have g11 : ¬ t.kind = 11 := by ((try simp only[oo,reduceCtorEq]at*)<;>omega)
      clear g
      (refine ifK_split (fun g => ?_) (fun g => ?_) <;> (rw [g]; ((conv=>whnf);repeat(refine .intro rfl ?_;conv=>whnf))))
      · have g : t.kind = 12 := by ((try simp only[oo,reduceCtorEq]at*)<;>omega)
        rw [show labN W t.kind t.num (labK W t.kids) = notF (egF W (notF (labK W t.kids 0))) from by unfold labN; simp [g]]
        refine ⟨by omega, _, kidsB_at (j := 0) (by omega) (by omega), ?_⟩
        ((conv=>whnf);repeat(refine .intro rfl ?_;conv=>whnf))
        (refine .inl ⟨_, (hNo (labK W t.kids 0)), ?_⟩; ((conv=>whnf);repeat(refine .intro rfl ?_;conv=>whnf)))
        (refine .inl ⟨_, (hFa (notF (labK W t.kids 0))), ?_⟩; ((conv=>whnf);repeat(refine .intro rfl ?_;conv=>whnf)))
        (refine .inl ⟨_, (hNo (egF W (notF (labK W t.kids 0)))), ?_⟩; ((conv=>whnf);repeat(refine .intro rfl ?_;conv=>whnf)))
        exact .refl _
      have g12 : ¬ t.kind = 12 := by ((try simp only[oo,reduceCtorEq]at*)<;>omega)
      clear g
      (refine ifK_split (fun g => ?_) (fun g => ?_) <;> (rw [g]; ((conv=>whnf);repeat(refine .intro rfl ?_;conv=>whnf))))
      · have g : t.kind = 13 := by ((try simp only[oo,reduceCtorEq]at*)<;>omega)
        rw [show labN W t.kind t.num (labK W t.kids) = notF (euF W allT (notF (labK W t.kids 0))) from by unfold labN; simp [g]]
        refine ⟨by omega, _, kidsB_at (j := 0) (by omega) (by omega), ?_⟩
        ((conv=>whnf);repeat(refine .intro rfl ?_;conv=>whnf))
        (refine .inl ⟨_, (hNo (labK W t.kids 0)), ?_⟩; ((conv=>whnf);repeat(refine .intro rfl ?_;conv=>whnf)))
        (refine .inl ⟨_, (hUn allT (notF (labK W t.kids 0))), ?_⟩; ((conv=>whnf);repeat(refine .intro rfl ?_;conv=>whnf)))
        (refine .inl ⟨_, (hNo (euF W allT (notF (labK W t.kids 0)))), ?_⟩; ((conv=>whnf);repeat(refine .intro rfl ?_;conv=>whnf)))
        exact .refl _
      have g13 : ¬ t.kind = 13 := by ((try simp only[oo,reduceCtorEq]at*)<;>omega)
      clear g
      have g : t.kind = 14 := by omega
      rw [show labN W t.kind t.num (labK W t.kids) = auF W (labK W t.kids 0) (labK W t.kids 1) from by unfold labN; simp [g]]
      refine ⟨by omega, _, kidsB_at (j := 1) (by omega) (by omega), ?_⟩
      ((conv=>whnf);repeat(refine .intro rfl ?_;conv=>whnf))
      (refine .inl ⟨_, (hNo (labK W t.kids 1)), ?_⟩; ((conv=>whnf);repeat(refine .intro rfl ?_;conv=>whnf)))
      (refine .inl ⟨_, (hFa (notF (labK W t.kids 1))), ?_⟩; ((conv=>whnf);repeat(refine .intro rfl ?_;conv=>whnf)))
      refine ⟨by omega, _, kidsB_at (j := 1) (by omega) (by omega), ?_⟩
      ((conv=>whnf);repeat(refine .intro rfl ?_;conv=>whnf))
      (refine .inl ⟨_, (hNo (labK W t.kids 1)), ?_⟩; ((conv=>whnf);repeat(refine .intro rfl ?_;conv=>whnf)))
      (refine .inl ⟨_, (hNr (by omega)), ?_⟩; ((conv=>whnf);repeat(refine .intro rfl ?_;conv=>whnf)))
      (refine .inl ⟨_, (hUn (notF (labK W t.kids 1)) (andF (notF (labK W t.kids 0)) (notF (labK W t.kids 1)))), ?_⟩; ((conv=>whnf);repeat(refine .intro rfl ?_;conv=>whnf)))
      (refine .inr (.inr (.inr (.inr (.inr (.inl ⟨rfl, _, _, (by (repeat' (first | exact Deep.refl _ | exact Deep.none _ | exact deep_row _ | exact DeepL.nil | exact DeepLL.nil | refine Deep.agg _ _ ?_ | refine Deep.tup _ _ ?_ | refine Deep.own _ _ _ _ _ _ _ _ rfl ?_ | refine Deep.loc _ _ _ _ _ rfl ?_ | refine Deep.ifc _ _ _ ?_ | refine Deep.fn _ _ _ _ _ ?_ ?_ | refine DeepL.cons _ _ _ _ ?_ ?_ | refine DeepLL.cons _ _ _ _ ?_ ?_))), (hN2 (egF W (notF (labK W t.kids 1))) (euF W (notF (labK W t.kids 1)) (andF (notF (labK W t.kids 0)) (notF (labK W t.kids 1))))), ?_⟩))))); ((conv=>whnf);repeat(refine .intro rfl ?_;conv=>whnf)))
      exact .refl _
    · have g7 : ¬ 7 ≤ t.kind := by ((try simp only[oo,reduceCtorEq]at*)<;>omega)
      have ct : ∀ {H : List AObj}, H[4]? = some (.vec false t.width 1 (kidsB W t t.width)) → True := fun _ => trivial
      refine pwp_ghostB (leB_freeze (fun _ => true) (env' := [(2, .ipt W.cells), (3, .ipt (drow t)), (5, .ipt [.sc (.int .i64 W.next.length)]), (6, .ipt [.lst 1 (kidsB W t t.width)]), (8, .ipt [mapF W.next.length]), (9, .fn (.func 115) [] [.ipt [mapF W.next.length]]), (11, .fn (.func 117) [] [.ipt [mapF W.next.length], .ipt [.sc (.slice none 0 0)], .ipt [.sc (.int .i64 W.next.length)], .ipt W.cells]), (12, .fn (.func 119) [] [.ipt [mapF W.next.length], .ipt W.cells, .ipt [.sc (.slice none 0 0)]])])
        (H' := [.row false W.cells, .row false (drow t), .row false [.sc (.int .i64 W.next.length)], .row false [.lst 1 (kidsB W t t.width)], .vec false t.width 1 (kidsB W t t.width), .row false [mapF W.next.length], .row false [.sc (.slice none 0 0)]]) ?_ ?_) ?_
      · (repeat' (first | exact trivial | refine And.intro ?_ ?_ | exact Or.inl rfl | exact Or.inr ⟨rfl, rfl⟩ | exact fun _ => rfl | exact (fun h => by cases h) | refine DeepM.loc _ _ _ _ _ rfl rfl ?_ | refine DeepM.own _ _ _ _ _ _ _ _ rfl rfl ?_ | refine DeepM.fn _ _ _ _ _ ?_ ?_ | refine DeepM.agg _ _ ?_ | refine DeepM.tup _ _ ?_ | refine DeepM.ifc _ _ _ ?_ | exact DeepM.refl _ | refine DeepML.cons _ _ _ _ ?_ ?_ | exact DeepML.refl _ | refine DeepMLL.cons _ _ _ _ ?_ ?_ | exact DeepMLL.refl _ | exact rfl))
      · (repeat' (first | exact trivial | refine And.intro ?_ ?_ | exact Or.inl rfl | exact Or.inr ⟨rfl, rfl⟩ | exact fun _ => rfl | exact (fun h => by cases h) | refine DeepM.loc _ _ _ _ _ rfl rfl ?_ | refine DeepM.own _ _ _ _ _ _ _ _ rfl rfl ?_ | refine DeepM.fn _ _ _ _ _ ?_ ?_ | refine DeepM.agg _ _ ?_ | refine DeepM.tup _ _ ?_ | refine DeepM.ifc _ _ _ ?_ | exact DeepM.refl _ | refine DeepML.cons _ _ _ _ ?_ ?_ | exact DeepML.refl _ | refine DeepMLL.cons _ _ _ _ ?_ ?_ | exact DeepMLL.refl _ | exact rfl))
      (apply rd_sound; focus (repeat' constructor))
      ((conv=>whnf);repeat(refine .intro rfl ?_;conv=>whnf))
      (refine .inl ⟨_, hEv, ?_⟩; ((conv=>whnf);repeat(refine .intro rfl ?_;conv=>whnf)))
      (refine ifK_split (fun g => ?_) (fun g => ?_) <;> (rw [g]; ((conv=>whnf);repeat(refine .intro rfl ?_;conv=>whnf))))
      · have g : t.kind = 1 := by ((try simp only[oo,reduceCtorEq]at*)<;>omega)
        rw [show labN W t.kind t.num (labK W t.kids) = allT from by unfold labN; simp [g]]
        exact .refl _
      have g1 : ¬ t.kind = 1 := by ((try simp only[oo,reduceCtorEq]at*)<;>omega)
      clear g
      (refine ifK_split (fun g => ?_) (fun g => ?_) <;> (rw [g]; ((conv=>whnf);repeat(refine .intro rfl ?_;conv=>whnf))))
      · have g : t.kind = 2 := by ((try simp only[oo,reduceCtorEq]at*)<;>omega)
        rw [show labN W t.kind t.num (labK W t.kids) = notF allT from by unfold labN; simp [g]]
        (refine .inl ⟨_, (hNo allT), ?_⟩; ((conv=>whnf);repeat(refine .intro rfl ?_;conv=>whnf)))
        exact .refl _
      have g2 : ¬ t.kind = 2 := by ((try simp only[oo,reduceCtorEq]at*)<;>omega)
      clear g
      (refine ifK_split (fun g => ?_) (fun g => ?_) <;> (rw [g]; ((conv=>whnf);repeat(refine .intro rfl ?_;conv=>whnf))))
      · have g : t.kind = 3 := by ((try simp only[oo,reduceCtorEq]at*)<;>omega)
        rw [show labN W t.kind t.num (labK W t.kids) = atomF W t.num from by unfold labN; simp [g]]
        (refine .inl ⟨_, hA, ?_⟩; ((conv=>whnf);repeat(refine .intro rfl ?_;conv=>whnf)))
        exact .refl _
      have g3 : ¬ t.kind = 3 := by ((try simp only[oo,reduceCtorEq]at*)<;>omega)
      clear g
      (refine ifK_split (fun g => ?_) (fun g => ?_) <;> (rw [g]; ((conv=>whnf);repeat(refine .intro rfl ?_;conv=>whnf))))
      · have g : t.kind = 4 := by ((try simp only[oo,reduceCtorEq]at*)<;>omega)
        rw [show labN W t.kind t.num (labK W t.kids) = notF (labK W t.kids 0) from by unfold labN; simp [g]]
        refine ⟨by omega, _, kidsB_at (j := 0) (by omega) (by omega), ?_⟩
        ((conv=>whnf);repeat(refine .intro rfl ?_;conv=>whnf))
        (refine .inl ⟨_, (hNo (labK W t.kids 0)), ?_⟩; ((conv=>whnf);repeat(refine .intro rfl ?_;conv=>whnf)))
        exact .refl _
      have g4 : ¬ t.kind = 4 := by ((try simp only[oo,reduceCtorEq]at*)<;>omega)
      clear g
      (refine ifK_split (fun g => ?_) (fun g => ?_) <;> (rw [g]; ((conv=>whnf);repeat(refine .intro rfl ?_;conv=>whnf))))
      · have g : t.kind = 5 := by ((try simp only[oo,reduceCtorEq]at*)<;>omega)
        rw [show labN W t.kind t.num (labK W t.kids) = andF (labK W t.kids 0) (labK W t.kids 1) from by unfold labN; simp [g]]
        (refine .inl ⟨_, (hAn (by omega)), ?_⟩; ((conv=>whnf);repeat(refine .intro rfl ?_;conv=>whnf)))
        exact .refl _
      have g5 : ¬ t.kind = 5 := by ((try simp only[oo,reduceCtorEq]at*)<;>omega)
      clear g
      (refine ifK_split (fun g => ?_) (fun g => ?_) <;> (rw [g]; ((conv=>whnf);repeat(refine .intro rfl ?_;conv=>whnf))))
      · have g : t.kind = 6 := by ((try simp only[oo,reduceCtorEq]at*)<;>omega)
        rw [show labN W t.kind t.num (labK W t.kids) = orF (labK W t.kids 0) (labK W t.kids 1) from by unfold labN; simp [g]]
        (refine .inl ⟨_, (hOr (by omega)), ?_⟩; ((conv=>whnf);repeat(refine .intro rfl ?_;conv=>whnf)))
        exact .refl _
      have g6 : ¬ t.kind = 6 := by ((try simp only[oo,reduceCtorEq]at*)<;>omega)
      clear g
      omega
end

end Go.Proofs.Ytfgklgjbnpjpoaa
