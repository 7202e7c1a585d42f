/-
  Where formulas of all ways hold: the closures of the reference's Label, over deep values. No statement is proved here.
-/
import Derived.Test.YtfgklgjbnpjpoaaQLa3
import Derived.Test.YtfgklgjbnpjpoaaQFn
namespace Go.Proofs.Ytfgklgjbnpjpoaa
open Go.RowKit
set_option linter.unusedSimpArgs false
set_option linter.unusedVariables false
def mapF (n : Nat) : D := .fn (.func 114) [] [.ipt [.sc (.int .i64 n)]]
@[simp] theorem pure_mapF (n : Nat) : Pure (mapF n) := by simp [mapF, Pure, PureL]
theorem pure_wdc (W : WorldD) : PureL W.cells := by have := pure_dworld W; simpa only [dworld, Pure] using this
def c114_1 : PC := .seq (.seq (.ops [⟨(some 8), .move (.tmp 5), none, 0⟩,
    ⟨(some 9), .load1 (.tmp 1), none, 0⟩,
    ⟨(some 10), .bin .lss (.tmp 8) (.tmp 9), none, 0⟩] false) (.cond (.tmp 10) (.skip) (.exit 0))) (.seq (.block 1 (.ops [⟨(some 13), .move (.tmp 4), none, 0⟩,
    ⟨(some 14), .move (.tmp 5), none, 0⟩,
    ⟨(some 15), .move (.tmp 0), none, 0⟩,
    ⟨(some 16), .move (.tmp 5), none, 0⟩,
    ⟨(some 17), .callv (.tmp 15) [(.tmp 16)], none, 0⟩,
    ⟨(some 18), .iaddr 1 (.tmp 13) (.tmp 14), none, 0⟩,
    ⟨none, .store 1 (.tmp 18) (.tmp 17), none, 0⟩] false)) (.ops [⟨(some 11), .move (.tmp 5), none, 0⟩,
    ⟨(some 12), .bin .add (.tmp 11) (.const (.int .i64 1)), none, 0⟩,
    ⟨(some 5), .move (.tmp 12), none, 0⟩] false))
def c114 : PC := .seq (.ops [⟨(some 3), .move (.const (.slice none 0 0)), none, 0⟩] false) (.seq (.ops [⟨(some 6), .load1 (.tmp 1), none, 0⟩,
    ⟨(some 7), .mslice 1 1 [(.bool false)] (.tmp 6) (.tmp 6), none, 0⟩,
    ⟨(some 4), .move (.tmp 7), none, 0⟩] false) (.seq (.seq (.ops [⟨(some 5), .move (.const (.int .i64 0)), none, 0⟩] false) (.block 0 (.loop c114_1))) (.seq (.ops [⟨(some 19), .move (.tmp 4), none, 0⟩,
    ⟨(some 3), .move (.tmp 19), none, 0⟩] false) (.ret))))
set_option maxRecDepth 100000 in
theorem c114_ok : FunOK Try.prog 114 20 [.tmp 3] c114 := ⟨⟨Try.f114, Try.func114, rfl, by kernel_rfl, rfl, by kernel_rfl⟩⟩
theorem lr_map (n : Nat) (hn : n ≤ 1000000) (p : Nat → Bool) (cl : FuncId) (caps : List D) (hcaps : PureL caps) (hc : ∀ i : Nat, i < n → PCall Try.prog cl (.sc (.int .i64 i) :: caps) (.sc (.bool (p i)))) :
    PCall Try.prog 114 [.fn (.func cl) [] caps, .ipt [.sc (.int .i64 n)]] (dbl n p) := by
  refine pcall_intro c114_ok (by simp) (by simp [PureL, Pure, hcaps]) ?_ (pure_dbl _ _)
  (apply rd_sound; focus (repeat' constructor))
  ((conv=>whnf);repeat(refine And.intro rfl ?_;(conv=>whnf)))
  refine ⟨by omega, by omega, by omega, ?_⟩
  rw [Int.toNat_natCast, show List.map D.sc [Value.bool false] = [D.sc (.bool false)] from rfl, rbl_rep]
  ((conv=>whnf);repeat(refine And.intro rfl ?_;(conv=>whnf)))
  refine pwp_for [0, 1, 4] (fun k : Nat => [(5, .sc (.int .i64 k))]) (fun k => [(0, .vec true 0 1 (rbl n fun i => if i < k then p i else false))]) (fun k => k ≤ n) (fun k => n - k) 0 ?_
  ((conv=>whnf);repeat(refine And.intro rfl ?_;(conv=>whnf)))
  refine ⟨by omega, by (repeat' (first | exact trivial | refine And.intro rfl ?_)), by simp; rfl, ?_⟩
  rintro k hk
  ((conv=>whnf);repeat(refine And.intro rfl ?_;(conv=>whnf)))
  (apply rd_sound; focus (repeat' constructor))
  ((conv=>whnf);repeat(refine And.intro rfl ?_;(conv=>whnf)))
  (refine ifK_split (fun q0 => ?_) (fun q0 => ?_) <;> (rw [q0]; ((conv=>whnf);repeat(refine And.intro rfl ?_;(conv=>whnf)))))
  rotate_left
  · have q0 : k = n := by have : ¬ k < n := by ((try simp only [oo, reduceCtorEq] at *) <;> omega)
                          omega
    subst q0
    rw [rbl_congr (g' := p) fun i hi => if_pos hi]
    exact deep_vec rfl
  have q0 : k < n := by ((try simp only [oo, reduceCtorEq] at *) <;> omega)
  (refine .inl ⟨_, (hc k q0), ?_⟩; ((conv=>whnf);repeat(refine And.intro rfl ?_;(conv=>whnf))))
  (refine ⟨by omega, (by first | omega | (simp; done) | (simp; omega) | (simp only [ll]; omega)), ?_⟩; ((conv=>whnf);repeat(refine And.intro rfl ?_;(conv=>whnf))))
  refine ⟨_, rbl_atN k (by omega) q0, ?_⟩
  ((conv=>whnf);repeat(refine And.intro rfl ?_;(conv=>whnf)))
  (refine .inl ⟨by (unfold InR; rw [IntKind.wrap_i64]; omega), ?_⟩; ((conv=>whnf);repeat(refine And.intro rfl ?_;(conv=>whnf))))
  refine ⟨k + 1, by omega, by dsimp only; omega, leB_envH (by (repeat' (first | exact trivial | refine And.intro rfl ?_))) ?_⟩
  rw [rbl_put (i := k) (f' := fun i => if i < k + 1 then p i else false) (by omega) fun v _ => by
    by_cases e : v = k
    · subst e; rw [if_pos (by omega), if_pos rfl]
    · rw [if_neg e]
      by_cases e2 : v < k
      · rw [if_pos e2, if_pos (by omega)]
      · rw [if_neg e2, if_neg (by omega)]]
  rfl
theorem lr_map2 (n : Nat) (hn : n ≤ 1000000) (p : Nat → Bool) (cl : FuncId) (x y : D) (hx : Pure x) (hy : Pure y) (hc : ∀ i : Nat, i < n → PCall Try.prog cl [.sc (.int .i64 i), .ipt [x], .ipt [y]] (.sc (.bool (p i)))) :
    ACall Try.prog 114 [.fn (.func cl) [] [.loc 0 0, .ipt [y]], .ipt [.sc (.int .i64 n)]] [.row true [x]] (.own 1 0 0 n) [.row true [x], .vec true 0 1 (rbl n p)] := by
  refine acall_intro c114_ok (by simp) (by simp) ?_ (by simp [Under]) (by
    intro o ho
    simp only [List.mem_cons, List.not_mem_nil, or_false] at ho
    rcases ho with rfl | rfl
    · exact ⟨under_pure _ hx, trivial⟩
    · exact underLL_pure _ (pure_rbl _ _))
  (apply rd_sound; focus (repeat' constructor))
  ((conv=>whnf);repeat(refine And.intro rfl ?_;(conv=>whnf)))
  refine ⟨by omega, by omega, by omega, ?_⟩
  rw [Int.toNat_natCast, show List.map D.sc [Value.bool false] = [D.sc (.bool false)] from rfl, rbl_rep]
  ((conv=>whnf);repeat(refine And.intro rfl ?_;(conv=>whnf)))
  refine pwp_for [0, 1, 4] (fun k : Nat => [(5, .sc (.int .i64 k))]) (fun k => [(1, .vec true 0 1 (rbl n fun i => if i < k then p i else false))]) (fun k => k ≤ n) (fun k => n - k) 0 ?_
  ((conv=>whnf);repeat(refine And.intro rfl ?_;(conv=>whnf)))
  refine ⟨by omega, by (repeat' (first | exact trivial | refine And.intro rfl ?_)), by simp; rfl, ?_⟩
  rintro k hk
  ((conv=>whnf);repeat(refine And.intro rfl ?_;(conv=>whnf)))
  (apply rd_sound; focus (repeat' constructor))
  ((conv=>whnf);repeat(refine And.intro rfl ?_;(conv=>whnf)))
  (refine ifK_split (fun q0 => ?_) (fun q0 => ?_) <;> (rw [q0]; ((conv=>whnf);repeat(refine And.intro rfl ?_;(conv=>whnf)))))
  rotate_left
  · have q0 : k = n := by have : ¬ k < n := by ((try simp only [oo, reduceCtorEq] at *) <;> omega)
                          omega
    subst q0
    rw [rbl_congr (g' := p) fun i hi => if_pos hi]
    exact ⟨rfl, Nat.le_refl _⟩
  have q0 : k < n := by ((try simp only [oo, reduceCtorEq] at *) <;> omega)
  (refine .inr (.inl ⟨_, _, (by (repeat' (first | exact Deep.refl _ | exact Deep.none _ | exact deep_row _ | exact DeepL.nil | exact DeepLL.nil | refine Deep.agg _ _ ?_ | refine Deep.tup _ _ ?_ | refine Deep.own _ _ _ _ _ _ _ _ rfl ?_ | refine Deep.loc _ _ _ _ _ rfl ?_ | refine Deep.ifc _ _ _ ?_ | refine Deep.fn _ _ _ _ _ ?_ ?_ | refine DeepL.cons _ _ _ _ ?_ ?_ | refine DeepLL.cons _ _ _ _ ?_ ?_))), (hc k q0), rfl, ?_⟩); ((conv=>whnf);repeat(refine And.intro rfl ?_;(conv=>whnf))))
  (refine ⟨by omega, (by first | omega | (simp; done) | (simp; omega) | (simp only [ll]; omega)), ?_⟩; ((conv=>whnf);repeat(refine And.intro rfl ?_;(conv=>whnf))))
  refine ⟨_, rbl_atN k (by omega) q0, ?_⟩
  ((conv=>whnf);repeat(refine And.intro rfl ?_;(conv=>whnf)))
  (refine .inl ⟨by (unfold InR; rw [IntKind.wrap_i64]; omega), ?_⟩; ((conv=>whnf);repeat(refine And.intro rfl ?_;(conv=>whnf))))
  refine ⟨k + 1, by omega, by dsimp only; omega, leB_envH (by (repeat' (first | exact trivial | refine And.intro rfl ?_))) ?_⟩
  rw [rbl_put (i := k) (f' := fun i => if i < k + 1 then p i else false) (by omega) fun v _ => by
    by_cases e : v = k
    · subst e; rw [if_pos (by omega), if_pos rfl]
    · rw [if_neg e]
      by_cases e2 : v < k
      · rw [if_pos e2, if_pos (by omega)]
      · rw [if_neg e2, if_neg (by omega)]]
  rfl
def c116 : PC := .seq (.ops [⟨(some 3), .move (.const (.bool false)), none, 0⟩] false) (.seq (.ops [⟨(some 4), .load1 (.tmp 1), none, 0⟩,
    ⟨(some 5), .move (.tmp 0), none, 0⟩,
    ⟨(some 6), .iaddr 1 (.tmp 4) (.tmp 5), none, 0⟩,
    ⟨(some 7), .load1 (.tmp 6), none, 0⟩,
    ⟨(some 8), .un .not (.tmp 7), none, 0⟩,
    ⟨(some 3), .move (.tmp 8), none, 0⟩] false) (.ret))
set_option maxRecDepth 100000 in
theorem c116_ok : FunOK Try.prog 116 9 [.tmp 3] c116 := ⟨⟨Try.f116, Try.func116, rfl, by kernel_rfl, rfl, by kernel_rfl⟩⟩
theorem lr_no1 (n : Nat) (a : Nat → Bool) (i : Nat) (hi : i < n) : PCall Try.prog 116 [.sc (.int .i64 i), .ipt [dbl n a]] (.sc (.bool (notF a i))) := by
  refine pcall_intro c116_ok (by simp) (by simp [PureL, Pure, pure_dbl]) ?_ (by simp [Pure])
  (apply rd_sound; focus (repeat' constructor))
  ((conv=>whnf);repeat(refine And.intro rfl ?_;(conv=>whnf)))
  refine ⟨by omega, _, rbl_atN i (by omega) hi, ?_⟩
  ((conv=>whnf);repeat(refine And.intro rfl ?_;(conv=>whnf)))
  exact .refl _
def c115 : PC := .seq (.ops [⟨(some 2), .box (.tmp 0), none, 0⟩,
    ⟨(some 3), .move (.const (.slice none 0 0)), none, 0⟩] false) (.seq (.ops [⟨(some 4), .load1 (.tmp 1), none, 0⟩,
    ⟨(some 5), .mkfn (.func 116) [] [(.tmp 2)], none, 0⟩,
    ⟨(some 6), .callv (.tmp 4) [(.tmp 5)], none, 0⟩,
    ⟨(some 3), .move (.tmp 6), none, 0⟩] false) (.ret))
set_option maxRecDepth 100000 in
theorem c115_ok : FunOK Try.prog 115 7 [.tmp 3] c115 := ⟨⟨Try.f115, Try.func115, rfl, by kernel_rfl, rfl, by kernel_rfl⟩⟩
theorem lr_no (n : Nat) (hn : n ≤ 1000000) (a : Nat → Bool) : PCall Try.prog 115 [dbl n a, .ipt [mapF n]] (dbl n (notF a)) := by
  have hE := lr_map n hn (notF a) 116 [.ipt [dbl n a]] (by simp [PureL, Pure, pure_dbl]) (fun i hi => lr_no1 n a i hi)
  refine pcall_intro c115_ok (by simp) (by simp [PureL, Pure, pure_dbl]) ?_ (pure_dbl _ _)
  unfold mapF
  (apply rd_sound; focus (repeat' constructor))
  ((conv=>whnf);repeat(refine And.intro rfl ?_;(conv=>whnf)))
  (refine .inr (.inr (.inr (.inr (.inr (.inl ⟨rfl, _, _, (by (repeat' (first | exact Deep.refl _ | exact Deep.none _ | exact deep_row _ | exact DeepL.nil | exact DeepLL.nil | refine Deep.agg _ _ ?_ | refine Deep.tup _ _ ?_ | refine Deep.own _ _ _ _ _ _ _ _ rfl ?_ | refine Deep.loc _ _ _ _ _ rfl ?_ | refine Deep.ifc _ _ _ ?_ | refine Deep.fn _ _ _ _ _ ?_ ?_ | refine DeepL.cons _ _ _ _ ?_ ?_ | refine DeepLL.cons _ _ _ _ ?_ ?_))), hE, ?_⟩))))); ((conv=>whnf);repeat(refine And.intro rfl ?_;(conv=>whnf))))
  exact .refl _
def c118 : PC := .seq (.ops [⟨(some 4), .move (.const (.bool false)), none, 0⟩] false) (.seq (.ops [⟨(some 5), .load1 (.tmp 1), none, 0⟩,
    ⟨(some 6), .move (.tmp 0), none, 0⟩,
    ⟨(some 7), .iaddr 1 (.tmp 5) (.tmp 6), none, 0⟩,
    ⟨(some 8), .load1 (.tmp 7), none, 0⟩,
    ⟨(some 9), .move (.tmp 8), none, 0⟩,
    ⟨(some 10), .load1 (.tmp 2), (some (9, true)), 0⟩,
    ⟨(some 11), .move (.tmp 0), (some (9, true)), 0⟩,
    ⟨(some 12), .iaddr 1 (.tmp 10) (.tmp 11), (some (9, true)), 0⟩,
    ⟨(some 13), .load1 (.tmp 12), (some (9, true)), 0⟩,
    ⟨(some 14), .pick (.tmp 9) (.tmp 13) (.const (.bool false)), none, 0⟩,
    ⟨(some 4), .move (.tmp 14), none, 0⟩] false) (.ret))
set_option maxRecDepth 100000 in
theorem c118_ok : FunOK Try.prog 118 15 [.tmp 4] c118 := ⟨⟨Try.f118, Try.func118, rfl, by kernel_rfl, rfl, by kernel_rfl⟩⟩
theorem lr_until1 (n : Nat) (a b : Nat → Bool) (i : Nat) (hi : i < n) : PCall Try.prog 118 [.sc (.int .i64 i), .ipt [dbl n a], .ipt [dbl n b]] (.sc (.bool (andF a b i))) := by
  refine pcall_intro c118_ok (by simp) (by simp [PureL, Pure, pure_dbl]) ?_ (by simp [Pure])
  have e : andF a b i = (a i && b i) := rfl
  (apply rd_sound; focus (repeat' constructor))
  ((conv=>whnf);repeat(refine And.intro rfl ?_;(conv=>whnf)))
  refine ⟨by omega, _, rbl_atN i (by omega) hi, ?_⟩
  ((conv=>whnf);repeat(refine And.intro rfl ?_;(conv=>whnf)))
  cases r : a i
  · rw [r] at e
    ((conv=>whnf);repeat(refine And.intro rfl ?_;(conv=>whnf)))
    rw [e]
    exact .refl _
  · rw [r] at e
    ((conv=>whnf);repeat(refine And.intro rfl ?_;(conv=>whnf)))
    refine ⟨by omega, _, rbl_atN i (by omega) hi, ?_⟩
    ((conv=>whnf);repeat(refine And.intro rfl ?_;(conv=>whnf)))
    rw [e]
    exact .refl _
def c122 : PC := .seq (.ops [⟨(some 4), .move (.const (.bool false)), none, 0⟩] false) (.seq (.ops [⟨(some 5), .load1 (.tmp 1), none, 0⟩,
    ⟨(some 6), .move (.tmp 0), none, 0⟩,
    ⟨(some 7), .iaddr 1 (.tmp 5) (.tmp 6), none, 0⟩,
    ⟨(some 8), .load1 (.tmp 7), none, 0⟩,
    ⟨(some 9), .move (.tmp 8), none, 0⟩,
    ⟨(some 10), .load1 (.tmp 2), (some (9, true)), 0⟩,
    ⟨(some 11), .move (.tmp 0), (some (9, true)), 0⟩,
    ⟨(some 12), .iaddr 1 (.tmp 10) (.tmp 11), (some (9, true)), 0⟩,
    ⟨(some 13), .load1 (.tmp 12), (some (9, true)), 0⟩,
    ⟨(some 14), .pick (.tmp 9) (.tmp 13) (.const (.bool false)), none, 0⟩,
    ⟨(some 4), .move (.tmp 14), none, 0⟩] false) (.ret))
set_option maxRecDepth 100000 in
theorem c122_ok : FunOK Try.prog 122 15 [.tmp 4] c122 := ⟨⟨Try.f122, Try.func122, rfl, by kernel_rfl, rfl, by kernel_rfl⟩⟩
theorem lr_next11 (n : Nat) (a b : Nat → Bool) (i : Nat) (hi : i < n) : PCall Try.prog 122 [.sc (.int .i64 i), .ipt [dbl n a], .ipt [dbl n b]] (.sc (.bool (andF a b i))) := by
  refine pcall_intro c122_ok (by simp) (by simp [PureL, Pure, pure_dbl]) ?_ (by simp [Pure])
  have e : andF a b i = (a i && b i) := rfl
  (apply rd_sound; focus (repeat' constructor))
  ((conv=>whnf);repeat(refine And.intro rfl ?_;(conv=>whnf)))
  refine ⟨by omega, _, rbl_atN i (by omega) hi, ?_⟩
  ((conv=>whnf);repeat(refine And.intro rfl ?_;(conv=>whnf)))
  cases r : a i
  · rw [r] at e
    ((conv=>whnf);repeat(refine And.intro rfl ?_;(conv=>whnf)))
    rw [e]
    exact .refl _
  · rw [r] at e
    ((conv=>whnf);repeat(refine And.intro rfl ?_;(conv=>whnf)))
    refine ⟨by omega, _, rbl_atN i (by omega) hi, ?_⟩
    ((conv=>whnf);repeat(refine And.intro rfl ?_;(conv=>whnf)))
    rw [e]
    exact .refl _
def c120 : PC := .seq (.ops [⟨(some 5), .move (.const (.bool false)), none, 0⟩] false) (.seq (.ops [⟨(some 6), .faddr 1 (.tmp 1), none, 0⟩,
    ⟨(some 7), .load1 (.tmp 6), none, 0⟩,
    ⟨(some 8), .move (.tmp 0), none, 0⟩,
    ⟨(some 9), .iaddr 1 (.tmp 7) (.tmp 8), none, 0⟩,
    ⟨(some 10), .load1 (.tmp 9), none, 0⟩,
    ⟨(some 11), .mkfn (.func 122) [] [(.tmp 2), (.tmp 3)], none, 0⟩,
    ⟨(some 12), .call 121 [(.tmp 10), (.tmp 11)], none, 0⟩,
    ⟨(some 5), .move (.tmp 12), none, 0⟩] false) (.ret))
set_option maxRecDepth 100000 in
theorem c120_ok : FunOK Try.prog 120 13 [.tmp 5] c120 := ⟨⟨Try.f120, Try.func120, rfl, by kernel_rfl, rfl, by kernel_rfl⟩⟩
theorem lr_next1 (W : WorldD) (hW : W.Fits) (hc : W.chk = 0) (a : Nat → Bool) (i : Nat) (hi : i < W.next.length) : PCall Try.prog 120 [.sc (.int .i64 i), .ipt W.cells, .ipt [dbl W.next.length a], .ipt [dbl W.next.length (fairF W)]] (.sc (.bool (exF W a i))) := by
  obtain ⟨_, h600, h80, _, hnx, hfr⟩ := chk_label W hc
  have hrow := fun k => inB_row (g := W.next) (fun l hl => (hnx l hl).2) k
  have hFN : FitsG W.next := ⟨hW.next, hW.nextEach⟩
  have hgF := hFN.at i
  have hcl : ∀ x ∈ W.next.getD i [], PCall Try.prog 122 [.sc (.int .i64 x), .ipt [dbl W.next.length a], .ipt [dbl W.next.length (fairF W)]] (.sc (.bool (andF a (fairF W) x.toNat))) := fun x hx => by
    have h := inB_mem (hrow i) hx
    have := lr_next11 W.next.length a (fairF W) x.toNat (by omega)
    rwa [show ((x.toNat : Nat) : Int) = x by omega] at this
  have hC := containsF_int (fun x => .sc (.int .i64 x)) (fun x => by simp [Pure]) (W.next.getD i []) (by omega) (fun x => andF a (fairF W) x.toNat) 122 [.ipt [dbl W.next.length a], .ipt [dbl W.next.length (fairF W)]] (by simp [PureL, Pure, pure_dbl]) hcl
  refine pcall_intro c120_ok (by simp) (by simp [PureL, Pure, pure_dbl, pure_wdc]) ?_ (by simp [Pure])
  have e : exF W a i = (W.next.getD i []).any fun x => andF a (fairF W) x.toNat := rfl
  rw [e]
  unfold WorldD.cells at *
  (apply rd_sound; focus (repeat' constructor))
  ((conv=>whnf);repeat(refine And.intro rfl ?_;(conv=>whnf)))
  refine ⟨by omega, _, gridD_at (g := W.next) (k := i) (by omega) hi, ?_⟩
  ((conv=>whnf);repeat(refine And.intro rfl ?_;(conv=>whnf)))
  (refine .inl ⟨_, hC, ?_⟩; ((conv=>whnf);repeat(refine And.intro rfl ?_;(conv=>whnf))))
  exact .refl _
def c119 : PC := .seq (.ops [⟨(some 4), .box (.tmp 0), none, 0⟩,
    ⟨(some 5), .move (.const (.slice none 0 0)), none, 0⟩] false) (.seq (.ops [⟨(some 6), .load1 (.tmp 1), none, 0⟩,
    ⟨(some 7), .mkfn (.func 120) [] [(.tmp 2), (.tmp 4), (.tmp 3)], none, 0⟩,
    ⟨(some 8), .callv (.tmp 6) [(.tmp 7)], none, 0⟩,
    ⟨(some 5), .move (.tmp 8), none, 0⟩] false) (.ret))
set_option maxRecDepth 100000 in
theorem c119_ok : FunOK Try.prog 119 9 [.tmp 5] c119 := ⟨⟨Try.f119, Try.func119, rfl, by kernel_rfl, rfl, by kernel_rfl⟩⟩
theorem lr_next (W : WorldD) (hW : W.Fits) (hc : W.chk = 0) (a : Nat → Bool) : PCall Try.prog 119 [dbl W.next.length a, .ipt [mapF W.next.length], .ipt W.cells, .ipt [dbl W.next.length (fairF W)]] (dbl W.next.length (exF W a)) := by
  obtain ⟨_, h600, _⟩ := chk_label W hc
  have hE := lr_map W.next.length (by omega) (exF W a) 120 [.ipt W.cells, .ipt [dbl W.next.length a], .ipt [dbl W.next.length (fairF W)]] (by simp [PureL, Pure, pure_dbl, pure_wdc]) (fun i hi => lr_next1 W hW hc a i hi)
  refine pcall_intro c119_ok (by simp) (by simp [PureL, Pure, pure_dbl, pure_wdc]) ?_ (pure_dbl _ _)
  unfold mapF
  (apply rd_sound; focus (repeat' constructor))
  ((conv=>whnf);repeat(refine And.intro rfl ?_;(conv=>whnf)))
  (refine .inr (.inr (.inr (.inr (.inr (.inl ⟨rfl, _, _, (by (repeat' (first | exact Deep.refl _ | exact Deep.none _ | exact deep_row _ | exact DeepL.nil | exact DeepLL.nil | refine Deep.agg _ _ ?_ | refine Deep.tup _ _ ?_ | refine Deep.own _ _ _ _ _ _ _ _ rfl ?_ | refine Deep.loc _ _ _ _ _ rfl ?_ | refine Deep.ifc _ _ _ ?_ | refine Deep.fn _ _ _ _ _ ?_ ?_ | refine DeepL.cons _ _ _ _ ?_ ?_ | refine DeepLL.cons _ _ _ _ ?_ ?_))), hE, ?_⟩))))); ((conv=>whnf);repeat(refine And.intro rfl ?_;(conv=>whnf))))
  exact .refl _
end Go.Proofs.Ytfgklgjbnpjpoaa
