/-
  Fair ways of a world: the program's Fair and the reference's, over deep values. No statement is proved here.
-/
import Derived.Test.YtfgklgjbnpjpoaaQWi
import Derived.Test.YtfgklgjbnpjpoaaQWa0
namespace Go.Proofs.Ytfgklgjbnpjpoaa
open Go.RowKit
set_option linter.unusedSimpArgs false
set_option linter.unusedVariables false
def c32_1 : PC := .seq (.ops [⟨some 19,.bin .lss (.tmp 18) (.tmp 17),none,0⟩] false) (.seq (.cond (.tmp 19) (.skip) (.exit 0)) (.seq (.block 1 (.seq (.ops [⟨some 20,.move (.tmp 18),none,0⟩,
 ⟨some 6,.move (.tmp 20),none,0⟩] false) (.ops [⟨some 21,.move (.tmp 5),none,0⟩,
 ⟨some 22,.move (.tmp 6),none,0⟩,
 ⟨some 23,.iaddr 1 (.tmp 21) (.tmp 22),none,0⟩,
 ⟨none,.store 1 (.tmp 23) (.const (.bool true)),none,0⟩] false))) (.ops [⟨some 24,.bin .add (.tmp 18) (.const (.int .i64 1)),none,0⟩,
 ⟨some 18,.move (.tmp 24),none,0⟩] false)))
def c32 : PC := .seq (.ops [⟨some 1,.box (.tmp 0),none,0⟩,
 ⟨some 2,.move (.const (.slice none 0 0)),none,0⟩,
 ⟨some 3,.move (.const (.int .i64 0)),none,0⟩] false) (.seq (.seq (.ops [⟨some 7,.loadA 4 (.tmp 1),none,0⟩,
 ⟨some 8,.call 33 [(.tmp 7)],none,0⟩,
 ⟨some 4,.move (.tmp 8),none,0⟩] false) (.seq (.ops [⟨some 9,.move (.tmp 4),none,0⟩,
 ⟨some 10,.bin .neq (.tmp 9) (.const (.int .i64 0)),none,0⟩] false) (.cond (.tmp 10) (.seq (.ops [⟨some 11,.move (.tmp 4),none,0⟩,
 ⟨some 2,.move (.const (.slice none 0 0)),none,0⟩,
 ⟨some 3,.move (.tmp 11),none,0⟩] false) (.ret)) (.skip)))) (.seq (.ops [⟨some 12,.faddr 1 (.tmp 1),none,0⟩,
 ⟨some 13,.load1 (.tmp 12),none,0⟩,
 ⟨some 14,.len (.tmp 13),none,0⟩,
 ⟨some 15,.mslice 1 1 [(.bool false)] (.tmp 14) (.tmp 14),none,0⟩,
 ⟨some 5,.move (.tmp 15),none,0⟩] false) (.seq (.seq (.ops [⟨some 16,.move (.tmp 5),none,0⟩,
 ⟨some 17,.len (.tmp 16),none,0⟩,
 ⟨some 18,.move (.const (.int .i64 0)),none,0⟩] false) (.block 0 (.loop c32_1))) (.seq (.ops [⟨some 25,.loadA 4 (.tmp 1),none,0⟩,
 ⟨some 26,.move (.tmp 5),none,0⟩,
 ⟨some 27,.call 84 [(.tmp 25), (.tmp 26)],none,0⟩,
 ⟨some 2,.move (.tmp 27),none,0⟩,
 ⟨some 3,.move (.const (.int .i64 0)),none,0⟩] false) (.ret)))))
set_option maxRecDepth 100000 in
theorem c32_ok : FunOK Try.prog 32 28 [.tmp 2, .tmp 3] c32 := ⟨⟨Try.f32, Try.func32, rfl, by kernel_rfl, rfl, by kernel_rfl⟩⟩
theorem wo_Fair (W : WorldD) (hW : W.Fits) (hc : W.chk = 0) : PCall Try.prog 32 [dworld W] (.tup [dbl W.next.length (fwB (resG W.next allT) (W.fair.map setB)), .sc (.int .i64 0)]) := by
  obtain ⟨_, h600, h80, _, hnx, hfr⟩ := chk_label W hc
  have hC := wo_Check W hW
  rw [hc] at hC
  have hWi := wo_Within W hW hc allT
  refine pcall_intro c32_ok (by simp) (by simp [PureL, pure_dworld]) ?_ (by simp [Pure, PureL, pure_dbl])
  unfold dworld at *
  (apply rd_sound; focus (repeat' constructor))
  ((conv=>whnf);repeat(refine .intro rfl ?_;conv=>whnf))
  (refine .inl ⟨_, hC, ?_⟩; ((conv=>whnf);repeat(refine .intro rfl ?_;conv=>whnf)))
  rw [List.length_map]
  refine ⟨by omega, by omega, by omega, ?_⟩
  rw [Int.toNat_natCast, show List.map D.sc [Value.bool false] = [D.sc (.bool false)] from rfl, rbl_rep]
  ((conv=>whnf);repeat(refine .intro rfl ?_;conv=>whnf))
  refine pwp_for [1, 5, 17] (fun k : Nat => [(18, .sc (.int .i64 k))]) (fun k => [(1, .vec true 0 1 (rbl W.next.length fun i => decide (i < k)))]) (fun k => k ≤ W.next.length) (fun k => W.next.length - k) 0 ?_
  ((conv=>whnf);repeat(refine .intro rfl ?_;conv=>whnf))
  refine ⟨by omega, by (repeat' (first | exact trivial | refine And.intro rfl ?_)), by simp; rfl, ?_⟩
  rintro k hk
  ((conv=>whnf);repeat(refine .intro rfl ?_;conv=>whnf))
  (apply rd_sound; focus (repeat' constructor))
  ((conv=>whnf);repeat(refine .intro rfl ?_;conv=>whnf))
  (refine ifK_split (fun q0 => ?_) (fun q0 => ?_) <;> (rw [q0]; ((conv=>whnf);repeat(refine .intro rfl ?_;conv=>whnf))))
  · have q0 : k < W.next.length := by ((try simp only[oo,reduceCtorEq]at*)<;>omega)
    (refine ⟨by omega, (by first | omega | (simp; done) | (simp; omega) | (simp only [ll]; omega)), ?_⟩; ((conv=>whnf);repeat(refine .intro rfl ?_;conv=>whnf)))
    refine ⟨_, rbl_atN k (by omega) q0, ?_⟩
    ((conv=>whnf);repeat(refine .intro rfl ?_;conv=>whnf))
    (refine .inl ⟨by (unfold InR; rw [IntKind.wrap_i64]; omega), ?_⟩; ((conv=>whnf);repeat(refine .intro rfl ?_;conv=>whnf)))
    refine ⟨k + 1, by omega, by dsimp only; omega, leB_envH (by (repeat' (first | exact trivial | refine And.intro rfl ?_))) ?_⟩
    rw [rbl_put (i := k) (f' := fun i => decide (i < k + 1)) (by omega) fun v _ => by
      by_cases e : v = k
      · rw [if_pos e]; simp; omega
      · rw [if_neg e, Bool.eq_iff_iff]; simp; omega]
    rfl
  have q0 : k = W.next.length := by have : ¬ k < W.next.length := by ((try simp only[oo,reduceCtorEq]at*)<;>omega)
                                    omega
  subst q0
  rw [rbl_congr (g' := allT) fun i hi => by simp [hi, allT]]
  rw [show dbl W.next.length allT = D.lst 1 (List.drop 0 (List.take W.next.length (rbl W.next.length allT))) from by rw [rbl_all]; rfl] at hWi
  (refine .inr (.inr (.inr (.inr (.inl ⟨_, _, _, (acallAt_frz1 (pre := [_]) (post := []) hWi (pure_dbl _ _) ⟨by simp only [Pure]; exact pure_wocells W, trivial⟩ trivial (pure_rbl _ _) rfl), ?_⟩)))); ((conv=>whnf);repeat(refine .intro rfl ?_;conv=>whnf)))
  exact .refl _
def c97_1 : PC := .seq (.seq (.ops [⟨some 9,.move (.tmp 6),none,0⟩,
 ⟨some 10,.move (.tmp 0),none,0⟩,
 ⟨some 11,.len (.tmp 10),none,0⟩,
 ⟨some 12,.bin .lss (.tmp 9) (.tmp 11),none,0⟩] false) (.cond (.tmp 12) (.skip) (.exit 0))) (.seq (.block 1 (.ops [⟨some 15,.move (.tmp 5),none,0⟩,
 ⟨some 16,.move (.tmp 0),none,0⟩,
 ⟨some 17,.move (.tmp 6),none,0⟩,
 ⟨some 18,.iaddr 1 (.tmp 16) (.tmp 17),none,0⟩,
 ⟨some 19,.load1 (.tmp 18),none,0⟩,
 ⟨some 20,.iaddr 1 (.tmp 15) (.tmp 19),none,0⟩,
 ⟨none,.store 1 (.tmp 20) (.const (.bool true)),none,0⟩] false)) (.ops [⟨some 13,.move (.tmp 6),none,0⟩,
 ⟨some 14,.bin .add (.tmp 13) (.const (.int .i64 1)),none,0⟩,
 ⟨some 6,.move (.tmp 14),none,0⟩] false))
def c97 : PC := .seq (.ops [⟨some 4,.move (.const (.slice none 0 0)),none,0⟩] false) (.seq (.ops [⟨some 7,.move (.tmp 1),none,0⟩,
 ⟨some 8,.mslice 1 1 [(.bool false)] (.tmp 7) (.tmp 7),none,0⟩,
 ⟨some 5,.move (.tmp 8),none,0⟩] false) (.seq (.seq (.ops [⟨some 6,.move (.const (.int .i64 0)),none,0⟩] false) (.block 0 (.loop c97_1))) (.seq (.ops [⟨some 21,.move (.tmp 5),none,0⟩,
 ⟨some 4,.move (.tmp 21),none,0⟩] false) (.ret))))
set_option maxRecDepth 100000 in
theorem c97_ok : FunOK Try.prog 97 22 [.tmp 4] c97 := ⟨⟨Try.f97, Try.func97, rfl, by kernel_rfl, rfl, by kernel_rfl⟩⟩
theorem ref_Marked (l : List Int) (n : Nat) (hn : n ≤ 1000000) (hl : l.length ≤ 17592186043904) (hi : inB l n = true) : PCall Try.prog 97 [dints l, .sc (.int .i64 n)] (dbl n (setB l)) := by
  refine pcall_intro c97_ok (by simp) (by simp [PureL, Pure, pure_dints]) ?_ (pure_dbl _ _)
  (apply rd_sound; focus (repeat' constructor))
  ((conv=>whnf);repeat(refine .intro rfl ?_;conv=>whnf))
  refine ⟨by omega, by omega, by omega, ?_⟩
  rw [Int.toNat_natCast, show List.map D.sc [Value.bool false] = [D.sc (.bool false)] from rfl, rbl_rep]
  ((conv=>whnf);repeat(refine .intro rfl ?_;conv=>whnf))
  refine pwp_for [0, 5] (fun k : Nat => [(6, .sc (.int .i64 k))]) (fun k => [(0, .vec true 0 1 (rbl n (setB (l.take k))))]) (fun k => k ≤ l.length) (fun k => l.length - k) 0 ?_
  ((conv=>whnf);repeat(refine .intro rfl ?_;conv=>whnf))
  refine ⟨by omega, by (repeat' (first | exact trivial | refine And.intro rfl ?_)), rfl, ?_⟩
  rintro k hk
  ((conv=>whnf);repeat(refine .intro rfl ?_;conv=>whnf))
  (apply rd_sound; focus (repeat' constructor))
  ((conv=>whnf);repeat(refine .intro rfl ?_;conv=>whnf))
  rw [List.length_map]
  (refine ifK_split (fun q0 => ?_) (fun q0 => ?_) <;> (rw [q0]; ((conv=>whnf);repeat(refine .intro rfl ?_;conv=>whnf))))
  · have q0 : k < l.length := by ((try simp only[oo,reduceCtorEq]at*)<;>omega)
    have hx := inB_mem hi (mem_getD q0)
    have eS : ∀ v, setB (l.take (k + 1)) v = (setB (l.take k) v || (l.getD k 0 == (v : Int))) := fun v => by
      unfold setB
      rw [List.take_add_one, List.getElem?_eq_getElem q0, List.getD_eq_getElem?_getD, List.getElem?_eq_getElem q0]
      rw [Bool.eq_iff_iff, Bool.or_eq_true, List.contains_iff_mem, List.contains_iff_mem, List.mem_append, beq_iff_eq]
      simp only [Option.toList_some, List.mem_singleton, Option.getD_some]
      exact or_congr_right eq_comm
    refine ⟨by omega, _, intsD_at (l := l) (k := k) (by omega) q0, ?_⟩
    ((conv=>whnf);repeat(refine .intro rfl ?_;conv=>whnf))
    generalize l.getD k 0 = x at *
    (refine ⟨by omega, (by first | omega | (simp; done) | (simp; omega) | (simp only [ll]; omega)), ?_⟩; ((conv=>whnf);repeat(refine .intro rfl ?_;conv=>whnf)))
    refine ⟨_, rbl_atN x.toNat (by omega) (by omega), ?_⟩
    ((conv=>whnf);repeat(refine .intro rfl ?_;conv=>whnf))
    (refine .inl ⟨by (unfold InR; rw [IntKind.wrap_i64]; omega), ?_⟩; ((conv=>whnf);repeat(refine .intro rfl ?_;conv=>whnf)))
    refine ⟨k + 1, by omega, by dsimp only; omega, leB_envH (by (repeat' (first | exact trivial | refine And.intro rfl ?_))) ?_⟩
    rw [rbl_put (i := x.toNat) (f' := setB (l.take (k + 1))) (by omega) fun v _ => by
      rw [eS]
      by_cases e : v = x.toNat
      · rw [if_pos e, show (x == (v : Int)) = true by rw [beq_iff_eq]; omega, Bool.or_true]
      · rw [if_neg e, show (x == (v : Int)) = false by rw [beq_eq_false_iff_ne]; omega, Bool.or_false]]
    rfl
  have q0 : k = l.length := by have : ¬ k < l.length := by ((try simp only[oo,reduceCtorEq]at*)<;>omega)
                               omega
  subst q0
  rw [List.take_length]
  exact deep_vec rfl
def c35_1 : PC := .seq (.seq (.ops [⟨some 7,.move (.tmp 4),none,0⟩,
 ⟨some 8,.move (.tmp 0),none,0⟩,
 ⟨some 9,.bin .lss (.tmp 7) (.tmp 8),none,0⟩] false) (.cond (.tmp 9) (.skip) (.exit 0))) (.seq (.block 1 (.ops [⟨some 12,.move (.tmp 3),none,0⟩,
 ⟨some 13,.move (.tmp 4),none,0⟩,
 ⟨some 14,.iaddr 1 (.tmp 12) (.tmp 13),none,0⟩,
 ⟨none,.store 1 (.tmp 14) (.const (.bool true)),none,0⟩] false)) (.ops [⟨some 10,.move (.tmp 4),none,0⟩,
 ⟨some 11,.bin .add (.tmp 10) (.const (.int .i64 1)),none,0⟩,
 ⟨some 4,.move (.tmp 11),none,0⟩] false))
def c35 : PC := .seq (.ops [⟨some 2,.move (.const (.slice none 0 0)),none,0⟩] false) (.seq (.ops [⟨some 5,.move (.tmp 0),none,0⟩,
 ⟨some 6,.mslice 1 1 [(.bool false)] (.tmp 5) (.tmp 5),none,0⟩,
 ⟨some 3,.move (.tmp 6),none,0⟩] false) (.seq (.seq (.ops [⟨some 4,.move (.const (.int .i64 0)),none,0⟩] false) (.block 0 (.loop c35_1))) (.seq (.ops [⟨some 15,.move (.tmp 3),none,0⟩,
 ⟨some 2,.move (.tmp 15),none,0⟩] false) (.ret))))
set_option maxRecDepth 100000 in
theorem c35_ok : FunOK Try.prog 35 16 [.tmp 2] c35 := ⟨⟨Try.f35, Try.func35, rfl, by kernel_rfl, rfl, by kernel_rfl⟩⟩
theorem ref_Every (n : Nat) (hn : n ≤ 1000000) : PCall Try.prog 35 [.sc (.int .i64 n)] (dbl n allT) := by
  refine pcall_intro c35_ok (by simp) (by simp [PureL, Pure]) ?_ (pure_dbl _ _)
  (apply rd_sound; focus (repeat' constructor))
  ((conv=>whnf);repeat(refine .intro rfl ?_;conv=>whnf))
  refine ⟨by omega, by omega, by omega, ?_⟩
  rw [Int.toNat_natCast, show List.map D.sc [Value.bool false] = [D.sc (.bool false)] from rfl, rbl_rep]
  ((conv=>whnf);repeat(refine .intro rfl ?_;conv=>whnf))
  refine pwp_for [0, 3] (fun k : Nat => [(4, .sc (.int .i64 k))]) (fun k => [(0, .vec true 0 1 (rbl n fun i => decide (i < k)))]) (fun k => k ≤ n) (fun k => n - k) 0 ?_
  ((conv=>whnf);repeat(refine .intro rfl ?_;conv=>whnf))
  refine ⟨by omega, by (repeat' (first | exact trivial | refine And.intro rfl ?_)), by simp; rfl, ?_⟩
  rintro k hk
  ((conv=>whnf);repeat(refine .intro rfl ?_;conv=>whnf))
  (apply rd_sound; focus (repeat' constructor))
  ((conv=>whnf);repeat(refine .intro rfl ?_;conv=>whnf))
  (refine ifK_split (fun q0 => ?_) (fun q0 => ?_) <;> (rw [q0]; ((conv=>whnf);repeat(refine .intro rfl ?_;conv=>whnf))))
  · have q0 : k < n := by ((try simp only[oo,reduceCtorEq]at*)<;>omega)
    (refine ⟨by omega, (by first | omega | (simp; done) | (simp; omega) | (simp only [ll]; omega)), ?_⟩; ((conv=>whnf);repeat(refine .intro rfl ?_;conv=>whnf)))
    refine ⟨_, rbl_atN k (by omega) q0, ?_⟩
    ((conv=>whnf);repeat(refine .intro rfl ?_;conv=>whnf))
    (refine .inl ⟨by (unfold InR; rw [IntKind.wrap_i64]; omega), ?_⟩; ((conv=>whnf);repeat(refine .intro rfl ?_;conv=>whnf)))
    refine ⟨k + 1, by omega, by dsimp only; omega, leB_envH (by (repeat' (first | exact trivial | refine And.intro rfl ?_))) ?_⟩
    rw [rbl_put (i := k) (f' := fun i => decide (i < k + 1)) (by omega) fun v _ => by
      by_cases e : v = k
      · rw [if_pos e]; simp; omega
      · rw [if_neg e, Bool.eq_iff_iff]; simp; omega]
    rfl
  have q0 : k = n := by have : ¬ k < n := by ((try simp only[oo,reduceCtorEq]at*)<;>omega)
                        omega
  subst q0
  rw [rbl_congr (g' := allT) fun i hi => by simp [hi, allT]]
  exact deep_vec rfl
def sgrid (n : Nat) (F : List (List Int)) : List (List D) := F.map fun l => [dbl n (setB l)]
theorem pure_sgrid (n : Nat) (F : List (List Int)) : PureLL (sgrid n F) := pureLL_map _ (fun l => by simp [PureL, pure_dbl]) F
@[simp] theorem underLL_sgrid {m n : Nat} (F : List (List Int)) : UnderLL m (sgrid n F) ↔ True := ⟨fun _ => trivial, fun _ => underLL_pure _ (pure_sgrid n F)⟩
@[simp] theorem sgrid_len (n : Nat) (F : List (List Int)) : (sgrid n F).length = F.length := by simp [sgrid]
theorem sgrid_snoc {n k : Nat} {F : List (List Int)} (h : k < F.length) : List.drop 0 (List.take k (sgrid n (F.take k))) ++ [[dbl n (setB (F.getD k []))]] = sgrid n (F.take (k + 1)) := by
  rw [drop_take_all (by simp; omega)]
  unfold sgrid
  rw [List.take_add_one, List.getElem?_eq_getElem h, List.map_append, List.getD_eq_getElem?_getD, List.getElem?_eq_getElem h]
  rfl
def c89_1 : PC := .seq (.seq (.ops [⟨some 5,.move (.tmp 4),none,0⟩,
 ⟨some 6,.faddr 3 (.tmp 1),none,0⟩,
 ⟨some 7,.load1 (.tmp 6),none,0⟩,
 ⟨some 8,.len (.tmp 7),none,0⟩,
 ⟨some 9,.bin .lss (.tmp 5) (.tmp 8),none,0⟩] false) (.cond (.tmp 9) (.skip) (.exit 0))) (.seq (.block 1 (.ops [⟨some 12,.move (.tmp 3),none,0⟩,
 ⟨some 13,.faddr 3 (.tmp 1),none,0⟩,
 ⟨some 14,.load1 (.tmp 13),none,2⟩,
 ⟨some 15,.move (.tmp 4),none,0⟩,
 ⟨some 16,.iaddr 1 (.tmp 14) (.tmp 15),none,14⟩,
 ⟨some 17,.load1 (.tmp 16),none,30⟩,
 ⟨some 18,.faddr 1 (.tmp 1),none,0⟩,
 ⟨some 19,.load1 (.tmp 18),none,64⟩,
 ⟨some 20,.len (.tmp 19),none,192⟩,
 ⟨some 21,.call 97 [(.tmp 17), (.tmp 20)],none,510⟩,
 ⟨some 22,.bslice 1 1 [(.tmp 21)],none,1022⟩,
 ⟨some 23,.append 1 24 (.tmp 12) (.tmp 22),none,2047⟩,
 ⟨some 3,.move (.tmp 23),none,4095⟩] true)) (.ops [⟨some 10,.move (.tmp 4),none,0⟩,
 ⟨some 11,.bin .add (.tmp 10) (.const (.int .i64 1)),none,0⟩,
 ⟨some 4,.move (.tmp 11),none,0⟩] false))
def c89 : PC := .seq (.ops [⟨some 1,.box (.tmp 0),none,0⟩,
 ⟨some 2,.move (.const (.slice none 0 0)),none,0⟩] false) (.seq (.ops [⟨some 3,.move (.const (.slice none 0 0)),none,0⟩] false) (.seq (.seq (.ops [⟨some 4,.move (.const (.int .i64 0)),none,0⟩] false) (.block 0 (.loop c89_1))) (.seq (.ops [⟨some 24,.move (.tmp 3),none,0⟩,
 ⟨some 2,.move (.tmp 24),none,0⟩] false) (.ret))))
set_option maxRecDepth 100000 in
theorem c89_ok : FunOK Try.prog 89 25 [.tmp 2] c89 := ⟨⟨Try.f89, Try.func89, rfl, by kernel_rfl, rfl, by kernel_rfl⟩⟩
theorem ref_sets (W : WorldD) (hW : W.Fits) (hc : W.chk = 0) : PCall Try.prog 89 [dworld W] (dbls W.next.length (W.fair.map setB)) := by
  obtain ⟨_, h600, h80, _, hnx, hfr⟩ := chk_label W hc
  have hFF : FitsG W.fair := ⟨hW.fair, hW.fairEach⟩
  have hM := fun k (hk : k < W.fair.length) => ref_Marked (W.fair.getD k []) W.next.length (by omega) (hFF.at k) (inB_row hfr k)
  refine pcall_intro c89_ok (by simp) (by simp [PureL, pure_dworld]) ?_ (pure_dbls _ _)
  unfold dworld
  (apply rd_sound; focus (repeat' constructor))
  ((conv=>whnf);repeat(refine .intro rfl ?_;conv=>whnf))
  refine pwp_ghostB (leB_nil 3 1 (by simp) rfl) ?_
  refine pwp_for [1] (fun k : Nat => [(3, .own 1 k 0 k), (4, .sc (.int .i64 k))]) (fun k => [(1, .vec true k 1 (sgrid W.next.length (W.fair.take k)))]) (fun k => k ≤ W.fair.length) (fun k => W.fair.length - k) 0 ?_
  ((conv=>whnf);repeat(refine .intro rfl ?_;conv=>whnf))
  refine ⟨by omega, by (repeat' (first | exact trivial | refine And.intro rfl ?_)), rfl, ?_⟩
  rintro k hk
  ((conv=>whnf);repeat(refine .intro rfl ?_;conv=>whnf))
  (apply rd_sound; focus (repeat' constructor))
  ((conv=>whnf);repeat(refine .intro rfl ?_;conv=>whnf))
  rw [List.length_map]
  (refine ifK_split (fun q0 => ?_) (fun q0 => ?_) <;> (rw [q0]; ((conv=>whnf);repeat(refine .intro rfl ?_;conv=>whnf))))
  · have q0 : k < W.fair.length := by ((try simp only[oo,reduceCtorEq]at*)<;>omega)
    refine ⟨by omega, _, gridD_at (g := W.fair) (k := k) (by omega) q0, ?_⟩
    ((conv=>whnf);repeat(refine .intro rfl ?_;conv=>whnf))
    rw [List.length_map]
    (refine .inl ⟨_, (hM k q0), ?_⟩; ((conv=>whnf);repeat(refine .intro rfl ?_;conv=>whnf)))
    refine ⟨by unfold sliceAppend; simp; omega, ?_⟩
    ((conv=>whnf);repeat(refine .intro rfl ?_;conv=>whnf))
    (refine .inl ⟨by (unfold InR; rw [IntKind.wrap_i64]; omega), ?_⟩; ((conv=>whnf);repeat(refine .intro rfl ?_;conv=>whnf)))
    refine ⟨k + 1, by omega, by dsimp only; omega, ?_⟩
    dsimp only
    (refine leB_close 2 (by simp) rfl ?_ ?_ <;> (repeat' (first | exact trivial | exact rfl | exact DeepM.refl _ | exact DeepML.refl _ | exact DeepMLL.refl _ | refine And.intro ?_ ?_ | (simp [Under, UnderL, UnderLL, -List.map_take, -List.map_drop]; done))))
    exact deepMLL_eq (sgrid_snoc q0)
  have q0 : k = W.fair.length := by have : ¬ k < W.fair.length := by ((try simp only[oo,reduceCtorEq]at*)<;>omega)
                                    omega
  subst q0
  refine .own _ _ _ _ _ _ _ _ rfl ?_
  rw [List.take_length, drop_take_all (by simp)]
  have : (W.fair.map setB).map (fun S => [dbl W.next.length S]) = sgrid W.next.length W.fair := by unfold sgrid; rw [List.map_map]; rfl
  rw [this]
  exact deepLL_refl _
/-- The reference's Ways, whatever sets there are. -/
theorem ref_WaysG (g : List (List Int)) (hn : g.length ≤ 1000000) (hin0 : ∀ l ∈ g, inB l g.length = true) (hF : FitsG g) (F : List (Nat → Bool)) (hFl : F.length ≤ 1000000) : PCall Try.prog 88 [dgrid g, dbls g.length F] (dbl g.length (fwB g F)) := by
  by_cases h : F = []
  · subst h; exact ref_Ways0 g hn hin0 hF
  · exact ref_Ways g hn hin0 hF F hFl h
def c34_2 : PC := .seq (.seq (.ops [⟨some 18,.move (.tmp 7),none,0⟩,
 ⟨some 19,.faddr 1 (.tmp 2),none,0⟩,
 ⟨some 20,.load1 (.tmp 19),none,0⟩,
 ⟨some 21,.move (.tmp 6),none,0⟩,
 ⟨some 22,.iaddr 1 (.tmp 20) (.tmp 21),none,0⟩,
 ⟨some 23,.load1 (.tmp 22),none,0⟩,
 ⟨some 24,.len (.tmp 23),none,0⟩,
 ⟨some 25,.bin .lss (.tmp 18) (.tmp 24),none,0⟩] false) (.cond (.tmp 25) (.skip) (.exit 2))) (.seq (.block 3 (.seq (.ops [⟨some 28,.move (.tmp 1),none,0⟩,
 ⟨some 29,.move (.tmp 6),none,0⟩,
 ⟨some 30,.iaddr 1 (.tmp 28) (.tmp 29),none,0⟩,
 ⟨some 31,.load1 (.tmp 30),none,0⟩,
 ⟨some 32,.move (.tmp 31),none,0⟩,
 ⟨some 33,.move (.tmp 1),some (32,true),0⟩,
 ⟨some 34,.faddr 1 (.tmp 2),some (32,true),0⟩,
 ⟨some 35,.load1 (.tmp 34),some (32,true),0⟩,
 ⟨some 36,.move (.tmp 6),some (32,true),0⟩,
 ⟨some 37,.iaddr 1 (.tmp 35) (.tmp 36),some (32,true),0⟩,
 ⟨some 38,.load1 (.tmp 37),some (32,true),0⟩,
 ⟨some 39,.move (.tmp 7),some (32,true),0⟩,
 ⟨some 40,.iaddr 1 (.tmp 38) (.tmp 39),some (32,true),0⟩,
 ⟨some 41,.load1 (.tmp 40),some (32,true),0⟩,
 ⟨some 42,.iaddr 1 (.tmp 33) (.tmp 41),some (32,true),0⟩,
 ⟨some 43,.load1 (.tmp 42),some (32,true),0⟩,
 ⟨some 44,.pick (.tmp 32) (.tmp 43) (.const (.bool false)),none,0⟩] false) (.cond (.tmp 44) (.ops [⟨some 45,.move (.tmp 5),none,0⟩,
 ⟨some 46,.move (.tmp 6),none,0⟩,
 ⟨some 47,.move (.tmp 5),none,0⟩,
 ⟨some 48,.move (.tmp 6),none,0⟩,
 ⟨some 49,.iaddr 1 (.tmp 47) (.tmp 48),none,12⟩,
 ⟨some 50,.load1 (.tmp 49),none,28⟩,
 ⟨some 51,.faddr 1 (.tmp 2),none,0⟩,
 ⟨some 52,.load1 (.tmp 51),none,64⟩,
 ⟨some 53,.move (.tmp 6),none,0⟩,
 ⟨some 54,.iaddr 1 (.tmp 52) (.tmp 53),none,448⟩,
 ⟨some 55,.load1 (.tmp 54),none,960⟩,
 ⟨some 56,.move (.tmp 7),none,0⟩,
 ⟨some 57,.iaddr 1 (.tmp 55) (.tmp 56),none,4032⟩,
 ⟨some 58,.load1 (.tmp 57),none,8128⟩,
 ⟨some 59,.bslice 1 1 [(.tmp 58)],none,16320⟩,
 ⟨some 60,.append 1 8 (.tmp 50) (.tmp 59),none,32764⟩,
 ⟨some 61,.iaddr 1 (.tmp 45) (.tmp 46),none,65535⟩,
 ⟨none,.store 1 (.tmp 61) (.tmp 60),none,131071⟩] true) (.skip)))) (.ops [⟨some 26,.move (.tmp 7),none,0⟩,
 ⟨some 27,.bin .add (.tmp 26) (.const (.int .i64 1)),none,0⟩,
 ⟨some 7,.move (.tmp 27),none,0⟩] false))
def c34_1 : PC := .seq (.seq (.ops [⟨some 12,.move (.tmp 6),none,0⟩,
 ⟨some 13,.move (.tmp 5),none,0⟩,
 ⟨some 14,.len (.tmp 13),none,0⟩,
 ⟨some 15,.bin .lss (.tmp 12) (.tmp 14),none,0⟩] false) (.cond (.tmp 15) (.skip) (.exit 0))) (.seq (.block 1 (.seq (.ops [⟨some 7,.move (.const (.int .i64 0)),none,0⟩] false) (.block 2 (.loop c34_2)))) (.ops [⟨some 16,.move (.tmp 6),none,0⟩,
 ⟨some 17,.bin .add (.tmp 16) (.const (.int .i64 1)),none,0⟩,
 ⟨some 6,.move (.tmp 17),none,0⟩] false))
def c34 : PC := .seq (.ops [⟨some 2,.box (.tmp 0),none,0⟩,
 ⟨some 4,.move (.const (.slice none 0 0)),none,0⟩] false) (.seq (.ops [⟨some 8,.faddr 1 (.tmp 2),none,0⟩,
 ⟨some 9,.load1 (.tmp 8),none,0⟩,
 ⟨some 10,.len (.tmp 9),none,0⟩,
 ⟨some 11,.mslice 1 24 [(.slice none 0 0)] (.tmp 10) (.tmp 10),none,0⟩,
 ⟨some 5,.move (.tmp 11),none,0⟩] false) (.seq (.seq (.ops [⟨some 6,.move (.const (.int .i64 0)),none,0⟩] false) (.stop (.block 0 (.loop c34_1)))) (.seq (.ops [⟨some 62,.move (.tmp 5),none,0⟩,
 ⟨some 63,.loadA 4 (.tmp 2),none,0⟩,
 ⟨some 64,.call 89 [(.tmp 63)],none,0⟩,
 ⟨some 65,.call 88 [(.tmp 62), (.tmp 64)],none,0⟩,
 ⟨some 4,.move (.tmp 65),none,0⟩] false) (.ret))))
set_option maxRecDepth 100000 in
theorem c34_ok : FunOK Try.prog 34 66 [.tmp 4] c34 := ⟨⟨Try.f34, Try.func34, rfl, by kernel_rfl, rfl, by kernel_rfl⟩⟩
set_option maxRecDepth 100000 in
theorem ref_Fair (W : WorldD) (hW : W.Fits) (hc : W.chk = 0) (z : Nat → Bool) : PCall Try.prog 34 [dworld W, dbl W.next.length z] (dbl W.next.length (fwB (resG W.next z) (W.fair.map setB))) := by
  obtain ⟨_, h600, h80, _, hnx, hfr⟩ := chk_label W hc
  have hin0 : ∀ l ∈ W.next, inB l W.next.length = true := fun l hl => (hnx l hl).2
  have hFN : FitsG W.next := ⟨hW.next, hW.nextEach⟩
  have hrow := fun k => inB_row hin0 k
  have hSe := ref_sets W hW hc
  refine pcall_intro c34_ok (by simp) (by simp [PureL, pure_dworld, pure_dbl]) ?_ (pure_dbl _ _)
  unfold dworld at *
  (apply rd_sound; focus (repeat' constructor))
  ((conv=>whnf);repeat(refine .intro rfl ?_;conv=>whnf))
  rw [List.length_map]
  refine ⟨by omega, by omega, by omega, ?_⟩
  rw [Int.toNat_natCast]
  ((conv=>whnf);repeat(refine .intro rfl ?_;conv=>whnf))
  refine pwp_cut (fun _ : Unit => [(1, dbl W.next.length z), (2, .loc 0 0), (5, .own 1 0 0 W.next.length)]) (fun _ => [.row true W.cells, .vec true 0 1 ((resG W.next z).map fun l => [dints l])]) (fun _ => True) ?_ ?_
  · (apply rd_sound; focus (repeat' constructor))
    ((conv=>whnf);repeat(refine .intro rfl ?_;conv=>whnf))
    refine pwp_ghostB (leB_nils 1 1 W.next.length 0 (by simp) rfl) ?_
    refine pwp_forH [1, 2, 5] (fun k : Nat => [(6, .sc (.int .i64 k))]) (fun k => .row true W.cells :: .vec true 0 1 (ogRows 2 (curL W.next.length (fun v => rowT W.next z v (W.next.getD v []).length) k [])) :: ogObjs 1 ncell (curL W.next.length (fun v => rowT W.next z v (W.next.getD v []).length) k [])) (fun k => k ≤ W.next.length) (fun k => W.next.length - k) 0 ?_
    ((conv=>whnf);repeat(refine .intro rfl ?_;conv=>whnf))
    refine ⟨by omega, by (repeat' (first | exact trivial | refine And.intro rfl ?_)), ?_, ?_⟩
    · rw [curL_zero]
      show _ :: _ :: _ = _ :: _ :: _
      rw [ogObjs_nils 1 _ ncell]
      exact congrArg (fun x => AObj.row true W.cells :: AObj.vec true 0 1 x :: _) (ogRows_nils (α := Int) 2 _)
    rintro k hk
    ((conv=>whnf);repeat(refine .intro rfl ?_;conv=>whnf))
    (apply rd_sound; focus (repeat' constructor))
    ((conv=>whnf);repeat(refine .intro rfl ?_;conv=>whnf))
    (refine ifK_split (fun q0 => ?_) (fun q0 => ?_) <;> (rw [q0]; ((conv=>whnf);repeat(refine .intro rfl ?_;conv=>whnf))))
    · have q0 : k < W.next.length := by ((try simp only[oo,reduceCtorEq]at*)<;>omega)
      have hgF := hFN.at k
      refine pwp_forH [1, 2, 5, 6] (fun j : Nat => [(7, .sc (.int .i64 j))]) (fun j => .row true W.cells :: .vec true 0 1 (ogRows 2 (curL W.next.length (fun v => rowT W.next z v (W.next.getD v []).length) k (rowT W.next z k j))) :: ogObjs 1 ncell (curL W.next.length (fun v => rowT W.next z v (W.next.getD v []).length) k (rowT W.next z k j)))
        (fun j => j ≤ (W.next.getD k []).length) (fun j => (W.next.getD k []).length - j) 0 ?_
      ((conv=>whnf);repeat(refine .intro rfl ?_;conv=>whnf))
      refine ⟨by omega, by (repeat' (first | exact trivial | refine And.intro rfl ?_)), by rw [show rowT W.next z k 0 = [] by unfold rowT; split <;> simp], ?_⟩
      rintro j hj
      ((conv=>whnf);repeat(refine .intro rfl ?_;conv=>whnf))
      (apply rd_sound; focus (repeat' constructor))
      ((conv=>whnf);repeat(refine .intro rfl ?_;conv=>whnf))
      refine ⟨by omega, _, gridD_at (g := W.next) (k := k) (by omega) q0, ?_⟩
      ((conv=>whnf);repeat(refine .intro rfl ?_;conv=>whnf))
      rw [List.length_map]
      (refine ifK_split (fun q1 => ?_) (fun q1 => ?_) <;> (rw [q1]; ((conv=>whnf);repeat(refine .intro rfl ?_;conv=>whnf))))
      · have q1 : j < (W.next.getD k []).length := by ((try simp only[oo,reduceCtorEq]at*)<;>omega)
        have eS := rowT_succ (z := z) q1
        have hx := inB_mem (hrow k) (mem_getD q1)
        have hrl := rowT_len W.next z k j
        have hxat : ∀ z', z' = j → ((W.next.getD k []).map fun n => [D.sc (.int .i64 n)])[z']? = some [.sc (.int .i64 ((W.next.getD k []).getD j 0))] := fun z' hz => intsD_at (l := W.next.getD k []) hz q1
        refine ⟨by omega, _, rbl_atN k (by omega) q0, ?_⟩
        generalize hxe : (W.next.getD k []).getD j 0 = x at *
        have same : (z k = true ∧ z x.toNat = true → False) → rowT W.next z k (j + 1) = rowT W.next z k j := fun h => by rw [eS, if_neg h]
        cases zk : z k
        · ((conv=>whnf);repeat(refine .intro rfl ?_;conv=>whnf))
          (refine .inl ⟨by (unfold InR; rw [IntKind.wrap_i64]; omega), ?_⟩; ((conv=>whnf);repeat(refine .intro rfl ?_;conv=>whnf)))
          refine ⟨j + 1, by omega, by dsimp only; omega, leB_envH (by (repeat' (first | exact trivial | refine And.intro rfl ?_))) ?_⟩
          dsimp only
          rw [same fun q => by rw [zk] at q; cases q.1]
        · ((conv=>whnf);repeat(refine .intro rfl ?_;conv=>whnf))
          refine ⟨by omega, _, gridD_at (g := W.next) (k := k) (by omega) q0, ?_⟩
          ((conv=>whnf);repeat(refine .intro rfl ?_;conv=>whnf))
          refine ⟨by omega, _, hxat _ (by omega), ?_⟩
          ((conv=>whnf);repeat(refine .intro rfl ?_;conv=>whnf))
          refine ⟨by omega, _, rbl_atN x.toNat (by omega) (by omega), ?_⟩
          cases zx : z x.toNat
          · ((conv=>whnf);repeat(refine .intro rfl ?_;conv=>whnf))
            (refine .inl ⟨by (unfold InR; rw [IntKind.wrap_i64]; omega), ?_⟩; ((conv=>whnf);repeat(refine .intro rfl ?_;conv=>whnf)))
            refine ⟨j + 1, by omega, by dsimp only; omega, leB_envH (by (repeat' (first | exact trivial | refine And.intro rfl ?_))) ?_⟩
            dsimp only
            rw [same fun q => by rw [zx] at q; cases q.2]
          · rw [if_pos ⟨zk, zx⟩] at eS
            have hset : (curL W.next.length (fun v => rowT W.next z v (W.next.getD v []).length) k (rowT W.next z k j)).set k (rowT W.next z k j ++ [x]) = curL W.next.length (fun v => rowT W.next z v (W.next.getD v []).length) k (rowT W.next z k (j + 1)) := by rw [curL_set q0, ← eS]
            have hlen : (curL W.next.length (fun v => rowT W.next z v (W.next.getD v []).length) k (rowT W.next z k j)).length = W.next.length := curL_len ..
            have hgk : (curL W.next.length (fun v => rowT W.next z v (W.next.getD v []).length) k (rowT W.next z k j)).getD k [] = rowT W.next z k j := curL_at q0
            ((conv=>whnf);repeat(refine .intro rfl ?_;conv=>whnf))
            generalize curL W.next.length (fun v => rowT W.next z v (W.next.getD v []).length) k (rowT W.next z k j) = R at *
            (refine ⟨by omega, (by first | omega | (simp; done) | (simp; omega) | (simp only [ll]; omega)), ?_⟩; ((conv=>whnf);repeat(refine .intro rfl ?_;conv=>whnf)))
            refine ⟨_, ogRows_at (i := k) (by omega) (by omega), ?_⟩
            ((conv=>whnf);repeat(refine .intro rfl ?_;conv=>whnf))
            refine ⟨by omega, _, gridD_at (g := W.next) (k := k) (by omega) q0, ?_⟩
            ((conv=>whnf);repeat(refine .intro rfl ?_;conv=>whnf))
            refine ⟨by omega, _, hxat _ (by omega), ?_⟩
            ((conv=>whnf);repeat(refine .intro rfl ?_;conv=>whnf))
            refine og_push ?_
            ((conv=>whnf);repeat(refine .intro rfl ?_;conv=>whnf))
            (repeat (first | (refine og_getE 0 rfl ?_; ((conv=>whnf);repeat(refine .intro rfl ?_;conv=>whnf))) | (refine og_putE 0 rfl ?_; ((conv=>whnf);repeat(refine .intro rfl ?_;conv=>whnf))) | (refine og_getE 1 rfl ?_; ((conv=>whnf);repeat(refine .intro rfl ?_;conv=>whnf))) | (refine og_putE 1 rfl ?_; ((conv=>whnf);repeat(refine .intro rfl ?_;conv=>whnf)))))
            refine og_getT (by omega) ?_
            ((conv=>whnf);repeat(refine .intro rfl ?_;conv=>whnf))
            rw [hgk]
            refine ⟨by unfold sliceAppend; simp only [List.length_drop, List.length_take, List.length_cons, List.length_nil]; omega, ?_⟩
            ((conv=>whnf);repeat(refine .intro rfl ?_;conv=>whnf))
            refine og_putT (rowT W.next z k j ++ [x]) (by omega) ?_ ?_
            · exact og_app
            ((conv=>whnf);repeat(refine .intro rfl ?_;conv=>whnf))
            (refine ⟨by omega, (by first | omega | (simp; done) | (simp; omega) | (simp only [ll]; omega)), ?_⟩; ((conv=>whnf);repeat(refine .intro rfl ?_;conv=>whnf)))
            refine ⟨_, ogRows_at (i := k) (by omega) (by omega), ?_⟩
            ((conv=>whnf);repeat(refine .intro rfl ?_;conv=>whnf))
            (refine .inl ⟨by (unfold InR; rw [IntKind.wrap_i64]; omega), ?_⟩; ((conv=>whnf);repeat(refine .intro rfl ?_;conv=>whnf)))
            refine ⟨j + 1, by omega, by dsimp only; omega, ?_⟩
            dsimp only
            rw [hset]
            refine leB_close (W.next.length + 2) (by simp) (by simp) (by (repeat' (first | exact trivial | exact rfl | exact DeepM.refl _ | exact DeepML.refl _ | exact DeepMLL.refl _ | refine And.intro ?_ ?_ | (simp [Under, UnderL, UnderLL, -List.map_take, -List.map_drop]; done)))) ⟨⟨rfl, .refl _, underL_pure _ (pure_wocells W)⟩, ⟨rfl, rfl, rfl, deepMLL_eq ?_, underLL_ogRows (by simp; omega)⟩, closeH_og under_ncell⟩
            exact (ogRows_set (by omega) (by omega) (rowT W.next z k j ++ [x]) (by simp)).trans (by rw [hset])
      · have q1 : j = (W.next.getD k []).length := by have : ¬ j < (W.next.getD k []).length := by ((try simp only[oo,reduceCtorEq]at*)<;>omega)
                                                      omega
        subst q1
        rw [show curL W.next.length (fun v => rowT W.next z v (W.next.getD v []).length) k (rowT W.next z k (W.next.getD k []).length) = curL W.next.length (fun v => rowT W.next z v (W.next.getD v []).length) (k + 1) [] from curL_next]
        (refine .inl ⟨by (unfold InR; rw [IntKind.wrap_i64]; omega), ?_⟩; ((conv=>whnf);repeat(refine .intro rfl ?_;conv=>whnf)))
        exact ⟨k + 1, by omega, by dsimp only; omega, leB_envH (by (repeat' (first | exact trivial | refine And.intro rfl ?_))) rfl⟩
    · have q0 : k = W.next.length := by have : ¬ k < W.next.length := by ((try simp only[oo,reduceCtorEq]at*)<;>omega)
                                        omega
      subst q0
      rw [curL_done, rowT_all]
      refine ⟨(), trivial, leB_close 2 (by simp) rfl (by (repeat' (first | exact trivial | exact rfl | exact DeepM.refl _ | exact DeepML.refl _ | exact DeepMLL.refl _ | refine And.intro ?_ ?_ | (simp [Under, UnderL, UnderLL, -List.map_take, -List.map_drop]; done)))) ⟨⟨rfl, .refl _, underL_pure _ (pure_wocells W)⟩, ⟨rfl, rfl, rfl, deepM_ogRows (c := ncell) (fun i hi => by simp [fromN]) (fun i hi => ?_), underLL_pure _ (pure_gridV _)⟩, closeH_nil _⟩⟩
      show (ogObjs 1 ncell (resG W.next z))[i]? = _
      exact ogObjs_at hi
  intro _ _
  have g1 := resG_in hin0 z
  have g2 := resG_fits hFN z
  have hl := resG_len W.next z
  have hWa := ref_WaysG (resG W.next z) (by omega) g1 g2 (W.fair.map setB) (by rw [List.length_map]; omega)
  have cut := gridV_cut (L := resG W.next z) hl.symm
  rw [← cut, hl] at hWa
  ((conv=>whnf);repeat(refine .intro rfl ?_;conv=>whnf))
  (refine .inl ⟨_, hSe, ?_⟩; ((conv=>whnf);repeat(refine .intro rfl ?_;conv=>whnf)))
  (refine .inr (.inr (.inr (.inr (.inl ⟨_, _, _, (acallAt_frz1 (pre := []) (post := [_]) hWa (pure_dbl _ _) trivial ⟨pure_dbls _ _, trivial⟩ (pure_gridV _) rfl), ?_⟩)))); ((conv=>whnf);repeat(refine .intro rfl ?_;conv=>whnf)))
  exact .refl _
end Go.Proofs.Ytfgklgjbnpjpoaa
