/-
  Worlds and paths over deep values: what is wrong with one. No statement is proved here.
-/
import Derived.Test.YtfaekhadjlgbbaaQWo0
import Derived.Test.YtfaekhadjlgbbaaQLas
namespace Go.Proofs.Ytfaekhadjlgbbaa
open Go.RowKit
set_option linter.unusedSimpArgs false
set_option linter.unusedVariables false
structure WorldD where
  start : List Int
  next : List (List Int)
  label : List Int
  fair : List (List Int)
def WorldD.cells (W : WorldD) : List D := [dints W.start, dgrid W.next, dlet W.label, dgrid W.fair]
def dworld (W : WorldD) : D := .agg W.cells
theorem pure_wocells (W : WorldD) : PureL W.cells := by simp [WorldD.cells, PureL, pure_dints, pure_dgrid, pure_dlet]
theorem pure_dworld (W : WorldD) : Pure (dworld W) := by simp [dworld, Pure, pure_wocells]
/-- No list that is too long to be counted. -/
structure WorldD.Fits (W : WorldD) : Prop where
  start : W.start.length ≤ 17592186043904
  next : W.next.length ≤ 17592186043904
  label : W.label.length ≤ 17592186043904
  fair : W.fair.length ≤ 17592186043904
  nextEach : ∀ l ∈ W.next, l.length ≤ 17592186043904
  fairEach : ∀ l ∈ W.fair, l.length ≤ 17592186043904
/-- What is wrong with a world. -/
def WorldD.chk (W : WorldD) : Int :=
  if 600 < W.next.length ∨ 80 < W.fair.length then 2
  else if W.label.length ≠ W.next.length ∨ inB W.start W.next.length = false then 1
  else if (W.next.any fun l => l.isEmpty || !(inB l W.next.length)) = true then 1
  else if (W.fair.any fun l => !(inB l W.next.length)) = true then 1
  else 0
def c128 : PC := .seq (.ops [⟨some 3,.move (.const (.bool false)),none,0⟩] false) (.seq (.ops [⟨some 4,.move (.tmp 0),none,0⟩,
 ⟨some 5,.bin .lss (.tmp 4) (.const (.int .i64 0)),none,0⟩,
 ⟨some 6,.move (.tmp 5),none,0⟩,
 ⟨some 7,.move (.tmp 0),some (6,false),0⟩,
 ⟨some 8,.load1 (.tmp 1),some (6,false),0⟩,
 ⟨some 9,.bin .geq (.tmp 7) (.tmp 8),some (6,false),0⟩,
 ⟨some 10,.pick (.tmp 6) (.const (.bool true)) (.tmp 9),none,0⟩,
 ⟨some 3,.move (.tmp 10),none,0⟩] false) (.ret))
set_option maxRecDepth 100000 in
theorem c128_ok : FunOK Try.prog 128 11 [.tmp 3] c128 := ⟨⟨Try.f128, Try.func128, rfl, by kernel_rfl, rfl, by kernel_rfl⟩⟩
def c102 : PC := .seq (.ops [⟨some 3,.box (.tmp 1),none,0⟩,
 ⟨some 4,.move (.const (.bool false)),none,0⟩] false) (.seq (.ops [⟨some 5,.move (.tmp 0),none,0⟩,
 ⟨some 6,.mkfn (.func 128) [] [(.tmp 3)],none,0⟩,
 ⟨some 7,.call 93 [(.tmp 5), (.tmp 6)],none,0⟩,
 ⟨some 4,.move (.tmp 7),none,0⟩] false) (.ret))
set_option maxRecDepth 100000 in
theorem c102_ok : FunOK Try.prog 102 8 [.tmp 4] c102 := ⟨⟨Try.f102, Try.func102, rfl, by kernel_rfl, rfl, by kernel_rfl⟩⟩
def c103 : PC := .seq (.ops [⟨some 3,.move (.const (.bool false)),none,0⟩] false) (.seq (.ops [⟨some 4,.move (.tmp 0),none,0⟩,
 ⟨some 5,.load1 (.tmp 1),none,0⟩,
 ⟨some 6,.call 102 [(.tmp 4), (.tmp 5)],none,0⟩,
 ⟨some 3,.move (.tmp 6),none,0⟩] false) (.ret))
set_option maxRecDepth 100000 in
theorem c103_ok : FunOK Try.prog 103 7 [.tmp 3] c103 := ⟨⟨Try.f103, Try.func103, rfl, by kernel_rfl, rfl, by kernel_rfl⟩⟩
def c54_1 : PC := .seq (.ops [⟨some 32,.bin .lss (.tmp 31) (.tmp 30),none,0⟩] false) (.seq (.cond (.tmp 32) (.skip) (.exit 0)) (.seq (.block 1 (.seq (.ops [⟨some 33,.iaddr 1 (.tmp 29) (.tmp 31),none,0⟩,
 ⟨some 34,.load1 (.tmp 33),none,0⟩,
 ⟨some 5,.move (.tmp 34),none,0⟩] false) (.seq (.ops [⟨some 35,.move (.tmp 5),none,0⟩,
 ⟨some 36,.len (.tmp 35),none,0⟩,
 ⟨some 37,.bin .eql (.tmp 36) (.const (.int .i64 0)),none,0⟩,
 ⟨some 38,.move (.tmp 37),none,0⟩,
 ⟨some 39,.move (.tmp 5),some (38,false),0⟩,
 ⟨some 40,.load1 (.tmp 3),some (38,false),0⟩,
 ⟨some 41,.call 102 [(.tmp 39), (.tmp 40)],some (38,false),0⟩,
 ⟨some 42,.pick (.tmp 38) (.const (.bool true)) (.tmp 41),none,0⟩] false) (.cond (.tmp 42) (.seq (.ops [⟨some 2,.move (.const (.int .i64 1)),none,0⟩] false) (.ret)) (.skip))))) (.ops [⟨some 43,.bin .add (.tmp 31) (.const (.int .i64 1)),none,0⟩,
 ⟨some 31,.move (.tmp 43),none,0⟩] false)))
def c54 : PC := .seq (.ops [⟨some 1,.box (.tmp 0),none,0⟩,
 ⟨some 2,.move (.const (.int .i64 0)),none,0⟩] false) (.seq (.ops [⟨some 6,.faddr 1 (.tmp 1),none,0⟩,
 ⟨some 7,.load1 (.tmp 6),none,0⟩,
 ⟨some 8,.len (.tmp 7),none,0⟩,
 ⟨some 3,.alloc [(.int .i64 0)],none,0⟩,
 ⟨none,.store 1 (.tmp 3) (.tmp 8),none,0⟩] false) (.seq (.seq (.ops [⟨some 9,.load1 (.tmp 3),none,0⟩,
 ⟨some 10,.bin .gtr (.tmp 9) (.const (.int .i64 600)),none,0⟩,
 ⟨some 11,.move (.tmp 10),none,0⟩,
 ⟨some 12,.faddr 3 (.tmp 1),some (11,false),0⟩,
 ⟨some 13,.load1 (.tmp 12),some (11,false),0⟩,
 ⟨some 14,.len (.tmp 13),some (11,false),0⟩,
 ⟨some 15,.bin .gtr (.tmp 14) (.const (.int .i64 80)),some (11,false),0⟩,
 ⟨some 16,.pick (.tmp 11) (.const (.bool true)) (.tmp 15),none,0⟩] false) (.cond (.tmp 16) (.seq (.ops [⟨some 2,.move (.const (.int .i64 2)),none,0⟩] false) (.ret)) (.skip))) (.seq (.seq (.ops [⟨some 17,.faddr 2 (.tmp 1),none,0⟩,
 ⟨some 18,.load1 (.tmp 17),none,0⟩,
 ⟨some 19,.len (.tmp 18),none,0⟩,
 ⟨some 20,.load1 (.tmp 3),none,0⟩,
 ⟨some 21,.bin .neq (.tmp 19) (.tmp 20),none,0⟩,
 ⟨some 22,.move (.tmp 21),none,0⟩,
 ⟨some 23,.faddr 0 (.tmp 1),some (22,false),0⟩,
 ⟨some 24,.load1 (.tmp 23),some (22,false),0⟩,
 ⟨some 25,.load1 (.tmp 3),some (22,false),0⟩,
 ⟨some 26,.call 102 [(.tmp 24), (.tmp 25)],some (22,false),0⟩,
 ⟨some 27,.pick (.tmp 22) (.const (.bool true)) (.tmp 26),none,0⟩] false) (.cond (.tmp 27) (.seq (.ops [⟨some 2,.move (.const (.int .i64 1)),none,0⟩] false) (.ret)) (.skip))) (.seq (.seq (.ops [⟨some 28,.faddr 1 (.tmp 1),none,0⟩,
 ⟨some 29,.load1 (.tmp 28),none,0⟩,
 ⟨some 30,.len (.tmp 29),none,0⟩,
 ⟨some 31,.move (.const (.int .i64 0)),none,0⟩] false) (.block 0 (.loop c54_1))) (.seq (.seq (.ops [⟨some 44,.faddr 3 (.tmp 1),none,0⟩,
 ⟨some 45,.load1 (.tmp 44),none,0⟩,
 ⟨some 46,.mkfn (.func 103) [] [(.tmp 3)],none,0⟩,
 ⟨some 47,.call 30 [(.tmp 45), (.tmp 46)],none,0⟩] false) (.cond (.tmp 47) (.seq (.ops [⟨some 2,.move (.const (.int .i64 1)),none,0⟩] false) (.ret)) (.skip))) (.seq (.ops [⟨some 2,.move (.const (.int .i64 0)),none,0⟩] false) (.ret)))))))
set_option maxRecDepth 100000 in
theorem c54_ok : FunOK Try.prog 54 48 [.tmp 2] c54 := ⟨⟨Try.f54, Try.func54, rfl, by kernel_rfl, rfl, by kernel_rfl⟩⟩
theorem wo_odd1 (x : Int) (n : Nat) : PCall Try.prog 128 [.sc (.int .i64 x), .ipt [.sc (.int .i64 n)]] (.sc (.bool (decide (x < 0) || decide (x ≥ (n : Int))))) := by
  refine pcall_intro c128_ok (by simp) (by simp [PureL, Pure]) ?_ (by simp [Pure])
  (apply rd_sound; focus (repeat' constructor))
  ((conv=>whnf);repeat(refine .intro rfl ?_;conv=>whnf))
  (refine ifK_split (fun h => ?_) (fun h => ?_) <;> (rw [h]; ((conv=>whnf);repeat(refine .intro rfl ?_;conv=>whnf))))
  · exact deep_eq (by simp)
  · exact deep_eq (by simp)
theorem wo_odd (l : List Int) (hl : l.length ≤ 9223372036854775807) (n : Nat) : PCall Try.prog 102 [dints l, .sc (.int .i64 n)] (.sc (.bool !(inB l n))) := by
  refine pcall_intro c102_ok (by simp) (by simp [PureL, Pure, pure_dints]) ?_ (by simp [Pure])
  (apply rd_sound; focus (repeat' constructor))
  ((conv=>whnf);repeat(refine .intro rfl ?_;conv=>whnf))
  (refine .inr (.inl ⟨_, _, (by (repeat' (first | exact Deep.refl _ | exact Deep.none _ | exact deep_row _ | exact DeepL.nil | exact DeepLL.nil | refine Deep.agg _ _ ?_ | refine Deep.tup _ _ ?_ | refine Deep.own _ _ _ _ _ _ _ _ rfl ?_ | refine Deep.loc _ _ _ _ _ rfl ?_ | refine Deep.ifc _ _ _ ?_ | refine Deep.fn _ _ _ _ _ ?_ ?_ | refine DeepL.cons _ _ _ _ ?_ ?_ | refine DeepLL.cons _ _ _ _ ?_ ?_ | exact deepLL_refl _))), (containsF_int (fun n => .sc (.int .i64 n)) (fun a => by simp [Pure]) l hl (fun x => decide (x < 0) || decide (x ≥ (n : Int))) 128 [.ipt [.sc (.int .i64 n)]] (by simp [PureL, Pure]) fun a _ => wo_odd1 a n), rfl, ?_⟩); ((conv=>whnf);repeat(refine .intro rfl ?_;conv=>whnf)))
  rw [odd_inB]
  exact .refl _
theorem wo_Check1 (l : List Int) (hl : l.length ≤ 9223372036854775807) (n : Nat) : PCall Try.prog 103 [dints l, .ipt [.sc (.int .i64 n)]] (.sc (.bool !(inB l n))) := by
  refine pcall_intro c103_ok (by simp) (by simp [PureL, Pure, pure_dints]) ?_ (by simp [Pure])
  (apply rd_sound; focus (repeat' constructor))
  ((conv=>whnf);repeat(refine .intro rfl ?_;conv=>whnf))
  (refine .inl ⟨_, (wo_odd l hl n), ?_⟩; ((conv=>whnf);repeat(refine .intro rfl ?_;conv=>whnf)))
  exact .refl _
theorem wo_Check (W : WorldD) (hW : W.Fits) : PCall Try.prog 54 [dworld W] (.sc (.int .i64 W.chk)) := by
  have b1 := hW.start
  have b2 := hW.next
  have b3 := hW.label
  have b4 := hW.fair
  refine pcall_intro c54_ok (by simp) (by simp [PureL, Pure, pure_dworld]) ?_ (by simp [Pure])
  (apply rd_sound; focus (repeat' constructor))
  ((conv=>whnf);repeat(refine .intro rfl ?_;conv=>whnf))
  rw [List.length_map]
  have fin : ∀ {H : List AObj} {z : Int}, z = W.chk → Deep H (.sc (.int .i64 z)) (.sc (.int .i64 W.chk)) := fun h => h ▸ .refl _
  (refine ifK_split (fun h1 => ?_) (fun h1 => ?_) <;> (rw [h1]; ((conv=>whnf);repeat(refine .intro rfl ?_;conv=>whnf))))
  · exact fin (by unfold WorldD.chk; rw [if_pos (by ((try simp only[oo,reduceCtorEq]at*)<;>omega))])
  rw [List.length_map]
  (refine ifK_split (fun h2 => ?_) (fun h2 => ?_) <;> (rw [h2]; ((conv=>whnf);repeat(refine .intro rfl ?_;conv=>whnf))))
  · exact fin (by unfold WorldD.chk; rw [if_pos (by ((try simp only[oo,reduceCtorEq]at*)<;>omega))])
  have c1 : ¬ (600 < W.next.length ∨ 80 < W.fair.length) := by ((try simp only[oo,reduceCtorEq]at*)<;>omega)
  rw [List.length_map]
  (refine ifK_split (fun h3 => ?_) (fun h3 => ?_) <;> (rw [h3]; ((conv=>whnf);repeat(refine .intro rfl ?_;conv=>whnf))))
  · exact fin (by unfold WorldD.chk; rw [if_neg c1, if_pos (by ((try simp only[oo,reduceCtorEq]at*)<;>omega))])
  (refine .inl ⟨_, (wo_odd W.start (by omega) W.next.length), ?_⟩; ((conv=>whnf);repeat(refine .intro rfl ?_;conv=>whnf)))
  (refine ifK_split (fun h4 => ?_) (fun h4 => ?_) <;> (rw [h4]; ((conv=>whnf);repeat(refine .intro rfl ?_;conv=>whnf))))
  · exact fin (by unfold WorldD.chk; rw [if_neg c1, if_pos (.inr (by simpa using h4))])
  have c2 : ¬ (W.label.length ≠ W.next.length ∨ inB W.start W.next.length = false) := by
    rintro (q | q)
    · ((try simp only[oo,reduceCtorEq]at*)<;>omega)
    · rw [q] at h4; cases h4
  refine pwp_for [1, 3, 29, 30] (fun k : Nat => [(31, .sc (.int .i64 k))]) (fun _ => []) (fun k => k ≤ W.next.length ∧ ∀ j (hj : j < k) (hl : j < W.next.length), (W.next[j].isEmpty || !(inB W.next[j] W.next.length)) = false) (fun k => W.next.length - k) 0 ?_
  ((conv=>whnf);repeat(refine .intro rfl ?_;conv=>whnf))
  refine ⟨⟨by omega, fun j hj => by omega⟩, by (repeat' (first | exact trivial | refine And.intro rfl ?_)), rfl, ?_⟩
  rintro k ⟨hk, hall⟩
  ((conv=>whnf);repeat(refine .intro rfl ?_;conv=>whnf))
  (apply rd_sound; focus (repeat' constructor))
  ((conv=>whnf);repeat(refine .intro rfl ?_;conv=>whnf))
  (refine ifK_split (fun g => ?_) (fun g => ?_) <;> (rw [g]; ((conv=>whnf);repeat(refine .intro rfl ?_;conv=>whnf))))
  · have hk' : k < W.next.length := by ((try simp only[oo,reduceCtorEq]at*)<;>omega)
    refine ⟨by omega, _, grid_at (k := k) (by omega) hk', ?_⟩
    ((conv=>whnf);repeat(refine .intro rfl ?_;conv=>whnf))
    rw [List.length_map]
    have bk := hW.nextEach _ (List.getElem_mem hk')
    (refine ifK_split (fun g1 => ?_) (fun g1 => ?_) <;> (rw [g1]; ((conv=>whnf);repeat(refine .intro rfl ?_;conv=>whnf))))
    · have e1 : (W.next[k]).isEmpty = true := by rw [List.isEmpty_iff_length_eq_zero]; ((try simp only[oo,reduceCtorEq]at*)<;>omega)
      exact fin (by unfold WorldD.chk; rw [if_neg c1, if_neg c2, if_pos (any_yes hk' (by rw [e1]; rfl))])
    have e1 : (W.next[k]).isEmpty = false := by rw [← Bool.not_eq_true, List.isEmpty_iff_length_eq_zero]; ((try simp only[oo,reduceCtorEq]at*)<;>omega)
    (refine .inl ⟨_, (wo_odd W.next[k] (by omega) W.next.length), ?_⟩; ((conv=>whnf);repeat(refine .intro rfl ?_;conv=>whnf)))
    (refine ifK_split (fun g2 => ?_) (fun g2 => ?_) <;> (rw [g2]; ((conv=>whnf);repeat(refine .intro rfl ?_;conv=>whnf))))
    · exact fin (by unfold WorldD.chk; rw [if_neg c1, if_neg c2, if_pos (any_yes hk' (by rw [g2, e1]; rfl))])
    · (refine .inl ⟨by (unfold InR; rw [IntKind.wrap_i64]; omega), ?_⟩; ((conv=>whnf);repeat(refine .intro rfl ?_;conv=>whnf)))
      refine ⟨k + 1, ⟨by omega, fun j hj hl => ?_⟩, by dsimp only; omega, leB_envH (by (repeat' (first | exact trivial | refine And.intro rfl ?_))) rfl⟩
      by_cases e : j = k
      · subst e; rw [e1, g2]; rfl
      · exact hall j (by omega) hl
  · have hk' : ¬ k < W.next.length := by ((try simp only[oo,reduceCtorEq]at*)<;>omega)
    have c3 : ¬ (W.next.any fun l => l.isEmpty || !(inB l W.next.length)) = true := by rw [any_no fun j hj => hall j (by omega) hj]; simp
    (refine .inr (.inl ⟨_, _, (by (repeat' (first | exact Deep.refl _ | exact Deep.none _ | exact deep_row _ | exact DeepL.nil | exact DeepLL.nil | refine Deep.agg _ _ ?_ | refine Deep.tup _ _ ?_ | refine Deep.own _ _ _ _ _ _ _ _ rfl ?_ | refine Deep.loc _ _ _ _ _ rfl ?_ | refine Deep.ifc _ _ _ ?_ | refine Deep.fn _ _ _ _ _ ?_ ?_ | refine DeepL.cons _ _ _ _ ?_ ?_ | refine DeepLL.cons _ _ _ _ ?_ ?_ | exact deepLL_refl _))), (containsF_grid dints pure_dints W.fair (by omega) (fun l => !(inB l W.next.length)) 103 [.ipt [.sc (.int .i64 W.next.length)]] (by simp [PureL, Pure]) fun a ha => wo_Check1 a (by have := hW.fairEach a ha; omega) _), rfl, ?_⟩); ((conv=>whnf);repeat(refine .intro rfl ?_;conv=>whnf)))
    (refine ifK_split (fun g3 => ?_) (fun g3 => ?_) <;> (rw [g3]; ((conv=>whnf);repeat(refine .intro rfl ?_;conv=>whnf))))
    · exact fin (by unfold WorldD.chk; rw [if_neg c1, if_neg c2, if_neg c3, if_pos g3])
    · exact fin (by unfold WorldD.chk; rw [if_neg c1, if_neg c2, if_neg c3, if_neg (by rw [g3]; simp)])
def c19_1 : PC := .seq (.seq (.ops [⟨some 29,.move (.tmp 4),none,0⟩,
 ⟨some 30,.move (.tmp 3),none,0⟩,
 ⟨some 31,.bin .lss (.tmp 29) (.tmp 30),none,0⟩] false) (.cond (.tmp 31) (.skip) (.exit 0))) (.seq (.block 1 (.seq (.ops [⟨some 34,.faddr 1 (.tmp 1),none,0⟩,
 ⟨some 35,.load1 (.tmp 34),none,0⟩,
 ⟨some 36,.move (.tmp 4),none,0⟩,
 ⟨some 37,.iaddr 1 (.tmp 35) (.tmp 36),none,0⟩,
 ⟨some 38,.load1 (.tmp 37),none,0⟩,
 ⟨some 39,.len (.tmp 38),none,0⟩,
 ⟨some 40,.bin .eql (.tmp 39) (.const (.int .i64 0)),none,0⟩,
 ⟨some 41,.move (.tmp 40),none,0⟩,
 ⟨some 42,.faddr 1 (.tmp 1),some (41,false),0⟩,
 ⟨some 43,.load1 (.tmp 42),some (41,false),0⟩,
 ⟨some 44,.move (.tmp 4),some (41,false),0⟩,
 ⟨some 45,.iaddr 1 (.tmp 43) (.tmp 44),some (41,false),0⟩,
 ⟨some 46,.load1 (.tmp 45),some (41,false),0⟩,
 ⟨some 47,.move (.tmp 3),some (41,false),0⟩,
 ⟨some 48,.call 25 [(.tmp 46), (.tmp 47)],some (41,false),0⟩,
 ⟨some 49,.un .not (.tmp 48),some (41,false),0⟩,
 ⟨some 50,.pick (.tmp 41) (.const (.bool true)) (.tmp 49),none,0⟩] false) (.cond (.tmp 50) (.seq (.ops [⟨some 2,.move (.const (.int .i64 1)),none,0⟩] false) (.ret)) (.skip)))) (.ops [⟨some 32,.move (.tmp 4),none,0⟩,
 ⟨some 33,.bin .add (.tmp 32) (.const (.int .i64 1)),none,0⟩,
 ⟨some 4,.move (.tmp 33),none,0⟩] false))
def c19_2 : PC := .seq (.seq (.ops [⟨some 51,.move (.tmp 5),none,0⟩,
 ⟨some 52,.faddr 3 (.tmp 1),none,0⟩,
 ⟨some 53,.load1 (.tmp 52),none,0⟩,
 ⟨some 54,.len (.tmp 53),none,0⟩,
 ⟨some 55,.bin .lss (.tmp 51) (.tmp 54),none,0⟩] false) (.cond (.tmp 55) (.skip) (.exit 2))) (.seq (.block 3 (.seq (.ops [⟨some 58,.faddr 3 (.tmp 1),none,0⟩,
 ⟨some 59,.load1 (.tmp 58),none,0⟩,
 ⟨some 60,.move (.tmp 5),none,0⟩,
 ⟨some 61,.iaddr 1 (.tmp 59) (.tmp 60),none,0⟩,
 ⟨some 62,.load1 (.tmp 61),none,0⟩,
 ⟨some 63,.move (.tmp 3),none,0⟩,
 ⟨some 64,.call 25 [(.tmp 62), (.tmp 63)],none,0⟩,
 ⟨some 65,.un .not (.tmp 64),none,0⟩] false) (.cond (.tmp 65) (.seq (.ops [⟨some 2,.move (.const (.int .i64 1)),none,0⟩] false) (.ret)) (.skip)))) (.ops [⟨some 56,.move (.tmp 5),none,0⟩,
 ⟨some 57,.bin .add (.tmp 56) (.const (.int .i64 1)),none,0⟩,
 ⟨some 5,.move (.tmp 57),none,0⟩] false))
def c19 : PC := .seq (.ops [⟨some 1,.box (.tmp 0),none,0⟩,
 ⟨some 2,.move (.const (.int .i64 0)),none,0⟩] false) (.seq (.ops [⟨some 6,.faddr 1 (.tmp 1),none,0⟩,
 ⟨some 7,.load1 (.tmp 6),none,0⟩,
 ⟨some 8,.len (.tmp 7),none,0⟩,
 ⟨some 3,.move (.tmp 8),none,0⟩] false) (.seq (.seq (.ops [⟨some 9,.move (.tmp 3),none,0⟩,
 ⟨some 10,.bin .gtr (.tmp 9) (.const (.int .i64 600)),none,0⟩,
 ⟨some 11,.move (.tmp 10),none,0⟩,
 ⟨some 12,.faddr 3 (.tmp 1),some (11,false),0⟩,
 ⟨some 13,.load1 (.tmp 12),some (11,false),0⟩,
 ⟨some 14,.len (.tmp 13),some (11,false),0⟩,
 ⟨some 15,.bin .gtr (.tmp 14) (.const (.int .i64 80)),some (11,false),0⟩,
 ⟨some 16,.pick (.tmp 11) (.const (.bool true)) (.tmp 15),none,0⟩] false) (.cond (.tmp 16) (.seq (.ops [⟨some 2,.move (.const (.int .i64 2)),none,0⟩] false) (.ret)) (.skip))) (.seq (.seq (.ops [⟨some 17,.faddr 2 (.tmp 1),none,0⟩,
 ⟨some 18,.load1 (.tmp 17),none,0⟩,
 ⟨some 19,.len (.tmp 18),none,0⟩,
 ⟨some 20,.move (.tmp 3),none,0⟩,
 ⟨some 21,.bin .neq (.tmp 19) (.tmp 20),none,0⟩,
 ⟨some 22,.move (.tmp 21),none,0⟩,
 ⟨some 23,.faddr 0 (.tmp 1),some (22,false),0⟩,
 ⟨some 24,.load1 (.tmp 23),some (22,false),0⟩,
 ⟨some 25,.move (.tmp 3),some (22,false),0⟩,
 ⟨some 26,.call 25 [(.tmp 24), (.tmp 25)],some (22,false),0⟩,
 ⟨some 27,.un .not (.tmp 26),some (22,false),0⟩,
 ⟨some 28,.pick (.tmp 22) (.const (.bool true)) (.tmp 27),none,0⟩] false) (.cond (.tmp 28) (.seq (.ops [⟨some 2,.move (.const (.int .i64 1)),none,0⟩] false) (.ret)) (.skip))) (.seq (.seq (.ops [⟨some 4,.move (.const (.int .i64 0)),none,0⟩] false) (.block 0 (.loop c19_1))) (.seq (.seq (.ops [⟨some 5,.move (.const (.int .i64 0)),none,0⟩] false) (.block 2 (.loop c19_2))) (.seq (.ops [⟨some 2,.move (.const (.int .i64 0)),none,0⟩] false) (.ret)))))))
set_option maxRecDepth 100000 in
theorem c19_ok : FunOK Try.prog 19 66 [.tmp 2] c19 := ⟨⟨Try.f19, Try.func19, rfl, by kernel_rfl, rfl, by kernel_rfl⟩⟩
theorem ref_World (W : WorldD) (hW : W.Fits) : PCall Try.prog 19 [dworld W] (.sc (.int .i64 W.chk)) := by
  have b1 := hW.start
  have b2 := hW.next
  have b3 := hW.label
  have b4 := hW.fair
  refine pcall_intro c19_ok (by simp) (by simp [PureL, Pure, pure_dworld]) ?_ (by simp [Pure])
  (apply rd_sound; focus (repeat' constructor))
  ((conv=>whnf);repeat(refine .intro rfl ?_;conv=>whnf))
  rw [List.length_map]
  have fin : ∀ {H : List AObj} {z : Int}, z = W.chk → Deep H (.sc (.int .i64 z)) (.sc (.int .i64 W.chk)) := fun h => h ▸ .refl _
  (refine ifK_split (fun h1 => ?_) (fun h1 => ?_) <;> (rw [h1]; ((conv=>whnf);repeat(refine .intro rfl ?_;conv=>whnf))))
  · exact fin (by unfold WorldD.chk; rw [if_pos (by ((try simp only[oo,reduceCtorEq]at*)<;>omega))])
  rw [List.length_map]
  (refine ifK_split (fun h2 => ?_) (fun h2 => ?_) <;> (rw [h2]; ((conv=>whnf);repeat(refine .intro rfl ?_;conv=>whnf))))
  · exact fin (by unfold WorldD.chk; rw [if_pos (by ((try simp only[oo,reduceCtorEq]at*)<;>omega))])
  have c1 : ¬ (600 < W.next.length ∨ 80 < W.fair.length) := by ((try simp only[oo,reduceCtorEq]at*)<;>omega)
  rw [List.length_map]
  (refine ifK_split (fun h3 => ?_) (fun h3 => ?_) <;> (rw [h3]; ((conv=>whnf);repeat(refine .intro rfl ?_;conv=>whnf))))
  · exact fin (by unfold WorldD.chk; rw [if_neg c1, if_pos (by ((try simp only[oo,reduceCtorEq]at*)<;>omega))])
  (refine .inl ⟨_, (ref_In W.start (by omega) W.next.length), ?_⟩; ((conv=>whnf);repeat(refine .intro rfl ?_;conv=>whnf)))
  (refine ifK_split (fun h4 => ?_) (fun h4 => ?_) <;> (rw [h4]; ((conv=>whnf);repeat(refine .intro rfl ?_;conv=>whnf))))
  · exact fin (by unfold WorldD.chk; rw [if_neg c1, if_pos (.inr (by simpa using h4))])
  have c2 : ¬ (W.label.length ≠ W.next.length ∨ inB W.start W.next.length = false) := by
    rintro (q | q)
    · ((try simp only[oo,reduceCtorEq]at*)<;>omega)
    · rw [q] at h4; cases h4
  refine pwp_for [1, 3] (fun k : Nat => [(4, .sc (.int .i64 k))]) (fun _ => []) (fun k => k ≤ W.next.length ∧ ∀ j (hj : j < k) (hl : j < W.next.length), (W.next[j].isEmpty || !(inB W.next[j] W.next.length)) = false) (fun k => W.next.length - k) 0 ?_
  ((conv=>whnf);repeat(refine .intro rfl ?_;conv=>whnf))
  refine ⟨⟨by omega, fun j hj => by omega⟩, by (repeat' (first | exact trivial | refine And.intro rfl ?_)), rfl, ?_⟩
  rintro k ⟨hk, hall⟩
  ((conv=>whnf);repeat(refine .intro rfl ?_;conv=>whnf))
  (apply rd_sound; focus (repeat' constructor))
  ((conv=>whnf);repeat(refine .intro rfl ?_;conv=>whnf))
  (refine ifK_split (fun g => ?_) (fun g => ?_) <;> (rw [g]; ((conv=>whnf);repeat(refine .intro rfl ?_;conv=>whnf))))
  · have hk' : k < W.next.length := by ((try simp only[oo,reduceCtorEq]at*)<;>omega)
    refine ⟨by omega, _, grid_at (k := k) (by omega) hk', ?_⟩
    ((conv=>whnf);repeat(refine .intro rfl ?_;conv=>whnf))
    rw [List.length_map]
    have bk := hW.nextEach _ (List.getElem_mem hk')
    (refine ifK_split (fun g1 => ?_) (fun g1 => ?_) <;> (rw [g1]; ((conv=>whnf);repeat(refine .intro rfl ?_;conv=>whnf))))
    · have e1 : (W.next[k]).isEmpty = true := by rw [List.isEmpty_iff_length_eq_zero]; ((try simp only[oo,reduceCtorEq]at*)<;>omega)
      exact fin (by unfold WorldD.chk; rw [if_neg c1, if_neg c2, if_pos (any_yes hk' (by rw [e1]; rfl))])
    have e1 : (W.next[k]).isEmpty = false := by rw [← Bool.not_eq_true, List.isEmpty_iff_length_eq_zero]; ((try simp only[oo,reduceCtorEq]at*)<;>omega)
    refine ⟨by omega, _, grid_at (k := k) (by omega) hk', ?_⟩
    ((conv=>whnf);repeat(refine .intro rfl ?_;conv=>whnf))
    (refine .inl ⟨_, (ref_In W.next[k] (by omega) W.next.length), ?_⟩; ((conv=>whnf);repeat(refine .intro rfl ?_;conv=>whnf)))
    (refine ifK_split (fun g2 => ?_) (fun g2 => ?_) <;> (rw [g2]; ((conv=>whnf);repeat(refine .intro rfl ?_;conv=>whnf))))
    · exact fin (by unfold WorldD.chk; rw [if_neg c1, if_neg c2, if_pos (any_yes hk' (by rw [g2, e1]; rfl))])
    · (refine .inl ⟨by (unfold InR; rw [IntKind.wrap_i64]; omega), ?_⟩; ((conv=>whnf);repeat(refine .intro rfl ?_;conv=>whnf)))
      refine ⟨k + 1, ⟨by omega, fun j hj hl => ?_⟩, by dsimp only; omega, leB_envH (by (repeat' (first | exact trivial | refine And.intro rfl ?_))) rfl⟩
      by_cases e : j = k
      · subst e; rw [e1, g2]; rfl
      · exact hall j (by omega) hl
  · have hk' : ¬ k < W.next.length := by ((try simp only[oo,reduceCtorEq]at*)<;>omega)
    have c3 : ¬ (W.next.any fun l => l.isEmpty || !(inB l W.next.length)) = true := by rw [any_no fun j hj => hall j (by omega) hj]; simp
    clear hall
    refine pwp_for [1, 3] (fun k : Nat => [(5, .sc (.int .i64 k))]) (fun _ => []) (fun k => k ≤ W.fair.length ∧ ∀ j (hj : j < k) (hl : j < W.fair.length), (!(inB W.fair[j] W.next.length)) = false) (fun k => W.fair.length - k) 0 ?_
    ((conv=>whnf);repeat(refine .intro rfl ?_;conv=>whnf))
    refine ⟨⟨by omega, fun j hj => by omega⟩, by (repeat' (first | exact trivial | refine And.intro rfl ?_)), rfl, ?_⟩
    rintro q ⟨hq, hall⟩
    ((conv=>whnf);repeat(refine .intro rfl ?_;conv=>whnf))
    (apply rd_sound; focus (repeat' constructor))
    ((conv=>whnf);repeat(refine .intro rfl ?_;conv=>whnf))
    rw [List.length_map]
    (refine ifK_split (fun g => ?_) (fun g => ?_) <;> (rw [g]; ((conv=>whnf);repeat(refine .intro rfl ?_;conv=>whnf))))
    · have hq' : q < W.fair.length := by ((try simp only[oo,reduceCtorEq]at*)<;>omega)
      refine ⟨by omega, _, grid_at (k := q) (by omega) hq', ?_⟩
      ((conv=>whnf);repeat(refine .intro rfl ?_;conv=>whnf))
      have bk := hW.fairEach _ (List.getElem_mem hq')
      (refine .inl ⟨_, (ref_In W.fair[q] (by omega) W.next.length), ?_⟩; ((conv=>whnf);repeat(refine .intro rfl ?_;conv=>whnf)))
      (refine ifK_split (fun g2 => ?_) (fun g2 => ?_) <;> (rw [g2]; ((conv=>whnf);repeat(refine .intro rfl ?_;conv=>whnf))))
      · exact fin (by unfold WorldD.chk; rw [if_neg c1, if_neg c2, if_neg c3, if_pos (any_yes hq' g2)])
      · (refine .inl ⟨by (unfold InR; rw [IntKind.wrap_i64]; omega), ?_⟩; ((conv=>whnf);repeat(refine .intro rfl ?_;conv=>whnf)))
        refine ⟨q + 1, ⟨by omega, fun j hj hl => ?_⟩, by dsimp only; omega, leB_envH (by (repeat' (first | exact trivial | refine And.intro rfl ?_))) rfl⟩
        by_cases e : j = q
        · subst e; exact g2
        · exact hall j (by omega) hl
    · have hq' : ¬ q < W.fair.length := by ((try simp only[oo,reduceCtorEq]at*)<;>omega)
      have c4 : ¬ (W.fair.any fun l => !(inB l W.next.length)) = true := by rw [any_no fun j hj => hall j (by omega) hj]; simp
      exact fin (by unfold WorldD.chk; rw [if_neg c1, if_neg c2, if_neg c3, if_neg c4])
end Go.Proofs.Ytfaekhadjlgbbaa
