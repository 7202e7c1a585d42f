/-
  Endless ways that meet sets: the reference's Ways, over deep values. No statement is proved here.
-/
import Derived.Test.YtfaekhadjlgbbaaQEl0
import Derived.Test.YtfaekhadjlgbbaaQSc2
import Derived.Test.YtfaekhadjlgbbaaQDl
namespace Go.Proofs.Ytfaekhadjlgbbaa
open Go.RowKit
set_option linter.unusedSimpArgs false
set_option linter.unusedVariables false
def allT : Nat → Bool := fun _ => true
def noT : Nat → Bool := fun _ => false
/-- Lists of truths. -/
def dbls (n : Nat) (F : List (Nat → Bool)) : D := .lst 1 (F.map fun S => [dbl n S])
theorem pure_dbls (n : Nat) (F : List (Nat → Bool)) : Pure (dbls n F) := by simp only [dbls, Pure]; exact pureLL_map _ (fun S => by simp [PureL, pure_dbl]) F
theorem dbls_at {n : Nat} {F : List (Nat → Bool)} {z k : Nat} (hz : z = k) (h : k < F.length) : (F.map fun S => [dbl n S])[z]? = some [dbl n (F.getD k noT)] := by
  subst hz
  rw [List.getElem?_map, List.getElem?_eq_getElem h, List.getD_eq_getElem?_getD, List.getElem?_eq_getElem h]; rfl
theorem fw_nil (g : List (List Int)) (v : Nat) : fwB g [] v = fwB g [allT] v := by
  rw [Bool.eq_iff_iff, fwB_iff, fwB_iff]
  constructor
  · rintro ⟨c, h1, h2, h3⟩
    exact ⟨c, h1, h2, fun S hS => by rw [List.mem_singleton] at hS; subst hS; exact ⟨c, rfl, to_refl g c, to_refl g c⟩⟩
  · rintro ⟨c, h1, h2, h3⟩
    exact ⟨c, h1, h2, fun S hS => by cases hS⟩
theorem fw_lt {g : List (List Int)} {F : List (Nat → Bool)} {v : Nat} (h : Fw g F v) : v < g.length := by
  obtain ⟨c, h1, ⟨x, hx, _⟩, _⟩ := h
  have lt : ∀ {a : Nat} {y : Int}, y ∈ g.getD a [] → a < g.length := fun {a y} hy => by
    rcases Nat.lt_or_ge a g.length with q | q
    · exact q
    · rw [List.getD_eq_getElem?_getD, List.getElem?_eq_none q] at hy; simp at hy
  have key : ∀ {a b : Nat}, To g a b → a = b ∨ a < g.length := by
    intro a b q
    unfold To at q
    induction q with
    | base m => simp only [List.mem_singleton] at m; subst m; left; simp
    | step q m ih =>
      rcases ih with e | e
      · subst e; exact .inr (lt m)
      · exact .inr e
  rcases key h1 with e | e
  · subst e; exact lt hx
  · exact e
/-- How many are so. -/
def cz (z : Nat → Bool) (n : Nat) : Nat := unseen (fun i => !z i) n
theorem cz_mono {z z' : Nat → Bool} {n : Nat} (h : ∀ v, z' v = true → z v = true) : cz z' n ≤ cz z n := unseen_mono fun j _ q => by
  cases e : z' j with
  | false => rfl
  | true => rw [h j e] at q; cases q
theorem cz_lt {z z' : Nat → Bool} {n i : Nat} (hi : i < n) (h : ∀ v, z' v = true → z v = true) (h1 : z i = true) (h2 : z' i = false) : cz z' n < cz z n := by
  refine unseen_lt hi (fun j _ q => ?_) (by simp [h1]) (by simp [h2])
  cases e : z' j with
  | false => rfl
  | true => simp [h j e] at q
structure HitI (g : List (List Int)) (z S hit : Nat → Bool) : Prop where
  sound : ∀ v, hit v = true → Hit g z S v
/-- A node's goings have been looked at, as far as k. -/
def HitC (g : List (List Int)) (z S hit : Nat → Bool) (i k : Nat) : Prop := z i = true → ∀ j, j < k → j < (g.getD i []).length → z ((g.getD i []).getD j 0).toNat = true → (S ((g.getD i []).getD j 0).toNat = true ∨ hit ((g.getD i []).getD j 0).toNat = true) → hit i = true
theorem hit_done {g : List (List Int)} {z S hit : Nat → Bool} (h : HitI g z S hit) (hz : ∀ v, z v = true → v < g.length) (hc : ∀ i, i < g.length → HitC g z S hit i (g.getD i []).length) (v : Nat) : hit v = true ↔ Hit g z S v := by
  refine ⟨h.sound v, fun q => ?_⟩
  induction q with
  | one h k hz' hs =>
    obtain ⟨j, hj, rfl⟩ := getD_mem k
    exact hc _ (hz _ h) h j hj hj hz' (.inl hs)
  | more h k hz' _ ih =>
    obtain ⟨j, hj, rfl⟩ := getD_mem k
    exact hc _ (hz _ h) h j hj hj hz' (.inr ih)
def c36_1 : PC := .seq (.seq (.ops [⟨some 18,.move (.tmp 6),none,0⟩,
 ⟨some 19,.move (.tmp 5),none,0⟩,
 ⟨some 20,.len (.tmp 19),none,0⟩,
 ⟨some 21,.bin .lss (.tmp 18) (.tmp 20),none,0⟩] false) (.cond (.tmp 21) (.skip) (.exit 0))) (.seq (.block 1 (.ops [⟨some 24,.move (.tmp 5),none,0⟩,
 ⟨some 25,.move (.tmp 6),none,0⟩,
 ⟨some 26,.iaddr 1 (.tmp 24) (.tmp 25),none,0⟩,
 ⟨none,.store 1 (.tmp 26) (.const (.bool true)),none,0⟩] false)) (.ops [⟨some 22,.move (.tmp 6),none,0⟩,
 ⟨some 23,.bin .add (.tmp 22) (.const (.int .i64 1)),none,0⟩,
 ⟨some 6,.move (.tmp 23),none,0⟩] false))
def c36_6 : PC := .seq (.seq (.ops [⟨some 50,.move (.tmp 12),none,0⟩,
 ⟨some 51,.move (.tmp 0),none,0⟩,
 ⟨some 52,.move (.tmp 11),none,0⟩,
 ⟨some 53,.iaddr 1 (.tmp 51) (.tmp 52),none,0⟩,
 ⟨some 54,.load1 (.tmp 53),none,0⟩,
 ⟨some 55,.len (.tmp 54),none,0⟩,
 ⟨some 56,.bin .lss (.tmp 50) (.tmp 55),none,0⟩,
 ⟨some 57,.move (.tmp 56),none,0⟩,
 ⟨some 58,.move (.tmp 5),some (57,true),0⟩,
 ⟨some 59,.move (.tmp 11),some (57,true),0⟩,
 ⟨some 60,.iaddr 1 (.tmp 58) (.tmp 59),some (57,true),0⟩,
 ⟨some 61,.load1 (.tmp 60),some (57,true),0⟩,
 ⟨some 62,.pick (.tmp 57) (.tmp 61) (.const (.bool false)),none,0⟩,
 ⟨some 63,.move (.tmp 62),none,0⟩,
 ⟨some 64,.move (.tmp 9),some (63,true),0⟩,
 ⟨some 65,.move (.tmp 11),some (63,true),0⟩,
 ⟨some 66,.iaddr 1 (.tmp 64) (.tmp 65),some (63,true),0⟩,
 ⟨some 67,.load1 (.tmp 66),some (63,true),0⟩,
 ⟨some 68,.un .not (.tmp 67),some (63,true),0⟩,
 ⟨some 69,.pick (.tmp 63) (.tmp 68) (.const (.bool false)),none,0⟩] false) (.cond (.tmp 69) (.skip) (.exit 10))) (.seq (.block 11 (.seq (.ops [⟨some 72,.move (.tmp 0),none,0⟩,
 ⟨some 73,.move (.tmp 11),none,0⟩,
 ⟨some 74,.iaddr 1 (.tmp 72) (.tmp 73),none,0⟩,
 ⟨some 75,.load1 (.tmp 74),none,0⟩,
 ⟨some 76,.move (.tmp 12),none,0⟩,
 ⟨some 77,.iaddr 1 (.tmp 75) (.tmp 76),none,0⟩,
 ⟨some 78,.load1 (.tmp 77),none,0⟩,
 ⟨some 13,.move (.tmp 78),none,0⟩] false) (.seq (.ops [⟨some 79,.move (.tmp 5),none,0⟩,
 ⟨some 80,.move (.tmp 13),none,0⟩,
 ⟨some 81,.iaddr 1 (.tmp 79) (.tmp 80),none,0⟩,
 ⟨some 82,.load1 (.tmp 81),none,0⟩,
 ⟨some 83,.move (.tmp 82),none,0⟩,
 ⟨some 84,.move (.tmp 1),some (83,true),0⟩,
 ⟨some 85,.move (.tmp 8),some (83,true),0⟩,
 ⟨some 86,.iaddr 1 (.tmp 84) (.tmp 85),some (83,true),0⟩,
 ⟨some 87,.load1 (.tmp 86),some (83,true),0⟩,
 ⟨some 88,.move (.tmp 13),some (83,true),0⟩,
 ⟨some 89,.iaddr 1 (.tmp 87) (.tmp 88),some (83,true),0⟩,
 ⟨some 90,.load1 (.tmp 89),some (83,true),0⟩,
 ⟨some 91,.move (.tmp 90),some (83,true),0⟩,
 ⟨some 92,.move (.tmp 9),some (91,false),0⟩,
 ⟨some 93,.move (.tmp 13),some (91,false),0⟩,
 ⟨some 94,.iaddr 1 (.tmp 92) (.tmp 93),some (91,false),0⟩,
 ⟨some 95,.load1 (.tmp 94),some (91,false),0⟩,
 ⟨some 96,.pick (.tmp 91) (.const (.bool true)) (.tmp 95),some (83,true),0⟩,
 ⟨some 97,.pick (.tmp 83) (.tmp 96) (.const (.bool false)),none,0⟩] false) (.cond (.tmp 97) (.seq (.ops [⟨some 98,.move (.tmp 9),none,0⟩,
 ⟨some 99,.move (.tmp 11),none,0⟩,
 ⟨some 100,.iaddr 1 (.tmp 98) (.tmp 99),none,0⟩,
 ⟨none,.store 1 (.tmp 100) (.const (.bool true)),none,0⟩] false) (.ops [⟨some 10,.move (.const (.bool true)),none,0⟩] false)) (.skip))))) (.ops [⟨some 70,.move (.tmp 12),none,0⟩,
 ⟨some 71,.bin .add (.tmp 70) (.const (.int .i64 1)),none,0⟩,
 ⟨some 12,.move (.tmp 71),none,0⟩] false))
def c36_5 : PC := .seq (.seq (.ops [⟨some 44,.move (.tmp 11),none,0⟩,
 ⟨some 45,.move (.tmp 0),none,0⟩,
 ⟨some 46,.len (.tmp 45),none,0⟩,
 ⟨some 47,.bin .lss (.tmp 44) (.tmp 46),none,0⟩] false) (.cond (.tmp 47) (.skip) (.exit 8))) (.seq (.block 9 (.seq (.ops [⟨some 12,.move (.const (.int .i64 0)),none,0⟩] false) (.block 10 (.loop c36_6)))) (.ops [⟨some 48,.move (.tmp 11),none,0⟩,
 ⟨some 49,.bin .add (.tmp 48) (.const (.int .i64 1)),none,0⟩,
 ⟨some 11,.move (.tmp 49),none,0⟩] false))
def c36_4 : PC := .seq (.seq (.ops [⟨some 43,.move (.tmp 10),none,0⟩] false) (.cond (.tmp 43) (.skip) (.exit 6))) (.block 7 (.seq (.ops [⟨some 10,.move (.const (.bool false)),none,0⟩] false) (.seq (.ops [⟨some 11,.move (.const (.int .i64 0)),none,0⟩] false) (.block 8 (.loop c36_5)))))
def c36_7 : PC := .seq (.seq (.ops [⟨some 101,.move (.tmp 14),none,0⟩,
 ⟨some 102,.move (.tmp 0),none,0⟩,
 ⟨some 103,.len (.tmp 102),none,0⟩,
 ⟨some 104,.bin .lss (.tmp 101) (.tmp 103),none,0⟩] false) (.cond (.tmp 104) (.skip) (.exit 12))) (.seq (.block 13 (.seq (.ops [⟨some 107,.move (.tmp 7),none,0⟩,
 ⟨some 108,.move (.tmp 107),none,1⟩,
 ⟨some 109,.move (.tmp 5),some (108,false),3⟩,
 ⟨some 110,.move (.tmp 14),some (108,false),3⟩,
 ⟨some 111,.iaddr 1 (.tmp 109) (.tmp 110),some (108,false),15⟩,
 ⟨some 112,.load1 (.tmp 111),some (108,false),31⟩,
 ⟨some 113,.move (.tmp 5),some (108,false),3⟩,
 ⟨some 114,.move (.tmp 14),some (108,false),3⟩,
 ⟨some 115,.iaddr 1 (.tmp 113) (.tmp 114),some (108,false),195⟩,
 ⟨some 116,.load1 (.tmp 115),some (108,false),451⟩,
 ⟨some 117,.move (.tmp 116),some (108,false),963⟩,
 ⟨some 118,.move (.tmp 9),some (117,true),1987⟩,
 ⟨some 119,.move (.tmp 14),some (117,true),1987⟩,
 ⟨some 120,.iaddr 1 (.tmp 118) (.tmp 119),some (117,true),8131⟩,
 ⟨some 121,.load1 (.tmp 120),some (117,true),16323⟩,
 ⟨some 122,.pick (.tmp 117) (.tmp 121) (.const (.bool false)),some (108,false),32707⟩,
 ⟨some 123,.eqb true (.tmp 112) (.tmp 122),some (108,false),65535⟩,
 ⟨some 124,.pick (.tmp 108) (.const (.bool true)) (.tmp 123),none,131071⟩,
 ⟨some 7,.move (.tmp 124),none,262143⟩] true) (.ops [⟨some 125,.move (.tmp 5),none,0⟩,
 ⟨some 126,.move (.tmp 14),none,0⟩,
 ⟨some 127,.move (.tmp 5),none,0⟩,
 ⟨some 128,.move (.tmp 14),none,0⟩,
 ⟨some 129,.iaddr 1 (.tmp 127) (.tmp 128),none,0⟩,
 ⟨some 130,.load1 (.tmp 129),none,0⟩,
 ⟨some 131,.move (.tmp 130),none,0⟩,
 ⟨some 132,.move (.tmp 9),some (131,true),0⟩,
 ⟨some 133,.move (.tmp 14),some (131,true),0⟩,
 ⟨some 134,.iaddr 1 (.tmp 132) (.tmp 133),some (131,true),0⟩,
 ⟨some 135,.load1 (.tmp 134),some (131,true),0⟩,
 ⟨some 136,.pick (.tmp 131) (.tmp 135) (.const (.bool false)),none,0⟩,
 ⟨some 137,.iaddr 1 (.tmp 125) (.tmp 126),none,0⟩,
 ⟨none,.store 1 (.tmp 137) (.tmp 136),none,0⟩] false))) (.ops [⟨some 105,.move (.tmp 14),none,0⟩,
 ⟨some 106,.bin .add (.tmp 105) (.const (.int .i64 1)),none,0⟩,
 ⟨some 14,.move (.tmp 106),none,0⟩] false))
def c36_3 : PC := .seq (.seq (.ops [⟨some 34,.move (.tmp 8),none,0⟩,
 ⟨some 35,.move (.tmp 1),none,0⟩,
 ⟨some 36,.len (.tmp 35),none,0⟩,
 ⟨some 37,.bin .lss (.tmp 34) (.tmp 36),none,0⟩] false) (.cond (.tmp 37) (.skip) (.exit 4))) (.seq (.block 5 (.seq (.ops [⟨some 40,.move (.tmp 0),none,0⟩,
 ⟨some 41,.len (.tmp 40),none,0⟩,
 ⟨some 42,.mslice 1 1 [(.bool false)] (.tmp 41) (.tmp 41),none,0⟩,
 ⟨some 9,.move (.tmp 42),none,0⟩] false) (.seq (.seq (.ops [⟨some 10,.move (.const (.bool true)),none,0⟩] false) (.block 6 (.loop c36_4))) (.seq (.ops [⟨some 14,.move (.const (.int .i64 0)),none,0⟩] false) (.block 12 (.loop c36_7)))))) (.ops [⟨some 38,.move (.tmp 8),none,0⟩,
 ⟨some 39,.bin .add (.tmp 38) (.const (.int .i64 1)),none,0⟩,
 ⟨some 8,.move (.tmp 39),none,0⟩] false))
def c36_2 : PC := .seq (.seq (.ops [⟨some 33,.move (.tmp 7),none,0⟩] false) (.cond (.tmp 33) (.skip) (.exit 2))) (.block 3 (.seq (.ops [⟨some 7,.move (.const (.bool false)),none,0⟩] false) (.seq (.ops [⟨some 8,.move (.const (.int .i64 0)),none,0⟩] false) (.block 4 (.loop c36_3)))))
def c36 : PC := .seq (.ops [⟨some 4,.move (.const (.slice none 0 0)),none,0⟩] false) (.seq (.ops [⟨some 15,.move (.tmp 0),none,0⟩,
 ⟨some 16,.len (.tmp 15),none,0⟩,
 ⟨some 17,.mslice 1 1 [(.bool false)] (.tmp 16) (.tmp 16),none,0⟩,
 ⟨some 5,.move (.tmp 17),none,0⟩] false) (.seq (.seq (.ops [⟨some 6,.move (.const (.int .i64 0)),none,0⟩] false) (.block 0 (.loop c36_1))) (.seq (.seq (.ops [⟨some 27,.move (.tmp 1),none,0⟩,
 ⟨some 28,.len (.tmp 27),none,0⟩,
 ⟨some 29,.bin .eql (.tmp 28) (.const (.int .i64 0)),none,0⟩] false) (.cond (.tmp 29) (.ops [⟨some 30,.move (.tmp 5),none,0⟩,
 ⟨some 31,.append 1 1 (.const (.slice none 0 0)) (.tmp 30),none,0⟩,
 ⟨some 32,.bslice 1 1 [(.tmp 31)],none,0⟩,
 ⟨some 1,.move (.tmp 32),none,0⟩] false) (.skip))) (.seq (.seq (.ops [⟨some 7,.move (.const (.bool true)),none,0⟩] false) (.block 2 (.loop c36_2))) (.seq (.ops [⟨some 138,.move (.tmp 5),none,0⟩,
 ⟨some 4,.move (.tmp 138),none,0⟩] false) (.ret))))))
set_option maxRecDepth 100000 in
theorem c36_ok : FunOK Try.prog 36 139 [.tmp 4] c36 := ⟨⟨Try.f36, Try.func36, rfl, by kernel_rfl, rfl, by kernel_rfl⟩⟩
set_option maxRecDepth 100000 in
theorem ref_Ways (g : List (List Int)) (hn : g.length ≤ 1000000) (hin0 : ∀ l ∈ g, inB l g.length = true) (hF : FitsG g) (F : List (Nat → Bool)) (hFl : F.length ≤ 1000000) (hne : F ≠ []) : PCall Try.prog 36 [dgrid g, dbls g.length F] (dbl g.length (fwB g F)) := by
  have hrow := fun k => inB_row hin0 k
  have hin : ∀ v x, x ∈ g.getD v [] → x.toNat < g.length := fun v x hx => by have := inB_mem (hrow v) hx; omega
  refine pcall_intro c36_ok (by simp) (by simp [PureL, pure_dgrid, pure_dbls]) ?_ (pure_dbl _ _)
  unfold dgrid dbls
  (apply rd_sound; focus (repeat' constructor))
  ((conv=>whnf);repeat(refine .intro rfl ?_;conv=>whnf))
  rw [List.length_map]
  refine ⟨by omega, by omega, by omega, ?_⟩
  rw [Int.toNat_natCast, show List.map D.sc [Value.bool false] = [D.sc (.bool false)] from rfl, rbl_rep]
  ((conv=>whnf);repeat(refine .intro rfl ?_;conv=>whnf))
  refine pwp_for [0, 1, 5] (fun k : Nat => [(6, .sc (.int .i64 k))]) (fun k => [(0, .vec true 0 1 (rbl g.length fun i => decide (i < k)))]) (fun k => k ≤ g.length) (fun k => g.length - k) 0 ?_
  ((conv=>whnf);repeat(refine .intro rfl ?_;conv=>whnf))
  refine ⟨by omega, by (repeat' (first | exact trivial | refine And.intro rfl ?_)), by simp; rfl, ?_⟩
  rintro k hk
  ((conv=>whnf);repeat(refine .intro rfl ?_;conv=>whnf))
  (apply rd_sound; focus (repeat' constructor))
  ((conv=>whnf);repeat(refine .intro rfl ?_;conv=>whnf))
  (refine ifK_split (fun q0 => ?_) (fun q0 => ?_) <;> (rw [q0]; ((conv=>whnf);repeat(refine .intro rfl ?_;conv=>whnf))))
  · have q0 : k < g.length := by ((try simp only[oo,reduceCtorEq]at*)<;>omega)
    (refine ⟨by omega, (by first | omega | (simp; done) | (simp; omega) | (simp only [ll]; omega)), ?_⟩; ((conv=>whnf);repeat(refine .intro rfl ?_;conv=>whnf)))
    refine ⟨_, rbl_atN k (by omega) q0, ?_⟩
    ((conv=>whnf);repeat(refine .intro rfl ?_;conv=>whnf))
    (refine .inl ⟨by (unfold InR; rw [IntKind.wrap_i64]; omega), ?_⟩; ((conv=>whnf);repeat(refine .intro rfl ?_;conv=>whnf)))
    refine ⟨k + 1, by omega, by dsimp only; omega, leB_envH (by (repeat' (first | exact trivial | refine And.intro rfl ?_))) ?_⟩
    rw [show 0 + ((k : Nat) : Int).toNat = k by omega, rbl_set, rbl_congr (g' := fun i => decide (i < k + 1)) fun i _ => by
      show (if i = k then true else decide (i < k)) = _
      by_cases e : i = k
      · rw [if_pos e]; simp; omega
      · rw [if_neg e, Bool.eq_iff_iff]; simp; omega]
    rfl
  have q0 : k = g.length := by have : ¬ k < g.length := by ((try simp only[oo,reduceCtorEq]at*)<;>omega)
                               omega
  subst q0
  rw [List.length_map]
  (refine ifK_split (fun q1 => ?_) (fun q1 => ?_) <;> (rw [q1]; ((conv=>whnf);repeat(refine .intro rfl ?_;conv=>whnf))))
  · exact absurd (List.eq_nil_of_length_eq_zero (by ((try simp only[oo,reduceCtorEq]at*)<;>omega))) hne
  refine pwp_for [0, 1, 5] (fun ((m, z) : Bool × (Nat → Bool)) => [(7, .sc (.bool m))]) (fun (m, z) => [(0, .vec true 0 1 (rbl g.length z))])
    (fun (m, z) => (∀ v, Fw g F v → z v = true) ∧ (∀ v, z v = true → v < g.length) ∧ (m = false → ∀ v, z v = true → ∀ S, S ∈ F → Hit g z S v)) (fun (m, z) => if m = true then 1 + cz z g.length else 0) (true, fun i => decide (i < g.length)) ?_
  ((conv=>whnf);repeat(refine .intro rfl ?_;conv=>whnf))
  refine ⟨⟨fun v hv => by simpa using fw_lt hv, fun v hv => by simpa using hv, fun q => by cases q⟩, by (repeat' (first | exact trivial | refine And.intro rfl ?_)), rfl, ?_⟩
  rintro ⟨m, z0⟩ ⟨hfw0, hzl0, hst0⟩
  ((conv=>whnf);repeat(refine .intro rfl ?_;conv=>whnf))
  (apply rd_sound; focus (repeat' constructor))
  ((conv=>whnf);repeat(refine .intro rfl ?_;conv=>whnf))
  cases m
  · ((conv=>whnf);repeat(refine .intro rfl ?_;conv=>whnf))
    rw [rbl_congr (g' := fwB g F) fun i hi => fwB_eq ⟨fun q => hit_fw hin hzl0 (hst0 rfl) hne q, hfw0 i⟩]
    exact deep_vec rfl
  ((conv=>whnf);repeat(refine .intro rfl ?_;conv=>whnf))
  refine pwp_for [0, 1, 5] (fun ((m, k, z) : Bool × Nat × (Nat → Bool)) => [(7, .sc (.bool m)), (8, .sc (.int .i64 k))]) (fun (m, k, z) => [(0, .vec true 0 1 (rbl g.length z))])
    (fun (m, k, z) => k ≤ F.length ∧ (∀ v, Fw g F v → z v = true) ∧ (∀ v, z v = true → z0 v = true) ∧ (m = true → cz z g.length < cz z0 g.length) ∧ (m = false → (∀ v, z v = z0 v) ∧ ∀ j, j < k → ∀ v, z v = true → Hit g z (F.getD j noT) v)) (fun (m, k, z) => F.length - k) (false, 0, z0) ?_
  ((conv=>whnf);repeat(refine .intro rfl ?_;conv=>whnf))
  refine ⟨⟨by omega, hfw0, fun v h => h, fun q => (by cases q), fun _ => ⟨fun v => rfl, fun j hj => by omega⟩⟩, by (repeat' (first | exact trivial | refine And.intro rfl ?_)), rfl, ?_⟩
  clear hst0
  rintro ⟨m, k, z⟩ ⟨hk, hfw, hzz, hmt, hmf⟩
  have hzl : ∀ v, z v = true → v < g.length := fun v hv => hzl0 v (hzz v hv)
  ((conv=>whnf);repeat(refine .intro rfl ?_;conv=>whnf))
  (apply rd_sound; focus (repeat' constructor))
  ((conv=>whnf);repeat(refine .intro rfl ?_;conv=>whnf))
  rw [List.length_map]
  (refine ifK_split (fun q0 => ?_) (fun q0 => ?_) <;> (rw [q0]; ((conv=>whnf);repeat(refine .intro rfl ?_;conv=>whnf))))
  · have q0 : k < F.length := by ((try simp only[oo,reduceCtorEq]at*)<;>omega)
    have hS : F.getD k noT ∈ F := by rw [List.getD_eq_getElem?_getD, List.getElem?_eq_getElem q0]; exact List.getElem_mem q0
    have hdb := fun z (hz : z = k) => dbls_at (n := g.length) (F := F) hz q0
    generalize hSe : F.getD k noT = S at *
    rw [List.length_map]
    refine ⟨by omega, by omega, by omega, ?_⟩
    rw [Int.toNat_natCast, show List.map D.sc [Value.bool false] = [D.sc (.bool false)] from rfl, rbl_rep]
    ((conv=>whnf);repeat(refine .intro rfl ?_;conv=>whnf))
    refine pwp_for [0, 1, 5, 7, 8, 9] (fun ((r, hit) : Bool × (Nat → Bool)) => [(10, .sc (.bool r))]) (fun (r, hit) => [(1, .vec true 0 1 (rbl g.length hit))])
      (fun (r, hit) => HitI g z S hit ∧ (r = false → ∀ i, i < g.length → HitC g z S hit i (g.getD i []).length)) (fun (r, hit) => if r = true then 1 + unseen hit g.length else 0) (true, noT) ?_
    ((conv=>whnf);repeat(refine .intro rfl ?_;conv=>whnf))
    refine ⟨⟨⟨fun v hv => by cases hv⟩, fun q => by cases q⟩, by (repeat' (first | exact trivial | refine And.intro rfl ?_)), rfl, ?_⟩
    rintro ⟨r, hit0⟩ ⟨hH0, hC0⟩
    ((conv=>whnf);repeat(refine .intro rfl ?_;conv=>whnf))
    (apply rd_sound; focus (repeat' constructor))
    ((conv=>whnf);repeat(refine .intro rfl ?_;conv=>whnf))
    cases r
    · have hdone := hit_done hH0 hzl (hC0 rfl)
      ((conv=>whnf);repeat(refine .intro rfl ?_;conv=>whnf))
      refine pwp_for [0, 1, 5, 8, 9] (fun ((m, i) : Bool × Nat) => [(7, .sc (.bool m)), (14, .sc (.int .i64 i))]) (fun (m, i) => [(0, .vec true 0 1 (rbl g.length fun v => if v < i then z v && hit0 v else z v))])
        (fun (m', i) => i ≤ g.length ∧ (m' = true → m = true ∨ ∃ v, v < i ∧ z v = true ∧ hit0 v = false) ∧ (m' = false → m = false ∧ ∀ v, v < i → z v = true → hit0 v = true)) (fun (m, i) => g.length - i) (m, 0) ?_
      ((conv=>whnf);repeat(refine .intro rfl ?_;conv=>whnf))
      refine ⟨⟨by omega, fun q => .inl q, fun q => ⟨q, fun v hv => by omega⟩⟩, by (repeat' (first | exact trivial | refine And.intro rfl ?_)), by simp; rfl, ?_⟩
      rintro ⟨m', i⟩ ⟨hi, h1, h2⟩
      ((conv=>whnf);repeat(refine .intro rfl ?_;conv=>whnf))
      (apply rd_sound; focus (repeat' constructor))
      ((conv=>whnf);repeat(refine .intro rfl ?_;conv=>whnf))
      rw [List.length_map]
      (refine ifK_split (fun q1 => ?_) (fun q1 => ?_) <;> (rw [q1]; ((conv=>whnf);repeat(refine .intro rfl ?_;conv=>whnf))))
      · have q1 : i < g.length := by ((try simp only[oo,reduceCtorEq]at*)<;>omega)
        have eat : (if i < i then z i && hit0 i else z i) = z i := if_neg (by omega)
        have eset : rbl g.length (fun v => if v = i then (z i && hit0 i) else (if v < i then z v && hit0 v else z v)) = rbl g.length (fun v => if v < i + 1 then z v && hit0 v else z v) := rbl_congr fun v _ => by
          by_cases e : v = i
          · subst e; rw [if_pos rfl, if_pos (by omega)]
          · rw [if_neg e]
            by_cases e2 : v < i
            · rw [if_pos e2, if_pos (by omega)]
            · rw [if_neg e2, if_neg (by omega)]
        cases zi : z i
        · rw [zi, Bool.false_and] at eset
          have g1 : m' = true → m = true ∨ ∃ v, v < i + 1 ∧ z v = true ∧ hit0 v = false := fun q => by
            rcases h1 q with h | ⟨v, v1, v2, v3⟩
            · exact .inl h
            · exact .inr ⟨v, by omega, v2, v3⟩
          have g2 : m' = false → m = false ∧ ∀ v, v < i + 1 → z v = true → hit0 v = true := fun q => by
            refine ⟨(h2 q).1, fun v hv hzv => ?_⟩
            by_cases e : v = i
            · subst e; rw [zi] at hzv; cases hzv
            · exact (h2 q).2 v (by omega) hzv
          cases m'
          · ((conv=>whnf);repeat(refine .intro rfl ?_;conv=>whnf))
            (refine ⟨by omega, (by first | omega | (simp; done) | (simp; omega) | (simp only [ll]; omega)), ?_⟩; ((conv=>whnf);repeat(refine .intro rfl ?_;conv=>whnf)))
            refine ⟨_, rbl_atN i (by omega) q1, ?_⟩
            rw [eat, zi]
            ((conv=>whnf);repeat(refine .intro rfl ?_;conv=>whnf))
            ((conv=>whnf);repeat(refine .intro rfl ?_;conv=>whnf))
            (refine ⟨by omega, (by first | omega | (simp; done) | (simp; omega) | (simp only [ll]; omega)), ?_⟩; ((conv=>whnf);repeat(refine .intro rfl ?_;conv=>whnf)))
            refine ⟨_, rbl_atN i (by omega) q1, ?_⟩
            rw [eat, zi]
            ((conv=>whnf);repeat(refine .intro rfl ?_;conv=>whnf))
            ((conv=>whnf);repeat(refine .intro rfl ?_;conv=>whnf))
            (refine ⟨by omega, (by first | omega | (simp; done) | (simp; omega) | (simp only [ll]; omega)), ?_⟩; ((conv=>whnf);repeat(refine .intro rfl ?_;conv=>whnf)))
            refine ⟨_, rbl_atN i (by omega) q1, ?_⟩
            rw [eat, zi]
            ((conv=>whnf);repeat(refine .intro rfl ?_;conv=>whnf))
            (refine ⟨by omega, (by first | omega | (simp; done) | (simp; omega) | (simp only [ll]; omega)), ?_⟩; ((conv=>whnf);repeat(refine .intro rfl ?_;conv=>whnf)))
            refine ⟨_, rbl_atN i (by omega) q1, ?_⟩
            ((conv=>whnf);repeat(refine .intro rfl ?_;conv=>whnf))
            (refine .inl ⟨by (unfold InR; rw [IntKind.wrap_i64]; omega), ?_⟩; ((conv=>whnf);repeat(refine .intro rfl ?_;conv=>whnf)))
            refine ⟨(false, i + 1), ⟨by omega, g1, g2⟩, by dsimp only; omega, leB_envH (by (repeat' (first | exact trivial | refine And.intro rfl ?_))) ?_⟩
            rw [show 0 + ((i : Nat) : Int).toNat = i by omega, rbl_set, eset]
            rfl
          · ((conv=>whnf);repeat(refine .intro rfl ?_;conv=>whnf))
            ((conv=>whnf);repeat(refine .intro rfl ?_;conv=>whnf))
            (refine ⟨by omega, (by first | omega | (simp; done) | (simp; omega) | (simp only [ll]; omega)), ?_⟩; ((conv=>whnf);repeat(refine .intro rfl ?_;conv=>whnf)))
            refine ⟨_, rbl_atN i (by omega) q1, ?_⟩
            rw [eat, zi]
            ((conv=>whnf);repeat(refine .intro rfl ?_;conv=>whnf))
            (refine ⟨by omega, (by first | omega | (simp; done) | (simp; omega) | (simp only [ll]; omega)), ?_⟩; ((conv=>whnf);repeat(refine .intro rfl ?_;conv=>whnf)))
            refine ⟨_, rbl_atN i (by omega) q1, ?_⟩
            ((conv=>whnf);repeat(refine .intro rfl ?_;conv=>whnf))
            (refine .inl ⟨by (unfold InR; rw [IntKind.wrap_i64]; omega), ?_⟩; ((conv=>whnf);repeat(refine .intro rfl ?_;conv=>whnf)))
            refine ⟨(true, i + 1), ⟨by omega, g1, g2⟩, by dsimp only; omega, leB_envH (by (repeat' (first | exact trivial | refine And.intro rfl ?_))) ?_⟩
            rw [show 0 + ((i : Nat) : Int).toNat = i by omega, rbl_set, eset]
            rfl
        · cases hi' : hit0 i
          · rw [zi, hi', Bool.true_and] at eset
            have g1 : true = true → m = true ∨ ∃ v, v < i + 1 ∧ z v = true ∧ hit0 v = false := fun _ => .inr ⟨i, by omega, zi, hi'⟩
            cases m'
            · ((conv=>whnf);repeat(refine .intro rfl ?_;conv=>whnf))
              (refine ⟨by omega, (by first | omega | (simp; done) | (simp; omega) | (simp only [ll]; omega)), ?_⟩; ((conv=>whnf);repeat(refine .intro rfl ?_;conv=>whnf)))
              refine ⟨_, rbl_atN i (by omega) q1, ?_⟩
              rw [eat, zi]
              ((conv=>whnf);repeat(refine .intro rfl ?_;conv=>whnf))
              ((conv=>whnf);repeat(refine .intro rfl ?_;conv=>whnf))
              (refine ⟨by omega, (by first | omega | (simp; done) | (simp; omega) | (simp only [ll]; omega)), ?_⟩; ((conv=>whnf);repeat(refine .intro rfl ?_;conv=>whnf)))
              refine ⟨_, rbl_atN i (by omega) q1, ?_⟩
              rw [eat, zi]
              ((conv=>whnf);repeat(refine .intro rfl ?_;conv=>whnf))
              (refine ⟨by omega, (by first | omega | (simp; done) | (simp; omega) | (simp only [ll]; omega)), ?_⟩; ((conv=>whnf);repeat(refine .intro rfl ?_;conv=>whnf)))
              refine ⟨_, rbl_atN i (by omega) q1, ?_⟩
              rw [hi']
              ((conv=>whnf);repeat(refine .intro rfl ?_;conv=>whnf))
              ((conv=>whnf);repeat(refine .intro rfl ?_;conv=>whnf))
              (refine ⟨by omega, (by first | omega | (simp; done) | (simp; omega) | (simp only [ll]; omega)), ?_⟩; ((conv=>whnf);repeat(refine .intro rfl ?_;conv=>whnf)))
              refine ⟨_, rbl_atN i (by omega) q1, ?_⟩
              rw [eat, zi]
              ((conv=>whnf);repeat(refine .intro rfl ?_;conv=>whnf))
              (refine ⟨by omega, (by first | omega | (simp; done) | (simp; omega) | (simp only [ll]; omega)), ?_⟩; ((conv=>whnf);repeat(refine .intro rfl ?_;conv=>whnf)))
              refine ⟨_, rbl_atN i (by omega) q1, ?_⟩
              rw [hi']
              ((conv=>whnf);repeat(refine .intro rfl ?_;conv=>whnf))
              (refine ⟨by omega, (by first | omega | (simp; done) | (simp; omega) | (simp only [ll]; omega)), ?_⟩; ((conv=>whnf);repeat(refine .intro rfl ?_;conv=>whnf)))
              refine ⟨_, rbl_atN i (by omega) q1, ?_⟩
              ((conv=>whnf);repeat(refine .intro rfl ?_;conv=>whnf))
              (refine .inl ⟨by (unfold InR; rw [IntKind.wrap_i64]; omega), ?_⟩; ((conv=>whnf);repeat(refine .intro rfl ?_;conv=>whnf)))
              refine ⟨(true, i + 1), ⟨by omega, g1, fun q => by cases q⟩, by dsimp only; omega, leB_envH (by (repeat' (first | exact trivial | refine And.intro rfl ?_))) ?_⟩
              rw [show 0 + ((i : Nat) : Int).toNat = i by omega, rbl_set, eset]
              rfl
            · ((conv=>whnf);repeat(refine .intro rfl ?_;conv=>whnf))
              ((conv=>whnf);repeat(refine .intro rfl ?_;conv=>whnf))
              (refine ⟨by omega, (by first | omega | (simp; done) | (simp; omega) | (simp only [ll]; omega)), ?_⟩; ((conv=>whnf);repeat(refine .intro rfl ?_;conv=>whnf)))
              refine ⟨_, rbl_atN i (by omega) q1, ?_⟩
              rw [eat, zi]
              ((conv=>whnf);repeat(refine .intro rfl ?_;conv=>whnf))
              (refine ⟨by omega, (by first | omega | (simp; done) | (simp; omega) | (simp only [ll]; omega)), ?_⟩; ((conv=>whnf);repeat(refine .intro rfl ?_;conv=>whnf)))
              refine ⟨_, rbl_atN i (by omega) q1, ?_⟩
              rw [hi']
              ((conv=>whnf);repeat(refine .intro rfl ?_;conv=>whnf))
              (refine ⟨by omega, (by first | omega | (simp; done) | (simp; omega) | (simp only [ll]; omega)), ?_⟩; ((conv=>whnf);repeat(refine .intro rfl ?_;conv=>whnf)))
              refine ⟨_, rbl_atN i (by omega) q1, ?_⟩
              ((conv=>whnf);repeat(refine .intro rfl ?_;conv=>whnf))
              (refine .inl ⟨by (unfold InR; rw [IntKind.wrap_i64]; omega), ?_⟩; ((conv=>whnf);repeat(refine .intro rfl ?_;conv=>whnf)))
              refine ⟨(true, i + 1), ⟨by omega, g1, fun q => by cases q⟩, by dsimp only; omega, leB_envH (by (repeat' (first | exact trivial | refine And.intro rfl ?_))) ?_⟩
              rw [show 0 + ((i : Nat) : Int).toNat = i by omega, rbl_set, eset]
              rfl
          · rw [zi, hi', Bool.true_and] at eset
            have g1 : m' = true → m = true ∨ ∃ v, v < i + 1 ∧ z v = true ∧ hit0 v = false := fun q => by
              rcases h1 q with h | ⟨v, v1, v2, v3⟩
              · exact .inl h
              · exact .inr ⟨v, by omega, v2, v3⟩
            have g2 : m' = false → m = false ∧ ∀ v, v < i + 1 → z v = true → hit0 v = true := fun q => by
              refine ⟨(h2 q).1, fun v hv hzv => ?_⟩
              by_cases e : v = i
              · subst e; exact hi'
              · exact (h2 q).2 v (by omega) hzv
            cases m'
            · ((conv=>whnf);repeat(refine .intro rfl ?_;conv=>whnf))
              (refine ⟨by omega, (by first | omega | (simp; done) | (simp; omega) | (simp only [ll]; omega)), ?_⟩; ((conv=>whnf);repeat(refine .intro rfl ?_;conv=>whnf)))
              refine ⟨_, rbl_atN i (by omega) q1, ?_⟩
              rw [eat, zi]
              ((conv=>whnf);repeat(refine .intro rfl ?_;conv=>whnf))
              ((conv=>whnf);repeat(refine .intro rfl ?_;conv=>whnf))
              (refine ⟨by omega, (by first | omega | (simp; done) | (simp; omega) | (simp only [ll]; omega)), ?_⟩; ((conv=>whnf);repeat(refine .intro rfl ?_;conv=>whnf)))
              refine ⟨_, rbl_atN i (by omega) q1, ?_⟩
              rw [eat, zi]
              ((conv=>whnf);repeat(refine .intro rfl ?_;conv=>whnf))
              (refine ⟨by omega, (by first | omega | (simp; done) | (simp; omega) | (simp only [ll]; omega)), ?_⟩; ((conv=>whnf);repeat(refine .intro rfl ?_;conv=>whnf)))
              refine ⟨_, rbl_atN i (by omega) q1, ?_⟩
              rw [hi']
              ((conv=>whnf);repeat(refine .intro rfl ?_;conv=>whnf))
              ((conv=>whnf);repeat(refine .intro rfl ?_;conv=>whnf))
              (refine ⟨by omega, (by first | omega | (simp; done) | (simp; omega) | (simp only [ll]; omega)), ?_⟩; ((conv=>whnf);repeat(refine .intro rfl ?_;conv=>whnf)))
              refine ⟨_, rbl_atN i (by omega) q1, ?_⟩
              rw [eat, zi]
              ((conv=>whnf);repeat(refine .intro rfl ?_;conv=>whnf))
              (refine ⟨by omega, (by first | omega | (simp; done) | (simp; omega) | (simp only [ll]; omega)), ?_⟩; ((conv=>whnf);repeat(refine .intro rfl ?_;conv=>whnf)))
              refine ⟨_, rbl_atN i (by omega) q1, ?_⟩
              rw [hi']
              ((conv=>whnf);repeat(refine .intro rfl ?_;conv=>whnf))
              (refine ⟨by omega, (by first | omega | (simp; done) | (simp; omega) | (simp only [ll]; omega)), ?_⟩; ((conv=>whnf);repeat(refine .intro rfl ?_;conv=>whnf)))
              refine ⟨_, rbl_atN i (by omega) q1, ?_⟩
              ((conv=>whnf);repeat(refine .intro rfl ?_;conv=>whnf))
              (refine .inl ⟨by (unfold InR; rw [IntKind.wrap_i64]; omega), ?_⟩; ((conv=>whnf);repeat(refine .intro rfl ?_;conv=>whnf)))
              refine ⟨(false, i + 1), ⟨by omega, g1, g2⟩, by dsimp only; omega, leB_envH (by (repeat' (first | exact trivial | refine And.intro rfl ?_))) ?_⟩
              rw [show 0 + ((i : Nat) : Int).toNat = i by omega, rbl_set, eset]
              rfl
            · ((conv=>whnf);repeat(refine .intro rfl ?_;conv=>whnf))
              ((conv=>whnf);repeat(refine .intro rfl ?_;conv=>whnf))
              (refine ⟨by omega, (by first | omega | (simp; done) | (simp; omega) | (simp only [ll]; omega)), ?_⟩; ((conv=>whnf);repeat(refine .intro rfl ?_;conv=>whnf)))
              refine ⟨_, rbl_atN i (by omega) q1, ?_⟩
              rw [eat, zi]
              ((conv=>whnf);repeat(refine .intro rfl ?_;conv=>whnf))
              (refine ⟨by omega, (by first | omega | (simp; done) | (simp; omega) | (simp only [ll]; omega)), ?_⟩; ((conv=>whnf);repeat(refine .intro rfl ?_;conv=>whnf)))
              refine ⟨_, rbl_atN i (by omega) q1, ?_⟩
              rw [hi']
              ((conv=>whnf);repeat(refine .intro rfl ?_;conv=>whnf))
              (refine ⟨by omega, (by first | omega | (simp; done) | (simp; omega) | (simp only [ll]; omega)), ?_⟩; ((conv=>whnf);repeat(refine .intro rfl ?_;conv=>whnf)))
              refine ⟨_, rbl_atN i (by omega) q1, ?_⟩
              ((conv=>whnf);repeat(refine .intro rfl ?_;conv=>whnf))
              (refine .inl ⟨by (unfold InR; rw [IntKind.wrap_i64]; omega), ?_⟩; ((conv=>whnf);repeat(refine .intro rfl ?_;conv=>whnf)))
              refine ⟨(true, i + 1), ⟨by omega, g1, g2⟩, by dsimp only; omega, leB_envH (by (repeat' (first | exact trivial | refine And.intro rfl ?_))) ?_⟩
              rw [show 0 + ((i : Nat) : Int).toNat = i by omega, rbl_set, eset]
              rfl
      · have q1 : i = g.length := by have : ¬ i < g.length := by ((try simp only[oo,reduceCtorEq]at*)<;>omega)
                                     omega
        subst q1
        have hz1 : ∀ v, (z v && hit0 v) = true → z v = true := fun v hv => by rw [Bool.and_eq_true] at hv; exact hv.1
        rw [rbl_congr (g' := fun v => z v && hit0 v) fun v hv => if_pos hv]
        (refine .inl ⟨by (unfold InR; rw [IntKind.wrap_i64]; omega), ?_⟩; ((conv=>whnf);repeat(refine .intro rfl ?_;conv=>whnf)))
        refine ⟨(m', k + 1, fun v => z v && hit0 v), ⟨by omega, fun v hv => ?_, fun v hv => hzz v (hz1 v hv), fun q => ?_, fun q => ?_⟩, by dsimp only; omega, ?_⟩
        · show (z v && hit0 v) = true
          rw [hfw v hv, (hdone v).2 (fw_hit hfw hS hv)]; rfl
        · rcases h1 q with h | ⟨v, v1, v2, v3⟩
          · exact Nat.lt_of_le_of_lt (cz_mono hz1) (hmt h)
          · exact Nat.lt_of_lt_of_le (cz_lt v1 hz1 v2 (by show (z v && hit0 v) = false; rw [v3, Bool.and_false])) (cz_mono hzz)
        · obtain ⟨a1, a2⟩ := h2 q
          obtain ⟨b1, b2⟩ := hmf a1
          have ez : (fun v => z v && hit0 v) = z := by
            funext v
            cases hv : z v with
            | false => rfl
            | true => show hit0 v = true; exact a2 v (hzl v hv) hv
          rw [ez]
          refine ⟨b1, fun j hj v hv => ?_⟩
          by_cases e : j = k
          · subst e; rw [hSe]; exact (hdone v).1 (a2 v (hzl v hv) hv)
          · exact b2 j (by omega) v hv
        · (refine leB_close 1 (by simp) rfl ?_ ?_ <;> (repeat' (first | exact trivial | exact rfl | exact DeepM.refl _ | exact DeepML.refl _ | exact DeepMLL.refl _ | refine And.intro ?_ ?_ | (simp [Under, UnderL, UnderLL, -List.map_take, -List.map_drop]; done))))
    · ((conv=>whnf);repeat(refine .intro rfl ?_;conv=>whnf))
      refine pwp_for [0, 1, 5, 7, 8, 9] (fun ((r, i, hit) : Bool × Nat × (Nat → Bool)) => [(10, .sc (.bool r)), (11, .sc (.int .i64 i))]) (fun (r, i, hit) => [(1, .vec true 0 1 (rbl g.length hit))])
        (fun (r, i, hit) => i ≤ g.length ∧ HitI g z S hit ∧ (∀ v, hit0 v = true → hit v = true) ∧ (r = true → unseen hit g.length < unseen hit0 g.length) ∧ (r = false → ∀ b, b < i → HitC g z S hit b (g.getD b []).length)) (fun (r, i, hit) => g.length - i) (false, 0, hit0) ?_
      ((conv=>whnf);repeat(refine .intro rfl ?_;conv=>whnf))
      refine ⟨⟨by omega, hH0, fun v h => h, fun q => (by cases q), fun _ b hb => by omega⟩, by (repeat' (first | exact trivial | refine And.intro rfl ?_)), rfl, ?_⟩
      rintro ⟨r, i, hit⟩ ⟨hi, hH, hmo, hrt, hrf⟩
      ((conv=>whnf);repeat(refine .intro rfl ?_;conv=>whnf))
      (apply rd_sound; focus (repeat' constructor))
      ((conv=>whnf);repeat(refine .intro rfl ?_;conv=>whnf))
      rw [List.length_map]
      (refine ifK_split (fun q1 => ?_) (fun q1 => ?_) <;> (rw [q1]; ((conv=>whnf);repeat(refine .intro rfl ?_;conv=>whnf))))
      · have q1 : i < g.length := by ((try simp only[oo,reduceCtorEq]at*)<;>omega)
        have hgF := hF.at i
        refine pwp_for [0, 1, 5, 7, 8, 9, 11] (fun ((r, j, hit) : Bool × Nat × (Nat → Bool)) => [(10, .sc (.bool r)), (12, .sc (.int .i64 j))]) (fun (r, j, hit) => [(1, .vec true 0 1 (rbl g.length hit))])
          (fun (r, j, hit) => j ≤ (g.getD i []).length ∧ HitI g z S hit ∧ (∀ v, hit0 v = true → hit v = true) ∧ (r = true → unseen hit g.length < unseen hit0 g.length) ∧ (r = false → (∀ b, b < i → HitC g z S hit b (g.getD b []).length) ∧ HitC g z S hit i j)) (fun (r, j, hit) => (g.getD i []).length - j) (r, 0, hit) ?_
        ((conv=>whnf);repeat(refine .intro rfl ?_;conv=>whnf))
        refine ⟨⟨by omega, hH, hmo, hrt, fun q => ⟨hrf q, fun _ j hj => by omega⟩⟩, by (repeat' (first | exact trivial | refine And.intro rfl ?_)), rfl, ?_⟩
        clear hH hmo hrt hrf hH0 hC0 hmt hmf hfw hfw0
        rintro ⟨r, j, hit⟩ ⟨hj, hH, hmo, hrt, hrf⟩
        have out : (j = (g.getD i []).length ∨ z i = false ∨ hit i = true) → r = false → ∀ b, b < i + 1 → HitC g z S hit b (g.getD b []).length := fun h q b hb => by
          obtain ⟨c1, c2⟩ := hrf q
          by_cases e : b = i
          · subst e
            rcases h with h | h | h
            · rw [← h]; exact c2
            · intro hz'; rw [h] at hz'; cases hz'
            · exact fun _ _ _ _ _ _ => h
          · exact c1 b (by omega)
        ((conv=>whnf);repeat(refine .intro rfl ?_;conv=>whnf))
        (apply rd_sound; focus (repeat' constructor))
        ((conv=>whnf);repeat(refine .intro rfl ?_;conv=>whnf))
        refine ⟨by omega, _, gridD_at (k := i) (by omega) q1, ?_⟩
        ((conv=>whnf);repeat(refine .intro rfl ?_;conv=>whnf))
        rw [List.length_map]
        (refine ifK_split (fun q2 => ?_) (fun q2 => ?_) <;> (rw [q2]; ((conv=>whnf);repeat(refine .intro rfl ?_;conv=>whnf))))
        · have q2 : j < (g.getD i []).length := by ((try simp only[oo,reduceCtorEq]at*)<;>omega)
          (refine ⟨by omega, (by first | omega | (simp; done) | (simp; omega) | (simp only [ll]; omega)), ?_⟩; ((conv=>whnf);repeat(refine .intro rfl ?_;conv=>whnf)))
          refine ⟨_, rbl_atN i (by omega) q1, ?_⟩
          cases zi : z i
          · ((conv=>whnf);repeat(refine .intro rfl ?_;conv=>whnf))
            have w6h : j = (g.getD i []).length ∨ z i = false ∨ hit i = true := .inr (.inl zi)
            (refine .inl ⟨by (unfold InR; rw [IntKind.wrap_i64]; omega), ?_⟩; ((conv=>whnf);repeat(refine .intro rfl ?_;conv=>whnf)))
            exact ⟨(r, i + 1, hit), ⟨by omega, hH, hmo, hrt, out w6h⟩, by dsimp only; omega, leB_envH (by (repeat' (first | exact trivial | refine And.intro rfl ?_))) rfl⟩
          · ((conv=>whnf);repeat(refine .intro rfl ?_;conv=>whnf))
            (refine ⟨by omega, (by first | omega | (simp; done) | (simp; omega) | (simp only [ll]; omega)), ?_⟩; ((conv=>whnf);repeat(refine .intro rfl ?_;conv=>whnf)))
            refine ⟨_, rbl_atN i (by omega) q1, ?_⟩
            cases hi' : hit i
            · ((conv=>whnf);repeat(refine .intro rfl ?_;conv=>whnf))
              have hx := inB_mem (hrow i) (mem_getD q2)
              have hxm := mem_getD q2
              refine ⟨by omega, _, gridD_at (k := i) (by omega) q1, ?_⟩
              ((conv=>whnf);repeat(refine .intro rfl ?_;conv=>whnf))
              refine ⟨by omega, _, intsD_at (l := g.getD i []) (k := j) (by omega) q2, ?_⟩
              ((conv=>whnf);repeat(refine .intro rfl ?_;conv=>whnf))
              have skip : (z ((g.getD i []).getD j 0).toNat = true → S ((g.getD i []).getD j 0).toNat = false ∧ hit ((g.getD i []).getD j 0).toNat = false) → r = false → (∀ b, b < i → HitC g z S hit b (g.getD b []).length) ∧ HitC g z S hit i (j + 1) := fun h q => by
                obtain ⟨c1, c2⟩ := hrf q
                refine ⟨c1, fun hz' j' hj' hjl hzt hor => ?_⟩
                by_cases e : j' = j
                · subst e
                  obtain ⟨d1, d2⟩ := h hzt
                  rw [d1, d2] at hor
                  simp at hor
                · exact c2 hz' j' (by omega) hjl hzt hor
              have hone := fun (h : z ((g.getD i []).getD j 0).toNat = true) (hs : S ((g.getD i []).getD j 0).toNat = true) => Hit.one (g := g) (S := S) zi hxm h hs
              have hmore := fun (h : z ((g.getD i []).getD j 0).toNat = true) (hs : hit ((g.getD i []).getD j 0).toNat = true) => Hit.more (g := g) (S := S) zi hxm h (hH.sound _ hs)
              generalize (g.getD i []).getD j 0 = x at *
              obtain ⟨to, rfl⟩ : ∃ to : Nat, x = to := ⟨x.toNat, by omega⟩
              rw [Int.toNat_natCast] at skip hone hmore
              have hto : to < g.length := by omega
              have hlt := unseen_lt (s := hit) (s' := mark hit i) q1 (fun v _ hv => mark_of hv) hi' (mark_self _ _)
              have hle := unseen_mono (n := g.length) (fun v _ hv => hmo v hv)
              (refine ⟨by omega, (by first | omega | (simp; done) | (simp; omega) | (simp only [ll]; omega)), ?_⟩; ((conv=>whnf);repeat(refine .intro rfl ?_;conv=>whnf)))
              refine ⟨_, rbl_atN to (by omega) hto, ?_⟩
              cases zt : z to
              · ((conv=>whnf);repeat(refine .intro rfl ?_;conv=>whnf))
                (refine .inl ⟨by (unfold InR; rw [IntKind.wrap_i64]; omega), ?_⟩; ((conv=>whnf);repeat(refine .intro rfl ?_;conv=>whnf)))
                exact ⟨(r, j + 1, hit), ⟨by omega, hH, hmo, hrt, skip fun q => by rw [zt] at q; cases q⟩, by dsimp only; omega, leB_envH (by (repeat' (first | exact trivial | refine And.intro rfl ?_))) rfl⟩
              · ((conv=>whnf);repeat(refine .intro rfl ?_;conv=>whnf))
                refine ⟨by omega, _, hdb _ (by omega), ?_⟩
                ((conv=>whnf);repeat(refine .intro rfl ?_;conv=>whnf))
                refine ⟨by omega, _, rbl_atN to (by omega) hto, ?_⟩
                cases st : S to
                · ((conv=>whnf);repeat(refine .intro rfl ?_;conv=>whnf))
                  (refine ⟨by omega, (by first | omega | (simp; done) | (simp; omega) | (simp only [ll]; omega)), ?_⟩; ((conv=>whnf);repeat(refine .intro rfl ?_;conv=>whnf)))
                  refine ⟨_, rbl_atN to (by omega) hto, ?_⟩
                  cases ht : hit to
                  · ((conv=>whnf);repeat(refine .intro rfl ?_;conv=>whnf))
                    (refine .inl ⟨by (unfold InR; rw [IntKind.wrap_i64]; omega), ?_⟩; ((conv=>whnf);repeat(refine .intro rfl ?_;conv=>whnf)))
                    exact ⟨(r, j + 1, hit), ⟨by omega, hH, hmo, hrt, skip fun _ => ⟨st, ht⟩⟩, by dsimp only; omega, leB_envH (by (repeat' (first | exact trivial | refine And.intro rfl ?_))) rfl⟩
                  · have hH' : HitI g z S (mark hit i) := ⟨fun v hv => by
                      rcases mark_iff.1 hv with rfl | hv
                      · exact hmore zt ht
                      · exact hH.sound v hv⟩
                    ((conv=>whnf);repeat(refine .intro rfl ?_;conv=>whnf))
                    (refine ⟨by omega, (by first | omega | (simp; done) | (simp; omega) | (simp only [ll]; omega)), ?_⟩; ((conv=>whnf);repeat(refine .intro rfl ?_;conv=>whnf)))
                    refine ⟨_, rbl_atN i (by omega) q1, ?_⟩
                    ((conv=>whnf);repeat(refine .intro rfl ?_;conv=>whnf))
                    (refine .inl ⟨by (unfold InR; rw [IntKind.wrap_i64]; omega), ?_⟩; ((conv=>whnf);repeat(refine .intro rfl ?_;conv=>whnf)))
                    refine ⟨(true, j + 1, mark hit i), ⟨by omega, hH', fun v hv => mark_of (hmo v hv), fun _ => by omega, fun q => by cases q⟩, by dsimp only; omega, leB_envH (by (repeat' (first | exact trivial | refine And.intro rfl ?_))) ?_⟩
                    rw [rbl_mark (v := i) (by omega)]
                    rfl
                · have hH' : HitI g z S (mark hit i) := ⟨fun v hv => by
                    rcases mark_iff.1 hv with rfl | hv
                    · exact hone zt st
                    · exact hH.sound v hv⟩
                  ((conv=>whnf);repeat(refine .intro rfl ?_;conv=>whnf))
                  (refine ⟨by omega, (by first | omega | (simp; done) | (simp; omega) | (simp only [ll]; omega)), ?_⟩; ((conv=>whnf);repeat(refine .intro rfl ?_;conv=>whnf)))
                  refine ⟨_, rbl_atN i (by omega) q1, ?_⟩
                  ((conv=>whnf);repeat(refine .intro rfl ?_;conv=>whnf))
                  (refine .inl ⟨by (unfold InR; rw [IntKind.wrap_i64]; omega), ?_⟩; ((conv=>whnf);repeat(refine .intro rfl ?_;conv=>whnf)))
                  refine ⟨(true, j + 1, mark hit i), ⟨by omega, hH', fun v hv => mark_of (hmo v hv), fun _ => by omega, fun q => by cases q⟩, by dsimp only; omega, leB_envH (by (repeat' (first | exact trivial | refine And.intro rfl ?_))) ?_⟩
                  rw [rbl_mark (v := i) (by omega)]
                  rfl
            · ((conv=>whnf);repeat(refine .intro rfl ?_;conv=>whnf))
              have w6h : j = (g.getD i []).length ∨ z i = false ∨ hit i = true := .inr (.inr hi')
              (refine .inl ⟨by (unfold InR; rw [IntKind.wrap_i64]; omega), ?_⟩; ((conv=>whnf);repeat(refine .intro rfl ?_;conv=>whnf)))
              exact ⟨(r, i + 1, hit), ⟨by omega, hH, hmo, hrt, out w6h⟩, by dsimp only; omega, leB_envH (by (repeat' (first | exact trivial | refine And.intro rfl ?_))) rfl⟩
        · have q2 : j = (g.getD i []).length := by have : ¬ j < (g.getD i []).length := by ((try simp only[oo,reduceCtorEq]at*)<;>omega)
                                                   omega
          have w6h : j = (g.getD i []).length ∨ z i = false ∨ hit i = true := .inl q2
          ((conv=>whnf);repeat(refine .intro rfl ?_;conv=>whnf))
          (refine .inl ⟨by (unfold InR; rw [IntKind.wrap_i64]; omega), ?_⟩; ((conv=>whnf);repeat(refine .intro rfl ?_;conv=>whnf)))
          exact ⟨(r, i + 1, hit), ⟨by omega, hH, hmo, hrt, out w6h⟩, by dsimp only; omega, leB_envH (by (repeat' (first | exact trivial | refine And.intro rfl ?_))) rfl⟩
      · have q1 : i = g.length := by have : ¬ i < g.length := by ((try simp only[oo,reduceCtorEq]at*)<;>omega)
                                     omega
        subst q1
        refine ⟨(r, hit), ⟨hH, hrf⟩, ?_, leB_envH (by (repeat' (first | exact trivial | refine And.intro rfl ?_))) rfl⟩
        dsimp only
        cases r
        · simp; omega
        · have := hrt rfl
          simp; omega
  · have q0 : k = F.length := by have : ¬ k < F.length := by ((try simp only[oo,reduceCtorEq]at*)<;>omega)
                                 omega
    subst q0
    refine ⟨(m, z), ⟨hfw, hzl, fun q v hv S hS => ?_⟩, ?_, leB_envH (by (repeat' (first | exact trivial | refine And.intro rfl ?_))) rfl⟩
    · obtain ⟨j, hj, rfl⟩ := List.mem_iff_getElem.1 hS
      have := (hmf q).2 j hj v hv
      rw [List.getD_eq_getElem?_getD, List.getElem?_eq_getElem hj] at this
      exact this
    · dsimp only
      cases m
      · simp; omega
      · have := hmt rfl
        simp; omega
def c36z_1 : PC := .seq (.seq (.ops [⟨some 18,.move (.tmp 6),none,0⟩,
 ⟨some 19,.move (.tmp 5),none,0⟩,
 ⟨some 20,.len (.tmp 19),none,0⟩,
 ⟨some 21,.bin .lss (.tmp 18) (.tmp 20),none,0⟩] false) (.cond (.tmp 21) (.skip) (.exit 0))) (.seq (.block 1 (.ops [⟨some 24,.move (.tmp 5),none,0⟩,
 ⟨some 25,.move (.tmp 6),none,0⟩,
 ⟨some 26,.iaddr 1 (.tmp 24) (.tmp 25),none,0⟩,
 ⟨none,.store 1 (.tmp 26) (.const (.bool true)),none,0⟩] false)) (.ops [⟨some 22,.move (.tmp 6),none,0⟩,
 ⟨some 23,.bin .add (.tmp 22) (.const (.int .i64 1)),none,0⟩,
 ⟨some 6,.move (.tmp 23),none,0⟩] false))
def c36z_6 : PC := .seq (.seq (.ops [⟨some 50,.move (.tmp 12),none,0⟩,
 ⟨some 51,.move (.tmp 0),none,0⟩,
 ⟨some 52,.move (.tmp 11),none,0⟩,
 ⟨some 53,.iaddr 1 (.tmp 51) (.tmp 52),none,0⟩,
 ⟨some 54,.load1 (.tmp 53),none,0⟩,
 ⟨some 55,.len (.tmp 54),none,0⟩,
 ⟨some 56,.bin .lss (.tmp 50) (.tmp 55),none,0⟩,
 ⟨some 57,.move (.tmp 56),none,0⟩,
 ⟨some 58,.move (.tmp 5),some (57,true),0⟩,
 ⟨some 59,.move (.tmp 11),some (57,true),0⟩,
 ⟨some 60,.iaddr 1 (.tmp 58) (.tmp 59),some (57,true),0⟩,
 ⟨some 61,.load1 (.tmp 60),some (57,true),0⟩,
 ⟨some 62,.pick (.tmp 57) (.tmp 61) (.const (.bool false)),none,0⟩,
 ⟨some 63,.move (.tmp 62),none,0⟩,
 ⟨some 64,.move (.tmp 9),some (63,true),0⟩,
 ⟨some 65,.move (.tmp 11),some (63,true),0⟩,
 ⟨some 66,.iaddr 1 (.tmp 64) (.tmp 65),some (63,true),0⟩,
 ⟨some 67,.load1 (.tmp 66),some (63,true),0⟩,
 ⟨some 68,.un .not (.tmp 67),some (63,true),0⟩,
 ⟨some 69,.pick (.tmp 63) (.tmp 68) (.const (.bool false)),none,0⟩] false) (.cond (.tmp 69) (.skip) (.exit 10))) (.seq (.block 11 (.seq (.ops [⟨some 72,.move (.tmp 0),none,0⟩,
 ⟨some 73,.move (.tmp 11),none,0⟩,
 ⟨some 74,.iaddr 1 (.tmp 72) (.tmp 73),none,0⟩,
 ⟨some 75,.load1 (.tmp 74),none,0⟩,
 ⟨some 76,.move (.tmp 12),none,0⟩,
 ⟨some 77,.iaddr 1 (.tmp 75) (.tmp 76),none,0⟩,
 ⟨some 78,.load1 (.tmp 77),none,0⟩,
 ⟨some 13,.move (.tmp 78),none,0⟩] false) (.seq (.ops [⟨some 79,.move (.tmp 5),none,0⟩,
 ⟨some 80,.move (.tmp 13),none,0⟩,
 ⟨some 81,.iaddr 1 (.tmp 79) (.tmp 80),none,0⟩,
 ⟨some 82,.load1 (.tmp 81),none,0⟩,
 ⟨some 83,.move (.tmp 82),none,0⟩,
 ⟨some 84,.move (.tmp 1),some (83,true),0⟩,
 ⟨some 85,.move (.tmp 8),some (83,true),0⟩,
 ⟨some 86,.iaddr 1 (.tmp 84) (.tmp 85),some (83,true),0⟩,
 ⟨some 87,.load1 (.tmp 86),some (83,true),0⟩,
 ⟨some 88,.move (.tmp 13),some (83,true),0⟩,
 ⟨some 89,.iaddr 1 (.tmp 87) (.tmp 88),some (83,true),0⟩,
 ⟨some 90,.load1 (.tmp 89),some (83,true),0⟩,
 ⟨some 91,.move (.tmp 90),some (83,true),0⟩,
 ⟨some 92,.move (.tmp 9),some (91,false),0⟩,
 ⟨some 93,.move (.tmp 13),some (91,false),0⟩,
 ⟨some 94,.iaddr 1 (.tmp 92) (.tmp 93),some (91,false),0⟩,
 ⟨some 95,.load1 (.tmp 94),some (91,false),0⟩,
 ⟨some 96,.pick (.tmp 91) (.const (.bool true)) (.tmp 95),some (83,true),0⟩,
 ⟨some 97,.pick (.tmp 83) (.tmp 96) (.const (.bool false)),none,0⟩] false) (.cond (.tmp 97) (.seq (.ops [⟨some 98,.move (.tmp 9),none,0⟩,
 ⟨some 99,.move (.tmp 11),none,0⟩,
 ⟨some 100,.iaddr 1 (.tmp 98) (.tmp 99),none,0⟩,
 ⟨none,.store 1 (.tmp 100) (.const (.bool true)),none,0⟩] false) (.ops [⟨some 10,.move (.const (.bool true)),none,0⟩] false)) (.skip))))) (.ops [⟨some 70,.move (.tmp 12),none,0⟩,
 ⟨some 71,.bin .add (.tmp 70) (.const (.int .i64 1)),none,0⟩,
 ⟨some 12,.move (.tmp 71),none,0⟩] false))
def c36z_5 : PC := .seq (.seq (.ops [⟨some 44,.move (.tmp 11),none,0⟩,
 ⟨some 45,.move (.tmp 0),none,0⟩,
 ⟨some 46,.len (.tmp 45),none,0⟩,
 ⟨some 47,.bin .lss (.tmp 44) (.tmp 46),none,0⟩] false) (.cond (.tmp 47) (.skip) (.exit 8))) (.seq (.block 9 (.seq (.ops [⟨some 12,.move (.const (.int .i64 0)),none,0⟩] false) (.block 10 (.loop c36z_6)))) (.ops [⟨some 48,.move (.tmp 11),none,0⟩,
 ⟨some 49,.bin .add (.tmp 48) (.const (.int .i64 1)),none,0⟩,
 ⟨some 11,.move (.tmp 49),none,0⟩] false))
def c36z_4 : PC := .seq (.seq (.ops [⟨some 43,.move (.tmp 10),none,0⟩] false) (.cond (.tmp 43) (.skip) (.exit 6))) (.block 7 (.seq (.ops [⟨some 10,.move (.const (.bool false)),none,0⟩] false) (.seq (.ops [⟨some 11,.move (.const (.int .i64 0)),none,0⟩] false) (.block 8 (.loop c36z_5)))))
def c36z_7 : PC := .seq (.seq (.ops [⟨some 101,.move (.tmp 14),none,0⟩,
 ⟨some 102,.move (.tmp 0),none,0⟩,
 ⟨some 103,.len (.tmp 102),none,0⟩,
 ⟨some 104,.bin .lss (.tmp 101) (.tmp 103),none,0⟩] false) (.cond (.tmp 104) (.skip) (.exit 12))) (.seq (.block 13 (.seq (.ops [⟨some 107,.move (.tmp 7),none,0⟩,
 ⟨some 108,.move (.tmp 107),none,1⟩,
 ⟨some 109,.move (.tmp 5),some (108,false),3⟩,
 ⟨some 110,.move (.tmp 14),some (108,false),3⟩,
 ⟨some 111,.iaddr 1 (.tmp 109) (.tmp 110),some (108,false),15⟩,
 ⟨some 112,.load1 (.tmp 111),some (108,false),31⟩,
 ⟨some 113,.move (.tmp 5),some (108,false),3⟩,
 ⟨some 114,.move (.tmp 14),some (108,false),3⟩,
 ⟨some 115,.iaddr 1 (.tmp 113) (.tmp 114),some (108,false),195⟩,
 ⟨some 116,.load1 (.tmp 115),some (108,false),451⟩,
 ⟨some 117,.move (.tmp 116),some (108,false),963⟩,
 ⟨some 118,.move (.tmp 9),some (117,true),1987⟩,
 ⟨some 119,.move (.tmp 14),some (117,true),1987⟩,
 ⟨some 120,.iaddr 1 (.tmp 118) (.tmp 119),some (117,true),8131⟩,
 ⟨some 121,.load1 (.tmp 120),some (117,true),16323⟩,
 ⟨some 122,.pick (.tmp 117) (.tmp 121) (.const (.bool false)),some (108,false),32707⟩,
 ⟨some 123,.eqb true (.tmp 112) (.tmp 122),some (108,false),65535⟩,
 ⟨some 124,.pick (.tmp 108) (.const (.bool true)) (.tmp 123),none,131071⟩,
 ⟨some 7,.move (.tmp 124),none,262143⟩] true) (.ops [⟨some 125,.move (.tmp 5),none,0⟩,
 ⟨some 126,.move (.tmp 14),none,0⟩,
 ⟨some 127,.move (.tmp 5),none,0⟩,
 ⟨some 128,.move (.tmp 14),none,0⟩,
 ⟨some 129,.iaddr 1 (.tmp 127) (.tmp 128),none,0⟩,
 ⟨some 130,.load1 (.tmp 129),none,0⟩,
 ⟨some 131,.move (.tmp 130),none,0⟩,
 ⟨some 132,.move (.tmp 9),some (131,true),0⟩,
 ⟨some 133,.move (.tmp 14),some (131,true),0⟩,
 ⟨some 134,.iaddr 1 (.tmp 132) (.tmp 133),some (131,true),0⟩,
 ⟨some 135,.load1 (.tmp 134),some (131,true),0⟩,
 ⟨some 136,.pick (.tmp 131) (.tmp 135) (.const (.bool false)),none,0⟩,
 ⟨some 137,.iaddr 1 (.tmp 125) (.tmp 126),none,0⟩,
 ⟨none,.store 1 (.tmp 137) (.tmp 136),none,0⟩] false))) (.ops [⟨some 105,.move (.tmp 14),none,0⟩,
 ⟨some 106,.bin .add (.tmp 105) (.const (.int .i64 1)),none,0⟩,
 ⟨some 14,.move (.tmp 106),none,0⟩] false))
def c36z_3 : PC := .seq (.seq (.ops [⟨some 34,.move (.tmp 8),none,0⟩,
 ⟨some 35,.move (.tmp 1),none,0⟩,
 ⟨some 36,.len (.tmp 35),none,0⟩,
 ⟨some 37,.bin .lss (.tmp 34) (.tmp 36),none,0⟩] false) (.cond (.tmp 37) (.skip) (.exit 4))) (.seq (.block 5 (.seq (.ops [⟨some 40,.move (.tmp 0),none,0⟩,
 ⟨some 41,.len (.tmp 40),none,0⟩,
 ⟨some 42,.mslice 1 1 [(.bool false)] (.tmp 41) (.tmp 41),none,0⟩,
 ⟨some 9,.move (.tmp 42),none,0⟩] false) (.seq (.seq (.ops [⟨some 10,.move (.const (.bool true)),none,0⟩] false) (.block 6 (.loop c36z_4))) (.seq (.ops [⟨some 14,.move (.const (.int .i64 0)),none,0⟩] false) (.block 12 (.loop c36z_7)))))) (.ops [⟨some 38,.move (.tmp 8),none,0⟩,
 ⟨some 39,.bin .add (.tmp 38) (.const (.int .i64 1)),none,0⟩,
 ⟨some 8,.move (.tmp 39),none,0⟩] false))
def c36z_2 : PC := .seq (.seq (.ops [⟨some 33,.move (.tmp 7),none,0⟩] false) (.cond (.tmp 33) (.skip) (.exit 2))) (.block 3 (.seq (.ops [⟨some 7,.move (.const (.bool false)),none,0⟩] false) (.seq (.ops [⟨some 8,.move (.const (.int .i64 0)),none,0⟩] false) (.block 4 (.loop c36z_3)))))
def c36z : PC := .seq (.ops [⟨some 4,.move (.const (.slice none 0 0)),none,0⟩] false) (.seq (.ops [⟨some 15,.move (.tmp 0),none,0⟩,
 ⟨some 16,.len (.tmp 15),none,0⟩,
 ⟨some 17,.mslice 1 1 [(.bool false)] (.tmp 16) (.tmp 16),none,0⟩,
 ⟨some 5,.move (.tmp 17),none,0⟩] false) (.seq (.seq (.ops [⟨some 6,.move (.const (.int .i64 0)),none,0⟩] false) (.block 0 (.loop c36z_1))) (.seq (.seq (.ops [⟨some 27,.move (.tmp 1),none,0⟩,
 ⟨some 28,.len (.tmp 27),none,0⟩,
 ⟨some 29,.bin .eql (.tmp 28) (.const (.int .i64 0)),none,0⟩] false) (.cond (.tmp 29) (.stop (.ops [⟨some 30,.move (.tmp 5),none,0⟩,
 ⟨some 31,.append 1 1 (.const (.slice none 0 0)) (.tmp 30),none,0⟩,
 ⟨some 32,.bslice 1 1 [(.tmp 31)],none,0⟩,
 ⟨some 1,.move (.tmp 32),none,0⟩] false)) (.skip))) (.seq (.seq (.ops [⟨some 7,.move (.const (.bool true)),none,0⟩] false) (.block 2 (.loop c36z_2))) (.seq (.ops [⟨some 138,.move (.tmp 5),none,0⟩,
 ⟨some 4,.move (.tmp 138),none,0⟩] false) (.ret))))))
set_option maxRecDepth 100000 in
theorem c36z_ok : FunOK Try.prog 36 139 [.tmp 4] c36z := ⟨⟨Try.f36, Try.func36, rfl, by kernel_rfl, rfl, by kernel_rfl⟩⟩
set_option maxRecDepth 100000 in
theorem ref_Ways0 (g : List (List Int)) (hn : g.length ≤ 1000000) (hin0 : ∀ l ∈ g, inB l g.length = true) (hF : FitsG g)  : PCall Try.prog 36 [dgrid g, dbls g.length []] (dbl g.length (fwB g [])) := by
  have hrow := fun k => inB_row hin0 k
  have hin : ∀ v x, x ∈ g.getD v [] → x.toNat < g.length := fun v x hx => by have := inB_mem (hrow v) hx; omega
  refine pcall_intro c36z_ok (by simp) (by simp [PureL, pure_dgrid, pure_dbls]) ?_ (pure_dbl _ _)
  unfold dgrid dbls
  (apply rd_sound; focus (repeat' constructor))
  ((conv=>whnf);repeat(refine .intro rfl ?_;conv=>whnf))
  rw [List.length_map]
  refine ⟨by omega, by omega, by omega, ?_⟩
  rw [Int.toNat_natCast, show List.map D.sc [Value.bool false] = [D.sc (.bool false)] from rfl, rbl_rep]
  ((conv=>whnf);repeat(refine .intro rfl ?_;conv=>whnf))
  refine pwp_for [0, 1, 5] (fun k : Nat => [(6, .sc (.int .i64 k))]) (fun k => [(0, .vec true 0 1 (rbl g.length fun i => decide (i < k)))]) (fun k => k ≤ g.length) (fun k => g.length - k) 0 ?_
  ((conv=>whnf);repeat(refine .intro rfl ?_;conv=>whnf))
  refine ⟨by omega, by (repeat' (first | exact trivial | refine And.intro rfl ?_)), by simp; rfl, ?_⟩
  rintro k hk
  ((conv=>whnf);repeat(refine .intro rfl ?_;conv=>whnf))
  (apply rd_sound; focus (repeat' constructor))
  ((conv=>whnf);repeat(refine .intro rfl ?_;conv=>whnf))
  (refine ifK_split (fun q0 => ?_) (fun q0 => ?_) <;> (rw [q0]; ((conv=>whnf);repeat(refine .intro rfl ?_;conv=>whnf))))
  · have q0 : k < g.length := by ((try simp only[oo,reduceCtorEq]at*)<;>omega)
    (refine ⟨by omega, (by first | omega | (simp; done) | (simp; omega) | (simp only [ll]; omega)), ?_⟩; ((conv=>whnf);repeat(refine .intro rfl ?_;conv=>whnf)))
    refine ⟨_, rbl_atN k (by omega) q0, ?_⟩
    ((conv=>whnf);repeat(refine .intro rfl ?_;conv=>whnf))
    (refine .inl ⟨by (unfold InR; rw [IntKind.wrap_i64]; omega), ?_⟩; ((conv=>whnf);repeat(refine .intro rfl ?_;conv=>whnf)))
    refine ⟨k + 1, by omega, by dsimp only; omega, leB_envH (by (repeat' (first | exact trivial | refine And.intro rfl ?_))) ?_⟩
    rw [show 0 + ((k : Nat) : Int).toNat = k by omega, rbl_set, rbl_congr (g' := fun i => decide (i < k + 1)) fun i _ => by
      show (if i = k then true else decide (i < k)) = _
      by_cases e : i = k
      · rw [if_pos e]; simp; omega
      · rw [if_neg e, Bool.eq_iff_iff]; simp; omega]
    rfl
  have q0 : k = g.length := by have : ¬ k < g.length := by ((try simp only[oo,reduceCtorEq]at*)<;>omega)
                               omega
  subst q0
  obtain ⟨F, hFe⟩ : ∃ F : List (Nat → Bool), F = [allT] := ⟨_, rfl⟩
  have hne : F ≠ [] := by rw [hFe]; simp
  have hFl : F.length ≤ 1000000 := by rw [hFe]; simp
  rw [show dbl g.length (fwB g []) = dbl g.length (fwB g F) from dbl_congr fun i _ => by rw [hFe]; exact fw_nil g i]
  ((conv=>whnf);repeat(refine .intro rfl ?_;conv=>whnf))
  refine pwp_cut (fun _ : Unit => [(0, .lst 1 (g.map fun l => [dints l])), (1, .lst 1 (F.map fun S => [dbl g.length S])), (5, .own 0 0 0 g.length)]) (fun _ => [.vec true 0 1 (rbl g.length fun i => decide (i < g.length))]) (fun _ => True) ?_ ?_
  · (apply rd_sound; focus (repeat' constructor))
    ((conv=>whnf);repeat(refine .intro rfl ?_;conv=>whnf))
    refine ⟨by unfold sliceAppend; simp; omega, ?_⟩
    ((conv=>whnf);repeat(refine .intro rfl ?_;conv=>whnf))
    refine ⟨(), trivial, ?_⟩
    refine leB_close 1 (by simp) rfl ?_ ?_
    · refine ⟨.refl _, under_pure _ (pure_dgrid g), ?_, under_pure _ (pure_dbls _ _), .refl _, Nat.zero_lt_one, trivial⟩
      rw [hFe]
      refine .own _ _ _ _ _ _ _ _ rfl rfl (.cons _ _ _ _ (.cons _ _ _ _ (.own _ _ _ _ _ _ _ _ rfl rfl (deepMLL_eq ?_)) (.refl _)) (.refl _))
      rw [rbl_all, List.drop_zero, List.take_of_length_le (Nat.le_refl _)]
      exact rbl_congr fun i hi => by simp [hi, allT]
    · ((conv=>whnf);repeat(refine .intro rfl ?_;conv=>whnf))
      (repeat' (first | exact trivial | exact rfl | exact DeepM.refl _ | exact DeepML.refl _ | exact DeepMLL.refl _ | refine And.intro ?_ ?_ | (simp [Under, UnderL, UnderLL, -List.map_take, -List.map_drop]; done)))
  intro _ _
  (apply rd_sound; focus (repeat' constructor))
  ((conv=>whnf);repeat(refine .intro rfl ?_;conv=>whnf))
  clear hFe
  refine pwp_for [0, 1, 5] (fun ((m, z) : Bool × (Nat → Bool)) => [(7, .sc (.bool m))]) (fun (m, z) => [(0, .vec true 0 1 (rbl g.length z))])
    (fun (m, z) => (∀ v, Fw g F v → z v = true) ∧ (∀ v, z v = true → v < g.length) ∧ (m = false → ∀ v, z v = true → ∀ S, S ∈ F → Hit g z S v)) (fun (m, z) => if m = true then 1 + cz z g.length else 0) (true, fun i => decide (i < g.length)) ?_
  ((conv=>whnf);repeat(refine .intro rfl ?_;conv=>whnf))
  refine ⟨⟨fun v hv => by simpa using fw_lt hv, fun v hv => by simpa using hv, fun q => by cases q⟩, by (repeat' (first | exact trivial | refine And.intro rfl ?_)), rfl, ?_⟩
  rintro ⟨m, z0⟩ ⟨hfw0, hzl0, hst0⟩
  ((conv=>whnf);repeat(refine .intro rfl ?_;conv=>whnf))
  (apply rd_sound; focus (repeat' constructor))
  ((conv=>whnf);repeat(refine .intro rfl ?_;conv=>whnf))
  cases m
  · ((conv=>whnf);repeat(refine .intro rfl ?_;conv=>whnf))
    rw [rbl_congr (g' := fwB g F) fun i hi => fwB_eq ⟨fun q => hit_fw hin hzl0 (hst0 rfl) hne q, hfw0 i⟩]
    exact deep_vec rfl
  ((conv=>whnf);repeat(refine .intro rfl ?_;conv=>whnf))
  refine pwp_for [0, 1, 5] (fun ((m, k, z) : Bool × Nat × (Nat → Bool)) => [(7, .sc (.bool m)), (8, .sc (.int .i64 k))]) (fun (m, k, z) => [(0, .vec true 0 1 (rbl g.length z))])
    (fun (m, k, z) => k ≤ F.length ∧ (∀ v, Fw g F v → z v = true) ∧ (∀ v, z v = true → z0 v = true) ∧ (m = true → cz z g.length < cz z0 g.length) ∧ (m = false → (∀ v, z v = z0 v) ∧ ∀ j, j < k → ∀ v, z v = true → Hit g z (F.getD j noT) v)) (fun (m, k, z) => F.length - k) (false, 0, z0) ?_
  ((conv=>whnf);repeat(refine .intro rfl ?_;conv=>whnf))
  refine ⟨⟨by omega, hfw0, fun v h => h, fun q => (by cases q), fun _ => ⟨fun v => rfl, fun j hj => by omega⟩⟩, by (repeat' (first | exact trivial | refine And.intro rfl ?_)), rfl, ?_⟩
  clear hst0
  rintro ⟨m, k, z⟩ ⟨hk, hfw, hzz, hmt, hmf⟩
  have hzl : ∀ v, z v = true → v < g.length := fun v hv => hzl0 v (hzz v hv)
  ((conv=>whnf);repeat(refine .intro rfl ?_;conv=>whnf))
  (apply rd_sound; focus (repeat' constructor))
  ((conv=>whnf);repeat(refine .intro rfl ?_;conv=>whnf))
  rw [List.length_map]
  (refine ifK_split (fun q0 => ?_) (fun q0 => ?_) <;> (rw [q0]; ((conv=>whnf);repeat(refine .intro rfl ?_;conv=>whnf))))
  · have q0 : k < F.length := by ((try simp only[oo,reduceCtorEq]at*)<;>omega)
    have hS : F.getD k noT ∈ F := by rw [List.getD_eq_getElem?_getD, List.getElem?_eq_getElem q0]; exact List.getElem_mem q0
    have hdb := fun z (hz : z = k) => dbls_at (n := g.length) (F := F) hz q0
    generalize hSe : F.getD k noT = S at *
    rw [List.length_map]
    refine ⟨by omega, by omega, by omega, ?_⟩
    rw [Int.toNat_natCast, show List.map D.sc [Value.bool false] = [D.sc (.bool false)] from rfl, rbl_rep]
    ((conv=>whnf);repeat(refine .intro rfl ?_;conv=>whnf))
    refine pwp_for [0, 1, 5, 7, 8, 9] (fun ((r, hit) : Bool × (Nat → Bool)) => [(10, .sc (.bool r))]) (fun (r, hit) => [(1, .vec true 0 1 (rbl g.length hit))])
      (fun (r, hit) => HitI g z S hit ∧ (r = false → ∀ i, i < g.length → HitC g z S hit i (g.getD i []).length)) (fun (r, hit) => if r = true then 1 + unseen hit g.length else 0) (true, noT) ?_
    ((conv=>whnf);repeat(refine .intro rfl ?_;conv=>whnf))
    refine ⟨⟨⟨fun v hv => by cases hv⟩, fun q => by cases q⟩, by (repeat' (first | exact trivial | refine And.intro rfl ?_)), rfl, ?_⟩
    rintro ⟨r, hit0⟩ ⟨hH0, hC0⟩
    ((conv=>whnf);repeat(refine .intro rfl ?_;conv=>whnf))
    (apply rd_sound; focus (repeat' constructor))
    ((conv=>whnf);repeat(refine .intro rfl ?_;conv=>whnf))
    cases r
    · have hdone := hit_done hH0 hzl (hC0 rfl)
      ((conv=>whnf);repeat(refine .intro rfl ?_;conv=>whnf))
      refine pwp_for [0, 1, 5, 8, 9] (fun ((m, i) : Bool × Nat) => [(7, .sc (.bool m)), (14, .sc (.int .i64 i))]) (fun (m, i) => [(0, .vec true 0 1 (rbl g.length fun v => if v < i then z v && hit0 v else z v))])
        (fun (m', i) => i ≤ g.length ∧ (m' = true → m = true ∨ ∃ v, v < i ∧ z v = true ∧ hit0 v = false) ∧ (m' = false → m = false ∧ ∀ v, v < i → z v = true → hit0 v = true)) (fun (m, i) => g.length - i) (m, 0) ?_
      ((conv=>whnf);repeat(refine .intro rfl ?_;conv=>whnf))
      refine ⟨⟨by omega, fun q => .inl q, fun q => ⟨q, fun v hv => by omega⟩⟩, by (repeat' (first | exact trivial | refine And.intro rfl ?_)), by simp; rfl, ?_⟩
      rintro ⟨m', i⟩ ⟨hi, h1, h2⟩
      ((conv=>whnf);repeat(refine .intro rfl ?_;conv=>whnf))
      (apply rd_sound; focus (repeat' constructor))
      ((conv=>whnf);repeat(refine .intro rfl ?_;conv=>whnf))
      rw [List.length_map]
      (refine ifK_split (fun q1 => ?_) (fun q1 => ?_) <;> (rw [q1]; ((conv=>whnf);repeat(refine .intro rfl ?_;conv=>whnf))))
      · have q1 : i < g.length := by ((try simp only[oo,reduceCtorEq]at*)<;>omega)
        have eat : (if i < i then z i && hit0 i else z i) = z i := if_neg (by omega)
        have eset : rbl g.length (fun v => if v = i then (z i && hit0 i) else (if v < i then z v && hit0 v else z v)) = rbl g.length (fun v => if v < i + 1 then z v && hit0 v else z v) := rbl_congr fun v _ => by
          by_cases e : v = i
          · subst e; rw [if_pos rfl, if_pos (by omega)]
          · rw [if_neg e]
            by_cases e2 : v < i
            · rw [if_pos e2, if_pos (by omega)]
            · rw [if_neg e2, if_neg (by omega)]
        cases zi : z i
        · rw [zi, Bool.false_and] at eset
          have g1 : m' = true → m = true ∨ ∃ v, v < i + 1 ∧ z v = true ∧ hit0 v = false := fun q => by
            rcases h1 q with h | ⟨v, v1, v2, v3⟩
            · exact .inl h
            · exact .inr ⟨v, by omega, v2, v3⟩
          have g2 : m' = false → m = false ∧ ∀ v, v < i + 1 → z v = true → hit0 v = true := fun q => by
            refine ⟨(h2 q).1, fun v hv hzv => ?_⟩
            by_cases e : v = i
            · subst e; rw [zi] at hzv; cases hzv
            · exact (h2 q).2 v (by omega) hzv
          cases m'
          · ((conv=>whnf);repeat(refine .intro rfl ?_;conv=>whnf))
            (refine ⟨by omega, (by first | omega | (simp; done) | (simp; omega) | (simp only [ll]; omega)), ?_⟩; ((conv=>whnf);repeat(refine .intro rfl ?_;conv=>whnf)))
            refine ⟨_, rbl_atN i (by omega) q1, ?_⟩
            rw [eat, zi]
            ((conv=>whnf);repeat(refine .intro rfl ?_;conv=>whnf))
            ((conv=>whnf);repeat(refine .intro rfl ?_;conv=>whnf))
            (refine ⟨by omega, (by first | omega | (simp; done) | (simp; omega) | (simp only [ll]; omega)), ?_⟩; ((conv=>whnf);repeat(refine .intro rfl ?_;conv=>whnf)))
            refine ⟨_, rbl_atN i (by omega) q1, ?_⟩
            rw [eat, zi]
            ((conv=>whnf);repeat(refine .intro rfl ?_;conv=>whnf))
            ((conv=>whnf);repeat(refine .intro rfl ?_;conv=>whnf))
            (refine ⟨by omega, (by first | omega | (simp; done) | (simp; omega) | (simp only [ll]; omega)), ?_⟩; ((conv=>whnf);repeat(refine .intro rfl ?_;conv=>whnf)))
            refine ⟨_, rbl_atN i (by omega) q1, ?_⟩
            rw [eat, zi]
            ((conv=>whnf);repeat(refine .intro rfl ?_;conv=>whnf))
            (refine ⟨by omega, (by first | omega | (simp; done) | (simp; omega) | (simp only [ll]; omega)), ?_⟩; ((conv=>whnf);repeat(refine .intro rfl ?_;conv=>whnf)))
            refine ⟨_, rbl_atN i (by omega) q1, ?_⟩
            ((conv=>whnf);repeat(refine .intro rfl ?_;conv=>whnf))
            (refine .inl ⟨by (unfold InR; rw [IntKind.wrap_i64]; omega), ?_⟩; ((conv=>whnf);repeat(refine .intro rfl ?_;conv=>whnf)))
            refine ⟨(false, i + 1), ⟨by omega, g1, g2⟩, by dsimp only; omega, leB_envH (by (repeat' (first | exact trivial | refine And.intro rfl ?_))) ?_⟩
            rw [show 0 + ((i : Nat) : Int).toNat = i by omega, rbl_set, eset]
            rfl
          · ((conv=>whnf);repeat(refine .intro rfl ?_;conv=>whnf))
            ((conv=>whnf);repeat(refine .intro rfl ?_;conv=>whnf))
            (refine ⟨by omega, (by first | omega | (simp; done) | (simp; omega) | (simp only [ll]; omega)), ?_⟩; ((conv=>whnf);repeat(refine .intro rfl ?_;conv=>whnf)))
            refine ⟨_, rbl_atN i (by omega) q1, ?_⟩
            rw [eat, zi]
            ((conv=>whnf);repeat(refine .intro rfl ?_;conv=>whnf))
            (refine ⟨by omega, (by first | omega | (simp; done) | (simp; omega) | (simp only [ll]; omega)), ?_⟩; ((conv=>whnf);repeat(refine .intro rfl ?_;conv=>whnf)))
            refine ⟨_, rbl_atN i (by omega) q1, ?_⟩
            ((conv=>whnf);repeat(refine .intro rfl ?_;conv=>whnf))
            (refine .inl ⟨by (unfold InR; rw [IntKind.wrap_i64]; omega), ?_⟩; ((conv=>whnf);repeat(refine .intro rfl ?_;conv=>whnf)))
            refine ⟨(true, i + 1), ⟨by omega, g1, g2⟩, by dsimp only; omega, leB_envH (by (repeat' (first | exact trivial | refine And.intro rfl ?_))) ?_⟩
            rw [show 0 + ((i : Nat) : Int).toNat = i by omega, rbl_set, eset]
            rfl
        · cases hi' : hit0 i
          · rw [zi, hi', Bool.true_and] at eset
            have g1 : true = true → m = true ∨ ∃ v, v < i + 1 ∧ z v = true ∧ hit0 v = false := fun _ => .inr ⟨i, by omega, zi, hi'⟩
            cases m'
            · ((conv=>whnf);repeat(refine .intro rfl ?_;conv=>whnf))
              (refine ⟨by omega, (by first | omega | (simp; done) | (simp; omega) | (simp only [ll]; omega)), ?_⟩; ((conv=>whnf);repeat(refine .intro rfl ?_;conv=>whnf)))
              refine ⟨_, rbl_atN i (by omega) q1, ?_⟩
              rw [eat, zi]
              ((conv=>whnf);repeat(refine .intro rfl ?_;conv=>whnf))
              ((conv=>whnf);repeat(refine .intro rfl ?_;conv=>whnf))
              (refine ⟨by omega, (by first | omega | (simp; done) | (simp; omega) | (simp only [ll]; omega)), ?_⟩; ((conv=>whnf);repeat(refine .intro rfl ?_;conv=>whnf)))
              refine ⟨_, rbl_atN i (by omega) q1, ?_⟩
              rw [eat, zi]
              ((conv=>whnf);repeat(refine .intro rfl ?_;conv=>whnf))
              (refine ⟨by omega, (by first | omega | (simp; done) | (simp; omega) | (simp only [ll]; omega)), ?_⟩; ((conv=>whnf);repeat(refine .intro rfl ?_;conv=>whnf)))
              refine ⟨_, rbl_atN i (by omega) q1, ?_⟩
              rw [hi']
              ((conv=>whnf);repeat(refine .intro rfl ?_;conv=>whnf))
              ((conv=>whnf);repeat(refine .intro rfl ?_;conv=>whnf))
              (refine ⟨by omega, (by first | omega | (simp; done) | (simp; omega) | (simp only [ll]; omega)), ?_⟩; ((conv=>whnf);repeat(refine .intro rfl ?_;conv=>whnf)))
              refine ⟨_, rbl_atN i (by omega) q1, ?_⟩
              rw [eat, zi]
              ((conv=>whnf);repeat(refine .intro rfl ?_;conv=>whnf))
              (refine ⟨by omega, (by first | omega | (simp; done) | (simp; omega) | (simp only [ll]; omega)), ?_⟩; ((conv=>whnf);repeat(refine .intro rfl ?_;conv=>whnf)))
              refine ⟨_, rbl_atN i (by omega) q1, ?_⟩
              rw [hi']
              ((conv=>whnf);repeat(refine .intro rfl ?_;conv=>whnf))
              (refine ⟨by omega, (by first | omega | (simp; done) | (simp; omega) | (simp only [ll]; omega)), ?_⟩; ((conv=>whnf);repeat(refine .intro rfl ?_;conv=>whnf)))
              refine ⟨_, rbl_atN i (by omega) q1, ?_⟩
              ((conv=>whnf);repeat(refine .intro rfl ?_;conv=>whnf))
              (refine .inl ⟨by (unfold InR; rw [IntKind.wrap_i64]; omega), ?_⟩; ((conv=>whnf);repeat(refine .intro rfl ?_;conv=>whnf)))
              refine ⟨(true, i + 1), ⟨by omega, g1, fun q => by cases q⟩, by dsimp only; omega, leB_envH (by (repeat' (first | exact trivial | refine And.intro rfl ?_))) ?_⟩
              rw [show 0 + ((i : Nat) : Int).toNat = i by omega, rbl_set, eset]
              rfl
            · ((conv=>whnf);repeat(refine .intro rfl ?_;conv=>whnf))
              ((conv=>whnf);repeat(refine .intro rfl ?_;conv=>whnf))
              (refine ⟨by omega, (by first | omega | (simp; done) | (simp; omega) | (simp only [ll]; omega)), ?_⟩; ((conv=>whnf);repeat(refine .intro rfl ?_;conv=>whnf)))
              refine ⟨_, rbl_atN i (by omega) q1, ?_⟩
              rw [eat, zi]
              ((conv=>whnf);repeat(refine .intro rfl ?_;conv=>whnf))
              (refine ⟨by omega, (by first | omega | (simp; done) | (simp; omega) | (simp only [ll]; omega)), ?_⟩; ((conv=>whnf);repeat(refine .intro rfl ?_;conv=>whnf)))
              refine ⟨_, rbl_atN i (by omega) q1, ?_⟩
              rw [hi']
              ((conv=>whnf);repeat(refine .intro rfl ?_;conv=>whnf))
              (refine ⟨by omega, (by first | omega | (simp; done) | (simp; omega) | (simp only [ll]; omega)), ?_⟩; ((conv=>whnf);repeat(refine .intro rfl ?_;conv=>whnf)))
              refine ⟨_, rbl_atN i (by omega) q1, ?_⟩
              ((conv=>whnf);repeat(refine .intro rfl ?_;conv=>whnf))
              (refine .inl ⟨by (unfold InR; rw [IntKind.wrap_i64]; omega), ?_⟩; ((conv=>whnf);repeat(refine .intro rfl ?_;conv=>whnf)))
              refine ⟨(true, i + 1), ⟨by omega, g1, fun q => by cases q⟩, by dsimp only; omega, leB_envH (by (repeat' (first | exact trivial | refine And.intro rfl ?_))) ?_⟩
              rw [show 0 + ((i : Nat) : Int).toNat = i by omega, rbl_set, eset]
              rfl
          · rw [zi, hi', Bool.true_and] at eset
            have g1 : m' = true → m = true ∨ ∃ v, v < i + 1 ∧ z v = true ∧ hit0 v = false := fun q => by
              rcases h1 q with h | ⟨v, v1, v2, v3⟩
              · exact .inl h
              · exact .inr ⟨v, by omega, v2, v3⟩
            have g2 : m' = false → m = false ∧ ∀ v, v < i + 1 → z v = true → hit0 v = true := fun q => by
              refine ⟨(h2 q).1, fun v hv hzv => ?_⟩
              by_cases e : v = i
              · subst e; exact hi'
              · exact (h2 q).2 v (by omega) hzv
            cases m'
            · ((conv=>whnf);repeat(refine .intro rfl ?_;conv=>whnf))
              (refine ⟨by omega, (by first | omega | (simp; done) | (simp; omega) | (simp only [ll]; omega)), ?_⟩; ((conv=>whnf);repeat(refine .intro rfl ?_;conv=>whnf)))
              refine ⟨_, rbl_atN i (by omega) q1, ?_⟩
              rw [eat, zi]
              ((conv=>whnf);repeat(refine .intro rfl ?_;conv=>whnf))
              ((conv=>whnf);repeat(refine .intro rfl ?_;conv=>whnf))
              (refine ⟨by omega, (by first | omega | (simp; done) | (simp; omega) | (simp only [ll]; omega)), ?_⟩; ((conv=>whnf);repeat(refine .intro rfl ?_;conv=>whnf)))
              refine ⟨_, rbl_atN i (by omega) q1, ?_⟩
              rw [eat, zi]
              ((conv=>whnf);repeat(refine .intro rfl ?_;conv=>whnf))
              (refine ⟨by omega, (by first | omega | (simp; done) | (simp; omega) | (simp only [ll]; omega)), ?_⟩; ((conv=>whnf);repeat(refine .intro rfl ?_;conv=>whnf)))
              refine ⟨_, rbl_atN i (by omega) q1, ?_⟩
              rw [hi']
              ((conv=>whnf);repeat(refine .intro rfl ?_;conv=>whnf))
              ((conv=>whnf);repeat(refine .intro rfl ?_;conv=>whnf))
              (refine ⟨by omega, (by first | omega | (simp; done) | (simp; omega) | (simp only [ll]; omega)), ?_⟩; ((conv=>whnf);repeat(refine .intro rfl ?_;conv=>whnf)))
              refine ⟨_, rbl_atN i (by omega) q1, ?_⟩
              rw [eat, zi]
              ((conv=>whnf);repeat(refine .intro rfl ?_;conv=>whnf))
              (refine ⟨by omega, (by first | omega | (simp; done) | (simp; omega) | (simp only [ll]; omega)), ?_⟩; ((conv=>whnf);repeat(refine .intro rfl ?_;conv=>whnf)))
              refine ⟨_, rbl_atN i (by omega) q1, ?_⟩
              rw [hi']
              ((conv=>whnf);repeat(refine .intro rfl ?_;conv=>whnf))
              (refine ⟨by omega, (by first | omega | (simp; done) | (simp; omega) | (simp only [ll]; omega)), ?_⟩; ((conv=>whnf);repeat(refine .intro rfl ?_;conv=>whnf)))
              refine ⟨_, rbl_atN i (by omega) q1, ?_⟩
              ((conv=>whnf);repeat(refine .intro rfl ?_;conv=>whnf))
              (refine .inl ⟨by (unfold InR; rw [IntKind.wrap_i64]; omega), ?_⟩; ((conv=>whnf);repeat(refine .intro rfl ?_;conv=>whnf)))
              refine ⟨(false, i + 1), ⟨by omega, g1, g2⟩, by dsimp only; omega, leB_envH (by (repeat' (first | exact trivial | refine And.intro rfl ?_))) ?_⟩
              rw [show 0 + ((i : Nat) : Int).toNat = i by omega, rbl_set, eset]
              rfl
            · ((conv=>whnf);repeat(refine .intro rfl ?_;conv=>whnf))
              ((conv=>whnf);repeat(refine .intro rfl ?_;conv=>whnf))
              (refine ⟨by omega, (by first | omega | (simp; done) | (simp; omega) | (simp only [ll]; omega)), ?_⟩; ((conv=>whnf);repeat(refine .intro rfl ?_;conv=>whnf)))
              refine ⟨_, rbl_atN i (by omega) q1, ?_⟩
              rw [eat, zi]
              ((conv=>whnf);repeat(refine .intro rfl ?_;conv=>whnf))
              (refine ⟨by omega, (by first | omega | (simp; done) | (simp; omega) | (simp only [ll]; omega)), ?_⟩; ((conv=>whnf);repeat(refine .intro rfl ?_;conv=>whnf)))
              refine ⟨_, rbl_atN i (by omega) q1, ?_⟩
              rw [hi']
              ((conv=>whnf);repeat(refine .intro rfl ?_;conv=>whnf))
              (refine ⟨by omega, (by first | omega | (simp; done) | (simp; omega) | (simp only [ll]; omega)), ?_⟩; ((conv=>whnf);repeat(refine .intro rfl ?_;conv=>whnf)))
              refine ⟨_, rbl_atN i (by omega) q1, ?_⟩
              ((conv=>whnf);repeat(refine .intro rfl ?_;conv=>whnf))
              (refine .inl ⟨by (unfold InR; rw [IntKind.wrap_i64]; omega), ?_⟩; ((conv=>whnf);repeat(refine .intro rfl ?_;conv=>whnf)))
              refine ⟨(true, i + 1), ⟨by omega, g1, g2⟩, by dsimp only; omega, leB_envH (by (repeat' (first | exact trivial | refine And.intro rfl ?_))) ?_⟩
              rw [show 0 + ((i : Nat) : Int).toNat = i by omega, rbl_set, eset]
              rfl
      · have q1 : i = g.length := by have : ¬ i < g.length := by ((try simp only[oo,reduceCtorEq]at*)<;>omega)
                                     omega
        subst q1
        have hz1 : ∀ v, (z v && hit0 v) = true → z v = true := fun v hv => by rw [Bool.and_eq_true] at hv; exact hv.1
        rw [rbl_congr (g' := fun v => z v && hit0 v) fun v hv => if_pos hv]
        (refine .inl ⟨by (unfold InR; rw [IntKind.wrap_i64]; omega), ?_⟩; ((conv=>whnf);repeat(refine .intro rfl ?_;conv=>whnf)))
        refine ⟨(m', k + 1, fun v => z v && hit0 v), ⟨by omega, fun v hv => ?_, fun v hv => hzz v (hz1 v hv), fun q => ?_, fun q => ?_⟩, by dsimp only; omega, ?_⟩
        · show (z v && hit0 v) = true
          rw [hfw v hv, (hdone v).2 (fw_hit hfw hS hv)]; rfl
        · rcases h1 q with h | ⟨v, v1, v2, v3⟩
          · exact Nat.lt_of_le_of_lt (cz_mono hz1) (hmt h)
          · exact Nat.lt_of_lt_of_le (cz_lt v1 hz1 v2 (by show (z v && hit0 v) = false; rw [v3, Bool.and_false])) (cz_mono hzz)
        · obtain ⟨a1, a2⟩ := h2 q
          obtain ⟨b1, b2⟩ := hmf a1
          have ez : (fun v => z v && hit0 v) = z := by
            funext v
            cases hv : z v with
            | false => rfl
            | true => show hit0 v = true; exact a2 v (hzl v hv) hv
          rw [ez]
          refine ⟨b1, fun j hj v hv => ?_⟩
          by_cases e : j = k
          · subst e; rw [hSe]; exact (hdone v).1 (a2 v (hzl v hv) hv)
          · exact b2 j (by omega) v hv
        · (refine leB_close 1 (by simp) rfl ?_ ?_ <;> (repeat' (first | exact trivial | exact rfl | exact DeepM.refl _ | exact DeepML.refl _ | exact DeepMLL.refl _ | refine And.intro ?_ ?_ | (simp [Under, UnderL, UnderLL, -List.map_take, -List.map_drop]; done))))
    · ((conv=>whnf);repeat(refine .intro rfl ?_;conv=>whnf))
      refine pwp_for [0, 1, 5, 7, 8, 9] (fun ((r, i, hit) : Bool × Nat × (Nat → Bool)) => [(10, .sc (.bool r)), (11, .sc (.int .i64 i))]) (fun (r, i, hit) => [(1, .vec true 0 1 (rbl g.length hit))])
        (fun (r, i, hit) => i ≤ g.length ∧ HitI g z S hit ∧ (∀ v, hit0 v = true → hit v = true) ∧ (r = true → unseen hit g.length < unseen hit0 g.length) ∧ (r = false → ∀ b, b < i → HitC g z S hit b (g.getD b []).length)) (fun (r, i, hit) => g.length - i) (false, 0, hit0) ?_
      ((conv=>whnf);repeat(refine .intro rfl ?_;conv=>whnf))
      refine ⟨⟨by omega, hH0, fun v h => h, fun q => (by cases q), fun _ b hb => by omega⟩, by (repeat' (first | exact trivial | refine And.intro rfl ?_)), rfl, ?_⟩
      rintro ⟨r, i, hit⟩ ⟨hi, hH, hmo, hrt, hrf⟩
      ((conv=>whnf);repeat(refine .intro rfl ?_;conv=>whnf))
      (apply rd_sound; focus (repeat' constructor))
      ((conv=>whnf);repeat(refine .intro rfl ?_;conv=>whnf))
      rw [List.length_map]
      (refine ifK_split (fun q1 => ?_) (fun q1 => ?_) <;> (rw [q1]; ((conv=>whnf);repeat(refine .intro rfl ?_;conv=>whnf))))
      · have q1 : i < g.length := by ((try simp only[oo,reduceCtorEq]at*)<;>omega)
        have hgF := hF.at i
        refine pwp_for [0, 1, 5, 7, 8, 9, 11] (fun ((r, j, hit) : Bool × Nat × (Nat → Bool)) => [(10, .sc (.bool r)), (12, .sc (.int .i64 j))]) (fun (r, j, hit) => [(1, .vec true 0 1 (rbl g.length hit))])
          (fun (r, j, hit) => j ≤ (g.getD i []).length ∧ HitI g z S hit ∧ (∀ v, hit0 v = true → hit v = true) ∧ (r = true → unseen hit g.length < unseen hit0 g.length) ∧ (r = false → (∀ b, b < i → HitC g z S hit b (g.getD b []).length) ∧ HitC g z S hit i j)) (fun (r, j, hit) => (g.getD i []).length - j) (r, 0, hit) ?_
        ((conv=>whnf);repeat(refine .intro rfl ?_;conv=>whnf))
        refine ⟨⟨by omega, hH, hmo, hrt, fun q => ⟨hrf q, fun _ j hj => by omega⟩⟩, by (repeat' (first | exact trivial | refine And.intro rfl ?_)), rfl, ?_⟩
        clear hH hmo hrt hrf hH0 hC0 hmt hmf hfw hfw0
        rintro ⟨r, j, hit⟩ ⟨hj, hH, hmo, hrt, hrf⟩
        have out : (j = (g.getD i []).length ∨ z i = false ∨ hit i = true) → r = false → ∀ b, b < i + 1 → HitC g z S hit b (g.getD b []).length := fun h q b hb => by
          obtain ⟨c1, c2⟩ := hrf q
          by_cases e : b = i
          · subst e
            rcases h with h | h | h
            · rw [← h]; exact c2
            · intro hz'; rw [h] at hz'; cases hz'
            · exact fun _ _ _ _ _ _ => h
          · exact c1 b (by omega)
        ((conv=>whnf);repeat(refine .intro rfl ?_;conv=>whnf))
        (apply rd_sound; focus (repeat' constructor))
        ((conv=>whnf);repeat(refine .intro rfl ?_;conv=>whnf))
        refine ⟨by omega, _, gridD_at (k := i) (by omega) q1, ?_⟩
        ((conv=>whnf);repeat(refine .intro rfl ?_;conv=>whnf))
        rw [List.length_map]
        (refine ifK_split (fun q2 => ?_) (fun q2 => ?_) <;> (rw [q2]; ((conv=>whnf);repeat(refine .intro rfl ?_;conv=>whnf))))
        · have q2 : j < (g.getD i []).length := by ((try simp only[oo,reduceCtorEq]at*)<;>omega)
          (refine ⟨by omega, (by first | omega | (simp; done) | (simp; omega) | (simp only [ll]; omega)), ?_⟩; ((conv=>whnf);repeat(refine .intro rfl ?_;conv=>whnf)))
          refine ⟨_, rbl_atN i (by omega) q1, ?_⟩
          cases zi : z i
          · ((conv=>whnf);repeat(refine .intro rfl ?_;conv=>whnf))
            have w6h : j = (g.getD i []).length ∨ z i = false ∨ hit i = true := .inr (.inl zi)
            (refine .inl ⟨by (unfold InR; rw [IntKind.wrap_i64]; omega), ?_⟩; ((conv=>whnf);repeat(refine .intro rfl ?_;conv=>whnf)))
            exact ⟨(r, i + 1, hit), ⟨by omega, hH, hmo, hrt, out w6h⟩, by dsimp only; omega, leB_envH (by (repeat' (first | exact trivial | refine And.intro rfl ?_))) rfl⟩
          · ((conv=>whnf);repeat(refine .intro rfl ?_;conv=>whnf))
            (refine ⟨by omega, (by first | omega | (simp; done) | (simp; omega) | (simp only [ll]; omega)), ?_⟩; ((conv=>whnf);repeat(refine .intro rfl ?_;conv=>whnf)))
            refine ⟨_, rbl_atN i (by omega) q1, ?_⟩
            cases hi' : hit i
            · ((conv=>whnf);repeat(refine .intro rfl ?_;conv=>whnf))
              have hx := inB_mem (hrow i) (mem_getD q2)
              have hxm := mem_getD q2
              refine ⟨by omega, _, gridD_at (k := i) (by omega) q1, ?_⟩
              ((conv=>whnf);repeat(refine .intro rfl ?_;conv=>whnf))
              refine ⟨by omega, _, intsD_at (l := g.getD i []) (k := j) (by omega) q2, ?_⟩
              ((conv=>whnf);repeat(refine .intro rfl ?_;conv=>whnf))
              have skip : (z ((g.getD i []).getD j 0).toNat = true → S ((g.getD i []).getD j 0).toNat = false ∧ hit ((g.getD i []).getD j 0).toNat = false) → r = false → (∀ b, b < i → HitC g z S hit b (g.getD b []).length) ∧ HitC g z S hit i (j + 1) := fun h q => by
                obtain ⟨c1, c2⟩ := hrf q
                refine ⟨c1, fun hz' j' hj' hjl hzt hor => ?_⟩
                by_cases e : j' = j
                · subst e
                  obtain ⟨d1, d2⟩ := h hzt
                  rw [d1, d2] at hor
                  simp at hor
                · exact c2 hz' j' (by omega) hjl hzt hor
              have hone := fun (h : z ((g.getD i []).getD j 0).toNat = true) (hs : S ((g.getD i []).getD j 0).toNat = true) => Hit.one (g := g) (S := S) zi hxm h hs
              have hmore := fun (h : z ((g.getD i []).getD j 0).toNat = true) (hs : hit ((g.getD i []).getD j 0).toNat = true) => Hit.more (g := g) (S := S) zi hxm h (hH.sound _ hs)
              generalize (g.getD i []).getD j 0 = x at *
              obtain ⟨to, rfl⟩ : ∃ to : Nat, x = to := ⟨x.toNat, by omega⟩
              rw [Int.toNat_natCast] at skip hone hmore
              have hto : to < g.length := by omega
              have hlt := unseen_lt (s := hit) (s' := mark hit i) q1 (fun v _ hv => mark_of hv) hi' (mark_self _ _)
              have hle := unseen_mono (n := g.length) (fun v _ hv => hmo v hv)
              (refine ⟨by omega, (by first | omega | (simp; done) | (simp; omega) | (simp only [ll]; omega)), ?_⟩; ((conv=>whnf);repeat(refine .intro rfl ?_;conv=>whnf)))
              refine ⟨_, rbl_atN to (by omega) hto, ?_⟩
              cases zt : z to
              · ((conv=>whnf);repeat(refine .intro rfl ?_;conv=>whnf))
                (refine .inl ⟨by (unfold InR; rw [IntKind.wrap_i64]; omega), ?_⟩; ((conv=>whnf);repeat(refine .intro rfl ?_;conv=>whnf)))
                exact ⟨(r, j + 1, hit), ⟨by omega, hH, hmo, hrt, skip fun q => by rw [zt] at q; cases q⟩, by dsimp only; omega, leB_envH (by (repeat' (first | exact trivial | refine And.intro rfl ?_))) rfl⟩
              · ((conv=>whnf);repeat(refine .intro rfl ?_;conv=>whnf))
                refine ⟨by omega, _, hdb _ (by omega), ?_⟩
                ((conv=>whnf);repeat(refine .intro rfl ?_;conv=>whnf))
                refine ⟨by omega, _, rbl_atN to (by omega) hto, ?_⟩
                cases st : S to
                · ((conv=>whnf);repeat(refine .intro rfl ?_;conv=>whnf))
                  (refine ⟨by omega, (by first | omega | (simp; done) | (simp; omega) | (simp only [ll]; omega)), ?_⟩; ((conv=>whnf);repeat(refine .intro rfl ?_;conv=>whnf)))
                  refine ⟨_, rbl_atN to (by omega) hto, ?_⟩
                  cases ht : hit to
                  · ((conv=>whnf);repeat(refine .intro rfl ?_;conv=>whnf))
                    (refine .inl ⟨by (unfold InR; rw [IntKind.wrap_i64]; omega), ?_⟩; ((conv=>whnf);repeat(refine .intro rfl ?_;conv=>whnf)))
                    exact ⟨(r, j + 1, hit), ⟨by omega, hH, hmo, hrt, skip fun _ => ⟨st, ht⟩⟩, by dsimp only; omega, leB_envH (by (repeat' (first | exact trivial | refine And.intro rfl ?_))) rfl⟩
                  · have hH' : HitI g z S (mark hit i) := ⟨fun v hv => by
                      rcases mark_iff.1 hv with rfl | hv
                      · exact hmore zt ht
                      · exact hH.sound v hv⟩
                    ((conv=>whnf);repeat(refine .intro rfl ?_;conv=>whnf))
                    (refine ⟨by omega, (by first | omega | (simp; done) | (simp; omega) | (simp only [ll]; omega)), ?_⟩; ((conv=>whnf);repeat(refine .intro rfl ?_;conv=>whnf)))
                    refine ⟨_, rbl_atN i (by omega) q1, ?_⟩
                    ((conv=>whnf);repeat(refine .intro rfl ?_;conv=>whnf))
                    (refine .inl ⟨by (unfold InR; rw [IntKind.wrap_i64]; omega), ?_⟩; ((conv=>whnf);repeat(refine .intro rfl ?_;conv=>whnf)))
                    refine ⟨(true, j + 1, mark hit i), ⟨by omega, hH', fun v hv => mark_of (hmo v hv), fun _ => by omega, fun q => by cases q⟩, by dsimp only; omega, leB_envH (by (repeat' (first | exact trivial | refine And.intro rfl ?_))) ?_⟩
                    rw [rbl_mark (v := i) (by omega)]
                    rfl
                · have hH' : HitI g z S (mark hit i) := ⟨fun v hv => by
                    rcases mark_iff.1 hv with rfl | hv
                    · exact hone zt st
                    · exact hH.sound v hv⟩
                  ((conv=>whnf);repeat(refine .intro rfl ?_;conv=>whnf))
                  (refine ⟨by omega, (by first | omega | (simp; done) | (simp; omega) | (simp only [ll]; omega)), ?_⟩; ((conv=>whnf);repeat(refine .intro rfl ?_;conv=>whnf)))
                  refine ⟨_, rbl_atN i (by omega) q1, ?_⟩
                  ((conv=>whnf);repeat(refine .intro rfl ?_;conv=>whnf))
                  (refine .inl ⟨by (unfold InR; rw [IntKind.wrap_i64]; omega), ?_⟩; ((conv=>whnf);repeat(refine .intro rfl ?_;conv=>whnf)))
                  refine ⟨(true, j + 1, mark hit i), ⟨by omega, hH', fun v hv => mark_of (hmo v hv), fun _ => by omega, fun q => by cases q⟩, by dsimp only; omega, leB_envH (by (repeat' (first | exact trivial | refine And.intro rfl ?_))) ?_⟩
                  rw [rbl_mark (v := i) (by omega)]
                  rfl
            · ((conv=>whnf);repeat(refine .intro rfl ?_;conv=>whnf))
              have w6h : j = (g.getD i []).length ∨ z i = false ∨ hit i = true := .inr (.inr hi')
              (refine .inl ⟨by (unfold InR; rw [IntKind.wrap_i64]; omega), ?_⟩; ((conv=>whnf);repeat(refine .intro rfl ?_;conv=>whnf)))
              exact ⟨(r, i + 1, hit), ⟨by omega, hH, hmo, hrt, out w6h⟩, by dsimp only; omega, leB_envH (by (repeat' (first | exact trivial | refine And.intro rfl ?_))) rfl⟩
        · have q2 : j = (g.getD i []).length := by have : ¬ j < (g.getD i []).length := by ((try simp only[oo,reduceCtorEq]at*)<;>omega)
                                                   omega
          have w6h : j = (g.getD i []).length ∨ z i = false ∨ hit i = true := .inl q2
          ((conv=>whnf);repeat(refine .intro rfl ?_;conv=>whnf))
          (refine .inl ⟨by (unfold InR; rw [IntKind.wrap_i64]; omega), ?_⟩; ((conv=>whnf);repeat(refine .intro rfl ?_;conv=>whnf)))
          exact ⟨(r, i + 1, hit), ⟨by omega, hH, hmo, hrt, out w6h⟩, by dsimp only; omega, leB_envH (by (repeat' (first | exact trivial | refine And.intro rfl ?_))) rfl⟩
      · have q1 : i = g.length := by have : ¬ i < g.length := by ((try simp only[oo,reduceCtorEq]at*)<;>omega)
                                     omega
        subst q1
        refine ⟨(r, hit), ⟨hH, hrf⟩, ?_, leB_envH (by (repeat' (first | exact trivial | refine And.intro rfl ?_))) rfl⟩
        dsimp only
        cases r
        · simp; omega
        · have := hrt rfl
          simp; omega
  · have q0 : k = F.length := by have : ¬ k < F.length := by ((try simp only[oo,reduceCtorEq]at*)<;>omega)
                                 omega
    subst q0
    refine ⟨(m, z), ⟨hfw, hzl, fun q v hv S hS => ?_⟩, ?_, leB_envH (by (repeat' (first | exact trivial | refine And.intro rfl ?_))) rfl⟩
    · obtain ⟨j, hj, rfl⟩ := List.mem_iff_getElem.1 hS
      have := (hmf q).2 j hj v hv
      rw [List.getD_eq_getElem?_getD, List.getElem?_eq_getElem hj] at this
      exact this
    · dsimp only
      cases m
      · simp; omega
      · have := hmt rfl
        simp; omega
end Go.Proofs.Ytfaekhadjlgbbaa
