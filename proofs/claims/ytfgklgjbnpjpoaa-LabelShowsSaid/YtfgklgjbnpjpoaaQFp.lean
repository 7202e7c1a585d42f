/-
  Parts in which one may go round fairly: plain law, and the program's fairParts over deep values. No statement is proved here.
-/
import Derived.Test.YtfgklgjbnpjpoaaQTj6
import Derived.Test.YtfgklgjbnpjpoaaQEl0
import Derived.Test.YtfgklgjbnpjpoaaQRt
import Derived.Test.YtfgklgjbnpjpoaaQFn
namespace Go.Proofs.Ytfgklgjbnpjpoaa
open Go.RowKit
set_option linter.unusedSimpArgs false
set_option linter.unusedVariables false
/-! ### Plain -/
/-- The numbers of a list, as truths. -/
def setB (l : List Int) : Nat → Bool := fun v => l.contains (v : Int)
noncomputable def loopB (g : List (List Int)) (n : Nat) : Bool := (g.getD n []).any fun x => partsG g x.toNat == partsG g n
noncomputable def okT (g : List (List Int)) (k i : Nat) : Bool := (List.range k).any fun n => partsG g n == (i : Int) && loopB g n
noncomputable def hasT (g : List (List Int)) (l : List Int) (i : Nat) : Bool := l.any fun x => partsG g x.toNat == (i : Int)
noncomputable def goodT (g : List (List Int)) (F : List (List Int)) (i : Nat) : Bool := okT g g.length i && F.all fun l => hasT g l i
theorem parts_eq {g : List (List Int)} {a b : Nat} (ha : a < g.length) (hb : b < g.length) : partsG g a = partsG g b ↔ mutB g a b = true := by
  rw [← pnum_eq (eqv_mut g g.length) ha hb]
  unfold partsG gn
  omega
theorem parts_lt {g : List (List Int)} {a : Nat} (ha : a < g.length) : 0 ≤ partsG g a ∧ partsG g a < (g.length : Int) := by
  have := pnum_lt (eqv_mut g g.length) ha
  unfold partsG gn
  omega
theorem loop_iff {g : List (List Int)} (hin : ∀ v x, x ∈ g.getD v [] → x.toNat < g.length) {n : Nat} (hn : n < g.length) : loopB g n = true ↔ Nontriv g n := by
  unfold loopB
  rw [List.any_eq_true]
  constructor
  · rintro ⟨x, hx, e⟩
    rw [beq_iff_eq, parts_eq (hin n x hx) hn, mutB_iff] at e
    exact ⟨x, hx, e.1⟩
  · rintro ⟨x, hx, e⟩
    exact ⟨x, hx, by rw [beq_iff_eq, parts_eq (hin n x hx) hn, mutB_iff]; exact ⟨e, to_edge hx⟩⟩
/-- A part is good where an endless way goes round in it. -/
theorem good_iff {g : List (List Int)} (hin : ∀ v x, x ∈ g.getD v [] → x.toNat < g.length) {F : List (List Int)} (hF : ∀ l ∈ F, inB l g.length = true) {e i : Nat} (he : e < g.length) (hi : partsG g e = (i : Int)) :
    goodT g F i = true ↔ Nontriv g e ∧ ∀ S, S ∈ F.map setB → ∃ d, S d = true ∧ To g e d ∧ To g d e := by
  unfold goodT
  rw [Bool.and_eq_true, List.all_eq_true]
  have h1 : okT g g.length i = true ↔ Nontriv g e := by
    unfold okT
    rw [List.any_eq_true]
    constructor
    · rintro ⟨n, hn, q⟩
      have hn := List.mem_range.1 hn
      rw [Bool.and_eq_true, beq_iff_eq, ← hi, parts_eq hn he, mutB_iff, loop_iff hin hn] at q
      exact nontriv_mut q.2 q.1.1 q.1.2
    · intro q
      exact ⟨e, List.mem_range.2 he, by rw [Bool.and_eq_true, beq_iff_eq]; exact ⟨hi, (loop_iff hin he).2 q⟩⟩
  rw [h1]
  refine and_congr_right fun _ => ?_
  constructor
  · intro h S hS
    obtain ⟨l, hl, rfl⟩ := List.mem_map.1 hS
    have := h l hl
    unfold hasT at this
    rw [List.any_eq_true] at this
    obtain ⟨x, hx, q⟩ := this
    have hxr := inB_mem (hF l hl) hx
    rw [beq_iff_eq, ← hi, parts_eq (by omega) he, mutB_iff] at q
    refine ⟨x.toNat, ?_, q.2, q.1⟩
    unfold setB
    rw [List.contains_iff_mem, Int.toNat_of_nonneg hxr.1]
    exact hx
  · intro h l hl
    obtain ⟨d, d1, d2, d3⟩ := h (setB l) (List.mem_map.2 ⟨l, hl, rfl⟩)
    unfold setB at d1
    rw [List.contains_iff_mem] at d1
    have hxr := inB_mem (hF l hl) d1
    unfold hasT
    rw [List.any_eq_true]
    refine ⟨(d : Int), d1, ?_⟩
    rw [Int.toNat_natCast, beq_iff_eq, ← hi, parts_eq (by omega) he, mutB_iff]
    exact ⟨d3, d2⟩
/-- Ends of ways: nodes whose part is good; what comes back from these. -/
theorem fair_ends {g : List (List Int)} (hin : ∀ l ∈ g, inB l g.length = true) {F : List (List Int)} (hF : ∀ l ∈ F, inB l g.length = true) {ends : List Int} (he : ∀ x, x ∈ ends ↔ 0 ≤ x ∧ x < (g.length : Int) ∧ goodT g F (partsG g x.toNat).toNat = true) {v : Nat} (hv : v < g.length) :
    rchB (turnG g g.length) ends v = fwB g (F.map setB) v := by
  have hrow := fun k => inB_row hin k
  have hin1 : ∀ v x, x ∈ g.getD v [] → x.toNat < g.length := fun v x hx => by have := inB_mem (hrow v) hx; omega
  have hin2 : ∀ v x, x ∈ g.getD v [] → 0 ≤ x ∧ x.toNat < g.length := fun v x hx => by have := inB_mem (hrow v) hx; omega
  refine fwB_eq ?_
  rw [rchB_iff, rch_of fun x hx => ((he x).1 hx).1]
  constructor
  · rintro ⟨x, hx, h⟩
    obtain ⟨a1, a2, a3⟩ := (he x).1 hx
    obtain ⟨e, rfl⟩ : ∃ e : Nat, x = e := ⟨x.toNat, by omega⟩
    rw [Int.toNat_natCast] at a3
    have hel : e < g.length := by omega
    have hp := parts_lt hel
    exact ⟨e, rch_back hin2 h, (good_iff hin1 hF hel (by omega)).1 a3⟩
  · rintro ⟨c, h1, h2⟩
    have hcl := to_lt hin1 hv h1
    have hp := parts_lt hcl
    exact ⟨(c : Int), (he _).2 ⟨by omega, by omega, by rw [Int.toNat_natCast]; exact (good_iff hin1 hF hcl (by omega)).2 h2⟩, rch_turn hin2 hv h1⟩
theorem okT_succ (g : List (List Int)) (k i : Nat) : okT g (k + 1) i = (okT g k i || (partsG g k == (i : Int) && loopB g k)) := by
  unfold okT; rw [List.range_succ, List.any_append]; simp
theorem hasT_take {g : List (List Int)} {l : List Int} {k i : Nat} (h : k < l.length) : hasT g (l.take (k + 1)) i = (hasT g (l.take k) i || partsG g (l.getD k 0).toNat == (i : Int)) := by
  unfold hasT
  rw [List.take_add_one, List.getElem?_eq_getElem h, List.any_append, List.getD_eq_getElem?_getD, List.getElem?_eq_getElem h]
  simp
theorem all_take {α : Type} {p : α → Bool} {l : List α} {k : Nat} (h : k < l.length) (d : α) : (l.take (k + 1)).all p = ((l.take k).all p && p (l.getD k d)) := by
  rw [List.take_add_one, List.getElem?_eq_getElem h, List.all_append, List.getD_eq_getElem?_getD, List.getElem?_eq_getElem h]
  simp
/-- Marks at the parts of a graph. -/
theorem rbl_put {n z i : Nat} {f f' : Nat → Bool} {b : Bool} (hz : z = i) (h : ∀ v, v < n → f' v = if v = i then b else f v) : (rbl n f).set z [.sc (.bool b)] = rbl n f' := by
  subst hz
  rw [rbl_set]
  exact rbl_congr fun v hv => (h v hv).symm
/-! ### The program -/
def c219 : PC := .seq (.ops [⟨some 4,.move (.const (.bool false)),none,0⟩] false) (.seq (.ops [⟨some 5,.load1 (.tmp 1),none,0⟩,
 ⟨some 6,.move (.tmp 0),none,0⟩,
 ⟨some 7,.iaddr 1 (.tmp 5) (.tmp 6),none,3⟩,
 ⟨some 8,.load1 (.tmp 7),none,7⟩,
 ⟨some 9,.load1 (.tmp 1),none,0⟩,
 ⟨some 10,.load1 (.tmp 2),none,0⟩,
 ⟨some 11,.iaddr 1 (.tmp 9) (.tmp 10),none,48⟩,
 ⟨some 12,.load1 (.tmp 11),none,112⟩,
 ⟨some 13,.bin .eql (.tmp 8) (.tmp 12),none,255⟩,
 ⟨some 4,.move (.tmp 13),none,511⟩] true) (.ret))
set_option maxRecDepth 100000 in
theorem c219_ok : FunOK Try.prog 219 14 [.tmp 4] c219 := ⟨⟨Try.f219, Try.func219, rfl, by kernel_rfl, rfl, by kernel_rfl⟩⟩
theorem fp_same (g : List (List Int)) (x : Int) (hx : 0 ≤ x ∧ x < (g.length : Int)) (n : Nat) (hn : n < g.length) : PCall Try.prog 219 [.sc (.int .i64 x), .ipt [dints (partsL g)], .ipt [.sc (.int .i64 n)]] (.sc (.bool (partsG g x.toNat == partsG g n))) := by
  refine pcall_intro c219_ok (by simp) (by simp [PureL, Pure, pure_dints]) ?_ (by simp [Pure])
  unfold partsL dints
  (apply rd_sound; focus (repeat' constructor))
  ((conv=>whnf);repeat(refine .intro rfl ?_;conv=>whnf))
  refine ⟨by omega, _, gl_atN x.toNat (by omega) (by omega), ?_⟩
  ((conv=>whnf);repeat(refine .intro rfl ?_;conv=>whnf))
  refine ⟨by omega, _, gl_atN n (by omega) hn, ?_⟩
  ((conv=>whnf);repeat(refine .intro rfl ?_;conv=>whnf))
  exact .refl _
def c167_1 : PC := .seq (.ops [⟨some 22,.bin .lss (.tmp 21) (.tmp 20),none,0⟩] false) (.seq (.cond (.tmp 22) (.skip) (.exit 0)) (.seq (.block 1 (.seq (.ops [⟨some 23,.move (.tmp 21),none,0⟩,
 ⟨some 24,.iaddr 1 (.tmp 19) (.tmp 21),none,0⟩,
 ⟨some 25,.load1 (.tmp 24),none,0⟩,
 ⟨some 8,.alloc [(.int .i64 0)],none,0⟩,
 ⟨none,.store 1 (.tmp 8) (.tmp 23),none,0⟩,
 ⟨some 9,.move (.tmp 25),none,0⟩] false) (.seq (.ops [⟨some 26,.move (.tmp 9),none,0⟩,
 ⟨some 27,.mkfn (.func 219) [] [(.tmp 4), (.tmp 8)],none,0⟩,
 ⟨some 28,.call 121 [(.tmp 26), (.tmp 27)],none,0⟩] false) (.cond (.tmp 28) (.ops [⟨some 29,.move (.tmp 7),none,0⟩,
 ⟨some 30,.load1 (.tmp 4),none,0⟩,
 ⟨some 31,.load1 (.tmp 8),none,0⟩,
 ⟨some 32,.iaddr 1 (.tmp 30) (.tmp 31),none,0⟩,
 ⟨some 33,.load1 (.tmp 32),none,0⟩,
 ⟨some 34,.iaddr 1 (.tmp 29) (.tmp 33),none,0⟩,
 ⟨none,.store 1 (.tmp 34) (.const (.bool true)),none,0⟩] false) (.skip))))) (.ops [⟨some 35,.bin .add (.tmp 21) (.const (.int .i64 1)),none,0⟩,
 ⟨some 21,.move (.tmp 35),none,0⟩] false)))
def c167_3 : PC := .seq (.ops [⟨some 48,.bin .lss (.tmp 47) (.tmp 46),none,0⟩] false) (.seq (.cond (.tmp 48) (.skip) (.exit 4)) (.seq (.block 5 (.seq (.ops [⟨some 49,.iaddr 1 (.tmp 45) (.tmp 47),none,0⟩,
 ⟨some 50,.load1 (.tmp 49),none,0⟩,
 ⟨some 14,.move (.tmp 50),none,0⟩] false) (.ops [⟨some 51,.move (.tmp 12),none,0⟩,
 ⟨some 52,.load1 (.tmp 4),none,0⟩,
 ⟨some 53,.move (.tmp 14),none,0⟩,
 ⟨some 54,.iaddr 1 (.tmp 52) (.tmp 53),none,0⟩,
 ⟨some 55,.load1 (.tmp 54),none,0⟩,
 ⟨some 56,.iaddr 1 (.tmp 51) (.tmp 55),none,0⟩,
 ⟨none,.store 1 (.tmp 56) (.const (.bool true)),none,0⟩] false))) (.ops [⟨some 57,.bin .add (.tmp 47) (.const (.int .i64 1)),none,0⟩,
 ⟨some 47,.move (.tmp 57),none,0⟩] false)))
def c167_4 : PC := .seq (.ops [⟨some 61,.bin .lss (.tmp 60) (.tmp 59),none,0⟩] false) (.seq (.cond (.tmp 61) (.skip) (.exit 6)) (.seq (.block 7 (.seq (.ops [⟨some 62,.move (.tmp 60),none,0⟩,
 ⟨some 15,.move (.tmp 62),none,0⟩] false) (.ops [⟨some 63,.move (.tmp 7),none,0⟩,
 ⟨some 64,.move (.tmp 15),none,0⟩,
 ⟨some 65,.move (.tmp 7),none,0⟩,
 ⟨some 66,.move (.tmp 15),none,0⟩,
 ⟨some 67,.iaddr 1 (.tmp 65) (.tmp 66),none,0⟩,
 ⟨some 68,.load1 (.tmp 67),none,0⟩,
 ⟨some 69,.move (.tmp 68),none,0⟩,
 ⟨some 70,.move (.tmp 12),some (69,true),0⟩,
 ⟨some 71,.move (.tmp 15),some (69,true),0⟩,
 ⟨some 72,.iaddr 1 (.tmp 70) (.tmp 71),some (69,true),0⟩,
 ⟨some 73,.load1 (.tmp 72),some (69,true),0⟩,
 ⟨some 74,.pick (.tmp 69) (.tmp 73) (.const (.bool false)),none,0⟩,
 ⟨some 75,.iaddr 1 (.tmp 63) (.tmp 64),none,0⟩,
 ⟨none,.store 1 (.tmp 75) (.tmp 74),none,0⟩] false))) (.ops [⟨some 76,.bin .add (.tmp 60) (.const (.int .i64 1)),none,0⟩,
 ⟨some 60,.move (.tmp 76),none,0⟩] false)))
def c167_2 : PC := .seq (.ops [⟨some 39,.bin .lss (.tmp 38) (.tmp 37),none,0⟩] false) (.seq (.cond (.tmp 39) (.skip) (.exit 2)) (.seq (.block 3 (.seq (.ops [⟨some 40,.iaddr 1 (.tmp 36) (.tmp 38),none,0⟩,
 ⟨some 41,.load1 (.tmp 40),none,0⟩,
 ⟨some 11,.move (.tmp 41),none,0⟩] false) (.seq (.ops [⟨some 42,.move (.tmp 0),none,0⟩,
 ⟨some 43,.len (.tmp 42),none,0⟩,
 ⟨some 44,.mslice 1 1 [(.bool false)] (.tmp 43) (.tmp 43),none,0⟩,
 ⟨some 12,.move (.tmp 44),none,0⟩] false) (.seq (.seq (.ops [⟨some 45,.move (.tmp 11),none,0⟩,
 ⟨some 46,.len (.tmp 45),none,0⟩,
 ⟨some 47,.move (.const (.int .i64 0)),none,0⟩] false) (.block 4 (.loop c167_3))) (.seq (.ops [⟨some 58,.move (.tmp 7),none,0⟩,
 ⟨some 59,.len (.tmp 58),none,0⟩,
 ⟨some 60,.move (.const (.int .i64 0)),none,0⟩] false) (.block 6 (.loop c167_4))))))) (.ops [⟨some 77,.bin .add (.tmp 38) (.const (.int .i64 1)),none,0⟩,
 ⟨some 38,.move (.tmp 77),none,0⟩] false)))
def c167 : PC := .seq (.ops [⟨some 4,.box (.tmp 1),none,0⟩,
 ⟨some 6,.move (.const (.slice none 0 0)),none,0⟩] false) (.seq (.ops [⟨some 16,.move (.tmp 0),none,0⟩,
 ⟨some 17,.len (.tmp 16),none,0⟩,
 ⟨some 18,.mslice 1 1 [(.bool false)] (.tmp 17) (.tmp 17),none,0⟩,
 ⟨some 7,.move (.tmp 18),none,0⟩] false) (.seq (.seq (.ops [⟨some 19,.move (.tmp 0),none,0⟩,
 ⟨some 20,.len (.tmp 19),none,0⟩,
 ⟨some 21,.move (.const (.int .i64 0)),none,0⟩] false) (.block 0 (.loop c167_1))) (.seq (.seq (.ops [⟨some 36,.move (.tmp 2),none,0⟩,
 ⟨some 37,.len (.tmp 36),none,0⟩,
 ⟨some 38,.move (.const (.int .i64 0)),none,0⟩] false) (.block 2 (.loop c167_2))) (.seq (.ops [⟨some 78,.move (.tmp 7),none,0⟩,
 ⟨some 6,.move (.tmp 78),none,0⟩] false) (.ret)))))
set_option maxRecDepth 100000 in
theorem c167_ok : FunOK Try.prog 167 79 [.tmp 6] c167 := ⟨⟨Try.f167, Try.func167, rfl, by kernel_rfl, rfl, by kernel_rfl⟩⟩
set_option maxRecDepth 100000 in
theorem fp_parts (g : List (List Int)) (hn : g.length ≤ 1000000) (hin0 : ∀ l ∈ g, inB l g.length = true) (hF : FitsG g) (F : List (List Int)) (hFF : FitsG F) (hFi : ∀ l ∈ F, inB l g.length = true) : PCall Try.prog 167 [dgrid g, dints (partsL g), dgrid F] (dbl g.length (goodT g F)) := by
  have hrow := fun k => inB_row hin0 k
  have hFrow := fun k => inB_row hFi k
  have hfl := hFF.len
  refine pcall_intro c167_ok (by simp) (by simp [PureL, Pure, pure_dgrid, pure_dints]) ?_ (pure_dbl _ _)
  have hc := fun k (hk : k < g.length) => containsF_int (fun n => .sc (.int .i64 n)) (fun a => by simp [Pure]) (g.getD k []) (by have := hF.at k; omega) (fun x => partsG g x.toNat == partsG g k) 219 [.ipt [dints (partsL g)], .ipt [.sc (.int .i64 k)]] (by simp [PureL, Pure, pure_dints]) fun a ha => fp_same g a (inB_mem (hrow k) ha) k hk
  unfold dgrid
  (apply rd_sound; focus (repeat' constructor))
  ((conv=>whnf);repeat(refine .intro rfl ?_;conv=>whnf))
  rw [List.length_map]
  refine ⟨by omega, by omega, by omega, ?_⟩
  rw [Int.toNat_natCast, show List.map D.sc [Value.bool false] = [D.sc (.bool false)] from rfl, rbl_rep]
  ((conv=>whnf);repeat(refine .intro rfl ?_;conv=>whnf))
  rw [List.length_map]
  refine pwp_for [0, 2, 4, 7, 19, 20] (fun k : Nat => [(21, .sc (.int .i64 k))]) (fun k => [(1, .vec true 0 1 (rbl g.length (okT g k)))]) (fun k => k ≤ g.length) (fun k => g.length - k) 0 ?_
  ((conv=>whnf);repeat(refine .intro rfl ?_;conv=>whnf))
  refine ⟨by omega, by (repeat' (first | exact trivial | refine And.intro rfl ?_)), rfl, ?_⟩
  rintro k hk
  ((conv=>whnf);repeat(refine .intro rfl ?_;conv=>whnf))
  (apply rd_sound; focus (repeat' constructor))
  ((conv=>whnf);repeat(refine .intro rfl ?_;conv=>whnf))
  (refine ifK_split (fun q0 => ?_) (fun q0 => ?_) <;> (rw [q0]; ((conv=>whnf);repeat(refine .intro rfl ?_;conv=>whnf))))
  · have q0 : k < g.length := by ((try simp only[oo,reduceCtorEq]at*)<;>omega)
    have hp := parts_lt q0
    have e1 := okT_succ g k
    refine ⟨by omega, _, gridD_at (k := k) (by omega) q0, ?_⟩
    ((conv=>whnf);repeat(refine .intro rfl ?_;conv=>whnf))
    (refine .inr (.inl ⟨_, _, (by (repeat' (first | exact Deep.refl _ | exact Deep.none _ | exact deep_row _ | exact DeepL.nil | exact DeepLL.nil | refine Deep.agg _ _ ?_ | refine Deep.tup _ _ ?_ | refine Deep.own _ _ _ _ _ _ _ _ rfl ?_ | refine Deep.loc _ _ _ _ _ rfl ?_ | refine Deep.ifc _ _ _ ?_ | refine Deep.fn _ _ _ _ _ ?_ ?_ | refine DeepL.cons _ _ _ _ ?_ ?_ | refine DeepLL.cons _ _ _ _ ?_ ?_))), (hc k q0), rfl, ?_⟩); ((conv=>whnf);repeat(refine .intro rfl ?_;conv=>whnf)))
    rw [show ((g.getD k []).any fun x => partsG g x.toNat == partsG g k) = loopB g k from rfl]
    cases r : loopB g k
    · ((conv=>whnf);repeat(refine .intro rfl ?_;conv=>whnf))
      (refine .inl ⟨by (unfold InR; rw [IntKind.wrap_i64]; omega), ?_⟩; ((conv=>whnf);repeat(refine .intro rfl ?_;conv=>whnf)))
      refine ⟨k + 1, by omega, by dsimp only; omega, ?_⟩
      (refine leB_close 2 (by simp) rfl ?_ ?_ <;> (repeat' (first | exact trivial | exact rfl | exact DeepM.refl _ | exact DeepML.refl _ | exact DeepMLL.refl _ | refine And.intro ?_ ?_ | (simp [Under, UnderL, UnderLL, -List.map_take, -List.map_drop]; done))))
      exact deepMLL_eq (rbl_congr fun i _ => by rw [e1, r, Bool.and_false, Bool.or_false])
    · ((conv=>whnf);repeat(refine .intro rfl ?_;conv=>whnf))
      refine ⟨by omega, _, gl_atN k (by omega) q0, ?_⟩
      ((conv=>whnf);repeat(refine .intro rfl ?_;conv=>whnf))
      (refine ⟨by omega, (by first | omega | (simp; done) | (simp; omega) | (simp only [ll]; omega)), ?_⟩; ((conv=>whnf);repeat(refine .intro rfl ?_;conv=>whnf)))
      refine ⟨_, rbl_atN (partsG g k).toNat (by omega) (by omega), ?_⟩
      ((conv=>whnf);repeat(refine .intro rfl ?_;conv=>whnf))
      (refine .inl ⟨by (unfold InR; rw [IntKind.wrap_i64]; omega), ?_⟩; ((conv=>whnf);repeat(refine .intro rfl ?_;conv=>whnf)))
      refine ⟨k + 1, by omega, by dsimp only; omega, ?_⟩
      rw [rbl_put (i := (partsG g k).toNat) (f' := okT g (k + 1)) (by omega) fun v _ => by
        rw [e1, r, Bool.and_true]
        by_cases e : v = (partsG g k).toNat
        · rw [if_pos e, show (partsG g k == (v : Int)) = true by rw [beq_iff_eq]; omega, Bool.or_true]
        · rw [if_neg e, show (partsG g k == (v : Int)) = false by rw [beq_eq_false_iff_ne]; omega, Bool.or_false]]
      (refine leB_close 2 (by simp) rfl ?_ ?_ <;> (repeat' (first | exact trivial | exact rfl | exact DeepM.refl _ | exact DeepML.refl _ | exact DeepMLL.refl _ | refine And.intro ?_ ?_ | (simp [Under, UnderL, UnderLL, -List.map_take, -List.map_drop]; done))))
  have q0 : k = g.length := by have : ¬ k < g.length := by ((try simp only[oo,reduceCtorEq]at*)<;>omega)
                               omega
  subst q0
  clear hc
  rw [List.length_map]
  refine pwp_for [0, 4, 7, 36, 37] (fun k : Nat => [(38, .sc (.int .i64 k))]) (fun k => [(1, .vec true 0 1 (rbl g.length fun i => okT g g.length i && (F.take k).all fun l => hasT g l i))]) (fun k => k ≤ F.length) (fun k => F.length - k) 0 ?_
  ((conv=>whnf);repeat(refine .intro rfl ?_;conv=>whnf))
  refine ⟨by omega, by (repeat' (first | exact trivial | refine And.intro rfl ?_)), by simp only [List.take_zero, List.all_nil, Bool.and_true]; rfl, ?_⟩
  rintro k hk
  ((conv=>whnf);repeat(refine .intro rfl ?_;conv=>whnf))
  (apply rd_sound; focus (repeat' constructor))
  ((conv=>whnf);repeat(refine .intro rfl ?_;conv=>whnf))
  (refine ifK_split (fun q0 => ?_) (fun q0 => ?_) <;> (rw [q0]; ((conv=>whnf);repeat(refine .intro rfl ?_;conv=>whnf))))
  · have q0 : k < F.length := by ((try simp only[oo,reduceCtorEq]at*)<;>omega)
    have hFk := hFF.at k
    refine ⟨by omega, _, gridD_at (g := F) (k := k) (by omega) q0, ?_⟩
    ((conv=>whnf);repeat(refine .intro rfl ?_;conv=>whnf))
    rw [List.length_map]
    refine ⟨by omega, by omega, by omega, ?_⟩
    rw [Int.toNat_natCast, show List.map D.sc [Value.bool false] = [D.sc (.bool false)] from rfl, rbl_rep]
    ((conv=>whnf);repeat(refine .intro rfl ?_;conv=>whnf))
    rw [List.length_map]
    have hlr := fun j (hj : j < (F.getD k []).length) => inB_mem (hFrow k) (mem_getD hj)
    have eall := fun i => all_take (p := fun l => hasT g l i) q0 []
    generalize hle : F.getD k [] = l at *
    refine pwp_for [0, 4, 7, 12, 36, 37, 38, 45, 46] (fun j : Nat => [(47, .sc (.int .i64 j))]) (fun j => [(2, .vec true 0 1 (rbl g.length (hasT g (l.take j))))]) (fun j => j ≤ l.length) (fun j => l.length - j) 0 ?_
    ((conv=>whnf);repeat(refine .intro rfl ?_;conv=>whnf))
    refine ⟨by omega, by (repeat' (first | exact trivial | refine And.intro rfl ?_)), rfl, ?_⟩
    rintro j hj
    ((conv=>whnf);repeat(refine .intro rfl ?_;conv=>whnf))
    (apply rd_sound; focus (repeat' constructor))
    ((conv=>whnf);repeat(refine .intro rfl ?_;conv=>whnf))
    (refine ifK_split (fun q1 => ?_) (fun q1 => ?_) <;> (rw [q1]; ((conv=>whnf);repeat(refine .intro rfl ?_;conv=>whnf))))
    · have q1 : j < l.length := by ((try simp only[oo,reduceCtorEq]at*)<;>omega)
      have hx := hlr j q1
      have e1 := fun i => hasT_take (g := g) (i := i) q1
      refine ⟨by omega, _, intsD_at (l := l) (k := j) (by omega) q1, ?_⟩
      ((conv=>whnf);repeat(refine .intro rfl ?_;conv=>whnf))
      generalize l.getD j 0 = x at *
      have hp := parts_lt (g := g) (a := x.toNat) (by omega)
      refine ⟨by omega, _, gl_atN x.toNat (by omega) (by omega), ?_⟩
      ((conv=>whnf);repeat(refine .intro rfl ?_;conv=>whnf))
      (refine ⟨by omega, (by first | omega | (simp; done) | (simp; omega) | (simp only [ll]; omega)), ?_⟩; ((conv=>whnf);repeat(refine .intro rfl ?_;conv=>whnf)))
      refine ⟨_, rbl_atN (partsG g x.toNat).toNat (by omega) (by omega), ?_⟩
      ((conv=>whnf);repeat(refine .intro rfl ?_;conv=>whnf))
      (refine .inl ⟨by (unfold InR; rw [IntKind.wrap_i64]; omega), ?_⟩; ((conv=>whnf);repeat(refine .intro rfl ?_;conv=>whnf)))
      refine ⟨j + 1, by omega, by dsimp only; omega, leB_envH (by (repeat' (first | exact trivial | refine And.intro rfl ?_))) ?_⟩
      rw [rbl_put (i := (partsG g x.toNat).toNat) (f' := hasT g (l.take (j + 1))) (by omega) fun v _ => by
        rw [e1]
        by_cases e : v = (partsG g x.toNat).toNat
        · rw [if_pos e, show (partsG g x.toNat == (v : Int)) = true by rw [beq_iff_eq]; omega, Bool.or_true]
        · rw [if_neg e, show (partsG g x.toNat == (v : Int)) = false by rw [beq_eq_false_iff_ne]; omega, Bool.or_false]]
      rfl
    have q1 : j = l.length := by have : ¬ j < l.length := by ((try simp only[oo,reduceCtorEq]at*)<;>omega)
                                 omega
    subst q1
    rw [List.take_length]
    generalize hA : (fun i => okT g g.length i && (F.take k).all fun l => hasT g l i) = A at *
    have eA : ∀ i, (okT g g.length i && (F.take (k + 1)).all fun l => hasT g l i) = (A i && hasT g l i) := fun i => by rw [eall, ← hA, Bool.and_assoc]
    refine pwp_for [0, 4, 7, 12, 36, 37, 38, 59] (fun i : Nat => [(60, .sc (.int .i64 i))]) (fun i => [(1, .vec true 0 1 (rbl g.length fun v => if v < i then A v && hasT g l v else A v))]) (fun i => i ≤ g.length) (fun i => g.length - i) 0 ?_
    ((conv=>whnf);repeat(refine .intro rfl ?_;conv=>whnf))
    refine ⟨by omega, by (repeat' (first | exact trivial | refine And.intro rfl ?_)), rfl, ?_⟩
    rintro i hi
    ((conv=>whnf);repeat(refine .intro rfl ?_;conv=>whnf))
    (apply rd_sound; focus (repeat' constructor))
    ((conv=>whnf);repeat(refine .intro rfl ?_;conv=>whnf))
    (refine ifK_split (fun q2 => ?_) (fun q2 => ?_) <;> (rw [q2]; ((conv=>whnf);repeat(refine .intro rfl ?_;conv=>whnf))))
    · have q2 : i < g.length := by ((try simp only[oo,reduceCtorEq]at*)<;>omega)
      have eat : (if i < i then A i && hasT g l i else A i) = A i := if_neg (by omega)
      have eput : ∀ b, b = (A i && hasT g l i) → ∀ v, v < g.length → (if v < i + 1 then A v && hasT g l v else A v) = if v = i then b else if v < i then A v && hasT g l v else A v := fun b hb v _ => by
        by_cases e : v = i
        · subst e; rw [if_pos (by omega), if_pos rfl, hb]
        · rw [if_neg e]
          by_cases e2 : v < i
          · rw [if_pos e2, if_pos (by omega)]
          · rw [if_neg e2, if_neg (by omega)]
      (refine ⟨by omega, (by first | omega | (simp; done) | (simp; omega) | (simp only [ll]; omega)), ?_⟩; ((conv=>whnf);repeat(refine .intro rfl ?_;conv=>whnf)))
      refine ⟨_, rbl_atN i (by omega) q2, ?_⟩
      rw [eat]
      cases r : A i
      · ((conv=>whnf);repeat(refine .intro rfl ?_;conv=>whnf))
        (refine ⟨by omega, (by first | omega | (simp; done) | (simp; omega) | (simp only [ll]; omega)), ?_⟩; ((conv=>whnf);repeat(refine .intro rfl ?_;conv=>whnf)))
        refine ⟨_, rbl_atN i (by omega) q2, ?_⟩
        ((conv=>whnf);repeat(refine .intro rfl ?_;conv=>whnf))
        (refine .inl ⟨by (unfold InR; rw [IntKind.wrap_i64]; omega), ?_⟩; ((conv=>whnf);repeat(refine .intro rfl ?_;conv=>whnf)))
        refine ⟨i + 1, by omega, by dsimp only; omega, leB_envH (by (repeat' (first | exact trivial | refine And.intro rfl ?_))) ?_⟩
        rw [rbl_put (i := i) (by omega) (eput false (by rw [r]; rfl))]
        rfl
      · ((conv=>whnf);repeat(refine .intro rfl ?_;conv=>whnf))
        (refine ⟨by omega, (by first | omega | (simp; done) | (simp; omega) | (simp only [ll]; omega)), ?_⟩; ((conv=>whnf);repeat(refine .intro rfl ?_;conv=>whnf)))
        refine ⟨_, rbl_atN i (by omega) q2, ?_⟩
        ((conv=>whnf);repeat(refine .intro rfl ?_;conv=>whnf))
        (refine ⟨by omega, (by first | omega | (simp; done) | (simp; omega) | (simp only [ll]; omega)), ?_⟩; ((conv=>whnf);repeat(refine .intro rfl ?_;conv=>whnf)))
        refine ⟨_, rbl_atN i (by omega) q2, ?_⟩
        ((conv=>whnf);repeat(refine .intro rfl ?_;conv=>whnf))
        (refine .inl ⟨by (unfold InR; rw [IntKind.wrap_i64]; omega), ?_⟩; ((conv=>whnf);repeat(refine .intro rfl ?_;conv=>whnf)))
        refine ⟨i + 1, by omega, by dsimp only; omega, leB_envH (by (repeat' (first | exact trivial | refine And.intro rfl ?_))) ?_⟩
        rw [rbl_put (i := i) (by omega) (eput (hasT g l i) (by rw [r]; rfl))]
        rfl
    have q2 : i = g.length := by have : ¬ i < g.length := by ((try simp only[oo,reduceCtorEq]at*)<;>omega)
                                 omega
    subst q2
    (refine .inl ⟨by (unfold InR; rw [IntKind.wrap_i64]; omega), ?_⟩; ((conv=>whnf);repeat(refine .intro rfl ?_;conv=>whnf)))
    refine ⟨k + 1, by omega, by dsimp only; omega, ?_⟩
    dsimp only
    (refine leB_close 2 (by simp) rfl ?_ ?_ <;> (repeat' (first | exact trivial | exact rfl | exact DeepM.refl _ | exact DeepML.refl _ | exact DeepMLL.refl _ | refine And.intro ?_ ?_ | (simp [Under, UnderL, UnderLL, -List.map_take, -List.map_drop]; done))))
    exact deepMLL_eq (rbl_congr fun i hi => by rw [if_pos hi, eA])
  have q0 : k = F.length := by have : ¬ k < F.length := by ((try simp only[oo,reduceCtorEq]at*)<;>omega)
                               omega
  subst q0
  rw [List.take_length]
  exact deep_vec rfl
end Go.Proofs.Ytfgklgjbnpjpoaa
