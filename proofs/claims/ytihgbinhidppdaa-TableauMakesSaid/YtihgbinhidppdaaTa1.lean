/-
  The maker of a formula's automaton: its parts and elements (part, gather), over deep values. No statement is proved here.
-/
import Derived.Test.YtihgbinhidppdaaTa0
import Derived.Test.YtihgbinhidppdaaSm
import Derived.Test.YtihgbinhidppdaaSa
import Derived.Test.YtihgbinhidppdaaFn
import Derived.Test.YtihgbinhidppdaaNb1
namespace Go.Proofs.Ytihgbinhidppdaa
open Go.RowKit
set_option linter.unusedSimpArgs false
set_option linter.unusedVariables false
theorem deepLL_all {H : List AObj} {n : Nat} {l : List (List D)} (h : l.length ≤ n) : DeepLL H (List.drop 0 (List.take n l)) l := by rw [drop_take_all h]; exact deepLL_refl _
def trows (P : List Tree) : List (List D) := P.map drow
@[simp] theorem trows_len (P : List Tree) : (trows P).length = P.length := List.length_map ..
theorem pure_trows (P : List Tree) : PureLL (trows P) := pureLL_map _ (fun t => pure_drow t) _
@[simp] theorem underLL_trows {m : Nat} (P : List Tree) : UnderLL m (trows P) ↔ True := ⟨fun _ => trivial, fun _ => underLL_pure _ (pure_trows P)⟩
theorem trows_snoc (P : List Tree) (t : Tree) : List.drop 0 (List.take P.length (trows P)) ++ List.drop 0 (List.take 1 [drow t]) = trows (P ++ [t]) := by
  rw [drop_take_all (by simp)]
  simp [trows]
theorem trows_at {P : List Tree} {z k : Nat} (hz : z = k) (h : k < P.length) : (trows P)[z]? = some (drow (P.getD k default)) := by
  subst hz
  unfold trows
  rw [List.getElem?_map, List.getElem?_eq_getElem h, List.getD_eq_getElem?_getD, List.getElem?_eq_getElem h]
  rfl
theorem tsnoc_at (P : List Tree) (z : List D) : (List.drop 0 (List.take P.length (trows P)) ++ List.drop 0 (List.take 1 [z]))[0 + ((P.length - 0 : Nat) : Int).toNat]? = some z := by
  rw [drop_take_all (by simp), List.getElem?_append_right (by simp)]
  simp
theorem tsnoc_set (P : List Tree) (t : Tree) (z : List D) : (List.drop 0 (List.take P.length (trows P)) ++ List.drop 0 (List.take 1 [z])).set (0 + ((P.length - 0 : Nat) : Int).toNat) [.sc (.int .i64 t.kind), .sc (.int .i64 t.num), .lst 3 (t.kids.map dcells)] = trows (P ++ [t]) := by
  rw [drop_take_all (by simp), List.set_append_right _ _ (by simp)]
  simp [trows, drow]
/-- The maker as data. -/
def mdat (A : List Int) (P : List Tree) : D := .ipt [dints A, .lst 3 (trows P)]
theorem pure_mdat (A : List Int) (P : List Tree) : Pure (mdat A P) := by simp [mdat, Pure, PureL, pure_dints, pure_trows]
/-- The maker's memory. -/
def gheap (A : List Int) (P : List Tree) : List AObj := [.row true [.own 1 A.length 0 A.length, .own 2 P.length 0 P.length], .vec true A.length 1 (i64s A), .vec true P.length 3 (trows P)]
theorem under_gheap {A : List Int} {P : List Tree} {m : Nat} (hm : 3 ≤ m) : ∀ o ∈ gheap A P, o.under m := by
  intro o ho
  simp only [gheap, List.mem_cons, List.not_mem_nil, or_false] at ho
  rcases ho with rfl | rfl | rfl <;> simp [AObj.under, UnderL, Under] <;> omega
theorem underO_gheap {A : List Int} {P : List Tree} {m : Nat} (hm : 3 ≤ m) : UnderO m (gheap A P) := by
  have := under_gheap (A := A) (P := P) hm
  unfold gheap at *
  exact ⟨this _ (by simp), this _ (by simp), this _ (by simp), trivial⟩
def c28_1 : PC := .seq (.ops [⟨some 9,.bin .lss (.tmp 8) (.tmp 7),none,0⟩] false) (.seq (.cond (.tmp 9) (.skip) (.exit 0)) (.seq (.block 1 (.seq (.ops [⟨some 10,.move (.tmp 8),none,0⟩,
 ⟨some 5,.move (.tmp 10),none,0⟩] false) (.seq (.ops [⟨some 11,.move (.tmp 1),none,0⟩,
 ⟨some 12,.move (.tmp 0),none,0⟩,
 ⟨some 13,.move (.tmp 5),none,0⟩,
 ⟨some 14,.iaddr 3 (.tmp 12) (.tmp 13),none,0⟩,
 ⟨some 15,.loadA 3 (.tmp 14),none,0⟩,
 ⟨some 16,.callv (.tmp 11) [(.tmp 15)],none,0⟩] false) (.cond (.tmp 16) (.seq (.ops [⟨some 17,.move (.tmp 5),none,0⟩,
 ⟨some 4,.move (.tmp 17),none,0⟩] false) (.ret)) (.skip))))) (.ops [⟨some 18,.bin .add (.tmp 8) (.const (.int .i64 1)),none,0⟩,
 ⟨some 8,.move (.tmp 18),none,0⟩] false)))
def c28 : PC := .seq (.ops [⟨some 4,.move (.const (.int .i64 0)),none,0⟩] false) (.seq (.seq (.ops [⟨some 6,.move (.tmp 0),none,0⟩,
 ⟨some 7,.len (.tmp 6),none,0⟩,
 ⟨some 8,.move (.const (.int .i64 0)),none,0⟩] false) (.block 0 (.loop c28_1))) (.seq (.ops [⟨some 4,.move (.const (.int .i64 (-1))),none,0⟩] false) (.ret)))
set_option maxRecDepth 100000 in
theorem c28_ok : FunOK Try.prog 28 19 [.tmp 4] c28 := ⟨⟨Try.f28, Try.func28, rfl, by kernel_rfl, rfl, by kernel_rfl⟩⟩
def c41 : PC := .seq (.ops [⟨some 4,.move (.const (.bool false)),none,0⟩] false) (.seq (.ops [⟨some 5,.move (.tmp 0),none,0⟩,
 ⟨some 6,.move (.tmp 1),none,0⟩,
 ⟨some 7,.call 28 [(.tmp 5), (.tmp 6)],none,0⟩,
 ⟨some 8,.bin .geq (.tmp 7) (.const (.int .i64 0)),none,0⟩,
 ⟨some 4,.move (.tmp 8),none,0⟩] false) (.ret))
set_option maxRecDepth 100000 in
theorem c41_ok : FunOK Try.prog 41 9 [.tmp 4] c41 := ⟨⟨Try.f41, Try.func41, rfl, by kernel_rfl, rfl, by kernel_rfl⟩⟩
theorem indexF_ltl (l : List Tree) (hl : l.length ≤ 9223372036854775807) (p : Tree → Bool) (cl : FuncId) (cap : List D) (hp : PureL cap) (hc : ∀ a ∈ l, PCall Try.prog cl (dtree a :: cap) (.sc (.bool (p a)))) :
    PCall Try.prog 28 [.lst 3 (trows l), .fn (.func cl) [] cap] (.sc (.int .i64 (idxF p l))) := by
  refine pcall_intro c28_ok (by simp) (by simp [PureL, Pure, hp, pure_trows]) ?_ (by simp [Pure])
  (apply rd_sound; focus (repeat' constructor))
  ((conv=>whnf);repeat(refine .intro rfl ?_;conv=>whnf))
  rw [trows_len]
  have fin : ∀ {z : Int}, z = idxF p l → Deep [] (.sc (.int .i64 z)) (.sc (.int .i64 (idxF p l))) := fun h => h ▸ .refl _
  refine pwp_for [0, 1, 7] (fun k : Nat => [(8, .sc (.int .i64 k))]) (fun _ => []) (fun k => k ≤ l.length ∧ ∀ j (hj : j < k) (hl : j < l.length), p l[j] = false) (fun k => l.length - k) 0 ?_
  ((conv=>whnf);repeat(refine .intro rfl ?_;conv=>whnf))
  refine ⟨⟨by omega, fun j hj => by omega⟩, by (repeat' (first | exact trivial | refine And.intro rfl ?_)), rfl, ?_⟩
  rintro k ⟨hk, hno⟩
  ((conv=>whnf);repeat(refine .intro rfl ?_;conv=>whnf))
  (apply rd_sound; focus (repeat' constructor))
  ((conv=>whnf);repeat(refine .intro rfl ?_;conv=>whnf))
  (refine ifK_split (fun h => ?_) (fun h => ?_) <;> (rw [h]; ((conv=>whnf);repeat(refine .intro rfl ?_;conv=>whnf))))
  · have hk' : k < l.length := by ((try simp only[oo,reduceCtorEq]at*)<;>omega)
    refine ⟨by omega, drow l[k], by unfold trows; rw [List.getElem?_map, Int.toNat_natCast, List.getElem?_eq_getElem hk']; rfl, ?_⟩
    ((conv=>whnf);repeat(refine .intro rfl ?_;conv=>whnf))
    (refine .inl ⟨_, (hc _ (List.getElem_mem hk')), ?_⟩; ((conv=>whnf);repeat(refine .intro rfl ?_;conv=>whnf)))
    (refine ifK_split (fun h2 => ?_) (fun h2 => ?_) <;> (rw [h2]; ((conv=>whnf);repeat(refine .intro rfl ?_;conv=>whnf))))
    · exact fin (idxF_hit hk' h2 fun j hj => hno j hj (by omega)).symm
    · (refine .inl ⟨by (unfold InR; rw [IntKind.wrap_i64]; omega), ?_⟩; ((conv=>whnf);repeat(refine .intro rfl ?_;conv=>whnf)))
      refine ⟨k + 1, ⟨by omega, fun j hj hl => ?_⟩, by dsimp only; omega, leB_envH (by (repeat' (first | exact trivial | refine And.intro rfl ?_))) rfl⟩
      by_cases e : j = k
      · subst e; exact h2
      · exact hno j (by omega) hl
  · have hk' : ¬ k < l.length := by ((try simp only[oo,reduceCtorEq]at*)<;>omega)
    exact fin (idxF_none fun j hj => hno j (by omega) hj).symm
theorem containsF_ltl (l : List Tree) (hl : l.length ≤ 9223372036854775807) (p : Tree → Bool) (cl : FuncId) (cap : List D) (hp : PureL cap) (hc : ∀ a ∈ l, PCall Try.prog cl (dtree a :: cap) (.sc (.bool (p a)))) :
    PCall Try.prog 41 [.lst 3 (trows l), .fn (.func cl) [] cap] (.sc (.bool (l.any p))) := by
  refine pcall_intro c41_ok (by simp) (by simp [PureL, Pure, hp, pure_trows]) ?_ (by simp [Pure])
  (apply rd_sound; focus (repeat' constructor))
  ((conv=>whnf);repeat(refine .intro rfl ?_;conv=>whnf))
  (refine .inl ⟨_, (indexF_ltl l hl p cl cap hp hc), ?_⟩; ((conv=>whnf);repeat(refine .intro rfl ?_;conv=>whnf)))
  rw [idxF_any]
  exact .refl _
def c48 : PC := .seq (.ops [⟨some 2,.box (.tmp 0),none,0⟩,
 ⟨some 3,.move (.const (.bool false)),none,0⟩] false) (.seq (.ops [⟨some 4,.loadA 3 (.tmp 1),none,0⟩,
 ⟨some 5,.loadA 3 (.tmp 2),none,0⟩,
 ⟨some 6,.call 49 [(.tmp 4), (.tmp 5)],none,0⟩,
 ⟨some 3,.move (.tmp 6),none,0⟩] false) (.ret))
set_option maxRecDepth 100000 in
theorem c48_ok : FunOK Try.prog 48 7 [.tmp 3] c48 := ⟨⟨Try.f48, Try.func48, rfl, by kernel_rfl, rfl, by kernel_rfl⟩⟩
def c36 : PC := .seq (.ops [⟨some 3,.box (.tmp 1),none,0⟩,
 ⟨some 4,.move (.const (.int .i64 0)),none,0⟩] false) (.seq (.ops [⟨some 5,.move (.tmp 0),none,0⟩,
 ⟨some 6,.nilchk (.tmp 5),none,0⟩,
 ⟨some 7,.faddr 1 (.tmp 6),none,0⟩,
 ⟨some 8,.load1 (.tmp 7),none,0⟩,
 ⟨some 9,.mkfn (.func 48) [] [(.tmp 3)],none,0⟩,
 ⟨some 10,.call 28 [(.tmp 8), (.tmp 9)],none,0⟩,
 ⟨some 4,.move (.tmp 10),none,0⟩] false) (.ret))
set_option maxRecDepth 100000 in
theorem c36_ok : FunOK Try.prog 36 11 [.tmp 4] c36 := ⟨⟨Try.f36, Try.func36, rfl, by kernel_rfl, rfl, by kernel_rfl⟩⟩
def c10_1 : PC := .seq (.ops [⟨some 52,.bin .lss (.tmp 51) (.tmp 50),none,0⟩] false) (.seq (.cond (.tmp 52) (.skip) (.exit 1)) (.seq (.block 2 (.seq (.ops [⟨some 53,.iaddr 3 (.tmp 49) (.tmp 51),none,0⟩,
 ⟨some 54,.loadA 3 (.tmp 53),none,0⟩,
 ⟨some 5,.alloc [(.int .i64 0), (.int .i64 0), (.slice none 0 0)],none,0⟩,
 ⟨none,.store 3 (.tmp 5) (.tmp 54),none,0⟩] false) (.ops [⟨some 55,.move (.tmp 0),none,0⟩,
 ⟨some 56,.loadA 3 (.tmp 5),none,0⟩,
 ⟨some 57,.call 10 [(.tmp 55), (.tmp 56)],none,0⟩] false))) (.ops [⟨some 58,.bin .add (.tmp 51) (.const (.int .i64 1)),none,0⟩,
 ⟨some 51,.move (.tmp 58),none,0⟩] false)))
def c10 : PC := .seq (.ops [⟨some 3,.box (.tmp 1),none,0⟩] false) (.seq (.seq (.ops [⟨some 6,.faddr 0 (.tmp 3),none,0⟩,
 ⟨some 7,.load1 (.tmp 6),none,0⟩] false) (.block 0 (.seq (.ops [⟨some 9,.bin .eql (.tmp 7) (.const (.int .i64 3)),none,0⟩,
 ⟨some 8,.move (.tmp 9),none,0⟩] false) (.cond (.tmp 8) (.seq (.ops [⟨some 10,.move (.tmp 0),none,0⟩,
 ⟨some 11,.nilchk (.tmp 10),none,1⟩,
 ⟨some 12,.faddr 0 (.tmp 11),none,3⟩,
 ⟨some 13,.load1 (.tmp 12),none,7⟩,
 ⟨some 14,.faddr 1 (.tmp 3),none,0⟩,
 ⟨some 15,.load1 (.tmp 14),none,16⟩,
 ⟨some 16,.call 35 [(.tmp 13), (.tmp 15)],none,63⟩,
 ⟨some 17,.un .not (.tmp 16),none,127⟩] true) (.cond (.tmp 17) (.ops [⟨some 18,.move (.tmp 0),none,0⟩,
 ⟨some 19,.move (.tmp 0),none,0⟩,
 ⟨some 20,.nilchk (.tmp 19),none,2⟩,
 ⟨some 21,.faddr 0 (.tmp 20),none,6⟩,
 ⟨some 22,.load1 (.tmp 21),none,14⟩,
 ⟨some 23,.faddr 1 (.tmp 3),none,0⟩,
 ⟨some 24,.load1 (.tmp 23),none,32⟩,
 ⟨some 25,.bslice 1 1 [(.tmp 24)],none,96⟩,
 ⟨some 26,.append 1 8 (.tmp 22) (.tmp 25),none,254⟩,
 ⟨some 27,.nilchk (.tmp 18),none,511⟩,
 ⟨some 28,.faddr 0 (.tmp 27),none,1023⟩,
 ⟨none,.store 1 (.tmp 28) (.tmp 26),none,2047⟩] true) (.skip))) (.seq (.seq (.ops [⟨some 30,.bin .eql (.tmp 7) (.const (.int .i64 7)),none,0⟩,
 ⟨some 29,.move (.tmp 30),none,0⟩] false) (.cond (.tmp 29) (.skip) (.seq (.ops [⟨some 31,.bin .eql (.tmp 7) (.const (.int .i64 8)),none,0⟩,
 ⟨some 29,.move (.tmp 31),none,0⟩] false) (.cond (.tmp 29) (.skip) (.ops [⟨some 32,.bin .eql (.tmp 7) (.const (.int .i64 9)),none,0⟩,
 ⟨some 29,.move (.tmp 32),none,0⟩] false))))) (.cond (.tmp 29) (.seq (.ops [⟨some 33,.move (.tmp 0),none,0⟩,
 ⟨some 34,.loadA 3 (.tmp 3),none,0⟩,
 ⟨some 35,.call 36 [(.tmp 33), (.tmp 34)],none,0⟩,
 ⟨some 36,.bin .lss (.tmp 35) (.const (.int .i64 0)),none,0⟩] false) (.cond (.tmp 36) (.ops [⟨some 37,.move (.tmp 0),none,0⟩,
 ⟨some 38,.nilchk (.tmp 37),none,1⟩,
 ⟨some 39,.faddr 1 (.tmp 38),none,3⟩,
 ⟨some 40,.load1 (.tmp 39),none,7⟩,
 ⟨some 41,.loadA 3 (.tmp 3),none,0⟩,
 ⟨some 42,.len (.tmp 40),none,15⟩,
 ⟨some 43,.bslice 3 1 [(.const (.agg #[.int .i64 0, .int .i64 0, .slice none 0 0]))],none,0⟩,
 ⟨some 44,.append 3 40 (.tmp 40) (.tmp 43),none,127⟩,
 ⟨some 45,.iaddr 3 (.tmp 44) (.tmp 42),none,255⟩,
 ⟨none,.store 3 (.tmp 45) (.tmp 41),none,511⟩,
 ⟨some 46,.nilchk (.tmp 37),none,255⟩,
 ⟨some 47,.faddr 1 (.tmp 46),none,1279⟩,
 ⟨none,.store 1 (.tmp 47) (.tmp 44),none,3327⟩] true) (.skip))) (.skip))))))) (.seq (.ops [⟨some 48,.faddr 2 (.tmp 3),none,0⟩,
 ⟨some 49,.load1 (.tmp 48),none,0⟩,
 ⟨some 50,.len (.tmp 49),none,0⟩,
 ⟨some 51,.move (.const (.int .i64 0)),none,0⟩] false) (.block 1 (.loop c10_1))))
set_option maxRecDepth 100000 in
theorem c10_ok : FunOK Try.prog 10 59 [] c10 := ⟨⟨Try.f10, Try.func10, rfl, by kernel_rfl, rfl, by kernel_rfl⟩⟩
theorem ta_part1 (f : Tree) (hf : Small f) (g : Tree) : PCall Try.prog 48 [dtree g, .ipt (drow f)] (.sc (.bool (eqT f g))) := by
  refine pcall_intro c48_ok (by simp) (by simp [PureL, Pure, pure_dtree, pure_drow]) ?_ (by simp [Pure])
  (apply rd_sound; focus (repeat' constructor))
  ((conv=>whnf);repeat(refine .intro rfl ?_;conv=>whnf))
  (refine .inl ⟨_, (push_Same f g hf), ?_⟩; ((conv=>whnf);repeat(refine .intro rfl ?_;conv=>whnf)))
  exact .refl _
theorem ta_part (A : List Int) (P : List Tree) (hP : P.length ≤ 1000000) (f : Tree) (hf : Small f) : PCall Try.prog 36 [mdat A P, dtree f] (.sc (.int .i64 (idxF (eqT f) P))) := by
  refine pcall_intro c36_ok (by simp) (by simp [PureL, pure_mdat, pure_dtree]) ?_ (by simp [Pure])
  unfold mdat
  (apply rd_sound; focus (repeat' constructor))
  ((conv=>whnf);repeat(refine .intro rfl ?_;conv=>whnf))
  (refine .inr (.inl ⟨_, _, (by (repeat' (first | exact Deep.refl _ | exact Deep.none _ | exact deep_row _ | exact DeepL.nil | exact DeepLL.nil | refine Deep.agg _ _ ?_ | refine Deep.tup _ _ ?_ | refine Deep.own _ _ _ _ _ _ _ _ rfl ?_ | refine Deep.loc _ _ _ _ _ rfl ?_ | refine Deep.ifc _ _ _ ?_ | refine Deep.fn _ _ _ _ _ ?_ ?_ | refine DeepL.cons _ _ _ _ ?_ ?_ | refine DeepLL.cons _ _ _ _ ?_ ?_ | exact deepLL_refl _))), (indexF_ltl P (by omega) (eqT f) 48 [.ipt (drow f)] (by simp [PureL, Pure, pure_drow]) fun a _ => ta_part1 f hf a), rfl, ?_⟩); ((conv=>whnf);repeat(refine .intro rfl ?_;conv=>whnf)))
  exact .refl _
theorem atomsF_upto {t : Tree} {k : Nat} (h : k < t.width) : (atomsF (t.kids.take k)).length + (atomsOf (t.kid k)).length ≤ (atomsF t.kids).length := by
  rw [← List.length_append, ← atomsF_take h]
  conv => rhs; rw [← List.take_append_drop (k + 1) t.kids, atomsF_flat, List.flatMap_append, ← atomsF_flat]
  simp
theorem partsF_upto {t : Tree} {k : Nat} (h : k < t.width) : (partsF (t.kids.take k)).length + (partsOf (t.kid k)).length ≤ (partsF t.kids).length := by
  rw [← List.length_append, ← partsF_take h]
  conv => rhs; rw [← List.take_append_drop (k + 1) t.kids, partsF_flat, List.flatMap_append, ← partsF_flat]
  simp
def GathI (t : Tree) : Prop := ∀ (A : List Int) (P : List Tree), A.length + (atomsOf t).length ≤ 1000 → P.length + (partsOf t).length ≤ 1000 →
    ACall Try.prog 10 [.loc 0 0, dtree t] (gheap A P) (.tup []) (gheap (addI A (atomsOf t)) (addT P (partsOf t)))
set_option maxRecDepth 100000 in
theorem ta_gather : ∀ t : Tree, t.wf lKids → GathI t := by
  intro t
  induction t using Tree.ind with
  | h t ih =>
    intro hwf A P hA hP
    have hs := wf_small t hwf
    have hsz := hs.width
    have har := node_arity ((wf_iff _ _).1 hwf).1
    refine acall_introD c10_ok (by simp) (by simp [gheap]) ?_ trivial
    have eA := atomsOf_eq t
    have eP := partsOf_eq t
    have hlA := addI_len (atomsOf t) A
    unfold gheap
    (apply rd_sound; focus (repeat' constructor))
    ((conv=>whnf);repeat(refine .intro rfl ?_;conv=>whnf))
    (refine ifK_split (fun k3 => ?_) (fun k3 => ?_) <;> (rw [k3]; ((conv=>whnf);repeat(refine .intro rfl ?_;conv=>whnf))))
    · have k3 : t.kind = 3 := by simpa using k3
      rw [if_pos k3] at eA
      rw [if_neg (by omega)] at eP
      rw [eA, List.length_append, List.length_singleton] at hA
      (refine .inr (.inl ⟨_, _, (by (repeat' (first | exact Deep.refl _ | exact deepLL_all (by first | (simp; done) | (simp [i64s]; done)) | exact Deep.none _ | exact deep_row _ | exact DeepL.nil | exact DeepLL.nil | refine Deep.agg _ _ ?_ | refine Deep.tup _ _ ?_ | refine Deep.own _ _ _ _ _ _ _ _ rfl ?_ | refine Deep.loc _ _ _ _ _ rfl ?_ | refine Deep.ifc _ _ _ ?_ | refine Deep.fn _ _ _ _ _ ?_ ?_ | refine DeepL.cons _ _ _ _ ?_ ?_ | refine DeepLL.cons _ _ _ _ ?_ ?_ | exact deepLL_refl _))), (contains_int A (by omega) t.num), rfl, ?_⟩); ((conv=>whnf);repeat(refine .intro rfl ?_;conv=>whnf)))
      cases r : A.contains t.num
      · have hA1 : addI A [t.num] = A ++ [t.num] := by rw [addI_one, if_neg (by rw [r]; decide)]
        ((conv=>whnf);repeat(refine .intro rfl ?_;conv=>whnf))
        refine ⟨(by unfold sliceAppend; simp only [ll]; omega), ?_⟩
        ((conv=>whnf);repeat(refine .intro rfl ?_;conv=>whnf))
        refine pwp_ghostB (leB_close 5 (env' := [(0, .loc 0 0), (49, .lst 3 (t.kids.map dcells)), (50, .sc (.int .i64 (t.kids.map dcells).length)), (51, .sc (.int .i64 0))]) (H' := [.row true [.own 1 (A.length + 1) 0 (A.length + 1), .own 2 P.length 0 P.length], .vec true (A.length + 1) 1 (i64s (A ++ [t.num])), .vec true P.length 3 (trows P), .row true (drow t), .vec true 0 1 [[.sc (.int .i64 t.num)]]]) (by simp) rfl ?_ ?_) ?_
        · (repeat' (first | exact trivial | exact rfl | exact DeepM.refl _ | exact DeepML.refl _ | exact DeepMLL.refl _ | refine And.intro ?_ ?_ | (simp [Under, UnderL, UnderLL, -List.map_take, -List.map_drop]; done)))
          all_goals first | exact underLL_pure _ (pure_kids t) | skip
        · (repeat' (first | exact trivial | exact rfl | exact DeepM.refl _ | exact DeepML.refl _ | exact DeepMLL.refl _ | refine And.intro ?_ ?_ | (simp [Under, UnderL, UnderLL, -List.map_take, -List.map_drop]; done)))
          all_goals first | exact underL_pure _ (pure_drow _) | exact deepMLL_eq (i64s_snoc _ _) | skip
        rw [show A.length + 1 = (A ++ [t.num]).length by simp, ← hA1]
        have hP1 : P = addT P [] := rfl
        have lA1 : (addI A [t.num]).length ≤ A.length + 1 := by rw [hA1]; simp
        have lP1 : P.length ≤ P.length := Nat.le_refl _
        have lA : A.length + 1 + (atomsF t.kids).length ≤ 1000 := by omega
        have lP : P.length + (partsF t.kids).length ≤ 1000 := by rw [eP, List.nil_append] at hP; exact hP
        rw [eA, eP, addI_app, List.nil_append]
        generalize addI A [t.num] = A1 at *
        refine pwp_forH [0, 49, 50] (fun k : Nat => [(51, .sc (.int .i64 k))]) (fun k => gheap (addI A1 (atomsF (t.kids.take k))) (addT P (partsF (t.kids.take k))) ++ [.row true (drow t), .vec true 0 1 [[.sc (.int .i64 t.num)]]]) (fun k => k ≤ t.width) (fun k => t.width - k) 0 ?_
        ((conv=>whnf);repeat(refine .intro rfl ?_;conv=>whnf))
        refine ⟨by omega, by (repeat' (first | exact trivial | refine And.intro rfl ?_)), rfl, ?_⟩
        rintro k hk
        have lak := addI_len (atomsF (t.kids.take k)) A1
        have lpk := addT_len (partsF (t.kids.take k)) P
        unfold gheap
        ((conv=>whnf);repeat(refine .intro rfl ?_;conv=>whnf))
        (apply rd_sound; focus (repeat' constructor))
        ((conv=>whnf);repeat(refine .intro rfl ?_;conv=>whnf))
        (refine ifK_split (fun q0 => ?_) (fun q0 => ?_) <;> (rw [q0]; ((conv=>whnf);repeat(refine .intro rfl ?_;conv=>whnf))))
        · have q0 : k < t.width := by simpa [Tree.width] using q0
          refine ⟨by omega, _, kid_at q0, ?_⟩
          ((conv=>whnf);repeat(refine .intro rfl ?_;conv=>whnf))
          have eA2 := atomsF_take q0
          have eP2 := partsF_take q0
          have tA : (atomsF (t.kids.take k)).length + (atomsOf (t.kid k)).length ≤ (atomsF t.kids).length := atomsF_upto q0
          have tP : (partsF (t.kids.take k)).length + (partsOf (t.kid k)).length ≤ (partsF t.kids).length := partsF_upto q0
          have hG := acall_pre (ih k q0 (wf_kid hwf q0) (addI A1 (atomsF (t.kids.take k))) (addT P (partsF (t.kids.take k))) (by omega) (by omega)) [.row true (drow t), .vec true 0 1 [[.sc (.int .i64 t.num)]], .row true (drow (t.kid k))] (by simp [gheap]) (by simp [gheap, UnderL, Under, under_pure _ (pure_dtree _)]) (underO_gheap (by simp [gheap]))
          rw [← addI_app, ← addT_app, ← eA2, ← eP2] at hG
          unfold gheap at hG
          (refine .inr (.inr (.inl ⟨rfl, _, _, hG, ?_⟩)); ((conv=>whnf);repeat(refine .intro rfl ?_;conv=>whnf)))
          (refine .inl ⟨by (unfold InR; rw [IntKind.wrap_i64]; omega), ?_⟩; ((conv=>whnf);repeat(refine .intro rfl ?_;conv=>whnf)))
          refine ⟨k + 1, by omega, by dsimp only; omega, ?_⟩
          dsimp only
          (refine leB_close 5 (by simp) rfl ?_ ?_ <;> (repeat' (first | exact trivial | exact rfl | exact DeepM.refl _ | exact DeepML.refl _ | exact DeepMLL.refl _ | refine And.intro ?_ ?_ | (simp [Under, UnderL, UnderLL, -List.map_take, -List.map_drop]; done))))
          all_goals first | exact underL_pure _ (pure_drow _) | exact underLL_pure _ (pure_kids t) | skip
        · have q0 : k = t.width := by have : ¬ k < t.width := by simpa [Tree.width] using q0
                                      omega
          subst q0
          rw [show t.kids.take t.width = t.kids from List.take_length]
          exact ⟨.refl _, closeH_same _ _ (under_gheap (Nat.le_refl _))⟩
      · have hA1 : addI A [t.num] = A := by rw [addI_one, if_pos r]
        ((conv=>whnf);repeat(refine .intro rfl ?_;conv=>whnf))
        have lA1 : A.length ≤ A.length := Nat.le_refl _
        have lP1 : P.length ≤ P.length := Nat.le_refl _
        have lA : A.length + (atomsF t.kids).length ≤ 1000 := by omega
        have lP : P.length + (partsF t.kids).length ≤ 1000 := by rw [eP, List.nil_append] at hP; exact hP
        rw [eA, eP, addI_app, List.nil_append, hA1]
        refine pwp_forH [0, 49, 50] (fun k : Nat => [(51, .sc (.int .i64 k))]) (fun k => gheap (addI A (atomsF (t.kids.take k))) (addT P (partsF (t.kids.take k))) ++ [.row true (drow t)]) (fun k => k ≤ t.width) (fun k => t.width - k) 0 ?_
        ((conv=>whnf);repeat(refine .intro rfl ?_;conv=>whnf))
        refine ⟨by omega, by (repeat' (first | exact trivial | refine And.intro rfl ?_)), rfl, ?_⟩
        rintro k hk
        have lak := addI_len (atomsF (t.kids.take k)) A
        have lpk := addT_len (partsF (t.kids.take k)) P
        unfold gheap
        ((conv=>whnf);repeat(refine .intro rfl ?_;conv=>whnf))
        (apply rd_sound; focus (repeat' constructor))
        ((conv=>whnf);repeat(refine .intro rfl ?_;conv=>whnf))
        (refine ifK_split (fun q0 => ?_) (fun q0 => ?_) <;> (rw [q0]; ((conv=>whnf);repeat(refine .intro rfl ?_;conv=>whnf))))
        · have q0 : k < t.width := by simpa [Tree.width] using q0
          refine ⟨by omega, _, kid_at q0, ?_⟩
          ((conv=>whnf);repeat(refine .intro rfl ?_;conv=>whnf))
          have eA2 := atomsF_take q0
          have eP2 := partsF_take q0
          have tA : (atomsF (t.kids.take k)).length + (atomsOf (t.kid k)).length ≤ (atomsF t.kids).length := atomsF_upto q0
          have tP : (partsF (t.kids.take k)).length + (partsOf (t.kid k)).length ≤ (partsF t.kids).length := partsF_upto q0
          have hG := acall_pre (ih k q0 (wf_kid hwf q0) (addI A (atomsF (t.kids.take k))) (addT P (partsF (t.kids.take k))) (by omega) (by omega)) [.row true (drow t), .row true (drow (t.kid k))] (by simp [gheap]) (by simp [gheap, UnderL, Under, under_pure _ (pure_dtree _)]) (underO_gheap (by simp [gheap]))
          rw [← addI_app, ← addT_app, ← eA2, ← eP2] at hG
          unfold gheap at hG
          (refine .inr (.inr (.inl ⟨rfl, _, _, hG, ?_⟩)); ((conv=>whnf);repeat(refine .intro rfl ?_;conv=>whnf)))
          (refine .inl ⟨by (unfold InR; rw [IntKind.wrap_i64]; omega), ?_⟩; ((conv=>whnf);repeat(refine .intro rfl ?_;conv=>whnf)))
          refine ⟨k + 1, by omega, by dsimp only; omega, ?_⟩
          dsimp only
          (refine leB_close 4 (by simp) rfl ?_ ?_ <;> (repeat' (first | exact trivial | exact rfl | exact DeepM.refl _ | exact DeepML.refl _ | exact DeepMLL.refl _ | refine And.intro ?_ ?_ | (simp [Under, UnderL, UnderLL, -List.map_take, -List.map_drop]; done))))
          all_goals first | exact underL_pure _ (pure_drow _) | exact underLL_pure _ (pure_kids t) | skip
        · have q0 : k = t.width := by have : ¬ k < t.width := by simpa [Tree.width] using q0
                                      omega
          subst q0
          rw [show t.kids.take t.width = t.kids from List.take_length]
          exact ⟨.refl _, closeH_same _ _ (under_gheap (Nat.le_refl _))⟩
    have k3 : ¬ t.kind = 3 := by simpa using k3
    rw [if_neg k3, List.nil_append] at eA
    rw [eA] at hA
    have arm : (t.kind = 7 ∨ t.kind = 8 ∨ t.kind = 9) → t.kind = 7 ∨ t.kind = 8 ∨ t.kind = 9 := id
    have lA1 : A.length ≤ A.length := Nat.le_refl _
    have lP1 : P.length ≤ P.length := Nat.le_refl _
    (refine ifK_split (fun k7 => ?_) (fun k7 => ?_) <;> (rw [k7]; ((conv=>whnf);repeat(refine .intro rfl ?_;conv=>whnf))))
    · have k7 : t.kind = 7 ∨ t.kind = 8 ∨ t.kind = 9 := .inl (by simpa using k7)
      rw [if_pos k7] at eP
      rw [eP, List.length_append, List.length_singleton] at hP
      (refine .inr (.inl ⟨_, _, (by (repeat' (first | exact Deep.refl _ | exact deepLL_all (by first | (simp; done) | (simp [i64s]; done)) | exact Deep.none _ | exact deep_row _ | exact DeepL.nil | exact DeepLL.nil | refine Deep.agg _ _ ?_ | refine Deep.tup _ _ ?_ | refine Deep.own _ _ _ _ _ _ _ _ rfl ?_ | refine Deep.loc _ _ _ _ _ rfl ?_ | refine Deep.ifc _ _ _ ?_ | refine Deep.fn _ _ _ _ _ ?_ ?_ | refine DeepL.cons _ _ _ _ ?_ ?_ | refine DeepLL.cons _ _ _ _ ?_ ?_ | exact deepLL_refl _))), (ta_part A P (by omega) t hs), rfl, ?_⟩); ((conv=>whnf);repeat(refine .intro rfl ?_;conv=>whnf)))
      have hany := idxF_any (eqT t) P
      cases r : P.any (eqT t)
      · have hlt : (idxF (eqT t) P < 0) := by rw [r, decide_eq_false_iff_not] at hany; omega
        have hP1 : addT P [t] = P ++ [t] := by rw [addT_one, if_neg (by rw [r]; decide)]
        rw [decide_eq_true hlt]
        ((conv=>whnf);repeat(refine .intro rfl ?_;conv=>whnf))
        refine ⟨(by unfold sliceAppend; simp only [ll]; omega), ?_⟩
        ((conv=>whnf);repeat(refine .intro rfl ?_;conv=>whnf))
        (refine ⟨by omega, (by first | omega | (simp; done) | (simp; omega) | (simp only [ll]; omega)), ?_⟩; ((conv=>whnf);repeat(refine .intro rfl ?_;conv=>whnf)))
        refine ⟨_, tsnoc_at P _, ?_⟩
        ((conv=>whnf);repeat(refine .intro rfl ?_;conv=>whnf))
        refine pwp_ghostB (leB_close 5 (env' := [(0, .loc 0 0), (49, .lst 3 (t.kids.map dcells)), (50, .sc (.int .i64 (t.kids.map dcells).length)), (51, .sc (.int .i64 0))]) (H' := [.row true [.own 1 A.length 0 A.length, .own 2 (P.length + 1) 0 (P.length + 1)], .vec true A.length 1 (i64s A), .vec true (P.length + 1) 3 (trows (P ++ [t])), .row true (drow t), .vec true 0 3 [[.sc (.int .i64 0), .sc (.int .i64 0), .sc (.slice none 0 0)]]]) (by simp) rfl ?_ ?_) ?_
        · (repeat' (first | exact trivial | exact rfl | exact DeepM.refl _ | exact DeepML.refl _ | exact DeepMLL.refl _ | refine And.intro ?_ ?_ | (simp [Under, UnderL, UnderLL, -List.map_take, -List.map_drop]; done)))
          all_goals first | exact underLL_pure _ (pure_kids t) | skip
        · (repeat' (first | exact trivial | exact rfl | exact DeepM.refl _ | exact DeepML.refl _ | exact DeepMLL.refl _ | refine And.intro ?_ ?_ | (simp [Under, UnderL, UnderLL, -List.map_take, -List.map_drop]; done)))
          all_goals first | exact underL_pure _ (pure_drow _) | exact deepMLL_eq (tsnoc_set P t _) | skip
        rw [show P.length + 1 = (P ++ [t]).length by simp, ← hP1]
        have lP1' : (addT P [t]).length ≤ P.length + 1 := by rw [hP1]; simp
        have lA : A.length + (atomsF t.kids).length ≤ 1000 := hA
        have lP : P.length + 1 + (partsF t.kids).length ≤ 1000 := by omega
        rw [eA, eP, addT_app]
        generalize addT P [t] = P1 at *
        refine pwp_forH [0, 49, 50] (fun k : Nat => [(51, .sc (.int .i64 k))]) (fun k => gheap (addI A (atomsF (t.kids.take k))) (addT P1 (partsF (t.kids.take k))) ++ [.row true (drow t), .vec true 0 3 [[.sc (.int .i64 0), .sc (.int .i64 0), .sc (.slice none 0 0)]]]) (fun k => k ≤ t.width) (fun k => t.width - k) 0 ?_
        ((conv=>whnf);repeat(refine .intro rfl ?_;conv=>whnf))
        refine ⟨by omega, by (repeat' (first | exact trivial | refine And.intro rfl ?_)), rfl, ?_⟩
        rintro k hk
        have lak := addI_len (atomsF (t.kids.take k)) A
        have lpk := addT_len (partsF (t.kids.take k)) P1
        unfold gheap
        ((conv=>whnf);repeat(refine .intro rfl ?_;conv=>whnf))
        (apply rd_sound; focus (repeat' constructor))
        ((conv=>whnf);repeat(refine .intro rfl ?_;conv=>whnf))
        (refine ifK_split (fun q0 => ?_) (fun q0 => ?_) <;> (rw [q0]; ((conv=>whnf);repeat(refine .intro rfl ?_;conv=>whnf))))
        · have q0 : k < t.width := by simpa [Tree.width] using q0
          refine ⟨by omega, _, kid_at q0, ?_⟩
          ((conv=>whnf);repeat(refine .intro rfl ?_;conv=>whnf))
          have eA2 := atomsF_take q0
          have eP2 := partsF_take q0
          have tA : (atomsF (t.kids.take k)).length + (atomsOf (t.kid k)).length ≤ (atomsF t.kids).length := atomsF_upto q0
          have tP : (partsF (t.kids.take k)).length + (partsOf (t.kid k)).length ≤ (partsF t.kids).length := partsF_upto q0
          have hG := acall_pre (ih k q0 (wf_kid hwf q0) (addI A (atomsF (t.kids.take k))) (addT P1 (partsF (t.kids.take k))) (by omega) (by omega)) [.row true (drow t), .vec true 0 3 [[.sc (.int .i64 0), .sc (.int .i64 0), .sc (.slice none 0 0)]], .row true (drow (t.kid k))] (by simp [gheap]) (by simp [gheap, UnderL, Under, under_pure _ (pure_dtree _)]) (underO_gheap (by simp [gheap]))
          rw [← addI_app, ← addT_app, ← eA2, ← eP2] at hG
          unfold gheap at hG
          (refine .inr (.inr (.inl ⟨rfl, _, _, hG, ?_⟩)); ((conv=>whnf);repeat(refine .intro rfl ?_;conv=>whnf)))
          (refine .inl ⟨by (unfold InR; rw [IntKind.wrap_i64]; omega), ?_⟩; ((conv=>whnf);repeat(refine .intro rfl ?_;conv=>whnf)))
          refine ⟨k + 1, by omega, by dsimp only; omega, ?_⟩
          dsimp only
          (refine leB_close 5 (by simp) rfl ?_ ?_ <;> (repeat' (first | exact trivial | exact rfl | exact DeepM.refl _ | exact DeepML.refl _ | exact DeepMLL.refl _ | refine And.intro ?_ ?_ | (simp [Under, UnderL, UnderLL, -List.map_take, -List.map_drop]; done))))
          all_goals first | exact underL_pure _ (pure_drow _) | exact underLL_pure _ (pure_kids t) | skip
        · have q0 : k = t.width := by have : ¬ k < t.width := by simpa [Tree.width] using q0
                                      omega
          subst q0
          rw [show t.kids.take t.width = t.kids from List.take_length]
          exact ⟨.refl _, closeH_same _ _ (under_gheap (Nat.le_refl _))⟩
      · have hlt : ¬ (idxF (eqT t) P < 0) := by rw [r, decide_eq_true_eq] at hany; omega
        have hP1 : addT P [t] = P := by rw [addT_one, if_pos r]
        rw [decide_eq_false hlt]
        ((conv=>whnf);repeat(refine .intro rfl ?_;conv=>whnf))
        have lA : A.length + (atomsF t.kids).length ≤ 1000 := hA
        have lP : P.length + (partsF t.kids).length ≤ 1000 := by omega
        rw [eA, eP, addT_app, hP1]
        refine pwp_forH [0, 49, 50] (fun k : Nat => [(51, .sc (.int .i64 k))]) (fun k => gheap (addI A (atomsF (t.kids.take k))) (addT P (partsF (t.kids.take k))) ++ [.row true (drow t)]) (fun k => k ≤ t.width) (fun k => t.width - k) 0 ?_
        ((conv=>whnf);repeat(refine .intro rfl ?_;conv=>whnf))
        refine ⟨by omega, by (repeat' (first | exact trivial | refine And.intro rfl ?_)), rfl, ?_⟩
        rintro k hk
        have lak := addI_len (atomsF (t.kids.take k)) A
        have lpk := addT_len (partsF (t.kids.take k)) P
        unfold gheap
        ((conv=>whnf);repeat(refine .intro rfl ?_;conv=>whnf))
        (apply rd_sound; focus (repeat' constructor))
        ((conv=>whnf);repeat(refine .intro rfl ?_;conv=>whnf))
        (refine ifK_split (fun q0 => ?_) (fun q0 => ?_) <;> (rw [q0]; ((conv=>whnf);repeat(refine .intro rfl ?_;conv=>whnf))))
        · have q0 : k < t.width := by simpa [Tree.width] using q0
          refine ⟨by omega, _, kid_at q0, ?_⟩
          ((conv=>whnf);repeat(refine .intro rfl ?_;conv=>whnf))
          have eA2 := atomsF_take q0
          have eP2 := partsF_take q0
          have tA : (atomsF (t.kids.take k)).length + (atomsOf (t.kid k)).length ≤ (atomsF t.kids).length := atomsF_upto q0
          have tP : (partsF (t.kids.take k)).length + (partsOf (t.kid k)).length ≤ (partsF t.kids).length := partsF_upto q0
          have hG := acall_pre (ih k q0 (wf_kid hwf q0) (addI A (atomsF (t.kids.take k))) (addT P (partsF (t.kids.take k))) (by omega) (by omega)) [.row true (drow t), .row true (drow (t.kid k))] (by simp [gheap]) (by simp [gheap, UnderL, Under, under_pure _ (pure_dtree _)]) (underO_gheap (by simp [gheap]))
          rw [← addI_app, ← addT_app, ← eA2, ← eP2] at hG
          unfold gheap at hG
          (refine .inr (.inr (.inl ⟨rfl, _, _, hG, ?_⟩)); ((conv=>whnf);repeat(refine .intro rfl ?_;conv=>whnf)))
          (refine .inl ⟨by (unfold InR; rw [IntKind.wrap_i64]; omega), ?_⟩; ((conv=>whnf);repeat(refine .intro rfl ?_;conv=>whnf)))
          refine ⟨k + 1, by omega, by dsimp only; omega, ?_⟩
          dsimp only
          (refine leB_close 4 (by simp) rfl ?_ ?_ <;> (repeat' (first | exact trivial | exact rfl | exact DeepM.refl _ | exact DeepML.refl _ | exact DeepMLL.refl _ | refine And.intro ?_ ?_ | (simp [Under, UnderL, UnderLL, -List.map_take, -List.map_drop]; done))))
          all_goals first | exact underL_pure _ (pure_drow _) | exact underLL_pure _ (pure_kids t) | skip
        · have q0 : k = t.width := by have : ¬ k < t.width := by simpa [Tree.width] using q0
                                      omega
          subst q0
          rw [show t.kids.take t.width = t.kids from List.take_length]
          exact ⟨.refl _, closeH_same _ _ (under_gheap (Nat.le_refl _))⟩
    (refine ifK_split (fun k8 => ?_) (fun k8 => ?_) <;> (rw [k8]; ((conv=>whnf);repeat(refine .intro rfl ?_;conv=>whnf))))
    · have k7 : t.kind = 7 ∨ t.kind = 8 ∨ t.kind = 9 := .inr (.inl (by simpa using k8))
      rw [if_pos k7] at eP
      rw [eP, List.length_append, List.length_singleton] at hP
      (refine .inr (.inl ⟨_, _, (by (repeat' (first | exact Deep.refl _ | exact deepLL_all (by first | (simp; done) | (simp [i64s]; done)) | exact Deep.none _ | exact deep_row _ | exact DeepL.nil | exact DeepLL.nil | refine Deep.agg _ _ ?_ | refine Deep.tup _ _ ?_ | refine Deep.own _ _ _ _ _ _ _ _ rfl ?_ | refine Deep.loc _ _ _ _ _ rfl ?_ | refine Deep.ifc _ _ _ ?_ | refine Deep.fn _ _ _ _ _ ?_ ?_ | refine DeepL.cons _ _ _ _ ?_ ?_ | refine DeepLL.cons _ _ _ _ ?_ ?_ | exact deepLL_refl _))), (ta_part A P (by omega) t hs), rfl, ?_⟩); ((conv=>whnf);repeat(refine .intro rfl ?_;conv=>whnf)))
      have hany := idxF_any (eqT t) P
      cases r : P.any (eqT t)
      · have hlt : (idxF (eqT t) P < 0) := by rw [r, decide_eq_false_iff_not] at hany; omega
        have hP1 : addT P [t] = P ++ [t] := by rw [addT_one, if_neg (by rw [r]; decide)]
        rw [decide_eq_true hlt]
        ((conv=>whnf);repeat(refine .intro rfl ?_;conv=>whnf))
        refine ⟨(by unfold sliceAppend; simp only [ll]; omega), ?_⟩
        ((conv=>whnf);repeat(refine .intro rfl ?_;conv=>whnf))
        (refine ⟨by omega, (by first | omega | (simp; done) | (simp; omega) | (simp only [ll]; omega)), ?_⟩; ((conv=>whnf);repeat(refine .intro rfl ?_;conv=>whnf)))
        refine ⟨_, tsnoc_at P _, ?_⟩
        ((conv=>whnf);repeat(refine .intro rfl ?_;conv=>whnf))
        refine pwp_ghostB (leB_close 5 (env' := [(0, .loc 0 0), (49, .lst 3 (t.kids.map dcells)), (50, .sc (.int .i64 (t.kids.map dcells).length)), (51, .sc (.int .i64 0))]) (H' := [.row true [.own 1 A.length 0 A.length, .own 2 (P.length + 1) 0 (P.length + 1)], .vec true A.length 1 (i64s A), .vec true (P.length + 1) 3 (trows (P ++ [t])), .row true (drow t), .vec true 0 3 [[.sc (.int .i64 0), .sc (.int .i64 0), .sc (.slice none 0 0)]]]) (by simp) rfl ?_ ?_) ?_
        · (repeat' (first | exact trivial | exact rfl | exact DeepM.refl _ | exact DeepML.refl _ | exact DeepMLL.refl _ | refine And.intro ?_ ?_ | (simp [Under, UnderL, UnderLL, -List.map_take, -List.map_drop]; done)))
          all_goals first | exact underLL_pure _ (pure_kids t) | skip
        · (repeat' (first | exact trivial | exact rfl | exact DeepM.refl _ | exact DeepML.refl _ | exact DeepMLL.refl _ | refine And.intro ?_ ?_ | (simp [Under, UnderL, UnderLL, -List.map_take, -List.map_drop]; done)))
          all_goals first | exact underL_pure _ (pure_drow _) | exact deepMLL_eq (tsnoc_set P t _) | skip
        rw [show P.length + 1 = (P ++ [t]).length by simp, ← hP1]
        have lP1' : (addT P [t]).length ≤ P.length + 1 := by rw [hP1]; simp
        have lA : A.length + (atomsF t.kids).length ≤ 1000 := hA
        have lP : P.length + 1 + (partsF t.kids).length ≤ 1000 := by omega
        rw [eA, eP, addT_app]
        generalize addT P [t] = P1 at *
        refine pwp_forH [0, 49, 50] (fun k : Nat => [(51, .sc (.int .i64 k))]) (fun k => gheap (addI A (atomsF (t.kids.take k))) (addT P1 (partsF (t.kids.take k))) ++ [.row true (drow t), .vec true 0 3 [[.sc (.int .i64 0), .sc (.int .i64 0), .sc (.slice none 0 0)]]]) (fun k => k ≤ t.width) (fun k => t.width - k) 0 ?_
        ((conv=>whnf);repeat(refine .intro rfl ?_;conv=>whnf))
        refine ⟨by omega, by (repeat' (first | exact trivial | refine And.intro rfl ?_)), rfl, ?_⟩
        rintro k hk
        have lak := addI_len (atomsF (t.kids.take k)) A
        have lpk := addT_len (partsF (t.kids.take k)) P1
        unfold gheap
        ((conv=>whnf);repeat(refine .intro rfl ?_;conv=>whnf))
        (apply rd_sound; focus (repeat' constructor))
        ((conv=>whnf);repeat(refine .intro rfl ?_;conv=>whnf))
        (refine ifK_split (fun q0 => ?_) (fun q0 => ?_) <;> (rw [q0]; ((conv=>whnf);repeat(refine .intro rfl ?_;conv=>whnf))))
        · have q0 : k < t.width := by simpa [Tree.width] using q0
          refine ⟨by omega, _, kid_at q0, ?_⟩
          ((conv=>whnf);repeat(refine .intro rfl ?_;conv=>whnf))
          have eA2 := atomsF_take q0
          have eP2 := partsF_take q0
          have tA : (atomsF (t.kids.take k)).length + (atomsOf (t.kid k)).length ≤ (atomsF t.kids).length := atomsF_upto q0
          have tP : (partsF (t.kids.take k)).length + (partsOf (t.kid k)).length ≤ (partsF t.kids).length := partsF_upto q0
          have hG := acall_pre (ih k q0 (wf_kid hwf q0) (addI A (atomsF (t.kids.take k))) (addT P1 (partsF (t.kids.take k))) (by omega) (by omega)) [.row true (drow t), .vec true 0 3 [[.sc (.int .i64 0), .sc (.int .i64 0), .sc (.slice none 0 0)]], .row true (drow (t.kid k))] (by simp [gheap]) (by simp [gheap, UnderL, Under, under_pure _ (pure_dtree _)]) (underO_gheap (by simp [gheap]))
          rw [← addI_app, ← addT_app, ← eA2, ← eP2] at hG
          unfold gheap at hG
          (refine .inr (.inr (.inl ⟨rfl, _, _, hG, ?_⟩)); ((conv=>whnf);repeat(refine .intro rfl ?_;conv=>whnf)))
          (refine .inl ⟨by (unfold InR; rw [IntKind.wrap_i64]; omega), ?_⟩; ((conv=>whnf);repeat(refine .intro rfl ?_;conv=>whnf)))
          refine ⟨k + 1, by omega, by dsimp only; omega, ?_⟩
          dsimp only
          (refine leB_close 5 (by simp) rfl ?_ ?_ <;> (repeat' (first | exact trivial | exact rfl | exact DeepM.refl _ | exact DeepML.refl _ | exact DeepMLL.refl _ | refine And.intro ?_ ?_ | (simp [Under, UnderL, UnderLL, -List.map_take, -List.map_drop]; done))))
          all_goals first | exact underL_pure _ (pure_drow _) | exact underLL_pure _ (pure_kids t) | skip
        · have q0 : k = t.width := by have : ¬ k < t.width := by simpa [Tree.width] using q0
                                      omega
          subst q0
          rw [show t.kids.take t.width = t.kids from List.take_length]
          exact ⟨.refl _, closeH_same _ _ (under_gheap (Nat.le_refl _))⟩
      · have hlt : ¬ (idxF (eqT t) P < 0) := by rw [r, decide_eq_true_eq] at hany; omega
        have hP1 : addT P [t] = P := by rw [addT_one, if_pos r]
        rw [decide_eq_false hlt]
        ((conv=>whnf);repeat(refine .intro rfl ?_;conv=>whnf))
        have lA : A.length + (atomsF t.kids).length ≤ 1000 := hA
        have lP : P.length + (partsF t.kids).length ≤ 1000 := by omega
        rw [eA, eP, addT_app, hP1]
        refine pwp_forH [0, 49, 50] (fun k : Nat => [(51, .sc (.int .i64 k))]) (fun k => gheap (addI A (atomsF (t.kids.take k))) (addT P (partsF (t.kids.take k))) ++ [.row true (drow t)]) (fun k => k ≤ t.width) (fun k => t.width - k) 0 ?_
        ((conv=>whnf);repeat(refine .intro rfl ?_;conv=>whnf))
        refine ⟨by omega, by (repeat' (first | exact trivial | refine And.intro rfl ?_)), rfl, ?_⟩
        rintro k hk
        have lak := addI_len (atomsF (t.kids.take k)) A
        have lpk := addT_len (partsF (t.kids.take k)) P
        unfold gheap
        ((conv=>whnf);repeat(refine .intro rfl ?_;conv=>whnf))
        (apply rd_sound; focus (repeat' constructor))
        ((conv=>whnf);repeat(refine .intro rfl ?_;conv=>whnf))
        (refine ifK_split (fun q0 => ?_) (fun q0 => ?_) <;> (rw [q0]; ((conv=>whnf);repeat(refine .intro rfl ?_;conv=>whnf))))
        · have q0 : k < t.width := by simpa [Tree.width] using q0
          refine ⟨by omega, _, kid_at q0, ?_⟩
          ((conv=>whnf);repeat(refine .intro rfl ?_;conv=>whnf))
          have eA2 := atomsF_take q0
          have eP2 := partsF_take q0
          have tA : (atomsF (t.kids.take k)).length + (atomsOf (t.kid k)).length ≤ (atomsF t.kids).length := atomsF_upto q0
          have tP : (partsF (t.kids.take k)).length + (partsOf (t.kid k)).length ≤ (partsF t.kids).length := partsF_upto q0
          have hG := acall_pre (ih k q0 (wf_kid hwf q0) (addI A (atomsF (t.kids.take k))) (addT P (partsF (t.kids.take k))) (by omega) (by omega)) [.row true (drow t), .row true (drow (t.kid k))] (by simp [gheap]) (by simp [gheap, UnderL, Under, under_pure _ (pure_dtree _)]) (underO_gheap (by simp [gheap]))
          rw [← addI_app, ← addT_app, ← eA2, ← eP2] at hG
          unfold gheap at hG
          (refine .inr (.inr (.inl ⟨rfl, _, _, hG, ?_⟩)); ((conv=>whnf);repeat(refine .intro rfl ?_;conv=>whnf)))
          (refine .inl ⟨by (unfold InR; rw [IntKind.wrap_i64]; omega), ?_⟩; ((conv=>whnf);repeat(refine .intro rfl ?_;conv=>whnf)))
          refine ⟨k + 1, by omega, by dsimp only; omega, ?_⟩
          dsimp only
          (refine leB_close 4 (by simp) rfl ?_ ?_ <;> (repeat' (first | exact trivial | exact rfl | exact DeepM.refl _ | exact DeepML.refl _ | exact DeepMLL.refl _ | refine And.intro ?_ ?_ | (simp [Under, UnderL, UnderLL, -List.map_take, -List.map_drop]; done))))
          all_goals first | exact underL_pure _ (pure_drow _) | exact underLL_pure _ (pure_kids t) | skip
        · have q0 : k = t.width := by have : ¬ k < t.width := by simpa [Tree.width] using q0
                                      omega
          subst q0
          rw [show t.kids.take t.width = t.kids from List.take_length]
          exact ⟨.refl _, closeH_same _ _ (under_gheap (Nat.le_refl _))⟩
    (refine ifK_split (fun k9 => ?_) (fun k9 => ?_) <;> (rw [k9]; ((conv=>whnf);repeat(refine .intro rfl ?_;conv=>whnf))))
    · have k7 : t.kind = 7 ∨ t.kind = 8 ∨ t.kind = 9 := .inr (.inr (by simpa using k9))
      rw [if_pos k7] at eP
      rw [eP, List.length_append, List.length_singleton] at hP
      (refine .inr (.inl ⟨_, _, (by (repeat' (first | exact Deep.refl _ | exact deepLL_all (by first | (simp; done) | (simp [i64s]; done)) | exact Deep.none _ | exact deep_row _ | exact DeepL.nil | exact DeepLL.nil | refine Deep.agg _ _ ?_ | refine Deep.tup _ _ ?_ | refine Deep.own _ _ _ _ _ _ _ _ rfl ?_ | refine Deep.loc _ _ _ _ _ rfl ?_ | refine Deep.ifc _ _ _ ?_ | refine Deep.fn _ _ _ _ _ ?_ ?_ | refine DeepL.cons _ _ _ _ ?_ ?_ | refine DeepLL.cons _ _ _ _ ?_ ?_ | exact deepLL_refl _))), (ta_part A P (by omega) t hs), rfl, ?_⟩); ((conv=>whnf);repeat(refine .intro rfl ?_;conv=>whnf)))
      have hany := idxF_any (eqT t) P
      cases r : P.any (eqT t)
      · have hlt : (idxF (eqT t) P < 0) := by rw [r, decide_eq_false_iff_not] at hany; omega
        have hP1 : addT P [t] = P ++ [t] := by rw [addT_one, if_neg (by rw [r]; decide)]
        rw [decide_eq_true hlt]
        ((conv=>whnf);repeat(refine .intro rfl ?_;conv=>whnf))
        refine ⟨(by unfold sliceAppend; simp only [ll]; omega), ?_⟩
        ((conv=>whnf);repeat(refine .intro rfl ?_;conv=>whnf))
        (refine ⟨by omega, (by first | omega | (simp; done) | (simp; omega) | (simp only [ll]; omega)), ?_⟩; ((conv=>whnf);repeat(refine .intro rfl ?_;conv=>whnf)))
        refine ⟨_, tsnoc_at P _, ?_⟩
        ((conv=>whnf);repeat(refine .intro rfl ?_;conv=>whnf))
        refine pwp_ghostB (leB_close 5 (env' := [(0, .loc 0 0), (49, .lst 3 (t.kids.map dcells)), (50, .sc (.int .i64 (t.kids.map dcells).length)), (51, .sc (.int .i64 0))]) (H' := [.row true [.own 1 A.length 0 A.length, .own 2 (P.length + 1) 0 (P.length + 1)], .vec true A.length 1 (i64s A), .vec true (P.length + 1) 3 (trows (P ++ [t])), .row true (drow t), .vec true 0 3 [[.sc (.int .i64 0), .sc (.int .i64 0), .sc (.slice none 0 0)]]]) (by simp) rfl ?_ ?_) ?_
        · (repeat' (first | exact trivial | exact rfl | exact DeepM.refl _ | exact DeepML.refl _ | exact DeepMLL.refl _ | refine And.intro ?_ ?_ | (simp [Under, UnderL, UnderLL, -List.map_take, -List.map_drop]; done)))
          all_goals first | exact underLL_pure _ (pure_kids t) | skip
        · (repeat' (first | exact trivial | exact rfl | exact DeepM.refl _ | exact DeepML.refl _ | exact DeepMLL.refl _ | refine And.intro ?_ ?_ | (simp [Under, UnderL, UnderLL, -List.map_take, -List.map_drop]; done)))
          all_goals first | exact underL_pure _ (pure_drow _) | exact deepMLL_eq (tsnoc_set P t _) | skip
        rw [show P.length + 1 = (P ++ [t]).length by simp, ← hP1]
        have lP1' : (addT P [t]).length ≤ P.length + 1 := by rw [hP1]; simp
        have lA : A.length + (atomsF t.kids).length ≤ 1000 := hA
        have lP : P.length + 1 + (partsF t.kids).length ≤ 1000 := by omega
        rw [eA, eP, addT_app]
        generalize addT P [t] = P1 at *
        refine pwp_forH [0, 49, 50] (fun k : Nat => [(51, .sc (.int .i64 k))]) (fun k => gheap (addI A (atomsF (t.kids.take k))) (addT P1 (partsF (t.kids.take k))) ++ [.row true (drow t), .vec true 0 3 [[.sc (.int .i64 0), .sc (.int .i64 0), .sc (.slice none 0 0)]]]) (fun k => k ≤ t.width) (fun k => t.width - k) 0 ?_
        ((conv=>whnf);repeat(refine .intro rfl ?_;conv=>whnf))
        refine ⟨by omega, by (repeat' (first | exact trivial | refine And.intro rfl ?_)), rfl, ?_⟩
        rintro k hk
        have lak := addI_len (atomsF (t.kids.take k)) A
        have lpk := addT_len (partsF (t.kids.take k)) P1
        unfold gheap
        ((conv=>whnf);repeat(refine .intro rfl ?_;conv=>whnf))
        (apply rd_sound; focus (repeat' constructor))
        ((conv=>whnf);repeat(refine .intro rfl ?_;conv=>whnf))
        (refine ifK_split (fun q0 => ?_) (fun q0 => ?_) <;> (rw [q0]; ((conv=>whnf);repeat(refine .intro rfl ?_;conv=>whnf))))
        · have q0 : k < t.width := by simpa [Tree.width] using q0
          refine ⟨by omega, _, kid_at q0, ?_⟩
          ((conv=>whnf);repeat(refine .intro rfl ?_;conv=>whnf))
          have eA2 := atomsF_take q0
          have eP2 := partsF_take q0
          have tA : (atomsF (t.kids.take k)).length + (atomsOf (t.kid k)).length ≤ (atomsF t.kids).length := atomsF_upto q0
          have tP : (partsF (t.kids.take k)).length + (partsOf (t.kid k)).length ≤ (partsF t.kids).length := partsF_upto q0
          have hG := acall_pre (ih k q0 (wf_kid hwf q0) (addI A (atomsF (t.kids.take k))) (addT P1 (partsF (t.kids.take k))) (by omega) (by omega)) [.row true (drow t), .vec true 0 3 [[.sc (.int .i64 0), .sc (.int .i64 0), .sc (.slice none 0 0)]], .row true (drow (t.kid k))] (by simp [gheap]) (by simp [gheap, UnderL, Under, under_pure _ (pure_dtree _)]) (underO_gheap (by simp [gheap]))
          rw [← addI_app, ← addT_app, ← eA2, ← eP2] at hG
          unfold gheap at hG
          (refine .inr (.inr (.inl ⟨rfl, _, _, hG, ?_⟩)); ((conv=>whnf);repeat(refine .intro rfl ?_;conv=>whnf)))
          (refine .inl ⟨by (unfold InR; rw [IntKind.wrap_i64]; omega), ?_⟩; ((conv=>whnf);repeat(refine .intro rfl ?_;conv=>whnf)))
          refine ⟨k + 1, by omega, by dsimp only; omega, ?_⟩
          dsimp only
          (refine leB_close 5 (by simp) rfl ?_ ?_ <;> (repeat' (first | exact trivial | exact rfl | exact DeepM.refl _ | exact DeepML.refl _ | exact DeepMLL.refl _ | refine And.intro ?_ ?_ | (simp [Under, UnderL, UnderLL, -List.map_take, -List.map_drop]; done))))
          all_goals first | exact underL_pure _ (pure_drow _) | exact underLL_pure _ (pure_kids t) | skip
        · have q0 : k = t.width := by have : ¬ k < t.width := by simpa [Tree.width] using q0
                                      omega
          subst q0
          rw [show t.kids.take t.width = t.kids from List.take_length]
          exact ⟨.refl _, closeH_same _ _ (under_gheap (Nat.le_refl _))⟩
      · have hlt : ¬ (idxF (eqT t) P < 0) := by rw [r, decide_eq_true_eq] at hany; omega
        have hP1 : addT P [t] = P := by rw [addT_one, if_pos r]
        rw [decide_eq_false hlt]
        ((conv=>whnf);repeat(refine .intro rfl ?_;conv=>whnf))
        have lA : A.length + (atomsF t.kids).length ≤ 1000 := hA
        have lP : P.length + (partsF t.kids).length ≤ 1000 := by omega
        rw [eA, eP, addT_app, hP1]
        refine pwp_forH [0, 49, 50] (fun k : Nat => [(51, .sc (.int .i64 k))]) (fun k => gheap (addI A (atomsF (t.kids.take k))) (addT P (partsF (t.kids.take k))) ++ [.row true (drow t)]) (fun k => k ≤ t.width) (fun k => t.width - k) 0 ?_
        ((conv=>whnf);repeat(refine .intro rfl ?_;conv=>whnf))
        refine ⟨by omega, by (repeat' (first | exact trivial | refine And.intro rfl ?_)), rfl, ?_⟩
        rintro k hk
        have lak := addI_len (atomsF (t.kids.take k)) A
        have lpk := addT_len (partsF (t.kids.take k)) P
        unfold gheap
        ((conv=>whnf);repeat(refine .intro rfl ?_;conv=>whnf))
        (apply rd_sound; focus (repeat' constructor))
        ((conv=>whnf);repeat(refine .intro rfl ?_;conv=>whnf))
        (refine ifK_split (fun q0 => ?_) (fun q0 => ?_) <;> (rw [q0]; ((conv=>whnf);repeat(refine .intro rfl ?_;conv=>whnf))))
        · have q0 : k < t.width := by simpa [Tree.width] using q0
          refine ⟨by omega, _, kid_at q0, ?_⟩
          ((conv=>whnf);repeat(refine .intro rfl ?_;conv=>whnf))
          have eA2 := atomsF_take q0
          have eP2 := partsF_take q0
          have tA : (atomsF (t.kids.take k)).length + (atomsOf (t.kid k)).length ≤ (atomsF t.kids).length := atomsF_upto q0
          have tP : (partsF (t.kids.take k)).length + (partsOf (t.kid k)).length ≤ (partsF t.kids).length := partsF_upto q0
          have hG := acall_pre (ih k q0 (wf_kid hwf q0) (addI A (atomsF (t.kids.take k))) (addT P (partsF (t.kids.take k))) (by omega) (by omega)) [.row true (drow t), .row true (drow (t.kid k))] (by simp [gheap]) (by simp [gheap, UnderL, Under, under_pure _ (pure_dtree _)]) (underO_gheap (by simp [gheap]))
          rw [← addI_app, ← addT_app, ← eA2, ← eP2] at hG
          unfold gheap at hG
          (refine .inr (.inr (.inl ⟨rfl, _, _, hG, ?_⟩)); ((conv=>whnf);repeat(refine .intro rfl ?_;conv=>whnf)))
          (refine .inl ⟨by (unfold InR; rw [IntKind.wrap_i64]; omega), ?_⟩; ((conv=>whnf);repeat(refine .intro rfl ?_;conv=>whnf)))
          refine ⟨k + 1, by omega, by dsimp only; omega, ?_⟩
          dsimp only
          (refine leB_close 4 (by simp) rfl ?_ ?_ <;> (repeat' (first | exact trivial | exact rfl | exact DeepM.refl _ | exact DeepML.refl _ | exact DeepMLL.refl _ | refine And.intro ?_ ?_ | (simp [Under, UnderL, UnderLL, -List.map_take, -List.map_drop]; done))))
          all_goals first | exact underL_pure _ (pure_drow _) | exact underLL_pure _ (pure_kids t) | skip
        · have q0 : k = t.width := by have : ¬ k < t.width := by simpa [Tree.width] using q0
                                      omega
          subst q0
          rw [show t.kids.take t.width = t.kids from List.take_length]
          exact ⟨.refl _, closeH_same _ _ (under_gheap (Nat.le_refl _))⟩
    have k7 : ¬ (t.kind = 7 ∨ t.kind = 8 ∨ t.kind = 9) := by
      simp only [beq_eq_false_iff_ne] at k7 k8 k9
      omega
    rw [if_neg k7, List.nil_append] at eP
    rw [eP] at hP
    rw [eA, eP]
    have lA : A.length + (atomsF t.kids).length ≤ 1000 := hA
    have lP : P.length + (partsF t.kids).length ≤ 1000 := hP
    refine pwp_forH [0, 49, 50] (fun k : Nat => [(51, .sc (.int .i64 k))]) (fun k => gheap (addI A (atomsF (t.kids.take k))) (addT P (partsF (t.kids.take k))) ++ [.row true (drow t)]) (fun k => k ≤ t.width) (fun k => t.width - k) 0 ?_
    ((conv=>whnf);repeat(refine .intro rfl ?_;conv=>whnf))
    refine ⟨by omega, by (repeat' (first | exact trivial | refine And.intro rfl ?_)), rfl, ?_⟩
    rintro k hk
    have lak := addI_len (atomsF (t.kids.take k)) A
    have lpk := addT_len (partsF (t.kids.take k)) P
    unfold gheap
    ((conv=>whnf);repeat(refine .intro rfl ?_;conv=>whnf))
    (apply rd_sound; focus (repeat' constructor))
    ((conv=>whnf);repeat(refine .intro rfl ?_;conv=>whnf))
    (refine ifK_split (fun q0 => ?_) (fun q0 => ?_) <;> (rw [q0]; ((conv=>whnf);repeat(refine .intro rfl ?_;conv=>whnf))))
    · have q0 : k < t.width := by simpa [Tree.width] using q0
      refine ⟨by omega, _, kid_at q0, ?_⟩
      ((conv=>whnf);repeat(refine .intro rfl ?_;conv=>whnf))
      have eA2 := atomsF_take q0
      have eP2 := partsF_take q0
      have tA : (atomsF (t.kids.take k)).length + (atomsOf (t.kid k)).length ≤ (atomsF t.kids).length := atomsF_upto q0
      have tP : (partsF (t.kids.take k)).length + (partsOf (t.kid k)).length ≤ (partsF t.kids).length := partsF_upto q0
      have hG := acall_pre (ih k q0 (wf_kid hwf q0) (addI A (atomsF (t.kids.take k))) (addT P (partsF (t.kids.take k))) (by omega) (by omega)) [.row true (drow t), .row true (drow (t.kid k))] (by simp [gheap]) (by simp [gheap, UnderL, Under, under_pure _ (pure_dtree _)]) (underO_gheap (by simp [gheap]))
      rw [← addI_app, ← addT_app, ← eA2, ← eP2] at hG
      unfold gheap at hG
      (refine .inr (.inr (.inl ⟨rfl, _, _, hG, ?_⟩)); ((conv=>whnf);repeat(refine .intro rfl ?_;conv=>whnf)))
      (refine .inl ⟨by (unfold InR; rw [IntKind.wrap_i64]; omega), ?_⟩; ((conv=>whnf);repeat(refine .intro rfl ?_;conv=>whnf)))
      refine ⟨k + 1, by omega, by dsimp only; omega, ?_⟩
      dsimp only
      (refine leB_close 4 (by simp) rfl ?_ ?_ <;> (repeat' (first | exact trivial | exact rfl | exact DeepM.refl _ | exact DeepML.refl _ | exact DeepMLL.refl _ | refine And.intro ?_ ?_ | (simp [Under, UnderL, UnderLL, -List.map_take, -List.map_drop]; done))))
      all_goals first | exact underL_pure _ (pure_drow _) | exact underLL_pure _ (pure_kids t) | skip
    · have q0 : k = t.width := by have : ¬ k < t.width := by simpa [Tree.width] using q0
                                  omega
      subst q0
      rw [show t.kids.take t.width = t.kids from List.take_length]
      exact ⟨.refl _, closeH_same _ _ (under_gheap (Nat.le_refl _))⟩
end Go.Proofs.Ytihgbinhidppdaa
