/-
  Automata over deep values: what is wrong with one; which letters fit. No statement is proved here.
-/
import Derived.Test.YtfaekhadjlgbbaaQWo0
import Derived.Test.YtfaekhadjlgbbaaQLas
import Derived.Test.YtfaekhadjlgbbaaQAw
import Derived.Test.YtfaekhadjlgbbaaQSc2
namespace Go.Proofs.Ytfaekhadjlgbbaa
open Go.RowKit
set_option linter.unusedSimpArgs false
set_option linter.unusedVariables false
structure AutoD where
  start : List Int
  next : List (List Int)
  must : List Int
  nots : List Int
  fair : List (List Int)
def AutoD.cells (A : AutoD) : List D := [dints A.start, dgrid A.next, dlet A.must, dlet A.nots, dgrid A.fair]
def dauto (A : AutoD) : D := .agg A.cells
theorem pure_aucells (A : AutoD) : PureL A.cells := by simp [AutoD.cells, PureL, pure_dints, pure_dgrid, pure_dlet]
theorem pure_dauto (A : AutoD) : Pure (dauto A) := by simp [dauto, Pure, pure_aucells]
structure AutoD.Fits (A : AutoD) : Prop where
  start : A.start.length ≤ 17592186043904
  next : A.next.length ≤ 17592186043904
  must : A.must.length ≤ 17592186043904
  nots : A.nots.length ≤ 17592186043904
  fair : A.fair.length ≤ 17592186043904
  nextEach : ∀ l ∈ A.next, l.length ≤ 17592186043904
  fairEach : ∀ l ∈ A.fair, l.length ≤ 17592186043904
/-- What is wrong with an automaton. -/
def AutoD.chk (A : AutoD) : Int :=
  if 2048 < A.next.length ∨ 80 < A.fair.length then 2
  else if A.must.length ≠ A.next.length ∨ A.nots.length ≠ A.next.length ∨ inB A.start A.next.length = false then 1
  else if (A.next.any fun l => !(inB l A.next.length)) = true then 1
  else if (A.fair.any fun l => !(inB l A.next.length)) = true then 1
  else 0
theorem chk_auto (A : AutoD) (h : A.chk = 0) : A.must.length = A.next.length ∧ A.nots.length = A.next.length ∧ A.next.length ≤ 2048 ∧ A.fair.length ≤ 80 ∧ inB A.start A.next.length = true ∧ (∀ l ∈ A.next, inB l A.next.length = true) ∧ ∀ l ∈ A.fair, inB l A.next.length = true := by
  unfold AutoD.chk at h
  split at h
  · exact absurd h (by decide)
  split at h
  · exact absurd h (by decide)
  split at h
  · exact absurd h (by decide)
  split at h
  · exact absurd h (by decide)
  rename_i h1 h2 h3 h4
  have h2' := not_or.1 h2
  have h2'' := not_or.1 h2'.2
  refine ⟨by omega, by omega, by omega, by omega, by simpa using h2''.2, fun l hl => ?_, fun l hl => ?_⟩
  · rw [Bool.not_eq_true, List.any_eq_false] at h3
    simpa using h3 l hl
  · rw [Bool.not_eq_true, List.any_eq_false] at h4
    simpa using h4 l hl
/-! ### Letters that fit -/
def fitsV (A : AutoD) (s : Nat) (x : Int) : Bool := bitsV .and .u64 x (A.must.getD s 0) == A.must.getD s 0 && bitsV .and .u64 x (A.nots.getD s 0) == 0
theorem bits_lt (a : BitVec 64) : IntKind.wrap .u64 (a.toNat : Int) = (a.toNat : Int) := by
  have := a.isLt
  simp only [IntKind.wrap, IntKind.signed, IntKind.bits]
  simp
  omega
theorem bits_must {x m : Int} (hm : 0 ≤ m ∧ m < 18446744073709551616) : (bitsV .and .u64 x m == m) = (bitsV .andNot .u64 m x == 0) := by
  show (IntKind.wrap .u64 (((BitVec.ofInt 64 x) &&& (BitVec.ofInt 64 m)).toNat : Int) == m) = (IntKind.wrap .u64 (((BitVec.ofInt 64 m) &&& ~~~(BitVec.ofInt 64 x)).toNat : Int) == 0)
  rw [bits_lt, bits_lt]
  have e : m = ((BitVec.ofInt 64 m).toNat : Int) := by
    rw [BitVec.toNat_ofInt]
    omega
  generalize BitVec.ofInt 64 x = a
  rw [Bool.eq_iff_iff, beq_iff_eq, beq_iff_eq]
  generalize hb : BitVec.ofInt 64 m = b at e
  constructor
  · intro h
    rw [e] at h
    have h : a &&& b = b := BitVec.eq_of_toNat_eq (by omega)
    have : b &&& ~~~a = 0#64 := by
      rw [← h]
      ext i hi
      simp
      intro h1 _
      exact h1
    rw [this]; rfl
  · intro h
    have h : b &&& ~~~a = 0#64 := BitVec.eq_of_toNat_eq (by simpa using h)
    have : a &&& b = b := by
      ext i hi
      have := congrArg (fun z : BitVec 64 => z[i]) h
      simp at this
      cases q : b[i]
      · simp [q]
      · simp [q, this q]
    rw [this]; omega
theorem bits_comm (x m : Int) : bitsV .and .u64 m x = bitsV .and .u64 x m := by
  show IntKind.wrap .u64 (((BitVec.ofInt 64 m) &&& (BitVec.ofInt 64 x)).toNat : Int) = IntKind.wrap .u64 (((BitVec.ofInt 64 x) &&& (BitVec.ofInt 64 m)).toNat : Int)
  rw [BitVec.and_comm]
/-! ### The walks -/
theorem u64a_at {l : List Int} {z k : Nat} (hz : z = k) (h : k < l.length) : (l.map fun n => [D.sc (.int .u64 n)])[z]? = some [.sc (.int .u64 (l.getD k 0))] := by
  subst hz
  rw [List.getElem?_map, List.getElem?_eq_getElem h, List.getD_eq_getElem?_getD, List.getElem?_eq_getElem h]; rfl
def c89 : PC := .seq (.ops [⟨some 3,.box (.tmp 0),none,0⟩,
 ⟨some 6,.move (.const (.bool false)),none,0⟩] false) (.seq (.ops [⟨some 7,.move (.tmp 2),none,0⟩,
 ⟨some 8,.faddr 2 (.tmp 3),none,0⟩,
 ⟨some 9,.load1 (.tmp 8),none,2⟩,
 ⟨some 10,.move (.tmp 1),none,0⟩,
 ⟨some 11,.iaddr 1 (.tmp 9) (.tmp 10),none,14⟩,
 ⟨some 12,.load1 (.tmp 11),none,30⟩,
 ⟨some 13,.bin .and (.tmp 7) (.tmp 12),none,63⟩,
 ⟨some 14,.faddr 2 (.tmp 3),none,0⟩,
 ⟨some 15,.load1 (.tmp 14),none,128⟩,
 ⟨some 16,.move (.tmp 1),none,0⟩,
 ⟨some 17,.iaddr 1 (.tmp 15) (.tmp 16),none,896⟩,
 ⟨some 18,.load1 (.tmp 17),none,1920⟩,
 ⟨some 19,.bin .eql (.tmp 13) (.tmp 18),none,4095⟩,
 ⟨some 20,.move (.tmp 19),none,8191⟩,
 ⟨some 21,.move (.tmp 2),some (20,true),16383⟩,
 ⟨some 22,.faddr 3 (.tmp 3),some (20,true),16383⟩,
 ⟨some 23,.load1 (.tmp 22),some (20,true),49151⟩,
 ⟨some 24,.move (.tmp 1),some (20,true),16383⟩,
 ⟨some 25,.iaddr 1 (.tmp 23) (.tmp 24),some (20,true),245759⟩,
 ⟨some 26,.load1 (.tmp 25),some (20,true),507903⟩,
 ⟨some 27,.bin .and (.tmp 21) (.tmp 26),some (20,true),1048575⟩,
 ⟨some 28,.bin .eql (.tmp 27) (.const (.int .u64 0)),some (20,true),2097151⟩,
 ⟨some 29,.pick (.tmp 20) (.tmp 28) (.const (.bool false)),none,4194303⟩,
 ⟨some 6,.move (.tmp 29),none,8388607⟩] true) (.ret))
set_option maxRecDepth 100000 in
theorem c89_ok : FunOK Try.prog 89 30 [.tmp 6] c89 := ⟨⟨Try.f89, Try.func89, rfl, by kernel_rfl, rfl, by kernel_rfl⟩⟩
theorem au_Fits (A : AutoD) (hm : A.must.length = A.next.length) (hn : A.nots.length = A.next.length) (s : Nat) (hs : s < A.next.length) (x : Int) : PCall Try.prog 89 [dauto A, .sc (.int .i64 s), .sc (.int .u64 x)] (.sc (.bool (fitsV A s x))) := by
  refine pcall_intro c89_ok (by simp) (by simp [PureL, Pure, pure_dauto]) ?_ (by simp [Pure])
  have e : fitsV A s x = (bitsV .and .u64 x (A.must.getD s 0) == A.must.getD s 0 && bitsV .and .u64 x (A.nots.getD s 0) == 0) := rfl
  unfold dauto AutoD.cells dlet
  (apply rd_sound; focus (repeat' constructor))
  ((conv=>whnf);repeat(refine .intro rfl ?_;conv=>whnf))
  refine ⟨by omega, _, u64a_at (k := s) (by omega) (by omega), ?_⟩
  ((conv=>whnf);repeat(refine .intro rfl ?_;conv=>whnf))
  refine ⟨by omega, _, u64a_at (k := s) (by omega) (by omega), ?_⟩
  ((conv=>whnf);repeat(refine .intro rfl ?_;conv=>whnf))
  cases r : (bitsV .and .u64 x (A.must.getD s 0) == A.must.getD s 0)
  · rw [r, Bool.false_and] at e
    rw [e]
    ((conv=>whnf);repeat(refine .intro rfl ?_;conv=>whnf))
    exact .refl _
  · rw [r, Bool.true_and] at e
    rw [e]
    ((conv=>whnf);repeat(refine .intro rfl ?_;conv=>whnf))
    refine ⟨by omega, _, u64a_at (k := s) (by omega) (by omega), ?_⟩
    ((conv=>whnf);repeat(refine .intro rfl ?_;conv=>whnf))
    exact .refl _
def c33 : PC := .seq (.ops [⟨some 3,.box (.tmp 0),none,0⟩,
 ⟨some 6,.move (.const (.bool false)),none,0⟩] false) (.seq (.ops [⟨some 7,.faddr 2 (.tmp 3),none,0⟩,
 ⟨some 8,.load1 (.tmp 7),none,0⟩,
 ⟨some 9,.move (.tmp 1),none,0⟩,
 ⟨some 10,.iaddr 1 (.tmp 8) (.tmp 9),none,0⟩,
 ⟨some 11,.load1 (.tmp 10),none,0⟩,
 ⟨some 12,.move (.tmp 2),none,0⟩,
 ⟨some 13,.bin .andNot (.tmp 11) (.tmp 12),none,0⟩,
 ⟨some 14,.bin .eql (.tmp 13) (.const (.int .u64 0)),none,0⟩,
 ⟨some 15,.move (.tmp 14),none,0⟩,
 ⟨some 16,.faddr 3 (.tmp 3),some (15,true),0⟩,
 ⟨some 17,.load1 (.tmp 16),some (15,true),0⟩,
 ⟨some 18,.move (.tmp 1),some (15,true),0⟩,
 ⟨some 19,.iaddr 1 (.tmp 17) (.tmp 18),some (15,true),0⟩,
 ⟨some 20,.load1 (.tmp 19),some (15,true),0⟩,
 ⟨some 21,.move (.tmp 2),some (15,true),0⟩,
 ⟨some 22,.bin .and (.tmp 20) (.tmp 21),some (15,true),0⟩,
 ⟨some 23,.bin .eql (.tmp 22) (.const (.int .u64 0)),some (15,true),0⟩,
 ⟨some 24,.pick (.tmp 15) (.tmp 23) (.const (.bool false)),none,0⟩,
 ⟨some 6,.move (.tmp 24),none,0⟩] false) (.ret))
set_option maxRecDepth 100000 in
theorem c33_ok : FunOK Try.prog 33 25 [.tmp 6] c33 := ⟨⟨Try.f33, Try.func33, rfl, by kernel_rfl, rfl, by kernel_rfl⟩⟩
theorem ref_Letter (A : AutoD) (hm : A.must.length = A.next.length) (hn : A.nots.length = A.next.length) (hM : Lett A.must) (s : Nat) (hs : s < A.next.length) (x : Int) : PCall Try.prog 33 [dauto A, .sc (.int .i64 s), .sc (.int .u64 x)] (.sc (.bool (fitsV A s x))) := by
  refine pcall_intro c33_ok (by simp) (by simp [PureL, Pure, pure_dauto]) ?_ (by simp [Pure])
  have e : fitsV A s x = (bitsV .andNot .u64 (A.must.getD s 0) x == 0 && bitsV .and .u64 (A.nots.getD s 0) x == 0) := by
    rw [← bits_must (hM _ (mem_getD (by omega))), bits_comm x (A.nots.getD s 0)]
    rfl
  unfold dauto AutoD.cells dlet
  (apply rd_sound; focus (repeat' constructor))
  ((conv=>whnf);repeat(refine .intro rfl ?_;conv=>whnf))
  refine ⟨by omega, _, u64a_at (k := s) (by omega) (by omega), ?_⟩
  ((conv=>whnf);repeat(refine .intro rfl ?_;conv=>whnf))
  cases r : (bitsV .andNot .u64 (A.must.getD s 0) x == 0)
  · rw [r, Bool.false_and] at e
    rw [e]
    ((conv=>whnf);repeat(refine .intro rfl ?_;conv=>whnf))
    exact .refl _
  · rw [r, Bool.true_and] at e
    rw [e]
    ((conv=>whnf);repeat(refine .intro rfl ?_;conv=>whnf))
    refine ⟨by omega, _, u64a_at (k := s) (by omega) (by omega), ?_⟩
    ((conv=>whnf);repeat(refine .intro rfl ?_;conv=>whnf))
    exact .refl _
def c94 : PC := .seq (.ops [⟨some 3,.move (.const (.bool false)),none,0⟩] false) (.seq (.ops [⟨some 4,.move (.tmp 0),none,0⟩,
 ⟨some 5,.bin .lss (.tmp 4) (.const (.int .i64 0)),none,0⟩,
 ⟨some 6,.move (.tmp 5),none,0⟩,
 ⟨some 7,.move (.tmp 0),some (6,false),0⟩,
 ⟨some 8,.load1 (.tmp 1),some (6,false),0⟩,
 ⟨some 9,.bin .geq (.tmp 7) (.tmp 8),some (6,false),0⟩,
 ⟨some 10,.pick (.tmp 6) (.const (.bool true)) (.tmp 9),none,0⟩,
 ⟨some 3,.move (.tmp 10),none,0⟩] false) (.ret))
set_option maxRecDepth 100000 in
theorem c94_ok : FunOK Try.prog 94 11 [.tmp 3] c94 := ⟨⟨Try.f94, Try.func94, rfl, by kernel_rfl, rfl, by kernel_rfl⟩⟩
theorem au_odd1 (x : Int) (n : Nat) : PCall Try.prog 94 [.sc (.int .i64 x), .ipt [.sc (.int .i64 n)]] (.sc (.bool (decide (x < 0) || decide (x ≥ (n : Int))))) := by
  refine pcall_intro c94_ok (by simp) (by simp [PureL, Pure]) ?_ (by simp [Pure])
  (apply rd_sound; focus (repeat' constructor))
  ((conv=>whnf);repeat(refine .intro rfl ?_;conv=>whnf))
  (refine ifK_split (fun h => ?_) (fun h => ?_) <;> (rw [h]; ((conv=>whnf);repeat(refine .intro rfl ?_;conv=>whnf))))
  · exact deep_eq (by simp)
  · exact deep_eq (by simp)
def c29 : PC := .seq (.ops [⟨some 3,.box (.tmp 1),none,0⟩,
 ⟨some 4,.move (.const (.bool false)),none,0⟩] false) (.seq (.ops [⟨some 5,.move (.tmp 0),none,0⟩,
 ⟨some 6,.mkfn (.func 94) [] [(.tmp 3)],none,0⟩,
 ⟨some 7,.call 93 [(.tmp 5), (.tmp 6)],none,0⟩,
 ⟨some 4,.move (.tmp 7),none,0⟩] false) (.ret))
set_option maxRecDepth 100000 in
theorem c29_ok : FunOK Try.prog 29 8 [.tmp 4] c29 := ⟨⟨Try.f29, Try.func29, rfl, by kernel_rfl, rfl, by kernel_rfl⟩⟩
theorem au_odd (l : List Int) (hl : l.length ≤ 9223372036854775807) (n : Nat) : PCall Try.prog 29 [dints l, .sc (.int .i64 n)] (.sc (.bool !(inB l n))) := by
  refine pcall_intro c29_ok (by simp) (by simp [PureL, Pure, pure_dints]) ?_ (by simp [Pure])
  (apply rd_sound; focus (repeat' constructor))
  ((conv=>whnf);repeat(refine .intro rfl ?_;conv=>whnf))
  (refine .inr (.inl ⟨_, _, (by (repeat' (first | exact Deep.refl _ | exact Deep.none _ | exact deep_row _ | exact DeepL.nil | exact DeepLL.nil | refine Deep.agg _ _ ?_ | refine Deep.tup _ _ ?_ | refine Deep.own _ _ _ _ _ _ _ _ rfl ?_ | refine Deep.loc _ _ _ _ _ rfl ?_ | refine Deep.ifc _ _ _ ?_ | refine Deep.fn _ _ _ _ _ ?_ ?_ | refine DeepL.cons _ _ _ _ ?_ ?_ | refine DeepLL.cons _ _ _ _ ?_ ?_ | exact deepLL_refl _))), (containsF_int (fun n => .sc (.int .i64 n)) (fun a => by simp [Pure]) l hl (fun x => decide (x < 0) || decide (x ≥ (n : Int))) 94 [.ipt [.sc (.int .i64 n)]] (by simp [PureL, Pure]) fun a _ => au_odd1 a n), rfl, ?_⟩); ((conv=>whnf);repeat(refine .intro rfl ?_;conv=>whnf)))
  rw [odd_inB]
  exact .refl _
def c31 : PC := .seq (.ops [⟨some 3,.move (.const (.bool false)),none,0⟩] false) (.seq (.ops [⟨some 4,.move (.tmp 0),none,0⟩,
 ⟨some 5,.load1 (.tmp 1),none,0⟩,
 ⟨some 6,.call 29 [(.tmp 4), (.tmp 5)],none,0⟩,
 ⟨some 3,.move (.tmp 6),none,0⟩] false) (.ret))
set_option maxRecDepth 100000 in
theorem c31_ok : FunOK Try.prog 31 7 [.tmp 3] c31 := ⟨⟨Try.f31, Try.func31, rfl, by kernel_rfl, rfl, by kernel_rfl⟩⟩
theorem au_Check1 (l : List Int) (hl : l.length ≤ 9223372036854775807) (n : Nat) : PCall Try.prog 31 [dints l, .ipt [.sc (.int .i64 n)]] (.sc (.bool !(inB l n))) := by
  refine pcall_intro c31_ok (by simp) (by simp [PureL, Pure, pure_dints]) ?_ (by simp [Pure])
  (apply rd_sound; focus (repeat' constructor))
  ((conv=>whnf);repeat(refine .intro rfl ?_;conv=>whnf))
  (refine .inl ⟨_, (au_odd l hl n), ?_⟩; ((conv=>whnf);repeat(refine .intro rfl ?_;conv=>whnf)))
  exact .refl _
def c32 : PC := .seq (.ops [⟨some 3,.move (.const (.bool false)),none,0⟩] false) (.seq (.ops [⟨some 4,.move (.tmp 0),none,0⟩,
 ⟨some 5,.load1 (.tmp 1),none,0⟩,
 ⟨some 6,.call 29 [(.tmp 4), (.tmp 5)],none,0⟩,
 ⟨some 3,.move (.tmp 6),none,0⟩] false) (.ret))
set_option maxRecDepth 100000 in
theorem c32_ok : FunOK Try.prog 32 7 [.tmp 3] c32 := ⟨⟨Try.f32, Try.func32, rfl, by kernel_rfl, rfl, by kernel_rfl⟩⟩
theorem au_Check2 (l : List Int) (hl : l.length ≤ 9223372036854775807) (n : Nat) : PCall Try.prog 32 [dints l, .ipt [.sc (.int .i64 n)]] (.sc (.bool !(inB l n))) := by
  refine pcall_intro c32_ok (by simp) (by simp [PureL, Pure, pure_dints]) ?_ (by simp [Pure])
  (apply rd_sound; focus (repeat' constructor))
  ((conv=>whnf);repeat(refine .intro rfl ?_;conv=>whnf))
  (refine .inl ⟨_, (au_odd l hl n), ?_⟩; ((conv=>whnf);repeat(refine .intro rfl ?_;conv=>whnf)))
  exact .refl _
def c10 : PC := .seq (.ops [⟨some 1,.box (.tmp 0),none,0⟩,
 ⟨some 2,.move (.const (.int .i64 0)),none,0⟩] false) (.seq (.ops [⟨some 4,.faddr 1 (.tmp 1),none,0⟩,
 ⟨some 5,.load1 (.tmp 4),none,0⟩,
 ⟨some 6,.len (.tmp 5),none,0⟩,
 ⟨some 3,.alloc [(.int .i64 0)],none,0⟩,
 ⟨none,.store 1 (.tmp 3) (.tmp 6),none,0⟩] false) (.seq (.seq (.ops [⟨some 7,.load1 (.tmp 3),none,0⟩,
 ⟨some 8,.bin .gtr (.tmp 7) (.const (.int .i64 2048)),none,0⟩,
 ⟨some 9,.move (.tmp 8),none,0⟩,
 ⟨some 10,.faddr 4 (.tmp 1),some (9,false),0⟩,
 ⟨some 11,.load1 (.tmp 10),some (9,false),0⟩,
 ⟨some 12,.len (.tmp 11),some (9,false),0⟩,
 ⟨some 13,.bin .gtr (.tmp 12) (.const (.int .i64 80)),some (9,false),0⟩,
 ⟨some 14,.pick (.tmp 9) (.const (.bool true)) (.tmp 13),none,0⟩] false) (.cond (.tmp 14) (.seq (.ops [⟨some 2,.move (.const (.int .i64 2)),none,0⟩] false) (.ret)) (.skip))) (.seq (.seq (.ops [⟨some 15,.faddr 2 (.tmp 1),none,0⟩,
 ⟨some 16,.load1 (.tmp 15),none,0⟩,
 ⟨some 17,.len (.tmp 16),none,0⟩,
 ⟨some 18,.load1 (.tmp 3),none,0⟩,
 ⟨some 19,.bin .neq (.tmp 17) (.tmp 18),none,0⟩,
 ⟨some 20,.move (.tmp 19),none,0⟩,
 ⟨some 21,.faddr 3 (.tmp 1),some (20,false),0⟩,
 ⟨some 22,.load1 (.tmp 21),some (20,false),0⟩,
 ⟨some 23,.len (.tmp 22),some (20,false),0⟩,
 ⟨some 24,.load1 (.tmp 3),some (20,false),0⟩,
 ⟨some 25,.bin .neq (.tmp 23) (.tmp 24),some (20,false),0⟩,
 ⟨some 26,.pick (.tmp 20) (.const (.bool true)) (.tmp 25),none,0⟩,
 ⟨some 27,.move (.tmp 26),none,0⟩,
 ⟨some 28,.faddr 0 (.tmp 1),some (27,false),0⟩,
 ⟨some 29,.load1 (.tmp 28),some (27,false),0⟩,
 ⟨some 30,.load1 (.tmp 3),some (27,false),0⟩,
 ⟨some 31,.call 29 [(.tmp 29), (.tmp 30)],some (27,false),0⟩,
 ⟨some 32,.pick (.tmp 27) (.const (.bool true)) (.tmp 31),none,0⟩] false) (.cond (.tmp 32) (.seq (.ops [⟨some 2,.move (.const (.int .i64 1)),none,0⟩] false) (.ret)) (.skip))) (.seq (.seq (.ops [⟨some 33,.faddr 1 (.tmp 1),none,0⟩,
 ⟨some 34,.load1 (.tmp 33),none,0⟩,
 ⟨some 35,.mkfn (.func 31) [] [(.tmp 3)],none,0⟩,
 ⟨some 36,.call 30 [(.tmp 34), (.tmp 35)],none,0⟩,
 ⟨some 37,.move (.tmp 36),none,0⟩,
 ⟨some 38,.faddr 4 (.tmp 1),some (37,false),0⟩,
 ⟨some 39,.load1 (.tmp 38),some (37,false),0⟩,
 ⟨some 40,.mkfn (.func 32) [] [(.tmp 3)],some (37,false),0⟩,
 ⟨some 41,.call 30 [(.tmp 39), (.tmp 40)],some (37,false),0⟩,
 ⟨some 42,.pick (.tmp 37) (.const (.bool true)) (.tmp 41),none,0⟩] false) (.cond (.tmp 42) (.seq (.ops [⟨some 2,.move (.const (.int .i64 1)),none,0⟩] false) (.ret)) (.skip))) (.seq (.ops [⟨some 2,.move (.const (.int .i64 0)),none,0⟩] false) (.ret))))))
set_option maxRecDepth 100000 in
theorem c10_ok : FunOK Try.prog 10 43 [.tmp 2] c10 := ⟨⟨Try.f10, Try.func10, rfl, by kernel_rfl, rfl, by kernel_rfl⟩⟩
theorem au_Check (A : AutoD) (hA : A.Fits) : PCall Try.prog 10 [dauto A] (.sc (.int .i64 A.chk)) := by
  have b1 := hA.start
  have b2 := hA.next
  have b3 := hA.must
  have b4 := hA.fair
  have b5 := hA.nots
  refine pcall_intro c10_ok (by simp) (by simp [PureL, Pure, pure_dauto]) ?_ (by simp [Pure])
  (apply rd_sound; focus (repeat' constructor))
  ((conv=>whnf);repeat(refine .intro rfl ?_;conv=>whnf))
  rw [List.length_map]
  have fin : ∀ {H : List AObj} {z : Int}, z = A.chk → Deep H (.sc (.int .i64 z)) (.sc (.int .i64 A.chk)) := fun h => h ▸ .refl _
  (refine ifK_split (fun h1 => ?_) (fun h1 => ?_) <;> (rw [h1]; ((conv=>whnf);repeat(refine .intro rfl ?_;conv=>whnf))))
  · exact fin (by unfold AutoD.chk; rw [if_pos (by ((try simp only[oo,reduceCtorEq]at*)<;>omega))])
  rw [List.length_map]
  (refine ifK_split (fun h2 => ?_) (fun h2 => ?_) <;> (rw [h2]; ((conv=>whnf);repeat(refine .intro rfl ?_;conv=>whnf))))
  · exact fin (by unfold AutoD.chk; rw [if_pos (by ((try simp only[oo,reduceCtorEq]at*)<;>omega))])
  have c1 : ¬ (2048 < A.next.length ∨ 80 < A.fair.length) := by ((try simp only[oo,reduceCtorEq]at*)<;>omega)
  rw [List.length_map]
  (refine ifK_split (fun h3 => ?_) (fun h3 => ?_) <;> (rw [h3]; ((conv=>whnf);repeat(refine .intro rfl ?_;conv=>whnf))))
  · exact fin (by unfold AutoD.chk; rw [if_neg c1, if_pos (by ((try simp only[oo,reduceCtorEq]at*)<;>omega))])
  rw [List.length_map]
  (refine ifK_split (fun h3' => ?_) (fun h3' => ?_) <;> (rw [h3']; ((conv=>whnf);repeat(refine .intro rfl ?_;conv=>whnf))))
  · exact fin (by unfold AutoD.chk; rw [if_neg c1, if_pos (by ((try simp only[oo,reduceCtorEq]at*)<;>omega))])
  (refine .inl ⟨_, (au_odd A.start (by omega) A.next.length), ?_⟩; ((conv=>whnf);repeat(refine .intro rfl ?_;conv=>whnf)))
  (refine ifK_split (fun h4 => ?_) (fun h4 => ?_) <;> (rw [h4]; ((conv=>whnf);repeat(refine .intro rfl ?_;conv=>whnf))))
  · exact fin (by unfold AutoD.chk; rw [if_neg c1, if_pos (.inr (.inr (by simpa using h4)))])
  have c2 : ¬ (A.must.length ≠ A.next.length ∨ A.nots.length ≠ A.next.length ∨ inB A.start A.next.length = false) := by
    rintro (q | q | q)
    · ((try simp only[oo,reduceCtorEq]at*)<;>omega)
    · ((try simp only[oo,reduceCtorEq]at*)<;>omega)
    · rw [q] at h4; cases h4
  (refine .inr (.inl ⟨_, _, (by (repeat' (first | exact Deep.refl _ | exact Deep.none _ | exact deep_row _ | exact DeepL.nil | exact DeepLL.nil | refine Deep.agg _ _ ?_ | refine Deep.tup _ _ ?_ | refine Deep.own _ _ _ _ _ _ _ _ rfl ?_ | refine Deep.loc _ _ _ _ _ rfl ?_ | refine Deep.ifc _ _ _ ?_ | refine Deep.fn _ _ _ _ _ ?_ ?_ | refine DeepL.cons _ _ _ _ ?_ ?_ | refine DeepLL.cons _ _ _ _ ?_ ?_ | exact deepLL_refl _))), (containsF_grid dints pure_dints A.next (by omega) (fun l => !(inB l A.next.length)) 31 [.ipt [.sc (.int .i64 A.next.length)]] (by simp [PureL, Pure]) fun a ha => au_Check1 a (by have := hA.nextEach a ha; omega) _), rfl, ?_⟩); ((conv=>whnf);repeat(refine .intro rfl ?_;conv=>whnf)))
  (refine ifK_split (fun g2 => ?_) (fun g2 => ?_) <;> (rw [g2]; ((conv=>whnf);repeat(refine .intro rfl ?_;conv=>whnf))))
  · exact fin (by unfold AutoD.chk; rw [if_neg c1, if_neg c2, if_pos g2])
  have c3 : ¬ (A.next.any fun l => !(inB l A.next.length)) = true := by rw [g2]; simp
  (refine .inr (.inl ⟨_, _, (by (repeat' (first | exact Deep.refl _ | exact Deep.none _ | exact deep_row _ | exact DeepL.nil | exact DeepLL.nil | refine Deep.agg _ _ ?_ | refine Deep.tup _ _ ?_ | refine Deep.own _ _ _ _ _ _ _ _ rfl ?_ | refine Deep.loc _ _ _ _ _ rfl ?_ | refine Deep.ifc _ _ _ ?_ | refine Deep.fn _ _ _ _ _ ?_ ?_ | refine DeepL.cons _ _ _ _ ?_ ?_ | refine DeepLL.cons _ _ _ _ ?_ ?_ | exact deepLL_refl _))), (containsF_grid dints pure_dints A.fair (by omega) (fun l => !(inB l A.next.length)) 32 [.ipt [.sc (.int .i64 A.next.length)]] (by simp [PureL, Pure]) fun a ha => au_Check2 a (by have := hA.fairEach a ha; omega) _), rfl, ?_⟩); ((conv=>whnf);repeat(refine .intro rfl ?_;conv=>whnf)))
  (refine ifK_split (fun g3 => ?_) (fun g3 => ?_) <;> (rw [g3]; ((conv=>whnf);repeat(refine .intro rfl ?_;conv=>whnf))))
  · exact fin (by unfold AutoD.chk; rw [if_neg c1, if_neg c2, if_neg c3, if_pos g3])
  · exact fin (by unfold AutoD.chk; rw [if_neg c1, if_neg c2, if_neg c3, if_neg (by rw [g3]; simp)])
def c8_1 : PC := .seq (.seq (.ops [⟨some 36,.move (.tmp 4),none,0⟩,
 ⟨some 37,.move (.tmp 3),none,0⟩,
 ⟨some 38,.bin .lss (.tmp 36) (.tmp 37),none,0⟩] false) (.cond (.tmp 38) (.skip) (.exit 0))) (.seq (.block 1 (.seq (.ops [⟨some 41,.faddr 1 (.tmp 1),none,0⟩,
 ⟨some 42,.load1 (.tmp 41),none,0⟩,
 ⟨some 43,.move (.tmp 4),none,0⟩,
 ⟨some 44,.iaddr 1 (.tmp 42) (.tmp 43),none,0⟩,
 ⟨some 45,.load1 (.tmp 44),none,0⟩,
 ⟨some 46,.move (.tmp 3),none,0⟩,
 ⟨some 47,.call 25 [(.tmp 45), (.tmp 46)],none,0⟩,
 ⟨some 48,.un .not (.tmp 47),none,0⟩] false) (.cond (.tmp 48) (.seq (.ops [⟨some 2,.move (.const (.int .i64 1)),none,0⟩] false) (.ret)) (.skip)))) (.ops [⟨some 39,.move (.tmp 4),none,0⟩,
 ⟨some 40,.bin .add (.tmp 39) (.const (.int .i64 1)),none,0⟩,
 ⟨some 4,.move (.tmp 40),none,0⟩] false))
def c8_2 : PC := .seq (.seq (.ops [⟨some 49,.move (.tmp 5),none,0⟩,
 ⟨some 50,.faddr 4 (.tmp 1),none,0⟩,
 ⟨some 51,.load1 (.tmp 50),none,0⟩,
 ⟨some 52,.len (.tmp 51),none,0⟩,
 ⟨some 53,.bin .lss (.tmp 49) (.tmp 52),none,0⟩] false) (.cond (.tmp 53) (.skip) (.exit 2))) (.seq (.block 3 (.seq (.ops [⟨some 56,.faddr 4 (.tmp 1),none,0⟩,
 ⟨some 57,.load1 (.tmp 56),none,0⟩,
 ⟨some 58,.move (.tmp 5),none,0⟩,
 ⟨some 59,.iaddr 1 (.tmp 57) (.tmp 58),none,0⟩,
 ⟨some 60,.load1 (.tmp 59),none,0⟩,
 ⟨some 61,.move (.tmp 3),none,0⟩,
 ⟨some 62,.call 25 [(.tmp 60), (.tmp 61)],none,0⟩,
 ⟨some 63,.un .not (.tmp 62),none,0⟩] false) (.cond (.tmp 63) (.seq (.ops [⟨some 2,.move (.const (.int .i64 1)),none,0⟩] false) (.ret)) (.skip)))) (.ops [⟨some 54,.move (.tmp 5),none,0⟩,
 ⟨some 55,.bin .add (.tmp 54) (.const (.int .i64 1)),none,0⟩,
 ⟨some 5,.move (.tmp 55),none,0⟩] false))
def c8 : PC := .seq (.ops [⟨some 1,.box (.tmp 0),none,0⟩,
 ⟨some 2,.move (.const (.int .i64 0)),none,0⟩] false) (.seq (.ops [⟨some 6,.faddr 1 (.tmp 1),none,0⟩,
 ⟨some 7,.load1 (.tmp 6),none,0⟩,
 ⟨some 8,.len (.tmp 7),none,0⟩,
 ⟨some 3,.move (.tmp 8),none,0⟩] false) (.seq (.seq (.ops [⟨some 9,.move (.tmp 3),none,0⟩,
 ⟨some 10,.bin .gtr (.tmp 9) (.const (.int .i64 2048)),none,0⟩,
 ⟨some 11,.move (.tmp 10),none,0⟩,
 ⟨some 12,.faddr 4 (.tmp 1),some (11,false),0⟩,
 ⟨some 13,.load1 (.tmp 12),some (11,false),0⟩,
 ⟨some 14,.len (.tmp 13),some (11,false),0⟩,
 ⟨some 15,.bin .gtr (.tmp 14) (.const (.int .i64 80)),some (11,false),0⟩,
 ⟨some 16,.pick (.tmp 11) (.const (.bool true)) (.tmp 15),none,0⟩] false) (.cond (.tmp 16) (.seq (.ops [⟨some 2,.move (.const (.int .i64 2)),none,0⟩] false) (.ret)) (.skip))) (.seq (.seq (.ops [⟨some 17,.faddr 2 (.tmp 1),none,0⟩,
 ⟨some 18,.load1 (.tmp 17),none,0⟩,
 ⟨some 19,.len (.tmp 18),none,0⟩,
 ⟨some 20,.move (.tmp 3),none,0⟩,
 ⟨some 21,.bin .neq (.tmp 19) (.tmp 20),none,0⟩,
 ⟨some 22,.move (.tmp 21),none,0⟩,
 ⟨some 23,.faddr 3 (.tmp 1),some (22,false),0⟩,
 ⟨some 24,.load1 (.tmp 23),some (22,false),0⟩,
 ⟨some 25,.len (.tmp 24),some (22,false),0⟩,
 ⟨some 26,.move (.tmp 3),some (22,false),0⟩,
 ⟨some 27,.bin .neq (.tmp 25) (.tmp 26),some (22,false),0⟩,
 ⟨some 28,.pick (.tmp 22) (.const (.bool true)) (.tmp 27),none,0⟩,
 ⟨some 29,.move (.tmp 28),none,0⟩,
 ⟨some 30,.faddr 0 (.tmp 1),some (29,false),0⟩,
 ⟨some 31,.load1 (.tmp 30),some (29,false),0⟩,
 ⟨some 32,.move (.tmp 3),some (29,false),0⟩,
 ⟨some 33,.call 25 [(.tmp 31), (.tmp 32)],some (29,false),0⟩,
 ⟨some 34,.un .not (.tmp 33),some (29,false),0⟩,
 ⟨some 35,.pick (.tmp 29) (.const (.bool true)) (.tmp 34),none,0⟩] false) (.cond (.tmp 35) (.seq (.ops [⟨some 2,.move (.const (.int .i64 1)),none,0⟩] false) (.ret)) (.skip))) (.seq (.seq (.ops [⟨some 4,.move (.const (.int .i64 0)),none,0⟩] false) (.block 0 (.loop c8_1))) (.seq (.seq (.ops [⟨some 5,.move (.const (.int .i64 0)),none,0⟩] false) (.block 2 (.loop c8_2))) (.seq (.ops [⟨some 2,.move (.const (.int .i64 0)),none,0⟩] false) (.ret)))))))
set_option maxRecDepth 100000 in
theorem c8_ok : FunOK Try.prog 8 64 [.tmp 2] c8 := ⟨⟨Try.f8, Try.func8, rfl, by kernel_rfl, rfl, by kernel_rfl⟩⟩
theorem ref_Auto (A : AutoD) (hA : A.Fits) : PCall Try.prog 8 [dauto A] (.sc (.int .i64 A.chk)) := by
  have b1 := hA.start
  have b2 := hA.next
  have b3 := hA.must
  have b4 := hA.fair
  have b5 := hA.nots
  refine pcall_intro c8_ok (by simp) (by simp [PureL, Pure, pure_dauto]) ?_ (by simp [Pure])
  (apply rd_sound; focus (repeat' constructor))
  ((conv=>whnf);repeat(refine .intro rfl ?_;conv=>whnf))
  rw [List.length_map]
  have fin : ∀ {H : List AObj} {z : Int}, z = A.chk → Deep H (.sc (.int .i64 z)) (.sc (.int .i64 A.chk)) := fun h => h ▸ .refl _
  (refine ifK_split (fun h1 => ?_) (fun h1 => ?_) <;> (rw [h1]; ((conv=>whnf);repeat(refine .intro rfl ?_;conv=>whnf))))
  · exact fin (by unfold AutoD.chk; rw [if_pos (by ((try simp only[oo,reduceCtorEq]at*)<;>omega))])
  rw [List.length_map]
  (refine ifK_split (fun h2 => ?_) (fun h2 => ?_) <;> (rw [h2]; ((conv=>whnf);repeat(refine .intro rfl ?_;conv=>whnf))))
  · exact fin (by unfold AutoD.chk; rw [if_pos (by ((try simp only[oo,reduceCtorEq]at*)<;>omega))])
  have c1 : ¬ (2048 < A.next.length ∨ 80 < A.fair.length) := by ((try simp only[oo,reduceCtorEq]at*)<;>omega)
  rw [List.length_map]
  (refine ifK_split (fun h3 => ?_) (fun h3 => ?_) <;> (rw [h3]; ((conv=>whnf);repeat(refine .intro rfl ?_;conv=>whnf))))
  · exact fin (by unfold AutoD.chk; rw [if_neg c1, if_pos (by ((try simp only[oo,reduceCtorEq]at*)<;>omega))])
  rw [List.length_map]
  (refine ifK_split (fun h3' => ?_) (fun h3' => ?_) <;> (rw [h3']; ((conv=>whnf);repeat(refine .intro rfl ?_;conv=>whnf))))
  · exact fin (by unfold AutoD.chk; rw [if_neg c1, if_pos (by ((try simp only[oo,reduceCtorEq]at*)<;>omega))])
  (refine .inl ⟨_, (ref_In A.start (by omega) A.next.length), ?_⟩; ((conv=>whnf);repeat(refine .intro rfl ?_;conv=>whnf)))
  (refine ifK_split (fun h4 => ?_) (fun h4 => ?_) <;> (rw [h4]; ((conv=>whnf);repeat(refine .intro rfl ?_;conv=>whnf))))
  · exact fin (by unfold AutoD.chk; rw [if_neg c1, if_pos (.inr (.inr (by simpa using h4)))])
  have c2 : ¬ (A.must.length ≠ A.next.length ∨ A.nots.length ≠ A.next.length ∨ inB A.start A.next.length = false) := by
    rintro (q | q | q)
    · ((try simp only[oo,reduceCtorEq]at*)<;>omega)
    · ((try simp only[oo,reduceCtorEq]at*)<;>omega)
    · rw [q] at h4; cases h4
  refine pwp_for [1, 3] (fun k : Nat => [(4, .sc (.int .i64 k))]) (fun _ => []) (fun k => k ≤ A.next.length ∧ ∀ j (hj : j < k) (hl : j < A.next.length), (!(inB A.next[j] A.next.length)) = false) (fun k => A.next.length - k) 0 ?_
  ((conv=>whnf);repeat(refine .intro rfl ?_;conv=>whnf))
  refine ⟨⟨by omega, fun j hj => by omega⟩, by (repeat' (first | exact trivial | refine And.intro rfl ?_)), rfl, ?_⟩
  rintro k ⟨hk, hall⟩
  ((conv=>whnf);repeat(refine .intro rfl ?_;conv=>whnf))
  (apply rd_sound; focus (repeat' constructor))
  ((conv=>whnf);repeat(refine .intro rfl ?_;conv=>whnf))
  (refine ifK_split (fun g => ?_) (fun g => ?_) <;> (rw [g]; ((conv=>whnf);repeat(refine .intro rfl ?_;conv=>whnf))))
  · have hk' : k < A.next.length := by ((try simp only[oo,reduceCtorEq]at*)<;>omega)
    refine ⟨by omega, _, grid_at (k := k) (by omega) hk', ?_⟩
    ((conv=>whnf);repeat(refine .intro rfl ?_;conv=>whnf))
    have bk := hA.nextEach _ (List.getElem_mem hk')
    (refine .inl ⟨_, (ref_In A.next[k] (by omega) A.next.length), ?_⟩; ((conv=>whnf);repeat(refine .intro rfl ?_;conv=>whnf)))
    (refine ifK_split (fun g2 => ?_) (fun g2 => ?_) <;> (rw [g2]; ((conv=>whnf);repeat(refine .intro rfl ?_;conv=>whnf))))
    · exact fin (by unfold AutoD.chk; rw [if_neg c1, if_neg c2, if_pos (any_yes hk' g2)])
    · (refine .inl ⟨by (unfold InR; rw [IntKind.wrap_i64]; omega), ?_⟩; ((conv=>whnf);repeat(refine .intro rfl ?_;conv=>whnf)))
      refine ⟨k + 1, ⟨by omega, fun j hj hl => ?_⟩, by dsimp only; omega, leB_envH (by (repeat' (first | exact trivial | refine And.intro rfl ?_))) rfl⟩
      by_cases e : j = k
      · subst e; exact g2
      · exact hall j (by omega) hl
  have hk' : ¬ k < A.next.length := by ((try simp only[oo,reduceCtorEq]at*)<;>omega)
  have c3 : ¬ (A.next.any fun l => !(inB l A.next.length)) = true := by rw [any_no fun j hj => hall j (by omega) hj]; simp
  clear hall
  refine pwp_for [1, 3] (fun k : Nat => [(5, .sc (.int .i64 k))]) (fun _ => []) (fun k => k ≤ A.fair.length ∧ ∀ j (hj : j < k) (hl : j < A.fair.length), (!(inB A.fair[j] A.next.length)) = false) (fun k => A.fair.length - k) 0 ?_
  ((conv=>whnf);repeat(refine .intro rfl ?_;conv=>whnf))
  refine ⟨⟨by omega, fun j hj => by omega⟩, by (repeat' (first | exact trivial | refine And.intro rfl ?_)), rfl, ?_⟩
  rintro q ⟨hq, hall⟩
  ((conv=>whnf);repeat(refine .intro rfl ?_;conv=>whnf))
  (apply rd_sound; focus (repeat' constructor))
  ((conv=>whnf);repeat(refine .intro rfl ?_;conv=>whnf))
  rw [List.length_map]
  (refine ifK_split (fun g => ?_) (fun g => ?_) <;> (rw [g]; ((conv=>whnf);repeat(refine .intro rfl ?_;conv=>whnf))))
  · have hk' : q < A.fair.length := by ((try simp only[oo,reduceCtorEq]at*)<;>omega)
    refine ⟨by omega, _, grid_at (k := q) (by omega) hk', ?_⟩
    ((conv=>whnf);repeat(refine .intro rfl ?_;conv=>whnf))
    have bk := hA.fairEach _ (List.getElem_mem hk')
    (refine .inl ⟨_, (ref_In A.fair[q] (by omega) A.next.length), ?_⟩; ((conv=>whnf);repeat(refine .intro rfl ?_;conv=>whnf)))
    (refine ifK_split (fun g2 => ?_) (fun g2 => ?_) <;> (rw [g2]; ((conv=>whnf);repeat(refine .intro rfl ?_;conv=>whnf))))
    · exact fin (by unfold AutoD.chk; rw [if_neg c1, if_neg c2, if_neg c3, if_pos (any_yes hk' g2)])
    · (refine .inl ⟨by (unfold InR; rw [IntKind.wrap_i64]; omega), ?_⟩; ((conv=>whnf);repeat(refine .intro rfl ?_;conv=>whnf)))
      refine ⟨q + 1, ⟨by omega, fun j hj hl => ?_⟩, by dsimp only; omega, leB_envH (by (repeat' (first | exact trivial | refine And.intro rfl ?_))) rfl⟩
      by_cases e : j = q
      · subst e; exact g2
      · exact hall j (by omega) hl
  have hq' : ¬ q < A.fair.length := by ((try simp only[oo,reduceCtorEq]at*)<;>omega)
  have c4 : ¬ (A.fair.any fun l => !(inB l A.next.length)) = true := by rw [any_no fun j hj => hall j (by omega) hj]; simp
  exact fin (by unfold AutoD.chk; rw [if_neg c1, if_neg c2, if_neg c3, if_neg c4])
end Go.Proofs.Ytfaekhadjlgbbaa
