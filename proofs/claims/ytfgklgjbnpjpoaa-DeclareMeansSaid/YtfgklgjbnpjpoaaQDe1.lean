/-
  What a template means: the program, over deep values. No statement is proved here.
-/
import Derived.Test.YtfgklgjbnpjpoaaQDe0
import Derived.Test.YtfgklgjbnpjpoaaQTm
import Derived.Test.YtfgklgjbnpjpoaaQDl
import Derived.Test.YtfgklgjbnpjpoaaQFn
namespace Go.Proofs.Ytfgklgjbnpjpoaa
open Go.RowKit
set_option linter.unusedSimpArgs false
set_option linter.unusedVariables false
def bitP (s l : List Int) (a : Int) (i : Nat) : Bool := bitB (atW s l i) a
theorem prd_bit (s l : List Int) (a : Int) : Prd s.length l.length (bitP s l a) := fun i hi => by
  unfold bitP atW
  rw [if_neg (by omega), if_neg (by omega), show i + l.length - s.length = (i - s.length) + l.length by omega, Nat.add_mod_right]
def snP (s l : List Int) (i : Nat) : Bool := !bitP s l 63 i
theorem bit_ok {v : Int} (h : 0 ≤ v ∧ v < 18446744073709551616) (a : Int) : (bitsV .and .u64 (v.fdiv (2 ^ min a.toNat 64)) 1 == 1) = bitB v a := by
  have hr := fdiv_range h.1 h.2 (min a.toNat 64)
  rw [and_one hr.1 hr.2]
  rfl
def bprw (l : List (Bool × Bool)) : List (List D) := l.map fun o => [.sc (.bool o.1), .sc (.bool o.2)]
@[simp] theorem bprw_len (l : List (Bool × Bool)) : (bprw l).length = l.length := by simp [bprw]
theorem pure_bprw (l : List (Bool × Bool)) : PureLL (bprw l) := pureLL_map _ (fun l => by simp [PureL, Pure]) l
@[simp] theorem underLL_bprw {m : Nat} (l : List (Bool × Bool)) : UnderLL m (bprw l) ↔ True := ⟨fun _ => trivial, fun _ => underLL_pure _ (pure_bprw l)⟩
theorem bprw_at {l : List (Bool × Bool)} {z k : Nat} (hz : z = k) (h : k < l.length) : (bprw l)[z]? = some [.sc (.bool (l.getD k (false, false)).1), .sc (.bool (l.getD k (false, false)).2)] := by
  subst hz
  rw [List.getD_eq_getElem?_getD, List.getElem?_eq_getElem h]
  simp [bprw, h]
theorem bprw_snoc {l : List (Bool × Bool)} {c : Nat} {a b : Bool} (h : c = l.length) : List.drop 0 (List.take c (bprw l)) ++ [[D.sc (.bool a), D.sc (.bool b)]] = bprw (l ++ [(a, b)]) := by
  rw [drop_take_all (by simp [h])]
  simp [bprw]
def dbp (l : List (Bool × Bool)) : D := .lst 2 (bprw l)
theorem pure_dbp (l : List (Bool × Bool)) : Pure (dbp l) := by simp only [dbp, Pure]; exact pure_bprw l
@[simp] theorem under_dbp {m : Nat} (l : List (Bool × Bool)) : Under m (dbp l) ↔ True := ⟨fun _ => trivial, fun _ => under_pure _ (pure_dbp l)⟩
theorem pure_dlet2 (l : List Int) : Pure (dlet l) := by simp only [dlet, Pure]; exact pureLL_map _ (fun l => by simp [PureL, Pure]) l
@[simp] theorem under_dlet2 {m : Nat} (l : List Int) : Under m (dlet l) ↔ True := ⟨fun _ => trivial, fun _ => under_pure _ (pure_dlet2 l)⟩
def c74_1 : PC := .seq (.ops [⟨(some 24), .bin .lss (.tmp 23) (.tmp 22), none, 0⟩] false) (.seq (.cond (.tmp 24) (.skip) (.exit 0)) (.seq (.block 1 (.seq (.ops [⟨(some 25), .move (.tmp 23), none, 0⟩,
    ⟨(some 7), .move (.tmp 25), none, 0⟩] false) (.seq (.ops [⟨(some 27), .loadA 2 (.tmp 3), none, 0⟩,
    ⟨(some 28), .move (.tmp 7), none, 0⟩,
    ⟨(some 29), .call 156 [(.tmp 27), (.tmp 28)], none, 0⟩,
    ⟨(some 26), .move (.tmp 29), none, 0⟩,
    ⟨(some 30), .ext 0 (.tmp 26), none, 0⟩,
    ⟨(some 31), .ext 1 (.tmp 26), none, 0⟩,
    ⟨(some 8), .move (.tmp 30), none, 0⟩,
    ⟨(some 9), .move (.tmp 31), none, 0⟩] false) (.seq (.seq (.ops [⟨(some 32), .move (.tmp 8), none, 0⟩,
    ⟨(some 33), .bin .shr (.tmp 32) (.const (.int .u64 63)), none, 0⟩,
    ⟨(some 34), .bin .and (.tmp 33) (.const (.int .u64 1)), none, 0⟩,
    ⟨(some 35), .bin .eql (.tmp 34) (.const (.int .u64 1)), none, 0⟩] false) (.cond (.tmp 35) (.exit 1) (.skip))) (.seq (.ops [⟨(some 36), .move (.tmp 4), none, 0⟩,
    ⟨(some 37), .move (.tmp 8), none, 0⟩,
    ⟨(some 38), .faddr 1 (.tmp 2), none, 0⟩,
    ⟨(some 39), .load1 (.tmp 38), none, 4⟩,
    ⟨(some 40), .bin .shr (.tmp 37) (.tmp 39), none, 14⟩,
    ⟨(some 41), .bin .and (.tmp 40) (.const (.int .u64 1)), none, 30⟩,
    ⟨(some 42), .bin .eql (.tmp 41) (.const (.int .u64 1)), none, 62⟩,
    ⟨(some 43), .move (.tmp 8), none, 0⟩,
    ⟨(some 44), .faddr 2 (.tmp 2), none, 0⟩,
    ⟨(some 45), .load1 (.tmp 44), none, 256⟩,
    ⟨(some 46), .bin .shr (.tmp 43) (.tmp 45), none, 896⟩,
    ⟨(some 47), .bin .and (.tmp 46) (.const (.int .u64 1)), none, 1920⟩,
    ⟨(some 48), .bin .eql (.tmp 47) (.const (.int .u64 1)), none, 3968⟩,
    ⟨(some 49), .build [(.bool false), (.bool false)] [(0, 1, (.tmp 42)), (1, 1, (.tmp 48))], none, 8190⟩,
    ⟨(some 50), .bslice 2 1 [(.tmp 49)], none, 16382⟩,
    ⟨(some 51), .append 2 2 (.tmp 36) (.tmp 50), none, 32767⟩,
    ⟨(some 4), .move (.tmp 51), none, 65535⟩] true) (.seq (.ops [⟨(some 52), .move (.tmp 7), none, 0⟩,
    ⟨(some 53), .move (.tmp 6), none, 0⟩,
    ⟨(some 54), .bin .lss (.tmp 52) (.tmp 53), none, 0⟩] false) (.cond (.tmp 54) (.ops [⟨(some 55), .move (.tmp 5), none, 0⟩,
    ⟨(some 56), .bin .add (.tmp 55) (.const (.int .i64 1)), none, 0⟩,
    ⟨(some 5), .move (.tmp 56), none, 0⟩] false) (.skip)))))))) (.ops [⟨(some 57), .bin .add (.tmp 23) (.const (.int .i64 1)), none, 0⟩,
    ⟨(some 23), .move (.tmp 57), none, 0⟩] false)))
def c74 : PC := .seq (.ops [⟨(some 2), .box (.tmp 0), none, 0⟩,
    ⟨(some 3), .box (.tmp 1), none, 0⟩,
    ⟨(some 4), .move (.const (.slice none 0 0)), none, 0⟩,
    ⟨(some 5), .move (.const (.int .i64 0)), none, 0⟩] false) (.seq (.ops [⟨(some 10), .faddr 0 (.tmp 3), none, 0⟩,
    ⟨(some 11), .load1 (.tmp 10), none, 0⟩,
    ⟨(some 12), .len (.tmp 11), none, 0⟩,
    ⟨(some 13), .faddr 1 (.tmp 3), none, 0⟩,
    ⟨(some 14), .load1 (.tmp 13), none, 0⟩,
    ⟨(some 15), .len (.tmp 14), none, 0⟩,
    ⟨(some 16), .bin .add (.tmp 12) (.tmp 15), none, 0⟩,
    ⟨(some 6), .move (.tmp 16), none, 0⟩] false) (.seq (.seq (.ops [⟨(some 17), .move (.tmp 6), none, 0⟩,
    ⟨(some 18), .faddr 1 (.tmp 3), none, 0⟩,
    ⟨(some 19), .load1 (.tmp 18), none, 0⟩,
    ⟨(some 20), .len (.tmp 19), none, 0⟩,
    ⟨(some 21), .bin .mul (.const (.int .i64 5)) (.tmp 20), none, 0⟩,
    ⟨(some 22), .bin .add (.tmp 17) (.tmp 21), none, 0⟩,
    ⟨(some 23), .move (.const (.int .i64 0)), none, 0⟩] false) (.block 0 (.loop c74_1))) (.seq (.ops [⟨(some 58), .move (.tmp 4), none, 0⟩,
    ⟨(some 59), .move (.tmp 5), none, 0⟩,
    ⟨(some 4), .move (.tmp 58), none, 0⟩,
    ⟨(some 5), .move (.tmp 59), none, 0⟩] false) (.ret))))
set_option maxRecDepth 100000 in
theorem c74_ok : FunOK Try.prog 74 60 [.tmp 4, .tmp 5] c74 := ⟨⟨Try.f74, Try.func74, rfl, by kernel_rfl, rfl, by kernel_rfl⟩⟩
set_option maxRecDepth 100000 in
theorem dc_look (kd a b ct : Int) (ha : 0 ≤ a) (hb : 0 ≤ b) (s l : List Int) (hw : wchk s l = 0) (hs : Lett s) (hl : Lett l) : PCall Try.prog 74 [dtempl kd a b ct, dword s l]
    (.tup [dbp (allTo (snP s l) (bitP s l a) (bitP s l b) (s.length + 6 * l.length)), .sc (.int .i64 ((cnt (snP s l) 0 (s.length + l.length) : Nat) : Int))]) := by
  have hlen := (wchk_zero s l).1 hw
  have hAt := fun i (hi : i ≤ 1000) => las_AtK s l hw i (by omega)
  have hrg := fun i => lett_at hs hl i
  refine pcall_intro c74_ok (by simp) (by simp [PureL, pure_dtempl, pure_dword]) ?_ (by simp [Pure, PureL, pure_dbp])
  unfold dtempl
  (apply rd_sound; focus (repeat' constructor))
  ((conv=>whnf);repeat(refine And.intro rfl ?_;(conv=>whnf)))
  rw [List.length_map, List.length_map]
  (refine .inl ⟨by (unfold InR; rw [IntKind.wrap_i64]; omega), ?_⟩; ((conv=>whnf);repeat(refine And.intro rfl ?_;(conv=>whnf))))
  rw [List.length_map]
  (refine .inl ⟨by (unfold InR; rw [IntKind.wrap_i64]; omega), ?_⟩; ((conv=>whnf);repeat(refine And.intro rfl ?_;(conv=>whnf))))
  (refine .inl ⟨by (unfold InR; rw [IntKind.wrap_i64]; omega), ?_⟩; ((conv=>whnf);repeat(refine And.intro rfl ?_;(conv=>whnf))))
  rw [show (s.length : Int) + (l.length : Int) + 5 * (l.length : Int) = ((s.length + 6 * l.length : Nat) : Int) by omega]
  refine pwp_ghostB (leB_nil 4 2 (by simp) rfl) ?_
  refine pwp_for [2, 3, 6, 22] (fun ((k, c, f) : Nat × Nat × Nat) => [(4, .own 2 c 0 c), (5, .sc (.int .i64 f)), (23, .sc (.int .i64 k))]) (fun (k, c, f) => [(2, .vec true c 2 (bprw (allTo (snP s l) (bitP s l a) (bitP s l b) k)))])
    (fun (k, c, f) => k ≤ s.length + 6 * l.length ∧ c = (allTo (snP s l) (bitP s l a) (bitP s l b) k).length ∧ c ≤ k ∧ f = cnt (snP s l) 0 (min k (s.length + l.length)) ∧ f ≤ k) (fun (k, c, f) => s.length + 6 * l.length - k) (0, 0, 0) ?_
  ((conv=>whnf);repeat(refine And.intro rfl ?_;(conv=>whnf)))
  refine ⟨⟨by omega, rfl, by omega, by simp [cnt_self], by omega⟩, by (repeat' (first | exact trivial | refine And.intro rfl ?_)), rfl, ?_⟩
  rintro ⟨k, c, f⟩ ⟨hk, hc, hck, hf, hfk⟩
  ((conv=>whnf);repeat(refine And.intro rfl ?_;(conv=>whnf)))
  (apply rd_sound; focus (repeat' constructor))
  ((conv=>whnf);repeat(refine And.intro rfl ?_;(conv=>whnf)))
  (refine ifK_split (fun q0 => ?_) (fun q0 => ?_) <;> (rw [q0]; ((conv=>whnf);repeat(refine And.intro rfl ?_;(conv=>whnf)))))
  · have q0 : k < s.length + 6 * l.length := by ((try simp only [oo, reduceCtorEq] at *) <;> omega)
    have e1 : allTo (snP s l) (bitP s l a) (bitP s l b) (k + 1) = if snP s l k = true then allTo (snP s l) (bitP s l a) (bitP s l b) k ++ [(bitP s l a k, bitP s l b k)] else allTo (snP s l) (bitP s l a) (bitP s l b) k := rfl
    have e2 := cnt_succ (p := snP s l) (a := 0) (e := k) (Nat.zero_le _)
    (refine .inl ⟨_, (hAt k (by omega)), ?_⟩; ((conv=>whnf);repeat(refine And.intro rfl ?_;(conv=>whnf))))
    have b63 := bit_ok (hrg k) 63
    have bA := bit_ok (hrg k) a
    have bB := bit_ok (hrg k) b
    have eA : bitP s l a k = bitB (atW s l k) a := rfl
    have eB : bitP s l b k = bitB (atW s l k) b := rfl
    have eS : snP s l k = !bitB (atW s l k) 63 := rfl
    generalize atW s l k = v at *
    refine ⟨by decide, ?_⟩
    ((conv=>whnf);repeat(refine And.intro rfl ?_;(conv=>whnf)))
    refine ifK_split (fun h => ?_) (fun h => ?_)
    · have h6 : bitB v 63 = true := b63.symm.trans h
      rw [h6] at eS
      rw [eS, if_neg (by decide)] at e1 e2
      rw [h]
      ((conv=>whnf);repeat(refine And.intro rfl ?_;(conv=>whnf)))
      (refine .inl ⟨by (unfold InR; rw [IntKind.wrap_i64]; omega), ?_⟩; ((conv=>whnf);repeat(refine And.intro rfl ?_;(conv=>whnf))))
      refine ⟨(k + 1, c, f), ⟨by omega, by rw [e1]; exact hc, by omega, ?_, by omega⟩, by dsimp only; omega, ?_⟩
      · rcases Nat.lt_or_ge k (s.length + l.length) with q | q
        · rw [show min (k + 1) (s.length + l.length) = k + 1 by omega, e2]
          rw [show min k (s.length + l.length) = k by omega] at hf
          omega
        · rw [show min (k + 1) (s.length + l.length) = min k (s.length + l.length) by omega]; exact hf
      · dsimp only
        rw [e1]
        exact leB_envH (by (repeat' (first | exact trivial | refine And.intro rfl ?_))) rfl
    · have h6 : bitB v 63 = false := b63.symm.trans h
      rw [h6] at eS
      rw [eS, if_pos (by decide)] at e1 e2
      rw [h]
      ((conv=>whnf);repeat(refine And.intro rfl ?_;(conv=>whnf)))
      refine ⟨ha, ?_⟩
      ((conv=>whnf);repeat(refine And.intro rfl ?_;(conv=>whnf)))
      refine ⟨hb, ?_⟩
      ((conv=>whnf);repeat(refine And.intro rfl ?_;(conv=>whnf)))
      refine ⟨(by unfold sliceAppend; simp only [ll]; omega), ?_⟩
      ((conv=>whnf);repeat(refine And.intro rfl ?_;(conv=>whnf)))
      have hrow : (bitsV .and .u64 (v.fdiv (2 ^ min a.toNat IntKind.u64.bits)) 1 == 1) = bitP s l a k ∧ (bitsV .and .u64 (v.fdiv (2 ^ min b.toNat IntKind.u64.bits)) 1 == 1) = bitP s l b k := ⟨bA.trans eA.symm, bB.trans eB.symm⟩
      rw [hrow.1, hrow.2]
      (refine ifK_split (fun q1 => ?_) (fun q1 => ?_) <;> (rw [q1]; ((conv=>whnf);repeat(refine And.intro rfl ?_;(conv=>whnf)))))
      · have q1 : k < s.length + l.length := by ((try simp only [oo, reduceCtorEq] at *) <;> omega)
        (refine .inl ⟨by (unfold InR; rw [IntKind.wrap_i64]; omega), ?_⟩; ((conv=>whnf);repeat(refine And.intro rfl ?_;(conv=>whnf))))
        (refine .inl ⟨by (unfold InR; rw [IntKind.wrap_i64]; omega), ?_⟩; ((conv=>whnf);repeat(refine And.intro rfl ?_;(conv=>whnf))))
        refine ⟨(k + 1, c + 1, f + 1), ⟨by omega, by rw [e1, List.length_append, ← hc]; rfl, by omega, ?_, by omega⟩, by dsimp only; omega, ?_⟩
        · rw [show min (k + 1) (s.length + l.length) = k + 1 by omega, e2]
          rw [show min k (s.length + l.length) = k by omega] at hf
          omega
        · dsimp only
          rw [e1]
          (refine leB_close 3 (by simp) rfl ?_ ?_ <;> (repeat' (first | exact trivial | exact rfl | exact DeepM.refl _ | exact DeepML.refl _ | exact DeepMLL.refl _ | refine And.intro ?_ ?_ | (simp [Under, UnderL, UnderLL, -List.map_take, -List.map_drop]; done))))
          exact deepMLL_eq (bprw_snoc hc)
      · have q1 : ¬ k < s.length + l.length := by ((try simp only [oo, reduceCtorEq] at *) <;> omega)
        (refine .inl ⟨by (unfold InR; rw [IntKind.wrap_i64]; omega), ?_⟩; ((conv=>whnf);repeat(refine And.intro rfl ?_;(conv=>whnf))))
        refine ⟨(k + 1, c + 1, f), ⟨by omega, by rw [e1, List.length_append, ← hc]; rfl, by omega, ?_, by omega⟩, by dsimp only; omega, ?_⟩
        · rw [show min (k + 1) (s.length + l.length) = min k (s.length + l.length) by omega]; exact hf
        · dsimp only
          rw [e1]
          (refine leB_close 3 (by simp) rfl ?_ ?_ <;> (repeat' (first | exact trivial | exact rfl | exact DeepM.refl _ | exact DeepML.refl _ | exact DeepMLL.refl _ | refine And.intro ?_ ?_ | (simp [Under, UnderL, UnderLL, -List.map_take, -List.map_drop]; done))))
          exact deepMLL_eq (bprw_snoc hc)
  · have q0 : k = s.length + 6 * l.length := by have : ¬ k < s.length + 6 * l.length := by ((try simp only [oo, reduceCtorEq] at *) <;> omega)
                                                omega
    subst q0
    rw [show min (s.length + 6 * l.length) (s.length + l.length) = s.length + l.length by omega] at hf
    subst hf
    refine .tup _ _ (.cons _ _ _ _ (.own _ _ _ _ _ _ _ _ rfl ?_) (.cons _ _ _ _ (.refl _) .nil))
    rw [drop_take_all (by simp; omega)]
    exact deepLL_refl _
/-! ### Questions on the seen places -/
def c158 : PC := .seq (.ops [⟨(some 1), .box (.tmp 0), none, 0⟩,
    ⟨(some 2), .move (.const (.bool false)), none, 0⟩] false) (.seq (.ops [⟨(some 3), .faddr 0 (.tmp 1), none, 0⟩,
    ⟨(some 4), .load1 (.tmp 3), none, 0⟩,
    ⟨(some 2), .move (.tmp 4), none, 0⟩] false) (.ret))
set_option maxRecDepth 100000 in
theorem c158_ok : FunOK Try.prog 158 5 [.tmp 2] c158 := ⟨⟨Try.f158, Try.func158, rfl, by kernel_rfl, rfl, by kernel_rfl⟩⟩
theorem dc_isA (s : Bool × Bool) : PCall Try.prog 158 [.agg [.sc (.bool s.1), .sc (.bool s.2)]] (.sc (.bool s.1)) := by
  refine pcall_intro c158_ok (by simp) (by simp [PureL, Pure]) ?_ (by simp [Pure])
  (apply rd_sound; focus (repeat' constructor))
  ((conv=>whnf);repeat(refine And.intro rfl ?_;(conv=>whnf)))
  exact .refl _
def c159 : PC := .seq (.ops [⟨(some 1), .box (.tmp 0), none, 0⟩,
    ⟨(some 2), .move (.const (.bool false)), none, 0⟩] false) (.seq (.ops [⟨(some 3), .faddr 1 (.tmp 1), none, 0⟩,
    ⟨(some 4), .load1 (.tmp 3), none, 0⟩,
    ⟨(some 2), .move (.tmp 4), none, 0⟩] false) (.ret))
set_option maxRecDepth 100000 in
theorem c159_ok : FunOK Try.prog 159 5 [.tmp 2] c159 := ⟨⟨Try.f159, Try.func159, rfl, by kernel_rfl, rfl, by kernel_rfl⟩⟩
theorem dc_isB (s : Bool × Bool) : PCall Try.prog 159 [.agg [.sc (.bool s.1), .sc (.bool s.2)]] (.sc (.bool s.2)) := by
  refine pcall_intro c159_ok (by simp) (by simp [PureL, Pure]) ?_ (by simp [Pure])
  (apply rd_sound; focus (repeat' constructor))
  ((conv=>whnf);repeat(refine And.intro rfl ?_;(conv=>whnf)))
  exact .refl _
def c157_1 : PC := .seq (.seq (.ops [⟨(some 9), .move (.tmp 7), none, 0⟩,
    ⟨(some 10), .move (.tmp 0), none, 0⟩,
    ⟨(some 11), .len (.tmp 10), none, 0⟩,
    ⟨(some 12), .bin .lss (.tmp 9) (.tmp 11), none, 0⟩] false) (.cond (.tmp 12) (.skip) (.exit 0))) (.seq (.block 1 (.seq (.ops [⟨(some 15), .move (.tmp 2), none, 0⟩,
    ⟨(some 16), .move (.tmp 0), none, 0⟩,
    ⟨(some 17), .move (.tmp 7), none, 0⟩,
    ⟨(some 18), .iaddr 2 (.tmp 16) (.tmp 17), none, 0⟩,
    ⟨(some 19), .loadA 2 (.tmp 18), none, 0⟩,
    ⟨(some 20), .callv (.tmp 15) [(.tmp 19)], none, 0⟩] false) (.cond (.tmp 20) (.seq (.ops [⟨(some 6), .move (.const (.bool true)), none, 0⟩] false) (.ret)) (.skip)))) (.ops [⟨(some 13), .move (.tmp 7), none, 0⟩,
    ⟨(some 14), .bin .add (.tmp 13) (.const (.int .i64 1)), none, 0⟩,
    ⟨(some 7), .move (.tmp 14), none, 0⟩] false))
def c157 : PC := .seq (.ops [⟨(some 6), .move (.const (.bool false)), none, 0⟩] false) (.seq (.seq (.ops [⟨(some 8), .move (.tmp 1), none, 0⟩,
    ⟨(some 7), .move (.tmp 8), none, 0⟩] false) (.block 0 (.loop c157_1))) (.seq (.ops [⟨(some 6), .move (.const (.bool false)), none, 0⟩] false) (.ret)))
set_option maxRecDepth 100000 in
theorem c157_ok : FunOK Try.prog 157 21 [.tmp 6] c157 := ⟨⟨Try.f157, Try.func157, rfl, by kernel_rfl, rfl, by kernel_rfl⟩⟩
theorem dc_later (l : List (Bool × Bool)) (hl : l.length ≤ 100000) (f : Nat) (hf : f ≤ l.length) (p : Bool × Bool → Bool) (cl : FuncId) (hc : ∀ s : Bool × Bool, PCall Try.prog cl [.agg [.sc (.bool s.1), .sc (.bool s.2)]] (.sc (.bool (p s)))) :
    PCall Try.prog 157 [dbp l, .sc (.int .i64 f), .fn (.func cl) [] []] (.sc (.bool (laterB l f p))) := by
  refine pcall_intro c157_ok (by simp) (by simp [PureL, Pure, pure_dbp]) ?_ (by simp [Pure])
  (apply rd_sound; focus (repeat' constructor))
  ((conv=>whnf);repeat(refine And.intro rfl ?_;(conv=>whnf)))
  refine pwp_for [0, 2] (fun k : Nat => [(7, .sc (.int .i64 k))]) (fun _ => []) (fun k => f ≤ k ∧ k ≤ l.length ∧ ∀ j, f ≤ j → j < k → p (l.getD j (false, false)) = false) (fun k => l.length - k) f ?_
  ((conv=>whnf);repeat(refine And.intro rfl ?_;(conv=>whnf)))
  refine ⟨⟨by omega, by omega, fun j h1 h2 => by omega⟩, by (repeat' (first | exact trivial | refine And.intro rfl ?_)), rfl, ?_⟩
  rintro k ⟨hk1, hk, hno⟩
  ((conv=>whnf);repeat(refine And.intro rfl ?_;(conv=>whnf)))
  (apply rd_sound; focus (repeat' constructor))
  ((conv=>whnf);repeat(refine And.intro rfl ?_;(conv=>whnf)))
  rw [bprw_len]
  (refine ifK_split (fun q0 => ?_) (fun q0 => ?_) <;> (rw [q0]; ((conv=>whnf);repeat(refine And.intro rfl ?_;(conv=>whnf)))))
  · have q0 : k < l.length := by ((try simp only [oo, reduceCtorEq] at *) <;> omega)
    refine ⟨by omega, _, bprw_at (k := k) (by omega) q0, ?_⟩
    ((conv=>whnf);repeat(refine And.intro rfl ?_;(conv=>whnf)))
    (refine .inl ⟨_, (hc _), ?_⟩; ((conv=>whnf);repeat(refine And.intro rfl ?_;(conv=>whnf))))
    cases r : p (l.getD k (false, false))
    · ((conv=>whnf);repeat(refine And.intro rfl ?_;(conv=>whnf)))
      (refine .inl ⟨by (unfold InR; rw [IntKind.wrap_i64]; omega), ?_⟩; ((conv=>whnf);repeat(refine And.intro rfl ?_;(conv=>whnf))))
      refine ⟨k + 1, ⟨by omega, by omega, fun j h1 h2 => ?_⟩, by dsimp only; omega, leB_envH (by (repeat' (first | exact trivial | refine And.intro rfl ?_))) rfl⟩
      by_cases e : j = k
      · subst e; exact r
      · exact hno j h1 (by omega)
    · ((conv=>whnf);repeat(refine And.intro rfl ?_;(conv=>whnf)))
      refine deep_eq ?_
      rw [(laterB_iff hf).2 ⟨k, hk1, q0, r⟩]
  · have q0 : k = l.length := by have : ¬ k < l.length := by ((try simp only [oo, reduceCtorEq] at *) <;> omega)
                                 omega
    refine deep_eq ?_
    have : laterB l f p = false := by
      rw [Bool.eq_false_iff]
      intro h
      obtain ⟨j, h1, h2, h3⟩ := (laterB_iff hf).1 h
      rw [hno j h1 (by omega)] at h3
      cases h3
    rw [this]
theorem eachB_false {l : List (Bool × Bool)} {fresh k : Nat} {ok : Nat → Bool} (hk : k < fresh) (h : (!(l.getD k (false, false)).1 || ok k) = false) : eachB l fresh ok = false := by
  rw [Bool.eq_false_iff]
  intro q
  have := all_range.1 q k hk
  rw [h] at this
  cases this
theorem eachB_succ (l : List (Bool × Bool)) (k : Nat) (ok : Nat → Bool) : eachB l (k + 1) ok = (eachB l k ok && (!(l.getD k (false, false)).1 || ok k)) := by
  unfold eachB
  rw [List.range_succ, List.all_append]
  simp
def c160_1 : PC := .seq (.ops [⟨(some 10), .bin .lss (.tmp 9) (.tmp 8), none, 0⟩] false) (.seq (.cond (.tmp 10) (.skip) (.exit 0)) (.seq (.block 1 (.seq (.ops [⟨(some 11), .move (.tmp 9), none, 0⟩,
    ⟨(some 7), .move (.tmp 11), none, 0⟩] false) (.seq (.ops [⟨(some 12), .move (.tmp 0), none, 0⟩,
    ⟨(some 13), .move (.tmp 7), none, 0⟩,
    ⟨(some 14), .iaddr 2 (.tmp 12) (.tmp 13), none, 0⟩,
    ⟨(some 15), .faddr 0 (.tmp 14), none, 0⟩,
    ⟨(some 16), .load1 (.tmp 15), none, 0⟩,
    ⟨(some 17), .move (.tmp 16), none, 0⟩,
    ⟨(some 18), .move (.tmp 2), (some (17, true)), 0⟩,
    ⟨(some 19), .move (.tmp 7), (some (17, true)), 0⟩,
    ⟨(some 20), .callv (.tmp 18) [(.tmp 19)], (some (17, true)), 0⟩,
    ⟨(some 21), .un .not (.tmp 20), (some (17, true)), 0⟩,
    ⟨(some 22), .pick (.tmp 17) (.tmp 21) (.const (.bool false)), none, 0⟩] false) (.cond (.tmp 22) (.seq (.ops [⟨(some 6), .move (.const (.bool false)), none, 0⟩] false) (.ret)) (.skip))))) (.ops [⟨(some 23), .bin .add (.tmp 9) (.const (.int .i64 1)), none, 0⟩,
    ⟨(some 9), .move (.tmp 23), none, 0⟩] false)))
def c160 : PC := .seq (.ops [⟨(some 6), .move (.const (.bool false)), none, 0⟩] false) (.seq (.seq (.ops [⟨(some 8), .move (.tmp 1), none, 0⟩,
    ⟨(some 9), .move (.const (.int .i64 0)), none, 0⟩] false) (.block 0 (.loop c160_1))) (.seq (.ops [⟨(some 6), .move (.const (.bool true)), none, 0⟩] false) (.ret)))
set_option maxRecDepth 100000 in
theorem c160_ok : FunOK Try.prog 160 24 [.tmp 6] c160 := ⟨⟨Try.f160, Try.func160, rfl, by kernel_rfl, rfl, by kernel_rfl⟩⟩
theorem dc_each (l : List (Bool × Bool)) (fresh : Nat) (hf : fresh ≤ l.length) (hl : l.length ≤ 100000) (ok : Nat → Bool) (cl : FuncId) (caps : List D) (hcaps : PureL caps) (hc : ∀ i : Nat, i < fresh → PCall Try.prog cl (.sc (.int .i64 i) :: caps) (.sc (.bool (ok i)))) :
    PCall Try.prog 160 [dbp l, .sc (.int .i64 fresh), .fn (.func cl) [] caps] (.sc (.bool (eachB l fresh ok))) := by
  refine pcall_intro c160_ok (by simp) (by simp [PureL, Pure, pure_dbp, hcaps]) ?_ (by simp [Pure])
  (apply rd_sound; focus (repeat' constructor))
  ((conv=>whnf);repeat(refine And.intro rfl ?_;(conv=>whnf)))
  refine pwp_for [0, 2, 8] (fun k : Nat => [(9, .sc (.int .i64 k))]) (fun _ => []) (fun k => k ≤ fresh ∧ eachB l k ok = true) (fun k => fresh - k) 0 ?_
  ((conv=>whnf);repeat(refine And.intro rfl ?_;(conv=>whnf)))
  refine ⟨⟨by omega, rfl⟩, by (repeat' (first | exact trivial | refine And.intro rfl ?_)), rfl, ?_⟩
  rintro k ⟨hk, hall⟩
  have eS := eachB_succ l k ok
  rw [hall, Bool.true_and] at eS
  ((conv=>whnf);repeat(refine And.intro rfl ?_;(conv=>whnf)))
  (apply rd_sound; focus (repeat' constructor))
  ((conv=>whnf);repeat(refine And.intro rfl ?_;(conv=>whnf)))
  (refine ifK_split (fun q0 => ?_) (fun q0 => ?_) <;> (rw [q0]; ((conv=>whnf);repeat(refine And.intro rfl ?_;(conv=>whnf)))))
  · have q0 : k < fresh := by ((try simp only [oo, reduceCtorEq] at *) <;> omega)
    refine ⟨by omega, _, bprw_at (k := k) (by omega) (by omega), ?_⟩
    ((conv=>whnf);repeat(refine And.intro rfl ?_;(conv=>whnf)))
    have efl := eachB_false (l := l) (ok := ok) q0
    cases r : (l.getD k (false, false)).1
    · rw [r] at eS
      ((conv=>whnf);repeat(refine And.intro rfl ?_;(conv=>whnf)))
      (refine .inl ⟨by (unfold InR; rw [IntKind.wrap_i64]; omega), ?_⟩; ((conv=>whnf);repeat(refine And.intro rfl ?_;(conv=>whnf))))
      exact ⟨k + 1, ⟨by omega, by rw [eS]; rfl⟩, by dsimp only; omega, leB_envH (by (repeat' (first | exact trivial | refine And.intro rfl ?_))) rfl⟩
    · rw [r] at eS efl
      ((conv=>whnf);repeat(refine And.intro rfl ?_;(conv=>whnf)))
      (refine .inl ⟨_, (hc k q0), ?_⟩; ((conv=>whnf);repeat(refine And.intro rfl ?_;(conv=>whnf))))
      cases r2 : ok k
      · rw [r2] at efl
        ((conv=>whnf);repeat(refine And.intro rfl ?_;(conv=>whnf)))
        refine deep_eq ?_
        rw [efl rfl]
      · rw [r2] at eS
        ((conv=>whnf);repeat(refine And.intro rfl ?_;(conv=>whnf)))
        (refine .inl ⟨by (unfold InR; rw [IntKind.wrap_i64]; omega), ?_⟩; ((conv=>whnf);repeat(refine And.intro rfl ?_;(conv=>whnf))))
        exact ⟨k + 1, ⟨by omega, by rw [eS]; rfl⟩, by dsimp only; omega, leB_envH (by (repeat' (first | exact trivial | refine And.intro rfl ?_))) rfl⟩
  · have q0 : k = fresh := by have : ¬ k < fresh := by ((try simp only [oo, reduceCtorEq] at *) <;> omega)
                              omega
    subst q0
    rw [hall]
    exact .refl _
def c162_1 : PC := .seq (.ops [⟨(some 8), .bin .lss (.tmp 7) (.tmp 6), none, 0⟩] false) (.seq (.cond (.tmp 8) (.skip) (.exit 0)) (.seq (.block 1 (.seq (.ops [⟨(some 9), .iaddr 2 (.tmp 5) (.tmp 7), none, 0⟩,
    ⟨(some 10), .loadA 2 (.tmp 9), none, 0⟩,
    ⟨(some 4), .alloc [(.bool false), (.bool false)], none, 0⟩,
    ⟨none, .store 2 (.tmp 4) (.tmp 10), none, 0⟩] false) (.seq (.seq (.ops [⟨(some 11), .faddr 0 (.tmp 4), none, 0⟩,
    ⟨(some 12), .load1 (.tmp 11), none, 0⟩] false) (.cond (.tmp 12) (.seq (.ops [⟨(some 2), .move (.const (.bool true)), none, 0⟩] false) (.ret)) (.skip))) (.seq (.ops [⟨(some 13), .faddr 1 (.tmp 4), none, 0⟩,
    ⟨(some 14), .load1 (.tmp 13), none, 0⟩] false) (.cond (.tmp 14) (.seq (.ops [⟨(some 2), .move (.const (.bool false)), none, 0⟩] false) (.ret)) (.skip)))))) (.ops [⟨(some 15), .bin .add (.tmp 7) (.const (.int .i64 1)), none, 0⟩,
    ⟨(some 7), .move (.tmp 15), none, 0⟩] false)))
def c162 : PC := .seq (.ops [⟨(some 2), .move (.const (.bool false)), none, 0⟩] false) (.seq (.seq (.ops [⟨(some 5), .move (.tmp 0), none, 0⟩,
    ⟨(some 6), .len (.tmp 5), none, 0⟩,
    ⟨(some 7), .move (.const (.int .i64 0)), none, 0⟩] false) (.block 0 (.loop c162_1))) (.seq (.ops [⟨(some 2), .move (.const (.bool true)), none, 0⟩] false) (.ret)))
set_option maxRecDepth 100000 in
theorem c162_ok : FunOK Try.prog 162 16 [.tmp 2] c162 := ⟨⟨Try.f162, Try.func162, rfl, by kernel_rfl, rfl, by kernel_rfl⟩⟩
theorem dc_precedes (l : List (Bool × Bool)) (hl : l.length ≤ 100000) : PCall Try.prog 162 [dbp l] (.sc (.bool (precB l))) := by
  refine pcall_intro c162_ok (by simp) (by simp [PureL, Pure, pure_dbp]) ?_ (by simp [Pure])
  (apply rd_sound; focus (repeat' constructor))
  ((conv=>whnf);repeat(refine And.intro rfl ?_;(conv=>whnf)))
  rw [bprw_len]
  refine pwp_for [5, 6] (fun k : Nat => [(7, .sc (.int .i64 k))]) (fun _ => []) (fun k => k ≤ l.length ∧ ∀ j, j < k → (l.getD j (false, false)).1 = false ∧ (l.getD j (false, false)).2 = false) (fun k => l.length - k) 0 ?_
  ((conv=>whnf);repeat(refine And.intro rfl ?_;(conv=>whnf)))
  refine ⟨⟨by omega, fun j h => by omega⟩, by (repeat' (first | exact trivial | refine And.intro rfl ?_)), rfl, ?_⟩
  rintro k ⟨hk, hno⟩
  ((conv=>whnf);repeat(refine And.intro rfl ?_;(conv=>whnf)))
  (apply rd_sound; focus (repeat' constructor))
  ((conv=>whnf);repeat(refine And.intro rfl ?_;(conv=>whnf)))
  (refine ifK_split (fun q0 => ?_) (fun q0 => ?_) <;> (rw [q0]; ((conv=>whnf);repeat(refine And.intro rfl ?_;(conv=>whnf)))))
  · have q0 : k < l.length := by ((try simp only [oo, reduceCtorEq] at *) <;> omega)
    refine ⟨by omega, _, bprw_at (k := k) (by omega) q0, ?_⟩
    ((conv=>whnf);repeat(refine And.intro rfl ?_;(conv=>whnf)))
    cases r1 : (l.getD k (false, false)).1
    · ((conv=>whnf);repeat(refine And.intro rfl ?_;(conv=>whnf)))
      cases r2 : (l.getD k (false, false)).2
      · ((conv=>whnf);repeat(refine And.intro rfl ?_;(conv=>whnf)))
        (refine .inl ⟨by (unfold InR; rw [IntKind.wrap_i64]; omega), ?_⟩; ((conv=>whnf);repeat(refine And.intro rfl ?_;(conv=>whnf))))
        refine ⟨k + 1, ⟨by omega, fun j h => ?_⟩, by dsimp only; omega, ?_⟩
        · by_cases e : j = k
          · subst e; exact ⟨r1, r2⟩
          · exact hno j (by omega)
        · (refine leB_close 0 (by simp) rfl ?_ ?_ <;> (repeat' (first | exact trivial | exact rfl | exact DeepM.refl _ | exact DeepML.refl _ | exact DeepMLL.refl _ | refine And.intro ?_ ?_ | (simp [Under, UnderL, UnderLL, -List.map_take, -List.map_drop]; done))))
      · ((conv=>whnf);repeat(refine And.intro rfl ?_;(conv=>whnf)))
        refine deep_eq ?_
        have : precB l = false := by
          rw [Bool.eq_false_iff]
          intro h
          have := all_range.1 h k q0
          rw [r2, Bool.not_true, Bool.false_or, List.any_eq_true] at this
          obtain ⟨j, h1, h2⟩ := this
          have h1 := List.mem_range.1 h1
          by_cases e : j = k
          · subst e; rw [r1] at h2; cases h2
          · rw [(hno j (by omega)).1] at h2; cases h2
        rw [this]
    · ((conv=>whnf);repeat(refine And.intro rfl ?_;(conv=>whnf)))
      refine deep_eq ?_
      have : precB l = true := by
        refine all_range.2 fun j hj => ?_
        cases e : (l.getD j (false, false)).2 with
        | false => rfl
        | true =>
          rw [Bool.not_true, Bool.false_or, List.any_eq_true]
          refine ⟨k, List.mem_range.2 ?_, r1⟩
          rcases Nat.lt_or_ge j k with q | q
          · rw [(hno j q).2] at e; cases e
          · omega
      rw [this]
  · have q0 : k = l.length := by have : ¬ k < l.length := by ((try simp only [oo, reduceCtorEq] at *) <;> omega)
                                 omega
    refine deep_eq ?_
    have : precB l = true := all_range.2 fun j hj => by rw [(hno j (by omega)).2]; rfl
    rw [this]
def c164_1 : PC := .seq (.seq (.ops [⟨(some 8), .move (.tmp 5), none, 0⟩,
    ⟨(some 9), .move (.tmp 0), none, 0⟩,
    ⟨(some 10), .len (.tmp 9), none, 0⟩,
    ⟨(some 11), .bin .lss (.tmp 8) (.tmp 10), none, 0⟩] false) (.cond (.tmp 11) (.skip) (.exit 0))) (.seq (.block 1 (.seq (.seq (.ops [⟨(some 14), .move (.tmp 0), none, 0⟩,
    ⟨(some 15), .move (.tmp 5), none, 0⟩,
    ⟨(some 16), .iaddr 2 (.tmp 14) (.tmp 15), none, 0⟩,
    ⟨(some 17), .faddr 1 (.tmp 16), none, 0⟩,
    ⟨(some 18), .load1 (.tmp 17), none, 0⟩] false) (.cond (.tmp 18) (.seq (.ops [⟨(some 4), .move (.const (.bool true)), none, 0⟩] false) (.ret)) (.skip))) (.seq (.ops [⟨(some 19), .move (.tmp 0), none, 0⟩,
    ⟨(some 20), .move (.tmp 5), none, 0⟩,
    ⟨(some 21), .iaddr 2 (.tmp 19) (.tmp 20), none, 0⟩,
    ⟨(some 22), .faddr 0 (.tmp 21), none, 0⟩,
    ⟨(some 23), .load1 (.tmp 22), none, 0⟩] false) (.cond (.tmp 23) (.seq (.ops [⟨(some 4), .move (.const (.bool false)), none, 0⟩] false) (.ret)) (.skip))))) (.ops [⟨(some 12), .move (.tmp 5), none, 0⟩,
    ⟨(some 13), .bin .add (.tmp 12) (.const (.int .i64 1)), none, 0⟩,
    ⟨(some 5), .move (.tmp 13), none, 0⟩] false))
def c164 : PC := .seq (.ops [⟨(some 4), .move (.const (.bool false)), none, 0⟩] false) (.seq (.seq (.ops [⟨(some 6), .move (.tmp 1), none, 0⟩,
    ⟨(some 7), .bin .add (.tmp 6) (.const (.int .i64 1)), none, 0⟩,
    ⟨(some 5), .move (.tmp 7), none, 0⟩] false) (.block 0 (.loop c164_1))) (.seq (.ops [⟨(some 4), .move (.const (.bool false)), none, 0⟩] false) (.ret)))
set_option maxRecDepth 100000 in
theorem c164_ok : FunOK Try.prog 164 24 [.tmp 4] c164 := ⟨⟨Try.f164, Try.func164, rfl, by kernel_rfl, rfl, by kernel_rfl⟩⟩
theorem dc_alternates (l : List (Bool × Bool)) (hl : l.length ≤ 100000) (i : Nat) (hi : i < l.length) : PCall Try.prog 164 [dbp l, .sc (.int .i64 i)] (.sc (.bool (altB l i))) := by
  refine pcall_intro c164_ok (by simp) (by simp [PureL, Pure, pure_dbp]) ?_ (by simp [Pure])
  have fin : ∀ k, i + 1 ≤ k → k ≤ l.length → (∀ j, i + 1 ≤ j → j < k → (l.getD j (false, false)).2 = false ∧ (l.getD j (false, false)).1 = false) → (k < l.length → ((l.getD k (false, false)).2 || (l.getD k (false, false)).1) = true) → altB l i = (decide (k < l.length) && (l.getD k (false, false)).2) := fun k h1 h2 h3 h4 => by
    have : altK l i = k := fst_eq h1 h2 (fun j g1 g2 => by show (_ || _) = false; rw [(h3 j g1 g2).1, (h3 j g1 g2).2]; rfl) h4
    unfold altB
    rw [this]
  (apply rd_sound; focus (repeat' constructor))
  ((conv=>whnf);repeat(refine And.intro rfl ?_;(conv=>whnf)))
  (refine .inl ⟨by (unfold InR; rw [IntKind.wrap_i64]; omega), ?_⟩; ((conv=>whnf);repeat(refine And.intro rfl ?_;(conv=>whnf))))
  refine pwp_for [0] (fun k : Nat => [(5, .sc (.int .i64 k))]) (fun _ => []) (fun k => i + 1 ≤ k ∧ k ≤ l.length ∧ ∀ j, i + 1 ≤ j → j < k → (l.getD j (false, false)).2 = false ∧ (l.getD j (false, false)).1 = false) (fun k => l.length - k) (i + 1) ?_
  ((conv=>whnf);repeat(refine And.intro rfl ?_;(conv=>whnf)))
  refine ⟨⟨by omega, by omega, fun j h1 h2 => by omega⟩, by (repeat' (first | exact trivial | refine And.intro rfl ?_)), rfl, ?_⟩
  rintro k ⟨hk1, hk, hno⟩
  ((conv=>whnf);repeat(refine And.intro rfl ?_;(conv=>whnf)))
  (apply rd_sound; focus (repeat' constructor))
  ((conv=>whnf);repeat(refine And.intro rfl ?_;(conv=>whnf)))
  rw [bprw_len]
  (refine ifK_split (fun q0 => ?_) (fun q0 => ?_) <;> (rw [q0]; ((conv=>whnf);repeat(refine And.intro rfl ?_;(conv=>whnf)))))
  · have q0 : k < l.length := by ((try simp only [oo, reduceCtorEq] at *) <;> omega)
    have f1 := fin k hk1 hk hno
    rw [decide_eq_true q0, Bool.true_and] at f1
    refine ⟨by omega, _, bprw_at (k := k) (by omega) q0, ?_⟩
    ((conv=>whnf);repeat(refine And.intro rfl ?_;(conv=>whnf)))
    cases r2 : (l.getD k (false, false)).2
    · rw [r2] at f1
      ((conv=>whnf);repeat(refine And.intro rfl ?_;(conv=>whnf)))
      refine ⟨by omega, _, bprw_at (k := k) (by omega) q0, ?_⟩
      ((conv=>whnf);repeat(refine And.intro rfl ?_;(conv=>whnf)))
      cases r1 : (l.getD k (false, false)).1
      · ((conv=>whnf);repeat(refine And.intro rfl ?_;(conv=>whnf)))
        (refine .inl ⟨by (unfold InR; rw [IntKind.wrap_i64]; omega), ?_⟩; ((conv=>whnf);repeat(refine And.intro rfl ?_;(conv=>whnf))))
        refine ⟨k + 1, ⟨by omega, by omega, fun j h1 h2 => ?_⟩, by dsimp only; omega, leB_envH (by (repeat' (first | exact trivial | refine And.intro rfl ?_))) rfl⟩
        by_cases e : j = k
        · subst e; exact ⟨r2, r1⟩
        · exact hno j h1 (by omega)
      · rw [r1] at f1
        ((conv=>whnf);repeat(refine And.intro rfl ?_;(conv=>whnf)))
        refine deep_eq ?_
        rw [f1 fun _ => rfl]
    · rw [r2] at f1
      ((conv=>whnf);repeat(refine And.intro rfl ?_;(conv=>whnf)))
      refine deep_eq ?_
      rw [f1 fun _ => rfl]
  · have q0 : k = l.length := by have : ¬ k < l.length := by ((try simp only [oo, reduceCtorEq] at *) <;> omega)
                                 omega
    have f1 := fin k hk1 hk hno fun q => by omega
    rw [decide_eq_false (by omega), Bool.false_and] at f1
    refine deep_eq ?_
    rw [f1]
end Go.Proofs.Ytfgklgjbnpjpoaa
