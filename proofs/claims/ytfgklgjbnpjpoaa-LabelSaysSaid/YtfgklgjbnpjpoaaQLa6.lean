/-
  Where formulas of all ways hold: the reference's Label, over deep values. No statement is proved here.
-/
import Derived.Test.YtfgklgjbnpjpoaaQLa5
namespace Go.Proofs.Ytfgklgjbnpjpoaa
open Go.RowKit
set_option linter.unusedSimpArgs false
set_option linter.unusedVariables false
def c123 : PC := .seq (.ops [⟨(some 4), .move (.const (.bool false)), none, 0⟩] false) (.seq (.ops [⟨(some 5), .faddr 2 (.tmp 1), none, 0⟩,
    ⟨(some 6), .load1 (.tmp 5), none, 1⟩,
    ⟨(some 7), .move (.tmp 0), none, 0⟩,
    ⟨(some 8), .iaddr 1 (.tmp 6) (.tmp 7), none, 7⟩,
    ⟨(some 9), .load1 (.tmp 8), none, 15⟩,
    ⟨(some 10), .faddr 1 (.tmp 2), none, 0⟩,
    ⟨(some 11), .load1 (.tmp 10), none, 32⟩,
    ⟨(some 12), .bin .shr (.tmp 9) (.tmp 11), none, 127⟩,
    ⟨(some 13), .bin .rem (.tmp 12) (.const (.int .u64 2)), none, 255⟩,
    ⟨(some 14), .bin .eql (.tmp 13) (.const (.int .u64 1)), none, 511⟩,
    ⟨(some 4), .move (.tmp 14), none, 1023⟩] true) (.ret))
set_option maxRecDepth 100000 in
theorem c123_ok : FunOK Try.prog 123 15 [.tmp 4] c123 := ⟨⟨Try.f123, Try.func123, rfl, by kernel_rfl, rfl, by kernel_rfl⟩⟩
theorem lr_atom (W : WorldD) (hl : W.label.length = W.next.length) (hL : Lett W.label) (t : Tree) (hn : 0 ≤ t.num ∧ t.num ≤ 63) (i : Nat) (hi : i < W.next.length) : PCall Try.prog 123 [.sc (.int .i64 i), .ipt W.cells, .ipt (drow t)] (.sc (.bool (atomF W t.num i))) := by
  refine pcall_intro c123_ok (by simp) (by simp [PureL, Pure, pure_wdc, pure_drow]) ?_ (by simp [Pure])
  have e : atomF W t.num i = bitB (W.label.getD i 0) t.num := rfl
  rw [e]
  unfold WorldD.cells dlet
  (apply rd_sound; focus (repeat' constructor))
  ((conv=>whnf);repeat(refine And.intro rfl ?_;(conv=>whnf)))
  refine ⟨by omega, _, u64d_at (k := i) (by omega) (by omega), ?_⟩
  ((conv=>whnf);repeat(refine And.intro rfl ?_;(conv=>whnf)))
  refine ⟨hn.1, ?_⟩
  ((conv=>whnf);repeat(refine And.intro rfl ?_;(conv=>whnf)))
  refine ⟨by decide, ?_⟩
  ((conv=>whnf);repeat(refine And.intro rfl ?_;(conv=>whnf)))
  exact .refl _
def c124 : PC := .seq (.ops [⟨(some 3), .move (.const (.bool false)), none, 0⟩] false) (.seq (.ops [⟨(some 4), .load1 (.tmp 1), none, 0⟩,
    ⟨(some 5), .iaddr 1 (.tmp 4) (.const (.int .i64 0)), none, 0⟩,
    ⟨(some 6), .load1 (.tmp 5), none, 0⟩,
    ⟨(some 7), .move (.tmp 0), none, 0⟩,
    ⟨(some 8), .iaddr 1 (.tmp 6) (.tmp 7), none, 0⟩,
    ⟨(some 9), .load1 (.tmp 8), none, 0⟩,
    ⟨(some 10), .move (.tmp 9), none, 0⟩,
    ⟨(some 11), .load1 (.tmp 1), (some (10, true)), 0⟩,
    ⟨(some 12), .iaddr 1 (.tmp 11) (.const (.int .i64 1)), (some (10, true)), 0⟩,
    ⟨(some 13), .load1 (.tmp 12), (some (10, true)), 0⟩,
    ⟨(some 14), .move (.tmp 0), (some (10, true)), 0⟩,
    ⟨(some 15), .iaddr 1 (.tmp 13) (.tmp 14), (some (10, true)), 0⟩,
    ⟨(some 16), .load1 (.tmp 15), (some (10, true)), 0⟩,
    ⟨(some 17), .pick (.tmp 10) (.tmp 16) (.const (.bool false)), none, 0⟩,
    ⟨(some 3), .move (.tmp 17), none, 0⟩] false) (.ret))
set_option maxRecDepth 100000 in
theorem c124_ok : FunOK Try.prog 124 18 [.tmp 3] c124 := ⟨⟨Try.f124, Try.func124, rfl, by kernel_rfl, rfl, by kernel_rfl⟩⟩
theorem lr_and (W : WorldD) (t : Tree) (h2 : t.width = 2) (i : Nat) (hi : i < W.next.length) : PCall Try.prog 124 [.sc (.int .i64 i), .ipt [.lst 1 (kidsB W t t.width)]] (.sc (.bool (andF (labK W t.kids 0) (labK W t.kids 1) i))) := by
  refine pcall_intro c124_ok (by simp) (by simp [PureL, Pure, pure_kidsB]) ?_ (by simp [Pure])
  have e : andF (labK W t.kids 0) (labK W t.kids 1) i = (labK W t.kids 0 i && labK W t.kids 1 i) := rfl
  rw [e]
  (apply rd_sound; focus (repeat' constructor))
  ((conv=>whnf);repeat(refine And.intro rfl ?_;(conv=>whnf)))
  refine ⟨by omega, _, kidsB_at (j := 0) (by omega) (by omega), ?_⟩
  ((conv=>whnf);repeat(refine And.intro rfl ?_;(conv=>whnf)))
  refine ⟨by omega, _, rbl_atN i (by omega) hi, ?_⟩
  ((conv=>whnf);repeat(refine And.intro rfl ?_;(conv=>whnf)))
  cases r : labK W t.kids 0 i
  · ((conv=>whnf);repeat(refine And.intro rfl ?_;(conv=>whnf)))
    exact .refl _
  · ((conv=>whnf);repeat(refine And.intro rfl ?_;(conv=>whnf)))
    refine ⟨by omega, _, kidsB_at (j := 1) (by omega) (by omega), ?_⟩
    ((conv=>whnf);repeat(refine And.intro rfl ?_;(conv=>whnf)))
    refine ⟨by omega, _, rbl_atN i (by omega) hi, ?_⟩
    ((conv=>whnf);repeat(refine And.intro rfl ?_;(conv=>whnf)))
    exact .refl _
def c125 : PC := .seq (.ops [⟨(some 3), .move (.const (.bool false)), none, 0⟩] false) (.seq (.ops [⟨(some 4), .load1 (.tmp 1), none, 0⟩,
    ⟨(some 5), .iaddr 1 (.tmp 4) (.const (.int .i64 0)), none, 0⟩,
    ⟨(some 6), .load1 (.tmp 5), none, 0⟩,
    ⟨(some 7), .move (.tmp 0), none, 0⟩,
    ⟨(some 8), .iaddr 1 (.tmp 6) (.tmp 7), none, 0⟩,
    ⟨(some 9), .load1 (.tmp 8), none, 0⟩,
    ⟨(some 10), .move (.tmp 9), none, 0⟩,
    ⟨(some 11), .load1 (.tmp 1), (some (10, false)), 0⟩,
    ⟨(some 12), .iaddr 1 (.tmp 11) (.const (.int .i64 1)), (some (10, false)), 0⟩,
    ⟨(some 13), .load1 (.tmp 12), (some (10, false)), 0⟩,
    ⟨(some 14), .move (.tmp 0), (some (10, false)), 0⟩,
    ⟨(some 15), .iaddr 1 (.tmp 13) (.tmp 14), (some (10, false)), 0⟩,
    ⟨(some 16), .load1 (.tmp 15), (some (10, false)), 0⟩,
    ⟨(some 17), .pick (.tmp 10) (.const (.bool true)) (.tmp 16), none, 0⟩,
    ⟨(some 3), .move (.tmp 17), none, 0⟩] false) (.ret))
set_option maxRecDepth 100000 in
theorem c125_ok : FunOK Try.prog 125 18 [.tmp 3] c125 := ⟨⟨Try.f125, Try.func125, rfl, by kernel_rfl, rfl, by kernel_rfl⟩⟩
theorem lr_or (W : WorldD) (t : Tree) (h2 : t.width = 2) (i : Nat) (hi : i < W.next.length) : PCall Try.prog 125 [.sc (.int .i64 i), .ipt [.lst 1 (kidsB W t t.width)]] (.sc (.bool (orF (labK W t.kids 0) (labK W t.kids 1) i))) := by
  refine pcall_intro c125_ok (by simp) (by simp [PureL, Pure, pure_kidsB]) ?_ (by simp [Pure])
  have e : orF (labK W t.kids 0) (labK W t.kids 1) i = (labK W t.kids 0 i || labK W t.kids 1 i) := rfl
  rw [e]
  (apply rd_sound; focus (repeat' constructor))
  ((conv=>whnf);repeat(refine And.intro rfl ?_;(conv=>whnf)))
  refine ⟨by omega, _, kidsB_at (j := 0) (by omega) (by omega), ?_⟩
  ((conv=>whnf);repeat(refine And.intro rfl ?_;(conv=>whnf)))
  refine ⟨by omega, _, rbl_atN i (by omega) hi, ?_⟩
  ((conv=>whnf);repeat(refine And.intro rfl ?_;(conv=>whnf)))
  cases r : labK W t.kids 0 i
  · ((conv=>whnf);repeat(refine And.intro rfl ?_;(conv=>whnf)))
    refine ⟨by omega, _, kidsB_at (j := 1) (by omega) (by omega), ?_⟩
    ((conv=>whnf);repeat(refine And.intro rfl ?_;(conv=>whnf)))
    refine ⟨by omega, _, rbl_atN i (by omega) hi, ?_⟩
    ((conv=>whnf);repeat(refine And.intro rfl ?_;(conv=>whnf)))
    exact .refl _
  · ((conv=>whnf);repeat(refine And.intro rfl ?_;(conv=>whnf)))
    exact .refl _
def c126 : PC := .seq (.ops [⟨(some 3), .move (.const (.bool false)), none, 0⟩] false) (.seq (.ops [⟨(some 4), .load1 (.tmp 1), none, 0⟩,
    ⟨(some 5), .iaddr 1 (.tmp 4) (.const (.int .i64 0)), none, 0⟩,
    ⟨(some 6), .load1 (.tmp 5), none, 0⟩,
    ⟨(some 7), .move (.tmp 0), none, 0⟩,
    ⟨(some 8), .iaddr 1 (.tmp 6) (.tmp 7), none, 0⟩,
    ⟨(some 9), .load1 (.tmp 8), none, 0⟩,
    ⟨(some 10), .un .not (.tmp 9), none, 0⟩,
    ⟨(some 11), .move (.tmp 10), none, 0⟩,
    ⟨(some 12), .load1 (.tmp 1), (some (11, true)), 0⟩,
    ⟨(some 13), .iaddr 1 (.tmp 12) (.const (.int .i64 1)), (some (11, true)), 0⟩,
    ⟨(some 14), .load1 (.tmp 13), (some (11, true)), 0⟩,
    ⟨(some 15), .move (.tmp 0), (some (11, true)), 0⟩,
    ⟨(some 16), .iaddr 1 (.tmp 14) (.tmp 15), (some (11, true)), 0⟩,
    ⟨(some 17), .load1 (.tmp 16), (some (11, true)), 0⟩,
    ⟨(some 18), .un .not (.tmp 17), (some (11, true)), 0⟩,
    ⟨(some 19), .pick (.tmp 11) (.tmp 18) (.const (.bool false)), none, 0⟩,
    ⟨(some 3), .move (.tmp 19), none, 0⟩] false) (.ret))
set_option maxRecDepth 100000 in
theorem c126_ok : FunOK Try.prog 126 20 [.tmp 3] c126 := ⟨⟨Try.f126, Try.func126, rfl, by kernel_rfl, rfl, by kernel_rfl⟩⟩
theorem lr_nor (W : WorldD) (t : Tree) (h2 : t.width = 2) (i : Nat) (hi : i < W.next.length) : PCall Try.prog 126 [.sc (.int .i64 i), .ipt [.lst 1 (kidsB W t t.width)]] (.sc (.bool (andF (notF (labK W t.kids 0)) (notF (labK W t.kids 1)) i))) := by
  refine pcall_intro c126_ok (by simp) (by simp [PureL, Pure, pure_kidsB]) ?_ (by simp [Pure])
  have e : andF (notF (labK W t.kids 0)) (notF (labK W t.kids 1)) i = (!labK W t.kids 0 i && !labK W t.kids 1 i) := rfl
  rw [e]
  (apply rd_sound; focus (repeat' constructor))
  ((conv=>whnf);repeat(refine And.intro rfl ?_;(conv=>whnf)))
  refine ⟨by omega, _, kidsB_at (j := 0) (by omega) (by omega), ?_⟩
  ((conv=>whnf);repeat(refine And.intro rfl ?_;(conv=>whnf)))
  refine ⟨by omega, _, rbl_atN i (by omega) hi, ?_⟩
  ((conv=>whnf);repeat(refine And.intro rfl ?_;(conv=>whnf)))
  cases r : labK W t.kids 0 i
  · ((conv=>whnf);repeat(refine And.intro rfl ?_;(conv=>whnf)))
    refine ⟨by omega, _, kidsB_at (j := 1) (by omega) (by omega), ?_⟩
    ((conv=>whnf);repeat(refine And.intro rfl ?_;(conv=>whnf)))
    refine ⟨by omega, _, rbl_atN i (by omega) hi, ?_⟩
    ((conv=>whnf);repeat(refine And.intro rfl ?_;(conv=>whnf)))
    exact .refl _
  · ((conv=>whnf);repeat(refine And.intro rfl ?_;(conv=>whnf)))
    exact .refl _
def c127 : PC := .seq (.ops [⟨(some 4), .move (.const (.bool false)), none, 0⟩] false) (.seq (.ops [⟨(some 5), .load1 (.tmp 1), none, 0⟩,
    ⟨(some 6), .move (.tmp 0), none, 0⟩,
    ⟨(some 7), .iaddr 1 (.tmp 5) (.tmp 6), none, 0⟩,
    ⟨(some 8), .load1 (.tmp 7), none, 0⟩,
    ⟨(some 9), .un .not (.tmp 8), none, 0⟩,
    ⟨(some 10), .move (.tmp 9), none, 0⟩,
    ⟨(some 11), .load1 (.tmp 2), (some (10, true)), 0⟩,
    ⟨(some 12), .move (.tmp 0), (some (10, true)), 0⟩,
    ⟨(some 13), .iaddr 1 (.tmp 11) (.tmp 12), (some (10, true)), 0⟩,
    ⟨(some 14), .load1 (.tmp 13), (some (10, true)), 0⟩,
    ⟨(some 15), .un .not (.tmp 14), (some (10, true)), 0⟩,
    ⟨(some 16), .pick (.tmp 10) (.tmp 15) (.const (.bool false)), none, 0⟩,
    ⟨(some 4), .move (.tmp 16), none, 0⟩] false) (.ret))
set_option maxRecDepth 100000 in
theorem c127_ok : FunOK Try.prog 127 17 [.tmp 4] c127 := ⟨⟨Try.f127, Try.func127, rfl, by kernel_rfl, rfl, by kernel_rfl⟩⟩
theorem lr_nor2 (n : Nat) (a b : Nat → Bool) (i : Nat) (hi : i < n) : PCall Try.prog 127 [.sc (.int .i64 i), .ipt [dbl n a], .ipt [dbl n b]] (.sc (.bool (notF (orF b a) i))) := by
  refine pcall_intro c127_ok (by simp) (by simp [PureL, Pure, pure_dbl]) ?_ (by simp [Pure])
  have e : notF (orF b a) i = (!a i && !b i) := by unfold notF orF; rw [Bool.not_or, Bool.and_comm]
  rw [e]
  (apply rd_sound; focus (repeat' constructor))
  ((conv=>whnf);repeat(refine And.intro rfl ?_;(conv=>whnf)))
  refine ⟨by omega, _, rbl_atN i (by omega) hi, ?_⟩
  ((conv=>whnf);repeat(refine And.intro rfl ?_;(conv=>whnf)))
  cases r : a i
  · ((conv=>whnf);repeat(refine And.intro rfl ?_;(conv=>whnf)))
    refine ⟨by omega, _, rbl_atN i (by omega) hi, ?_⟩
    ((conv=>whnf);repeat(refine And.intro rfl ?_;(conv=>whnf)))
    exact .refl _
  · ((conv=>whnf);repeat(refine And.intro rfl ?_;(conv=>whnf)))
    exact .refl _
def c43_1 : PC := .seq (.seq (.ops [⟨(some 19), .move (.tmp 7), none, 0⟩,
    ⟨(some 20), .faddr 2 (.tmp 3), none, 0⟩,
    ⟨(some 21), .load1 (.tmp 20), none, 0⟩,
    ⟨(some 22), .len (.tmp 21), none, 0⟩,
    ⟨(some 23), .bin .lss (.tmp 19) (.tmp 22), none, 0⟩] false) (.cond (.tmp 23) (.skip) (.exit 0))) (.seq (.block 1 (.ops [⟨(some 26), .load1 (.tmp 6), none, 0⟩,
    ⟨(some 27), .loadA 4 (.tmp 2), none, 0⟩,
    ⟨(some 28), .faddr 2 (.tmp 3), none, 0⟩,
    ⟨(some 29), .load1 (.tmp 28), none, 4⟩,
    ⟨(some 30), .move (.tmp 7), none, 0⟩,
    ⟨(some 31), .iaddr 3 (.tmp 29) (.tmp 30), none, 28⟩,
    ⟨(some 32), .loadA 3 (.tmp 31), none, 60⟩,
    ⟨(some 33), .call 43 [(.tmp 27), (.tmp 32)], none, 126⟩,
    ⟨(some 34), .bslice 1 1 [(.tmp 33)], none, 254⟩,
    ⟨(some 35), .append 1 24 (.tmp 26) (.tmp 34), none, 511⟩,
    ⟨none, .store 1 (.tmp 6) (.tmp 35), none, 1023⟩] true)) (.ops [⟨(some 24), .move (.tmp 7), none, 0⟩,
    ⟨(some 25), .bin .add (.tmp 24) (.const (.int .i64 1)), none, 0⟩,
    ⟨(some 7), .move (.tmp 25), none, 0⟩] false))
def c43 : PC := .seq (.ops [⟨(some 2), .box (.tmp 0), none, 0⟩,
    ⟨(some 3), .box (.tmp 1), none, 0⟩,
    ⟨(some 4), .move (.const (.slice none 0 0)), none, 0⟩] false) (.seq (.ops [⟨(some 16), .faddr 1 (.tmp 2), none, 0⟩,
    ⟨(some 17), .load1 (.tmp 16), none, 0⟩,
    ⟨(some 18), .len (.tmp 17), none, 0⟩,
    ⟨(some 5), .alloc [(.int .i64 0)], none, 0⟩,
    ⟨none, .store 1 (.tmp 5) (.tmp 18), none, 0⟩] false) (.seq (.ops [⟨(some 6), .alloc [(.slice none 0 0)], none, 0⟩] false) (.seq (.seq (.ops [⟨(some 7), .move (.const (.int .i64 0)), none, 0⟩] false) (.block 0 (.loop c43_1))) (.seq (.stop (.ops [⟨(some 36), .mkfn (.func 114) [] [(.tmp 5)], none, 0⟩,
    ⟨(some 8), .alloc [(.nilFunc)], none, 0⟩,
    ⟨none, .store 1 (.tmp 8) (.tmp 36), none, 0⟩] false)) (.seq (.ops [⟨(some 37), .mkfn (.func 115) [] [(.tmp 8)], none, 0⟩,
    ⟨(some 9), .move (.tmp 37), none, 0⟩] false) (.seq (.ops [⟨(some 10), .alloc [(.slice none 0 0)], none, 0⟩] false) (.seq (.seq (.ops [⟨(some 38), .faddr 0 (.tmp 3), none, 0⟩,
    ⟨(some 39), .load1 (.tmp 38), none, 0⟩,
    ⟨(some 40), .bin .geq (.tmp 39) (.const (.int .i64 7)), none, 0⟩] false) (.cond (.tmp 40) (.ops [⟨(some 41), .loadA 4 (.tmp 2), none, 0⟩,
    ⟨(some 42), .load1 (.tmp 5), none, 0⟩,
    ⟨(some 43), .call 35 [(.tmp 42)], none, 2⟩,
    ⟨(some 44), .call 34 [(.tmp 41), (.tmp 43)], none, 7⟩,
    ⟨none, .store 1 (.tmp 10) (.tmp 44), none, 15⟩] true) (.skip))) (.seq (.ops [⟨(some 45), .mkfn (.func 117) [] [(.tmp 8), (.tmp 10), (.tmp 5), (.tmp 2)], none, 0⟩,
    ⟨(some 11), .move (.tmp 45), none, 0⟩] false) (.seq (.ops [⟨(some 46), .mkfn (.func 119) [] [(.tmp 8), (.tmp 2), (.tmp 10)], none, 0⟩,
    ⟨(some 12), .move (.tmp 46), none, 0⟩] false) (.seq (.stop (.ops [⟨(some 47), .load1 (.tmp 5), none, 0⟩,
    ⟨(some 48), .call 35 [(.tmp 47)], none, 0⟩,
    ⟨(some 13), .move (.tmp 48), none, 0⟩] false)) (.seq (.seq (.ops [⟨(some 49), .faddr 0 (.tmp 3), none, 0⟩,
    ⟨(some 50), .load1 (.tmp 49), none, 0⟩] false) (.block 2 (.seq (.ops [⟨(some 52), .bin .eql (.tmp 50) (.const (.int .i64 1)), none, 0⟩,
    ⟨(some 51), .move (.tmp 52), none, 0⟩] false) (.cond (.tmp 51) (.seq (.ops [⟨(some 53), .move (.tmp 13), none, 0⟩,
    ⟨(some 4), .move (.tmp 53), none, 0⟩] false) (.ret)) (.seq (.ops [⟨(some 55), .bin .eql (.tmp 50) (.const (.int .i64 2)), none, 0⟩,
    ⟨(some 54), .move (.tmp 55), none, 0⟩] false) (.cond (.tmp 54) (.seq (.ops [⟨(some 56), .move (.tmp 9), none, 0⟩,
    ⟨(some 57), .move (.tmp 13), none, 0⟩,
    ⟨(some 58), .callv (.tmp 56) [(.tmp 57)], none, 0⟩,
    ⟨(some 4), .move (.tmp 58), none, 0⟩] false) (.ret)) (.seq (.ops [⟨(some 60), .bin .eql (.tmp 50) (.const (.int .i64 3)), none, 0⟩,
    ⟨(some 59), .move (.tmp 60), none, 0⟩] false) (.cond (.tmp 59) (.seq (.ops [⟨(some 61), .load1 (.tmp 8), none, 0⟩,
    ⟨(some 62), .mkfn (.func 123) [] [(.tmp 2), (.tmp 3)], none, 0⟩,
    ⟨(some 63), .callv (.tmp 61) [(.tmp 62)], none, 0⟩,
    ⟨(some 4), .move (.tmp 63), none, 0⟩] false) (.ret)) (.seq (.ops [⟨(some 65), .bin .eql (.tmp 50) (.const (.int .i64 4)), none, 0⟩,
    ⟨(some 64), .move (.tmp 65), none, 0⟩] false) (.cond (.tmp 64) (.seq (.ops [⟨(some 66), .move (.tmp 9), none, 0⟩,
    ⟨(some 67), .load1 (.tmp 6), none, 0⟩,
    ⟨(some 68), .iaddr 1 (.tmp 67) (.const (.int .i64 0)), none, 0⟩,
    ⟨(some 69), .load1 (.tmp 68), none, 0⟩,
    ⟨(some 70), .callv (.tmp 66) [(.tmp 69)], none, 0⟩,
    ⟨(some 4), .move (.tmp 70), none, 0⟩] false) (.ret)) (.seq (.ops [⟨(some 72), .bin .eql (.tmp 50) (.const (.int .i64 5)), none, 0⟩,
    ⟨(some 71), .move (.tmp 72), none, 0⟩] false) (.cond (.tmp 71) (.seq (.ops [⟨(some 73), .load1 (.tmp 8), none, 0⟩,
    ⟨(some 74), .mkfn (.func 124) [] [(.tmp 6)], none, 0⟩,
    ⟨(some 75), .callv (.tmp 73) [(.tmp 74)], none, 0⟩,
    ⟨(some 4), .move (.tmp 75), none, 0⟩] false) (.ret)) (.seq (.ops [⟨(some 77), .bin .eql (.tmp 50) (.const (.int .i64 6)), none, 0⟩,
    ⟨(some 76), .move (.tmp 77), none, 0⟩] false) (.cond (.tmp 76) (.seq (.ops [⟨(some 78), .load1 (.tmp 8), none, 0⟩,
    ⟨(some 79), .mkfn (.func 125) [] [(.tmp 6)], none, 0⟩,
    ⟨(some 80), .callv (.tmp 78) [(.tmp 79)], none, 0⟩,
    ⟨(some 4), .move (.tmp 80), none, 0⟩] false) (.ret)) (.seq (.ops [⟨(some 82), .bin .eql (.tmp 50) (.const (.int .i64 7)), none, 0⟩,
    ⟨(some 81), .move (.tmp 82), none, 0⟩] false) (.cond (.tmp 81) (.seq (.ops [⟨(some 83), .move (.tmp 12), none, 0⟩,
    ⟨(some 84), .load1 (.tmp 6), none, 0⟩,
    ⟨(some 85), .iaddr 1 (.tmp 84) (.const (.int .i64 0)), none, 0⟩,
    ⟨(some 86), .load1 (.tmp 85), none, 0⟩,
    ⟨(some 87), .callv (.tmp 83) [(.tmp 86)], none, 0⟩,
    ⟨(some 4), .move (.tmp 87), none, 0⟩] false) (.ret)) (.seq (.ops [⟨(some 89), .bin .eql (.tmp 50) (.const (.int .i64 8)), none, 0⟩,
    ⟨(some 88), .move (.tmp 89), none, 0⟩] false) (.cond (.tmp 88) (.seq (.ops [⟨(some 90), .move (.tmp 11), none, 0⟩,
    ⟨(some 91), .move (.tmp 13), none, 0⟩,
    ⟨(some 92), .load1 (.tmp 6), none, 0⟩,
    ⟨(some 93), .iaddr 1 (.tmp 92) (.const (.int .i64 0)), none, 0⟩,
    ⟨(some 94), .load1 (.tmp 93), none, 0⟩,
    ⟨(some 95), .callv (.tmp 90) [(.tmp 91), (.tmp 94)], none, 0⟩,
    ⟨(some 4), .move (.tmp 95), none, 0⟩] false) (.ret)) (.seq (.ops [⟨(some 97), .bin .eql (.tmp 50) (.const (.int .i64 9)), none, 0⟩,
    ⟨(some 96), .move (.tmp 97), none, 0⟩] false) (.cond (.tmp 96) (.seq (.ops [⟨(some 98), .loadA 4 (.tmp 2), none, 0⟩,
    ⟨(some 99), .load1 (.tmp 6), none, 0⟩,
    ⟨(some 100), .iaddr 1 (.tmp 99) (.const (.int .i64 0)), none, 2⟩,
    ⟨(some 101), .load1 (.tmp 100), none, 6⟩,
    ⟨(some 102), .call 34 [(.tmp 98), (.tmp 101)], none, 15⟩,
    ⟨(some 4), .move (.tmp 102), none, 31⟩] true) (.ret)) (.seq (.ops [⟨(some 104), .bin .eql (.tmp 50) (.const (.int .i64 10)), none, 0⟩,
    ⟨(some 103), .move (.tmp 104), none, 0⟩] false) (.cond (.tmp 103) (.seq (.ops [⟨(some 105), .move (.tmp 11), none, 0⟩,
    ⟨(some 106), .load1 (.tmp 6), none, 0⟩,
    ⟨(some 107), .iaddr 1 (.tmp 106) (.const (.int .i64 0)), none, 2⟩,
    ⟨(some 108), .load1 (.tmp 107), none, 6⟩,
    ⟨(some 109), .load1 (.tmp 6), none, 0⟩,
    ⟨(some 110), .iaddr 1 (.tmp 109) (.const (.int .i64 1)), none, 16⟩,
    ⟨(some 111), .load1 (.tmp 110), none, 48⟩,
    ⟨(some 112), .callv (.tmp 105) [(.tmp 108), (.tmp 111)], none, 127⟩,
    ⟨(some 4), .move (.tmp 112), none, 255⟩] true) (.ret)) (.seq (.ops [⟨(some 114), .bin .eql (.tmp 50) (.const (.int .i64 11)), none, 0⟩,
    ⟨(some 113), .move (.tmp 114), none, 0⟩] false) (.cond (.tmp 113) (.seq (.ops [⟨(some 115), .move (.tmp 9), none, 0⟩,
    ⟨(some 116), .move (.tmp 12), none, 0⟩,
    ⟨(some 117), .move (.tmp 9), none, 0⟩,
    ⟨(some 118), .load1 (.tmp 6), none, 0⟩,
    ⟨(some 119), .iaddr 1 (.tmp 118) (.const (.int .i64 0)), none, 0⟩,
    ⟨(some 120), .load1 (.tmp 119), none, 0⟩,
    ⟨(some 121), .callv (.tmp 117) [(.tmp 120)], none, 0⟩,
    ⟨(some 122), .callv (.tmp 116) [(.tmp 121)], none, 0⟩,
    ⟨(some 123), .callv (.tmp 115) [(.tmp 122)], none, 0⟩,
    ⟨(some 4), .move (.tmp 123), none, 0⟩] false) (.ret)) (.seq (.ops [⟨(some 125), .bin .eql (.tmp 50) (.const (.int .i64 12)), none, 0⟩,
    ⟨(some 124), .move (.tmp 125), none, 0⟩] false) (.cond (.tmp 124) (.seq (.ops [⟨(some 126), .move (.tmp 9), none, 0⟩,
    ⟨(some 127), .loadA 4 (.tmp 2), none, 0⟩,
    ⟨(some 128), .move (.tmp 9), none, 0⟩,
    ⟨(some 129), .load1 (.tmp 6), none, 0⟩,
    ⟨(some 130), .iaddr 1 (.tmp 129) (.const (.int .i64 0)), none, 8⟩,
    ⟨(some 131), .load1 (.tmp 130), none, 24⟩,
    ⟨(some 132), .callv (.tmp 128) [(.tmp 131)], none, 60⟩,
    ⟨(some 133), .call 34 [(.tmp 127), (.tmp 132)], none, 126⟩,
    ⟨(some 134), .callv (.tmp 126) [(.tmp 133)], none, 255⟩,
    ⟨(some 4), .move (.tmp 134), none, 511⟩] true) (.ret)) (.seq (.ops [⟨(some 136), .bin .eql (.tmp 50) (.const (.int .i64 13)), none, 0⟩,
    ⟨(some 135), .move (.tmp 136), none, 0⟩] false) (.cond (.tmp 135) (.seq (.ops [⟨(some 137), .move (.tmp 9), none, 0⟩,
    ⟨(some 138), .move (.tmp 11), none, 0⟩,
    ⟨(some 139), .move (.tmp 13), none, 0⟩,
    ⟨(some 140), .move (.tmp 9), none, 0⟩,
    ⟨(some 141), .load1 (.tmp 6), none, 0⟩,
    ⟨(some 142), .iaddr 1 (.tmp 141) (.const (.int .i64 0)), none, 0⟩,
    ⟨(some 143), .load1 (.tmp 142), none, 0⟩,
    ⟨(some 144), .callv (.tmp 140) [(.tmp 143)], none, 0⟩,
    ⟨(some 145), .callv (.tmp 138) [(.tmp 139), (.tmp 144)], none, 0⟩,
    ⟨(some 146), .callv (.tmp 137) [(.tmp 145)], none, 0⟩,
    ⟨(some 4), .move (.tmp 146), none, 0⟩] false) (.ret)) (.skip))))))))))))))))))))))))))))) (.seq (.ops [⟨(some 147), .loadA 4 (.tmp 2), none, 0⟩,
    ⟨(some 148), .move (.tmp 9), none, 0⟩,
    ⟨(some 149), .load1 (.tmp 6), none, 0⟩,
    ⟨(some 150), .iaddr 1 (.tmp 149) (.const (.int .i64 1)), none, 4⟩,
    ⟨(some 151), .load1 (.tmp 150), none, 12⟩,
    ⟨(some 152), .callv (.tmp 148) [(.tmp 151)], none, 30⟩,
    ⟨(some 153), .call 34 [(.tmp 147), (.tmp 152)], none, 63⟩,
    ⟨(some 14), .alloc [(.slice none 0 0)], none, 0⟩,
    ⟨none, .store 1 (.tmp 14) (.tmp 153), none, 255⟩] true) (.seq (.ops [⟨(some 154), .move (.tmp 11), none, 0⟩,
    ⟨(some 155), .move (.tmp 9), none, 0⟩,
    ⟨(some 156), .load1 (.tmp 6), none, 0⟩,
    ⟨(some 157), .iaddr 1 (.tmp 156) (.const (.int .i64 1)), none, 4⟩,
    ⟨(some 158), .load1 (.tmp 157), none, 12⟩,
    ⟨(some 159), .callv (.tmp 155) [(.tmp 158)], none, 30⟩,
    ⟨(some 160), .load1 (.tmp 8), none, 0⟩,
    ⟨(some 161), .mkfn (.func 126) [] [(.tmp 6)], none, 0⟩,
    ⟨(some 162), .callv (.tmp 160) [(.tmp 161)], none, 254⟩,
    ⟨(some 163), .callv (.tmp 154) [(.tmp 159), (.tmp 162)], none, 511⟩,
    ⟨(some 15), .alloc [(.slice none 0 0)], none, 0⟩,
    ⟨none, .store 1 (.tmp 15) (.tmp 163), none, 2047⟩] true) (.seq (.ops [⟨(some 164), .load1 (.tmp 8), none, 0⟩,
    ⟨(some 165), .mkfn (.func 127) [] [(.tmp 14), (.tmp 15)], none, 0⟩,
    ⟨(some 166), .callv (.tmp 164) [(.tmp 165)], none, 0⟩,
    ⟨(some 4), .move (.tmp 166), none, 0⟩] false) (.ret)))))))))))))))
set_option maxRecDepth 100000 in
theorem c43_ok : FunOK Try.prog 43 167 [.tmp 4] c43 := ⟨⟨Try.f43, Try.func43, rfl, by kernel_rfl, rfl, by kernel_rfl⟩⟩
set_option maxRecDepth 100000 in
theorem ref_Label (W : WorldD) (hW : W.Fits) (hc : W.chk = 0) (hL : Lett W.label) : ∀ t : Tree, t.wf cKids → PCall Try.prog 43 [dworld W, dtree t] (dbl W.next.length (labT W t)) := by
  obtain ⟨hl, h600, _⟩ := chk_label W hc
  have h6 : W.next.length ≤ 1000000 := by omega
  have hEv := ref_Every W.next.length h6
  intro t
  induction t using Tree.ind with
  | h t ih =>
    intro hwf
    obtain ⟨har, hnum⟩ := node_arityC ((wf_iff _ _).1 hwf).1
    have hwd : t.width ≤ 2 := by omega
    have hNo := fun a => lr_no W.next.length h6 a
    have hNx := fun a => lr_next W hW hc a
    have hUn := fun a b => lr_until W hW hc a b
    have hFa := fun z => ref_Fair W hW hc z
    have hA := lr_map W.next.length h6 (atomF W t.num) 123 [.ipt W.cells, .ipt (drow t)] (by simp [PureL, Pure, pure_wdc, pure_drow]) (fun i hi => lr_atom W hl hL t hnum i hi)
    have hAn := fun (h : t.width = 2) => lr_map W.next.length h6 (andF (labK W t.kids 0) (labK W t.kids 1)) 124 [.ipt [.lst 1 (kidsB W t t.width)]] (by simp [PureL, Pure, pure_kidsB]) (fun i hi => lr_and W t h i hi)
    have hOr := fun (h : t.width = 2) => lr_map W.next.length h6 (orF (labK W t.kids 0) (labK W t.kids 1)) 125 [.ipt [.lst 1 (kidsB W t t.width)]] (by simp [PureL, Pure, pure_kidsB]) (fun i hi => lr_or W t h i hi)
    have hNr := fun (h : t.width = 2) => lr_map W.next.length h6 (andF (notF (labK W t.kids 0)) (notF (labK W t.kids 1))) 126 [.ipt [.lst 1 (kidsB W t t.width)]] (by simp [PureL, Pure, pure_kidsB]) (fun i hi => lr_nor W t h i hi)
    have hN2 := fun a b => lr_map W.next.length h6 (notF (orF b a)) 127 [.ipt [dbl W.next.length a], .ipt [dbl W.next.length b]] (by simp [PureL, Pure, pure_dbl]) (fun i hi => lr_nor2 W.next.length a b i hi)
    refine pcall_intro c43_ok (by simp) (by simp [PureL, pure_dworld, pure_dtree]) ?_ (pure_dbl _ _)
    rw [labT_eq]
    unfold dworld at *
    have hcell : W.cells = W.cells := rfl
    (apply rd_sound; focus (repeat' constructor))
    ((conv=>whnf);repeat(refine And.intro rfl ?_;(conv=>whnf)))
    rw [List.length_map]
    refine pwp_ghostB (leB_nilc 3 0 1 (by simp) rfl rfl) ?_
    refine pwp_forH [2, 3, 5, 6] (fun k : Nat => [(7, .sc (.int .i64 k))]) (fun k => [.row true W.cells, .row true (drow t), .row true [.sc (.int .i64 W.next.length)], .row true [.own 4 k 0 k], .vec true k 1 (kidsB W t k)]) (fun k => k ≤ t.width) (fun k => t.width - k) 0 ?_
    ((conv=>whnf);repeat(refine And.intro rfl ?_;(conv=>whnf)))
    refine ⟨by omega, by (repeat' (first | exact trivial | refine And.intro rfl ?_)), rfl, ?_⟩
    rintro k hk
    ((conv=>whnf);repeat(refine And.intro rfl ?_;(conv=>whnf)))
    (apply rd_sound; focus (repeat' constructor))
    ((conv=>whnf);repeat(refine And.intro rfl ?_;(conv=>whnf)))
    (refine ifK_split (fun h1 => ?_) (fun h1 => ?_) <;> (rw [h1]; ((conv=>whnf);repeat(refine And.intro rfl ?_;(conv=>whnf)))))
    · have hk' : k < t.width := by simpa [Tree.width] using h1
      refine ⟨by omega, _, by rw [Int.toNat_natCast]; exact kid_at hk', ?_⟩
      ((conv=>whnf);repeat(refine And.intro rfl ?_;(conv=>whnf)))
      have hih := ih k hk' (wf_kid hwf hk')
      rw [← labK_eq W hk'] at hih
      (refine .inl ⟨_, hih, ?_⟩; ((conv=>whnf);repeat(refine And.intro rfl ?_;(conv=>whnf))))
      refine ⟨by unfold sliceAppend; simp; omega, ?_⟩
      ((conv=>whnf);repeat(refine And.intro rfl ?_;(conv=>whnf)))
      (refine .inl ⟨by (unfold InR; rw [IntKind.wrap_i64]; omega), ?_⟩; ((conv=>whnf);repeat(refine And.intro rfl ?_;(conv=>whnf))))
      refine ⟨k + 1, by omega, by dsimp only; omega, ?_⟩
      dsimp only
      (refine leB_close 5 (by simp) rfl ?_ ?_ <;> (repeat' (first | exact trivial | exact rfl | exact DeepM.refl _ | exact DeepML.refl _ | exact DeepMLL.refl _ | refine And.intro ?_ ?_ | (simp [Under, UnderL, UnderLL, -List.map_take, -List.map_drop]; done))))
      exact deepMLL_eq (kidsB_snoc W t k)
    have hkw : k = t.width := by have : ¬ k < t.width := by simpa [Tree.width] using h1
                                 omega
    subst hkw
    clear ih h1 hk
    have hdep : ∀ {H : List AObj}, H[4]? = some (.vec true t.width 1 (kidsB W t t.width)) → DeepM (fun _ => true) H (.own 4 t.width 0 t.width) (.lst 1 (kidsB W t t.width)) := fun h => .own _ _ _ _ _ _ _ _ rfl h (deepMLL_eq (by rw [List.drop_zero, List.take_of_length_le (by simp)]))
    refine pwp_ghostB (leB_freeze (fun _ => true) (env' := [(2, .ipt W.cells), (3, .ipt (drow t)), (5, .ipt [.sc (.int .i64 W.next.length)]), (6, .ipt [.lst 1 (kidsB W t t.width)])])
      (H' := [.row false W.cells, .row false (drow t), .row false [.sc (.int .i64 W.next.length)], .row false [.lst 1 (kidsB W t t.width)], .vec false t.width 1 (kidsB W t t.width)]) ?_ ?_) ?_
    · refine ⟨.loc _ _ _ _ _ rfl rfl (.refl _), .loc _ _ _ _ _ rfl rfl (.refl _), .loc _ _ _ _ _ rfl rfl (.refl _), .loc _ _ _ _ _ rfl rfl (.cons _ _ _ _ (hdep rfl) (.refl _)), trivial⟩
    · exact ⟨⟨.inr ⟨rfl, rfl⟩, fun _ => rfl, .refl _⟩, ⟨.inr ⟨rfl, rfl⟩, fun _ => rfl, .refl _⟩, ⟨.inr ⟨rfl, rfl⟩, fun _ => rfl, .refl _⟩, ⟨.inr ⟨rfl, rfl⟩, fun _ => rfl, .cons _ _ _ _ (hdep rfl) (.refl _)⟩, ⟨.inr ⟨rfl, rfl⟩, fun _ => rfl, rfl, rfl, .refl _⟩, trivial⟩
    (apply rd_sound; focus (repeat' constructor))
    ((conv=>whnf);repeat(refine And.intro rfl ?_;(conv=>whnf)))
    (refine ifK_split (fun g7 => ?_) (fun g7 => ?_) <;> (rw [g7]; ((conv=>whnf);repeat(refine And.intro rfl ?_;(conv=>whnf)))))
    · have g7 : 7 ≤ t.kind := by ((try simp only [oo, reduceCtorEq] at *) <;> omega)
      (refine .inl ⟨_, hEv, ?_⟩; ((conv=>whnf);repeat(refine And.intro rfl ?_;(conv=>whnf))))
      (refine .inl ⟨_, (hFa allT), ?_⟩; ((conv=>whnf);repeat(refine And.intro rfl ?_;(conv=>whnf))))
      have ct : ∀ {H : List AObj}, H[4]? = some (.vec false t.width 1 (kidsB W t t.width)) → True := fun _ => trivial
      refine pwp_ghostB (leB_freeze (fun _ => true) (env' := [(2, .ipt W.cells), (3, .ipt (drow t)), (5, .ipt [.sc (.int .i64 W.next.length)]), (6, .ipt [.lst 1 (kidsB W t t.width)]), (8, .ipt [mapF W.next.length]), (9, .fn (.func 115) [] [.ipt [mapF W.next.length]]), (11, .fn (.func 117) [] [.ipt [mapF W.next.length], .ipt [dbl W.next.length (fairF W)], .ipt [.sc (.int .i64 W.next.length)], .ipt W.cells]), (12, .fn (.func 119) [] [.ipt [mapF W.next.length], .ipt W.cells, .ipt [dbl W.next.length (fairF W)]])])
        (H' := [.row false W.cells, .row false (drow t), .row false [.sc (.int .i64 W.next.length)], .row false [.lst 1 (kidsB W t t.width)], .vec false t.width 1 (kidsB W t t.width), .row false [mapF W.next.length], .row false [dbl W.next.length (fairF W)]]) ?_ ?_) ?_
      · (repeat' (first | exact trivial | refine And.intro ?_ ?_ | exact Or.inl rfl | exact Or.inr ⟨rfl, rfl⟩ | exact fun _ => rfl | exact (fun h => by cases h) | refine DeepM.loc _ _ _ _ _ rfl rfl ?_ | refine DeepM.own _ _ _ _ _ _ _ _ rfl rfl ?_ | refine DeepM.fn _ _ _ _ _ ?_ ?_ | refine DeepM.agg _ _ ?_ | refine DeepM.tup _ _ ?_ | refine DeepM.ifc _ _ _ ?_ | exact DeepM.refl _ | refine DeepML.cons _ _ _ _ ?_ ?_ | exact DeepML.refl _ | refine DeepMLL.cons _ _ _ _ ?_ ?_ | exact DeepMLL.refl _ | exact rfl))
      · (repeat' (first | exact trivial | refine And.intro ?_ ?_ | exact Or.inl rfl | exact Or.inr ⟨rfl, rfl⟩ | exact fun _ => rfl | exact (fun h => by cases h) | refine DeepM.loc _ _ _ _ _ rfl rfl ?_ | refine DeepM.own _ _ _ _ _ _ _ _ rfl rfl ?_ | refine DeepM.fn _ _ _ _ _ ?_ ?_ | refine DeepM.agg _ _ ?_ | refine DeepM.tup _ _ ?_ | refine DeepM.ifc _ _ _ ?_ | exact DeepM.refl _ | refine DeepML.cons _ _ _ _ ?_ ?_ | exact DeepML.refl _ | refine DeepMLL.cons _ _ _ _ ?_ ?_ | exact DeepMLL.refl _ | exact rfl))
      (apply rd_sound; focus (repeat' constructor))
      ((conv=>whnf);repeat(refine And.intro rfl ?_;(conv=>whnf)))
      (refine .inl ⟨_, hEv, ?_⟩; ((conv=>whnf);repeat(refine And.intro rfl ?_;(conv=>whnf))))
      (refine ifK_split (fun g => ?_) (fun g => ?_) <;> (rw [g]; ((conv=>whnf);repeat(refine And.intro rfl ?_;(conv=>whnf)))))
      · exfalso; ((try simp only [oo, reduceCtorEq] at *) <;> omega)
      have g1 : ¬ t.kind = 1 := by ((try simp only [oo, reduceCtorEq] at *) <;> omega)
      clear g
      (refine ifK_split (fun g => ?_) (fun g => ?_) <;> (rw [g]; ((conv=>whnf);repeat(refine And.intro rfl ?_;(conv=>whnf)))))
      · exfalso; ((try simp only [oo, reduceCtorEq] at *) <;> omega)
      have g2 : ¬ t.kind = 2 := by ((try simp only [oo, reduceCtorEq] at *) <;> omega)
      clear g
      (refine ifK_split (fun g => ?_) (fun g => ?_) <;> (rw [g]; ((conv=>whnf);repeat(refine And.intro rfl ?_;(conv=>whnf)))))
      · exfalso; ((try simp only [oo, reduceCtorEq] at *) <;> omega)
      have g3 : ¬ t.kind = 3 := by ((try simp only [oo, reduceCtorEq] at *) <;> omega)
      clear g
      (refine ifK_split (fun g => ?_) (fun g => ?_) <;> (rw [g]; ((conv=>whnf);repeat(refine And.intro rfl ?_;(conv=>whnf)))))
      · exfalso; ((try simp only [oo, reduceCtorEq] at *) <;> omega)
      have g4 : ¬ t.kind = 4 := by ((try simp only [oo, reduceCtorEq] at *) <;> omega)
      clear g
      (refine ifK_split (fun g => ?_) (fun g => ?_) <;> (rw [g]; ((conv=>whnf);repeat(refine And.intro rfl ?_;(conv=>whnf)))))
      · exfalso; ((try simp only [oo, reduceCtorEq] at *) <;> omega)
      have g5 : ¬ t.kind = 5 := by ((try simp only [oo, reduceCtorEq] at *) <;> omega)
      clear g
      (refine ifK_split (fun g => ?_) (fun g => ?_) <;> (rw [g]; ((conv=>whnf);repeat(refine And.intro rfl ?_;(conv=>whnf)))))
      · exfalso; ((try simp only [oo, reduceCtorEq] at *) <;> omega)
      have g6 : ¬ t.kind = 6 := by ((try simp only [oo, reduceCtorEq] at *) <;> omega)
      clear g
      (refine ifK_split (fun g => ?_) (fun g => ?_) <;> (rw [g]; ((conv=>whnf);repeat(refine And.intro rfl ?_;(conv=>whnf)))))
      · have g : t.kind = 7 := by ((try simp only [oo, reduceCtorEq] at *) <;> omega)
        rw [show labN W t.kind t.num (labK W t.kids) = exF W (labK W t.kids 0) from by unfold labN; simp [g]]
        refine ⟨by omega, _, kidsB_at (j := 0) (by omega) (by omega), ?_⟩
        ((conv=>whnf);repeat(refine And.intro rfl ?_;(conv=>whnf)))
        (refine .inl ⟨_, (hNx (labK W t.kids 0)), ?_⟩; ((conv=>whnf);repeat(refine And.intro rfl ?_;(conv=>whnf))))
        exact .refl _
      have g7 : ¬ t.kind = 7 := by ((try simp only [oo, reduceCtorEq] at *) <;> omega)
      clear g
      (refine ifK_split (fun g => ?_) (fun g => ?_) <;> (rw [g]; ((conv=>whnf);repeat(refine And.intro rfl ?_;(conv=>whnf)))))
      · have g : t.kind = 8 := by ((try simp only [oo, reduceCtorEq] at *) <;> omega)
        rw [show labN W t.kind t.num (labK W t.kids) = euF W allT (labK W t.kids 0) from by unfold labN; simp [g]]
        refine ⟨by omega, _, kidsB_at (j := 0) (by omega) (by omega), ?_⟩
        ((conv=>whnf);repeat(refine And.intro rfl ?_;(conv=>whnf)))
        (refine .inl ⟨_, (hUn allT (labK W t.kids 0)), ?_⟩; ((conv=>whnf);repeat(refine And.intro rfl ?_;(conv=>whnf))))
        exact .refl _
      have g8 : ¬ t.kind = 8 := by ((try simp only [oo, reduceCtorEq] at *) <;> omega)
      clear g
      (refine ifK_split (fun g => ?_) (fun g => ?_) <;> (rw [g]; ((conv=>whnf);repeat(refine And.intro rfl ?_;(conv=>whnf)))))
      · have g : t.kind = 9 := by ((try simp only [oo, reduceCtorEq] at *) <;> omega)
        rw [show labN W t.kind t.num (labK W t.kids) = egF W (labK W t.kids 0) from by unfold labN; simp [g]]
        refine ⟨by omega, _, kidsB_at (j := 0) (by omega) (by omega), ?_⟩
        ((conv=>whnf);repeat(refine And.intro rfl ?_;(conv=>whnf)))
        (refine .inl ⟨_, (hFa (labK W t.kids 0)), ?_⟩; ((conv=>whnf);repeat(refine And.intro rfl ?_;(conv=>whnf))))
        exact .refl _
      have g9 : ¬ t.kind = 9 := by ((try simp only [oo, reduceCtorEq] at *) <;> omega)
      clear g
      (refine ifK_split (fun g => ?_) (fun g => ?_) <;> (rw [g]; ((conv=>whnf);repeat(refine And.intro rfl ?_;(conv=>whnf)))))
      · have g : t.kind = 10 := by ((try simp only [oo, reduceCtorEq] at *) <;> omega)
        rw [show labN W t.kind t.num (labK W t.kids) = euF W (labK W t.kids 0) (labK W t.kids 1) from by unfold labN; simp [g]]
        refine ⟨by omega, _, kidsB_at (j := 0) (by omega) (by omega), ?_⟩
        ((conv=>whnf);repeat(refine And.intro rfl ?_;(conv=>whnf)))
        refine ⟨by omega, _, kidsB_at (j := 1) (by omega) (by omega), ?_⟩
        ((conv=>whnf);repeat(refine And.intro rfl ?_;(conv=>whnf)))
        (refine .inl ⟨_, (hUn (labK W t.kids 0) (labK W t.kids 1)), ?_⟩; ((conv=>whnf);repeat(refine And.intro rfl ?_;(conv=>whnf))))
        exact .refl _
      have g10 : ¬ t.kind = 10 := by ((try simp only [oo, reduceCtorEq] at *) <;> omega)
      clear g
      (refine ifK_split (fun g => ?_) (fun g => ?_) <;> (rw [g]; ((conv=>whnf);repeat(refine And.intro rfl ?_;(conv=>whnf)))))
      · have g : t.kind = 11 := by ((try simp only [oo, reduceCtorEq] at *) <;> omega)
        rw [show labN W t.kind t.num (labK W t.kids) = notF (exF W (notF (labK W t.kids 0))) from by unfold labN; simp [g]]
        refine ⟨by omega, _, kidsB_at (j := 0) (by omega) (by omega), ?_⟩
        ((conv=>whnf);repeat(refine And.intro rfl ?_;(conv=>whnf)))
        (refine .inl ⟨_, (hNo (labK W t.kids 0)), ?_⟩; ((conv=>whnf);repeat(refine And.intro rfl ?_;(conv=>whnf))))
        (refine .inl ⟨_, (hNx (notF (labK W t.kids 0))), ?_⟩; ((conv=>whnf);repeat(refine And.intro rfl ?_;(conv=>whnf))))
        (refine .inl ⟨_, (hNo (exF W (notF (labK W t.kids 0)))), ?_⟩; ((conv=>whnf);repeat(refine And.intro rfl ?_;(conv=>whnf))))
        exact .refl _
      have g11 : ¬ t.kind = 11 := by ((try simp only [oo, reduceCtorEq] at *) <;> omega)
      clear g
      (refine ifK_split (fun g => ?_) (fun g => ?_) <;> (rw [g]; ((conv=>whnf);repeat(refine And.intro rfl ?_;(conv=>whnf)))))
      · have g : t.kind = 12 := by ((try simp only [oo, reduceCtorEq] at *) <;> omega)
        rw [show labN W t.kind t.num (labK W t.kids) = notF (egF W (notF (labK W t.kids 0))) from by unfold labN; simp [g]]
        refine ⟨by omega, _, kidsB_at (j := 0) (by omega) (by omega), ?_⟩
        ((conv=>whnf);repeat(refine And.intro rfl ?_;(conv=>whnf)))
        (refine .inl ⟨_, (hNo (labK W t.kids 0)), ?_⟩; ((conv=>whnf);repeat(refine And.intro rfl ?_;(conv=>whnf))))
        (refine .inl ⟨_, (hFa (notF (labK W t.kids 0))), ?_⟩; ((conv=>whnf);repeat(refine And.intro rfl ?_;(conv=>whnf))))
        (refine .inl ⟨_, (hNo (egF W (notF (labK W t.kids 0)))), ?_⟩; ((conv=>whnf);repeat(refine And.intro rfl ?_;(conv=>whnf))))
        exact .refl _
      have g12 : ¬ t.kind = 12 := by ((try simp only [oo, reduceCtorEq] at *) <;> omega)
      clear g
      (refine ifK_split (fun g => ?_) (fun g => ?_) <;> (rw [g]; ((conv=>whnf);repeat(refine And.intro rfl ?_;(conv=>whnf)))))
      · have g : t.kind = 13 := by ((try simp only [oo, reduceCtorEq] at *) <;> omega)
        rw [show labN W t.kind t.num (labK W t.kids) = notF (euF W allT (notF (labK W t.kids 0))) from by unfold labN; simp [g]]
        refine ⟨by omega, _, kidsB_at (j := 0) (by omega) (by omega), ?_⟩
        ((conv=>whnf);repeat(refine And.intro rfl ?_;(conv=>whnf)))
        (refine .inl ⟨_, (hNo (labK W t.kids 0)), ?_⟩; ((conv=>whnf);repeat(refine And.intro rfl ?_;(conv=>whnf))))
        (refine .inl ⟨_, (hUn allT (notF (labK W t.kids 0))), ?_⟩; ((conv=>whnf);repeat(refine And.intro rfl ?_;(conv=>whnf))))
        (refine .inl ⟨_, (hNo (euF W allT (notF (labK W t.kids 0)))), ?_⟩; ((conv=>whnf);repeat(refine And.intro rfl ?_;(conv=>whnf))))
        exact .refl _
      have g13 : ¬ t.kind = 13 := by ((try simp only [oo, reduceCtorEq] at *) <;> omega)
      clear g
      have g : t.kind = 14 := by omega
      rw [show labN W t.kind t.num (labK W t.kids) = auF W (labK W t.kids 0) (labK W t.kids 1) from by unfold labN; simp [g]]
      refine ⟨by omega, _, kidsB_at (j := 1) (by omega) (by omega), ?_⟩
      ((conv=>whnf);repeat(refine And.intro rfl ?_;(conv=>whnf)))
      (refine .inl ⟨_, (hNo (labK W t.kids 1)), ?_⟩; ((conv=>whnf);repeat(refine And.intro rfl ?_;(conv=>whnf))))
      (refine .inl ⟨_, (hFa (notF (labK W t.kids 1))), ?_⟩; ((conv=>whnf);repeat(refine And.intro rfl ?_;(conv=>whnf))))
      refine ⟨by omega, _, kidsB_at (j := 1) (by omega) (by omega), ?_⟩
      ((conv=>whnf);repeat(refine And.intro rfl ?_;(conv=>whnf)))
      (refine .inl ⟨_, (hNo (labK W t.kids 1)), ?_⟩; ((conv=>whnf);repeat(refine And.intro rfl ?_;(conv=>whnf))))
      (refine .inl ⟨_, (hNr (by omega)), ?_⟩; ((conv=>whnf);repeat(refine And.intro rfl ?_;(conv=>whnf))))
      (refine .inl ⟨_, (hUn (notF (labK W t.kids 1)) (andF (notF (labK W t.kids 0)) (notF (labK W t.kids 1)))), ?_⟩; ((conv=>whnf);repeat(refine And.intro rfl ?_;(conv=>whnf))))
      (refine .inr (.inr (.inr (.inr (.inr (.inl ⟨rfl, _, _, (by (repeat' (first | exact Deep.refl _ | exact Deep.none _ | exact deep_row _ | exact DeepL.nil | exact DeepLL.nil | refine Deep.agg _ _ ?_ | refine Deep.tup _ _ ?_ | refine Deep.own _ _ _ _ _ _ _ _ rfl ?_ | refine Deep.loc _ _ _ _ _ rfl ?_ | refine Deep.ifc _ _ _ ?_ | refine Deep.fn _ _ _ _ _ ?_ ?_ | refine DeepL.cons _ _ _ _ ?_ ?_ | refine DeepLL.cons _ _ _ _ ?_ ?_))), (hN2 (egF W (notF (labK W t.kids 1))) (euF W (notF (labK W t.kids 1)) (andF (notF (labK W t.kids 0)) (notF (labK W t.kids 1))))), ?_⟩))))); ((conv=>whnf);repeat(refine And.intro rfl ?_;(conv=>whnf))))
      exact .refl _
    · have g7 : ¬ 7 ≤ t.kind := by ((try simp only [oo, reduceCtorEq] at *) <;> omega)
      have ct : ∀ {H : List AObj}, H[4]? = some (.vec false t.width 1 (kidsB W t t.width)) → True := fun _ => trivial
      refine pwp_ghostB (leB_freeze (fun _ => true) (env' := [(2, .ipt W.cells), (3, .ipt (drow t)), (5, .ipt [.sc (.int .i64 W.next.length)]), (6, .ipt [.lst 1 (kidsB W t t.width)]), (8, .ipt [mapF W.next.length]), (9, .fn (.func 115) [] [.ipt [mapF W.next.length]]), (11, .fn (.func 117) [] [.ipt [mapF W.next.length], .ipt [.sc (.slice none 0 0)], .ipt [.sc (.int .i64 W.next.length)], .ipt W.cells]), (12, .fn (.func 119) [] [.ipt [mapF W.next.length], .ipt W.cells, .ipt [.sc (.slice none 0 0)]])])
        (H' := [.row false W.cells, .row false (drow t), .row false [.sc (.int .i64 W.next.length)], .row false [.lst 1 (kidsB W t t.width)], .vec false t.width 1 (kidsB W t t.width), .row false [mapF W.next.length], .row false [.sc (.slice none 0 0)]]) ?_ ?_) ?_
      · (repeat' (first | exact trivial | refine And.intro ?_ ?_ | exact Or.inl rfl | exact Or.inr ⟨rfl, rfl⟩ | exact fun _ => rfl | exact (fun h => by cases h) | refine DeepM.loc _ _ _ _ _ rfl rfl ?_ | refine DeepM.own _ _ _ _ _ _ _ _ rfl rfl ?_ | refine DeepM.fn _ _ _ _ _ ?_ ?_ | refine DeepM.agg _ _ ?_ | refine DeepM.tup _ _ ?_ | refine DeepM.ifc _ _ _ ?_ | exact DeepM.refl _ | refine DeepML.cons _ _ _ _ ?_ ?_ | exact DeepML.refl _ | refine DeepMLL.cons _ _ _ _ ?_ ?_ | exact DeepMLL.refl _ | exact rfl))
      · (repeat' (first | exact trivial | refine And.intro ?_ ?_ | exact Or.inl rfl | exact Or.inr ⟨rfl, rfl⟩ | exact fun _ => rfl | exact (fun h => by cases h) | refine DeepM.loc _ _ _ _ _ rfl rfl ?_ | refine DeepM.own _ _ _ _ _ _ _ _ rfl rfl ?_ | refine DeepM.fn _ _ _ _ _ ?_ ?_ | refine DeepM.agg _ _ ?_ | refine DeepM.tup _ _ ?_ | refine DeepM.ifc _ _ _ ?_ | exact DeepM.refl _ | refine DeepML.cons _ _ _ _ ?_ ?_ | exact DeepML.refl _ | refine DeepMLL.cons _ _ _ _ ?_ ?_ | exact DeepMLL.refl _ | exact rfl))
      (apply rd_sound; focus (repeat' constructor))
      ((conv=>whnf);repeat(refine And.intro rfl ?_;(conv=>whnf)))
      (refine .inl ⟨_, hEv, ?_⟩; ((conv=>whnf);repeat(refine And.intro rfl ?_;(conv=>whnf))))
      (refine ifK_split (fun g => ?_) (fun g => ?_) <;> (rw [g]; ((conv=>whnf);repeat(refine And.intro rfl ?_;(conv=>whnf)))))
      · have g : t.kind = 1 := by ((try simp only [oo, reduceCtorEq] at *) <;> omega)
        rw [show labN W t.kind t.num (labK W t.kids) = allT from by unfold labN; simp [g]]
        exact .refl _
      have g1 : ¬ t.kind = 1 := by ((try simp only [oo, reduceCtorEq] at *) <;> omega)
      clear g
      (refine ifK_split (fun g => ?_) (fun g => ?_) <;> (rw [g]; ((conv=>whnf);repeat(refine And.intro rfl ?_;(conv=>whnf)))))
      · have g : t.kind = 2 := by ((try simp only [oo, reduceCtorEq] at *) <;> omega)
        rw [show labN W t.kind t.num (labK W t.kids) = notF allT from by unfold labN; simp [g]]
        (refine .inl ⟨_, (hNo allT), ?_⟩; ((conv=>whnf);repeat(refine And.intro rfl ?_;(conv=>whnf))))
        exact .refl _
      have g2 : ¬ t.kind = 2 := by ((try simp only [oo, reduceCtorEq] at *) <;> omega)
      clear g
      (refine ifK_split (fun g => ?_) (fun g => ?_) <;> (rw [g]; ((conv=>whnf);repeat(refine And.intro rfl ?_;(conv=>whnf)))))
      · have g : t.kind = 3 := by ((try simp only [oo, reduceCtorEq] at *) <;> omega)
        rw [show labN W t.kind t.num (labK W t.kids) = atomF W t.num from by unfold labN; simp [g]]
        (refine .inl ⟨_, hA, ?_⟩; ((conv=>whnf);repeat(refine And.intro rfl ?_;(conv=>whnf))))
        exact .refl _
      have g3 : ¬ t.kind = 3 := by ((try simp only [oo, reduceCtorEq] at *) <;> omega)
      clear g
      (refine ifK_split (fun g => ?_) (fun g => ?_) <;> (rw [g]; ((conv=>whnf);repeat(refine And.intro rfl ?_;(conv=>whnf)))))
      · have g : t.kind = 4 := by ((try simp only [oo, reduceCtorEq] at *) <;> omega)
        rw [show labN W t.kind t.num (labK W t.kids) = notF (labK W t.kids 0) from by unfold labN; simp [g]]
        refine ⟨by omega, _, kidsB_at (j := 0) (by omega) (by omega), ?_⟩
        ((conv=>whnf);repeat(refine And.intro rfl ?_;(conv=>whnf)))
        (refine .inl ⟨_, (hNo (labK W t.kids 0)), ?_⟩; ((conv=>whnf);repeat(refine And.intro rfl ?_;(conv=>whnf))))
        exact .refl _
      have g4 : ¬ t.kind = 4 := by ((try simp only [oo, reduceCtorEq] at *) <;> omega)
      clear g
      (refine ifK_split (fun g => ?_) (fun g => ?_) <;> (rw [g]; ((conv=>whnf);repeat(refine And.intro rfl ?_;(conv=>whnf)))))
      · have g : t.kind = 5 := by ((try simp only [oo, reduceCtorEq] at *) <;> omega)
        rw [show labN W t.kind t.num (labK W t.kids) = andF (labK W t.kids 0) (labK W t.kids 1) from by unfold labN; simp [g]]
        (refine .inl ⟨_, (hAn (by omega)), ?_⟩; ((conv=>whnf);repeat(refine And.intro rfl ?_;(conv=>whnf))))
        exact .refl _
      have g5 : ¬ t.kind = 5 := by ((try simp only [oo, reduceCtorEq] at *) <;> omega)
      clear g
      (refine ifK_split (fun g => ?_) (fun g => ?_) <;> (rw [g]; ((conv=>whnf);repeat(refine And.intro rfl ?_;(conv=>whnf)))))
      · have g : t.kind = 6 := by ((try simp only [oo, reduceCtorEq] at *) <;> omega)
        rw [show labN W t.kind t.num (labK W t.kids) = orF (labK W t.kids 0) (labK W t.kids 1) from by unfold labN; simp [g]]
        (refine .inl ⟨_, (hOr (by omega)), ?_⟩; ((conv=>whnf);repeat(refine And.intro rfl ?_;(conv=>whnf))))
        exact .refl _
      have g6 : ¬ t.kind = 6 := by ((try simp only [oo, reduceCtorEq] at *) <;> omega)
      clear g
      omega
end Go.Proofs.Ytfgklgjbnpjpoaa
