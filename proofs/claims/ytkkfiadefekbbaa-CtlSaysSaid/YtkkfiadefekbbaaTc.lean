/-
  The writer of formulas of all ways, over deep values. No statement is proved here.
-/
import Derived.Test.YtkkfiadefekbbaaTl
namespace Go.Proofs.Ytkkfiadefekbbaa
open Go.RowKit
set_option linter.unusedSimpArgs false
theorem c_arity {t : Tree} (h : ¬ oddNode cKids t) : (t.kind = 1 ∨ t.kind = 2 ∨ t.kind = 3) ∧ t.width = 0 ∨ (t.kind = 4 ∨ t.kind = 7 ∨ t.kind = 8 ∨ t.kind = 9 ∨ t.kind = 11 ∨ t.kind = 12 ∨ t.kind = 13) ∧ t.width = 1 ∨ (t.kind = 5 ∨ t.kind = 6 ∨ t.kind = 10 ∨ t.kind = 14) ∧ t.width = 2 := by
  unfold oddNode cKids at h
  (repeat' split at h) <;> omega
theorem cwf_small : ∀ t : Tree, t.wf cKids → Small t := by
  intro t
  induction t using Tree.ind with
  | h t ih =>
    intro hw
    refine .mk t ?_ fun j hj => ih j hj (wf_kid hw hj)
    have := c_arity ((wf_iff _ _).1 hw).1
    omega
def c154 : PC := .seq (.ops [⟨(some 6), .move (.const (.bool false)), none, 0⟩] false) (.seq (.seq (.ops [⟨(some 7), .move (.tmp 2), none, 0⟩] false) (.block 0 (.seq (.ops [⟨(some 9), .bin .eql (.tmp 7) (.const (.int .i64 5)), none, 0⟩,
    ⟨(some 8), .move (.tmp 9), none, 0⟩] false) (.cond (.tmp 8) (.seq (.ops [⟨(some 10), .move (.tmp 0), none, 0⟩,
    ⟨(some 11), .bin .eql (.tmp 10) (.const (.int .i64 6)), none, 0⟩,
    ⟨(some 12), .move (.tmp 11), none, 0⟩,
    ⟨(some 13), .move (.tmp 0), (some (12, false)), 0⟩,
    ⟨(some 14), .bin .eql (.tmp 13) (.const (.int .i64 5)), (some (12, false)), 0⟩,
    ⟨(some 15), .move (.tmp 14), (some (12, false)), 0⟩,
    ⟨(some 16), .move (.tmp 1), (some (15, true)), 0⟩,
    ⟨(some 17), .bin .eql (.tmp 16) (.const (.int .i64 0)), (some (15, true)), 0⟩,
    ⟨(some 18), .pick (.tmp 15) (.tmp 17) (.const (.bool false)), (some (12, false)), 0⟩,
    ⟨(some 19), .pick (.tmp 12) (.const (.bool true)) (.tmp 18), none, 0⟩,
    ⟨(some 6), .move (.tmp 19), none, 0⟩] false) (.ret)) (.seq (.ops [⟨(some 21), .bin .eql (.tmp 7) (.const (.int .i64 6)), none, 0⟩,
    ⟨(some 20), .move (.tmp 21), none, 0⟩] false) (.cond (.tmp 20) (.seq (.ops [⟨(some 22), .move (.tmp 0), none, 0⟩,
    ⟨(some 23), .bin .eql (.tmp 22) (.const (.int .i64 6)), none, 0⟩,
    ⟨(some 24), .move (.tmp 23), none, 0⟩,
    ⟨(some 25), .move (.tmp 1), (some (24, true)), 0⟩,
    ⟨(some 26), .bin .eql (.tmp 25) (.const (.int .i64 0)), (some (24, true)), 0⟩,
    ⟨(some 27), .pick (.tmp 24) (.tmp 26) (.const (.bool false)), none, 0⟩,
    ⟨(some 6), .move (.tmp 27), none, 0⟩] false) (.ret)) (.skip))))))) (.seq (.ops [⟨(some 6), .move (.const (.bool true)), none, 0⟩] false) (.ret)))
set_option maxRecDepth 100000 in
theorem c154_ok : FunOK Try.prog 154 28 [.tmp 6] c154 := ⟨⟨Try.f154, Try.func154, rfl, by kernel_rfl, rfl, by kernel_rfl⟩⟩
def c121 : PC := .seq (.ops [⟨(some 4), .move (.const (.string ⟨#[]⟩)), none, 0⟩] false) (.seq (.seq (.ops [⟨(some 5), .move (.tmp 1), none, 0⟩,
    ⟨(some 6), .bin .eql (.tmp 5) (.const (.int .i64 63)), none, 0⟩] false) (.cond (.tmp 6) (.seq (.ops [⟨(some 4), .move (.const (.string ⟨#[115, 105, 108, 101, 110, 116]⟩)), none, 0⟩] false) (.ret)) (.skip))) (.seq (.seq (.ops [⟨(some 7), .move (.tmp 1), none, 0⟩,
    ⟨(some 8), .move (.tmp 0), none, 0⟩,
    ⟨(some 9), .nilchk (.tmp 8), none, 2⟩,
    ⟨(some 10), .faddr 0 (.tmp 9), none, 6⟩,
    ⟨(some 11), .load1 (.tmp 10), none, 14⟩,
    ⟨(some 12), .len (.tmp 11), none, 30⟩,
    ⟨(some 13), .bin .geq (.tmp 7) (.tmp 12), none, 63⟩,
    ⟨(some 14), .move (.tmp 13), none, 127⟩,
    ⟨(some 15), .move (.tmp 0), (some (14, false)), 255⟩,
    ⟨(some 16), .nilchk (.tmp 15), (some (14, false)), 511⟩,
    ⟨(some 17), .faddr 0 (.tmp 16), (some (14, false)), 1023⟩,
    ⟨(some 18), .load1 (.tmp 17), (some (14, false)), 2047⟩,
    ⟨(some 19), .move (.tmp 1), (some (14, false)), 255⟩,
    ⟨(some 20), .iaddr 1 (.tmp 18) (.tmp 19), (some (14, false)), 8191⟩,
    ⟨(some 21), .load1 (.tmp 20), (some (14, false)), 16383⟩,
    ⟨(some 22), .call 152 [(.tmp 21)], (some (14, false)), 32767⟩,
    ⟨(some 23), .un .not (.tmp 22), (some (14, false)), 65535⟩,
    ⟨(some 24), .pick (.tmp 14) (.const (.bool true)) (.tmp 23), none, 131071⟩,
    ⟨(some 25), .move (.tmp 24), none, 262143⟩,
    ⟨(some 26), .move (.tmp 0), (some (25, false)), 524287⟩,
    ⟨(some 27), .nilchk (.tmp 26), (some (25, false)), 1048575⟩,
    ⟨(some 28), .faddr 0 (.tmp 27), (some (25, false)), 2097151⟩,
    ⟨(some 29), .load1 (.tmp 28), (some (25, false)), 4194303⟩,
    ⟨(some 30), .move (.tmp 0), (some (25, false)), 524287⟩,
    ⟨(some 31), .nilchk (.tmp 30), (some (25, false)), 8912895⟩,
    ⟨(some 32), .faddr 0 (.tmp 31), (some (25, false)), 25690111⟩,
    ⟨(some 33), .load1 (.tmp 32), (some (25, false)), 59244543⟩,
    ⟨(some 34), .move (.tmp 1), (some (25, false)), 524287⟩,
    ⟨(some 35), .iaddr 1 (.tmp 33) (.tmp 34), (some (25, false)), 260571135⟩,
    ⟨(some 36), .load1 (.tmp 35), (some (25, false)), 529006591⟩,
    ⟨(some 37), .call 153 [(.tmp 29), (.tmp 36)], (some (25, false)), 1073741823⟩,
    ⟨(some 38), .move (.tmp 1), (some (25, false)), 524287⟩,
    ⟨(some 39), .bin .neq (.tmp 37) (.tmp 38), (some (25, false)), 4294967295⟩,
    ⟨(some 40), .pick (.tmp 25) (.const (.bool true)) (.tmp 39), none, 8589934591⟩] true) (.cond (.tmp 40) (.seq (.ops [⟨(some 41), .move (.tmp 0), none, 0⟩,
    ⟨(some 42), .nilchk (.tmp 41), none, 0⟩,
    ⟨(some 43), .faddr 1 (.tmp 42), none, 0⟩,
    ⟨none, .store 1 (.tmp 43) (.const (.bool true)), none, 0⟩] false) (.seq (.ops [⟨(some 4), .move (.const (.string ⟨#[]⟩)), none, 0⟩] false) (.ret))) (.skip))) (.seq (.ops [⟨(some 44), .move (.tmp 0), none, 0⟩,
    ⟨(some 45), .nilchk (.tmp 44), none, 0⟩,
    ⟨(some 46), .faddr 0 (.tmp 45), none, 0⟩,
    ⟨(some 47), .load1 (.tmp 46), none, 0⟩,
    ⟨(some 48), .move (.tmp 1), none, 0⟩,
    ⟨(some 49), .iaddr 1 (.tmp 47) (.tmp 48), none, 0⟩,
    ⟨(some 50), .load1 (.tmp 49), none, 0⟩,
    ⟨(some 4), .move (.tmp 50), none, 0⟩] false) (.ret))))
set_option maxRecDepth 100000 in
theorem c121_ok : FunOK Try.prog 121 51 [.tmp 4] c121 := ⟨⟨Try.f121, Try.func121, rfl, by kernel_rfl, rfl, by kernel_rfl⟩⟩
def c122 : PC := .seq (.ops [⟨(some 4), .box (.tmp 1), none, 0⟩,
    ⟨(some 6), .move (.const (.string ⟨#[]⟩)), none, 0⟩] false) (.seq (.ops [⟨(some 8), .move (.tmp 0), none, 0⟩,
    ⟨(some 9), .faddr 2 (.tmp 4), none, 0⟩,
    ⟨(some 10), .load1 (.tmp 9), none, 0⟩,
    ⟨(some 11), .move (.tmp 2), none, 0⟩,
    ⟨(some 12), .iaddr 3 (.tmp 10) (.tmp 11), none, 0⟩,
    ⟨(some 13), .loadA 3 (.tmp 12), none, 0⟩,
    ⟨(some 14), .call 73 [(.tmp 8), (.tmp 13)], none, 0⟩,
    ⟨(some 7), .move (.tmp 14), none, 0⟩] false) (.seq (.seq (.ops [⟨(some 15), .faddr 0 (.tmp 4), none, 0⟩,
    ⟨(some 16), .load1 (.tmp 15), none, 1⟩,
    ⟨(some 17), .move (.tmp 2), none, 0⟩,
    ⟨(some 18), .faddr 2 (.tmp 4), none, 0⟩,
    ⟨(some 19), .load1 (.tmp 18), none, 8⟩,
    ⟨(some 20), .move (.tmp 2), none, 0⟩,
    ⟨(some 21), .iaddr 3 (.tmp 19) (.tmp 20), none, 56⟩,
    ⟨(some 22), .faddr 0 (.tmp 21), none, 120⟩,
    ⟨(some 23), .load1 (.tmp 22), none, 248⟩,
    ⟨(some 24), .call 154 [(.tmp 16), (.tmp 17), (.tmp 23)], none, 511⟩] true) (.cond (.tmp 24) (.seq (.ops [⟨(some 25), .move (.tmp 7), none, 0⟩,
    ⟨(some 6), .move (.tmp 25), none, 0⟩] false) (.ret)) (.skip))) (.seq (.ops [⟨(some 26), .move (.tmp 7), none, 0⟩,
    ⟨(some 27), .bin .add (.const (.string ⟨#[40]⟩)) (.tmp 26), none, 0⟩,
    ⟨(some 28), .bin .add (.tmp 27) (.const (.string ⟨#[41]⟩)), none, 0⟩,
    ⟨(some 6), .move (.tmp 28), none, 0⟩] false) (.ret))))
set_option maxRecDepth 100000 in
theorem c122_ok : FunOK Try.prog 122 29 [.tmp 6] c122 := ⟨⟨Try.f122, Try.func122, rfl, by kernel_rfl, rfl, by kernel_rfl⟩⟩
def c73 : PC := .seq (.ops [⟨(some 3), .box (.tmp 1), none, 0⟩,
    ⟨(some 4), .move (.const (.string ⟨#[]⟩)), none, 0⟩] false) (.seq (.seq (.ops [⟨(some 5), .faddr 0 (.tmp 3), none, 0⟩,
    ⟨(some 6), .load1 (.tmp 5), none, 0⟩] false) (.block 0 (.seq (.ops [⟨(some 8), .bin .eql (.tmp 6) (.const (.int .i64 1)), none, 0⟩,
    ⟨(some 7), .move (.tmp 8), none, 0⟩] false) (.cond (.tmp 7) (.seq (.ops [⟨(some 4), .move (.const (.string ⟨#[116, 114, 117, 101]⟩)), none, 0⟩] false) (.ret)) (.seq (.ops [⟨(some 10), .bin .eql (.tmp 6) (.const (.int .i64 2)), none, 0⟩,
    ⟨(some 9), .move (.tmp 10), none, 0⟩] false) (.cond (.tmp 9) (.seq (.ops [⟨(some 4), .move (.const (.string ⟨#[102, 97, 108, 115, 101]⟩)), none, 0⟩] false) (.ret)) (.seq (.ops [⟨(some 12), .bin .eql (.tmp 6) (.const (.int .i64 3)), none, 0⟩,
    ⟨(some 11), .move (.tmp 12), none, 0⟩] false) (.cond (.tmp 11) (.seq (.ops [⟨(some 13), .move (.tmp 0), none, 0⟩,
    ⟨(some 14), .faddr 1 (.tmp 3), none, 0⟩,
    ⟨(some 15), .load1 (.tmp 14), none, 0⟩,
    ⟨(some 16), .call 121 [(.tmp 13), (.tmp 15)], none, 0⟩,
    ⟨(some 4), .move (.tmp 16), none, 0⟩] false) (.ret)) (.seq (.ops [⟨(some 18), .bin .eql (.tmp 6) (.const (.int .i64 5)), none, 0⟩,
    ⟨(some 17), .move (.tmp 18), none, 0⟩] false) (.cond (.tmp 17) (.seq (.ops [⟨(some 19), .move (.tmp 0), none, 0⟩,
    ⟨(some 20), .loadA 3 (.tmp 3), none, 0⟩,
    ⟨(some 21), .call 122 [(.tmp 19), (.tmp 20), (.const (.int .i64 0))], none, 3⟩,
    ⟨(some 22), .bin .add (.tmp 21) (.const (.string ⟨#[32, 38, 32]⟩)), none, 7⟩,
    ⟨(some 23), .move (.tmp 0), none, 0⟩,
    ⟨(some 24), .loadA 3 (.tmp 3), none, 0⟩,
    ⟨(some 25), .call 122 [(.tmp 23), (.tmp 24), (.const (.int .i64 1))], none, 55⟩,
    ⟨(some 26), .bin .add (.tmp 22) (.tmp 25), none, 127⟩,
    ⟨(some 4), .move (.tmp 26), none, 255⟩] true) (.ret)) (.seq (.ops [⟨(some 28), .bin .eql (.tmp 6) (.const (.int .i64 6)), none, 0⟩,
    ⟨(some 27), .move (.tmp 28), none, 0⟩] false) (.cond (.tmp 27) (.seq (.ops [⟨(some 29), .move (.tmp 0), none, 0⟩,
    ⟨(some 30), .loadA 3 (.tmp 3), none, 0⟩,
    ⟨(some 31), .call 122 [(.tmp 29), (.tmp 30), (.const (.int .i64 0))], none, 3⟩,
    ⟨(some 32), .bin .add (.tmp 31) (.const (.string ⟨#[32, 47, 32]⟩)), none, 7⟩,
    ⟨(some 33), .move (.tmp 0), none, 0⟩,
    ⟨(some 34), .loadA 3 (.tmp 3), none, 0⟩,
    ⟨(some 35), .call 122 [(.tmp 33), (.tmp 34), (.const (.int .i64 1))], none, 55⟩,
    ⟨(some 36), .bin .add (.tmp 32) (.tmp 35), none, 127⟩,
    ⟨(some 4), .move (.tmp 36), none, 255⟩] true) (.ret)) (.seq (.ops [⟨(some 38), .bin .eql (.tmp 6) (.const (.int .i64 10)), none, 0⟩,
    ⟨(some 37), .move (.tmp 38), none, 0⟩] false) (.cond (.tmp 37) (.seq (.ops [⟨(some 39), .move (.tmp 0), none, 0⟩,
    ⟨(some 40), .faddr 2 (.tmp 3), none, 0⟩,
    ⟨(some 41), .load1 (.tmp 40), none, 2⟩,
    ⟨(some 42), .iaddr 3 (.tmp 41) (.const (.int .i64 0)), none, 6⟩,
    ⟨(some 43), .loadA 3 (.tmp 42), none, 14⟩,
    ⟨(some 44), .call 73 [(.tmp 39), (.tmp 43)], none, 31⟩,
    ⟨(some 45), .bin .add (.const (.string ⟨#[69, 32, 91]⟩)) (.tmp 44), none, 63⟩,
    ⟨(some 46), .bin .add (.tmp 45) (.const (.string ⟨#[32, 85, 32]⟩)), none, 127⟩,
    ⟨(some 47), .move (.tmp 0), none, 0⟩,
    ⟨(some 48), .faddr 2 (.tmp 3), none, 0⟩,
    ⟨(some 49), .load1 (.tmp 48), none, 512⟩,
    ⟨(some 50), .iaddr 3 (.tmp 49) (.const (.int .i64 1)), none, 1536⟩,
    ⟨(some 51), .loadA 3 (.tmp 50), none, 3584⟩,
    ⟨(some 52), .call 73 [(.tmp 47), (.tmp 51)], none, 7999⟩,
    ⟨(some 53), .bin .add (.tmp 46) (.tmp 52), none, 16383⟩,
    ⟨(some 54), .bin .add (.tmp 53) (.const (.string ⟨#[93]⟩)), none, 32767⟩,
    ⟨(some 4), .move (.tmp 54), none, 65535⟩] true) (.ret)) (.seq (.ops [⟨(some 56), .bin .eql (.tmp 6) (.const (.int .i64 14)), none, 0⟩,
    ⟨(some 55), .move (.tmp 56), none, 0⟩] false) (.cond (.tmp 55) (.seq (.ops [⟨(some 57), .move (.tmp 0), none, 0⟩,
    ⟨(some 58), .faddr 2 (.tmp 3), none, 0⟩,
    ⟨(some 59), .load1 (.tmp 58), none, 2⟩,
    ⟨(some 60), .iaddr 3 (.tmp 59) (.const (.int .i64 0)), none, 6⟩,
    ⟨(some 61), .loadA 3 (.tmp 60), none, 14⟩,
    ⟨(some 62), .call 73 [(.tmp 57), (.tmp 61)], none, 31⟩,
    ⟨(some 63), .bin .add (.const (.string ⟨#[65, 32, 91]⟩)) (.tmp 62), none, 63⟩,
    ⟨(some 64), .bin .add (.tmp 63) (.const (.string ⟨#[32, 85, 32]⟩)), none, 127⟩,
    ⟨(some 65), .move (.tmp 0), none, 0⟩,
    ⟨(some 66), .faddr 2 (.tmp 3), none, 0⟩,
    ⟨(some 67), .load1 (.tmp 66), none, 512⟩,
    ⟨(some 68), .iaddr 3 (.tmp 67) (.const (.int .i64 1)), none, 1536⟩,
    ⟨(some 69), .loadA 3 (.tmp 68), none, 3584⟩,
    ⟨(some 70), .call 73 [(.tmp 65), (.tmp 69)], none, 7999⟩,
    ⟨(some 71), .bin .add (.tmp 64) (.tmp 70), none, 16383⟩,
    ⟨(some 72), .bin .add (.tmp 71) (.const (.string ⟨#[93]⟩)), none, 32767⟩,
    ⟨(some 4), .move (.tmp 72), none, 65535⟩] true) (.ret)) (.skip))))))))))))))))) (.seq (.ops [⟨(some 73), .faddr 0 (.tmp 3), none, 0⟩,
    ⟨(some 74), .load1 (.tmp 73), none, 1⟩,
    ⟨(some 75), .call 123 [(.tmp 74)], none, 3⟩,
    ⟨(some 76), .move (.tmp 0), none, 0⟩,
    ⟨(some 77), .loadA 3 (.tmp 3), none, 0⟩,
    ⟨(some 78), .call 122 [(.tmp 76), (.tmp 77), (.const (.int .i64 0))], none, 31⟩,
    ⟨(some 79), .bin .add (.tmp 75) (.tmp 78), none, 63⟩,
    ⟨(some 4), .move (.tmp 79), none, 127⟩] true) (.ret)))
set_option maxRecDepth 100000 in
theorem c73_ok : FunOK Try.prog 73 80 [.tmp 4] c73 := ⟨⟨Try.f73, Try.func73, rfl, by kernel_rfl, rfl, by kernel_rfl⟩⟩
def c123 : PC := .seq (.ops [⟨(some 2), .move (.const (.string ⟨#[]⟩)), none, 0⟩] false) (.seq (.ops [⟨(some 3), .build [(.string ⟨#[]⟩), (.string ⟨#[]⟩), (.string ⟨#[]⟩), (.string ⟨#[]⟩), (.string ⟨#[]⟩), (.string ⟨#[]⟩), (.string ⟨#[]⟩), (.string ⟨#[]⟩), (.string ⟨#[]⟩), (.string ⟨#[]⟩), (.string ⟨#[]⟩), (.string ⟨#[]⟩), (.string ⟨#[]⟩), (.string ⟨#[]⟩)] [(4, 1, (.const (.string ⟨#[33]⟩))), (7, 1, (.const (.string ⟨#[69, 88, 32]⟩))), (8, 1, (.const (.string ⟨#[69, 70, 32]⟩))), (9, 1, (.const (.string ⟨#[69, 71, 32]⟩))), (11, 1, (.const (.string ⟨#[65, 88, 32]⟩))), (12, 1, (.const (.string ⟨#[65, 70, 32]⟩))), (13, 1, (.const (.string ⟨#[65, 71, 32]⟩)))], none, 0⟩,
    ⟨(some 4), .move (.tmp 0), none, 0⟩,
    ⟨(some 5), .aidx 14 1 false (.tmp 3) (.tmp 4), none, 0⟩,
    ⟨(some 2), .move (.tmp 5), none, 0⟩] false) (.ret))
set_option maxRecDepth 100000 in
theorem c123_ok : FunOK Try.prog 123 6 [.tmp 2] c123 := ⟨⟨Try.f123, Try.func123, rfl, by kernel_rfl, rfl, by kernel_rfl⟩⟩
theorem ctl_bare (k i c : Int) : PCall Try.prog 154 [.sc (.int .i64 k), .sc (.int .i64 i), .sc (.int .i64 c)] (.sc (.bool (bareC0 k i c))) := by
  refine pcall_intro c154_ok (by simp) (by simp [PureL, Pure]) ?_ (by simp [Pure])
  (apply red_sound; focus (repeat' (first | exact Red.skip | exact Red.ret | exact RedO.nil | exact RedD.nil | exact Red.exit _ | exact Red.loop _ | exact Red.stop _ | apply Red.ops | apply Red.draw | apply Red.seq | apply Red.cond | apply Red.block | apply RedO.cons | apply RedD.cons | exact (0 : Nat))))
  ((conv => whnf); repeat (refine And.intro rfl ?_; (conv => whnf)))
  repeat' (first
    | (first | (refine ifK_t ‹_› ?_; ((conv => whnf); repeat (refine And.intro rfl ?_; (conv => whnf)))) | (refine ifK_f ‹_› ?_; ((conv => whnf); repeat (refine And.intro rfl ?_; (conv => whnf)))) | (refine ifK_split (fun h => ?_) (fun h => ?_) <;> (rw [h]; ((conv => whnf); repeat (refine And.intro rfl ?_; (conv => whnf))))))
    | exact deep_eq (congrArg (fun b => D.sc (.bool b)) (by unfold bareC0; simp_all)))
theorem ctl_sign4 : PCall Try.prog 123 [.sc (.int .i64 4)] (.sc (.string ⟨#[33]⟩)) := by
  refine pcall_intro c123_ok (by simp) (by simp [PureL, Pure]) ?_ (by simp [Pure])
  (apply red_sound; focus (repeat' (first | exact Red.skip | exact Red.ret | exact RedO.nil | exact RedD.nil | exact Red.exit _ | exact Red.loop _ | exact Red.stop _ | apply Red.ops | apply Red.draw | apply Red.seq | apply Red.cond | apply Red.block | apply RedO.cons | apply RedD.cons | exact (0 : Nat))))
  ((conv => whnf); repeat (refine And.intro rfl ?_; (conv => whnf)))
  refine ⟨by omega, by omega, _, rfl, ?_⟩
  ((conv => whnf); repeat (refine And.intro rfl ?_; (conv => whnf)))
  (repeat' (first | exact Deep.refl _ | exact Deep.none _ | exact deep_row _ | exact DeepL.nil | exact DeepLL.nil | refine Deep.agg _ _ ?_ | refine Deep.tup _ _ ?_ | refine Deep.own _ _ _ _ _ _ _ _ rfl ?_ | refine Deep.loc _ _ _ _ _ rfl ?_ | refine Deep.ifc _ _ _ ?_ | refine DeepL.cons _ _ _ _ ?_ ?_ | refine DeepLL.cons _ _ _ _ ?_ ?_))
theorem ctl_sign7 : PCall Try.prog 123 [.sc (.int .i64 7)] (.sc (.string ⟨#[69, 88, 32]⟩)) := by
  refine pcall_intro c123_ok (by simp) (by simp [PureL, Pure]) ?_ (by simp [Pure])
  (apply red_sound; focus (repeat' (first | exact Red.skip | exact Red.ret | exact RedO.nil | exact RedD.nil | exact Red.exit _ | exact Red.loop _ | exact Red.stop _ | apply Red.ops | apply Red.draw | apply Red.seq | apply Red.cond | apply Red.block | apply RedO.cons | apply RedD.cons | exact (0 : Nat))))
  ((conv => whnf); repeat (refine And.intro rfl ?_; (conv => whnf)))
  refine ⟨by omega, by omega, _, rfl, ?_⟩
  ((conv => whnf); repeat (refine And.intro rfl ?_; (conv => whnf)))
  (repeat' (first | exact Deep.refl _ | exact Deep.none _ | exact deep_row _ | exact DeepL.nil | exact DeepLL.nil | refine Deep.agg _ _ ?_ | refine Deep.tup _ _ ?_ | refine Deep.own _ _ _ _ _ _ _ _ rfl ?_ | refine Deep.loc _ _ _ _ _ rfl ?_ | refine Deep.ifc _ _ _ ?_ | refine DeepL.cons _ _ _ _ ?_ ?_ | refine DeepLL.cons _ _ _ _ ?_ ?_))
theorem ctl_sign8 : PCall Try.prog 123 [.sc (.int .i64 8)] (.sc (.string ⟨#[69, 70, 32]⟩)) := by
  refine pcall_intro c123_ok (by simp) (by simp [PureL, Pure]) ?_ (by simp [Pure])
  (apply red_sound; focus (repeat' (first | exact Red.skip | exact Red.ret | exact RedO.nil | exact RedD.nil | exact Red.exit _ | exact Red.loop _ | exact Red.stop _ | apply Red.ops | apply Red.draw | apply Red.seq | apply Red.cond | apply Red.block | apply RedO.cons | apply RedD.cons | exact (0 : Nat))))
  ((conv => whnf); repeat (refine And.intro rfl ?_; (conv => whnf)))
  refine ⟨by omega, by omega, _, rfl, ?_⟩
  ((conv => whnf); repeat (refine And.intro rfl ?_; (conv => whnf)))
  (repeat' (first | exact Deep.refl _ | exact Deep.none _ | exact deep_row _ | exact DeepL.nil | exact DeepLL.nil | refine Deep.agg _ _ ?_ | refine Deep.tup _ _ ?_ | refine Deep.own _ _ _ _ _ _ _ _ rfl ?_ | refine Deep.loc _ _ _ _ _ rfl ?_ | refine Deep.ifc _ _ _ ?_ | refine DeepL.cons _ _ _ _ ?_ ?_ | refine DeepLL.cons _ _ _ _ ?_ ?_))
theorem ctl_sign9 : PCall Try.prog 123 [.sc (.int .i64 9)] (.sc (.string ⟨#[69, 71, 32]⟩)) := by
  refine pcall_intro c123_ok (by simp) (by simp [PureL, Pure]) ?_ (by simp [Pure])
  (apply red_sound; focus (repeat' (first | exact Red.skip | exact Red.ret | exact RedO.nil | exact RedD.nil | exact Red.exit _ | exact Red.loop _ | exact Red.stop _ | apply Red.ops | apply Red.draw | apply Red.seq | apply Red.cond | apply Red.block | apply RedO.cons | apply RedD.cons | exact (0 : Nat))))
  ((conv => whnf); repeat (refine And.intro rfl ?_; (conv => whnf)))
  refine ⟨by omega, by omega, _, rfl, ?_⟩
  ((conv => whnf); repeat (refine And.intro rfl ?_; (conv => whnf)))
  (repeat' (first | exact Deep.refl _ | exact Deep.none _ | exact deep_row _ | exact DeepL.nil | exact DeepLL.nil | refine Deep.agg _ _ ?_ | refine Deep.tup _ _ ?_ | refine Deep.own _ _ _ _ _ _ _ _ rfl ?_ | refine Deep.loc _ _ _ _ _ rfl ?_ | refine Deep.ifc _ _ _ ?_ | refine DeepL.cons _ _ _ _ ?_ ?_ | refine DeepLL.cons _ _ _ _ ?_ ?_))
theorem ctl_sign11 : PCall Try.prog 123 [.sc (.int .i64 11)] (.sc (.string ⟨#[65, 88, 32]⟩)) := by
  refine pcall_intro c123_ok (by simp) (by simp [PureL, Pure]) ?_ (by simp [Pure])
  (apply red_sound; focus (repeat' (first | exact Red.skip | exact Red.ret | exact RedO.nil | exact RedD.nil | exact Red.exit _ | exact Red.loop _ | exact Red.stop _ | apply Red.ops | apply Red.draw | apply Red.seq | apply Red.cond | apply Red.block | apply RedO.cons | apply RedD.cons | exact (0 : Nat))))
  ((conv => whnf); repeat (refine And.intro rfl ?_; (conv => whnf)))
  refine ⟨by omega, by omega, _, rfl, ?_⟩
  ((conv => whnf); repeat (refine And.intro rfl ?_; (conv => whnf)))
  (repeat' (first | exact Deep.refl _ | exact Deep.none _ | exact deep_row _ | exact DeepL.nil | exact DeepLL.nil | refine Deep.agg _ _ ?_ | refine Deep.tup _ _ ?_ | refine Deep.own _ _ _ _ _ _ _ _ rfl ?_ | refine Deep.loc _ _ _ _ _ rfl ?_ | refine Deep.ifc _ _ _ ?_ | refine DeepL.cons _ _ _ _ ?_ ?_ | refine DeepLL.cons _ _ _ _ ?_ ?_))
theorem ctl_sign12 : PCall Try.prog 123 [.sc (.int .i64 12)] (.sc (.string ⟨#[65, 70, 32]⟩)) := by
  refine pcall_intro c123_ok (by simp) (by simp [PureL, Pure]) ?_ (by simp [Pure])
  (apply red_sound; focus (repeat' (first | exact Red.skip | exact Red.ret | exact RedO.nil | exact RedD.nil | exact Red.exit _ | exact Red.loop _ | exact Red.stop _ | apply Red.ops | apply Red.draw | apply Red.seq | apply Red.cond | apply Red.block | apply RedO.cons | apply RedD.cons | exact (0 : Nat))))
  ((conv => whnf); repeat (refine And.intro rfl ?_; (conv => whnf)))
  refine ⟨by omega, by omega, _, rfl, ?_⟩
  ((conv => whnf); repeat (refine And.intro rfl ?_; (conv => whnf)))
  (repeat' (first | exact Deep.refl _ | exact Deep.none _ | exact deep_row _ | exact DeepL.nil | exact DeepLL.nil | refine Deep.agg _ _ ?_ | refine Deep.tup _ _ ?_ | refine Deep.own _ _ _ _ _ _ _ _ rfl ?_ | refine Deep.loc _ _ _ _ _ rfl ?_ | refine Deep.ifc _ _ _ ?_ | refine DeepL.cons _ _ _ _ ?_ ?_ | refine DeepLL.cons _ _ _ _ ?_ ?_))
theorem ctl_sign13 : PCall Try.prog 123 [.sc (.int .i64 13)] (.sc (.string ⟨#[65, 71, 32]⟩)) := by
  refine pcall_intro c123_ok (by simp) (by simp [PureL, Pure]) ?_ (by simp [Pure])
  (apply red_sound; focus (repeat' (first | exact Red.skip | exact Red.ret | exact RedO.nil | exact RedD.nil | exact Red.exit _ | exact Red.loop _ | exact Red.stop _ | apply Red.ops | apply Red.draw | apply Red.seq | apply Red.cond | apply Red.block | apply RedO.cons | apply RedD.cons | exact (0 : Nat))))
  ((conv => whnf); repeat (refine And.intro rfl ?_; (conv => whnf)))
  refine ⟨by omega, by omega, _, rfl, ?_⟩
  ((conv => whnf); repeat (refine And.intro rfl ?_; (conv => whnf)))
  (repeat' (first | exact Deep.refl _ | exact Deep.none _ | exact deep_row _ | exact DeepL.nil | exact DeepLL.nil | refine Deep.agg _ _ ?_ | refine Deep.tup _ _ ?_ | refine Deep.own _ _ _ _ _ _ _ _ rfl ?_ | refine Deep.loc _ _ _ _ _ rfl ?_ | refine Deep.ifc _ _ _ ?_ | refine DeepL.cons _ _ _ _ ?_ ?_ | refine DeepLL.cons _ _ _ _ ?_ ?_))
theorem ctl_name (names : List ByteArray) (hs : SmallS names) (n : Int) (hn : 0 ≤ n) (bad : Bool) :
    ACall Try.prog 121 ([] ++ .loc 0 0 :: [.sc (.int .i64 n)]) [.row true (wrow names bad)] (.sc (.string (nm names n))) [.row true (wrow names (bad || eqS (nm names n) ⟨#[]⟩))] := by
  refine acall_intro c121_ok (by simp) (by simp) ?_ (by simp [Under]) (by simp [AObj.under, underL_pure _ (pure_wrow _ _)])
  unfold wrow dstrs
  (apply red_sound; focus (repeat' (first | exact Red.skip | exact Red.ret | exact RedO.nil | exact RedD.nil | exact Red.exit _ | exact Red.loop _ | exact Red.stop _ | apply Red.ops | apply Red.draw | apply Red.seq | apply Red.cond | apply Red.block | apply RedO.cons | apply RedD.cons | exact (0 : Nat))))
  ((conv => whnf); repeat (refine And.intro rfl ?_; (conv => whnf)))
  have good : ∀ {s : ByteArray}, s = nm names n → eqS s ⟨#[]⟩ = false → (D.sc (.string s) = .sc (.string (nm names n)) ∧ List.take 1 [AObj.row true [.lst 1 (names.map fun s => [.sc (.string s)]), .sc (.bool bad)]] = [AObj.row true [.lst 1 (names.map fun s => [.sc (.string s)]), .sc (.bool (bad || eqS (nm names n) ⟨#[]⟩))]] ∧ 1 ≤ 1) := fun h h' => by
    subst h; rw [h']; simp
  have none_ : nm names n = ⟨#[]⟩ → (D.sc (.string ⟨#[]⟩) = .sc (.string (nm names n)) ∧ List.take 1 [AObj.row true [.lst 1 (names.map fun s => [.sc (.string s)]), .sc (.bool true)]] = [AObj.row true [.lst 1 (names.map fun s => [.sc (.string s)]), .sc (.bool (bad || eqS (nm names n) ⟨#[]⟩))]] ∧ 1 ≤ 1) := fun h => by
    rw [h]; simp
  (refine ifK_split (fun h1 => ?_) (fun h1 => ?_) <;> (rw [h1]; ((conv => whnf); repeat (refine And.intro rfl ?_; (conv => whnf)))))
  · exact good (by simp only [beq_iff_eq] at h1; simp [nm, h1, sSilent]) (by rw [← Bool.not_eq_true, eqS_empty]; decide)
  have h1 : n ≠ 63 := by ((try simp only [bne_iff_ne, ne_eq, bne_eq_false_iff_eq, beq_iff_eq, beq_eq_false_iff_ne, decide_eq_true_eq, decide_eq_false_iff_not, List.length_map, Bool.not_eq_true, Bool.not_eq_false, Bool.and_eq_true, Bool.or_eq_true, Bool.and_eq_false_iff, Bool.or_eq_false_iff, Bool.not_eq_true', Bool.not_eq_false', Bool.not_true, Bool.not_false, Bool.not_eq_eq_eq_not, not_true_eq_false, not_false_eq_true, reduceCtorEq, Bool.true_or, Bool.false_or, Bool.or_true, Bool.or_false, Bool.true_and, Bool.and_true, Bool.false_and, Bool.and_false, true_and, and_true, or_false, false_or, true_or, or_true, false_and, and_false, Bool.true_eq_false, Bool.false_eq_true] at *) <;> omega)
  rw [List.length_map]
  (refine ifK_split (fun h2 => ?_) (fun h2 => ?_) <;> (rw [h2]; ((conv => whnf); repeat (refine And.intro rfl ?_; (conv => whnf)))))
  · exact none_ (by have : (names.length : Int) ≤ n := by ((try simp only [bne_iff_ne, ne_eq, bne_eq_false_iff_eq, beq_iff_eq, beq_eq_false_iff_ne, decide_eq_true_eq, decide_eq_false_iff_not, List.length_map, Bool.not_eq_true, Bool.not_eq_false, Bool.and_eq_true, Bool.or_eq_true, Bool.and_eq_false_iff, Bool.or_eq_false_iff, Bool.not_eq_true', Bool.not_eq_false', Bool.not_true, Bool.not_false, Bool.not_eq_eq_eq_not, not_true_eq_false, not_false_eq_true, reduceCtorEq, Bool.true_or, Bool.false_or, Bool.or_true, Bool.or_false, Bool.true_and, Bool.and_true, Bool.false_and, Bool.and_false, true_and, and_true, or_false, false_or, true_or, or_true, false_and, and_false, Bool.true_eq_false, Bool.false_eq_true] at *) <;> omega)
                    simp [nm, h1, this])
  have h2 : ¬ (names.length : Int) ≤ n := by ((try simp only [bne_iff_ne, ne_eq, bne_eq_false_iff_eq, beq_iff_eq, beq_eq_false_iff_ne, decide_eq_true_eq, decide_eq_false_iff_not, List.length_map, Bool.not_eq_true, Bool.not_eq_false, Bool.and_eq_true, Bool.or_eq_true, Bool.and_eq_false_iff, Bool.or_eq_false_iff, Bool.not_eq_true', Bool.not_eq_false', Bool.not_true, Bool.not_false, Bool.not_eq_eq_eq_not, not_true_eq_false, not_false_eq_true, reduceCtorEq, Bool.true_or, Bool.false_or, Bool.or_true, Bool.or_false, Bool.true_and, Bool.and_true, Bool.false_and, Bool.and_false, true_and, and_true, or_false, false_or, true_or, or_true, false_and, and_false, Bool.true_eq_false, Bool.false_eq_true] at *) <;> omega)
  have hk : n.toNat < names.length := by omega
  refine ⟨hn, _, str_at hk, ?_⟩
  ((conv => whnf); repeat (refine And.intro rfl ?_; (conv => whnf)))
  (refine .inl ⟨_, (proc_Named _ (hs.at hk)), ?_⟩; ((conv => whnf); repeat (refine And.intro rfl ?_; (conv => whnf))))
  (refine ifK_split (fun h3 => ?_) (fun h3 => ?_) <;> (rw [h3]; ((conv => whnf); repeat (refine And.intro rfl ?_; (conv => whnf)))))
  · exact none_ (by have : namedB (names.getD n.toNat ⟨#[]⟩) = false := by simpa using h3
                    unfold nm; rw [if_neg h1, if_neg h2, if_pos this])
  have h3 : ¬ namedB (names.getD n.toNat ⟨#[]⟩) = false := by simpa using h3
  refine ⟨hn, _, str_at hk, ?_⟩
  ((conv => whnf); repeat (refine And.intro rfl ?_; (conv => whnf)))
  (refine .inl ⟨_, (index_str names _ hs.1), ?_⟩; ((conv => whnf); repeat (refine And.intro rfl ?_; (conv => whnf))))
  have hd := idx_dup hk
  rw [show (n.toNat : Int) = n by omega] at hd
  (refine ifK_split (fun h4 => ?_) (fun h4 => ?_) <;> (rw [h4]; ((conv => whnf); repeat (refine And.intro rfl ?_; (conv => whnf)))))
  · exact none_ (by have : dupB names n.toNat (names.getD n.toNat ⟨#[]⟩) = true := hd.1 (by simpa using h4)
                    unfold nm; rw [if_neg h1, if_neg h2, if_neg h3, if_pos this])
  · refine ⟨hn, _, str_at hk, ?_⟩
    ((conv => whnf); repeat (refine And.intro rfl ?_; (conv => whnf)))
    exact good (by have : ¬ dupB names n.toNat (names.getD n.toNat ⟨#[]⟩) = true := fun h => hd.2 h (by simpa using h4)
                   unfold nm; rw [if_neg h1, if_neg h2, if_neg h3, if_neg this]) (by
                   have : namedB (names.getD n.toNat ⟨#[]⟩) = true := by simpa using h3
                   unfold namedB at this
                   simp only [Bool.and_eq_true, Bool.not_eq_true'] at this
                   exact this.1.1.1.1.1)
theorem ctl_kid (names : List ByteArray) (t : Tree) (j : Nat) (hj : j < t.width) (hsz : (txtC names (t.kid j)).size ≤ 1000000) (bad bad' : Bool)
    (hT : ACall Try.prog 73 ([] ++ .loc 0 0 :: [dtree (t.kid j)]) [.row true (wrow names bad)] (.sc (.string (txtC names (t.kid j)))) [.row true (wrow names bad')]) :
    ACall Try.prog 122 ([] ++ .loc 0 0 :: [dtree t, .sc (.int .i64 j)]) [.row true (wrow names bad)] (.sc (.string (wrapS (bareC0 t.kind j (t.kid j).kind) (txtC names (t.kid j))))) [.row true (wrow names bad')] := by
  refine acall_intro c122_ok (by simp) (by simp) ?_ (by simp [Under]) (by simp [AObj.under, underL_pure _ (pure_wrow _ _)])
  (apply red_sound; focus (repeat' (first | exact Red.skip | exact Red.ret | exact RedO.nil | exact RedD.nil | exact Red.exit _ | exact Red.loop _ | exact Red.stop _ | apply Red.ops | apply Red.draw | apply Red.seq | apply Red.cond | apply Red.block | apply RedO.cons | apply RedD.cons | exact (0 : Nat))))
  ((conv => whnf); repeat (refine And.intro rfl ?_; (conv => whnf)))
  refine ⟨by omega, _, kid_at hj, ?_⟩
  ((conv => whnf); repeat (refine And.intro rfl ?_; (conv => whnf)))
  (refine .inr (.inr (.inl ⟨rfl, _, _, (acall_row hT (by simp [PureL]) (by simp [PureL, pure_dtree]) (pure_wrow _ _) (pure_wrow _ _) (by simp [Pure]) (H := [.row true (wrow names bad), .row true (drow t)]) (id := 0) rfl), ?_⟩)); ((conv => whnf); repeat (refine And.intro rfl ?_; (conv => whnf))))
  refine ⟨by omega, _, kid_at hj, ?_⟩
  ((conv => whnf); repeat (refine And.intro rfl ?_; (conv => whnf)))
  (refine .inl ⟨_, (ctl_bare t.kind j (t.kid j).kind), ?_⟩; ((conv => whnf); repeat (refine And.intro rfl ?_; (conv => whnf))))
  (refine ifK_split (fun h => ?_) (fun h => ?_) <;> (rw [h]; ((conv => whnf); repeat (refine And.intro rfl ?_; (conv => whnf)))))
  · first | exact ⟨congrArg (fun s => D.sc (.string s)) (by simp [wrapS, h]), rfl, by simp⟩ | simp
  · refine ⟨by simp only [ByteArray.size_append, size_mk, List.size_toArray, List.length_cons, List.length_nil]; omega, ?_⟩
    ((conv => whnf); repeat (refine And.intro rfl ?_; (conv => whnf)))
    refine ⟨by simp only [ByteArray.size_append, size_mk, List.size_toArray, List.length_cons, List.length_nil]; omega, ?_⟩
    ((conv => whnf); repeat (refine And.intro rfl ?_; (conv => whnf)))
    first | exact ⟨congrArg (fun s => D.sc (.string s)) (by simp [wrapS, h]), rfl, by simp⟩ | simp
theorem ctl_text (names : List ByteArray) (hn : SmallS names) : ∀ t : Tree, t.wf cKids → t.size ≤ 60 → ∀ bad : Bool,
    ACall Try.prog 73 ([] ++ .loc 0 0 :: [dtree t]) [.row true (wrow names bad)] (.sc (.string (txtC names t))) [.row true (wrow names (bad || !okN names t))] := by
  intro t
  induction t using Tree.ind with
  | h t ih =>
    intro hwf hsz bad
    have hs := cwf_small t hwf
    have har := c_arity ((wf_iff _ _).1 hwf).1
    have hnum : 0 ≤ t.num := by have := ((wf_iff _ _).1 hwf).1; unfold oddNode at this; omega
    have tsz : ∀ j, j < t.width → (txtC names (t.kid j)).size ≤ 720 ∧ (t.kid j).size ≤ 60 := fun j hj => by
      have h1 := txtC_size names (t.kid j)
      have h2 := size_kid hj
      omega
    have htxt : ∀ j, j < t.width → ∀ bad : Bool, ACall Try.prog 73 ([] ++ .loc 0 0 :: [dtree (t.kid j)]) [.row true (wrow names bad)] (.sc (.string (txtC names (t.kid j)))) [.row true (wrow names (bad || !okN names (t.kid j)))] :=
      fun j hj bad => ih j hj (wf_kid hwf hj) (tsz j hj).2 bad
    have hkid : ∀ j, j < t.width → ¬ (t.kind = 10 ∨ t.kind = 14) → ∀ bad : Bool, ACall Try.prog 122 ([] ++ .loc 0 0 :: [dtree t, .sc (.int .i64 j)]) [.row true (wrow names bad)] (.sc (.string (kidSC names t j))) [.row true (wrow names (bad || !okN names (t.kid j)))] :=
      fun j hj hno bad => by
        have := ctl_kid names t j hj (by have := tsz j hj; omega) bad _ (htxt j hj bad)
        unfold kidSC bareC
        rw [if_neg hno]
        exact this
    have ksz : ∀ j, j < t.width → (kidSC names t j).size ≤ 722 := fun j hj => by
      have := wrap_size (bareC t.kind j (t.kid j).kind) (txtC names (t.kid j))
      have := tsz j hj
      unfold kidSC
      omega
    clear ih
    refine acall_intro c73_ok (by simp) (by simp) ?_ (by simp [Under]) (by simp [AObj.under, underL_pure _ (pure_wrow _ _)])
    (apply red_sound; focus (repeat' (first | exact Red.skip | exact Red.ret | exact RedO.nil | exact RedD.nil | exact Red.exit _ | exact Red.loop _ | exact Red.stop _ | apply Red.ops | apply Red.draw | apply Red.seq | apply Red.cond | apply Red.block | apply RedO.cons | apply RedD.cons | exact (0 : Nat))))
    ((conv => whnf); repeat (refine And.intro rfl ?_; (conv => whnf)))
    have fin : ∀ {s : ByteArray} {b : Bool} {r : List D}, s = txtC names t → b = (bad || !okN names t) → (D.sc (.string s) = .sc (.string (txtC names t)) ∧ List.take 1 [AObj.row true [dstrs names, .sc (.bool b)], .row true r] = [AObj.row true (wrow names (bad || !okN names t))] ∧ [AObj.row true (wrow names (bad || !okN names t))].length ≤ 2) := fun h1 h2 => by
      subst h1 h2; exact ⟨rfl, rfl, by simp⟩
    have zero : t.width = 0 → txtC names t = joinC names t.kind t.num ⟨#[]⟩ ⟨#[]⟩ ∧ okN names t = okHead names t.kind t.num := fun h => ⟨txtC_0 names h, okN_0 names h⟩
    (refine ifK_split (fun h1 => ?_) (fun h1 => ?_) <;> (rw [h1]; ((conv => whnf); repeat (refine And.intro rfl ?_; (conv => whnf)))))
    · have hk : t.kind = 1 := by ((try simp only [bne_iff_ne, ne_eq, bne_eq_false_iff_eq, beq_iff_eq, beq_eq_false_iff_ne, decide_eq_true_eq, decide_eq_false_iff_not, List.length_map, Bool.not_eq_true, Bool.not_eq_false, Bool.and_eq_true, Bool.or_eq_true, Bool.and_eq_false_iff, Bool.or_eq_false_iff, Bool.not_eq_true', Bool.not_eq_false', Bool.not_true, Bool.not_false, Bool.not_eq_eq_eq_not, not_true_eq_false, not_false_eq_true, reduceCtorEq, Bool.true_or, Bool.false_or, Bool.or_true, Bool.or_false, Bool.true_and, Bool.and_true, Bool.false_and, Bool.and_false, true_and, and_true, or_false, false_or, true_or, or_true, false_and, and_false, Bool.true_eq_false, Bool.false_eq_true] at *) <;> omega)
      have := zero (by omega)
      exact fin (by rw [this.1, hk]; rfl) (by rw [this.2, hk]; simp [okHead])
    (refine ifK_split (fun h2 => ?_) (fun h2 => ?_) <;> (rw [h2]; ((conv => whnf); repeat (refine And.intro rfl ?_; (conv => whnf)))))
    · have hk : t.kind = 2 := by ((try simp only [bne_iff_ne, ne_eq, bne_eq_false_iff_eq, beq_iff_eq, beq_eq_false_iff_ne, decide_eq_true_eq, decide_eq_false_iff_not, List.length_map, Bool.not_eq_true, Bool.not_eq_false, Bool.and_eq_true, Bool.or_eq_true, Bool.and_eq_false_iff, Bool.or_eq_false_iff, Bool.not_eq_true', Bool.not_eq_false', Bool.not_true, Bool.not_false, Bool.not_eq_eq_eq_not, not_true_eq_false, not_false_eq_true, reduceCtorEq, Bool.true_or, Bool.false_or, Bool.or_true, Bool.or_false, Bool.true_and, Bool.and_true, Bool.false_and, Bool.and_false, true_and, and_true, or_false, false_or, true_or, or_true, false_and, and_false, Bool.true_eq_false, Bool.false_eq_true] at *) <;> omega)
      have := zero (by omega)
      exact fin (by rw [this.1, hk]; rfl) (by rw [this.2, hk]; simp [okHead])
    (refine ifK_split (fun h3 => ?_) (fun h3 => ?_) <;> (rw [h3]; ((conv => whnf); repeat (refine And.intro rfl ?_; (conv => whnf)))))
    · have hk : t.kind = 3 := by ((try simp only [bne_iff_ne, ne_eq, bne_eq_false_iff_eq, beq_iff_eq, beq_eq_false_iff_ne, decide_eq_true_eq, decide_eq_false_iff_not, List.length_map, Bool.not_eq_true, Bool.not_eq_false, Bool.and_eq_true, Bool.or_eq_true, Bool.and_eq_false_iff, Bool.or_eq_false_iff, Bool.not_eq_true', Bool.not_eq_false', Bool.not_true, Bool.not_false, Bool.not_eq_eq_eq_not, not_true_eq_false, not_false_eq_true, reduceCtorEq, Bool.true_or, Bool.false_or, Bool.or_true, Bool.or_false, Bool.true_and, Bool.and_true, Bool.false_and, Bool.and_false, true_and, and_true, or_false, false_or, true_or, or_true, false_and, and_false, Bool.true_eq_false, Bool.false_eq_true] at *) <;> omega)
      have := zero (by omega)
      (refine .inr (.inr (.inl ⟨rfl, _, _, (acall_row (ctl_name names hn t.num hnum bad) (by simp [PureL]) (by simp [PureL, Pure]) (pure_wrow _ _) (pure_wrow _ _) (by simp [Pure]) (H := [.row true (wrow names bad), .row true (drow t)]) (id := 0) rfl), ?_⟩)); ((conv => whnf); repeat (refine And.intro rfl ?_; (conv => whnf))))
      exact fin (by rw [this.1, hk]; rfl) (by rw [this.2, hk]; simp only [okHead]; cases eqS (nm names t.num) ⟨#[]⟩ <;> cases bad <;> rfl)
    clear zero
    have two : t.width = 2 → txtC names t = joinC names t.kind t.num (kidSC names t 0) (kidSC names t 1) ∧ (bad || !okN names t) = ((bad || !okN names (t.kid 0)) || !okN names (t.kid 1)) := fun h => ⟨txtC_2 names h, by
      rw [okN_2 names h (by ((try simp only [bne_iff_ne, ne_eq, bne_eq_false_iff_eq, beq_iff_eq, beq_eq_false_iff_ne, decide_eq_true_eq, decide_eq_false_iff_not, List.length_map, Bool.not_eq_true, Bool.not_eq_false, Bool.and_eq_true, Bool.or_eq_true, Bool.and_eq_false_iff, Bool.or_eq_false_iff, Bool.not_eq_true', Bool.not_eq_false', Bool.not_true, Bool.not_false, Bool.not_eq_eq_eq_not, not_true_eq_false, not_false_eq_true, reduceCtorEq, Bool.true_or, Bool.false_or, Bool.or_true, Bool.or_false, Bool.true_and, Bool.and_true, Bool.false_and, Bool.and_false, true_and, and_true, or_false, false_or, true_or, or_true, false_and, and_false, Bool.true_eq_false, Bool.false_eq_true] at *) <;> omega))]; cases bad <;> cases okN names (t.kid 0) <;> rfl⟩
    (refine ifK_split (fun h4 => ?_) (fun h4 => ?_) <;> (rw [h4]; ((conv => whnf); repeat (refine And.intro rfl ?_; (conv => whnf)))))
    · have hk : t.kind = 5 := by ((try simp only [bne_iff_ne, ne_eq, bne_eq_false_iff_eq, beq_iff_eq, beq_eq_false_iff_ne, decide_eq_true_eq, decide_eq_false_iff_not, List.length_map, Bool.not_eq_true, Bool.not_eq_false, Bool.and_eq_true, Bool.or_eq_true, Bool.and_eq_false_iff, Bool.or_eq_false_iff, Bool.not_eq_true', Bool.not_eq_false', Bool.not_true, Bool.not_false, Bool.not_eq_eq_eq_not, not_true_eq_false, not_false_eq_true, reduceCtorEq, Bool.true_or, Bool.false_or, Bool.or_true, Bool.or_false, Bool.true_and, Bool.and_true, Bool.false_and, Bool.and_false, true_and, and_true, or_false, false_or, true_or, or_true, false_and, and_false, Bool.true_eq_false, Bool.false_eq_true] at *) <;> omega)
      have hw : t.width = 2 := by omega
      have k0 := ksz 0 (by omega)
      have k1 := ksz 1 (by omega)
      (refine .inr (.inr (.inr (.inr ⟨_, _, _, (acallAt_row (hkid 0 (by omega) (by omega) bad) (by simp [PureL]) (by simp [PureL, pure_dtree, Pure]) (pure_wrow _ _) (pure_wrow _ _) (by simp [Pure]) (H := [.row true (wrow names bad), .row true (drow t)]) (id := 0) rfl), ?_⟩))); ((conv => whnf); repeat (refine And.intro rfl ?_; (conv => whnf))))
      refine ⟨by simp only [ByteArray.size_append, size_mk, List.size_toArray, List.length_cons, List.length_nil]; omega, ?_⟩
      ((conv => whnf); repeat (refine And.intro rfl ?_; (conv => whnf)))
      (refine .inr (.inr (.inr (.inr ⟨_, _, _, (acallAt_row (hkid 1 (by omega) (by omega) (bad || !okN names (t.kid 0))) (by simp [PureL]) (by simp [PureL, pure_dtree, Pure]) (pure_wrow _ _) (pure_wrow _ _) (by simp [Pure]) (H := [.row true (wrow names (bad || !okN names (t.kid 0))), .row true (drow t)]) (id := 0) rfl), ?_⟩))); ((conv => whnf); repeat (refine And.intro rfl ?_; (conv => whnf))))
      refine ⟨by simp only [ByteArray.size_append, size_mk, List.size_toArray, List.length_cons, List.length_nil]; omega, ?_⟩
      ((conv => whnf); repeat (refine And.intro rfl ?_; (conv => whnf)))
      exact fin (by rw [(two hw).1, hk]; rfl) (two hw).2.symm
    (refine ifK_split (fun h5 => ?_) (fun h5 => ?_) <;> (rw [h5]; ((conv => whnf); repeat (refine And.intro rfl ?_; (conv => whnf)))))
    · have hk : t.kind = 6 := by ((try simp only [bne_iff_ne, ne_eq, bne_eq_false_iff_eq, beq_iff_eq, beq_eq_false_iff_ne, decide_eq_true_eq, decide_eq_false_iff_not, List.length_map, Bool.not_eq_true, Bool.not_eq_false, Bool.and_eq_true, Bool.or_eq_true, Bool.and_eq_false_iff, Bool.or_eq_false_iff, Bool.not_eq_true', Bool.not_eq_false', Bool.not_true, Bool.not_false, Bool.not_eq_eq_eq_not, not_true_eq_false, not_false_eq_true, reduceCtorEq, Bool.true_or, Bool.false_or, Bool.or_true, Bool.or_false, Bool.true_and, Bool.and_true, Bool.false_and, Bool.and_false, true_and, and_true, or_false, false_or, true_or, or_true, false_and, and_false, Bool.true_eq_false, Bool.false_eq_true] at *) <;> omega)
      have hw : t.width = 2 := by omega
      have k0 := ksz 0 (by omega)
      have k1 := ksz 1 (by omega)
      (refine .inr (.inr (.inr (.inr ⟨_, _, _, (acallAt_row (hkid 0 (by omega) (by omega) bad) (by simp [PureL]) (by simp [PureL, pure_dtree, Pure]) (pure_wrow _ _) (pure_wrow _ _) (by simp [Pure]) (H := [.row true (wrow names bad), .row true (drow t)]) (id := 0) rfl), ?_⟩))); ((conv => whnf); repeat (refine And.intro rfl ?_; (conv => whnf))))
      refine ⟨by simp only [ByteArray.size_append, size_mk, List.size_toArray, List.length_cons, List.length_nil]; omega, ?_⟩
      ((conv => whnf); repeat (refine And.intro rfl ?_; (conv => whnf)))
      (refine .inr (.inr (.inr (.inr ⟨_, _, _, (acallAt_row (hkid 1 (by omega) (by omega) (bad || !okN names (t.kid 0))) (by simp [PureL]) (by simp [PureL, pure_dtree, Pure]) (pure_wrow _ _) (pure_wrow _ _) (by simp [Pure]) (H := [.row true (wrow names (bad || !okN names (t.kid 0))), .row true (drow t)]) (id := 0) rfl), ?_⟩))); ((conv => whnf); repeat (refine And.intro rfl ?_; (conv => whnf))))
      refine ⟨by simp only [ByteArray.size_append, size_mk, List.size_toArray, List.length_cons, List.length_nil]; omega, ?_⟩
      ((conv => whnf); repeat (refine And.intro rfl ?_; (conv => whnf)))
      exact fin (by rw [(two hw).1, hk]; rfl) (two hw).2.symm
    (refine ifK_split (fun h6 => ?_) (fun h6 => ?_) <;> (rw [h6]; ((conv => whnf); repeat (refine And.intro rfl ?_; (conv => whnf)))))
    · have hk : t.kind = 10 := by ((try simp only [bne_iff_ne, ne_eq, bne_eq_false_iff_eq, beq_iff_eq, beq_eq_false_iff_ne, decide_eq_true_eq, decide_eq_false_iff_not, List.length_map, Bool.not_eq_true, Bool.not_eq_false, Bool.and_eq_true, Bool.or_eq_true, Bool.and_eq_false_iff, Bool.or_eq_false_iff, Bool.not_eq_true', Bool.not_eq_false', Bool.not_true, Bool.not_false, Bool.not_eq_eq_eq_not, not_true_eq_false, not_false_eq_true, reduceCtorEq, Bool.true_or, Bool.false_or, Bool.or_true, Bool.or_false, Bool.true_and, Bool.and_true, Bool.false_and, Bool.and_false, true_and, and_true, or_false, false_or, true_or, or_true, false_and, and_false, Bool.true_eq_false, Bool.false_eq_true] at *) <;> omega)
      have hw : t.width = 2 := by omega
      have t0 := tsz 0 (by omega)
      have t1 := tsz 1 (by omega)
      have e0 : kidSC names t 0 = txtC names (t.kid 0) := by simp [kidSC, bareC, hk, wrapS]
      have e1 : kidSC names t 1 = txtC names (t.kid 1) := by simp [kidSC, bareC, hk, wrapS]
      refine ⟨by omega, _, kid_at (t := t) (j := 0) (by omega), ?_⟩
      ((conv => whnf); repeat (refine And.intro rfl ?_; (conv => whnf)))
      (refine .inr (.inr (.inr (.inr ⟨_, _, _, (acallAt_row (htxt 0 (by omega) bad) (by simp [PureL]) (by simp [PureL, pure_dtree, Pure]) (pure_wrow _ _) (pure_wrow _ _) (by simp [Pure]) (H := [.row true (wrow names bad), .row true (drow t)]) (id := 0) rfl), ?_⟩))); ((conv => whnf); repeat (refine And.intro rfl ?_; (conv => whnf))))
      refine ⟨by simp only [ByteArray.size_append, size_mk, List.size_toArray, List.length_cons, List.length_nil]; omega, ?_⟩
      ((conv => whnf); repeat (refine And.intro rfl ?_; (conv => whnf)))
      refine ⟨by simp only [ByteArray.size_append, size_mk, List.size_toArray, List.length_cons, List.length_nil]; omega, ?_⟩
      ((conv => whnf); repeat (refine And.intro rfl ?_; (conv => whnf)))
      refine ⟨by omega, _, kid_at (t := t) (j := 1) (by omega), ?_⟩
      ((conv => whnf); repeat (refine And.intro rfl ?_; (conv => whnf)))
      (refine .inr (.inr (.inr (.inr ⟨_, _, _, (acallAt_row (htxt 1 (by omega) (bad || !okN names (t.kid 0))) (by simp [PureL]) (by simp [PureL, pure_dtree, Pure]) (pure_wrow _ _) (pure_wrow _ _) (by simp [Pure]) (H := [.row true (wrow names (bad || !okN names (t.kid 0))), .row true (drow t)]) (id := 0) rfl), ?_⟩))); ((conv => whnf); repeat (refine And.intro rfl ?_; (conv => whnf))))
      refine ⟨by simp only [ByteArray.size_append, size_mk, List.size_toArray, List.length_cons, List.length_nil]; omega, ?_⟩
      ((conv => whnf); repeat (refine And.intro rfl ?_; (conv => whnf)))
      refine ⟨by simp only [ByteArray.size_append, size_mk, List.size_toArray, List.length_cons, List.length_nil]; omega, ?_⟩
      ((conv => whnf); repeat (refine And.intro rfl ?_; (conv => whnf)))
      exact fin (by rw [(two hw).1, hk, e0, e1]; rfl) (two hw).2.symm
    (refine ifK_split (fun h7 => ?_) (fun h7 => ?_) <;> (rw [h7]; ((conv => whnf); repeat (refine And.intro rfl ?_; (conv => whnf)))))
    · have hk : t.kind = 14 := by ((try simp only [bne_iff_ne, ne_eq, bne_eq_false_iff_eq, beq_iff_eq, beq_eq_false_iff_ne, decide_eq_true_eq, decide_eq_false_iff_not, List.length_map, Bool.not_eq_true, Bool.not_eq_false, Bool.and_eq_true, Bool.or_eq_true, Bool.and_eq_false_iff, Bool.or_eq_false_iff, Bool.not_eq_true', Bool.not_eq_false', Bool.not_true, Bool.not_false, Bool.not_eq_eq_eq_not, not_true_eq_false, not_false_eq_true, reduceCtorEq, Bool.true_or, Bool.false_or, Bool.or_true, Bool.or_false, Bool.true_and, Bool.and_true, Bool.false_and, Bool.and_false, true_and, and_true, or_false, false_or, true_or, or_true, false_and, and_false, Bool.true_eq_false, Bool.false_eq_true] at *) <;> omega)
      have hw : t.width = 2 := by omega
      have t0 := tsz 0 (by omega)
      have t1 := tsz 1 (by omega)
      have e0 : kidSC names t 0 = txtC names (t.kid 0) := by simp [kidSC, bareC, hk, wrapS]
      have e1 : kidSC names t 1 = txtC names (t.kid 1) := by simp [kidSC, bareC, hk, wrapS]
      refine ⟨by omega, _, kid_at (t := t) (j := 0) (by omega), ?_⟩
      ((conv => whnf); repeat (refine And.intro rfl ?_; (conv => whnf)))
      (refine .inr (.inr (.inr (.inr ⟨_, _, _, (acallAt_row (htxt 0 (by omega) bad) (by simp [PureL]) (by simp [PureL, pure_dtree, Pure]) (pure_wrow _ _) (pure_wrow _ _) (by simp [Pure]) (H := [.row true (wrow names bad), .row true (drow t)]) (id := 0) rfl), ?_⟩))); ((conv => whnf); repeat (refine And.intro rfl ?_; (conv => whnf))))
      refine ⟨by simp only [ByteArray.size_append, size_mk, List.size_toArray, List.length_cons, List.length_nil]; omega, ?_⟩
      ((conv => whnf); repeat (refine And.intro rfl ?_; (conv => whnf)))
      refine ⟨by simp only [ByteArray.size_append, size_mk, List.size_toArray, List.length_cons, List.length_nil]; omega, ?_⟩
      ((conv => whnf); repeat (refine And.intro rfl ?_; (conv => whnf)))
      refine ⟨by omega, _, kid_at (t := t) (j := 1) (by omega), ?_⟩
      ((conv => whnf); repeat (refine And.intro rfl ?_; (conv => whnf)))
      (refine .inr (.inr (.inr (.inr ⟨_, _, _, (acallAt_row (htxt 1 (by omega) (bad || !okN names (t.kid 0))) (by simp [PureL]) (by simp [PureL, pure_dtree, Pure]) (pure_wrow _ _) (pure_wrow _ _) (by simp [Pure]) (H := [.row true (wrow names (bad || !okN names (t.kid 0))), .row true (drow t)]) (id := 0) rfl), ?_⟩))); ((conv => whnf); repeat (refine And.intro rfl ?_; (conv => whnf))))
      refine ⟨by simp only [ByteArray.size_append, size_mk, List.size_toArray, List.length_cons, List.length_nil]; omega, ?_⟩
      ((conv => whnf); repeat (refine And.intro rfl ?_; (conv => whnf)))
      refine ⟨by simp only [ByteArray.size_append, size_mk, List.size_toArray, List.length_cons, List.length_nil]; omega, ?_⟩
      ((conv => whnf); repeat (refine And.intro rfl ?_; (conv => whnf)))
      exact fin (by rw [(two hw).1, hk, e0, e1]; rfl) (two hw).2.symm
    have hw : t.width = 1 := by ((try simp only [bne_iff_ne, ne_eq, bne_eq_false_iff_eq, beq_iff_eq, beq_eq_false_iff_ne, decide_eq_true_eq, decide_eq_false_iff_not, List.length_map, Bool.not_eq_true, Bool.not_eq_false, Bool.and_eq_true, Bool.or_eq_true, Bool.and_eq_false_iff, Bool.or_eq_false_iff, Bool.not_eq_true', Bool.not_eq_false', Bool.not_true, Bool.not_false, Bool.not_eq_eq_eq_not, not_true_eq_false, not_false_eq_true, reduceCtorEq, Bool.true_or, Bool.false_or, Bool.or_true, Bool.or_false, Bool.true_and, Bool.and_true, Bool.false_and, Bool.and_false, true_and, and_true, or_false, false_or, true_or, or_true, false_and, and_false, Bool.true_eq_false, Bool.false_eq_true] at *) <;> omega)
    have k0 := ksz 0 (by omega)
    have e1 := txtC_1 names hw
    have e2 := okN_1 names hw (by ((try simp only [bne_iff_ne, ne_eq, bne_eq_false_iff_eq, beq_iff_eq, beq_eq_false_iff_ne, decide_eq_true_eq, decide_eq_false_iff_not, List.length_map, Bool.not_eq_true, Bool.not_eq_false, Bool.and_eq_true, Bool.or_eq_true, Bool.and_eq_false_iff, Bool.or_eq_false_iff, Bool.not_eq_true', Bool.not_eq_false', Bool.not_true, Bool.not_false, Bool.not_eq_eq_eq_not, not_true_eq_false, not_false_eq_true, reduceCtorEq, Bool.true_or, Bool.false_or, Bool.or_true, Bool.or_false, Bool.true_and, Bool.and_true, Bool.false_and, Bool.and_false, true_and, and_true, or_false, false_or, true_or, or_true, false_and, and_false, Bool.true_eq_false, Bool.false_eq_true] at *) <;> omega))
    have hk : t.kind = 4 ∨ t.kind = 7 ∨ t.kind = 8 ∨ t.kind = 9 ∨ t.kind = 11 ∨ t.kind = 12 ∨ t.kind = 13 := by ((try simp only [bne_iff_ne, ne_eq, bne_eq_false_iff_eq, beq_iff_eq, beq_eq_false_iff_ne, decide_eq_true_eq, decide_eq_false_iff_not, List.length_map, Bool.not_eq_true, Bool.not_eq_false, Bool.and_eq_true, Bool.or_eq_true, Bool.and_eq_false_iff, Bool.or_eq_false_iff, Bool.not_eq_true', Bool.not_eq_false', Bool.not_true, Bool.not_false, Bool.not_eq_eq_eq_not, not_true_eq_false, not_false_eq_true, reduceCtorEq, Bool.true_or, Bool.false_or, Bool.or_true, Bool.or_false, Bool.true_and, Bool.and_true, Bool.false_and, Bool.and_false, true_and, and_true, or_false, false_or, true_or, or_true, false_and, and_false, Bool.true_eq_false, Bool.false_eq_true] at *) <;> omega)
    have A0 := acallAt_row (hkid 0 (by omega) (by omega) bad) (by simp [PureL]) (by simp [PureL, pure_dtree, Pure]) (pure_wrow _ _) (pure_wrow _ _) (by simp [Pure]) (H := [.row true (wrow names bad), .row true (drow t)]) (id := 0) rfl
    rcases hk with hk | hk | hk | hk | hk | hk | hk
    · (refine .inl ⟨_, (by rw [hk]; exact ctl_sign4), ?_⟩; ((conv => whnf); repeat (refine And.intro rfl ?_; (conv => whnf))))
      (refine .inr (.inr (.inr (.inr ⟨_, _, _, A0, ?_⟩))); ((conv => whnf); repeat (refine And.intro rfl ?_; (conv => whnf))))
      refine ⟨by simp only [ByteArray.size_append, size_mk, List.size_toArray, List.length_cons, List.length_nil]; omega, ?_⟩
      ((conv => whnf); repeat (refine And.intro rfl ?_; (conv => whnf)))
      exact fin (by rw [e1, hk]; rfl) (by rw [e2])
    · (refine .inl ⟨_, (by rw [hk]; exact ctl_sign7), ?_⟩; ((conv => whnf); repeat (refine And.intro rfl ?_; (conv => whnf))))
      (refine .inr (.inr (.inr (.inr ⟨_, _, _, A0, ?_⟩))); ((conv => whnf); repeat (refine And.intro rfl ?_; (conv => whnf))))
      refine ⟨by simp only [ByteArray.size_append, size_mk, List.size_toArray, List.length_cons, List.length_nil]; omega, ?_⟩
      ((conv => whnf); repeat (refine And.intro rfl ?_; (conv => whnf)))
      exact fin (by rw [e1, hk]; rfl) (by rw [e2])
    · (refine .inl ⟨_, (by rw [hk]; exact ctl_sign8), ?_⟩; ((conv => whnf); repeat (refine And.intro rfl ?_; (conv => whnf))))
      (refine .inr (.inr (.inr (.inr ⟨_, _, _, A0, ?_⟩))); ((conv => whnf); repeat (refine And.intro rfl ?_; (conv => whnf))))
      refine ⟨by simp only [ByteArray.size_append, size_mk, List.size_toArray, List.length_cons, List.length_nil]; omega, ?_⟩
      ((conv => whnf); repeat (refine And.intro rfl ?_; (conv => whnf)))
      exact fin (by rw [e1, hk]; rfl) (by rw [e2])
    · (refine .inl ⟨_, (by rw [hk]; exact ctl_sign9), ?_⟩; ((conv => whnf); repeat (refine And.intro rfl ?_; (conv => whnf))))
      (refine .inr (.inr (.inr (.inr ⟨_, _, _, A0, ?_⟩))); ((conv => whnf); repeat (refine And.intro rfl ?_; (conv => whnf))))
      refine ⟨by simp only [ByteArray.size_append, size_mk, List.size_toArray, List.length_cons, List.length_nil]; omega, ?_⟩
      ((conv => whnf); repeat (refine And.intro rfl ?_; (conv => whnf)))
      exact fin (by rw [e1, hk]; rfl) (by rw [e2])
    · (refine .inl ⟨_, (by rw [hk]; exact ctl_sign11), ?_⟩; ((conv => whnf); repeat (refine And.intro rfl ?_; (conv => whnf))))
      (refine .inr (.inr (.inr (.inr ⟨_, _, _, A0, ?_⟩))); ((conv => whnf); repeat (refine And.intro rfl ?_; (conv => whnf))))
      refine ⟨by simp only [ByteArray.size_append, size_mk, List.size_toArray, List.length_cons, List.length_nil]; omega, ?_⟩
      ((conv => whnf); repeat (refine And.intro rfl ?_; (conv => whnf)))
      exact fin (by rw [e1, hk]; rfl) (by rw [e2])
    · (refine .inl ⟨_, (by rw [hk]; exact ctl_sign12), ?_⟩; ((conv => whnf); repeat (refine And.intro rfl ?_; (conv => whnf))))
      (refine .inr (.inr (.inr (.inr ⟨_, _, _, A0, ?_⟩))); ((conv => whnf); repeat (refine And.intro rfl ?_; (conv => whnf))))
      refine ⟨by simp only [ByteArray.size_append, size_mk, List.size_toArray, List.length_cons, List.length_nil]; omega, ?_⟩
      ((conv => whnf); repeat (refine And.intro rfl ?_; (conv => whnf)))
      exact fin (by rw [e1, hk]; rfl) (by rw [e2])
    · (refine .inl ⟨_, (by rw [hk]; exact ctl_sign13), ?_⟩; ((conv => whnf); repeat (refine And.intro rfl ?_; (conv => whnf))))
      (refine .inr (.inr (.inr (.inr ⟨_, _, _, A0, ?_⟩))); ((conv => whnf); repeat (refine And.intro rfl ?_; (conv => whnf))))
      refine ⟨by simp only [ByteArray.size_append, size_mk, List.size_toArray, List.length_cons, List.length_nil]; omega, ?_⟩
      ((conv => whnf); repeat (refine And.intro rfl ?_; (conv => whnf)))
      exact fin (by rw [e1, hk]; rfl) (by rw [e2])
def c35 : PC := .seq (.ops [⟨(some 2), .box (.tmp 0), none, 0⟩,
    ⟨(some 4), .move (.const (.string ⟨#[]⟩)), none, 0⟩,
    ⟨(some 5), .move (.const (.int .i64 0)), none, 0⟩] false) (.seq (.seq (.ops [⟨(some 9), .loadA 3 (.tmp 2), none, 0⟩,
    ⟨(some 10), .call 36 [(.tmp 9)], none, 0⟩,
    ⟨(some 6), .move (.tmp 10), none, 0⟩] false) (.seq (.ops [⟨(some 11), .move (.tmp 6), none, 0⟩,
    ⟨(some 12), .bin .neq (.tmp 11) (.const (.int .i64 0)), none, 0⟩] false) (.cond (.tmp 12) (.seq (.ops [⟨(some 13), .move (.tmp 6), none, 0⟩,
    ⟨(some 4), .move (.const (.string ⟨#[]⟩)), none, 0⟩,
    ⟨(some 5), .move (.tmp 13), none, 0⟩] false) (.ret)) (.skip)))) (.seq (.ops [⟨(some 14), .move (.tmp 1), none, 0⟩,
    ⟨(some 15), .build [(.slice none 0 0), (.bool false)] [(0, 1, (.tmp 14))], none, 0⟩,
    ⟨(some 16), .box (.tmp 15), none, 0⟩,
    ⟨(some 7), .move (.tmp 16), none, 0⟩] false) (.seq (.ops [⟨(some 17), .move (.tmp 7), none, 0⟩,
    ⟨(some 18), .loadA 3 (.tmp 2), none, 0⟩,
    ⟨(some 19), .call 73 [(.tmp 17), (.tmp 18)], none, 0⟩,
    ⟨(some 8), .move (.tmp 19), none, 0⟩] false) (.seq (.seq (.ops [⟨(some 20), .move (.tmp 7), none, 0⟩,
    ⟨(some 21), .nilchk (.tmp 20), none, 0⟩,
    ⟨(some 22), .faddr 1 (.tmp 21), none, 0⟩,
    ⟨(some 23), .load1 (.tmp 22), none, 0⟩] false) (.cond (.tmp 23) (.seq (.ops [⟨(some 4), .move (.const (.string ⟨#[]⟩)), none, 0⟩,
    ⟨(some 5), .move (.const (.int .i64 4)), none, 0⟩] false) (.ret)) (.skip))) (.seq (.ops [⟨(some 24), .move (.tmp 8), none, 0⟩,
    ⟨(some 4), .move (.tmp 24), none, 0⟩,
    ⟨(some 5), .move (.const (.int .i64 0)), none, 0⟩] false) (.ret))))))
set_option maxRecDepth 100000 in
theorem c35_ok : FunOK Try.prog 35 25 [.tmp 4, .tmp 5] c35 := ⟨⟨Try.f35, Try.func35, rfl, by kernel_rfl, rfl, by kernel_rfl⟩⟩
/-- What a printer answers. -/
noncomputable def printedC (names : List ByteArray) (t : Tree) : D :=
  if chk cKids t = 0 then (if okN names t then .tup [.sc (.string (txtC names t)), .sc (.int .i64 0)] else .tup [.sc (.string ⟨#[]⟩), .sc (.int .i64 4)]) else .tup [.sc (.string ⟨#[]⟩), .sc (.int .i64 (chk cKids t))]
theorem ctl_Print (names : List ByteArray) (hn : SmallS names) (t : Tree) (hs : Small t) : PCall Try.prog 35 [dtree t, dstrs names] (printedC names t) := by
  refine pcall_intro c35_ok (by simp) (by simp [PureL, pure_dtree, pure_dstrs]) ?_ (by unfold printedC; (repeat' split) <;> simp [Pure, PureL])
  (apply red_sound; focus (repeat' (first | exact Red.skip | exact Red.ret | exact RedO.nil | exact RedD.nil | exact Red.exit _ | exact Red.loop _ | exact Red.stop _ | apply Red.ops | apply Red.draw | apply Red.seq | apply Red.cond | apply Red.block | apply RedO.cons | apply RedD.cons | exact (0 : Nat))))
  ((conv => whnf); repeat (refine And.intro rfl ?_; (conv => whnf)))
  (refine .inl ⟨_, (ctl_Check t hs), ?_⟩; ((conv => whnf); repeat (refine And.intro rfl ?_; (conv => whnf))))
  (refine ifK_split (fun h1 => ?_) (fun h1 => ?_) <;> (rw [h1]; ((conv => whnf); repeat (refine And.intro rfl ?_; (conv => whnf)))))
  · have h : ¬ chk cKids t = 0 := by ((try simp only [bne_iff_ne, ne_eq, bne_eq_false_iff_eq, beq_iff_eq, beq_eq_false_iff_ne, decide_eq_true_eq, decide_eq_false_iff_not, List.length_map, Bool.not_eq_true, Bool.not_eq_false, Bool.and_eq_true, Bool.or_eq_true, Bool.and_eq_false_iff, Bool.or_eq_false_iff, Bool.not_eq_true', Bool.not_eq_false', Bool.not_true, Bool.not_false, Bool.not_eq_eq_eq_not, not_true_eq_false, not_false_eq_true, reduceCtorEq, Bool.true_or, Bool.false_or, Bool.or_true, Bool.or_false, Bool.true_and, Bool.and_true, Bool.false_and, Bool.and_false, true_and, and_true, or_false, false_or, true_or, or_true, false_and, and_false, Bool.true_eq_false, Bool.false_eq_true] at *) <;> omega)
    unfold printedC
    rw [if_neg h]
    (repeat' (first | exact Deep.refl _ | exact Deep.none _ | exact deep_row _ | exact DeepL.nil | exact DeepLL.nil | refine Deep.agg _ _ ?_ | refine Deep.tup _ _ ?_ | refine Deep.own _ _ _ _ _ _ _ _ rfl ?_ | refine Deep.loc _ _ _ _ _ rfl ?_ | refine Deep.ifc _ _ _ ?_ | refine DeepL.cons _ _ _ _ ?_ ?_ | refine DeepLL.cons _ _ _ _ ?_ ?_))
  · have h : chk cKids t = 0 := by ((try simp only [bne_iff_ne, ne_eq, bne_eq_false_iff_eq, beq_iff_eq, beq_eq_false_iff_ne, decide_eq_true_eq, decide_eq_false_iff_not, List.length_map, Bool.not_eq_true, Bool.not_eq_false, Bool.and_eq_true, Bool.or_eq_true, Bool.and_eq_false_iff, Bool.or_eq_false_iff, Bool.not_eq_true', Bool.not_eq_false', Bool.not_true, Bool.not_false, Bool.not_eq_eq_eq_not, not_true_eq_false, not_false_eq_true, reduceCtorEq, Bool.true_or, Bool.false_or, Bool.or_true, Bool.or_false, Bool.true_and, Bool.and_true, Bool.false_and, Bool.and_false, true_and, and_true, or_false, false_or, true_or, or_true, false_and, and_false, Bool.true_eq_false, Bool.false_eq_true] at *) <;> omega)
    have hz := (chk_zero _ _).1 h
    unfold printedC
    rw [if_pos h]
    (refine .inr (.inr (.inl ⟨rfl, _, _, (acall_row (ctl_text names hn t hz.2.2 hz.1 false) (by simp [PureL]) (by simp [PureL, pure_dtree]) (pure_wrow _ _) (pure_wrow _ _) (by simp [Pure]) (H := [.row true (drow t), .row true (wrow names false)]) (id := 1) rfl), ?_⟩)); ((conv => whnf); repeat (refine And.intro rfl ?_; (conv => whnf))))
    cases hk : okN names t
    · ((conv => whnf); repeat (refine And.intro rfl ?_; (conv => whnf)))
      (repeat' (first | exact Deep.refl _ | exact Deep.none _ | exact deep_row _ | exact DeepL.nil | exact DeepLL.nil | refine Deep.agg _ _ ?_ | refine Deep.tup _ _ ?_ | refine Deep.own _ _ _ _ _ _ _ _ rfl ?_ | refine Deep.loc _ _ _ _ _ rfl ?_ | refine Deep.ifc _ _ _ ?_ | refine DeepL.cons _ _ _ _ ?_ ?_ | refine DeepLL.cons _ _ _ _ ?_ ?_))
    · ((conv => whnf); repeat (refine And.intro rfl ?_; (conv => whnf)))
      (repeat' (first | exact Deep.refl _ | exact Deep.none _ | exact deep_row _ | exact DeepL.nil | exact DeepLL.nil | refine Deep.agg _ _ ?_ | refine Deep.tup _ _ ?_ | refine Deep.own _ _ _ _ _ _ _ _ rfl ?_ | refine Deep.loc _ _ _ _ _ rfl ?_ | refine Deep.ifc _ _ _ ?_ | refine DeepL.cons _ _ _ _ ?_ ?_ | refine DeepLL.cons _ _ _ _ ?_ ?_))
def c37_1 : PC := .seq (.seq (.ops [⟨(some 13), .move (.tmp 7), none, 0⟩,
    ⟨(some 14), .faddr 2 (.tmp 2), none, 0⟩,
    ⟨(some 15), .load1 (.tmp 14), none, 0⟩,
    ⟨(some 16), .len (.tmp 15), none, 0⟩,
    ⟨(some 17), .bin .lss (.tmp 13) (.tmp 16), none, 0⟩] false) (.cond (.tmp 17) (.skip) (.exit 0))) (.seq (.block 1 (.seq (.ops [⟨(some 20), .faddr 2 (.tmp 2), none, 0⟩,
    ⟨(some 21), .load1 (.tmp 20), none, 0⟩,
    ⟨(some 22), .move (.tmp 7), none, 0⟩,
    ⟨(some 23), .iaddr 3 (.tmp 21) (.tmp 22), none, 0⟩,
    ⟨(some 24), .loadA 3 (.tmp 23), none, 0⟩,
    ⟨(some 8), .alloc [(.int .i64 0), (.int .i64 0), (.slice none 0 0)], none, 0⟩,
    ⟨none, .store 3 (.tmp 8) (.tmp 24), none, 0⟩] false) (.seq (.ops [⟨(some 26), .loadA 3 (.tmp 8), none, 0⟩,
    ⟨(some 27), .move (.tmp 1), none, 0⟩,
    ⟨(some 28), .call 37 [(.tmp 26), (.tmp 27)], none, 0⟩,
    ⟨(some 25), .move (.tmp 28), none, 0⟩,
    ⟨(some 29), .ext 0 (.tmp 25), none, 0⟩,
    ⟨(some 30), .ext 1 (.tmp 25), none, 0⟩,
    ⟨(some 9), .move (.tmp 29), none, 0⟩,
    ⟨(some 10), .move (.tmp 30), none, 0⟩] false) (.seq (.seq (.ops [⟨(some 31), .move (.tmp 10), none, 0⟩,
    ⟨(some 32), .un .not (.tmp 31), none, 0⟩] false) (.cond (.tmp 32) (.seq (.ops [⟨(some 4), .move (.const (.string ⟨#[]⟩)), none, 0⟩,
    ⟨(some 5), .move (.const (.bool false)), none, 0⟩] false) (.ret)) (.skip))) (.seq (.stop (.ops [⟨(some 33), .faddr 0 (.tmp 8), none, 0⟩,
    ⟨(some 34), .load1 (.tmp 33), none, 0⟩,
    ⟨(some 35), .bin .eql (.tmp 34) (.const (.int .i64 5)), none, 0⟩,
    ⟨(some 36), .move (.tmp 35), none, 0⟩,
    ⟨(some 37), .faddr 0 (.tmp 8), (some (36, false)), 0⟩,
    ⟨(some 38), .load1 (.tmp 37), (some (36, false)), 0⟩,
    ⟨(some 39), .bin .eql (.tmp 38) (.const (.int .i64 6)), (some (36, false)), 0⟩,
    ⟨(some 40), .pick (.tmp 36) (.const (.bool true)) (.tmp 39), none, 0⟩,
    ⟨(some 41), .move (.tmp 40), none, 0⟩,
    ⟨(some 42), .faddr 0 (.tmp 2), (some (41, true)), 0⟩,
    ⟨(some 43), .load1 (.tmp 42), (some (41, true)), 0⟩,
    ⟨(some 44), .bin .neq (.tmp 43) (.const (.int .i64 10)), (some (41, true)), 0⟩,
    ⟨(some 45), .pick (.tmp 41) (.tmp 44) (.const (.bool false)), none, 0⟩,
    ⟨(some 46), .move (.tmp 45), none, 0⟩,
    ⟨(some 47), .faddr 0 (.tmp 2), (some (46, true)), 0⟩,
    ⟨(some 48), .load1 (.tmp 47), (some (46, true)), 0⟩,
    ⟨(some 49), .bin .neq (.tmp 48) (.const (.int .i64 14)), (some (46, true)), 0⟩,
    ⟨(some 50), .pick (.tmp 46) (.tmp 49) (.const (.bool false)), none, 0⟩,
    ⟨(some 11), .move (.tmp 50), none, 0⟩] false)) (.seq (.seq (.stop (.ops [⟨(some 51), .move (.tmp 7), none, 0⟩,
    ⟨(some 52), .bin .eql (.tmp 51) (.const (.int .i64 0)), none, 0⟩,
    ⟨(some 53), .move (.tmp 52), none, 0⟩,
    ⟨(some 54), .faddr 0 (.tmp 8), (some (53, true)), 0⟩,
    ⟨(some 55), .load1 (.tmp 54), (some (53, true)), 0⟩,
    ⟨(some 56), .faddr 0 (.tmp 2), (some (53, true)), 0⟩,
    ⟨(some 57), .load1 (.tmp 56), (some (53, true)), 0⟩,
    ⟨(some 58), .bin .eql (.tmp 55) (.tmp 57), (some (53, true)), 0⟩,
    ⟨(some 59), .pick (.tmp 53) (.tmp 58) (.const (.bool false)), none, 0⟩,
    ⟨(some 60), .move (.tmp 59), none, 0⟩,
    ⟨(some 61), .faddr 0 (.tmp 2), (some (60, false)), 0⟩,
    ⟨(some 62), .load1 (.tmp 61), (some (60, false)), 0⟩,
    ⟨(some 63), .bin .eql (.tmp 62) (.const (.int .i64 6)), (some (60, false)), 0⟩,
    ⟨(some 64), .move (.tmp 63), (some (60, false)), 0⟩,
    ⟨(some 65), .faddr 0 (.tmp 8), (some (64, true)), 0⟩,
    ⟨(some 66), .load1 (.tmp 65), (some (64, true)), 0⟩,
    ⟨(some 67), .bin .eql (.tmp 66) (.const (.int .i64 5)), (some (64, true)), 0⟩,
    ⟨(some 68), .pick (.tmp 64) (.tmp 67) (.const (.bool false)), (some (60, false)), 0⟩,
    ⟨(some 69), .pick (.tmp 60) (.const (.bool true)) (.tmp 68), none, 0⟩] false)) (.cond (.tmp 69) (.ops [⟨(some 11), .move (.const (.bool false)), none, 0⟩] false) (.skip))) (.seq (.seq (.ops [⟨(some 70), .move (.tmp 11), none, 0⟩] false) (.cond (.tmp 70) (.ops [⟨(some 71), .move (.tmp 9), none, 0⟩,
    ⟨(some 72), .bin .add (.const (.string ⟨#[40]⟩)) (.tmp 71), none, 0⟩,
    ⟨(some 73), .bin .add (.tmp 72) (.const (.string ⟨#[41]⟩)), none, 0⟩,
    ⟨(some 9), .move (.tmp 73), none, 0⟩] false) (.skip))) (.ops [⟨(some 74), .move (.tmp 6), none, 0⟩,
    ⟨(some 75), .move (.tmp 9), none, 0⟩,
    ⟨(some 76), .bslice 1 1 [(.tmp 75)], none, 0⟩,
    ⟨(some 77), .append 1 16 (.tmp 74) (.tmp 76), none, 0⟩,
    ⟨(some 6), .move (.tmp 77), none, 0⟩] false)))))))) (.ops [⟨(some 18), .move (.tmp 7), none, 0⟩,
    ⟨(some 19), .bin .add (.tmp 18) (.const (.int .i64 1)), none, 0⟩,
    ⟨(some 7), .move (.tmp 19), none, 0⟩] false))
def c37 : PC := .seq (.ops [⟨(some 2), .box (.tmp 0), none, 0⟩,
    ⟨(some 4), .move (.const (.string ⟨#[]⟩)), none, 0⟩,
    ⟨(some 5), .move (.const (.bool false)), none, 0⟩] false) (.seq (.ops [⟨(some 6), .move (.const (.slice none 0 0)), none, 0⟩] false) (.seq (.seq (.ops [⟨(some 7), .move (.const (.int .i64 0)), none, 0⟩] false) (.block 0 (.loop c37_1))) (.seq (.seq (.ops [⟨(some 78), .faddr 0 (.tmp 2), none, 0⟩,
    ⟨(some 79), .load1 (.tmp 78), none, 0⟩] false) (.block 2 (.seq (.ops [⟨(some 81), .bin .eql (.tmp 79) (.const (.int .i64 1)), none, 0⟩,
    ⟨(some 80), .move (.tmp 81), none, 0⟩] false) (.cond (.tmp 80) (.seq (.ops [⟨(some 4), .move (.const (.string ⟨#[116, 114, 117, 101]⟩)), none, 0⟩,
    ⟨(some 5), .move (.const (.bool true)), none, 0⟩] false) (.ret)) (.seq (.ops [⟨(some 83), .bin .eql (.tmp 79) (.const (.int .i64 2)), none, 0⟩,
    ⟨(some 82), .move (.tmp 83), none, 0⟩] false) (.cond (.tmp 82) (.seq (.ops [⟨(some 4), .move (.const (.string ⟨#[102, 97, 108, 115, 101]⟩)), none, 0⟩,
    ⟨(some 5), .move (.const (.bool true)), none, 0⟩] false) (.ret)) (.seq (.ops [⟨(some 85), .bin .eql (.tmp 79) (.const (.int .i64 3)), none, 0⟩,
    ⟨(some 84), .move (.tmp 85), none, 0⟩] false) (.cond (.tmp 84) (.seq (.ops [⟨(some 86), .faddr 1 (.tmp 2), none, 0⟩,
    ⟨(some 87), .load1 (.tmp 86), none, 0⟩,
    ⟨(some 88), .move (.tmp 1), none, 0⟩,
    ⟨(some 89), .call 75 [(.tmp 87), (.tmp 88)], none, 0⟩,
    ⟨(some 12), .move (.tmp 89), none, 0⟩] false) (.seq (.ops [⟨(some 90), .move (.tmp 12), none, 0⟩,
    ⟨(some 91), .move (.tmp 12), none, 0⟩,
    ⟨(some 92), .bin .neq (.tmp 91) (.const (.string ⟨#[]⟩)), none, 0⟩,
    ⟨(some 4), .move (.tmp 90), none, 0⟩,
    ⟨(some 5), .move (.tmp 92), none, 0⟩] false) (.ret))) (.seq (.ops [⟨(some 94), .bin .eql (.tmp 79) (.const (.int .i64 5)), none, 0⟩,
    ⟨(some 93), .move (.tmp 94), none, 0⟩] false) (.cond (.tmp 93) (.seq (.ops [⟨(some 95), .move (.tmp 6), none, 0⟩,
    ⟨(some 96), .iaddr 1 (.tmp 95) (.const (.int .i64 0)), none, 1⟩,
    ⟨(some 97), .load1 (.tmp 96), none, 3⟩,
    ⟨(some 98), .bin .add (.tmp 97) (.const (.string ⟨#[32, 38, 32]⟩)), none, 7⟩,
    ⟨(some 99), .move (.tmp 6), none, 0⟩,
    ⟨(some 100), .iaddr 1 (.tmp 99) (.const (.int .i64 1)), none, 16⟩,
    ⟨(some 101), .load1 (.tmp 100), none, 48⟩,
    ⟨(some 102), .bin .add (.tmp 98) (.tmp 101), none, 127⟩,
    ⟨(some 4), .move (.tmp 102), none, 255⟩,
    ⟨(some 5), .move (.const (.bool true)), none, 511⟩] true) (.ret)) (.seq (.ops [⟨(some 104), .bin .eql (.tmp 79) (.const (.int .i64 6)), none, 0⟩,
    ⟨(some 103), .move (.tmp 104), none, 0⟩] false) (.cond (.tmp 103) (.seq (.ops [⟨(some 105), .move (.tmp 6), none, 0⟩,
    ⟨(some 106), .iaddr 1 (.tmp 105) (.const (.int .i64 0)), none, 1⟩,
    ⟨(some 107), .load1 (.tmp 106), none, 3⟩,
    ⟨(some 108), .bin .add (.tmp 107) (.const (.string ⟨#[32, 47, 32]⟩)), none, 7⟩,
    ⟨(some 109), .move (.tmp 6), none, 0⟩,
    ⟨(some 110), .iaddr 1 (.tmp 109) (.const (.int .i64 1)), none, 16⟩,
    ⟨(some 111), .load1 (.tmp 110), none, 48⟩,
    ⟨(some 112), .bin .add (.tmp 108) (.tmp 111), none, 127⟩,
    ⟨(some 4), .move (.tmp 112), none, 255⟩,
    ⟨(some 5), .move (.const (.bool true)), none, 511⟩] true) (.ret)) (.seq (.ops [⟨(some 114), .bin .eql (.tmp 79) (.const (.int .i64 10)), none, 0⟩,
    ⟨(some 113), .move (.tmp 114), none, 0⟩] false) (.cond (.tmp 113) (.seq (.ops [⟨(some 115), .move (.tmp 6), none, 0⟩,
    ⟨(some 116), .iaddr 1 (.tmp 115) (.const (.int .i64 0)), none, 1⟩,
    ⟨(some 117), .load1 (.tmp 116), none, 3⟩,
    ⟨(some 118), .bin .add (.const (.string ⟨#[69, 32, 91]⟩)) (.tmp 117), none, 7⟩,
    ⟨(some 119), .bin .add (.tmp 118) (.const (.string ⟨#[32, 85, 32]⟩)), none, 15⟩,
    ⟨(some 120), .move (.tmp 6), none, 0⟩,
    ⟨(some 121), .iaddr 1 (.tmp 120) (.const (.int .i64 1)), none, 32⟩,
    ⟨(some 122), .load1 (.tmp 121), none, 96⟩,
    ⟨(some 123), .bin .add (.tmp 119) (.tmp 122), none, 255⟩,
    ⟨(some 124), .bin .add (.tmp 123) (.const (.string ⟨#[93]⟩)), none, 511⟩,
    ⟨(some 4), .move (.tmp 124), none, 1023⟩,
    ⟨(some 5), .move (.const (.bool true)), none, 2047⟩] true) (.ret)) (.seq (.ops [⟨(some 126), .bin .eql (.tmp 79) (.const (.int .i64 14)), none, 0⟩,
    ⟨(some 125), .move (.tmp 126), none, 0⟩] false) (.cond (.tmp 125) (.seq (.ops [⟨(some 127), .move (.tmp 6), none, 0⟩,
    ⟨(some 128), .iaddr 1 (.tmp 127) (.const (.int .i64 0)), none, 1⟩,
    ⟨(some 129), .load1 (.tmp 128), none, 3⟩,
    ⟨(some 130), .bin .add (.const (.string ⟨#[65, 32, 91]⟩)) (.tmp 129), none, 7⟩,
    ⟨(some 131), .bin .add (.tmp 130) (.const (.string ⟨#[32, 85, 32]⟩)), none, 15⟩,
    ⟨(some 132), .move (.tmp 6), none, 0⟩,
    ⟨(some 133), .iaddr 1 (.tmp 132) (.const (.int .i64 1)), none, 32⟩,
    ⟨(some 134), .load1 (.tmp 133), none, 96⟩,
    ⟨(some 135), .bin .add (.tmp 131) (.tmp 134), none, 255⟩,
    ⟨(some 136), .bin .add (.tmp 135) (.const (.string ⟨#[93]⟩)), none, 511⟩,
    ⟨(some 4), .move (.tmp 136), none, 1023⟩,
    ⟨(some 5), .move (.const (.bool true)), none, 2047⟩] true) (.ret)) (.seq (.ops [⟨(some 138), .bin .eql (.tmp 79) (.const (.int .i64 4)), none, 0⟩,
    ⟨(some 137), .move (.tmp 138), none, 0⟩] false) (.cond (.tmp 137) (.seq (.ops [⟨(some 139), .move (.tmp 6), none, 0⟩,
    ⟨(some 140), .iaddr 1 (.tmp 139) (.const (.int .i64 0)), none, 0⟩,
    ⟨(some 141), .load1 (.tmp 140), none, 0⟩,
    ⟨(some 142), .bin .add (.const (.string ⟨#[33]⟩)) (.tmp 141), none, 0⟩,
    ⟨(some 4), .move (.tmp 142), none, 0⟩,
    ⟨(some 5), .move (.const (.bool true)), none, 0⟩] false) (.ret)) (.skip))))))))))))))))))) (.seq (.ops [⟨(some 143), .build [(.string ⟨#[]⟩), (.string ⟨#[]⟩), (.string ⟨#[]⟩), (.string ⟨#[]⟩), (.string ⟨#[]⟩), (.string ⟨#[]⟩), (.string ⟨#[]⟩), (.string ⟨#[]⟩), (.string ⟨#[]⟩), (.string ⟨#[]⟩), (.string ⟨#[]⟩), (.string ⟨#[]⟩), (.string ⟨#[]⟩), (.string ⟨#[]⟩)] [(7, 1, (.const (.string ⟨#[69, 88, 32]⟩))), (8, 1, (.const (.string ⟨#[69, 70, 32]⟩))), (9, 1, (.const (.string ⟨#[69, 71, 32]⟩))), (11, 1, (.const (.string ⟨#[65, 88, 32]⟩))), (12, 1, (.const (.string ⟨#[65, 70, 32]⟩))), (13, 1, (.const (.string ⟨#[65, 71, 32]⟩)))], none, 0⟩,
    ⟨(some 144), .faddr 0 (.tmp 2), none, 0⟩,
    ⟨(some 145), .load1 (.tmp 144), none, 2⟩,
    ⟨(some 146), .aidx 14 1 false (.tmp 143) (.tmp 145), none, 7⟩,
    ⟨(some 147), .move (.tmp 6), none, 0⟩,
    ⟨(some 148), .iaddr 1 (.tmp 147) (.const (.int .i64 0)), none, 16⟩,
    ⟨(some 149), .load1 (.tmp 148), none, 48⟩,
    ⟨(some 150), .bin .add (.tmp 146) (.tmp 149), none, 127⟩,
    ⟨(some 4), .move (.tmp 150), none, 255⟩,
    ⟨(some 5), .move (.const (.bool true)), none, 511⟩] true) (.ret)))))
set_option maxRecDepth 100000 in
theorem c37_ok : FunOK Try.prog 37 151 [.tmp 4, .tmp 5] c37 := ⟨⟨Try.f37, Try.func37, rfl, by kernel_rfl, rfl, by kernel_rfl⟩⟩
def kidsToC (names : List ByteArray) (t : Tree) (k : Nat) : List (List D) := (List.range k).map fun j => [.sc (.string (kidSC names t j))]
theorem kidsToC_at {names : List ByteArray} {t : Tree} {k j : Nat} (h : j < k) : (kidsToC names t k)[j]? = some [.sc (.string (kidSC names t j))] := by
  simp [kidsToC, List.getElem?_map, List.getElem?_range h]
@[simp] theorem kidsToC_len (names : List ByteArray) (t : Tree) (k : Nat) : (kidsToC names t k).length = k := by simp [kidsToC]
theorem kidsToC_succ (names : List ByteArray) (t : Tree) (k : Nat) : List.drop 0 (List.take k (kidsToC names t k)) ++ [[.sc (.string (kidSC names t k))]] = kidsToC names t (k + 1) := by
  rw [List.drop_zero, List.take_of_length_le (by simp)]
  simp [kidsToC, List.range_succ]
theorem pure_kidsToC (names : List ByteArray) (t : Tree) (k : Nat) : PureLL (kidsToC names t k) := pureLL_map _ (fun j => by simp [PureL, Pure]) _
def saidC (names : List ByteArray) (t : Tree) : D := .tup [.sc (.string (if okN names t then txtC names t else ⟨#[]⟩)), .sc (.bool (okN names t))]
theorem ref_CtlText (names : List ByteArray) (hn : SmallS names) : ∀ t : Tree, t.wf cKids → t.size ≤ 60 → PCall Try.prog 37 [dtree t, dstrs names] (saidC names t) := by
  intro t
  induction t using Tree.ind with
  | h t ih =>
    intro hwf hsz
    have hs := cwf_small t hwf
    have hwd := hs.width
    have har := c_arity ((wf_iff _ _).1 hwf).1
    have hnum : 0 ≤ t.num := by have := ((wf_iff _ _).1 hwf).1; unfold oddNode at this; omega
    have tsz : ∀ j, j < t.width → (txtC names (t.kid j)).size ≤ 720 ∧ (t.kid j).size ≤ 60 := fun j hj => by
      have h1 := txtC_size names (t.kid j)
      have h2 := size_kid hj
      omega
    have ksz : ∀ j, j < t.width → (kidSC names t j).size ≤ 722 := fun j hj => by
      have := wrap_size (bareC t.kind j (t.kid j).kind) (txtC names (t.kid j))
      have := tsz j hj
      unfold kidSC
      omega
    refine pcall_intro c37_ok (by simp) (by simp [PureL, pure_dtree, pure_dstrs]) ?_ (by simp [saidC, Pure, PureL])
    (apply red_sound; focus (repeat' (first | exact Red.skip | exact Red.ret | exact RedO.nil | exact RedD.nil | exact Red.exit _ | exact Red.loop _ | exact Red.stop _ | apply Red.ops | apply Red.draw | apply Red.seq | apply Red.cond | apply Red.block | apply RedO.cons | apply RedD.cons | exact (0 : Nat))))
    ((conv => whnf); repeat (refine And.intro rfl ?_; (conv => whnf)))
    have bad : ∀ {j : Nat}, j < t.width → okN names (t.kid j) = false → okN names t = false := fun {j} hj h => by
      rw [okN_eq]
      simp only [Bool.and_eq_false_iff]
      refine .inr (List.all_eq_false.2 ⟨t.kid j, by rw [Tree.kid_get hj]; exact List.getElem_mem _, by simp [h]⟩)
    refine pwp_loopB (fun k : Nat => [(1, dstrs names), (2, .loc 0 0), (6, .own 1 k 0 k), (7, .sc (.int .i64 k))])
      (fun k => [.row true (drow t), .vec true k 1 (kidsToC names t k)])
      (fun k => k ≤ t.width ∧ ∀ j, j < k → okN names (t.kid j) = true) (fun k => t.width - k) 0 ⟨by omega, fun j h => by omega⟩ (leB_trans (leB_nil 6 1 (by simp) rfl) (leB_env ⟨rfl, rfl, rfl, rfl, trivial⟩)) ?_
    rintro k ⟨hk, hall⟩
    (apply red_sound; focus (repeat' (first | exact Red.skip | exact Red.ret | exact RedO.nil | exact RedD.nil | exact Red.exit _ | exact Red.loop _ | exact Red.stop _ | apply Red.ops | apply Red.draw | apply Red.seq | apply Red.cond | apply Red.block | apply RedO.cons | apply RedD.cons | exact (0 : Nat))))
    ((conv => whnf); repeat (refine And.intro rfl ?_; (conv => whnf)))
    (refine ifK_split (fun h1 => ?_) (fun h1 => ?_) <;> (rw [h1]; ((conv => whnf); repeat (refine And.intro rfl ?_; (conv => whnf)))))
    · have hk' : k < t.width := by simpa [Tree.width] using h1
      refine ⟨by omega, _, kid_at hk', ?_⟩
      ((conv => whnf); repeat (refine And.intro rfl ?_; (conv => whnf)))
      have ihk := ih k hk' (wf_kid hwf hk') (tsz k hk').2
      cases hok : okN names (t.kid k)
      · simp only [saidC, hok] at ihk
        (refine .inl ⟨_, ihk, ?_⟩; ((conv => whnf); repeat (refine And.intro rfl ?_; (conv => whnf))))
        have := bad hk' hok
        exact deep_eq (by simp only [saidC, this]; rfl)
      simp only [saidC, hok, if_true] at ihk
      (refine .inl ⟨_, ihk, ?_⟩; ((conv => whnf); repeat (refine And.intro rfl ?_; (conv => whnf))))
      have tk := tsz k hk'
      have kk := ksz k hk'
      refine pwp_cut (fun _ : Unit => [(1, dstrs names), (2, .loc 0 0), (6, .own 1 k 0 k), (7, .sc (.int .i64 k)), (8, .loc 2 0), (9, .sc (.string (txtC names (t.kid k)))), (11, .sc (.bool (decide (((t.kid k).kind = 5 ∨ (t.kid k).kind = 6) ∧ t.kind ≠ 10 ∧ t.kind ≠ 14))))])
        (fun _ => [.row true (drow t), .vec true k 1 (kidsToC names t k), .row true (drow (t.kid k))]) (fun _ => True) ?_ ?_
      · (apply red_sound; focus (repeat' (first | exact Red.skip | exact Red.ret | exact RedO.nil | exact RedD.nil | exact Red.exit _ | exact Red.loop _ | exact Red.stop _ | apply Red.ops | apply Red.draw | apply Red.seq | apply Red.cond | apply Red.block | apply RedO.cons | apply RedD.cons | exact (0 : Nat))))
        ((conv => whnf); repeat (refine And.intro rfl ?_; (conv => whnf)))
        repeat' (first
          | (first | (refine ifK_t ‹_› ?_; ((conv => whnf); repeat (refine And.intro rfl ?_; (conv => whnf)))) | (refine ifK_f ‹_› ?_; ((conv => whnf); repeat (refine And.intro rfl ?_; (conv => whnf)))) | (refine ifK_split (fun h => ?_) (fun h => ?_) <;> (rw [h]; ((conv => whnf); repeat (refine And.intro rfl ?_; (conv => whnf))))))
          | exact ⟨(), trivial, leB_env ⟨rfl, rfl, rfl, rfl, rfl, rfl, congrArg (fun b => D.sc (.bool b)) (by simp_all <;> rfl), trivial⟩⟩)
      rintro _ _
      ((conv => whnf); repeat (refine And.intro rfl ?_; (conv => whnf)))
      refine pwp_cut (fun _ : Unit => [(1, dstrs names), (2, .loc 0 0), (6, .own 1 k 0 k), (7, .sc (.int .i64 k)), (8, .loc 2 0), (9, .sc (.string (txtC names (t.kid k)))), (11, .sc (.bool (decide (((t.kid k).kind = 5 ∨ (t.kid k).kind = 6) ∧ t.kind ≠ 10 ∧ t.kind ≠ 14)))),
          (69, .sc (.bool (decide ((k = 0 ∧ (t.kid k).kind = t.kind) ∨ (t.kind = 6 ∧ (t.kid k).kind = 5)))))])
        (fun _ => [.row true (drow t), .vec true k 1 (kidsToC names t k), .row true (drow (t.kid k))]) (fun _ => True) ?_ ?_
      · (apply red_sound; focus (repeat' (first | exact Red.skip | exact Red.ret | exact RedO.nil | exact RedD.nil | exact Red.exit _ | exact Red.loop _ | exact Red.stop _ | apply Red.ops | apply Red.draw | apply Red.seq | apply Red.cond | apply Red.block | apply RedO.cons | apply RedD.cons | exact (0 : Nat))))
        ((conv => whnf); repeat (refine And.intro rfl ?_; (conv => whnf)))
        have e0 : ((k : Int) == 0) = decide (k = 0) := by rw [Bool.eq_iff_iff]; simp
        have e1 : ((k : Int) == 1) = decide (k = 1) := by rw [Bool.eq_iff_iff]; simp; omega
        repeat' (first
          | (first | (refine ifK_t ‹_› ?_; ((conv => whnf); repeat (refine And.intro rfl ?_; (conv => whnf)))) | (refine ifK_f ‹_› ?_; ((conv => whnf); repeat (refine And.intro rfl ?_; (conv => whnf)))) | (refine ifK_split (fun h => ?_) (fun h => ?_) <;> (rw [h]; ((conv => whnf); repeat (refine And.intro rfl ?_; (conv => whnf))))))
          | exact ⟨(), trivial, leB_env ⟨rfl, rfl, rfl, rfl, rfl, rfl, rfl, congrArg (fun b => D.sc (.bool b)) (by
              clear ih hall ihk tsz ksz bad
              rw [Bool.eq_iff_iff]
              simp only [beq_iff_eq, beq_eq_false_iff_ne, ne_eq, decide_eq_true_eq, Bool.false_eq_true, false_iff, true_iff] at *
              omega), trivial⟩⟩)
      rintro _ _
      ((conv => whnf); repeat (refine And.intro rfl ?_; (conv => whnf)))
      have bare : kidSC names t k = if bareC t.kind k (t.kid k).kind then txtC names (t.kid k) else ⟨#[40]⟩ ++ txtC names (t.kid k) ++ ⟨#[41]⟩ := rfl
      have fin : ∀ {s : ByteArray}, s = kidSC names t k → List.drop 0 (List.take k (kidsToC names t k)) ++ [[D.sc (.string s)]] = kidsToC names t (k + 1) := fun h => by rw [h, kidsToC_succ]
      have cond : ∀ {p : Prop} [Decidable p], decide p = true → p := fun h => by simpa using h
      have cond' : ∀ {p : Prop} [Decidable p], decide p = false → ¬ p := fun h => by simpa using h
      have eqs : ∀ b : Bool, bareC t.kind k (t.kid k).kind = b → kidSC names t k = if b then txtC names (t.kid k) else ⟨#[40]⟩ ++ txtC names (t.kid k) ++ ⟨#[41]⟩ := fun b h => by rw [bare, h]
      have hB : bareC t.kind k (t.kid k).kind = true ↔ ¬ (((t.kid k).kind = 5 ∨ (t.kid k).kind = 6) ∧ t.kind ≠ 10 ∧ t.kind ≠ 14) ∨ ((k = 0 ∧ (t.kid k).kind = t.kind) ∨ (t.kind = 6 ∧ (t.kid k).kind = 5)) := by
        unfold bareC bareC0
        clear ih hall ihk tsz ksz bad bare fin eqs cond cond'
        repeat' split
        all_goals
          simp only [Bool.or_eq_true, Bool.and_eq_true, beq_iff_eq, true_iff]
          omega
      have wrapped : ∀ {s : ByteArray}, s = kidSC names t k → s.size ≤ 722 := fun h => h ▸ kk
      (refine ifK_split (fun h5 => ?_) (fun h5 => ?_) <;> (rw [h5]; ((conv => whnf); repeat (refine And.intro rfl ?_; (conv => whnf)))))
      · have hs : txtC names (t.kid k) = kidSC names t k := by rw [eqs true (hB.2 (.inr (cond h5)))]; rfl
        refine ⟨by unfold sliceAppend; simp only [List.drop_zero, List.take_succ_cons, List.take_zero, List.length_cons, List.length_nil]; omega, ?_⟩
        ((conv => whnf); repeat (refine And.intro rfl ?_; (conv => whnf)))
        refine .inl ⟨by unfold InR; rw [IntKind.wrap_i64]; unfold Tree.width at *; omega, ?_⟩
        ((conv => whnf); repeat (refine And.intro rfl ?_; (conv => whnf)))
        exact ⟨k + 1, ⟨by omega, fun j hj => by by_cases e : j = k; subst e; exact hok; exact hall j (by omega)⟩, by dsimp only; omega, leB_close 2 (by simp) rfl ⟨.refl _, under_pure _ (pure_dstrs names), .refl _, by simp [Under], .refl _, by simp [Under], .refl _, by simp [Under], trivial⟩
          ⟨⟨rfl, .refl _, underL_pure _ (pure_drow t)⟩, ⟨rfl, rfl, rfl, deepMLL_eq (fin hs), underLL_pure _ (pure_kidsToC _ _ _)⟩, trivial⟩⟩
      (refine ifK_split (fun h6 => ?_) (fun h6 => ?_) <;> (rw [h6]; ((conv => whnf); repeat (refine And.intro rfl ?_; (conv => whnf)))))
      · have hs : ⟨#[40]⟩ ++ txtC names (t.kid k) ++ ⟨#[41]⟩ = kidSC names t k := by
          rw [eqs false (by rw [← Bool.not_eq_true, hB]; exact fun h => h.elim (fun h => h (cond h6)) (cond' h5))]; rfl
        refine ⟨by simp only [ByteArray.size_append, size_mk, List.size_toArray, List.length_cons, List.length_nil]; omega, ?_⟩
        ((conv => whnf); repeat (refine And.intro rfl ?_; (conv => whnf)))
        refine ⟨by simp only [ByteArray.size_append, size_mk, List.size_toArray, List.length_cons, List.length_nil]; omega, ?_⟩
        ((conv => whnf); repeat (refine And.intro rfl ?_; (conv => whnf)))
        refine ⟨by unfold sliceAppend; simp only [List.drop_zero, List.take_succ_cons, List.take_zero, List.length_cons, List.length_nil]; omega, ?_⟩
        ((conv => whnf); repeat (refine And.intro rfl ?_; (conv => whnf)))
        refine .inl ⟨by unfold InR; rw [IntKind.wrap_i64]; unfold Tree.width at *; omega, ?_⟩
        ((conv => whnf); repeat (refine And.intro rfl ?_; (conv => whnf)))
        exact ⟨k + 1, ⟨by omega, fun j hj => by by_cases e : j = k; subst e; exact hok; exact hall j (by omega)⟩, by dsimp only; omega, leB_close 2 (by simp) rfl ⟨.refl _, under_pure _ (pure_dstrs names), .refl _, by simp [Under], .refl _, by simp [Under], .refl _, by simp [Under], trivial⟩
          ⟨⟨rfl, .refl _, underL_pure _ (pure_drow t)⟩, ⟨rfl, rfl, rfl, deepMLL_eq (fin hs), underLL_pure _ (pure_kidsToC _ _ _)⟩, trivial⟩⟩
      · have hs : txtC names (t.kid k) = kidSC names t k := by rw [eqs true (hB.2 (.inl (cond' h6)))]; rfl
        refine ⟨by unfold sliceAppend; simp only [List.drop_zero, List.take_succ_cons, List.take_zero, List.length_cons, List.length_nil]; omega, ?_⟩
        ((conv => whnf); repeat (refine And.intro rfl ?_; (conv => whnf)))
        refine .inl ⟨by unfold InR; rw [IntKind.wrap_i64]; unfold Tree.width at *; omega, ?_⟩
        ((conv => whnf); repeat (refine And.intro rfl ?_; (conv => whnf)))
        exact ⟨k + 1, ⟨by omega, fun j hj => by by_cases e : j = k; subst e; exact hok; exact hall j (by omega)⟩, by dsimp only; omega, leB_close 2 (by simp) rfl ⟨.refl _, under_pure _ (pure_dstrs names), .refl _, by simp [Under], .refl _, by simp [Under], .refl _, by simp [Under], trivial⟩
          ⟨⟨rfl, .refl _, underL_pure _ (pure_drow t)⟩, ⟨rfl, rfl, rfl, deepMLL_eq (fin hs), underLL_pure _ (pure_kidsToC _ _ _)⟩, trivial⟩⟩
    · have hkw : k = t.width := by have : ¬ k < t.width := by simpa [Tree.width] using h1
                                   omega
      clear h1
      have good : t.kind ≠ 3 → okN names t = true := fun h3 => by
        rw [okN_eq]
        simp only [Bool.and_eq_true]
        refine ⟨by simp [okHead, h3], List.all_eq_true.2 fun u hu => ?_⟩
        obtain ⟨j, hj, rfl⟩ := List.mem_iff_getElem.1 hu
        have := hall j (by rw [hkw]; exact hj)
        rwa [Tree.kid_get hj] at this
      have fin : ∀ {H : List AObj} {s : ByteArray}, t.kind ≠ 3 → s = txtC names t → Deep H (.tup [.sc (.string s), .sc (.bool true)]) (saidC names t) := fun h3 h => by
        unfold saidC
        rw [good h3, h]
        exact .refl _
      (refine ifK_split (fun h1 => ?_) (fun h1 => ?_) <;> (rw [h1]; ((conv => whnf); repeat (refine And.intro rfl ?_; (conv => whnf)))))
      · have hk1 : t.kind = 1 := by ((try simp only [bne_iff_ne, ne_eq, bne_eq_false_iff_eq, beq_iff_eq, beq_eq_false_iff_ne, decide_eq_true_eq, decide_eq_false_iff_not, List.length_map, Bool.not_eq_true, Bool.not_eq_false, Bool.and_eq_true, Bool.or_eq_true, Bool.and_eq_false_iff, Bool.or_eq_false_iff, Bool.not_eq_true', Bool.not_eq_false', Bool.not_true, Bool.not_false, Bool.not_eq_eq_eq_not, not_true_eq_false, not_false_eq_true, reduceCtorEq, Bool.true_or, Bool.false_or, Bool.or_true, Bool.or_false, Bool.true_and, Bool.and_true, Bool.false_and, Bool.and_false, true_and, and_true, or_false, false_or, true_or, or_true, false_and, and_false, Bool.true_eq_false, Bool.false_eq_true] at *) <;> omega)
        exact fin (by omega) (by rw [txtC_0 names (by omega), hk1]; rfl)
      (refine ifK_split (fun h2 => ?_) (fun h2 => ?_) <;> (rw [h2]; ((conv => whnf); repeat (refine And.intro rfl ?_; (conv => whnf)))))
      · have hk1 : t.kind = 2 := by ((try simp only [bne_iff_ne, ne_eq, bne_eq_false_iff_eq, beq_iff_eq, beq_eq_false_iff_ne, decide_eq_true_eq, decide_eq_false_iff_not, List.length_map, Bool.not_eq_true, Bool.not_eq_false, Bool.and_eq_true, Bool.or_eq_true, Bool.and_eq_false_iff, Bool.or_eq_false_iff, Bool.not_eq_true', Bool.not_eq_false', Bool.not_true, Bool.not_false, Bool.not_eq_eq_eq_not, not_true_eq_false, not_false_eq_true, reduceCtorEq, Bool.true_or, Bool.false_or, Bool.or_true, Bool.or_false, Bool.true_and, Bool.and_true, Bool.false_and, Bool.and_false, true_and, and_true, or_false, false_or, true_or, or_true, false_and, and_false, Bool.true_eq_false, Bool.false_eq_true] at *) <;> omega)
        exact fin (by omega) (by rw [txtC_0 names (by omega), hk1]; rfl)
      (refine ifK_split (fun h3 => ?_) (fun h3 => ?_) <;> (rw [h3]; ((conv => whnf); repeat (refine And.intro rfl ?_; (conv => whnf)))))
      · have hk1 : t.kind = 3 := by ((try simp only [bne_iff_ne, ne_eq, bne_eq_false_iff_eq, beq_iff_eq, beq_eq_false_iff_ne, decide_eq_true_eq, decide_eq_false_iff_not, List.length_map, Bool.not_eq_true, Bool.not_eq_false, Bool.and_eq_true, Bool.or_eq_true, Bool.and_eq_false_iff, Bool.or_eq_false_iff, Bool.not_eq_true', Bool.not_eq_false', Bool.not_true, Bool.not_false, Bool.not_eq_eq_eq_not, not_true_eq_false, not_false_eq_true, reduceCtorEq, Bool.true_or, Bool.false_or, Bool.or_true, Bool.or_false, Bool.true_and, Bool.and_true, Bool.false_and, Bool.and_false, true_and, and_true, or_false, false_or, true_or, or_true, false_and, and_false, Bool.true_eq_false, Bool.false_eq_true] at *) <;> omega)
        (refine .inl ⟨_, (ref_NameOf names hn t.num hnum), ?_⟩; ((conv => whnf); repeat (refine And.intro rfl ?_; (conv => whnf))))
        have e1 : txtC names t = nm names t.num := by rw [txtC_0 names (by omega), hk1]; rfl
        have e2 : okN names t = !(eqS (nm names t.num) ⟨#[]⟩) := by rw [okN_0 names (by omega), hk1]; rfl
        refine deep_eq ?_
        unfold saidC
        rw [e1, e2]
        show D.tup [.sc (.string (nm names t.num)), .sc (.bool (!(eqS (nm names t.num) ⟨#[]⟩)))] = _
        cases e : eqS (nm names t.num) ⟨#[]⟩
        · rfl
        · rw [ByteArray.size_eq_zero_iff.1 ((eqS_empty _).1 e)]; rfl
      (refine ifK_split (fun h4 => ?_) (fun h4 => ?_) <;> (rw [h4]; ((conv => whnf); repeat (refine And.intro rfl ?_; (conv => whnf)))))
      · have hk1 : t.kind = 5 := by ((try simp only [bne_iff_ne, ne_eq, bne_eq_false_iff_eq, beq_iff_eq, beq_eq_false_iff_ne, decide_eq_true_eq, decide_eq_false_iff_not, List.length_map, Bool.not_eq_true, Bool.not_eq_false, Bool.and_eq_true, Bool.or_eq_true, Bool.and_eq_false_iff, Bool.or_eq_false_iff, Bool.not_eq_true', Bool.not_eq_false', Bool.not_true, Bool.not_false, Bool.not_eq_eq_eq_not, not_true_eq_false, not_false_eq_true, reduceCtorEq, Bool.true_or, Bool.false_or, Bool.or_true, Bool.or_false, Bool.true_and, Bool.and_true, Bool.false_and, Bool.and_false, true_and, and_true, or_false, false_or, true_or, or_true, false_and, and_false, Bool.true_eq_false, Bool.false_eq_true] at *) <;> omega)
        have hw : t.width = 2 := by omega
        have := ksz 0 (by omega)
        have := ksz 1 (by omega)
        refine ⟨by omega, by omega, ?_⟩
        ((conv => whnf); repeat (refine And.intro rfl ?_; (conv => whnf)))
        refine ⟨_, kidsToC_at (j := 0) (by omega), ?_⟩
        ((conv => whnf); repeat (refine And.intro rfl ?_; (conv => whnf)))
        refine ⟨by simp only [ByteArray.size_append, size_mk, List.size_toArray, List.length_cons, List.length_nil]; omega, ?_⟩
        ((conv => whnf); repeat (refine And.intro rfl ?_; (conv => whnf)))
        try (refine ⟨by simp only [ByteArray.size_append, size_mk, List.size_toArray, List.length_cons, List.length_nil]; omega, ?_⟩
             ((conv => whnf); repeat (refine And.intro rfl ?_; (conv => whnf))))
        refine ⟨by omega, by omega, ?_⟩
        ((conv => whnf); repeat (refine And.intro rfl ?_; (conv => whnf)))
        refine ⟨_, kidsToC_at (j := 1) (by omega), ?_⟩
        ((conv => whnf); repeat (refine And.intro rfl ?_; (conv => whnf)))
        refine ⟨by simp only [ByteArray.size_append, size_mk, List.size_toArray, List.length_cons, List.length_nil]; omega, ?_⟩
        ((conv => whnf); repeat (refine And.intro rfl ?_; (conv => whnf)))
        try (refine ⟨by simp only [ByteArray.size_append, size_mk, List.size_toArray, List.length_cons, List.length_nil]; omega, ?_⟩
             ((conv => whnf); repeat (refine And.intro rfl ?_; (conv => whnf))))
        exact fin (by omega) (by rw [txtC_2 names hw, hk1]; rfl)
      (refine ifK_split (fun h5 => ?_) (fun h5 => ?_) <;> (rw [h5]; ((conv => whnf); repeat (refine And.intro rfl ?_; (conv => whnf)))))
      · have hk1 : t.kind = 6 := by ((try simp only [bne_iff_ne, ne_eq, bne_eq_false_iff_eq, beq_iff_eq, beq_eq_false_iff_ne, decide_eq_true_eq, decide_eq_false_iff_not, List.length_map, Bool.not_eq_true, Bool.not_eq_false, Bool.and_eq_true, Bool.or_eq_true, Bool.and_eq_false_iff, Bool.or_eq_false_iff, Bool.not_eq_true', Bool.not_eq_false', Bool.not_true, Bool.not_false, Bool.not_eq_eq_eq_not, not_true_eq_false, not_false_eq_true, reduceCtorEq, Bool.true_or, Bool.false_or, Bool.or_true, Bool.or_false, Bool.true_and, Bool.and_true, Bool.false_and, Bool.and_false, true_and, and_true, or_false, false_or, true_or, or_true, false_and, and_false, Bool.true_eq_false, Bool.false_eq_true] at *) <;> omega)
        have hw : t.width = 2 := by omega
        have := ksz 0 (by omega)
        have := ksz 1 (by omega)
        refine ⟨by omega, by omega, ?_⟩
        ((conv => whnf); repeat (refine And.intro rfl ?_; (conv => whnf)))
        refine ⟨_, kidsToC_at (j := 0) (by omega), ?_⟩
        ((conv => whnf); repeat (refine And.intro rfl ?_; (conv => whnf)))
        refine ⟨by simp only [ByteArray.size_append, size_mk, List.size_toArray, List.length_cons, List.length_nil]; omega, ?_⟩
        ((conv => whnf); repeat (refine And.intro rfl ?_; (conv => whnf)))
        try (refine ⟨by simp only [ByteArray.size_append, size_mk, List.size_toArray, List.length_cons, List.length_nil]; omega, ?_⟩
             ((conv => whnf); repeat (refine And.intro rfl ?_; (conv => whnf))))
        refine ⟨by omega, by omega, ?_⟩
        ((conv => whnf); repeat (refine And.intro rfl ?_; (conv => whnf)))
        refine ⟨_, kidsToC_at (j := 1) (by omega), ?_⟩
        ((conv => whnf); repeat (refine And.intro rfl ?_; (conv => whnf)))
        refine ⟨by simp only [ByteArray.size_append, size_mk, List.size_toArray, List.length_cons, List.length_nil]; omega, ?_⟩
        ((conv => whnf); repeat (refine And.intro rfl ?_; (conv => whnf)))
        try (refine ⟨by simp only [ByteArray.size_append, size_mk, List.size_toArray, List.length_cons, List.length_nil]; omega, ?_⟩
             ((conv => whnf); repeat (refine And.intro rfl ?_; (conv => whnf))))
        exact fin (by omega) (by rw [txtC_2 names hw, hk1]; rfl)
      (refine ifK_split (fun h6 => ?_) (fun h6 => ?_) <;> (rw [h6]; ((conv => whnf); repeat (refine And.intro rfl ?_; (conv => whnf)))))
      · have hk1 : t.kind = 10 := by ((try simp only [bne_iff_ne, ne_eq, bne_eq_false_iff_eq, beq_iff_eq, beq_eq_false_iff_ne, decide_eq_true_eq, decide_eq_false_iff_not, List.length_map, Bool.not_eq_true, Bool.not_eq_false, Bool.and_eq_true, Bool.or_eq_true, Bool.and_eq_false_iff, Bool.or_eq_false_iff, Bool.not_eq_true', Bool.not_eq_false', Bool.not_true, Bool.not_false, Bool.not_eq_eq_eq_not, not_true_eq_false, not_false_eq_true, reduceCtorEq, Bool.true_or, Bool.false_or, Bool.or_true, Bool.or_false, Bool.true_and, Bool.and_true, Bool.false_and, Bool.and_false, true_and, and_true, or_false, false_or, true_or, or_true, false_and, and_false, Bool.true_eq_false, Bool.false_eq_true] at *) <;> omega)
        have hw : t.width = 2 := by omega
        have := ksz 0 (by omega)
        have := ksz 1 (by omega)
        refine ⟨by omega, by omega, ?_⟩
        ((conv => whnf); repeat (refine And.intro rfl ?_; (conv => whnf)))
        refine ⟨_, kidsToC_at (j := 0) (by omega), ?_⟩
        ((conv => whnf); repeat (refine And.intro rfl ?_; (conv => whnf)))
        refine ⟨by simp only [ByteArray.size_append, size_mk, List.size_toArray, List.length_cons, List.length_nil]; omega, ?_⟩
        ((conv => whnf); repeat (refine And.intro rfl ?_; (conv => whnf)))
        try (refine ⟨by simp only [ByteArray.size_append, size_mk, List.size_toArray, List.length_cons, List.length_nil]; omega, ?_⟩
             ((conv => whnf); repeat (refine And.intro rfl ?_; (conv => whnf))))
        refine ⟨by omega, by omega, ?_⟩
        ((conv => whnf); repeat (refine And.intro rfl ?_; (conv => whnf)))
        refine ⟨_, kidsToC_at (j := 1) (by omega), ?_⟩
        ((conv => whnf); repeat (refine And.intro rfl ?_; (conv => whnf)))
        refine ⟨by simp only [ByteArray.size_append, size_mk, List.size_toArray, List.length_cons, List.length_nil]; omega, ?_⟩
        ((conv => whnf); repeat (refine And.intro rfl ?_; (conv => whnf)))
        try (refine ⟨by simp only [ByteArray.size_append, size_mk, List.size_toArray, List.length_cons, List.length_nil]; omega, ?_⟩
             ((conv => whnf); repeat (refine And.intro rfl ?_; (conv => whnf))))
        exact fin (by omega) (by rw [txtC_2 names hw, hk1]; rfl)
      (refine ifK_split (fun h7 => ?_) (fun h7 => ?_) <;> (rw [h7]; ((conv => whnf); repeat (refine And.intro rfl ?_; (conv => whnf)))))
      · have hk1 : t.kind = 14 := by ((try simp only [bne_iff_ne, ne_eq, bne_eq_false_iff_eq, beq_iff_eq, beq_eq_false_iff_ne, decide_eq_true_eq, decide_eq_false_iff_not, List.length_map, Bool.not_eq_true, Bool.not_eq_false, Bool.and_eq_true, Bool.or_eq_true, Bool.and_eq_false_iff, Bool.or_eq_false_iff, Bool.not_eq_true', Bool.not_eq_false', Bool.not_true, Bool.not_false, Bool.not_eq_eq_eq_not, not_true_eq_false, not_false_eq_true, reduceCtorEq, Bool.true_or, Bool.false_or, Bool.or_true, Bool.or_false, Bool.true_and, Bool.and_true, Bool.false_and, Bool.and_false, true_and, and_true, or_false, false_or, true_or, or_true, false_and, and_false, Bool.true_eq_false, Bool.false_eq_true] at *) <;> omega)
        have hw : t.width = 2 := by omega
        have := ksz 0 (by omega)
        have := ksz 1 (by omega)
        refine ⟨by omega, by omega, ?_⟩
        ((conv => whnf); repeat (refine And.intro rfl ?_; (conv => whnf)))
        refine ⟨_, kidsToC_at (j := 0) (by omega), ?_⟩
        ((conv => whnf); repeat (refine And.intro rfl ?_; (conv => whnf)))
        refine ⟨by simp only [ByteArray.size_append, size_mk, List.size_toArray, List.length_cons, List.length_nil]; omega, ?_⟩
        ((conv => whnf); repeat (refine And.intro rfl ?_; (conv => whnf)))
        try (refine ⟨by simp only [ByteArray.size_append, size_mk, List.size_toArray, List.length_cons, List.length_nil]; omega, ?_⟩
             ((conv => whnf); repeat (refine And.intro rfl ?_; (conv => whnf))))
        refine ⟨by omega, by omega, ?_⟩
        ((conv => whnf); repeat (refine And.intro rfl ?_; (conv => whnf)))
        refine ⟨_, kidsToC_at (j := 1) (by omega), ?_⟩
        ((conv => whnf); repeat (refine And.intro rfl ?_; (conv => whnf)))
        refine ⟨by simp only [ByteArray.size_append, size_mk, List.size_toArray, List.length_cons, List.length_nil]; omega, ?_⟩
        ((conv => whnf); repeat (refine And.intro rfl ?_; (conv => whnf)))
        try (refine ⟨by simp only [ByteArray.size_append, size_mk, List.size_toArray, List.length_cons, List.length_nil]; omega, ?_⟩
             ((conv => whnf); repeat (refine And.intro rfl ?_; (conv => whnf))))
        exact fin (by omega) (by rw [txtC_2 names hw, hk1]; rfl)
      have hw : t.width = 1 := by ((try simp only [bne_iff_ne, ne_eq, bne_eq_false_iff_eq, beq_iff_eq, beq_eq_false_iff_ne, decide_eq_true_eq, decide_eq_false_iff_not, List.length_map, Bool.not_eq_true, Bool.not_eq_false, Bool.and_eq_true, Bool.or_eq_true, Bool.and_eq_false_iff, Bool.or_eq_false_iff, Bool.not_eq_true', Bool.not_eq_false', Bool.not_true, Bool.not_false, Bool.not_eq_eq_eq_not, not_true_eq_false, not_false_eq_true, reduceCtorEq, Bool.true_or, Bool.false_or, Bool.or_true, Bool.or_false, Bool.true_and, Bool.and_true, Bool.false_and, Bool.and_false, true_and, and_true, or_false, false_or, true_or, or_true, false_and, and_false, Bool.true_eq_false, Bool.false_eq_true] at *) <;> omega)
      have := ksz 0 (by omega)
      have e1 := txtC_1 names hw
      (refine ifK_split (fun h8 => ?_) (fun h8 => ?_) <;> (rw [h8]; ((conv => whnf); repeat (refine And.intro rfl ?_; (conv => whnf)))))
      · have hk1 : t.kind = 4 := by ((try simp only [bne_iff_ne, ne_eq, bne_eq_false_iff_eq, beq_iff_eq, beq_eq_false_iff_ne, decide_eq_true_eq, decide_eq_false_iff_not, List.length_map, Bool.not_eq_true, Bool.not_eq_false, Bool.and_eq_true, Bool.or_eq_true, Bool.and_eq_false_iff, Bool.or_eq_false_iff, Bool.not_eq_true', Bool.not_eq_false', Bool.not_true, Bool.not_false, Bool.not_eq_eq_eq_not, not_true_eq_false, not_false_eq_true, reduceCtorEq, Bool.true_or, Bool.false_or, Bool.or_true, Bool.or_false, Bool.true_and, Bool.and_true, Bool.false_and, Bool.and_false, true_and, and_true, or_false, false_or, true_or, or_true, false_and, and_false, Bool.true_eq_false, Bool.false_eq_true] at *) <;> omega)
        refine ⟨by omega, by omega, ?_⟩
        ((conv => whnf); repeat (refine And.intro rfl ?_; (conv => whnf)))
        refine ⟨_, kidsToC_at (j := 0) (by omega), ?_⟩
        ((conv => whnf); repeat (refine And.intro rfl ?_; (conv => whnf)))
        refine ⟨by simp only [ByteArray.size_append, size_mk, List.size_toArray, List.length_cons, List.length_nil]; omega, ?_⟩
        ((conv => whnf); repeat (refine And.intro rfl ?_; (conv => whnf)))
        exact fin (by omega) (by rw [e1, hk1]; rfl)
      have hk : t.kind = 7 ∨ t.kind = 8 ∨ t.kind = 9 ∨ t.kind = 11 ∨ t.kind = 12 ∨ t.kind = 13 := by ((try simp only [bne_iff_ne, ne_eq, bne_eq_false_iff_eq, beq_iff_eq, beq_eq_false_iff_ne, decide_eq_true_eq, decide_eq_false_iff_not, List.length_map, Bool.not_eq_true, Bool.not_eq_false, Bool.and_eq_true, Bool.or_eq_true, Bool.and_eq_false_iff, Bool.or_eq_false_iff, Bool.not_eq_true', Bool.not_eq_false', Bool.not_true, Bool.not_false, Bool.not_eq_eq_eq_not, not_true_eq_false, not_false_eq_true, reduceCtorEq, Bool.true_or, Bool.false_or, Bool.or_true, Bool.or_false, Bool.true_and, Bool.and_true, Bool.false_and, Bool.and_false, true_and, and_true, or_false, false_or, true_or, or_true, false_and, and_false, Bool.true_eq_false, Bool.false_eq_true] at *) <;> omega)
      rcases hk with hk1 | hk1 | hk1 | hk1 | hk1 | hk1
      all_goals
        refine ⟨by omega, by omega, _, by rw [hk1]; rfl, ?_⟩
        ((conv => whnf); repeat (refine And.intro rfl ?_; (conv => whnf)))
        refine ⟨by omega, by omega, ?_⟩
        ((conv => whnf); repeat (refine And.intro rfl ?_; (conv => whnf)))
        refine ⟨_, kidsToC_at (j := 0) (by omega), ?_⟩
        ((conv => whnf); repeat (refine And.intro rfl ?_; (conv => whnf)))
        refine ⟨by simp only [ByteArray.size_append, size_mk, List.size_toArray, List.length_cons, List.length_nil]; omega, ?_⟩
        ((conv => whnf); repeat (refine And.intro rfl ?_; (conv => whnf)))
        exact fin (by omega) (by rw [e1, hk1]; rfl)
end Go.Proofs.Ytkkfiadefekbbaa
