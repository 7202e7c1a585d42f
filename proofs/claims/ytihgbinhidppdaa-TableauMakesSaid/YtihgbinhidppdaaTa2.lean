/-
  The maker of a formula's automaton: what holds at a state, what a state keeps, its letters (chosen, holds, owed, kept, bits, fair), over deep values. No statement is proved here.
-/
import Derived.Test.YtihgbinhidppdaaTa1
namespace Go.Proofs.Ytihgbinhidppdaa
open Go.RowKit
set_option linter.unusedSimpArgs false
set_option linter.unusedVariables false
theorem idx_mem {A : List Int} {x : Int} (h : x ∈ A) : ∃ k : Nat, k < A.length ∧ idxF (fun a => x == a) A = (k : Int) := by
  have h1 : 0 ≤ idxF (fun a => x == a) A := by
    have := idxF_any (fun a => x == a) A
    rw [show A.any (fun a => x == a) = true from List.any_eq_true.2 ⟨x, h, by simp⟩] at this
    simpa using this
  obtain ⟨k, e, hk, _⟩ := idxF_lt h1
  exact ⟨k, hk, e⟩
theorem idx_part {P : List Tree} {x : Tree} (h : x ∈ P) : ∃ k : Nat, k < P.length ∧ idxF (eqT x) P = (k : Int) := by
  have h1 : 0 ≤ idxF (eqT x) P := by
    have := idxF_any (eqT x) P
    rw [any_eqT.2 h] at this
    simpa using this
  obtain ⟨k, e, hk, _⟩ := idxF_lt h1
  exact ⟨k, hk, e⟩
/-- The parts and atoms of a plain formula, told: few. -/
structure TabI (A : List Int) (P : List Tree) : Prop where
  few : A.length + P.length ≤ 10
  atoms : ∀ x ∈ A, 0 ≤ x ∧ x ≤ 63
  told : ∀ g ∈ P, Told A P g
  wf : ∀ g ∈ P, g.wf pKids ∧ (g.kind = 7 ∨ g.kind = 8 ∨ g.kind = 9)
theorem two_pow10 {n : Nat} (h : n ≤ 10) : 2 ^ n ≤ 1024 := Nat.le_trans (Nat.pow_le_pow_right (by omega) h) (by decide)
theorem two_powI (n : Nat) : (2 : Int) ^ n = ((2 ^ n : Nat) : Int) := by simp
theorem one_shl (k : Nat) (hk : k ≤ 10) : (1 : Int) * 2 ^ min ((k : Int)).toNat 64 = ((2 ^ k : Nat) : Int) := by
  rw [Int.toNat_natCast, Nat.min_eq_left (by omega), Int.one_mul, two_powI]
def c39 : PC := .seq (.ops [⟨some 4,.box (.tmp 1),none,0⟩,
 ⟨some 6,.move (.const (.bool false)),none,0⟩] false) (.seq (.seq (.ops [⟨some 7,.faddr 0 (.tmp 4),none,0⟩,
 ⟨some 8,.load1 (.tmp 7),none,0⟩,
 ⟨some 9,.bin .eql (.tmp 8) (.const (.int .i64 3)),none,0⟩] false) (.cond (.tmp 9) (.seq (.ops [⟨some 10,.move (.tmp 2),none,0⟩,
 ⟨some 11,.move (.tmp 0),none,0⟩,
 ⟨some 12,.nilchk (.tmp 11),none,2⟩,
 ⟨some 13,.faddr 0 (.tmp 12),none,6⟩,
 ⟨some 14,.load1 (.tmp 13),none,14⟩,
 ⟨some 15,.faddr 1 (.tmp 4),none,0⟩,
 ⟨some 16,.load1 (.tmp 15),none,32⟩,
 ⟨some 17,.call 47 [(.tmp 14), (.tmp 16)],none,126⟩,
 ⟨some 18,.bin .shr (.tmp 10) (.tmp 17),none,255⟩,
 ⟨some 19,.bin .and (.tmp 18) (.const (.int .i64 1)),none,511⟩,
 ⟨some 20,.bin .eql (.tmp 19) (.const (.int .i64 1)),none,1023⟩,
 ⟨some 6,.move (.tmp 20),none,2047⟩] true) (.ret)) (.skip))) (.seq (.ops [⟨some 21,.move (.tmp 2),none,0⟩,
 ⟨some 22,.move (.tmp 0),none,0⟩,
 ⟨some 23,.nilchk (.tmp 22),none,2⟩,
 ⟨some 24,.faddr 0 (.tmp 23),none,6⟩,
 ⟨some 25,.load1 (.tmp 24),none,14⟩,
 ⟨some 26,.len (.tmp 25),none,30⟩,
 ⟨some 27,.move (.tmp 0),none,0⟩,
 ⟨some 28,.loadA 3 (.tmp 4),none,0⟩,
 ⟨some 29,.call 36 [(.tmp 27), (.tmp 28)],none,192⟩,
 ⟨some 30,.bin .add (.tmp 26) (.tmp 29),none,510⟩,
 ⟨some 31,.bin .shr (.tmp 21) (.tmp 30),none,1023⟩,
 ⟨some 32,.bin .and (.tmp 31) (.const (.int .i64 1)),none,2047⟩,
 ⟨some 33,.bin .eql (.tmp 32) (.const (.int .i64 1)),none,4095⟩,
 ⟨some 6,.move (.tmp 33),none,8191⟩] true) (.ret)))
set_option maxRecDepth 100000 in
theorem c39_ok : FunOK Try.prog 39 34 [.tmp 6] c39 := ⟨⟨Try.f39, Try.func39, rfl, by kernel_rfl, rfl, by kernel_rfl⟩⟩
def c13 : PC := .seq (.ops [⟨some 4,.box (.tmp 1),none,0⟩,
 ⟨some 6,.move (.const (.bool false)),none,0⟩] false) (.seq (.seq (.ops [⟨some 7,.faddr 0 (.tmp 4),none,0⟩,
 ⟨some 8,.load1 (.tmp 7),none,0⟩] false) (.block 0 (.seq (.ops [⟨some 10,.bin .eql (.tmp 8) (.const (.int .i64 1)),none,0⟩,
 ⟨some 9,.move (.tmp 10),none,0⟩] false) (.cond (.tmp 9) (.seq (.ops [⟨some 6,.move (.const (.bool true)),none,0⟩] false) (.ret)) (.seq (.ops [⟨some 12,.bin .eql (.tmp 8) (.const (.int .i64 2)),none,0⟩,
 ⟨some 11,.move (.tmp 12),none,0⟩] false) (.cond (.tmp 11) (.seq (.ops [⟨some 6,.move (.const (.bool false)),none,0⟩] false) (.ret)) (.seq (.ops [⟨some 14,.bin .eql (.tmp 8) (.const (.int .i64 4)),none,0⟩,
 ⟨some 13,.move (.tmp 14),none,0⟩] false) (.cond (.tmp 13) (.seq (.ops [⟨some 15,.move (.tmp 0),none,0⟩,
 ⟨some 16,.faddr 2 (.tmp 4),none,0⟩,
 ⟨some 17,.load1 (.tmp 16),none,0⟩,
 ⟨some 18,.iaddr 3 (.tmp 17) (.const (.int .i64 0)),none,0⟩,
 ⟨some 19,.loadA 3 (.tmp 18),none,0⟩,
 ⟨some 20,.move (.tmp 2),none,0⟩,
 ⟨some 21,.call 13 [(.tmp 15), (.tmp 19), (.tmp 20)],none,0⟩,
 ⟨some 22,.un .not (.tmp 21),none,0⟩,
 ⟨some 6,.move (.tmp 22),none,0⟩] false) (.ret)) (.seq (.ops [⟨some 24,.bin .eql (.tmp 8) (.const (.int .i64 5)),none,0⟩,
 ⟨some 23,.move (.tmp 24),none,0⟩] false) (.cond (.tmp 23) (.seq (.ops [⟨some 25,.move (.tmp 0),none,0⟩,
 ⟨some 26,.faddr 2 (.tmp 4),none,0⟩,
 ⟨some 27,.load1 (.tmp 26),none,0⟩,
 ⟨some 28,.iaddr 3 (.tmp 27) (.const (.int .i64 0)),none,0⟩,
 ⟨some 29,.loadA 3 (.tmp 28),none,0⟩,
 ⟨some 30,.move (.tmp 2),none,0⟩,
 ⟨some 31,.call 13 [(.tmp 25), (.tmp 29), (.tmp 30)],none,0⟩,
 ⟨some 32,.move (.tmp 31),none,0⟩,
 ⟨some 33,.move (.tmp 0),some (32,true),0⟩,
 ⟨some 34,.faddr 2 (.tmp 4),some (32,true),0⟩,
 ⟨some 35,.load1 (.tmp 34),some (32,true),0⟩,
 ⟨some 36,.iaddr 3 (.tmp 35) (.const (.int .i64 1)),some (32,true),0⟩,
 ⟨some 37,.loadA 3 (.tmp 36),some (32,true),0⟩,
 ⟨some 38,.move (.tmp 2),some (32,true),0⟩,
 ⟨some 39,.call 13 [(.tmp 33), (.tmp 37), (.tmp 38)],some (32,true),0⟩,
 ⟨some 40,.pick (.tmp 32) (.tmp 39) (.const (.bool false)),none,0⟩,
 ⟨some 6,.move (.tmp 40),none,0⟩] false) (.ret)) (.seq (.ops [⟨some 42,.bin .eql (.tmp 8) (.const (.int .i64 6)),none,0⟩,
 ⟨some 41,.move (.tmp 42),none,0⟩] false) (.cond (.tmp 41) (.seq (.ops [⟨some 43,.move (.tmp 0),none,0⟩,
 ⟨some 44,.faddr 2 (.tmp 4),none,0⟩,
 ⟨some 45,.load1 (.tmp 44),none,0⟩,
 ⟨some 46,.iaddr 3 (.tmp 45) (.const (.int .i64 0)),none,0⟩,
 ⟨some 47,.loadA 3 (.tmp 46),none,0⟩,
 ⟨some 48,.move (.tmp 2),none,0⟩,
 ⟨some 49,.call 13 [(.tmp 43), (.tmp 47), (.tmp 48)],none,0⟩,
 ⟨some 50,.move (.tmp 49),none,0⟩,
 ⟨some 51,.move (.tmp 0),some (50,false),0⟩,
 ⟨some 52,.faddr 2 (.tmp 4),some (50,false),0⟩,
 ⟨some 53,.load1 (.tmp 52),some (50,false),0⟩,
 ⟨some 54,.iaddr 3 (.tmp 53) (.const (.int .i64 1)),some (50,false),0⟩,
 ⟨some 55,.loadA 3 (.tmp 54),some (50,false),0⟩,
 ⟨some 56,.move (.tmp 2),some (50,false),0⟩,
 ⟨some 57,.call 13 [(.tmp 51), (.tmp 55), (.tmp 56)],some (50,false),0⟩,
 ⟨some 58,.pick (.tmp 50) (.const (.bool true)) (.tmp 57),none,0⟩,
 ⟨some 6,.move (.tmp 58),none,0⟩] false) (.ret)) (.seq (.ops [⟨some 60,.bin .eql (.tmp 8) (.const (.int .i64 8)),none,0⟩,
 ⟨some 59,.move (.tmp 60),none,0⟩] false) (.cond (.tmp 59) (.seq (.ops [⟨some 61,.move (.tmp 0),none,0⟩,
 ⟨some 62,.faddr 2 (.tmp 4),none,0⟩,
 ⟨some 63,.load1 (.tmp 62),none,0⟩,
 ⟨some 64,.iaddr 3 (.tmp 63) (.const (.int .i64 1)),none,0⟩,
 ⟨some 65,.loadA 3 (.tmp 64),none,0⟩,
 ⟨some 66,.move (.tmp 2),none,0⟩,
 ⟨some 67,.call 13 [(.tmp 61), (.tmp 65), (.tmp 66)],none,0⟩,
 ⟨some 68,.move (.tmp 67),none,0⟩,
 ⟨some 69,.move (.tmp 0),some (68,false),0⟩,
 ⟨some 70,.faddr 2 (.tmp 4),some (68,false),0⟩,
 ⟨some 71,.load1 (.tmp 70),some (68,false),0⟩,
 ⟨some 72,.iaddr 3 (.tmp 71) (.const (.int .i64 0)),some (68,false),0⟩,
 ⟨some 73,.loadA 3 (.tmp 72),some (68,false),0⟩,
 ⟨some 74,.move (.tmp 2),some (68,false),0⟩,
 ⟨some 75,.call 13 [(.tmp 69), (.tmp 73), (.tmp 74)],some (68,false),0⟩,
 ⟨some 76,.move (.tmp 75),some (68,false),0⟩,
 ⟨some 77,.move (.tmp 0),some (76,true),0⟩,
 ⟨some 78,.loadA 3 (.tmp 4),some (76,true),0⟩,
 ⟨some 79,.move (.tmp 2),some (76,true),0⟩,
 ⟨some 80,.call 39 [(.tmp 77), (.tmp 78), (.tmp 79)],some (76,true),0⟩,
 ⟨some 81,.pick (.tmp 76) (.tmp 80) (.const (.bool false)),some (68,false),0⟩,
 ⟨some 82,.pick (.tmp 68) (.const (.bool true)) (.tmp 81),none,0⟩,
 ⟨some 6,.move (.tmp 82),none,0⟩] false) (.ret)) (.seq (.ops [⟨some 84,.bin .eql (.tmp 8) (.const (.int .i64 9)),none,0⟩,
 ⟨some 83,.move (.tmp 84),none,0⟩] false) (.cond (.tmp 83) (.seq (.ops [⟨some 85,.move (.tmp 0),none,0⟩,
 ⟨some 86,.faddr 2 (.tmp 4),none,0⟩,
 ⟨some 87,.load1 (.tmp 86),none,0⟩,
 ⟨some 88,.iaddr 3 (.tmp 87) (.const (.int .i64 1)),none,0⟩,
 ⟨some 89,.loadA 3 (.tmp 88),none,0⟩,
 ⟨some 90,.move (.tmp 2),none,0⟩,
 ⟨some 91,.call 13 [(.tmp 85), (.tmp 89), (.tmp 90)],none,0⟩,
 ⟨some 92,.move (.tmp 91),none,0⟩,
 ⟨some 93,.move (.tmp 0),some (92,true),0⟩,
 ⟨some 94,.faddr 2 (.tmp 4),some (92,true),0⟩,
 ⟨some 95,.load1 (.tmp 94),some (92,true),0⟩,
 ⟨some 96,.iaddr 3 (.tmp 95) (.const (.int .i64 0)),some (92,true),0⟩,
 ⟨some 97,.loadA 3 (.tmp 96),some (92,true),0⟩,
 ⟨some 98,.move (.tmp 2),some (92,true),0⟩,
 ⟨some 99,.call 13 [(.tmp 93), (.tmp 97), (.tmp 98)],some (92,true),0⟩,
 ⟨some 100,.move (.tmp 99),some (92,true),0⟩,
 ⟨some 101,.move (.tmp 0),some (100,false),0⟩,
 ⟨some 102,.loadA 3 (.tmp 4),some (100,false),0⟩,
 ⟨some 103,.move (.tmp 2),some (100,false),0⟩,
 ⟨some 104,.call 39 [(.tmp 101), (.tmp 102), (.tmp 103)],some (100,false),0⟩,
 ⟨some 105,.pick (.tmp 100) (.const (.bool true)) (.tmp 104),some (92,true),0⟩,
 ⟨some 106,.pick (.tmp 92) (.tmp 105) (.const (.bool false)),none,0⟩,
 ⟨some 6,.move (.tmp 106),none,0⟩] false) (.ret)) (.skip))))))))))))))))) (.seq (.ops [⟨some 107,.move (.tmp 0),none,0⟩,
 ⟨some 108,.loadA 3 (.tmp 4),none,0⟩,
 ⟨some 109,.move (.tmp 2),none,0⟩,
 ⟨some 110,.call 39 [(.tmp 107), (.tmp 108), (.tmp 109)],none,0⟩,
 ⟨some 6,.move (.tmp 110),none,0⟩] false) (.ret)))
set_option maxRecDepth 100000 in
theorem c13_ok : FunOK Try.prog 13 111 [.tmp 6] c13 := ⟨⟨Try.f13, Try.func13, rfl, by kernel_rfl, rfl, by kernel_rfl⟩⟩
def c15 : PC := .seq (.ops [⟨some 4,.move (.const (.int .i64 0)),none,0⟩] false) (.seq (.ops [⟨some 5,.move (.tmp 1),none,0⟩,
 ⟨some 6,.move (.tmp 0),none,0⟩,
 ⟨some 7,.nilchk (.tmp 6),none,0⟩,
 ⟨some 8,.faddr 0 (.tmp 7),none,0⟩,
 ⟨some 9,.load1 (.tmp 8),none,0⟩,
 ⟨some 10,.len (.tmp 9),none,0⟩,
 ⟨some 11,.bin .shr (.tmp 5) (.tmp 10),none,0⟩,
 ⟨some 4,.move (.tmp 11),none,0⟩] false) (.ret))
set_option maxRecDepth 100000 in
theorem c15_ok : FunOK Try.prog 15 12 [.tmp 4] c15 := ⟨⟨Try.f15, Try.func15, rfl, by kernel_rfl, rfl, by kernel_rfl⟩⟩
def c12_1 : PC := .seq (.ops [⟨some 15,.bin .lss (.tmp 14) (.tmp 13),none,0⟩] false) (.seq (.cond (.tmp 15) (.skip) (.exit 0)) (.seq (.block 1 (.seq (.ops [⟨some 16,.move (.tmp 14),none,0⟩,
 ⟨some 17,.iaddr 3 (.tmp 12) (.tmp 14),none,0⟩,
 ⟨some 18,.loadA 3 (.tmp 17),none,0⟩,
 ⟨some 7,.alloc [(.int .i64 0), (.int .i64 0), (.slice none 0 0)],none,0⟩,
 ⟨some 6,.move (.tmp 16),none,0⟩,
 ⟨none,.store 3 (.tmp 7) (.tmp 18),none,0⟩] false) (.seq (.ops [⟨some 19,.loadA 3 (.tmp 7),none,0⟩,
 ⟨some 8,.alloc [(.int .i64 0), (.int .i64 0), (.slice none 0 0)],none,0⟩,
 ⟨none,.store 3 (.tmp 8) (.tmp 19),none,0⟩] false) (.seq (.seq (.ops [⟨some 20,.faddr 0 (.tmp 7),none,0⟩,
 ⟨some 21,.load1 (.tmp 20),none,0⟩,
 ⟨some 22,.bin .eql (.tmp 21) (.const (.int .i64 7)),none,0⟩] false) (.cond (.tmp 22) (.ops [⟨some 23,.faddr 2 (.tmp 7),none,0⟩,
 ⟨some 24,.load1 (.tmp 23),none,0⟩,
 ⟨some 25,.iaddr 3 (.tmp 24) (.const (.int .i64 0)),none,0⟩,
 ⟨some 26,.loadA 3 (.tmp 25),none,0⟩,
 ⟨none,.store 3 (.tmp 8) (.tmp 26),none,0⟩] false) (.skip))) (.seq (.ops [⟨some 27,.move (.tmp 0),none,0⟩,
 ⟨some 28,.loadA 3 (.tmp 8),none,0⟩,
 ⟨some 29,.move (.tmp 1),none,0⟩,
 ⟨some 30,.call 13 [(.tmp 27), (.tmp 28), (.tmp 29)],none,0⟩] false) (.cond (.tmp 30) (.ops [⟨some 31,.move (.tmp 5),none,0⟩,
 ⟨some 32,.move (.tmp 6),none,0⟩,
 ⟨some 33,.bin .shl (.const (.int .i64 1)) (.tmp 32),none,0⟩,
 ⟨some 34,.bin .or (.tmp 31) (.tmp 33),none,0⟩,
 ⟨some 5,.move (.tmp 34),none,0⟩] false) (.skip))))))) (.ops [⟨some 35,.bin .add (.tmp 14) (.const (.int .i64 1)),none,0⟩,
 ⟨some 14,.move (.tmp 35),none,0⟩] false)))
def c12 : PC := .seq (.ops [⟨some 4,.move (.const (.int .i64 0)),none,0⟩] false) (.seq (.ops [⟨some 5,.move (.const (.int .i64 0)),none,0⟩] false) (.seq (.seq (.ops [⟨some 9,.move (.tmp 0),none,0⟩,
 ⟨some 10,.nilchk (.tmp 9),none,0⟩,
 ⟨some 11,.faddr 1 (.tmp 10),none,0⟩,
 ⟨some 12,.load1 (.tmp 11),none,0⟩,
 ⟨some 13,.len (.tmp 12),none,0⟩,
 ⟨some 14,.move (.const (.int .i64 0)),none,0⟩] false) (.block 0 (.loop c12_1))) (.seq (.ops [⟨some 36,.move (.tmp 5),none,0⟩,
 ⟨some 4,.move (.tmp 36),none,0⟩] false) (.ret))))
set_option maxRecDepth 100000 in
theorem c12_ok : FunOK Try.prog 12 37 [.tmp 4] c12 := ⟨⟨Try.f12, Try.func12, rfl, by kernel_rfl, rfl, by kernel_rfl⟩⟩
def c16_1 : PC := .seq (.ops [⟨some 16,.bin .lss (.tmp 15) (.tmp 14),none,0⟩] false) (.seq (.cond (.tmp 16) (.skip) (.exit 0)) (.seq (.block 1 (.seq (.ops [⟨some 17,.move (.tmp 15),none,0⟩,
 ⟨some 18,.iaddr 1 (.tmp 13) (.tmp 15),none,0⟩,
 ⟨some 19,.load1 (.tmp 18),none,0⟩,
 ⟨some 8,.move (.tmp 17),none,0⟩,
 ⟨some 9,.move (.tmp 19),none,0⟩] false) (.seq (.ops [⟨some 20,.move (.tmp 1),none,0⟩,
 ⟨some 21,.move (.tmp 8),none,0⟩,
 ⟨some 22,.bin .shr (.tmp 20) (.tmp 21),none,0⟩,
 ⟨some 23,.bin .and (.tmp 22) (.const (.int .i64 1)),none,0⟩,
 ⟨some 24,.bin .eql (.tmp 23) (.const (.int .i64 1)),none,0⟩,
 ⟨some 25,.move (.tmp 2),none,0⟩,
 ⟨some 26,.eqb false (.tmp 24) (.tmp 25),none,0⟩] false) (.cond (.tmp 26) (.ops [⟨some 27,.move (.tmp 7),none,0⟩,
 ⟨some 28,.move (.tmp 9),none,0⟩,
 ⟨some 29,.bin .shl (.const (.int .u64 1)) (.tmp 28),none,0⟩,
 ⟨some 30,.bin .or (.tmp 27) (.tmp 29),none,0⟩,
 ⟨some 7,.move (.tmp 30),none,0⟩] false) (.skip))))) (.ops [⟨some 31,.bin .add (.tmp 15) (.const (.int .i64 1)),none,0⟩,
 ⟨some 15,.move (.tmp 31),none,0⟩] false)))
def c16 : PC := .seq (.ops [⟨some 6,.move (.const (.int .u64 0)),none,0⟩] false) (.seq (.ops [⟨some 7,.move (.const (.int .u64 0)),none,0⟩] false) (.seq (.seq (.ops [⟨some 10,.move (.tmp 0),none,0⟩,
 ⟨some 11,.nilchk (.tmp 10),none,0⟩,
 ⟨some 12,.faddr 0 (.tmp 11),none,0⟩,
 ⟨some 13,.load1 (.tmp 12),none,0⟩,
 ⟨some 14,.len (.tmp 13),none,0⟩,
 ⟨some 15,.move (.const (.int .i64 0)),none,0⟩] false) (.block 0 (.loop c16_1))) (.seq (.ops [⟨some 32,.move (.tmp 7),none,0⟩,
 ⟨some 6,.move (.tmp 32),none,0⟩] false) (.ret))))
set_option maxRecDepth 100000 in
theorem c16_ok : FunOK Try.prog 16 33 [.tmp 6] c16 := ⟨⟨Try.f16, Try.func16, rfl, by kernel_rfl, rfl, by kernel_rfl⟩⟩
def c17 : PC := .seq (.ops [⟨some 4,.box (.tmp 1),none,0⟩,
 ⟨some 6,.move (.const (.bool false)),none,0⟩] false) (.seq (.seq (.ops [⟨some 7,.faddr 0 (.tmp 4),none,0⟩,
 ⟨some 8,.load1 (.tmp 7),none,0⟩,
 ⟨some 9,.bin .eql (.tmp 8) (.const (.int .i64 8)),none,0⟩] false) (.cond (.tmp 9) (.seq (.ops [⟨some 10,.move (.tmp 0),none,0⟩,
 ⟨some 11,.loadA 3 (.tmp 4),none,0⟩,
 ⟨some 12,.move (.tmp 2),none,0⟩,
 ⟨some 13,.call 13 [(.tmp 10), (.tmp 11), (.tmp 12)],none,0⟩,
 ⟨some 14,.un .not (.tmp 13),none,0⟩,
 ⟨some 15,.move (.tmp 14),none,0⟩,
 ⟨some 16,.move (.tmp 0),some (15,false),0⟩,
 ⟨some 17,.faddr 2 (.tmp 4),some (15,false),0⟩,
 ⟨some 18,.load1 (.tmp 17),some (15,false),0⟩,
 ⟨some 19,.iaddr 3 (.tmp 18) (.const (.int .i64 1)),some (15,false),0⟩,
 ⟨some 20,.loadA 3 (.tmp 19),some (15,false),0⟩,
 ⟨some 21,.move (.tmp 2),some (15,false),0⟩,
 ⟨some 22,.call 13 [(.tmp 16), (.tmp 20), (.tmp 21)],some (15,false),0⟩,
 ⟨some 23,.pick (.tmp 15) (.const (.bool true)) (.tmp 22),none,0⟩,
 ⟨some 6,.move (.tmp 23),none,0⟩] false) (.ret)) (.skip))) (.seq (.ops [⟨some 24,.move (.tmp 0),none,0⟩,
 ⟨some 25,.loadA 3 (.tmp 4),none,0⟩,
 ⟨some 26,.move (.tmp 2),none,0⟩,
 ⟨some 27,.call 13 [(.tmp 24), (.tmp 25), (.tmp 26)],none,0⟩,
 ⟨some 28,.move (.tmp 27),none,0⟩,
 ⟨some 29,.move (.tmp 0),some (28,false),0⟩,
 ⟨some 30,.faddr 2 (.tmp 4),some (28,false),0⟩,
 ⟨some 31,.load1 (.tmp 30),some (28,false),0⟩,
 ⟨some 32,.iaddr 3 (.tmp 31) (.const (.int .i64 1)),some (28,false),0⟩,
 ⟨some 33,.loadA 3 (.tmp 32),some (28,false),0⟩,
 ⟨some 34,.move (.tmp 2),some (28,false),0⟩,
 ⟨some 35,.call 13 [(.tmp 29), (.tmp 33), (.tmp 34)],some (28,false),0⟩,
 ⟨some 36,.un .not (.tmp 35),some (28,false),0⟩,
 ⟨some 37,.pick (.tmp 28) (.const (.bool true)) (.tmp 36),none,0⟩,
 ⟨some 6,.move (.tmp 37),none,0⟩] false) (.ret)))
set_option maxRecDepth 100000 in
theorem c17_ok : FunOK Try.prog 17 38 [.tmp 6] c17 := ⟨⟨Try.f17, Try.func17, rfl, by kernel_rfl, rfl, by kernel_rfl⟩⟩
theorem ta_chosen (A : List Int) (P : List Tree) (hI : TabI A P) (f : Tree) (hs : Small f) (hT : Told A P f) (hk : f.kind = 3 ∨ f.kind = 7 ∨ f.kind = 8 ∨ f.kind = 9) (s : Nat) :
    PCall Try.prog 39 [mdat A P, dtree f, .sc (.int .i64 s)] (.sc (.bool (chE A P s f))) := by
  have hf := hI.few
  refine pcall_intro c39_ok (by simp) (by simp [PureL, Pure, pure_mdat, pure_dtree]) ?_ (by simp [Pure])
  unfold mdat
  (apply rd_sound; focus (repeat' constructor))
  ((conv=>whnf);repeat(refine .intro rfl ?_;conv=>whnf))
  (refine ifK_split (fun k3 => ?_) (fun k3 => ?_) <;> (rw [k3]; ((conv=>whnf);repeat(refine .intro rfl ?_;conv=>whnf))))
  · have k3 : f.kind = 3 := by simpa using k3
    obtain ⟨k, h1, h2⟩ := idx_mem (hT.atom k3)
    have e : chE A P s f = s.testBit k := by unfold chE posE; rw [if_pos k3, h2]; rfl
    have hi := index_int A (by omega) f.num
    rw [h2] at hi
    rw [e, ← bit_P s k (by omega)]
    (refine .inr (.inl ⟨_, _, (by (repeat' (first | exact Deep.refl _ | exact Deep.none _ | exact deep_row _ | exact DeepL.nil | exact DeepLL.nil | refine Deep.agg _ _ ?_ | refine Deep.tup _ _ ?_ | refine Deep.own _ _ _ _ _ _ _ _ rfl ?_ | refine Deep.loc _ _ _ _ _ rfl ?_ | refine Deep.ifc _ _ _ ?_ | refine Deep.fn _ _ _ _ _ ?_ ?_ | refine DeepL.cons _ _ _ _ ?_ ?_ | refine DeepLL.cons _ _ _ _ ?_ ?_ | exact deepLL_refl _))), hi, rfl, ?_⟩); ((conv=>whnf);repeat(refine .intro rfl ?_;conv=>whnf)))
    refine ⟨by omega, ?_⟩
    ((conv=>whnf);repeat(refine .intro rfl ?_;conv=>whnf))
    exact .refl _
  · have k3 : ¬ f.kind = 3 := by simpa using k3
    obtain ⟨k, h1, h2⟩ := idx_part (hT.part (by omega))
    have e : chE A P s f = s.testBit (A.length + k) := by unfold chE posE; rw [if_neg k3, h2]; rfl
    have hi := ta_part A P (by omega) f hs
    rw [h2] at hi
    unfold mdat at hi
    rw [e, ← bit_P s (A.length + k) (by omega)]
    (refine .inr (.inl ⟨_, _, (by (repeat' (first | exact Deep.refl _ | exact Deep.none _ | exact deep_row _ | exact DeepL.nil | exact DeepLL.nil | refine Deep.agg _ _ ?_ | refine Deep.tup _ _ ?_ | refine Deep.own _ _ _ _ _ _ _ _ rfl ?_ | refine Deep.loc _ _ _ _ _ rfl ?_ | refine Deep.ifc _ _ _ ?_ | refine Deep.fn _ _ _ _ _ ?_ ?_ | refine DeepL.cons _ _ _ _ ?_ ?_ | refine DeepLL.cons _ _ _ _ ?_ ?_ | exact deepLL_refl _))), hi, rfl, ?_⟩); ((conv=>whnf);repeat(refine .intro rfl ?_;conv=>whnf)))
    rw [List.length_map]
    (refine .inl ⟨by (unfold InR; rw [IntKind.wrap_i64]; omega), ?_⟩; ((conv=>whnf);repeat(refine .intro rfl ?_;conv=>whnf)))
    refine ⟨by omega, ?_⟩
    ((conv=>whnf);repeat(refine .intro rfl ?_;conv=>whnf))
    exact .refl _
theorem ta_holds (A : List Int) (P : List Tree) (hI : TabI A P) (s : Nat) : ∀ f : Tree, f.wf pKids → Told A P f →
    PCall Try.prog 13 [mdat A P, dtree f, .sc (.int .i64 s)] (.sc (.bool (holdsT (chE A P s) f))) := by
  intro f
  induction f using Tree.ind with
  | h f ih =>
    intro hwf hT
    have hs := wf_small f (wf_p hwf)
    have hsz := hs.width
    have hK := p_kind hwf
    have hE := holdsT_eq (chE A P s) f
    have hch := fun hk => ta_chosen A P hI f hs hT hk s
    refine pcall_intro c13_ok (by simp) (by simp [PureL, Pure, pure_mdat, pure_dtree]) ?_ (by simp [Pure])
    have fin : ∀ {H : List AObj} {b : Bool}, b = holdsN f.kind (chE A P s f) (f.kids.map (holdsT (chE A P s))) → Deep H (.sc (.bool b)) (.sc (.bool (holdsT (chE A P s) f))) := fun h => by rw [hE, h]; exact .refl _
    have ha : ∀ j, j < f.width → (f.kids.map (holdsT (chE A P s))).getD j false = holdsT (chE A P s) (f.kid j) := fun j hj => holds_kid _ hj
    have hI2 : ∀ j, (hj : j < f.width) → PCall Try.prog 13 [mdat A P, dtree (f.kid j), .sc (.int .i64 s)] (.sc (.bool (holdsT (chE A P s) (f.kid j)))) := fun j hj => ih j hj (wf_kid hwf hj) (hT.kid hj)
    unfold mdat at *
    (apply rd_sound; focus (repeat' constructor))
    ((conv=>whnf);repeat(refine .intro rfl ?_;conv=>whnf))
    (refine ifK_split (fun h1 => ?_) (fun h1 => ?_) <;> (rw [h1]; ((conv=>whnf);repeat(refine .intro rfl ?_;conv=>whnf))))
    · have h1 : f.kind = 1 := by simpa using h1
      refine fin ?_; rw [h1]; rfl
    (refine ifK_split (fun h2 => ?_) (fun h2 => ?_) <;> (rw [h2]; ((conv=>whnf);repeat(refine .intro rfl ?_;conv=>whnf))))
    · have h2 : f.kind = 2 := by simpa using h2
      refine fin ?_; rw [h2]; rfl
    (refine ifK_split (fun h4 => ?_) (fun h4 => ?_) <;> (rw [h4]; ((conv=>whnf);repeat(refine .intro rfl ?_;conv=>whnf))))
    · have h4 : f.kind = 4 := by simpa using h4
      have w0 : 0 < f.width := by omega
      have e0 := ha 0 w0
      refine ⟨by omega, _, kid_at w0, ?_⟩; ((conv=>whnf);repeat(refine .intro rfl ?_;conv=>whnf))
      (refine .inl ⟨_, (hI2 0 w0), ?_⟩; ((conv=>whnf);repeat(refine .intro rfl ?_;conv=>whnf)))
      refine fin ?_; rw [h4, ← e0]; rfl
    (refine ifK_split (fun h5 => ?_) (fun h5 => ?_) <;> (rw [h5]; ((conv=>whnf);repeat(refine .intro rfl ?_;conv=>whnf))))
    · have h5 : f.kind = 5 := by simpa using h5
      have w0 : 0 < f.width := by omega
      have w1 : 1 < f.width := by omega
      have e0 := ha 0 w0
      have e1 := ha 1 w1
      refine ⟨by omega, _, kid_at w0, ?_⟩; ((conv=>whnf);repeat(refine .intro rfl ?_;conv=>whnf))
      (refine .inl ⟨_, (hI2 0 w0), ?_⟩; ((conv=>whnf);repeat(refine .intro rfl ?_;conv=>whnf)))
      rw [h5] at fin
      unfold holdsN at fin
      rw [← e0]
      (refine ifK_split (fun q0 => ?_) (fun q0 => ?_) <;> (rw [q0]; ((conv=>whnf);repeat(refine .intro rfl ?_;conv=>whnf))))
      · refine ⟨by omega, _, kid_at w1, ?_⟩; ((conv=>whnf);repeat(refine .intro rfl ?_;conv=>whnf))
        (refine .inl ⟨_, (hI2 1 w1), ?_⟩; ((conv=>whnf);repeat(refine .intro rfl ?_;conv=>whnf)))
        refine fin ?_; (try simp only [← e1, q0]); simp
      · refine fin ?_; (try simp only [q0]); simp
    (refine ifK_split (fun h6 => ?_) (fun h6 => ?_) <;> (rw [h6]; ((conv=>whnf);repeat(refine .intro rfl ?_;conv=>whnf))))
    · have h6 : f.kind = 6 := by simpa using h6
      have w0 : 0 < f.width := by omega
      have w1 : 1 < f.width := by omega
      have e0 := ha 0 w0
      have e1 := ha 1 w1
      refine ⟨by omega, _, kid_at w0, ?_⟩; ((conv=>whnf);repeat(refine .intro rfl ?_;conv=>whnf))
      (refine .inl ⟨_, (hI2 0 w0), ?_⟩; ((conv=>whnf);repeat(refine .intro rfl ?_;conv=>whnf)))
      rw [h6] at fin
      unfold holdsN at fin
      rw [← e0]
      (refine ifK_split (fun q0 => ?_) (fun q0 => ?_) <;> (rw [q0]; ((conv=>whnf);repeat(refine .intro rfl ?_;conv=>whnf))))
      · refine fin ?_; (try simp only [q0]); simp
      · refine ⟨by omega, _, kid_at w1, ?_⟩; ((conv=>whnf);repeat(refine .intro rfl ?_;conv=>whnf))
        (refine .inl ⟨_, (hI2 1 w1), ?_⟩; ((conv=>whnf);repeat(refine .intro rfl ?_;conv=>whnf)))
        refine fin ?_; (try simp only [← e1, q0]); simp
    (refine ifK_split (fun h8 => ?_) (fun h8 => ?_) <;> (rw [h8]; ((conv=>whnf);repeat(refine .intro rfl ?_;conv=>whnf))))
    · have h8 : f.kind = 8 := by simpa using h8
      have w0 : 0 < f.width := by omega
      have w1 : 1 < f.width := by omega
      have e0 := ha 0 w0
      have e1 := ha 1 w1
      refine ⟨by omega, _, kid_at w1, ?_⟩; ((conv=>whnf);repeat(refine .intro rfl ?_;conv=>whnf))
      (refine .inl ⟨_, (hI2 1 w1), ?_⟩; ((conv=>whnf);repeat(refine .intro rfl ?_;conv=>whnf)))
      rw [h8] at fin
      unfold holdsN at fin
      rw [← e1]
      (refine ifK_split (fun q1 => ?_) (fun q1 => ?_) <;> (rw [q1]; ((conv=>whnf);repeat(refine .intro rfl ?_;conv=>whnf))))
      · refine fin ?_; (try simp only [q1]); simp
      · refine ⟨by omega, _, kid_at w0, ?_⟩; ((conv=>whnf);repeat(refine .intro rfl ?_;conv=>whnf))
        (refine .inl ⟨_, (hI2 0 w0), ?_⟩; ((conv=>whnf);repeat(refine .intro rfl ?_;conv=>whnf)))
        rw [← e0]
        (refine ifK_split (fun q0 => ?_) (fun q0 => ?_) <;> (rw [q0]; ((conv=>whnf);repeat(refine .intro rfl ?_;conv=>whnf))))
        · (refine .inl ⟨_, (hch (by omega)), ?_⟩; ((conv=>whnf);repeat(refine .intro rfl ?_;conv=>whnf)))
          refine fin ?_; (try simp only [q0, q1]); simp
        · refine fin ?_; (try simp only [q0, q1]); simp
    (refine ifK_split (fun h9 => ?_) (fun h9 => ?_) <;> (rw [h9]; ((conv=>whnf);repeat(refine .intro rfl ?_;conv=>whnf))))
    · have h9 : f.kind = 9 := by simpa using h9
      have w0 : 0 < f.width := by omega
      have w1 : 1 < f.width := by omega
      have e0 := ha 0 w0
      have e1 := ha 1 w1
      refine ⟨by omega, _, kid_at w1, ?_⟩; ((conv=>whnf);repeat(refine .intro rfl ?_;conv=>whnf))
      (refine .inl ⟨_, (hI2 1 w1), ?_⟩; ((conv=>whnf);repeat(refine .intro rfl ?_;conv=>whnf)))
      rw [h9] at fin
      unfold holdsN at fin
      rw [← e1]
      (refine ifK_split (fun q1 => ?_) (fun q1 => ?_) <;> (rw [q1]; ((conv=>whnf);repeat(refine .intro rfl ?_;conv=>whnf))))
      · refine ⟨by omega, _, kid_at w0, ?_⟩; ((conv=>whnf);repeat(refine .intro rfl ?_;conv=>whnf))
        (refine .inl ⟨_, (hI2 0 w0), ?_⟩; ((conv=>whnf);repeat(refine .intro rfl ?_;conv=>whnf)))
        rw [← e0]
        (refine ifK_split (fun q0 => ?_) (fun q0 => ?_) <;> (rw [q0]; ((conv=>whnf);repeat(refine .intro rfl ?_;conv=>whnf))))
        · refine fin ?_; (try simp only [q0, q1]); simp
        · (refine .inl ⟨_, (hch (by omega)), ?_⟩; ((conv=>whnf);repeat(refine .intro rfl ?_;conv=>whnf)))
          refine fin ?_; (try simp only [q0, q1]); simp
      · refine fin ?_; (try simp only [q1]); simp
    have h3 : f.kind = 3 ∨ f.kind = 7 := by
      simp only [beq_eq_false_iff_ne] at h1 h2 h4 h5 h6 h8 h9
      omega
    (refine .inl ⟨_, (hch (by omega)), ?_⟩; ((conv=>whnf);repeat(refine .intro rfl ?_;conv=>whnf)))
    refine fin ?_; rcases h3 with h3 | h3 <;> rw [h3] <;> rfl
theorem ta_owed (A : List Int) (P : List Tree) (hA : A.length ≤ 60) (s : Nat) : PCall Try.prog 15 [mdat A P, .sc (.int .i64 s)] (.sc (.int .i64 ((s / 2 ^ A.length : Nat) : Int))) := by
  refine pcall_intro c15_ok (by simp) (by simp [PureL, Pure, pure_mdat]) ?_ (by simp [Pure])
  unfold mdat
  (apply rd_sound; focus (repeat' constructor))
  ((conv=>whnf);repeat(refine .intro rfl ?_;conv=>whnf))
  rw [List.length_map]
  refine ⟨by omega, ?_⟩
  ((conv=>whnf);repeat(refine .intro rfl ?_;conv=>whnf))
  exact deep_eq (congrArg (fun x => D.sc (.int .i64 x)) (fdiv_shr s A.length (by omega)))
theorem base_told {A : List Int} {P : List Tree} (hI : TabI A P) {g : Tree} (hg : g ∈ P) : (baseT g).wf pKids ∧ Told A P (baseT g) := by
  obtain ⟨h1, h2⟩ := hI.wf g hg
  have hT := hI.told g hg
  unfold baseT
  split
  · have w0 : 0 < g.width := wf_wide (wf_p h1) (by omega)
    exact ⟨wf_kid h1 w0, hT.kid w0⟩
  · exact ⟨h1, hT⟩
theorem treeP_mem {P : List Tree} {k : Nat} (h : k < P.length) : P.getD k default ∈ P := by
  rw [List.getD_eq_getElem?_getD, List.getElem?_eq_getElem h]; simp
theorem ta_kept (A : List Int) (P : List Tree) (hI : TabI A P) (s : Nat) : PCall Try.prog 12 [mdat A P, .sc (.int .i64 s)] (.sc (.int .i64 (keptE A P s))) := by
  have hf := hI.few
  refine pcall_intro c12_ok (by simp) (by simp [PureL, Pure, pure_mdat]) ?_ (by simp [Pure])
  have hH := fun g (hg : g ∈ P) => ta_holds A P hI s (baseT g) (base_told hI hg).1 (base_told hI hg).2
  unfold mdat at *
  (apply rd_sound; focus (repeat' constructor))
  ((conv=>whnf);repeat(refine .intro rfl ?_;conv=>whnf))
  rw [trows_len]
  refine pwp_for [0, 1, 12, 13] (fun k : Nat => [(5, .sc (.int .i64 (keptN (hK A P s) k))), (14, .sc (.int .i64 k))]) (fun _ => []) (fun k => k ≤ P.length) (fun k => P.length - k) 0 ?_
  ((conv=>whnf);repeat(refine .intro rfl ?_;conv=>whnf))
  refine ⟨by omega, by (repeat' (first | exact trivial | refine And.intro rfl ?_)), rfl, ?_⟩
  rintro k hk
  ((conv=>whnf);repeat(refine .intro rfl ?_;conv=>whnf))
  (apply rd_sound; focus (repeat' constructor))
  ((conv=>whnf);repeat(refine .intro rfl ?_;conv=>whnf))
  (refine ifK_split (fun q0 => ?_) (fun q0 => ?_) <;> (rw [q0]; ((conv=>whnf);repeat(refine .intro rfl ?_;conv=>whnf))))
  · have q0 : k < P.length := by ((try simp only[oo,reduceCtorEq]at*)<;>omega)
    refine ⟨by omega, _, trows_at (k := k) (by omega) q0, ?_⟩
    ((conv=>whnf);repeat(refine .intro rfl ?_;conv=>whnf))
    have hg := treeP_mem q0
    obtain ⟨hw, hk7⟩ := hI.wf _ hg
    have hB := hH _ hg
    have hb : hK A P s k = holdsT (chE A P s) (baseT (P.getD k default)) := rfl
    have hS : keptN (hK A P s) (k + 1) = if hK A P s k = true then keptN (hK A P s) k + 2 ^ k else keptN (hK A P s) k := rfl
    have hlt := keptN_lt (hK A P s) k
    have hp10 := two_pow10 (n := k) (by omega)
    have e1 : (1 : Int) * 2 ^ min ((k : Int)).toNat IntKind.i64.bits = ((2 ^ k : Nat) : Int) := one_shl k (by omega)
    have e2 := or_one (keptN (hK A P s) k) k hlt (by omega)
    rw [← hb] at hB
    generalize hK A P s k = b at *
    generalize P.getD k default = g at *
    (refine ifK_split (fun g7 => ?_) (fun g7 => ?_) <;> (rw [g7]; ((conv=>whnf);repeat(refine .intro rfl ?_;conv=>whnf))))
    · have g7 : g.kind = 7 := by simpa using g7
      have w0 : 0 < g.width := wf_wide (wf_p hw) (by omega)
      rw [show baseT g = g.kid 0 from if_pos g7] at hB
      refine ⟨by omega, _, kid_at w0, ?_⟩
      ((conv=>whnf);repeat(refine .intro rfl ?_;conv=>whnf))
      (refine .inl ⟨_, hB, ?_⟩; ((conv=>whnf);repeat(refine .intro rfl ?_;conv=>whnf)))
      cases b
      · rw [if_neg (by decide)] at hS
        ((conv=>whnf);repeat(refine .intro rfl ?_;conv=>whnf))
        (refine .inl ⟨by (unfold InR; rw [IntKind.wrap_i64]; omega), ?_⟩; ((conv=>whnf);repeat(refine .intro rfl ?_;conv=>whnf)))
        refine ⟨k + 1, by omega, by dsimp only; omega, ?_⟩
        dsimp only
        rw [hS]
        (refine leB_close 0 (by simp) rfl ?_ ?_ <;> (repeat' (first | exact trivial | exact rfl | exact DeepM.refl _ | exact DeepML.refl _ | exact DeepMLL.refl _ | refine And.intro ?_ ?_ | (simp [Under, UnderL, UnderLL, -List.map_take, -List.map_drop]; done))))
        all_goals first | exact underLL_pure _ (pure_trows _) | exact under_pure _ (pure_dints _) | skip
      · rw [if_pos rfl] at hS
        ((conv=>whnf);repeat(refine .intro rfl ?_;conv=>whnf))
        refine ⟨by omega, ?_⟩
        rw [e1]
        generalize 2 ^ k = z at *
        (refine .inl ⟨by (unfold InR; rw [IntKind.wrap_i64]; omega), ?_⟩; ((conv=>whnf);repeat(refine .intro rfl ?_;conv=>whnf)))
        rw [e2]
        (refine .inl ⟨by (unfold InR; rw [IntKind.wrap_i64]; omega), ?_⟩; ((conv=>whnf);repeat(refine .intro rfl ?_;conv=>whnf)))
        refine ⟨k + 1, by omega, by dsimp only; omega, ?_⟩
        dsimp only
        rw [hS]
        (refine leB_close 0 (by simp) rfl ?_ ?_ <;> (repeat' (first | exact trivial | exact rfl | exact DeepM.refl _ | exact DeepML.refl _ | exact DeepMLL.refl _ | refine And.intro ?_ ?_ | (simp [Under, UnderL, UnderLL, -List.map_take, -List.map_drop]; done))))
        all_goals first | exact underLL_pure _ (pure_trows _) | exact under_pure _ (pure_dints _) | skip
    · have g7 : ¬ g.kind = 7 := by simpa using g7
      rw [show baseT g = g from if_neg g7] at hB
      (refine .inl ⟨_, hB, ?_⟩; ((conv=>whnf);repeat(refine .intro rfl ?_;conv=>whnf)))
      cases b
      · rw [if_neg (by decide)] at hS
        ((conv=>whnf);repeat(refine .intro rfl ?_;conv=>whnf))
        (refine .inl ⟨by (unfold InR; rw [IntKind.wrap_i64]; omega), ?_⟩; ((conv=>whnf);repeat(refine .intro rfl ?_;conv=>whnf)))
        refine ⟨k + 1, by omega, by dsimp only; omega, ?_⟩
        dsimp only
        rw [hS]
        (refine leB_close 0 (by simp) rfl ?_ ?_ <;> (repeat' (first | exact trivial | exact rfl | exact DeepM.refl _ | exact DeepML.refl _ | exact DeepMLL.refl _ | refine And.intro ?_ ?_ | (simp [Under, UnderL, UnderLL, -List.map_take, -List.map_drop]; done))))
        all_goals first | exact underLL_pure _ (pure_trows _) | exact under_pure _ (pure_dints _) | skip
      · rw [if_pos rfl] at hS
        ((conv=>whnf);repeat(refine .intro rfl ?_;conv=>whnf))
        refine ⟨by omega, ?_⟩
        rw [e1]
        generalize 2 ^ k = z at *
        (refine .inl ⟨by (unfold InR; rw [IntKind.wrap_i64]; omega), ?_⟩; ((conv=>whnf);repeat(refine .intro rfl ?_;conv=>whnf)))
        rw [e2]
        (refine .inl ⟨by (unfold InR; rw [IntKind.wrap_i64]; omega), ?_⟩; ((conv=>whnf);repeat(refine .intro rfl ?_;conv=>whnf)))
        refine ⟨k + 1, by omega, by dsimp only; omega, ?_⟩
        dsimp only
        rw [hS]
        (refine leB_close 0 (by simp) rfl ?_ ?_ <;> (repeat' (first | exact trivial | exact rfl | exact DeepM.refl _ | exact DeepML.refl _ | exact DeepMLL.refl _ | refine And.intro ?_ ?_ | (simp [Under, UnderL, UnderLL, -List.map_take, -List.map_drop]; done))))
        all_goals first | exact underLL_pure _ (pure_trows _) | exact under_pure _ (pure_dints _) | skip
  · have q0 : k = P.length := by have : ¬ k < P.length := by ((try simp only[oo,reduceCtorEq]at*)<;>omega)
                                 omega
    subst q0
    exact .refl _
theorem ta_bits (A : List Int) (P : List Tree) (hA : A.length ≤ 60) (hr : ∀ x ∈ A, 0 ≤ x ∧ x ≤ 63) (s : Nat) (is : Bool) : PCall Try.prog 16 [mdat A P, .sc (.int .i64 s), .sc (.bool is)] (.sc (.int .u64 (lettA A s is A.length))) := by
  refine pcall_intro c16_ok (by simp) (by simp [PureL, Pure, pure_mdat]) ?_ (by simp [Pure])
  unfold mdat
  (apply rd_sound; focus (repeat' constructor))
  ((conv=>whnf);repeat(refine .intro rfl ?_;conv=>whnf))
  rw [List.length_map]
  refine pwp_for [1, 2, 13, 14] (fun k : Nat => [(7, .sc (.int .u64 (lettA A s is k))), (15, .sc (.int .i64 k))]) (fun _ => []) (fun k => k ≤ A.length) (fun k => A.length - k) 0 ?_
  ((conv=>whnf);repeat(refine .intro rfl ?_;conv=>whnf))
  refine ⟨by omega, by (repeat' (first | exact trivial | refine And.intro rfl ?_)), rfl, ?_⟩
  rintro k hk
  ((conv=>whnf);repeat(refine .intro rfl ?_;conv=>whnf))
  (apply rd_sound; focus (repeat' constructor))
  ((conv=>whnf);repeat(refine .intro rfl ?_;conv=>whnf))
  (refine ifK_split (fun q0 => ?_) (fun q0 => ?_) <;> (rw [q0]; ((conv=>whnf);repeat(refine .intro rfl ?_;conv=>whnf))))
  · have q0 : k < A.length := by ((try simp only[oo,reduceCtorEq]at*)<;>omega)
    refine ⟨by omega, _, intsD_at (l := A) (k := k) (by omega) q0, ?_⟩
    ((conv=>whnf);repeat(refine .intro rfl ?_;conv=>whnf))
    have hx := hr _ (mem_getD q0)
    have hS : lettA A s is (k + 1) = if (s.testBit k == is) = true then bitsV .or .u64 (lettA A s is k) (2 ^ (A.getD k 0).toNat) else lettA A s is k := rfl
    generalize A.getD k 0 = x at *
    refine ⟨by omega, ?_⟩
    ((conv=>whnf);repeat(refine .intro rfl ?_;conv=>whnf))
    have eb : (bitsV .and .i64 ((s : Int).fdiv (2 ^ min ((k : Int)).toNat IntKind.i64.bits)) 1 == 1) = s.testBit k := bit_P s k (by omega)
    have e1 : (1 : Int) * 2 ^ min x.toNat IntKind.u64.bits = 2 ^ x.toNat := by
      rw [show IntKind.u64.bits = 64 from rfl, Nat.min_eq_left (by omega), Int.one_mul]
    have hb2 : (0 : Int) ≤ 2 ^ x.toNat ∧ (2 : Int) ^ x.toNat < 18446744073709551616 := by
      have h1 : 2 ^ x.toNat ≤ 2 ^ 63 := Nat.pow_le_pow_right (by omega) (by omega)
      have h2 : (2 : Nat) ^ 63 = 9223372036854775808 := by decide
      rw [two_powI]
      generalize 2 ^ x.toNat = z at *
      omega
    rw [eb]
    cases r : (s.testBit k == is)
    · rw [r, if_neg (by decide)] at hS
      ((conv=>whnf);repeat(refine .intro rfl ?_;conv=>whnf))
      (refine .inl ⟨by (unfold InR; rw [IntKind.wrap_i64]; omega), ?_⟩; ((conv=>whnf);repeat(refine .intro rfl ?_;conv=>whnf)))
      refine ⟨k + 1, by omega, by dsimp only; omega, ?_⟩
      dsimp only
      rw [hS]
      exact leB_envH (by (repeat' (first | exact trivial | refine And.intro rfl ?_))) rfl
    · rw [r, if_pos rfl] at hS
      ((conv=>whnf);repeat(refine .intro rfl ?_;conv=>whnf))
      refine ⟨by omega, ?_⟩
      rw [e1]
      refine .inl ⟨by unfold InR; rw [IntKind.wrap_u64]; omega, ?_⟩
      ((conv=>whnf);repeat(refine .intro rfl ?_;conv=>whnf))
      (refine .inl ⟨by (unfold InR; rw [IntKind.wrap_i64]; omega), ?_⟩; ((conv=>whnf);repeat(refine .intro rfl ?_;conv=>whnf)))
      refine ⟨k + 1, by omega, by dsimp only; omega, ?_⟩
      dsimp only
      rw [hS]
      exact leB_envH (by (repeat' (first | exact trivial | refine And.intro rfl ?_))) rfl
  · have q0 : k = A.length := by have : ¬ k < A.length := by ((try simp only[oo,reduceCtorEq]at*)<;>omega)
                                 omega
    subst q0
    exact .refl _
theorem ta_fair (A : List Int) (P : List Tree) (hI : TabI A P) (s : Nat) (g : Tree) (hw : g.wf pKids) (hT : Told A P g) (hk : g.kind = 8 ∨ g.kind = 9) : PCall Try.prog 17 [mdat A P, dtree g, .sc (.int .i64 s)] (.sc (.bool (fairE A P g s))) := by
  have hf := hI.few
  have w1 : 1 < g.width := by have := p_kind hw; omega
  have h0 := ta_holds A P hI s g hw hT
  have h1 := ta_holds A P hI s (g.kid 1) (wf_kid hw w1) (hT.kid w1)
  have hE : fairE A P g s = if g.kind = 8 then !(holdsT (chE A P s) g) || holdsT (chE A P s) (g.kid 1) else holdsT (chE A P s) g || !(holdsT (chE A P s) (g.kid 1)) := rfl
  refine pcall_intro c17_ok (by simp) (by simp [PureL, Pure, pure_mdat, pure_dtree]) ?_ (by simp [Pure])
  generalize holdsT (chE A P s) g = b0 at *
  generalize holdsT (chE A P s) (g.kid 1) = b1 at *
  rw [hE]
  unfold mdat at *
  (apply rd_sound; focus (repeat' constructor))
  ((conv=>whnf);repeat(refine .intro rfl ?_;conv=>whnf))
  (refine ifK_split (fun g8 => ?_) (fun g8 => ?_) <;> (rw [g8]; ((conv=>whnf);repeat(refine .intro rfl ?_;conv=>whnf))))
  · have g8 : g.kind = 8 := by simpa using g8
    rw [if_pos g8]
    (refine .inl ⟨_, h0, ?_⟩; ((conv=>whnf);repeat(refine .intro rfl ?_;conv=>whnf)))
    cases b0
    · ((conv=>whnf);repeat(refine .intro rfl ?_;conv=>whnf))
      exact .refl _
    · ((conv=>whnf);repeat(refine .intro rfl ?_;conv=>whnf))
      refine ⟨by omega, _, kid_at w1, ?_⟩
      ((conv=>whnf);repeat(refine .intro rfl ?_;conv=>whnf))
      (refine .inl ⟨_, h1, ?_⟩; ((conv=>whnf);repeat(refine .intro rfl ?_;conv=>whnf)))
      exact .refl _
  · have g8 : ¬ g.kind = 8 := by simpa using g8
    rw [if_neg g8]
    (refine .inl ⟨_, h0, ?_⟩; ((conv=>whnf);repeat(refine .intro rfl ?_;conv=>whnf)))
    cases b0
    · ((conv=>whnf);repeat(refine .intro rfl ?_;conv=>whnf))
      refine ⟨by omega, _, kid_at w1, ?_⟩
      ((conv=>whnf);repeat(refine .intro rfl ?_;conv=>whnf))
      (refine .inl ⟨_, h1, ?_⟩; ((conv=>whnf);repeat(refine .intro rfl ?_;conv=>whnf)))
      exact .refl _
    · ((conv=>whnf);repeat(refine .intro rfl ?_;conv=>whnf))
      exact .refl _
end Go.Proofs.Ytihgbinhidppdaa
