/-
  Letters of a word, of the program and of the reference, over deep values. No statement is proved here.
-/
import Derived.Test.YtfaekhadjlgbbaaQLas
import Derived.Test.YtfaekhadjlgbbaaQAw
import Derived.Test.YtfaekhadjlgbbaaQBit
namespace Go.Proofs.Ytfaekhadjlgbbaa
open Go.RowKit
set_option linter.unusedSimpArgs false
set_option linter.unusedVariables false
def c34 : PC := .seq (.ops [⟨some 2,.box (.tmp 0),none,0⟩,
 ⟨some 4,.move (.const (.int .u64 0)),none,0⟩] false) (.seq (.seq (.ops [⟨some 5,.move (.tmp 1),none,0⟩,
 ⟨some 6,.faddr 0 (.tmp 2),none,0⟩,
 ⟨some 7,.load1 (.tmp 6),none,0⟩,
 ⟨some 8,.len (.tmp 7),none,0⟩,
 ⟨some 9,.faddr 1 (.tmp 2),none,0⟩,
 ⟨some 10,.load1 (.tmp 9),none,0⟩,
 ⟨some 11,.len (.tmp 10),none,0⟩,
 ⟨some 12,.bin .add (.tmp 8) (.tmp 11),none,0⟩,
 ⟨some 13,.bin .geq (.tmp 5) (.tmp 12),none,0⟩] false) (.cond (.tmp 13) (.ops [⟨some 14,.faddr 0 (.tmp 2),none,0⟩,
 ⟨some 15,.load1 (.tmp 14),none,1⟩,
 ⟨some 16,.len (.tmp 15),none,3⟩,
 ⟨some 17,.move (.tmp 1),none,0⟩,
 ⟨some 18,.faddr 0 (.tmp 2),none,0⟩,
 ⟨some 19,.load1 (.tmp 18),none,16⟩,
 ⟨some 20,.len (.tmp 19),none,48⟩,
 ⟨some 21,.bin .sub (.tmp 17) (.tmp 20),none,120⟩,
 ⟨some 22,.faddr 1 (.tmp 2),none,0⟩,
 ⟨some 23,.load1 (.tmp 22),none,256⟩,
 ⟨some 24,.len (.tmp 23),none,768⟩,
 ⟨some 25,.bin .rem (.tmp 21) (.tmp 24),none,2040⟩,
 ⟨some 26,.bin .add (.tmp 16) (.tmp 25),none,4095⟩,
 ⟨some 1,.move (.tmp 26),none,8191⟩] true) (.skip))) (.seq (.seq (.ops [⟨some 27,.move (.tmp 1),none,0⟩,
 ⟨some 28,.faddr 0 (.tmp 2),none,0⟩,
 ⟨some 29,.load1 (.tmp 28),none,0⟩,
 ⟨some 30,.len (.tmp 29),none,0⟩,
 ⟨some 31,.bin .lss (.tmp 27) (.tmp 30),none,0⟩] false) (.cond (.tmp 31) (.seq (.ops [⟨some 32,.faddr 0 (.tmp 2),none,0⟩,
 ⟨some 33,.load1 (.tmp 32),none,0⟩,
 ⟨some 34,.move (.tmp 1),none,0⟩,
 ⟨some 35,.iaddr 1 (.tmp 33) (.tmp 34),none,0⟩,
 ⟨some 36,.load1 (.tmp 35),none,0⟩,
 ⟨some 4,.move (.tmp 36),none,0⟩] false) (.ret)) (.skip))) (.seq (.ops [⟨some 37,.faddr 1 (.tmp 2),none,0⟩,
 ⟨some 38,.load1 (.tmp 37),none,0⟩,
 ⟨some 39,.move (.tmp 1),none,0⟩,
 ⟨some 40,.faddr 0 (.tmp 2),none,0⟩,
 ⟨some 41,.load1 (.tmp 40),none,0⟩,
 ⟨some 42,.len (.tmp 41),none,0⟩,
 ⟨some 43,.bin .sub (.tmp 39) (.tmp 42),none,0⟩,
 ⟨some 44,.iaddr 1 (.tmp 38) (.tmp 43),none,0⟩,
 ⟨some 45,.load1 (.tmp 44),none,0⟩,
 ⟨some 4,.move (.tmp 45),none,0⟩] false) (.ret))))
set_option maxRecDepth 100000 in
theorem c34_ok : FunOK Try.prog 34 46 [.tmp 4] c34 := ⟨⟨Try.f34, Try.func34, rfl, by kernel_rfl, rfl, by kernel_rfl⟩⟩
theorem ref_At (s l : List Int) (hl : 1 ≤ l.length) (h1 : s.length ≤ 1000) (h2 : l.length ≤ 1000) (i : Nat) (hi : i ≤ 1000000000) : PCall Try.prog 34 [dword s l, .sc (.int .i64 i)] (du (atW s l i)) := by
  refine pcall_intro c34_ok (by simp) (by simp [PureL, Pure, pure_dword]) ?_ (by simp [du, Pure])
  unfold dword wcells dlet
  (apply rd_sound; focus (repeat' constructor))
  ((conv=>whnf);repeat(refine .intro rfl ?_;conv=>whnf))
  rw [List.length_map, List.length_map]
  refine .inl ⟨by unfold InR; rw [IntKind.wrap_i64]; omega, ?_⟩
  ((conv=>whnf);repeat(refine .intro rfl ?_;conv=>whnf))
  have fin : ∀ {H : List AObj} {n : Int}, n = atW s l i → Deep H (.sc (.int .u64 n)) (du (atW s l i)) := fun h => h ▸ .refl _
  (refine ifK_split (fun g1 => ?_) (fun g1 => ?_) <;> (rw [g1]; ((conv=>whnf);repeat(refine .intro rfl ?_;conv=>whnf))))
  · have g1 : s.length + l.length ≤ i := by ((try simp only[oo,reduceCtorEq]at*)<;>omega)
    rw [List.length_map]
    refine .inl ⟨by unfold InR; rw [IntKind.wrap_i64]; omega, ?_⟩
    ((conv=>whnf);repeat(refine .intro rfl ?_;conv=>whnf))
    rw [List.length_map]
    refine ⟨by omega, ?_⟩
    rw [show ((i : Int) - s.length).tmod l.length = (((i - s.length) % l.length : Nat) : Int) by rw [show (i : Int) - s.length = ((i - s.length : Nat) : Int) by omega, ← Int.ofNat_tmod]]
    have hlt : (i - s.length) % l.length < l.length := Nat.mod_lt _ (by omega)
    generalize hr : (i - s.length) % l.length = r at hlt
    ((conv=>whnf);repeat(refine .intro rfl ?_;conv=>whnf))
    refine .inl ⟨by unfold InR; rw [IntKind.wrap_i64]; omega, ?_⟩
    ((conv=>whnf);repeat(refine .intro rfl ?_;conv=>whnf))
    rw [List.length_map]
    (refine ifK_split (fun g2 => ?_) (fun g2 => ?_) <;> (rw [g2]; ((conv=>whnf);repeat(refine .intro rfl ?_;conv=>whnf))))
    · exfalso; ((try simp only[oo,reduceCtorEq]at*)<;>omega)
    rw [List.length_map]
    refine .inl ⟨by unfold InR; rw [IntKind.wrap_i64]; omega, ?_⟩
    ((conv=>whnf);repeat(refine .intro rfl ?_;conv=>whnf))
    obtain ⟨q1, q2⟩ := let_atZ (l := l) (z := (s.length : Int) + r - s.length) r (by omega) hlt
    refine ⟨q1, _, q2, ?_⟩
    ((conv=>whnf);repeat(refine .intro rfl ?_;conv=>whnf))
    exact fin (by unfold atW; rw [if_neg (by omega), hr])
  · have g1 : ¬ s.length + l.length ≤ i := by ((try simp only[oo,reduceCtorEq]at*)<;>omega)
    rw [List.length_map]
    (refine ifK_split (fun g2 => ?_) (fun g2 => ?_) <;> (rw [g2]; ((conv=>whnf);repeat(refine .intro rfl ?_;conv=>whnf))))
    · have g2 : i < s.length := by ((try simp only[oo,reduceCtorEq]at*)<;>omega)
      obtain ⟨q1, q2⟩ := let_atZ (l := s) (z := (i : Int)) i rfl g2
      refine ⟨q1, _, q2, ?_⟩
      ((conv=>whnf);repeat(refine .intro rfl ?_;conv=>whnf))
      exact fin (by unfold atW; rw [if_pos g2])
    · have g2 : ¬ i < s.length := by ((try simp only[oo,reduceCtorEq]at*)<;>omega)
      rw [List.length_map]
      refine .inl ⟨by unfold InR; rw [IntKind.wrap_i64]; omega, ?_⟩
      ((conv=>whnf);repeat(refine .intro rfl ?_;conv=>whnf))
      obtain ⟨q1, q2⟩ := let_atZ (l := l) (z := (i : Int) - s.length) (i - s.length) (by omega) (by omega)
      refine ⟨q1, _, q2, ?_⟩
      ((conv=>whnf);repeat(refine .intro rfl ?_;conv=>whnf))
      exact fin (by unfold atW; rw [if_neg g2, Nat.mod_eq_of_lt (by omega)])
end Go.Proofs.Ytfaekhadjlgbbaa
