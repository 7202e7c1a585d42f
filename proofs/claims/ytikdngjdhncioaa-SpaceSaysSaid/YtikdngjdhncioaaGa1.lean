/-
  Tokens: which flows come from which, over deep values. No statement is proved here.
-/
import Derived.Test.YtikdngjdhncioaaGa0
import Derived.Test.YtikdngjdhncioaaSt1
import Derived.Test.YtikdngjdhncioaaSc2
namespace Go.Proofs.Ytikdngjdhncioaa
open Go.RowKit
set_option linter.unusedSimpArgs false
set_option linter.unusedVariables false
theorem queue_head {Z : List Int} {lo hi : Nat} (h1 : lo < hi) (h2 : hi ≤ Z.length) : (Z.take hi).drop lo = Z.getD lo 0 :: (Z.take hi).drop (lo + 1) := by
  rw [List.drop_eq_getElem_cons (by rw [List.length_take]; omega), List.getElem_take, List.getD_eq_getElem?_getD, List.getElem?_eq_getElem (by omega)]
  rfl
theorem i64s_queue {Z : List Int} {lo hi : Nat} {k : Int} : ((i64s Z).take hi).drop lo ++ [[D.sc (.int .i64 k)]] = i64s ((Z.take hi).drop lo ++ [k]) := by
  simp [i64s]
def c100_2 : PC := .seq (.ops [⟨(some 41), .bin .lss (.tmp 40) (.tmp 39), none, 0⟩] false) (.seq (.cond (.tmp 41) (.skip) (.exit 2)) (.seq (.block 3 (.seq (.ops [⟨(some 42), .move (.tmp 40), none, 0⟩,
    ⟨(some 43), .iaddr 2 (.tmp 38) (.tmp 40), none, 0⟩,
    ⟨(some 44), .loadA 2 (.tmp 43), none, 0⟩,
    ⟨(some 11), .alloc [(.int .i64 0), (.int .i64 0)], none, 0⟩,
    ⟨(some 10), .move (.tmp 42), none, 0⟩,
    ⟨none, .store 2 (.tmp 11) (.tmp 44), none, 0⟩] false) (.seq (.ops [⟨(some 45), .faddr 1 (.tmp 11), none, 0⟩,
    ⟨(some 46), .load1 (.tmp 45), none, 0⟩,
    ⟨(some 47), .move (.tmp 9), none, 0⟩,
    ⟨(some 48), .bin .eql (.tmp 46) (.tmp 47), none, 0⟩,
    ⟨(some 49), .move (.tmp 48), none, 0⟩,
    ⟨(some 50), .move (.tmp 7), (some (49, true)), 0⟩,
    ⟨(some 51), .move (.tmp 10), (some (49, true)), 0⟩,
    ⟨(some 52), .iaddr 1 (.tmp 50) (.tmp 51), (some (49, true)), 0⟩,
    ⟨(some 53), .load1 (.tmp 52), (some (49, true)), 0⟩,
    ⟨(some 54), .un .not (.tmp 53), (some (49, true)), 0⟩,
    ⟨(some 55), .pick (.tmp 49) (.tmp 54) (.const (.bool false)), none, 0⟩] false) (.cond (.tmp 55) (.seq (.ops [⟨(some 56), .move (.tmp 7), none, 0⟩,
    ⟨(some 57), .move (.tmp 10), none, 0⟩,
    ⟨(some 58), .iaddr 1 (.tmp 56) (.tmp 57), none, 0⟩,
    ⟨none, .store 1 (.tmp 58) (.const (.bool true)), none, 0⟩] false) (.ops [⟨(some 59), .move (.tmp 8), none, 0⟩,
    ⟨(some 60), .move (.tmp 10), none, 0⟩,
    ⟨(some 61), .bslice 1 1 [(.tmp 60)], none, 0⟩,
    ⟨(some 62), .append 1 8 (.tmp 59) (.tmp 61), none, 0⟩,
    ⟨(some 8), .move (.tmp 62), none, 0⟩] false)) (.skip))))) (.ops [⟨(some 63), .bin .add (.tmp 40) (.const (.int .i64 1)), none, 0⟩,
    ⟨(some 40), .move (.tmp 63), none, 0⟩] false)))
def c100_1 : PC := .seq (.seq (.ops [⟨(some 21), .move (.tmp 8), none, 0⟩,
    ⟨(some 22), .len (.tmp 21), none, 0⟩,
    ⟨(some 23), .bin .gtr (.tmp 22) (.const (.int .i64 0)), none, 0⟩] false) (.cond (.tmp 23) (.skip) (.exit 0))) (.block 1 (.seq (.ops [⟨(some 24), .faddr 1 (.tmp 3), none, 0⟩,
    ⟨(some 25), .load1 (.tmp 24), none, 1⟩,
    ⟨(some 26), .move (.tmp 8), none, 0⟩,
    ⟨(some 27), .iaddr 1 (.tmp 26) (.const (.int .i64 0)), none, 4⟩,
    ⟨(some 28), .load1 (.tmp 27), none, 12⟩,
    ⟨(some 29), .iaddr 2 (.tmp 25) (.tmp 28), none, 31⟩,
    ⟨(some 30), .faddr 0 (.tmp 29), none, 63⟩,
    ⟨(some 31), .load1 (.tmp 30), none, 127⟩,
    ⟨(some 9), .move (.tmp 31), none, 255⟩] true) (.seq (.ops [⟨(some 32), .move (.tmp 8), none, 0⟩,
    ⟨(some 33), .slc 1 (.tmp 32) (some (.const (.int .i64 1))) none none, none, 0⟩,
    ⟨(some 8), .move (.tmp 33), none, 0⟩] false) (.seq (.seq (.ops [⟨(some 34), .move (.tmp 9), none, 0⟩,
    ⟨(some 35), .move (.tmp 2), none, 0⟩,
    ⟨(some 36), .bin .eql (.tmp 34) (.tmp 35), none, 0⟩] false) (.cond (.tmp 36) (.exit 1) (.skip))) (.seq (.ops [⟨(some 37), .faddr 1 (.tmp 3), none, 0⟩,
    ⟨(some 38), .load1 (.tmp 37), none, 0⟩,
    ⟨(some 39), .len (.tmp 38), none, 0⟩,
    ⟨(some 40), .move (.const (.int .i64 0)), none, 0⟩] false) (.block 2 (.loop c100_2)))))))
def c100 : PC := .seq (.ops [⟨(some 3), .box (.tmp 0), none, 0⟩,
    ⟨(some 6), .move (.const (.slice none 0 0)), none, 0⟩] false) (.seq (.ops [⟨(some 12), .faddr 1 (.tmp 3), none, 0⟩,
    ⟨(some 13), .load1 (.tmp 12), none, 0⟩,
    ⟨(some 14), .len (.tmp 13), none, 0⟩,
    ⟨(some 15), .mslice 1 1 [(.bool false)] (.tmp 14) (.tmp 14), none, 0⟩,
    ⟨(some 7), .move (.tmp 15), none, 0⟩] false) (.seq (.ops [⟨(some 16), .move (.tmp 7), none, 0⟩,
    ⟨(some 17), .move (.tmp 1), none, 0⟩,
    ⟨(some 18), .iaddr 1 (.tmp 16) (.tmp 17), none, 0⟩,
    ⟨none, .store 1 (.tmp 18) (.const (.bool true)), none, 0⟩] false) (.seq (.ops [⟨(some 19), .move (.tmp 1), none, 0⟩,
    ⟨(some 20), .bslice 1 1 [(.tmp 19)], none, 0⟩,
    ⟨(some 8), .move (.tmp 20), none, 0⟩] false) (.seq (.block 0 (.loop c100_1)) (.seq (.ops [⟨(some 64), .move (.tmp 7), none, 0⟩,
    ⟨(some 6), .move (.tmp 64), none, 0⟩] false) (.ret))))))
set_option maxRecDepth 100000 in
theorem c100_ok : FunOK Try.prog 100 65 [.tmp 6] c100 := ⟨⟨Try.f100, Try.func100, rfl, by kernel_rfl, rfl, by kernel_rfl⟩⟩
set_option maxRecDepth 100000 in
theorem game_come (P : ProcD) (hP : P.Fits) (hF : P.flows.length ≤ 30) (flow : Nat) (hf : flow < P.flows.length) (hok : ∀ i, i < P.flows.length → P.flowOK i = true) (but : Int) :
    PCall Try.prog 100 [dproc P, .sc (.int .i64 flow), .sc (.int .i64 but)] (dbl P.flows.length fun i => P.viaB but i flow) := by
  refine pcall_intro c100_ok (by simp) (by simp [PureL, Pure, pure_dproc]) ?_ (pure_dbl _ _)
  (apply red_sound; focus (repeat' (first | exact Red.skip | exact Red.ret | exact RedO.nil | exact RedD.nil | exact Red.exit _ | exact Red.loop _ | exact Red.stop _ | apply Red.ops | apply Red.draw | apply Red.seq | apply Red.cond | apply Red.block | apply RedO.cons | apply RedD.cons | exact (0 : Nat))))
  ((conv => whnf); repeat (refine And.intro rfl ?_; (conv => whnf)))
  rw [List.length_map]
  refine ⟨by omega, by omega, by omega, ?_⟩
  rw [Int.toNat_natCast, show List.map D.sc [Value.bool false] = [D.sc (.bool false)] from rfl, rbl_rep]
  ((conv => whnf); repeat (refine And.intro rfl ?_; (conv => whnf)))
  (refine ⟨by omega, (by first | omega | (simp; done) | (simp; omega) | (simp only [ll]; omega)), ?_⟩; ((conv => whnf); repeat (refine And.intro rfl ?_; (conv => whnf))))
  refine ⟨_, rbl_atN flow (by omega) (by omega), ?_⟩
  ((conv => whnf); repeat (refine And.intro rfl ?_; (conv => whnf)))
  refine pwp_for [2, 3, 7] (fun ((s, Z, lo, hi, ver) : (Nat → Bool) × List Int × Nat × Nat × Nat) => [(8, .own 2 ver lo hi)]) (fun (s, Z, lo, hi, ver) => [(1, .vec true 0 1 (rbl P.flows.length s)), (2, .vec true ver 1 (i64s Z))])
    (fun (s, Z, lo, hi, ver) => lo ≤ hi ∧ hi ≤ Z.length ∧ hi - lo + unseen s P.flows.length ≤ P.flows.length ∧ P.ComeI but flow s ((Z.take hi).drop lo)) (fun (s, Z, lo, hi, ver) => (hi - lo) + unseen s P.flows.length) (mark (fun _ => false) flow, [(flow : Int)], 0, 1, 0) ?_
  ((conv => whnf); repeat (refine And.intro rfl ?_; (conv => whnf)))
  have u1 := unseen_lt (s := fun _ => false) (s' := mark (fun _ => false) flow) hf (fun j _ h => by cases h) rfl (mark_self _ _)
  have u2 := unseen_le (fun _ => false) P.flows.length
  refine ⟨⟨by omega, by simp, by omega, ProcD.ComeI.begin hf⟩, by (repeat' (first | exact trivial | refine And.intro rfl ?_)), by rw [rbl_mark (v := flow) (by omega)]; rfl, ?_⟩
  rintro ⟨s, Z, lo, hi, ver⟩ ⟨hlo, hhi, hu, hI⟩
  ((conv => whnf); repeat (refine And.intro rfl ?_; (conv => whnf)))
  (apply red_sound; focus (repeat' (first | exact Red.skip | exact Red.ret | exact RedO.nil | exact RedD.nil | exact Red.exit _ | exact Red.loop _ | exact Red.stop _ | apply Red.ops | apply Red.draw | apply Red.seq | apply Red.cond | apply Red.block | apply RedO.cons | apply RedD.cons | exact (0 : Nat))))
  ((conv => whnf); repeat (refine And.intro rfl ?_; (conv => whnf)))
  (refine ifK_split (fun h1 => ?_) (fun h1 => ?_) <;> (rw [h1]; ((conv => whnf); repeat (refine And.intro rfl ?_; (conv => whnf)))))
  · have h1 : lo < hi := by ((try simp only [oo, reduceCtorEq] at *) <;> omega)
    rw [queue_head h1 hhi] at hI
    have hx := hI.todo (Z.getD lo 0) List.mem_cons_self
    generalize hX : Z.getD lo 0 = x at hx hI
    have hfx := ProcD.flowOK_iff.1 (hok x.toNat (by omega))
    (refine ⟨by omega, (by first | omega | (simp; done) | (simp; omega) | (simp only [ll]; omega)), ?_⟩; ((conv => whnf); repeat (refine And.intro rfl ?_; (conv => whnf))))
    refine ⟨_, intsD_at (l := Z) (k := lo) (by omega) (by omega), ?_⟩
    ((conv => whnf); repeat (refine And.intro rfl ?_; (conv => whnf)))
    rw [hX]
    refine ⟨by omega, _, flow_at P (k := x.toNat) (by omega) (by omega), ?_⟩
    ((conv => whnf); repeat (refine And.intro rfl ?_; (conv => whnf)))
    refine ⟨by omega, by omega, by omega, ?_⟩
    ((conv => whnf); repeat (refine And.intro rfl ?_; (conv => whnf)))
    rw [show lo + (hi - lo) = hi by omega]
    (refine ifK_split (fun h2 => ?_) (fun h2 => ?_) <;> (rw [h2]; ((conv => whnf); repeat (refine And.intro rfl ?_; (conv => whnf)))))
    · have h2 : P.src x.toNat = but := by ((try simp only [oo, reduceCtorEq] at *) <;> omega)
      refine ⟨(s, Z, lo + 1, hi, ver), ⟨by omega, hhi, by omega, hI.stop h2⟩, by dsimp only; omega, ?_⟩
      exact leB_envH (by (repeat' (first | exact trivial | refine And.intro rfl ?_))) rfl
    · have h2 : P.src x.toNat ≠ but := by ((try simp only [oo, reduceCtorEq] at *) <;> omega)
      rw [List.length_map]
      refine pwp_for [2, 3, 7, 9, 38, 39] (fun ((t, Z', lo', hi', ver', k) : (Nat → Bool) × List Int × Nat × Nat × Nat × Nat) => [(8, .own 2 ver' lo' hi'), (40, .sc (.int .i64 k))]) (fun (t, Z', lo', hi', ver', k) => [(1, .vec true 0 1 (rbl P.flows.length t)), (2, .vec true ver' 1 (i64s Z'))])
        (fun (t, Z', lo', hi', ver', k) => k ≤ P.flows.length ∧ lo' ≤ hi' ∧ hi' ≤ Z'.length ∧ hi' - lo' + unseen t P.flows.length < hi - lo + unseen s P.flows.length ∧ P.ComeJ but flow t ((Z'.take hi').drop lo') x.toNat k) (fun (t, Z', lo', hi', ver', k) => P.flows.length - k) (s, Z, lo + 1, hi, ver, 0) ?_
      ((conv => whnf); repeat (refine And.intro rfl ?_; (conv => whnf)))
      refine ⟨⟨by omega, by omega, hhi, by omega, hI.pop h2⟩, by (repeat' (first | exact trivial | refine And.intro rfl ?_)), rfl, ?_⟩
      rintro ⟨t, Z', lo', hi', ver', k⟩ ⟨hk, hlo', hhi', hu', hJ⟩
      ((conv => whnf); repeat (refine And.intro rfl ?_; (conv => whnf)))
      (apply red_sound; focus (repeat' (first | exact Red.skip | exact Red.ret | exact RedO.nil | exact RedD.nil | exact Red.exit _ | exact Red.loop _ | exact Red.stop _ | apply Red.ops | apply Red.draw | apply Red.seq | apply Red.cond | apply Red.block | apply RedO.cons | apply RedD.cons | exact (0 : Nat))))
      ((conv => whnf); repeat (refine And.intro rfl ?_; (conv => whnf)))
      (refine ifK_split (fun h3 => ?_) (fun h3 => ?_) <;> (rw [h3]; ((conv => whnf); repeat (refine And.intro rfl ?_; (conv => whnf)))))
      · have hk' : k < P.flows.length := by ((try simp only [oo, reduceCtorEq] at *) <;> omega)
        refine ⟨by omega, _, flow_at P (k := k) (by omega) hk', ?_⟩
        ((conv => whnf); repeat (refine And.intro rfl ?_; (conv => whnf)))
        have skip : (P.dst k = P.src x.toNat → t k = true) → P.ComeJ but flow t ((Z'.take hi').drop lo') x.toNat (k + 1) := hJ.skip
        (refine ifK_split (fun h4 => ?_) (fun h4 => ?_) <;> (rw [h4]; ((conv => whnf); repeat (refine And.intro rfl ?_; (conv => whnf)))))
        · have h4 : P.dst k = P.src x.toNat := by ((try simp only [oo, reduceCtorEq] at *) <;> omega)
          (refine ⟨by omega, (by first | omega | (simp; done) | (simp; omega) | (simp only [ll]; omega)), ?_⟩; ((conv => whnf); repeat (refine And.intro rfl ?_; (conv => whnf))))
          refine ⟨_, rbl_atN k (by omega) (by omega), ?_⟩
          ((conv => whnf); repeat (refine And.intro rfl ?_; (conv => whnf)))
          cases ht : t k
          · ((conv => whnf); repeat (refine And.intro rfl ?_; (conv => whnf)))
            (refine ⟨by omega, (by first | omega | (simp; done) | (simp; omega) | (simp only [ll]; omega)), ?_⟩; ((conv => whnf); repeat (refine And.intro rfl ?_; (conv => whnf))))
            refine ⟨_, rbl_atN k (by omega) (by omega), ?_⟩
            ((conv => whnf); repeat (refine And.intro rfl ?_; (conv => whnf)))
            refine ⟨(by unfold sliceAppend; simp only [ll]; omega), ?_⟩
            ((conv => whnf); repeat (refine And.intro rfl ?_; (conv => whnf)))
            (refine .inl ⟨by (unfold InR; rw [IntKind.wrap_i64]; omega), ?_⟩; ((conv => whnf); repeat (refine And.intro rfl ?_; (conv => whnf))))
            have u3 := unseen_lt (s := t) (s' := mark t k) hk' (fun j _ h => mark_of h) ht (mark_self _ _)
            have hp := hJ.push hk' h4
            refine ⟨(mark t k, (Z'.take hi').drop lo' ++ [(k : Int)], 0, hi' - lo' + 1, ver' + 1, k + 1), ⟨by omega, by omega, by simp; omega, by omega, by rw [List.drop_zero, List.take_of_length_le (by simp; omega)]; exact hp⟩, by dsimp only; omega, ?_⟩
            (refine leB_close 3 (by simp) rfl ?_ ?_ <;> (repeat' (first | exact trivial | exact rfl | exact DeepM.refl _ | exact DeepML.refl _ | exact DeepMLL.refl _ | refine And.intro ?_ ?_ | (simp [Under, UnderL, UnderLL, -List.map_take, -List.map_drop]; done))))
            · exact deepMLL_eq (rbl_mark (by omega))
            · exact deepMLL_eq i64s_queue
          · ((conv => whnf); repeat (refine And.intro rfl ?_; (conv => whnf)))
            (refine .inl ⟨by (unfold InR; rw [IntKind.wrap_i64]; omega), ?_⟩; ((conv => whnf); repeat (refine And.intro rfl ?_; (conv => whnf))))
            refine ⟨(t, Z', lo', hi', ver', k + 1), ⟨by omega, hlo', hhi', hu', skip fun _ => ht⟩, by dsimp only; omega, ?_⟩
            (refine leB_close 3 (by simp) rfl ?_ ?_ <;> (repeat' (first | exact trivial | exact rfl | exact DeepM.refl _ | exact DeepML.refl _ | exact DeepMLL.refl _ | refine And.intro ?_ ?_ | (simp [Under, UnderL, UnderLL, -List.map_take, -List.map_drop]; done))))
        · have h4 : P.dst k ≠ P.src x.toNat := by ((try simp only [oo, reduceCtorEq] at *) <;> omega)
          ((conv => whnf); repeat (refine And.intro rfl ?_; (conv => whnf)))
          (refine .inl ⟨by (unfold InR; rw [IntKind.wrap_i64]; omega), ?_⟩; ((conv => whnf); repeat (refine And.intro rfl ?_; (conv => whnf))))
          refine ⟨(t, Z', lo', hi', ver', k + 1), ⟨by omega, hlo', hhi', hu', skip fun e => absurd e h4⟩, by dsimp only; omega, ?_⟩
          (refine leB_close 3 (by simp) rfl ?_ ?_ <;> (repeat' (first | exact trivial | exact rfl | exact DeepM.refl _ | exact DeepML.refl _ | exact DeepMLL.refl _ | refine And.intro ?_ ?_ | (simp [Under, UnderL, UnderLL, -List.map_take, -List.map_drop]; done))))
      · have hk' : k = P.flows.length := by have : ¬ k < P.flows.length := by ((try simp only [oo, reduceCtorEq] at *) <;> omega)
                                            omega
        subst hk'
        refine ⟨(t, Z', lo', hi', ver'), ⟨hlo', hhi', by omega, hJ.fin⟩, by dsimp only; omega, ?_⟩
        exact leB_envH (by (repeat' (first | exact trivial | refine And.intro rfl ?_))) rfl
  · have h0 : hi = lo := by ((try simp only [oo, reduceCtorEq] at *) <;> omega)
    subst h0
    rw [List.drop_eq_nil_of_le (by rw [List.length_take]; omega)] at hI
    rw [rbl_congr (g' := fun i => P.viaB but i flow) fun i _ => hI.fin i]
    exact deep_vec rfl
end Go.Proofs.Ytikdngjdhncioaa
