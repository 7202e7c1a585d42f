/-
  Tokens: the reference's walk from flow to flow, over deep values. No statement is proved here.
-/
import Derived.Test.YtikdngjdhncioaaGa1
import Derived.Test.YtikdngjdhncioaaProg
namespace Go.Proofs.Ytikdngjdhncioaa
open Go.RowKit
set_option linter.unusedSimpArgs false
set_option linter.unusedVariables false
def c86_1 : PC := .seq (.seq (.ops [⟨(some 10), .move (.tmp 6), none, 0⟩,
    ⟨(some 11), .faddr 1 (.tmp 2), none, 0⟩,
    ⟨(some 12), .load1 (.tmp 11), none, 2⟩,
    ⟨(some 13), .len (.tmp 12), none, 6⟩,
    ⟨(some 14), .bin .lss (.tmp 10) (.tmp 13), none, 15⟩,
    ⟨(some 15), .move (.tmp 14), none, 31⟩,
    ⟨(some 16), .faddr 1 (.tmp 2), (some (15, true)), 63⟩,
    ⟨(some 17), .load1 (.tmp 16), (some (15, true)), 127⟩,
    ⟨(some 18), .move (.tmp 0), (some (15, true)), 63⟩,
    ⟨(some 19), .iaddr 2 (.tmp 17) (.tmp 18), (some (15, true)), 511⟩,
    ⟨(some 20), .faddr 1 (.tmp 19), (some (15, true)), 1023⟩,
    ⟨(some 21), .load1 (.tmp 20), (some (15, true)), 2047⟩,
    ⟨(some 22), .load1 (.tmp 3), (some (15, true)), 63⟩,
    ⟨(some 23), .bin .neq (.tmp 21) (.tmp 22), (some (15, true)), 8191⟩,
    ⟨(some 24), .pick (.tmp 15) (.tmp 23) (.const (.bool false)), none, 16383⟩] true) (.cond (.tmp 24) (.skip) (.exit 0))) (.seq (.block 1 (.seq (.ops [⟨(some 27), .faddr 1 (.tmp 2), none, 0⟩,
    ⟨(some 28), .load1 (.tmp 27), none, 1⟩,
    ⟨(some 29), .move (.tmp 6), none, 0⟩,
    ⟨(some 30), .iaddr 2 (.tmp 28) (.tmp 29), none, 7⟩,
    ⟨(some 31), .faddr 0 (.tmp 30), none, 15⟩,
    ⟨(some 32), .load1 (.tmp 31), none, 31⟩,
    ⟨(some 33), .faddr 1 (.tmp 2), none, 0⟩,
    ⟨(some 34), .load1 (.tmp 33), none, 64⟩,
    ⟨(some 35), .move (.tmp 0), none, 0⟩,
    ⟨(some 36), .iaddr 2 (.tmp 34) (.tmp 35), none, 448⟩,
    ⟨(some 37), .faddr 1 (.tmp 36), none, 960⟩,
    ⟨(some 38), .load1 (.tmp 37), none, 1984⟩,
    ⟨(some 39), .bin .eql (.tmp 32) (.tmp 38), none, 4095⟩,
    ⟨(some 40), .move (.tmp 39), none, 8191⟩,
    ⟨(some 41), .load1 (.tmp 1), (some (40, true)), 16383⟩,
    ⟨(some 42), .move (.tmp 6), (some (40, true)), 16383⟩,
    ⟨(some 43), .iaddr 1 (.tmp 41) (.tmp 42), (some (40, true)), 65535⟩,
    ⟨(some 44), .load1 (.tmp 43), (some (40, true)), 131071⟩,
    ⟨(some 45), .un .not (.tmp 44), (some (40, true)), 262143⟩,
    ⟨(some 46), .pick (.tmp 40) (.tmp 45) (.const (.bool false)), none, 524287⟩] true) (.cond (.tmp 46) (.ops [⟨(some 47), .load1 (.tmp 4), none, 0⟩,
    ⟨(some 48), .move (.tmp 6), none, 0⟩,
    ⟨(some 49), .callv (.tmp 47) [(.tmp 48)], none, 0⟩] false) (.skip)))) (.ops [⟨(some 25), .move (.tmp 6), none, 0⟩,
    ⟨(some 26), .bin .add (.tmp 25) (.const (.int .i64 1)), none, 0⟩,
    ⟨(some 6), .move (.tmp 26), none, 0⟩] false))
def c86 : PC := .seq (.ops [⟨(some 7), .load1 (.tmp 1), none, 0⟩,
    ⟨(some 8), .move (.tmp 0), none, 0⟩,
    ⟨(some 9), .iaddr 1 (.tmp 7) (.tmp 8), none, 0⟩,
    ⟨none, .store 1 (.tmp 9) (.const (.bool true)), none, 0⟩] false) (.seq (.ops [⟨(some 6), .move (.const (.int .i64 0)), none, 0⟩] false) (.block 0 (.loop c86_1)))
set_option maxRecDepth 100000 in
theorem c86_ok : FunOK Try.prog 86 50 [] c86 := ⟨⟨Try.f86, Try.func86, rfl, by kernel_rfl, rfl, by kernel_rfl⟩⟩
def c71 : PC := .seq (.ops [⟨(some 4), .box (.tmp 0), none, 0⟩,
    ⟨(some 7), .box (.tmp 3), none, 0⟩,
    ⟨(some 8), .move (.const (.bool false)), none, 0⟩] false) (.seq (.ops [⟨(some 11), .faddr 1 (.tmp 4), none, 0⟩,
    ⟨(some 12), .load1 (.tmp 11), none, 0⟩,
    ⟨(some 13), .len (.tmp 12), none, 0⟩,
    ⟨(some 14), .mslice 1 1 [(.bool false)] (.tmp 13) (.tmp 13), none, 0⟩,
    ⟨(some 9), .alloc [(.slice none 0 0)], none, 0⟩,
    ⟨none, .store 1 (.tmp 9) (.tmp 14), none, 0⟩] false) (.seq (.ops [⟨(some 10), .alloc [(.nilFunc)], none, 0⟩] false) (.seq (.ops [⟨(some 15), .mkfn (.func 86) [] [(.tmp 9), (.tmp 4), (.tmp 7), (.tmp 10)], none, 0⟩,
    ⟨none, .store 1 (.tmp 10) (.tmp 15), none, 0⟩] false) (.seq (.ops [⟨(some 16), .load1 (.tmp 10), none, 0⟩,
    ⟨(some 17), .move (.tmp 1), none, 0⟩,
    ⟨(some 18), .callv (.tmp 16) [(.tmp 17)], none, 0⟩] false) (.seq (.ops [⟨(some 19), .move (.tmp 1), none, 0⟩,
    ⟨(some 20), .move (.tmp 2), none, 0⟩,
    ⟨(some 21), .bin .neq (.tmp 19) (.tmp 20), none, 0⟩,
    ⟨(some 22), .move (.tmp 21), none, 0⟩,
    ⟨(some 23), .load1 (.tmp 9), (some (22, true)), 0⟩,
    ⟨(some 24), .move (.tmp 2), (some (22, true)), 0⟩,
    ⟨(some 25), .iaddr 1 (.tmp 23) (.tmp 24), (some (22, true)), 0⟩,
    ⟨(some 26), .load1 (.tmp 25), (some (22, true)), 0⟩,
    ⟨(some 27), .pick (.tmp 22) (.tmp 26) (.const (.bool false)), none, 0⟩,
    ⟨(some 8), .move (.tmp 27), none, 0⟩] false) (.ret))))))
set_option maxRecDepth 100000 in
theorem c71_ok : FunOK Try.prog 71 28 [.tmp 8] c71 := ⟨⟨Try.f71, Try.func71, rfl, by kernel_rfl, rfl, by kernel_rfl⟩⟩
def lookG : D := .fn (.func 86) [] [.loc 3 0, .loc 0 0, .loc 1 0, .loc 4 0]
def objsG (P : ProcD) (but : Int) (s : Nat → Bool) : List AObj := [.row true P.cells, .row true [.sc (.int .i64 but)], .vec true 0 1 (rbl P.flows.length s), .row true [.own 2 0 0 P.flows.length], .row true [lookG]]
@[simp] theorem under_lookG {m : Nat} : Under m lookG ↔ 3 < m ∧ 0 < m ∧ 1 < m ∧ 4 < m := by simp [lookG, Under, UnderL]
set_option maxRecDepth 100000 in
theorem ref_Gets1 (P : ProcD) (hP : P.Fits) (hF : P.flows.length ≤ 30) (but : Int) : ∀ (n : Nat) (s : Nat → Bool) (a : Nat), unseen s P.flows.length ≤ n → a < P.flows.length → s a = false →
    ACall Try.prog 86 [.sc (.int .i64 a), .loc 3 0, .loc 0 0, .loc 1 0, .loc 4 0] (objsG P but s) (.tup []) (objsG P but (P.dfs but n s a)) := by
  intro n
  induction n with
  | zero =>
    intro s a h ha hs
    have := unseen_lt (s := s) (s' := mark s a) ha (fun j _ h => mark_of h) hs (mark_self _ _)
    omega
  | succ n ih =>
    intro s a h ha hs
    have h1 := unseen_lt (s := s) (s' := mark s a) ha (fun j _ h => mark_of h) hs (mark_self _ _)
    refine acall_intro c86_ok (by simp) (by simp [objsG]) ?_ (by simp [Under, UnderL]) (by simp [objsG, UnderO, AObj.under, UnderL, Under])
    unfold objsG
    (apply red_sound; focus (repeat' (first | exact Red.skip | exact Red.ret | exact RedO.nil | exact RedD.nil | exact Red.exit _ | exact Red.loop _ | exact Red.stop _ | apply Red.ops | apply Red.draw | apply Red.seq | apply Red.cond | apply Red.block | apply RedO.cons | apply RedD.cons | exact (0 : Nat))))
    ((conv => whnf); repeat (refine And.intro rfl ?_; (conv => whnf)))
    (refine ⟨by omega, (by first | omega | (simp; done) | (simp; omega) | (simp only [ll]; omega)), ?_⟩; ((conv => whnf); repeat (refine And.intro rfl ?_; (conv => whnf))))
    refine ⟨_, rbl_atN a (by omega) (by omega), ?_⟩
    ((conv => whnf); repeat (refine And.intro rfl ?_; (conv => whnf)))
    have fin : ∀ {u : Nat → Bool}, u = P.dfs but (n + 1) s a → [AObj.row true P.cells, AObj.row true [D.sc (Value.int IntKind.i64 but)], AObj.vec true 0 1 (rbl P.flows.length u), AObj.row true [D.own 2 0 0 P.flows.length], AObj.row true [lookG]] = [AObj.row true P.cells, AObj.row true [D.sc (Value.int IntKind.i64 but)], AObj.vec true 0 1 (rbl P.flows.length (P.dfs but (n + 1) s a)), AObj.row true [D.own 2 0 0 P.flows.length], AObj.row true [lookG]] := fun h => by rw [h]
    refine pwp_for [0, 1, 2, 3, 4] (fun k : Nat => [(6, .sc (.int .i64 k))]) (fun k => [(2, .vec true 0 1 (rbl P.flows.length (P.kidsL (P.dfs but n) a k (mark s a))))]) (fun k => k ≤ P.flows.length ∧ (P.dst a = but → k = 0)) (fun k => P.flows.length - k) 0 ?_
    ((conv => whnf); repeat (refine And.intro rfl ?_; (conv => whnf)))
    refine ⟨⟨by omega, fun _ => rfl⟩, by (repeat' (first | exact trivial | refine And.intro rfl ?_)), by rw [rbl_mark (v := a) (by omega)]; rfl, ?_⟩
    rintro k ⟨hk, hk0⟩
    ((conv => whnf); repeat (refine And.intro rfl ?_; (conv => whnf)))
    (apply red_sound; focus (repeat' (first | exact Red.skip | exact Red.ret | exact RedO.nil | exact RedD.nil | exact Red.exit _ | exact Red.loop _ | exact Red.stop _ | apply Red.ops | apply Red.draw | apply Red.seq | apply Red.cond | apply Red.block | apply RedO.cons | apply RedD.cons | exact (0 : Nat))))
    ((conv => whnf); repeat (refine And.intro rfl ?_; (conv => whnf)))
    rw [List.length_map]
    (refine ifK_split (fun h2 => ?_) (fun h2 => ?_) <;> (rw [h2]; ((conv => whnf); repeat (refine And.intro rfl ?_; (conv => whnf)))))
    · have hk' : k < P.flows.length := by ((try simp only [oo, reduceCtorEq] at *) <;> omega)
      refine ⟨by omega, _, flow_at P (k := a) (by omega) ha, ?_⟩
      ((conv => whnf); repeat (refine And.intro rfl ?_; (conv => whnf)))
      cases hb : (P.dst a != but)
      · ((conv => whnf); repeat (refine And.intro rfl ?_; (conv => whnf)))
        have hb : P.dst a = but := by ((try simp only [oo, reduceCtorEq] at *) <;> omega)
        have := hk0 hb
        subst this
        refine ⟨fin ?_, by simp⟩
        rw [ProcD.dfs, if_pos hb]
        rfl
      have hb : P.dst a ≠ but := by ((try simp only [oo, reduceCtorEq] at *) <;> omega)
      obtain ⟨hJ, hU⟩ := ProcD.kidsL_J (s := s) ha hb (by omega) (fun t k g1 g2 g3 => ProcD.dfs_ok n t k g1 g2 g3) k hk
      ((conv => whnf); repeat (refine And.intro rfl ?_; (conv => whnf)))
      refine ⟨by omega, _, flow_at P (k := k) (by omega) hk', ?_⟩
      ((conv => whnf); repeat (refine And.intro rfl ?_; (conv => whnf)))
      refine ⟨by omega, _, flow_at P (k := a) (by omega) ha, ?_⟩
      ((conv => whnf); repeat (refine And.intro rfl ?_; (conv => whnf)))
      have eK : P.kidsL (P.dfs but n) a (k + 1) (mark s a) = if P.src k = P.dst a ∧ P.kidsL (P.dfs but n) a k (mark s a) k = false then P.dfs but n (P.kidsL (P.dfs but n) a k (mark s a)) k else P.kidsL (P.dfs but n) a k (mark s a) := rfl
      generalize P.kidsL (P.dfs but n) a k (mark s a) = t at hJ hU eK
      have no : ¬ (P.src k = P.dst a ∧ t k = false) → rbl P.flows.length t = rbl P.flows.length (P.kidsL (P.dfs but n) a (k + 1) (mark s a)) := fun h => by rw [eK, if_neg h]
      have yes : P.src k = P.dst a → t k = false → rbl P.flows.length (P.dfs but n t k) = rbl P.flows.length (P.kidsL (P.dfs but n) a (k + 1) (mark s a)) := fun h1 h2 => by rw [eK, if_pos ⟨h1, h2⟩]
      (refine ifK_split (fun h3 => ?_) (fun h3 => ?_) <;> (rw [h3]; ((conv => whnf); repeat (refine And.intro rfl ?_; (conv => whnf)))))
      · have h3 : P.src k = P.dst a := by ((try simp only [oo, reduceCtorEq] at *) <;> omega)
        (refine ⟨by omega, (by first | omega | (simp; done) | (simp; omega) | (simp only [ll]; omega)), ?_⟩; ((conv => whnf); repeat (refine And.intro rfl ?_; (conv => whnf))))
        refine ⟨_, rbl_atN k (by omega) (by omega), ?_⟩
        ((conv => whnf); repeat (refine And.intro rfl ?_; (conv => whnf)))
        cases ht : t k
        · ((conv => whnf); repeat (refine And.intro rfl ?_; (conv => whnf)))
          (refine .inr (.inr (.inl ⟨rfl, _, _, (ih t k hU hk' ht), ?_⟩)); ((conv => whnf); repeat (refine And.intro rfl ?_; (conv => whnf))))
          (refine .inl ⟨by (unfold InR; rw [IntKind.wrap_i64]; omega), ?_⟩; ((conv => whnf); repeat (refine And.intro rfl ?_; (conv => whnf))))
          refine ⟨k + 1, ⟨by omega, fun e => absurd e hb⟩, by dsimp only; omega, ?_⟩
          exact leB_envH (by (repeat' (first | exact trivial | refine And.intro rfl ?_))) (by unfold objsG; rw [yes h3 ht]; rfl)
        · ((conv => whnf); repeat (refine And.intro rfl ?_; (conv => whnf)))
          (refine .inl ⟨by (unfold InR; rw [IntKind.wrap_i64]; omega), ?_⟩; ((conv => whnf); repeat (refine And.intro rfl ?_; (conv => whnf))))
          refine ⟨k + 1, ⟨by omega, fun e => absurd e hb⟩, by dsimp only; omega, ?_⟩
          rw [no (by rw [ht]; simp)]
          exact leB_envH (by (repeat' (first | exact trivial | refine And.intro rfl ?_))) rfl
      · have h3 : P.src k ≠ P.dst a := by ((try simp only [oo, reduceCtorEq] at *) <;> omega)
        ((conv => whnf); repeat (refine And.intro rfl ?_; (conv => whnf)))
        (refine .inl ⟨by (unfold InR; rw [IntKind.wrap_i64]; omega), ?_⟩; ((conv => whnf); repeat (refine And.intro rfl ?_; (conv => whnf))))
        refine ⟨k + 1, ⟨by omega, fun e => absurd e hb⟩, by dsimp only; omega, ?_⟩
        rw [no fun h => h3 h.1]
        exact leB_envH (by (repeat' (first | exact trivial | refine And.intro rfl ?_))) rfl
    · have hk' : k = P.flows.length := by have : ¬ k < P.flows.length := by ((try simp only [oo, reduceCtorEq] at *) <;> omega)
                                          omega
      subst hk'
      refine ⟨fin ?_, by simp⟩
      rw [ProcD.dfs, if_neg fun e => by have := hk0 e; omega]
set_option maxRecDepth 100000 in
theorem ref_Gets (P : ProcD) (hP : P.Fits) (hF : P.flows.length ≤ 30) (a b : Nat) (ha : a < P.flows.length) (hb : b < P.flows.length) (but : Int) :
    PCall Try.prog 71 [dproc P, .sc (.int .i64 a), .sc (.int .i64 b), .sc (.int .i64 but)] (.sc (.bool ((a : Int) != b && P.viaB but a b))) := by
  refine pcall_intro c71_ok (by simp) (by simp [PureL, Pure, pure_dproc]) ?_ (by simp [Pure])
  (apply red_sound; focus (repeat' (first | exact Red.skip | exact Red.ret | exact RedO.nil | exact RedD.nil | exact Red.exit _ | exact Red.loop _ | exact Red.stop _ | apply Red.ops | apply Red.draw | apply Red.seq | apply Red.cond | apply Red.block | apply RedO.cons | apply RedD.cons | exact (0 : Nat))))
  ((conv => whnf); repeat (refine And.intro rfl ?_; (conv => whnf)))
  rw [List.length_map]
  refine ⟨by omega, by omega, by omega, ?_⟩
  rw [Int.toNat_natCast, show List.map D.sc [Value.bool false] = [D.sc (.bool false)] from rfl, rbl_rep]
  ((conv => whnf); repeat (refine And.intro rfl ?_; (conv => whnf)))
  (refine .inr (.inr (.inl ⟨rfl, _, _, (ref_Gets1 P hP hF but P.flows.length (fun _ => false) a (unseen_le _ _) ha rfl), ?_⟩)); ((conv => whnf); repeat (refine And.intro rfl ?_; (conv => whnf))))
  have hd := (ProcD.dfs_ok (P := P) (but := but) P.flows.length (fun _ => false) a (unseen_le _ _) ha rfl).all b
  cases hab : ((a : Int) != b)
  · ((conv => whnf); repeat (refine And.intro rfl ?_; (conv => whnf)))
    exact .refl _
  · ((conv => whnf); repeat (refine And.intro rfl ?_; (conv => whnf)))
    (refine ⟨by omega, (by first | omega | (simp; done) | (simp; omega) | (simp only [ll]; omega)), ?_⟩; ((conv => whnf); repeat (refine And.intro rfl ?_; (conv => whnf))))
    refine ⟨_, rbl_atN b (by omega) (by omega), ?_⟩
    ((conv => whnf); repeat (refine And.intro rfl ?_; (conv => whnf)))
    rw [hd]
    exact .refl _
end Go.Proofs.Ytikdngjdhncioaa
